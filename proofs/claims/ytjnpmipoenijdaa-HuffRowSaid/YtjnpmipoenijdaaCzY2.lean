/- The engine, part Y2: one order stands for every order. No condition. -/
import Derived.Test.YtjnpmipoenijdaaCzY
namespace Cz
open Go Go.RowKit
set_option linter.unusedSimpArgs false
set_option linter.unusedVariables false

section
variable {P : Program} {N : Nat} {W0 : World} {ops : Array Oper} {aos : List AO} {pre : List (List Nat)} {vs : List SV} {l : List Blk} {ρ : Nms}

def only (qs : List Nat) (vs : List SV) : List SV := vs.mapIdx fun i x => if i ∈ qs then x else .any
theorem nth_only {qs : List Nat} {q : Nat} (hq : q ∈ qs) : nth (only qs vs) q = nth vs q := by
  simp only [nth_eq, only, List.getD_eq_getElem?_getD, List.getElem?_mapIdx]
  cases vs[q]? <;> simp [hq]
theorem only_env {qs : List Nat} {t : Array Value} (hl : vs.length ≤ t.size) (h : ∀ q ∈ qs, den ρ (nth vs q) (t.getD q undef)) : EnvOk ρ (only qs vs) t := by
  intro q x hx
  simp only [only, List.getElem?_mapIdx, Option.map_eq_some_iff] at hx
  obtain ⟨y, hy, rfl⟩ := hx
  have hlt : q < vs.length := (List.getElem?_eq_some_iff.1 hy).1
  refine ⟨t[q], Array.getElem?_eq_getElem (by omega), ?_⟩
  by_cases hq : q ∈ qs
  · rw [if_pos hq]
    have := h q hq
    rw [nth_eq, List.getD_eq_getElem?_getD, hy] at this
    simpa [show q < t.size by omega] using this
  · rw [if_neg hq]; simp only [den]

theorem env_nth {t : Array Value} (h : EnvOk ρ vs t) (q : Nat) : den ρ (nth vs q) (t.getD q undef) := by
  rw [nth_eq, List.getD_eq_getElem?_getD]
  cases hg : vs[q]? with
  | none => simp [den]
  | some y =>
    obtain ⟨v, e, d⟩ := h q y hg
    simpa [e] using d

/-- What an operation that is settled comes to, whenever it goes. -/
def Fact (P : Program) (N : Nat) (W0 : World) (ops : Array Oper) (o : AO) (oo : Oper) (vs : List SV) (l : List Blk) (sv : SV) : Prop :=
  ∀ (ρ : Nms) (W : World) (a : Act), Rel P N W0 ρ l W → vs.length ≤ a.tmps.size → (∀ q ∈ o.rd, den ρ (nth vs q) (a.tmps.getD q undef)) →
    if Region.wanted oo (yielded ops a.tmps) then OpRuns P oo a W (fun v W' => ∃ ρ', Le l.length ρ ρ' ∧ Rel P N W0 ρ' l W' ∧ den ρ' sv v) else sv = .un

def Says (o : AO) (vs : List SV) (t : Array Value) (ρ : Nms) : Prop := ∀ q ∈ o.rd, den ρ (nth vs q) (t.getD q undef)
def Wants (ops : Array Oper) (o : AO) (oo : Oper) (vs : List SV) (b : Bool) : Prop := ∀ (t : Array Value) (ρ : Nms), Says o vs t ρ → Region.wanted oo (yielded ops t) = b

theorem conv_op {o : AO} {oo : Oper} (hc : convAO P ops oo = some o) : convOp P oo = some o.op ∧ o.dst = oo.dst := by
  simp only [convAO, Option.bind_eq_bind, Option.bind_eq_some_iff] at hc
  obtain ⟨op, hop, hc⟩ := hc
  split at hc
  · simp only [Option.pure_def, Option.some.injEq] at hc; subst hc; exact ⟨hop, rfl⟩
  · simp only [Option.bind_eq_some_iff, Option.pure_def, Option.some.injEq] at hc
    obtain ⟨_, _, _, _, rfl⟩ := hc
    exact ⟨hop, rfl⟩

theorem yielded_getD {tmps : Array Value} {j : Nat} {x : Oper} {d : Nat} (hx : ops[j]? = some x) (hd : x.dst = some d) : yielded ops tmps j = boolOf (tmps.getD d undef) := by
  cases hv : tmps[d]? with
  | none => simp [yielded, hx, hd, hv, Array.getD_eq_getD_getElem?, undef, boolOf]
  | some v => rw [yielded_eq hx hd hv, Array.getD_eq_getD_getElem?, hv]; rfl

theorem conv_g {o : AO} {oo : Oper} (hc : convAO P ops oo = some o) : match o.g with
    | none => ∀ t : Array Value, Region.wanted oo (yielded ops t) = true
    | some (s, want) => ∀ t : Array Value, Region.wanted oo (yielded ops t) = (boolOf (t.getD s undef) == some want) := by
  simp only [convAO, Option.bind_eq_bind, Option.bind_eq_some_iff] at hc
  obtain ⟨op, hop, hc⟩ := hc
  split at hc
  · rename_i hg
    simp only [Option.pure_def, Option.some.injEq] at hc; subst hc
    intro t; simp [Region.wanted, hg]
  · rename_i jj want hg
    simp only [Option.bind_eq_some_iff, Option.pure_def, Option.some.injEq] at hc
    obtain ⟨x, hx, d, hd, rfl⟩ := hc
    intro t
    simp only [Region.wanted, hg, yielded_getD hx hd]

theorem wants_none {o : AO} {oo : Oper} (hc : convAO P ops oo = some o) (hg : o.g = none) : Wants ops o oo vs true := by
  have := conv_g hc
  rw [hg] at this
  exact fun t ρ _ => this t
theorem wants_some {o : AO} {oo : Oper} (hc : convAO P ops oo = some o) {s : Nat} {want b : Bool} (hg : o.g = some (s, want)) (hs : nth vs s = ofB b) : Wants ops o oo vs (b == want) := by
  have h := conv_g hc
  rw [hg] at h
  intro t ρ hd
  have := hd s (by simp [AO.rd, hg])
  rw [hs] at this
  rw [h t]
  cases b <;> simp only [ofB, den] at this <;> rw [this] <;> cases want <;> rfl
theorem wants_un {o : AO} {oo : Oper} (hc : convAO P ops oo = some o) {s : Nat} {want : Bool} (hg : o.g = some (s, want)) (hs : nth vs s = .un) : Wants ops o oo vs false := by
  have h := conv_g hc
  rw [hg] at h
  intro t ρ hd
  have := hd s (by simp [AO.rd, hg])
  rw [hs] at this
  simp only [den] at this
  rw [h t, this]
  rfl

theorem rd_sub (o : AO) : ∀ q ∈ o.op.rd, q ∈ o.rd := by
  intro q hq
  unfold AO.rd
  split
  · exact hq
  · exact List.mem_cons_of_mem _ hq

/-- An operation run in slots of which only those are known that it reads. -/
theorem op_runs {o : AO} {oo : Oper} {W : World} {a : Act} {K : SV → List Blk → Prop} (hc : convAO P ops oo = some o) (h : vop (S0 P) o.op vs l K) (hR : Rel P N W0 ρ l W) (hl : vs.length ≤ a.tmps.size)
    (hd : Says o vs a.tmps ρ) : OpRuns P oo a W (OpPost P N W0 ρ l K) := by
  have e : vop (S0 P) o.op vs l K = vop (S0 P) o.op (only o.rd vs) l K := vop_congr fun q hq => (nth_only (rd_sub o q hq)).symm
  rw [e] at h
  exact op_sound (conv_op hc).1 N W0 W ρ l _ a K h hR (only_env hl hd)

theorem fact_run {o : AO} {oo : Oper} {sv : SV} (hc : convAO P ops oo = some o) (hw : Wants ops o oo vs true) (h : ∀ J : SV → List Blk → Prop, J sv l → vop (S0 P) o.op vs l J) : Fact P N W0 ops o oo vs l sv := by
  intro ρ W a hR hl hd
  rw [hw _ _ hd, if_pos rfl]
  refine (op_runs hc (h (fun v l' => v = sv ∧ l' = l) ⟨rfl, rfl⟩) hR hl hd).mono ?_
  rintro v W' ⟨ρ', x, l', ⟨rfl, rfl⟩, h1, _, h2, h3⟩
  exact ⟨ρ', h1, h2, h3⟩
theorem fact_skip {o : AO} {oo : Oper} (hw : Wants ops o oo vs false) : Fact P N W0 ops o oo vs l .un := by
  intro ρ W a hR hl hd
  rw [hw _ _ hd]
  simp
theorem Fact.congr {o : AO} {oo : Oper} {sv : SV} {vs' : List SV} (h : Fact P N W0 ops o oo vs l sv) (hl : vs'.length = vs.length) (hq : ∀ q ∈ o.rd, Sub (nth vs' q) (nth vs q)) : Fact P N W0 ops o oo vs' l sv :=
  fun ρ W a hR hla hd => h ρ W a hR (by omega) fun q hm => (hq q hm).of ρ _ (hd q hm)

theorem put_len {q : Nat} {x : SV} : (put vs q x).length = vs.length := by rw [put_eq]; simp
theorem putO_len {d : Option Nat} {x : SV} : (putO vs d x).length = vs.length := by cases d <;> simp [putO, put_len]
theorem nth_put_ne {q r : Nat} {x : SV} (h : r ≠ q) : nth (put vs q x) r = nth vs r := by
  rw [nth_eq, nth_eq, put_eq, List.getD_eq_getElem?_getD, List.getD_eq_getElem?_getD, List.getElem?_set_ne (Ne.symm h)]
theorem nth_put_same {q : Nat} {x : SV} : nth (put vs q x) q = x ∨ nth (put vs q x) q = .any := by
  rw [nth_eq, put_eq, List.getD_eq_getElem?_getD]
  by_cases h : q < vs.length
  · rw [List.getElem?_set_self h]; exact .inl rfl
  · right
    rw [List.getElem?_eq_none (by simp; omega)]; rfl
theorem nth_put_self {q : Nat} {x : SV} (h : nth vs q ≠ .any) : nth (put vs q x) q = x := by
  rw [nth_eq, put_eq, List.getD_eq_getElem?_getD]
  have h' : q < vs.length := by
    rcases Nat.lt_or_ge q vs.length with h1 | h1
    · exact h1
    · rw [nth_eq, List.getD_eq_getElem?_getD, List.getElem?_eq_none h1] at h; exact absurd rfl h
  rw [List.getElem?_set_self h']; rfl
theorem nth_putO_ne {d : Option Nat} {r : Nat} {x : SV} (h : d ≠ some r) : nth (putO vs d x) r = nth vs r := by
  cases d with
  | none => rfl
  | some q => exact nth_put_ne fun e => h (by rw [e])
theorem sub_putO {d : Option Nat} {x : SV} : ∀ q, d = some q → Sub x (nth (putO vs d x) q) := by
  rintro q rfl
  simp only [putO]
  rcases nth_put_same (vs := vs) (q := q) (x := x) with h | h <;> rw [h]
  · exact .rfl
  · exact sub_any

def Eqv (x y : SV) : Prop := Sub x y ∧ Sub y x
theorem Eqv.rfl' {x : SV} : Eqv x x := ⟨.rfl, .rfl⟩

/-- The condition of the operation that goes first. -/
theorem head_cases {R : List SV → List Blk → Prop} {i : Nat} {fl : List Nat} {r : List (Nat × List Nat)} {o : AO} {oo : Oper} (hc : convAO P ops oo = some o) (ho : geta aos i = some o)
    (h : vdr (S0 P) aos R ((i, fl) :: r) vs l) : ∃ vs1, vs1.length = vs.length ∧ (∀ q, Eqv (nth vs q) (nth vs1 q)) ∧
      ((Wants ops o oo vs1 true ∧ vop (S0 P) o.op vs1 l fun v l' => stab (S0 P) aos fl (putO vs1 o.dst v) l' fun _ => vdr (S0 P) aos R r (putO vs1 o.dst v) l') ∨
       (Wants ops o oo vs1 false ∧ stab (S0 P) aos fl (putO vs1 o.dst .un) l fun _ => vdr (S0 P) aos R r (putO vs1 o.dst .un) l)) := by
  simp only [vdr, ho] at h
  cases hg : o.g with
  | none =>
    rw [hg] at h
    exact ⟨vs, rfl, fun _ => .rfl', .inl ⟨wants_none hc hg, h⟩⟩
  | some sw =>
    obtain ⟨s, want⟩ := sw
    rw [hg] at h
    simp only at h
    have two : ∀ b : Bool, (nth vs s = ofB b ∨ nth vs s = .b b) →
        (b = true → if want then vop (S0 P) o.op (put vs s .tt) l (fun v l' => stab (S0 P) aos fl (putO (put vs s .tt) o.dst v) l' fun _ => vdr (S0 P) aos R r (putO (put vs s .tt) o.dst v) l')
            else stab (S0 P) aos fl (putO (put vs s .tt) o.dst .un) l fun _ => vdr (S0 P) aos R r (putO (put vs s .tt) o.dst .un) l) →
        (b = false → if want then stab (S0 P) aos fl (putO (put vs s .ff) o.dst .un) l (fun _ => vdr (S0 P) aos R r (putO (put vs s .ff) o.dst .un) l)
            else vop (S0 P) o.op (put vs s .ff) l fun v l' => stab (S0 P) aos fl (putO (put vs s .ff) o.dst v) l' fun _ => vdr (S0 P) aos R r (putO (put vs s .ff) o.dst v) l') →
        ∃ vs1, vs1.length = vs.length ∧ (∀ q, Eqv (nth vs q) (nth vs1 q)) ∧
          ((Wants ops o oo vs1 true ∧ vop (S0 P) o.op vs1 l fun v l' => stab (S0 P) aos fl (putO vs1 o.dst v) l' fun _ => vdr (S0 P) aos R r (putO vs1 o.dst v) l') ∨
           (Wants ops o oo vs1 false ∧ stab (S0 P) aos fl (putO vs1 o.dst .un) l fun _ => vdr (S0 P) aos R r (putO vs1 o.dst .un) l)) := by
      intro b hb h1 h2
      have hne : nth vs s ≠ .any := by
        rcases hb with hb | hb <;> rw [hb] <;> cases b <;> simp [ofB]
      have hs : nth (put vs s (ofB b)) s = ofB b := nth_put_self hne
      have he : ∀ q, Eqv (nth vs q) (nth (put vs s (ofB b)) q) := by
        intro q
        by_cases hq : q = s
        · subst hq
          rw [hs]
          rcases hb with hb | hb <;> rw [hb]
          · exact .rfl'
          · cases b
            · exact ⟨⟨fun _ _ d => by simpa [den, ofB] using d⟩, ⟨fun _ _ d => by simpa [den, ofB] using d⟩⟩
            · exact ⟨⟨fun _ _ d => by simpa [den, ofB] using d⟩, ⟨fun _ _ d => by simpa [den, ofB] using d⟩⟩
        · rw [nth_put_ne hq]; exact .rfl'
      have hw := wants_some (vs := put vs s (ofB b)) hc hg hs
      refine ⟨put vs s (ofB b), put_len, he, ?_⟩
      cases b <;> cases want
      · exact .inl ⟨hw, by simpa [ofB] using h2 rfl⟩
      · exact .inr ⟨hw, by simpa [ofB] using h2 rfl⟩
      · exact .inr ⟨hw, by simpa [ofB] using h1 rfl⟩
      · exact .inl ⟨hw, by simpa [ofB] using h1 rfl⟩
    split at h
    · rename_i hs
      exact ⟨vs, rfl, fun _ => .rfl', .inr ⟨wants_un hc hg hs, h⟩⟩
    · cases hx : nth vs s <;> rw [hx] at h <;> simp only [brv] at h
      · exact two true (.inl hx) (fun _ => h) (fun e => by cases e)
      · exact two false (.inl hx) (fun e => by cases e) (fun _ => h)
      · rename_i b
        exact two b (.inr hx) h.1 h.2

theorem stab_spec {X : Unit → Prop} : ∀ (fl : List Nat), (∀ j ∈ fl, ∀ o, geta aos j = some o → o.op.reads = true) → stab (S0 P) aos fl vs l X →
    X () ∧ ∀ j ∈ fl, ∀ o, geta aos j = some o → ∀ oo, convAO P ops oo = some o → ∃ sv, Fact P N W0 ops o oo vs l sv ∧ ∀ d, o.dst = some d → Sub sv (nth vs d)
  | [], _, h => ⟨h, fun j hj => by cases hj⟩
  | j :: fl, hf, h => by
    simp only [stab] at h
    cases ho : geta aos j with
    | none => rw [ho] at h; exact h.elim
    | some o =>
      rw [ho] at h
      simp only at h
      have hrd := hf j (by simp) o ho
      have main : stab (S0 P) aos fl vs l X ∧ ∀ oo, convAO P ops oo = some o → ∃ sv, Fact P N W0 ops o oo vs l sv ∧ ∀ d, o.dst = some d → Sub sv (nth vs d) := by
        unfold chkF at h
        have isub : ∀ {v : SV}, isO vs o.dst v → ∀ d, o.dst = some d → Sub v (nth vs d) := by
          intro v hv d hd
          rw [hd] at hv
          simp only [isO] at hv
          rw [hv]; exact .rfl
        split at h
        · rename_i hg
          obtain ⟨v, ⟨h1, h2⟩, h3⟩ := reads_det hrd h
          exact ⟨h2, fun oo hc => ⟨v, fact_run hc (wants_none hc hg) h3, isub h1⟩⟩
        · rename_i s want hg
          split at h
          · rename_i hs
            obtain ⟨v, ⟨h1, h2⟩, h3⟩ := reads_det hrd h
            exact ⟨h2, fun oo hc => ⟨v, fact_run hc (wants_some (b := true) hc hg hs) h3, isub h1⟩⟩
          · rename_i hs
            obtain ⟨v, ⟨h1, h2⟩, h3⟩ := reads_det hrd h
            exact ⟨h2, fun oo hc => ⟨v, fact_run hc (wants_some (b := false) hc hg hs) h3, isub h1⟩⟩
          · rename_i hs
            exact ⟨h.2, fun oo hc => ⟨.un, fact_skip (wants_some (b := true) hc hg hs), isub h.1⟩⟩
          · rename_i hs
            exact ⟨h.2, fun oo hc => ⟨.un, fact_skip (wants_some (b := false) hc hg hs), isub h.1⟩⟩
          · rename_i hs
            exact ⟨h.2, fun oo hc => ⟨.un, fact_skip (wants_un hc hg hs), isub h.1⟩⟩
          · exact h.elim
      obtain ⟨h1, h2⟩ := stab_spec (X := X) fl (fun k hk => hf k (List.mem_cons_of_mem _ hk)) main.1
      refine ⟨h1, fun k hk p hp => ?_⟩
      rcases List.mem_cons.1 hk with rfl | hk
      · rw [ho] at hp; cases hp; exact main.2
      · exact h2 k hk p hp

theorem okFrom_notin {cl : List Nat} : ∀ (r : List (Nat × List Nat)) (prev : List Nat), okFrom aos cl prev r = true → (∀ k ∈ r, k.1 ∉ prev) ∧ (r.map (·.1)).Nodup
  | [], _, _ => ⟨fun k hk => (by cases hk), by simp⟩
  | (i, fl) :: r, prev, h => by
    simp only [okFrom, Bool.and_eq_true] at h
    obtain ⟨h1, h2⟩ := h
    obtain ⟨h3, h4⟩ := okFrom_notin r _ h2
    have hi : i ∉ prev := by
      split at h1
      · cases h1
      · simp only [Bool.and_eq_true, Bool.not_eq_true'] at h1
        intro hm
        have := hasN_iff.2 hm
        rw [h1.1.1] at this; cases this
    refine ⟨fun k hk => ?_, ?_⟩
    · rcases List.mem_cons.1 hk with rfl | hk
      · exact hi
      · exact fun hm => h3 k hk (List.mem_cons_of_mem _ hm)
    · simp only [List.map_cons, List.nodup_cons]
      refine ⟨fun hm => ?_, h4⟩
      obtain ⟨k, hk, e⟩ := List.mem_map.1 hm
      exact h3 k hk (by rw [e]; simp)

structure DI (P : Program) (N : Nat) (W0 : World) (ops : Array Oper) (aos : List AO) (pre : List (List Nat)) (prev pend : List Nat) (rem : List (Nat × List Nat)) (L : Array Bool)
    (ρ : Nms) (vs : List SV) (l : List Blk) (a : Act) (W : World) : Prop where
  rel : Rel P N W0 ρ l W
  len : vs.length ≤ a.tmps.size
  env : ∀ q, (∀ i ∈ pend, ∀ o, geta aos i = some o → o.dst ≠ some q) → den ρ (nth vs q) (a.tmps.getD q undef)
  ok : okFrom aos (cloGo pre []) prev rem = true
  sub : ∀ i ∈ pend, i ∈ prev
  nd : pend.Nodup
  size : L.size = ops.size
  bound : ∀ i, (i ∈ pend ∨ i ∈ rem.map (·.1)) → i < ops.size
  un : ∀ i, i < ops.size → (L.getD i false = true ↔ ¬ (i ∈ pend ∨ i ∈ rem.map (·.1)))
  closed : ∀ j, L.getD j false = true → ∀ p, pre[j]? = some p → ∀ q ∈ p, L.getD q false = true
  pair : ∀ i ∈ pend, ∀ j ∈ pend, ∀ o p, geta aos i = some o → geta aos j = some p → ∀ d, p.dst = some d → (d ∈ o.rd → i ≠ j ∧ bef (cloGo pre []) j i = true) ∧ (o.dst = some d → i = j)
  fact : ∀ i ∈ pend, ∃ o oo sv, geta aos i = some o ∧ ops[i]? = some oo ∧ convAO P ops oo = some o ∧ (∀ d, o.dst = some d → Sub sv (nth vs d)) ∧ Fact P N W0 ops o oo vs l sv ∧
    (o.op.pure = true → ∀ l2, Fact P N W0 ops o oo vs l2 sv)

theorem mapM_at {α β : Type} {f : α → Option β} : ∀ {l : List α} {m : List β}, l.mapM f = some m → ∀ (i : Nat) (y : β), m[i]? = some y → ∃ x, l[i]? = some x ∧ f x = some y
  | [], m, h, i, y, hy => by simp at h; subst h; simp at hy
  | x :: l, m, h, i, y, hy => by
    simp only [List.mapM_cons, Option.bind_eq_bind, Option.bind_eq_some_iff, Option.pure_def, Option.some.injEq] at h
    obtain ⟨z, hz, ys, hys, rfl⟩ := h
    cases i with
    | zero => simp only [List.getElem?_cons_zero, Option.some.injEq] at hy; subst hy; exact ⟨x, by simp, hz⟩
    | succ i => simp only [List.getElem?_cons_succ] at hy ⊢; exact mapM_at hys i y hy

/-- What may go: all that is ahead of it is done. -/
theorem ready_spec {L : Array Bool} {i : Nat} (hpre : preds ops.toList = pre) (h : i ∈ Region.ready .any ops L) :
    L.getD i true = false ∧ (∃ oo, ops[i]? = some oo) ∧ ∀ p, pre[i]? = some p → ∀ q ∈ p, L.getD q false = true := by
  obtain ⟨h0, oo, ho, h1⟩ := mem_ready.1 h
  refine ⟨h0, ⟨oo, ho⟩, fun p hp q hq => ?_⟩
  rw [← hpre] at hp
  simp only [preds, List.getElem?_map, Array.getElem?_toList, ho, Option.map_some, Option.some.injEq] at hp
  subst hp
  simp only [List.mem_map, List.mem_filter, Array.mem_toList_iff] at hq
  obtain ⟨e, ⟨he, hb⟩, rfl⟩ := hq
  exact h1 e he hb

theorem ready_ne {L : Array Bool} (hpre : preds ops.toList = pre) (hlt : preLt 0 pre = true) (hs : L.size = ops.size) {i : Nat} (hi : i < ops.size) (hu : L.getD i false = false) : Region.ready .any ops L ≠ [] := by
  induction i using Nat.strongRecOn with
  | ind i ih =>
    by_cases hall : ∃ q, q < i ∧ L.getD q false = false
    · obtain ⟨q, hq, hf⟩ := hall
      exact ih q hq (by omega) hf
    · have hq : ∀ q, q < i → L.getD q false = true := by
        intro q hq
        cases hb : L.getD q false with
        | true => rfl
        | false => exact absurd ⟨q, hq, hb⟩ hall
      refine List.ne_nil_of_mem (a := i) (mem_ready.2 ⟨?_, ops[i], Array.getElem?_eq_getElem hi, fun e he hb => ?_⟩)
      · have : i < L.size := by omega
        simpa [this] using hu
      · have hp : pre[i]? = some ((ops[i].after.toList.filter (Region.binds .any)).map (·.on)) := by
          rw [← hpre]
          simp [preds, hi]
        have := preLt_spec pre 0 hlt i _ hp e.on (List.mem_map.2 ⟨e, List.mem_filter.2 ⟨by simpa using he, hb⟩, rfl⟩)
        exact hq e.on (by omega)

theorem set_getD {L : Array Bool} {i j : Nat} (hi : i < L.size) : (L.setIfInBounds i true).getD j false = if j = i then true else L.getD j false := by
  by_cases h : j = i
  · subst h; simp [hi]
  · rw [if_neg h, getD_set_ne false (Ne.symm h)]

theorem put_getD {a : Act} {d : Option Nat} {v : Value} {q : Nat} (hq : d ≠ some q) : (a.put d v).tmps.getD q undef = a.tmps.getD q undef := by
  cases d with
  | none => rfl
  | some d =>
    have : d ≠ q := fun e => hq (by rw [e])
    simp [Act.put, Array.getElem?_setIfInBounds_ne this]
theorem put_getD_same {a : Act} {d : Nat} {v : Value} (h : d < a.tmps.size) : (a.put (some d) v).tmps.getD d undef = v := by
  simp [Act.put, h]
theorem put_size {a : Act} {d : Option Nat} {v : Value} : (a.put d v).tmps.size = a.tmps.size := by cases d <;> simp [Act.put]

theorem nth_lt {q : Nat} (h : nth vs q ≠ .any) : q < vs.length := by
  rcases Nat.lt_or_ge q vs.length with h1 | h1
  · exact h1
  · rw [nth_eq, List.getD_eq_getElem?_getD, List.getElem?_eq_none h1] at h; exact absurd rfl h

theorem hasN_false {l : List Nat} {n : Nat} (h : hasN l n = false) : n ∉ l := fun hm => by rw [hasN_iff.2 hm] at h; cases h
theorem takes_iff {o p : AO} : takes o p = true ↔ ∃ d, p.dst = some d ∧ d ∈ o.rd := by
  unfold takes
  cases hp : p.dst with
  | none => simp
  | some d => simp [hasN_iff]
theorem clash_iff {o p : AO} : clash o p = true ↔ ∃ d, o.dst = some d ∧ (d ∈ p.rd ∨ p.dst = some d) := by
  unfold clash
  cases ho : o.dst with
  | none => simp
  | some d =>
    cases hp : p.dst with
    | none => simp [hasN_iff]
    | some d' =>
      simp only [Bool.or_eq_true, hasN_iff, Nat.beq_eq, Option.some.injEq]
      constructor
      · rintro (h | h)
        · exact ⟨d, rfl, .inl h⟩
        · exact ⟨d, rfl, .inr h.symm⟩
      · rintro ⟨_, rfl, h | h⟩
        · exact .inl h
        · exact .inr h.symm

/-- One order stands for every order. -/
theorem draw_main {R : List SV → List Blk → Prop} {m : Nat} {mk : List Nat} {ρ0 : Nms} (haos : ops.toList.mapM (convAO P ops) = some aos) (hpre : preds ops.toList = pre) (hlt : preLt 0 pre = true) :
    ∀ (fuel : Nat) (rem : List (Nat × List Nat)) (prev pend : List Nat) (L : Array Bool) (vs : List SV) (l : List Blk) (ρ : Nms) (a : Act) (W : World), pend.length + rem.length = fuel →
      DI P N W0 ops aos pre prev pend rem L ρ vs l a W → vdr (S0 P) aos R rem vs l → Le m ρ0 ρ → m ≤ l.length → MkOk ρ mk a.defers →
      RgA P ops (RgPost P N W0 m ρ0 mk R) fuel L a W := by
  have geto : ∀ i o, geta aos i = some o → ∃ oo, ops[i]? = some oo ∧ convAO P ops oo = some o := by
    intro i o ho
    rw [geta_eq] at ho
    obtain ⟨x, hx, hc⟩ := mapM_at haos i o ho
    exact ⟨x, by simpa using hx, hc⟩
  intro fuel
  induction fuel with
  | zero =>
    intro rem prev pend L vs l ρ a W hf hD hv hle hm hM
    obtain rfl : pend = [] := List.length_eq_zero_iff.1 (by omega)
    obtain rfl : rem = [] := List.length_eq_zero_iff.1 (by omega)
    simp only [vdr] at hv
    simp only [RgA]
    refine ⟨ρ, vs, l, hv, hle, hm, hD.rel, ?_, hM⟩
    intro q x hx
    have hq : q < vs.length := (List.getElem?_eq_some_iff.1 hx).1
    have := hD.env q (fun i hi => by cases hi)
    rw [nth_eq, List.getD_eq_getElem?_getD, hx] at this
    have hl := hD.len
    exact ⟨a.tmps[q], Array.getElem?_eq_getElem (by omega), by simpa [show q < a.tmps.size by omega] using this⟩
  | succ fuel ihf =>
    -- one that is settled goes
    have pendstep : ∀ (rem : List (Nat × List Nat)) (prev pend : List Nat) (L : Array Bool) (vs : List SV) (l : List Blk) (ρ : Nms) (a : Act) (W : World), pend.length + rem.length = fuel + 1 →
        DI P N W0 ops aos pre prev pend rem L ρ vs l a W → vdr (S0 P) aos R rem vs l → Le m ρ0 ρ → m ≤ l.length → MkOk ρ mk a.defers →
        ∀ i ∈ Region.ready .any ops L, i ∈ pend → ∀ oo, ops[i]? = some oo →
          if Region.wanted oo (yielded ops a.tmps) then OpRuns P oo a W (fun v w' => RgA P ops (RgPost P N W0 m ρ0 mk R) fuel (L.setIfInBounds i true) (a.put oo.dst v) w')
          else RgA P ops (RgPost P N W0 m ρ0 mk R) fuel (L.setIfInBounds i true) (a.put oo.dst undef) W := by
      intro rem prev pend L vs l ρ a W hf hD hv hle hm hM i hr hi oo hoo
      obtain ⟨hu, _, hpr⟩ := ready_spec hpre hr
      obtain ⟨o, oo', sv, ho, hoo', hc, hsub, hfact, hpure⟩ := hD.fact i hi
      rw [hoo] at hoo'; cases hoo'
      have hdst := (conv_op hc).2
      have hilt : i < L.size := by rw [hD.size]; exact hD.bound i (.inl hi)
      have hnot : ¬ L.getD i false = true := by
        have := hD.un i (by rw [← hD.size]; exact hilt)
        rw [this]; simp [hi]
      -- what it reads is known
      have hsays : Says o vs a.tmps ρ := by
        intro q hq
        refine hD.env q fun j hj p hp hd => ?_
        obtain ⟨h1, _⟩ := hD.pair i hi j hj o p ho hp q hd
        obtain ⟨hne, hb⟩ := h1 hq
        have hDj : L.getD j false = true := bef_listed (D := fun j => L.getD j false = true) hD.closed i hpr hb
        exact ((hD.un j (hD.bound j (.inl hj))).1 hDj) (.inl hj)
      have hfac := hfact ρ W a hD.rel hD.len hsays
      have next : ∀ (ρ' : Nms) (W' : World) (v : Value), Le l.length ρ ρ' → Rel P N W0 ρ' l W' → den ρ' sv v →
          RgA P ops (RgPost P N W0 m ρ0 mk R) fuel (L.setIfInBounds i true) (a.put oo.dst v) W' := by
        intro ρ' W' v hle' hR' hdv
        have hlen : (pend.erase i).length + rem.length = fuel := by
          rw [List.length_erase_of_mem hi]
          have := List.length_pos_of_mem hi
          omega
        have hmem : ∀ j, j ∈ pend.erase i ↔ j ≠ i ∧ j ∈ pend := fun j => hD.nd.mem_erase_iff
        have hirem : i ∉ rem.map (·.1) := by
          intro hmm
          obtain ⟨k, hk, e⟩ := List.mem_map.1 hmm
          exact (okFrom_notin rem prev hD.ok).1 k hk (by rw [e]; exact hD.sub i hi)
        refine ihf rem prev (pend.erase i) _ vs l ρ' _ W' hlen ⟨hR', by rw [put_size]; exact hD.len, ?_, hD.ok, ?_, hD.nd.erase i, by simpa using hD.size, ?_, ?_, ?_, ?_, ?_⟩ hv
          (fun k hk vw hvw => hle' k (by omega) vw (hle k hk vw hvw)) hm (by rw [put_defers]; exact MkOk.le hle' hD.rel.out _ _ hM)
        · intro q hq
          by_cases hdq : o.dst = some q
          · rw [← hdst, hdq]
            by_cases hlt : q < a.tmps.size
            · rw [put_getD_same hlt]; exact (hsub q hdq).of ρ' v hdv
            · have : nth vs q = .any := by
                rw [nth_eq, List.getD_eq_getElem?_getD, List.getElem?_eq_none (by have := hD.len; omega)]; rfl
              rw [this]; simp only [den]
          · rw [put_getD (by rw [← hdst]; exact hdq)]
            refine den_le hle' hD.rel.out _ _ (hD.env q fun j hj p hp hd => ?_)
            by_cases hji : j = i
            · subst hji; rw [ho] at hp; cases hp; exact hdq hd
            · exact hq j ((hmem j).2 ⟨hji, hj⟩) p hp hd
        · exact fun j hj => hD.sub j ((hmem j).1 hj).2
        · rintro j (hj | hj)
          · exact hD.bound j (.inl ((hmem j).1 hj).2)
          · exact hD.bound j (.inr hj)
        · intro j hj
          rw [set_getD hilt]
          by_cases hji : j = i
          · subst hji
            simp only [if_true, true_iff, not_or]
            exact ⟨fun h => ((hmem j).1 h).1 rfl, hirem⟩
          · rw [if_neg hji, hD.un j hj]
            simp only [hmem j, not_or]
            exact ⟨fun ⟨h1, h2⟩ => ⟨fun h => h1 h.2, h2⟩, fun ⟨h1, h2⟩ => ⟨fun h => h1 ⟨hji, h⟩, h2⟩⟩
        · intro j hj p hp q hq
          rw [set_getD hilt] at hj ⊢
          by_cases hqi : q = i
          · rw [if_pos hqi]
          · rw [if_neg hqi]
            by_cases hji : j = i
            · subst hji; exact hpr p hp q hq
            · rw [if_neg hji] at hj; exact hD.closed j hj p hp q hq
        · intro j hj k hk
          exact hD.pair j ((hmem j).1 hj).2 k ((hmem k).1 hk).2
        · intro j hj
          exact hD.fact j ((hmem j).1 hj).2
      split
      · rename_i hw
        rw [if_pos hw] at hfac
        exact hfac.mono fun v W' ⟨ρ', h1, h2, h3⟩ => next ρ' W' v h1 h2 h3
      · rename_i hw
        rw [if_neg hw] at hfac
        subst hfac
        exact next ρ W undef (Le.refl _ _) hD.rel (by simp [den])
    intro rem
    induction rem with
    | nil =>
      intro prev pend L vs l ρ a W hf hD hv hle hm hM
      simp only [RgA]
      refine ⟨fun hr => ?_, fun i hr oo hoo => ?_⟩
      · cases pend with
        | nil => simp at hf
        | cons i pend =>
          have hi := hD.bound i (.inl (by simp))
          have hu := (hD.un i hi)
          refine absurd hr (ready_ne hpre hlt hD.size hi ?_)
          cases hb : L.getD i false with
          | false => rfl
          | true => exact absurd (.inl (by simp)) (hu.1 hb)
      · obtain ⟨hu, _, _⟩ := ready_spec hpre hr
        have hi : i < ops.size := (Array.getElem?_eq_some_iff.1 hoo).1
        have hnl : ¬ L.getD i false = true := by
          have : i < L.size := by rw [hD.size]; exact hi
          intro h
          simp [this] at hu h
          rw [hu] at h; cases h
        have hin : i ∈ pend := by
          rw [hD.un i hi] at hnl
          simpa using hnl
        exact pendstep [] prev pend L vs l ρ a W hf hD hv hle hm hM i hr hin oo hoo
    | cons h r ihr =>
      obtain ⟨h, fl⟩ := h
      intro prev pend L vs l ρ a W hf hD hv hle hm hM
      have hok := hD.ok
      simp only [okFrom, Bool.and_eq_true] at hok
      obtain ⟨hok1, hok2⟩ := hok
      cases ho : geta aos h with
      | none => rw [ho] at hok1; cases hok1
      | some o =>
      rw [ho] at hok1
      simp only [Bool.and_eq_true, Bool.not_eq_true'] at hok1
      obtain ⟨⟨hnp, htk⟩, hok3⟩ := hok1
      have hnp := hasN_false hnp
      rw [List.all_eq_true] at htk
      obtain ⟨oo, hoo, hc⟩ := geto h o ho
      have hdst := (conv_op hc).2
      obtain ⟨hni, hnd⟩ := okFrom_notin _ _ hD.ok
      simp only [List.map_cons, List.nodup_cons] at hnd
      have htakes : ∀ j ∈ pend, ∀ p, geta aos j = some p → ∀ d, p.dst = some d → d ∈ o.rd → bef (cloGo pre []) j h = true := by
        intro j hj p hp d hd hrd
        have := htk j (hD.sub j hj)
        rw [hp] at this
        simp only [Bool.or_eq_true, Bool.not_eq_true'] at this
        rcases this with h1 | h1
        · rw [takes_iff.2 ⟨d, hd, hrd⟩] at h1; cases h1
        · exact h1
      obtain ⟨vs1, hl1, heq, hcases⟩ := head_cases hc ho hv
      by_cases hlight : settles aos prev o = true
      · -- it is settled: it waits
        rw [if_pos hlight] at hok3
        have hfl : fl = [] := List.isEmpty_iff.1 hok3
        subst hfl
        simp only [settles, Bool.and_eq_true, Bool.not_eq_true', List.all_eq_true] at hlight
        obtain ⟨⟨hli, hself⟩, hcl⟩ := hlight
        have hself' : ∀ d, o.dst = some d → d ∉ o.rd := fun d hd hm => by rw [takes_iff.2 ⟨d, hd, hm⟩] at hself; cases hself
        have hcl' : ∀ j ∈ pend, ∀ p, geta aos j = some p → ∀ d, o.dst = some d → d ∉ p.rd ∧ p.dst ≠ some d := by
          intro j hj p hp d hd
          have := hcl j (hD.sub j hj)
          rw [hp] at this
          simp only [Bool.not_eq_true'] at this
          refine ⟨fun h => ?_, fun h => ?_⟩
          · rw [clash_iff.2 ⟨d, hd, .inl h⟩] at this; cases this
          · rw [clash_iff.2 ⟨d, hd, .inr h⟩] at this; cases this
        have settled : ∃ sv, vdr (S0 P) aos R r (putO vs1 o.dst sv) l ∧ Fact P N W0 ops o oo vs1 l sv ∧ (o.op.pure = true → ∀ l2, Fact P N W0 ops o oo vs1 l2 sv) := by
          rcases hcases with ⟨hw, h1⟩ | ⟨hw, h1⟩
          · by_cases hp : o.op.pure = true
            · obtain ⟨sv, h2, h3⟩ := pure_det hp h1
              exact ⟨sv, h2, fact_run hc hw fun J hj => h3 l J hj, fun _ l2 => fact_run hc hw fun J hj => h3 l2 J hj⟩
            · have hrd : o.op.reads = true := by simpa [light, hp] using hli
              obtain ⟨sv, h2, h3⟩ := reads_det hrd h1
              exact ⟨sv, h2, fact_run hc hw h3, fun h => absurd h hp⟩
          · exact ⟨.un, h1, fact_skip hw, fun _ l2 => fact_skip hw⟩
        obtain ⟨sv, hv', hfa, hfp⟩ := settled
        have hsubq : ∀ q, o.dst ≠ some q → Sub (nth (putO vs1 o.dst sv) q) (nth vs q) ∧ Sub (nth vs q) (nth (putO vs1 o.dst sv) q) := by
          intro q hq
          rw [nth_putO_ne hq]
          exact ⟨(heq q).2, (heq q).1⟩
        have hself2 : ∀ q ∈ o.rd, Sub (nth (putO vs1 o.dst sv) q) (nth vs1 q) := by
          intro q hq
          rw [nth_putO_ne (fun e => hself' q e hq)]
          exact .rfl
        refine ihr (h :: prev) (h :: pend) L (putO vs1 o.dst sv) l ρ a W (by simp at hf ⊢; omega) ⟨hD.rel, by rw [putO_len, hl1]; exact hD.len, ?_, hok2, ?_, ?_, hD.size, ?_, ?_, hD.closed, ?_, ?_⟩ hv' hle hm hM
        · intro q hq
          have hdq := hq h (by simp) o ho
          exact (hsubq q hdq).2.of ρ _ (hD.env q fun i hi p hp => hq i (List.mem_cons_of_mem _ hi) p hp)
        · intro i hi
          rcases List.mem_cons.1 hi with rfl | hi
          · simp
          · exact List.mem_cons_of_mem _ (hD.sub i hi)
        · exact List.nodup_cons.2 ⟨fun hm => hnp (hD.sub h hm), hD.nd⟩
        · intro i hi
          apply hD.bound
          rcases hi with hi | hi
          · rcases List.mem_cons.1 hi with rfl | hi
            · exact .inr (by simp)
            · exact .inl hi
          · exact .inr (by simp only [List.map_cons]; exact List.mem_cons_of_mem _ hi)
        · intro i hi
          rw [hD.un i hi]
          simp only [List.map_cons, List.mem_cons]
          constructor
          · intro hh; exact fun hx => hh (by rcases hx with (rfl | hx) | hx <;> simp_all)
          · intro hh; exact fun hx => hh (by rcases hx with hx | rfl | hx <;> simp_all)
        · intro i hi j hj p p' hp hp' d hd
          rcases List.mem_cons.1 hi with rfl | hi2
          · rw [ho] at hp; cases hp
            rcases List.mem_cons.1 hj with rfl | hj
            · rw [ho] at hp'; cases hp'
              exact ⟨fun h => absurd h (hself' d hd), fun _ => rfl⟩
            · refine ⟨fun hrd => ⟨fun e => hnp (by rw [e]; exact hD.sub j hj), htakes j hj p' hp' d hd hrd⟩, fun hdd => absurd hd (hcl' j hj p' hp' d hdd).2⟩
          · rcases List.mem_cons.1 hj with rfl | hj
            · rw [ho] at hp'; cases hp'
              obtain ⟨h1, h2⟩ := hcl' i hi2 p hp d hd
              exact ⟨fun h => absurd h h1, fun h => absurd h h2⟩
            · exact hD.pair i hi2 j hj p p' hp hp' d hd
        · intro i hi
          rcases List.mem_cons.1 hi with rfl | hi
          · refine ⟨o, oo, sv, ho, hoo, hc, sub_putO, hfa.congr putO_len hself2, fun hp l2 => (hfp hp l2).congr putO_len hself2⟩
          · obtain ⟨p, pp, sv', hp, hpp, hcp, hs, hf1, hf2⟩ := hD.fact i hi
            have hq : ∀ q ∈ p.rd, Sub (nth (putO vs1 o.dst sv) q) (nth vs q) := fun q hq => (hsubq q (fun e => (hcl' i hi p hp q e).1 hq)).1
            refine ⟨p, pp, sv', hp, hpp, hcp, fun d hd => ⟨fun ρ v hdv => ?_⟩, hf1.congr (by rw [putO_len, hl1]) hq, fun hpu l2 => (hf2 hpu l2).congr (by rw [putO_len, hl1]) hq⟩
            exact (hsubq d (fun e => (hcl' i hi p hp d e).2 hd)).2.of ρ v ((hs d hd).of ρ v hdv)
      · -- it goes in its turn
        rw [if_neg hlight] at hok3
        simp only [Bool.and_eq_true, List.all_eq_true] at hok3
        obtain ⟨⟨hflr, hall⟩, hprev⟩ := hok3
        simp only [RgA]
        refine ⟨fun hr => ?_, fun i hr oo' hoo' => ?_⟩
        · have hi := hD.bound h (.inr (by simp))
          refine absurd hr (ready_ne hpre hlt hD.size hi ?_)
          cases hb : L.getD h false with
          | false => rfl
          | true => exact absurd (.inr (by simp)) ((hD.un h hi).1 hb)
        · obtain ⟨hu, _, hpr⟩ := ready_spec hpre hr
          have hi : i < ops.size := (Array.getElem?_eq_some_iff.1 hoo').1
          have hilt : i < L.size := by rw [hD.size]; exact hi
          have hnl : ¬ L.getD i false = true := by
            intro h
            simp [hilt] at hu h
            rw [hu] at h; cases h
          have hin : i ∈ pend ∨ i ∈ ((h, fl) :: r).map (·.1) := by
            rw [hD.un i hi] at hnl
            exact Decidable.not_not.1 hnl
          rcases hin with hin | hin
          · exact pendstep _ prev pend L vs l ρ a W hf hD hv hle hm hM i hr hin oo' hoo'
          · -- it is the one that is next
            have hih : i = h := by
              simp only [List.map_cons, List.mem_cons] at hin
              rcases hin with e | hin
              · exact e
              · obtain ⟨k, hk, rfl⟩ := List.mem_map.1 hin
                have hb := hall k hk
                have hDh := bef_listed (D := fun j => L.getD j false = true) hD.closed k.1 hpr hb
                exact absurd (.inr (by simp)) ((hD.un h (hD.bound h (.inr (by simp)))).1 hDh)
            subst hih
            rw [hoo] at hoo'; cases hoo'
            have hnb : ∀ j ∈ pend, bef (cloGo pre []) j i = false := by
              intro j hj
              cases hb : bef (cloGo pre []) j i with
              | false => rfl
              | true =>
                have hDj := bef_listed (D := fun j => L.getD j false = true) hD.closed i hpr hb
                exact absurd (.inl hj) ((hD.un j (hD.bound j (.inl hj))).1 hDj)
            have hpv : ∀ j ∈ pend, ∀ p, geta aos j = some p → clash o p = false ∧ (p.op.pure = true ∨ (p.op.reads = true ∧ j ∈ fl)) := by
              intro j hj p hp
              have := hprev j (hD.sub j hj)
              rw [hp] at this
              simp only [hnb j hj, Bool.or_false, Bool.false_or, Bool.and_eq_true, Bool.not_eq_true', Bool.or_eq_true] at this
              exact ⟨this.1, this.2.imp id fun h => ⟨h.1, hasN_iff.1 h.2⟩⟩
            have hcl' : ∀ j ∈ pend, ∀ p, geta aos j = some p → ∀ d, o.dst = some d → d ∉ p.rd ∧ p.dst ≠ some d := by
              intro j hj p hp d hd
              have := (hpv j hj p hp).1
              refine ⟨fun h => ?_, fun h => ?_⟩
              · rw [clash_iff.2 ⟨d, hd, .inl h⟩] at this; cases this
              · rw [clash_iff.2 ⟨d, hd, .inr h⟩] at this; cases this
            have hsays1 : Says o vs1 a.tmps ρ := by
              intro q hq
              refine (heq q).1.of ρ _ (hD.env q fun j hj p hp hd => ?_)
              have := htakes j hj p hp q hd hq
              rw [hnb j hj] at this; cases this
            have hflr' : ∀ j ∈ fl, ∀ p, geta aos j = some p → p.op.reads = true := by
              intro j hj p hp
              have := hflr j hj
              rw [hp] at this; exact this
            have next : ∀ (sv : SV) (l' : List Blk) (ρ' : Nms) (W' : World) (v : Value), stab (S0 P) aos fl (putO vs1 o.dst sv) l' (fun _ => vdr (S0 P) aos R r (putO vs1 o.dst sv) l') →
                Le l.length ρ ρ' → l.length ≤ l'.length → Rel P N W0 ρ' l' W' → den ρ' sv v →
                (l' = l ∨ True) → RgA P ops (RgPost P N W0 m ρ0 mk R) fuel (L.setIfInBounds i true) (a.put oo.dst v) W' := by
              intro sv l' ρ' W' v hst hle' hll hR' hdv _
              obtain ⟨hv', hfs⟩ := stab_spec (N := N) (W0 := W0) (ops := ops) fl hflr' hst
              have hsubq : ∀ q, o.dst ≠ some q → Sub (nth (putO vs1 o.dst sv) q) (nth vs q) ∧ Sub (nth vs q) (nth (putO vs1 o.dst sv) q) := by
                intro q hq
                rw [nth_putO_ne hq]
                exact ⟨(heq q).2, (heq q).1⟩
              refine ihf r (i :: prev) pend _ (putO vs1 o.dst sv) l' ρ' _ W' (by simp at hf; omega) ⟨hR', by rw [putO_len, hl1, put_size]; exact hD.len, ?_, hok2, ?_, hD.nd, by simpa using hD.size, ?_, ?_, ?_, hD.pair, ?_⟩ hv'
                (fun k hk vw hvw => hle' k (by omega) vw (hle k hk vw hvw)) (by omega) (by rw [put_defers]; exact MkOk.le hle' hD.rel.out _ _ hM)
              · intro q hq
                by_cases hdq : o.dst = some q
                · rw [← hdst, hdq]
                  by_cases hlt : q < a.tmps.size
                  · rw [put_getD_same hlt]; exact (sub_putO q rfl).of ρ' v hdv
                  · have : nth (putO vs1 (some q) sv) q = .any := by
                      rw [nth_eq, List.getD_eq_getElem?_getD, List.getElem?_eq_none (by rw [putO_len, hl1]; have := hD.len; omega)]; rfl
                    rw [this]; simp only [den]
                · rw [put_getD (by rw [← hdst]; exact hdq)]
                  exact (hsubq q hdq).2.of ρ' _ (den_le hle' hD.rel.out _ _ (hD.env q hq))
              · exact fun j hj => List.mem_cons_of_mem _ (hD.sub j hj)
              · rintro j (hj | hj)
                · exact hD.bound j (.inl hj)
                · exact hD.bound j (.inr (by simp only [List.map_cons]; exact List.mem_cons_of_mem _ hj))
              · intro j hj
                rw [set_getD hilt]
                by_cases hji : j = i
                · subst hji
                  simp only [if_true, true_iff, not_or]
                  exact ⟨fun h => hnp (hD.sub j h), hnd.1⟩
                · rw [if_neg hji, hD.un j hj]
                  simp only [List.map_cons, List.mem_cons, not_or]
                  exact ⟨fun ⟨h1, h2⟩ => ⟨h1, h2.2⟩, fun ⟨h1, h2⟩ => ⟨h1, hji, h2⟩⟩
              · intro j hj p hp q hq
                rw [set_getD hilt] at hj ⊢
                by_cases hqi : q = i
                · rw [if_pos hqi]
                · rw [if_neg hqi]
                  by_cases hji : j = i
                  · subst hji; exact hpr p hp q hq
                  · rw [if_neg hji] at hj; exact hD.closed j hj p hp q hq
              · intro j hj
                obtain ⟨p, pp, sv', hp, hpp, hcp, hs, hf1, hf2⟩ := hD.fact j hj
                obtain ⟨_, hpu⟩ := hpv j hj p hp
                by_cases hpure : p.op.pure = true
                · have hq : ∀ q ∈ p.rd, Sub (nth (putO vs1 o.dst sv) q) (nth vs q) := fun q hq => (hsubq q (fun e => (hcl' j hj p hp q e).1 hq)).1
                  refine ⟨p, pp, sv', hp, hpp, hcp, fun d hd => ⟨fun ρ v hdv => ?_⟩, (hf2 hpure l').congr (by rw [putO_len, hl1]) hq, fun hpu l2 => (hf2 hpu l2).congr (by rw [putO_len, hl1]) hq⟩
                  exact (hsubq d (fun e => (hcl' j hj p hp d e).2 hd)).2.of ρ v ((hs d hd).of ρ v hdv)
                · have hjf := (hpu.resolve_left hpure).2
                  obtain ⟨sv2, hf3, hs3⟩ := hfs j hjf p hp pp hcp
                  exact ⟨p, pp, sv2, hp, hpp, hcp, hs3, hf3, fun h => absurd h hpure⟩
            rcases hcases with ⟨hw, h1⟩ | ⟨hw, h1⟩
            · rw [if_pos (hw _ _ hsays1)]
              refine (op_runs hc h1 hD.rel (by rw [hl1]; exact hD.len) hsays1).mono ?_
              rintro v W' ⟨ρ', sv, l', hst, h2, h3, h4, h5⟩
              exact next sv l' ρ' W' v hst h2 h3 h4 h5 (.inr trivial)
            · rw [if_neg (by rw [hw _ _ hsays1]; simp)]
              exact next .un l ρ W undef h1 (Le.refl _ _) (Nat.le_refl _) hD.rel (by simp [den]) (.inl rfl)

/-- A region that draws its order: one order is enough. -/
theorem s_draw {S : Sy} {cx : Cx} {e : Env} {K : Env → List Blk → Prop} (hS : S0 P = S) (hm : P.follows .mixedOrders = true) (ord : List (Nat × List Nat)) (hok : drawOk aos pre ord = true)
    (h : vdr S aos (fun vs' l' => K ⟨vs', e.mks⟩ l') ord e.vs l) : S.drw cx aos pre e l K := by
  subst hS
  intro ops haos hpre id N W0 ρ rr a W hs hr hml
  refine wp_region_draw fun t => ?_
  simp only [Region.schedule, hm, Bool.true_or, if_true]
  simp only [drawOk, Bool.and_eq_true, decide_eq_true_eq, List.all_eq_true] at hok
  obtain ⟨⟨⟨⟨hlt, hlen⟩, hbd⟩, hfull⟩, hof⟩ := hok
  have hsz : aos.length = ops.size := by simpa using mapM_length haos
  obtain ⟨hn1, hn2⟩ := okFrom_notin _ _ hof
  have hrg := draw_main (m := cx.m) (R := fun vs' l' => K ⟨vs', e.mks⟩ l') (mk := e.mks) (ρ0 := ρ) (N := N) (W0 := W0) haos hpre hlt ops.size ord [] [] (Array.replicate ops.size false) e.vs l ρ a { W with drawn := W.drawn + 1 } (by simp; omega)
    ⟨hs.rel.drew, ?_, fun q _ => env_nth hs.env q, hof, (fun i hi => by cases hi), List.nodup_nil, by simp, ?_, ?_, ?_, (fun i hi => by cases hi), (fun i hi => by cases hi)⟩ h (Le.refl _ _) hml hs.mks
  · refine Rg.mono ?_ _ _ _ (rga_sound ops.size t _ _ _ hrg)
    rintro a' W' ⟨ρ', vs', l', hK, h1, h2, h3, h4, h5⟩
    exact ⟨ρ', ⟨vs', e.mks⟩, l', hK, h1, h2, h3, h4, h5⟩
  · rcases Nat.eq_zero_or_pos e.vs.length with h0 | h0
    · omega
    · obtain ⟨v, hv, _⟩ := hs.env (e.vs.length - 1) _ (List.getElem?_eq_getElem (by omega))
      have := (Array.getElem?_eq_some_iff.1 hv).1
      omega
  · rintro i (hi | hi)
    · cases hi
    · obtain ⟨k, hk, rfl⟩ := List.mem_map.1 hi
      have := hbd k hk; omega
  · intro i hi
    simp only [Array.getD_eq_getD_getElem?, Array.getElem?_replicate, hi, if_true, Option.getD_some]
    simp only [Bool.false_eq_true, List.not_mem_nil, false_or, false_iff, Decidable.not_not]
    have := hfull i (List.mem_range.2 (by omega))
    rw [List.any_eq_true] at this
    obtain ⟨k, hk, e⟩ := this
    exact List.mem_map.2 ⟨k, hk, (Nat.beq_eq ▸ e)⟩
  · intro j hj
    exfalso
    by_cases hj' : j < ops.size
    · simp [hj'] at hj
    · simp [hj'] at hj
end
end Cz
