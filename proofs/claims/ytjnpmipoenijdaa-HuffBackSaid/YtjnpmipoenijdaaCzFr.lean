/- The frame: from a law's walk to its row. No condition. -/
import Derived.Test.YtjnpmipoenijdaaCzZ
import Derived.ProofKit
import Derived.OpenShut
import Derived.Deep.Slices
import Derived.Carry
namespace Cz
open Go Go.RowKit Go.ChangeShapes Go.WideShapes
set_option linter.unusedSimpArgs false
set_option linter.unusedVariables false

/-! ### Plain values, opened -/
inductive Pk where
  | b
  | i (k : IntKind)
  | s
def pkV : Pk → SV → Prop
  | .b, x => ∃ v, x = .b v
  | .i k, x => ∃ n, x = .i k (.y n) ∧ lo k ≤ n ∧ n ≤ hi k
  | .s, x => ∃ v, x = .s v
def pkVs : List Pk → List SV → Prop
  | [], [] => True
  | k :: ks, x :: xs => pkV k x ∧ pkVs ks xs
  | _, _ => False
def pkFs (P : Program) (f : TypeId → Option (List Pk)) : List Field → Nat → Option (List Pk)
  | [], _ => some []
  | g :: gs, off => match f g.type with
    | none => none
    | some s => if g.offset = off ∧ P.cellsOf g.type = s.length then (match pkFs P f gs (off + s.length) with | some r => some (s ++ r) | none => none) else none
/-- The cells of a type of plain values. -/
def pks (P : Program) : Nat → TypeId → Option (List Pk)
  | 0, _ => none
  | d + 1, t => match P.underlying t with
    | some .bool => some [.b]
    | some (.int k) => some [.i k]
    | some .string => some [.s]
    | some (.struct fs) => match pkFs P (pks P d) fs.toList 0 with
      | some r => if P.cellsOf t = r.length then some r else none
      | none => none
    | _ => none

theorem pkVs_app : ∀ {ks js : List Pk} {xs ys : List SV}, pkVs ks xs → pkVs js ys → pkVs (ks ++ js) (xs ++ ys)
  | [], _, [], _, _, h => h
  | [], _, _ :: _, _, h, _ => h.elim
  | _ :: _, _, [], _, h, _ => h.elim
  | _ :: _, _, _ :: _, _, h, h' => ⟨h.1, pkVs_app h.2 h'⟩
theorem pkVs_one {k : Pk} {xs : List SV} (h : pkVs [k] xs) : ∃ x, xs = [x] ∧ pkV k x := by
  match xs, h with
  | [], h => exact h.elim
  | [x], h => exact ⟨x, rfl, h.1⟩
  | _ :: _ :: _, h => exact h.2.elim
theorem denL_one {ρ : Nms} {x : SV} {v : Value} (h : denL ρ [x] [v]) : den ρ x v := by simp only [denL] at h; exact h.1
theorem pkVs_len : ∀ {ks : List Pk} {xs : List SV}, pkVs ks xs → xs.length = ks.length
  | [], [], _ => rfl
  | [], _ :: _, h => h.elim
  | _ :: _, [], h => h.elim
  | _ :: _, _ :: _, h => by simp [pkVs_len h.2]
theorem pkVs_plain : ∀ {ks : List Pk} {xs : List SV}, pkVs ks xs → plains xs = true
  | [], [], _ => rfl
  | [], _ :: _, h => h.elim
  | _ :: _, [], h => h.elim
  | k :: _, x :: _, h => by
    simp only [plains, Bool.and_eq_true]
    refine ⟨?_, pkVs_plain h.2⟩
    cases k with
    | b => obtain ⟨v, rfl⟩ := h.1; rfl
    | i k => obtain ⟨n, rfl, _⟩ := h.1; rfl
    | s => obtain ⟨v, rfl⟩ := h.1; rfl

section
variable {H : Type} {enc : TypeId × Value → H} {P : Program} {w : World} {base : Nat} {spare : Nat → Bool} {held : Bool}

theorem wf_bounds {k : IntKind} {n : Int} (h : (Lit.int k n).wf = true) : lo k ≤ n ∧ n ≤ hi k := by
  cases k <;> simp [Lit.wf, IntKind.min, IntKind.max, IntKind.signed, IntKind.bits] at h <;> simp only [lo, hi] <;> omega

theorem open_fs {f : TypeId → Option (List Pk)} {n : Nat}
    (hf : ∀ t ks cs x, f t = some ks → DataW.trod enc P w base spare held n t cs = some x → ∃ svs, pkVs ks svs ∧ ∀ ρ, denL ρ svs cs) : ∀ (fs : List Field) (off : Nat) (ks : List Pk) (cs : List Value), pkFs P f fs off = some ks →
      cs.length = off + ks.length → (∀ (i : Nat) (g : Field), fs[i]? = some g → ∃ x, DataW.trod enc P w base spare held n g.type ((cs.drop g.offset).take (P.cellsOf g.type)) = some x) →
      ∃ svs, pkVs ks svs ∧ ∀ ρ, denL ρ svs (cs.drop off)
  | [], off, ks, cs, hk, hl, _ => by
    simp only [pkFs, Option.some.injEq] at hk; subst hk
    refine ⟨[], trivial, fun ρ => ?_⟩
    rw [List.drop_eq_nil_of_le (by simp at hl; omega)]; simp [denL]
  | g :: gs, off, ks, cs, hk, hl, ht => by
    simp only [pkFs] at hk
    split at hk
    · cases hk
    · rename_i s hs
      split at hk
      · rename_i hc
        split at hk
        · rename_i r hr
          simp only [Option.some.injEq] at hk; subst hk
          obtain ⟨x, hx⟩ := ht 0 g rfl
          rw [hc.1, hc.2] at hx
          obtain ⟨svs, h1, h2⟩ := hf _ _ _ _ hs hx
          obtain ⟨svs', h3, h4⟩ := open_fs hf gs (off + s.length) r cs hr (by simp at hl; omega) fun i g' hi => ht (i + 1) g' (by simpa using hi)
          refine ⟨svs ++ svs', pkVs_app h1 h3, fun ρ => ?_⟩
          have e : cs.drop off = (cs.drop off).take s.length ++ cs.drop (off + s.length) := by
            rw [← List.drop_drop, List.take_append_drop]
          rw [e]
          exact denL_append (h2 ρ) (h4 ρ)
        · cases hk
      · cases hk

theorem open_plain : ∀ (d : Nat) (t : TypeId) (ks : List Pk) (n : Nat) (cs : List Value) (x : DataW H × List MemPlace), pks P d t = some ks → DataW.trod enc P w base spare held n t cs = some x →
    ∃ svs, pkVs ks svs ∧ ∀ ρ, denL ρ svs cs
  | 0, _, _, _, _, _, h, _ => by simp [pks] at h
  | d + 1, t, ks, n, cs, x, h, ht => by
    simp only [pks] at h
    split at h
    · rename_i hu
      obtain ⟨b, rfl, _⟩ := DataW.trod_bool hu ht
      simp only [Option.some.injEq] at h; subst h
      exact ⟨[.b b], ⟨⟨b, rfl⟩, trivial⟩, fun ρ => by simp [denL, den]⟩
    · rename_i k hu
      obtain ⟨m, rfl, _, hw⟩ := DataW.trod_int hu ht
      simp only [Option.some.injEq] at h; subst h
      exact ⟨[.i k (.y m)], ⟨⟨m, rfl, wf_bounds hw⟩, trivial⟩, fun ρ => by simp [denL, den, Z.v]⟩
    · rename_i hu
      obtain ⟨s, rfl, _, hw⟩ := DataW.trod_string hu ht
      simp only [Option.some.injEq] at h; subst h
      exact ⟨[.s s.data.toList], ⟨⟨_, rfl⟩, trivial⟩, fun ρ => by simp [denL, den]⟩
    · rename_i fs hu
      split at h
      · rename_i r hr
        split at h
        · rename_i hc
          simp only [Option.some.injEq] at h; subst h
          obtain ⟨xs, n', _, _, hlen, hxl, hf⟩ := DataW.trod_struct hu ht
          obtain ⟨svs, h1, h2⟩ := open_fs (n := n') (fun t ks cs x hk hx => open_plain d t ks n' cs x hk hx) fs.toList 0 r cs hr (by omega) fun i g hg => by
            have hg' : fs[i]? = some g := by simpa using hg
            have := hf i g hg'
            have hi : i < fs.size := (Array.getElem?_eq_some_iff.1 hg').1
            rw [List.getElem?_eq_getElem (by omega)] at this
            exact ⟨_, this⟩
          exact ⟨svs, h1, fun ρ => by simpa using h2 ρ⟩
        · cases h
      · cases h
    · cases h

theorem cell_spot {a : Addr} {v : Value} (h : w.cell? a = some v) : a.spot = none := by
  unfold World.cell? at h
  split at h
  · split at h
    · cases h
    · rename_i hs; simpa using hs
  · cases h
theorem add2 (b o i q : Nat) : ((⟨b, o, none⟩ : Addr).add i).add q = ⟨b, o + (i + q), none⟩ := by
  unfold Addr.add
  by_cases hi : i = 0 <;> by_cases hq : q = 0 <;> simp [hi, hq, Nat.add_assoc]
theorem denL_cells {ρ : Nms} {svs : List SV} {cs : List Value} (h : denL ρ svs cs) (q : Nat) (x : SV) (hx : svs[q]? = some x) : ∃ v, cs[q]? = some v ∧ den ρ x v := denL_get q x h hx

/-- A slice of plain elements is a row. -/
theorem open_rows {α : Type} {ec : α → List SV} {good : α → Prop} {t e : TypeId} {d : Nat} {ks : List Pk} {n : Nat} {v : Value} {x : DataW H × List MemPlace} (ht : P.underlying t = some (.slice e)) (hk : pks P d e = some ks)
    (hc : P.cellsOf e = ks.length) (h0 : 0 < ks.length) (hel : ∀ svs, pkVs ks svs → ∃ a, svs = ec a ∧ good a) (hec : ∀ a, (ec a).length = ks.length)
    (h : DataW.trod enc P w 0 (fun _ => true) held n t [v] = some x) :
    ∃ (l : List α) (vw : View), (∀ a ∈ l, good a) ∧ (∀ a, vw.base = some a → a.block < w.heap.size) ∧ (∀ ρ, ViewOk w ρ (l.flatMap ec) vw) ∧
      ∀ (ρ : Nms) (k : Nat), vw ∈ ρ k → den ρ (.sl k ks.length (.l 0) (.y (ilen l)) none) v := by
  rcases Deep.open_slice ht h with ⟨hcs, _⟩ | ⟨a, len, cap, m, n', D, Pl, hcs, _, hl, _, hm, _, hi⟩
  · simp only [List.cons.injEq, and_true] at hcs
    subst hcs
    exact ⟨[], ⟨none, 0, 0⟩, by simp, by simp, fun ρ => ⟨Nat.zero_le _, fun _ => ⟨rfl, rfl⟩, fun q y hq _ => by simp at hq⟩, fun ρ k hv => by
      simp only [den]; exact ⟨by simp [Z.v], by simp [Z.v, ilen], _, hv, by simp [Z.v, ilen], by simp [SlVal, Z.v, ilen]⟩⟩
  · simp only [List.cons.injEq, and_true] at hcs
    subst hcs
    simp only [if_true] at hm
    subst hm
    by_cases hm0 : m = 0
    · subst hm0
      have hl0 : len = 0 := by omega
      subst hl0
      exact ⟨[], ⟨none, 0, 0⟩, by simp, by simp, fun ρ => ⟨Nat.zero_le _, fun _ => ⟨rfl, rfl⟩, fun q y hq _ => by simp at hq⟩, fun ρ k hv => by
        simp only [den]; exact ⟨by simp [Z.v], by simp [Z.v, ilen], _, hv, by simp [Z.v, ilen], by simp [SlVal, Z.v, ilen]⟩⟩
    · have hsp : a.spot = none := by
        obtain ⟨cs', hcells, htr⟩ := hi 0 (by omega)
        obtain ⟨_, hlen, hat⟩ := World.cells?_some hcells
        have := hat 0 (by omega)
        rw [List.getElem?_eq_getElem (by omega)] at this
        have := cell_spot this
        simpa [Addr.add] using this
      obtain ⟨ab, ao, asp⟩ := a
      simp only at hsp
      subst hsp
      have hel2 : ∀ i, i < m → ∃ b : α, good b ∧ ∀ q, q < ks.length → ∀ y, (ec b)[q]? = some y → ∃ u, w.cell? ⟨ab, ao + (i * ks.length + q), none⟩ = some u ∧ ∀ ρ, den ρ y u := by
        intro i hik
        obtain ⟨cs', hcells, htr⟩ := hi i hik
        obtain ⟨svs, h1, h2⟩ := open_plain d e ks n' cs' _ hk htr
        obtain ⟨b, rfl, hg⟩ := hel svs h1
        obtain ⟨_, hlen, hat⟩ := World.cells?_some hcells
        refine ⟨b, hg, fun q hq y hy => ?_⟩
        have hcell := hat q (by omega)
        obtain ⟨u, hu, _⟩ := denL_get q y (h2 (fun _ => [])) hy
        rw [hu] at hcell
        refine ⟨u, ?_, fun ρ => ?_⟩
        · rw [hc, add2] at hcell
          exact hcell
        · obtain ⟨u', hu', hd⟩ := denL_get q y (h2 ρ) hy
          rw [hu] at hu'; cases hu'; exact hd
      have build : ∀ k, k ≤ m → ∃ l : List α, l.length = k ∧ (∀ b ∈ l, good b) ∧ ∀ i b, l[i]? = some b → ∀ q, q < ks.length → ∀ y, (ec b)[q]? = some y → ∃ u, w.cell? ⟨ab, ao + (i * ks.length + q), none⟩ = some u ∧ ∀ ρ, den ρ y u := by
        intro k
        induction k with
        | zero => exact fun _ => ⟨[], rfl, by simp, fun i b hb => by simp at hb⟩
        | succ k ih =>
          intro hk
          obtain ⟨l, hl1, hl2, hl3⟩ := ih (by omega)
          obtain ⟨b, hb1, hb2⟩ := hel2 k (by omega)
          refine ⟨l ++ [b], by simp [hl1], ?_, fun i b' hb' => ?_⟩
          · intro c hc
            rcases List.mem_append.1 hc with hc | hc
            · exact hl2 c hc
            · rw [List.mem_singleton] at hc; subst hc; exact hb1
          · rcases Nat.lt_or_ge i l.length with h1 | h1
            · rw [List.getElem?_append_left h1] at hb'; exact hl3 i b' hb'
            · rw [List.getElem?_append_right h1] at hb'
              have : i = l.length := by
                rcases Nat.eq_or_lt_of_le h1 with h2 | h2
                · exact h2.symm
                · rw [List.getElem?_eq_none (by simp; omega)] at hb'; cases hb'
              subst this
              simp only [Nat.sub_self, List.getElem?_cons_zero, Option.some.injEq] at hb'
              subst hb'
              rw [hl1]; exact hb2
      obtain ⟨l, hl1, hl2, hl3⟩ := build len hl
      have hblk : ab < w.heap.size := by
        obtain ⟨b, _, hb2⟩ := hel2 0 (by omega)
        have hlen := hec b
        obtain ⟨u, hu, _⟩ := hb2 0 h0 _ (List.getElem?_eq_getElem (by omega))
        rcases Nat.lt_or_ge ab w.heap.size with h1 | h1
        · exact h1
        · simp [World.cell?, Array.getElem?_eq_none h1] at hu
      have hfl : (l.flatMap ec).length = len * ks.length := by rw [flat_len hec, hl1]
      refine ⟨l, ⟨some ⟨ab, ao, none⟩, len * ks.length, m⟩, hl2, fun a' ha => by simp at ha; subst ha; exact hblk, fun ρ => ⟨by rw [hfl]; exact Nat.le_refl _, fun h => by simp at h, fun q y hq hy => ?_⟩, fun ρ k hv => ?_⟩
      · -- which element
        have hq' : q < len * ks.length := hq
        have hdm := Nat.div_add_mod q ks.length
        have hmod := Nat.mod_lt q h0
        have hdiv : q / ks.length < len := (Nat.div_lt_iff_lt_mul h0).2 hq'
        obtain ⟨b, hb⟩ : ∃ b, l[q / ks.length]? = some b := ⟨_, List.getElem?_eq_getElem (by omega)⟩
        have hfa := flat_at (enc := ec) (sz := ks.length) hec hb (q % ks.length) 1 (by omega)
        have e1 : q / ks.length * ks.length + q % ks.length = q := by rw [Nat.mul_comm]; exact hdm
        rw [e1] at hfa
        have e2 : (ec b)[q % ks.length]? = some y := by
          have := congrArg (fun z => z[0]?) hfa
          simp only [List.getElem?_take, List.getElem?_drop] at this
          simpa [hy] using this.symm
        obtain ⟨u, hu, hd⟩ := hl3 _ b hb (q % ks.length) hmod y e2
        rw [e1] at hu
        exact ⟨_, u, rfl, hu, hd ρ⟩
      · simp only [den]
        refine ⟨by simp [Z.v], by simp [Z.v, ilen], _, hv, by simp [Z.v, ilen, hl1], ?_⟩
        simp only [SlVal]
        exact .inl ⟨m, by simp [Z.v, ilen, hl1], by simp [Z.v, ilen, hl1]; exact hl, by simp [Z.v], by simp [Z.v]⟩
end

/-! ### The heap of what came -/
section
variable {P : Program} {N : Nat} {W0 W : World} {ρ : Nms} {l : List Blk}
theorem Rel.start (W : World) : Rel P W.heap.size W (fun _ => []) [] W :=
  ⟨⟨rfl, rfl, rfl, Nat.le_refl _, fun _ _ => rfl⟩, Nat.le_refl _, fun _ _ => rfl, (fun _ _ _ h => by cases h), (fun k B h => by simp at h), (fun k k' B vw vw' a a' h => by simp at h), (fun k B vw a h => by simp at h)⟩
theorem Rel.addRo (hR : Rel P N W0 ρ l W) {vw : View} {F : List SV} {sz : Nat} (hsz : 0 < sz) (hp : plains F = true) (hb : ∀ a, vw.base = some a → a.block < W.heap.size) (hv : ∀ ρ, ViewOk W ρ F vw)
    (hro : ∀ B ∈ l, B.wr = false) : Rel P N W0 (upd ρ l.length [vw]) (l ++ [.r true false (.l 0) sz F]) W := by
  have hle : Le l.length ρ (upd ρ l.length [vw]) := fun k hk vw hv => by rw [upd_other (by omega)]; exact hv
  have hwr : ∀ (k : Nat) (B : Blk), (l ++ [Blk.r true false (.l 0) sz F])[k]? = some B → B.wr = true → False := by
    intro k B hB hw
    rcases List.mem_append.1 (List.mem_of_getElem? hB) with h | h
    · rw [hro B h] at hw; cases hw
    · rw [List.mem_singleton] at h; subst h; cases hw
  refine ⟨hR.below, hR.le, fun k hk => ?_, fun k vw' a hv' ha => ?_, fun k B hB => ?_, fun k k' B vw vw' a a' hB hw => (hwr k B hB hw).elim, fun k B vw a hB hw => (hwr k B hB hw).elim⟩
  · simp only [List.length_append, List.length_singleton] at hk
    rw [upd_other (by omega)]; exact hR.out k (by omega)
  · by_cases hk : k = l.length
    · subst hk; rw [upd_same, List.mem_singleton] at hv'; subst hv'; exact hb a ha
    · rw [upd_other hk] at hv'; exact hR.ids k vw' a hv' ha
  · by_cases hk : k = l.length
    · subst hk
      rw [List.getElem?_append_right (Nat.le_refl _), Nat.sub_self] at hB
      simp only [List.getElem?_cons_zero, Option.some.injEq] at hB
      subst hB
      refine ⟨hsz, fun vw' hv' => ?_, fun _ x hx => plains_mem' hp x hx, (fun h => by cases h)⟩
      rw [upd_same, List.mem_singleton] at hv'; subst hv'; exact hv _
    · have hlt : k < l.length := by
        have := (List.getElem?_eq_some_iff.1 hB).1
        simp only [List.length_append, List.length_singleton] at this; omega
      rw [List.getElem?_append_left hlt] at hB
      exact (hR.blk k B hB).keep hle hR.out (upd_other hk) fun _ _ _ _ => rfl

/-- What a law's walk says of its call. -/
theorem law_calls {g n : Nat} {rs : List RV} {ir : IR} {args : List SV} {vals : Array Value} (hF : FnIs P g n rs ir) (hc : (S0 P).call g args l (fun x _ => Sub x .tt)) (hR : Rel P N W0 ρ l W) (hd : denL ρ args vals.toList) :
    Calls P g vals W fun e W' => e = .returned (.bool true) ∧ Below N W0 W' := by
  have h := hc N W0 ρ W vals hR hd
  obtain ⟨_, _, _, _, _, _, _, _, hg⟩ := hF
  rw [hg] at h
  refine Calls.mono h ?_
  rintro e W' ⟨v, rfl, ρ', sv, l', hs, _, _, hR', hdv⟩
  have := hs.of _ _ hdv
  simp only [den] at this
  exact ⟨by rw [this], hR'.below⟩
end

/-! ### The row -/
theorem trod_all_stays {H : Type} {enc : TypeId × Value → H} {P : Program} (hl : laidOutB P = true) {W W' : World} (hb : Below W.heap.size W W') : ∀ {ts : List TypeId} {vs : List Value} {ds : List (DataW H)} {ps : List MemPlace},
    (ts.all fun t => P.readableRec t && decide (t < P.types.size)) = true → (∀ x ∈ ps, x.block < W.heap.size) → DataW.TrodAll enc P W 0 (fun _ => true) true ts vs ds ps →
      DataW.TrodAll enc P W' 0 (fun b => decide (b < W.heap.size)) true ts vs ds ps
  | [], [], [], _, _, _, h => h
  | [], [], _ :: _, _, _, _, h => h.elim
  | [], _ :: _, _, _, _, _, h => h.elim
  | _ :: _, [], _, _, _, _, h => h.elim
  | _ :: _, _ :: _, [], _, _, _, h => h.elim
  | t :: ts, v :: vs, d :: ds, ps, hr, hlt, ⟨p, q, h1, h2, e⟩ => by
    subst e
    simp only [List.all_cons, Bool.and_eq_true, decide_eq_true_eq] at hr
    exact ⟨p, q, Below.trod hl hr.1.1 hr.1.2 h1 hb fun x hx => hlt x (List.mem_append.2 (.inl hx)), trod_all_stays hl hb hr.2 (fun x hx => hlt x (List.mem_append.2 (.inr hx))) h2, rfl⟩

theorem post_law {H : Type} {enc : TypeId × Value → H} {P : Program} {f : Func} {s : ChangeSpec} {W W' : World} {args : Array Value} {ds gs : List (DataW H)} {before : List MemPlace} {tb : TypeId} (hl : laidOutB P = true) (hW : DataW.Whole enc P f.params.toList s.vars false W args.toList ds gs before)
    (hvars : s.vars = []) (hr : (f.params.toList.all fun t => P.readableRec t && decide (t < P.types.size)) = true) (hrt : f.resultTypes = #[tb]) (htb : P.underlying tb = some .bool)
    (hfn : s.fn H (ds ++ gs) = { results := [.lit (.bool true)], args := ds }) (hb : Below W.heap.size W W') : s.post enc P f false true false false W args (.bool true) W' := by
  have hlt := hW.lt
  have hW0 := hW
  obtain ⟨p, q, hA, hV, e, _, _⟩ := hW
  rw [hvars] at hV
  have hq : q = [] ∧ gs = [] := by
    cases gs with
    | nil => exact ⟨hV, rfl⟩
    | cons _ _ => exact hV.elim
  obtain ⟨rfl, rfl⟩ := hq
  refine ⟨ds, [], before, [], p, [], hW0, ?_, ?_, ?_, hb.frame _, (fun h => by cases h)⟩
  · rw [hfn, hrt]
    exact ⟨[], [], ⟨1, by simp [DataW.trod, htb, Value.cells]⟩, rfl, rfl⟩
  · rw [hfn]
    exact trod_all_stays hl hb hr (fun x hx => hlt x (by rw [e]; exact List.mem_append.2 (.inl hx))) hA
  · rw [hfn, hvars]
    rfl
end Cz
