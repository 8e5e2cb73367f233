/- The engine, part Y: regions that draw their order. No condition. -/
import Derived.Test.YtjnpmipoenijdaaCzX
namespace Cz
open Go Go.RowKit
set_option linter.unusedSimpArgs false
set_option linter.unusedVariables false

def geta : List AO → Nat → Option AO
  | [], _ => none
  | a :: _, 0 => some a
  | _ :: l, n + 1 => geta l n
theorem geta_eq : ∀ (l : List AO) (n : Nat), geta l n = l[n]?
  | [], _ => rfl
  | _ :: _, 0 => by simp [geta]
  | _ :: l, n + 1 => by simp [geta, geta_eq l n]

def AO.rd (o : AO) : List Nat := match o.g with | none => o.op.rd | some (s, _) => s :: o.op.rd
def hasN (l : List Nat) (n : Nat) : Bool := l.any (Nat.beq n)
theorem hasN_iff {l : List Nat} {n : Nat} : hasN l n = true ↔ n ∈ l := by
  unfold hasN
  rw [List.any_eq_true]
  exact ⟨fun ⟨x, hx, h⟩ => by rw [Nat.beq_eq] at h; rw [h]; exact hx, fun h => ⟨n, h, Nat.beq_refl n⟩⟩
/-- Does o write what p reads or writes? -/
def clash (o p : AO) : Bool := match o.dst with
  | none => false
  | some d => hasN p.rd d || (match p.dst with | some d' => Nat.beq d d' | none => false)
/-- Does o read what p writes? -/
def takes (o p : AO) : Bool := match p.dst with
  | none => false
  | some d => hasN o.rd d

def cloGo : List (List Nat) → List Nat → List Nat
  | [], acc => acc
  | p :: ps, acc => cloGo ps (acc ++ [p.foldl (fun m j => m ||| (1 <<< j) ||| acc.getD j 0) 0])
def bef (cl : List Nat) (i j : Nat) : Bool := (cl.getD j 0).testBit i

def light (o : AO) : Bool := o.op.pure || o.op.reads

/-- Does an operation wait for nobody, and is it in nobody's way? -/
def settles (aos : List AO) (prev : List Nat) (o : AO) : Bool :=
  light o && !takes o o && prev.all fun j => match geta aos j with | none => false | some p => !clash o p

def okFrom (aos : List AO) (cl : List Nat) : List Nat → List (Nat × List Nat) → Bool
  | _, [] => true
  | prev, (i, fl) :: r => (match geta aos i with
    | none => false
    | some o => !hasN prev i && (prev.all fun j => match geta aos j with | none => false | some p => !takes o p || bef cl j i) &&
      (if settles aos prev o = true then fl.isEmpty
       else (fl.all fun j => match geta aos j with | none => false | some p => p.op.reads) && (r.all fun k => bef cl i k.1) && prev.all fun j => match geta aos j with | none => false | some p => (!clash o p || bef cl j i) && (bef cl j i || p.op.pure || (p.op.reads && hasN fl j)))) &&
    okFrom aos cl (i :: prev) r

def preLt : Nat → List (List Nat) → Bool
  | _, [] => true
  | i, p :: ps => p.all (fun j => decide (j < i)) && preLt (i + 1) ps

def drawOk (aos : List AO) (pre : List (List Nat)) (ord : List (Nat × List Nat)) : Bool :=
  preLt 0 pre && decide (ord.length = aos.length) && (ord.all fun k => decide (k.1 < aos.length)) && ((List.range aos.length).all fun i => ord.any fun k => Nat.beq k.1 i) && okFrom aos (cloGo pre []) [] ord

def isO (vs : List SV) (d : Option Nat) (v : SV) : Prop := match d with | none => True | some d => v = nth vs d
def chkF (S : Sy) (o : AO) (vs : List SV) (l : List Blk) (X : Unit → Prop) : Prop :=
  match o.g with
  | none => vop S o.op vs l fun v _ => isO vs o.dst v ∧ X ()
  | some (s, want) => match nth vs s, want with
    | .tt, true => vop S o.op vs l fun v _ => isO vs o.dst v ∧ X ()
    | .ff, false => vop S o.op vs l fun v _ => isO vs o.dst v ∧ X ()
    | .tt, false => isO vs o.dst .un ∧ X ()
    | .ff, true => isO vs o.dst .un ∧ X ()
    | .un, _ => isO vs o.dst .un ∧ X ()
    | _, _ => False
def stab (S : Sy) (aos : List AO) : List Nat → List SV → List Blk → (Unit → Prop) → Prop
  | [], _, _, X => X ()
  | j :: fl, vs, l, X => match geta aos j with
    | none => False
    | some o => chkF S o vs l fun _ => stab S aos fl vs l X

def vdr (S : Sy) (aos : List AO) (K : List SV → List Blk → Prop) : List (Nat × List Nat) → List SV → List Blk → Prop
  | [], vs, l => K vs l
  | (i, fl) :: r, vs, l => match geta aos i with
    | none => False
    | some o => match o.g with
      | none => vop S o.op vs l fun v l' => stab S aos fl (putO vs o.dst v) l' fun _ => vdr S aos K r (putO vs o.dst v) l'
      | some (s, want) => match nth vs s with
        | .un => stab S aos fl (putO vs o.dst .un) l fun _ => vdr S aos K r (putO vs o.dst .un) l
        | x => brv S x
          (fun _ => if want then vop S o.op (put vs s .tt) l fun v l' => stab S aos fl (putO (put vs s .tt) o.dst v) l' fun _ => vdr S aos K r (putO (put vs s .tt) o.dst v) l'
            else stab S aos fl (putO (put vs s .tt) o.dst .un) l fun _ => vdr S aos K r (putO (put vs s .tt) o.dst .un) l)
          (fun _ => if want then stab S aos fl (putO (put vs s .ff) o.dst .un) l fun _ => vdr S aos K r (putO (put vs s .ff) o.dst .un) l
            else vop S o.op (put vs s .ff) l fun v l' => stab S aos fl (putO (put vs s .ff) o.dst v) l' fun _ => vdr S aos K r (putO (put vs s .ff) o.dst v) l')

/-! ### Orders -/
def RgA (P : Program) (ops : Array Oper) (Q : Act → World → Prop) : Nat → Array Bool → Act → World → Prop
  | 0, _, a, w => Q a w
  | n + 1, L, a, w => (Region.ready .any ops L = [] → Q a w) ∧ ∀ i ∈ Region.ready .any ops L, ∀ o, ops[i]? = some o →
      if Region.wanted o (yielded ops a.tmps) then OpRuns P o a w (fun v w' => RgA P ops Q n (L.setIfInBounds i true) (a.put o.dst v) w')
      else RgA P ops Q n (L.setIfInBounds i true) (a.put o.dst undef) w

theorem OpRuns.mono {P : Program} {o : Oper} {a : Act} {w : World} {R R' : Value → World → Prop} (h : OpRuns P o a w R) (hR : ∀ v w, R v w → R' v w) : OpRuns P o a w R' :=
  ⟨h.1, NextR.mono hR h.2⟩

theorem rga_sound {P : Program} {ops : Array Oper} {Q : Act → World → Prop} : ∀ (n t : Nat) (L : Array Bool) (a : Act) (w : World), RgA P ops Q n L a w →
    Rg P ops Q (Region.linearise.go .any ops n t L []) a w := by
  intro n
  induction n with
  | zero => intro t L a w h; simpa [Region.linearise.go, Rg, RgA] using h
  | succ n ih =>
    intro t L a w h
    obtain ⟨h0, h1⟩ := h
    simp only [Region.linearise.go]
    change Rg P ops Q (match (Region.ready .any ops L)[t % (Region.ready .any ops L).length]? with
      | some i => Region.linearise.go .any ops n (t / (Region.ready .any ops L).length) (L.setIfInBounds i true) [i]
      | none => [].reverse) a w
    cases hi : (Region.ready .any ops L)[t % (Region.ready .any ops L).length]? with
    | none =>
      have hnil : Region.ready .any ops L = [] := by
        cases hr : Region.ready .any ops L with
        | nil => rfl
        | cons x xs =>
          rw [hr] at hi
          have hlt : t % (x :: xs).length < (x :: xs).length := Nat.mod_lt _ (by simp)
          simp at hi
          simp at hlt
          omega
      simpa [Rg] using h0 hnil
    | some i =>
      simp only []
      rw [linearise_go_acc, List.reverse_singleton, List.singleton_append]
      have hm := List.mem_of_getElem? hi
      obtain ⟨_, o, ho, _⟩ := mem_ready.1 hm
      have h2 := h1 i hm o ho
      simp only [Rg, ho]
      split
      · rename_i hw
        rw [if_pos hw] at h2
        exact h2.mono fun v w' h => ih _ _ _ _ h
      · rename_i hw
        rw [if_neg hw] at h2
        exact ih _ _ _ _ h2

/-! ### What is ahead -/
theorem foldl_bit {acc : List Nat} {i : Nat} : ∀ (p : List Nat) (m : Nat), (p.foldl (fun m j => m ||| (1 <<< j) ||| acc.getD j 0) m).testBit i = true →
    m.testBit i = true ∨ ∃ j ∈ p, i = j ∨ (acc.getD j 0).testBit i = true
  | [], m, h => .inl h
  | j :: p, m, h => by
    rw [List.foldl_cons] at h
    rcases foldl_bit p _ h with h1 | ⟨k, hk, h1⟩
    · rw [Nat.testBit_or, Nat.testBit_or, Bool.or_eq_true, Bool.or_eq_true] at h1
      rcases h1 with (h1 | h1) | h1
      · exact .inl h1
      · rw [Nat.one_shiftLeft, Nat.testBit_two_pow] at h1
        have h2 : j = i := by simpa using h1
        exact .inr ⟨j, by simp, .inl h2.symm⟩
      · exact .inr ⟨j, by simp, .inr h1⟩
    · exact .inr ⟨k, by simp [hk], h1⟩

theorem clo_keep : ∀ (ps : List (List Nat)) (acc : List Nat) (j : Nat), j < acc.length → (cloGo ps acc).getD j 0 = acc.getD j 0
  | [], _, _, _ => rfl
  | p :: ps, acc, j, h => by
    rw [cloGo, clo_keep ps _ j (by simp; omega)]
    simp [List.getD_eq_getElem?_getD, List.getElem?_append_left h]
theorem clo_len : ∀ (ps : List (List Nat)) (acc : List Nat), (cloGo ps acc).length = acc.length + ps.length
  | [], _ => rfl
  | p :: ps, acc => by rw [cloGo, clo_len ps]; simp; omega
theorem clo_spec {i : Nat} : ∀ (ps : List (List Nat)) (acc : List Nat) (j : Nat), acc.length ≤ j → bef (cloGo ps acc) i j = true →
    ∃ p, ps[j - acc.length]? = some p ∧ ∃ q ∈ p, i = q ∨ (q < j ∧ bef (cloGo ps acc) i q = true)
  | [], acc, j, hj, h => by
    simp only [cloGo, bef, List.getD_eq_getElem?_getD, List.getElem?_eq_none hj] at h
    simp at h
  | p :: ps, acc, j, hj, h => by
    rcases Nat.eq_or_lt_of_le hj with e | e
    · subst e
      refine ⟨p, by simp, ?_⟩
      simp only [bef] at h
      rw [cloGo, clo_keep _ _ _ (by simp)] at h
      simp only [List.getD_eq_getElem?_getD, List.getElem?_append_right (Nat.le_refl _), Nat.sub_self, List.getElem?_cons_zero, Option.getD_some] at h
      have h' : (p.foldl (fun m j => m ||| (1 <<< j) ||| acc.getD j 0) 0).testBit i = true := by simpa only [List.getD_eq_getElem?_getD] using h
      rcases foldl_bit p 0 h' with h1 | ⟨q, hq, h1⟩
      · simp at h1
      · refine ⟨q, hq, h1.imp id fun h1 => ?_⟩
        have hlt : q < acc.length := by
          rcases Nat.lt_or_ge q acc.length with h2 | h2
          · exact h2
          · simp [List.getD_eq_getElem?_getD, List.getElem?_eq_none h2] at h1
        refine ⟨hlt, ?_⟩
        simp only [bef]
        rw [cloGo, clo_keep _ _ _ (by simp; omega)]
        rw [List.getD_eq_getElem?_getD, List.getElem?_append_left hlt, ← List.getD_eq_getElem?_getD]
        exact h1
    · rw [cloGo] at h
      obtain ⟨r, hr, q, hq, h1⟩ := clo_spec ps _ j (by simp; omega) h
      refine ⟨r, ?_, q, hq, by rw [cloGo]; exact h1⟩
      rw [List.length_append, List.length_singleton] at hr
      rw [show j - acc.length = (j - (acc.length + 1)) + 1 by omega, List.getElem?_cons_succ]
      exact hr

theorem preLt_spec : ∀ (ps : List (List Nat)) (i : Nat), preLt i ps = true → ∀ (j : Nat) (p : List Nat), ps[j]? = some p → ∀ q ∈ p, q < i + j
  | [], _, _, j, p, h => by simp at h
  | p :: ps, i, h, 0, r, hr => by
    simp only [List.getElem?_cons_zero, Option.some.injEq] at hr; subst hr
    simp only [preLt, Bool.and_eq_true, List.all_eq_true, decide_eq_true_eq] at h
    simpa using h.1
  | p :: ps, i, h, j + 1, r, hr => by
    simp only [preLt, Bool.and_eq_true] at h
    intro q hq
    have := preLt_spec ps (i + 1) h.2 j r (by simpa using hr) q hq
    omega

/-- Whatever is ahead of what may go is done. -/
theorem bef_listed {pre : List (List Nat)} {D : Nat → Prop} (hc : ∀ j, D j → ∀ p, pre[j]? = some p → ∀ q ∈ p, D q) {i : Nat} : ∀ (j : Nat),
    (∀ p, pre[j]? = some p → ∀ q ∈ p, D q) → bef (cloGo pre []) i j = true → D i := by
  intro j
  induction j using Nat.strongRecOn with
  | ind j ih =>
    intro h hb
    obtain ⟨p, hp, q, hq, h1⟩ := clo_spec pre [] j (Nat.zero_le _) hb
    have hD := h p (by simpa using hp) q hq
    rcases h1 with rfl | ⟨hlt, h2⟩
    · exact hD
    · exact ih q hlt (hc q hD) h2
end Cz
