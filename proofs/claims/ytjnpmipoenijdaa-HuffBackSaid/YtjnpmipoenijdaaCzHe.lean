/- Huff, part E: whose code it is. -/
import Derived.Test.YtjnpmipoenijdaaCzHd
namespace Cz
open Go Go.RowKit Go.Proofs
set_option linter.unusedSimpArgs false
set_option linter.unusedVariables false
set_option maxRecDepth 100000
set_option maxHeartbeats 4000000
def findO (a m : Int) : Option Nat := if 0 ≤ a ∧ 0 ≤ m then Hu.find a.toNat m.toNat else none
def findR (a m : Int) : Int := match findO a m with | some c => c | none => 0
def findB (a m : Int) : Bool := (findO a m).isSome
theorem findO_some {a m : Int} {c : Nat} (h : findO a m = some c) : c < 256 ∧ codeI c = a ∧ clsI c = m := by
  unfold findO at h
  split at h
  · rename_i h0
    obtain ⟨h1, h2, h3⟩ := Hu.find_some h
    refine ⟨h1, ?_, ?_⟩
    · unfold codeI; simp only [Int.toNat_natCast, h2]; omega
    · unfold clsI; simp only [Int.toNat_natCast, h3]; omega
  · cases h
theorem findO_none {a m : Int} (h : findO a m = none) {c : Nat} (hc : c < 256) : ¬(codeI c = a ∧ clsI c = m) := by
  rintro ⟨rfl, rfl⟩
  unfold findO codeI clsI at h
  simp only [Int.toNat_natCast] at h
  rw [if_pos ⟨by omega, by omega⟩, Hu.find_code hc] at h
  cases h
theorem vlook_some {S : Sy} (hS : S0 Try.prog = S) {x y zero : SV} {a b : Z} {K : SV → Bool → Prop} {c : Nat} (h1 : codeI c = a.v) (h2 : clsI c = b.v) (hK : K (.i .u8 (.y c)) true) : ∀ (l : List Nat), c ∈ l →
    vlook S ⟨true, [.ki, .ki]⟩ (.ag [.i .i64 a, .i .i64 b]) K zero (l.map ent)
  | [], h => by cases h
  | k :: l, h => by
    simp only [List.map_cons, ent, vlook]
    refine veq_2 hS (fun e1 e2 => ?_) fun hn => ?_
    · have : k = c := by
        have e3 := e1.symm.trans h1.symm
        have e4 := e2.symm.trans h2.symm
        unfold codeI at e3; unfold clsI at e4
        simp only [Int.toNat_natCast] at e3 e4
        exact Hu.code_inj (by omega) (by omega)
      rw [this]; exact hK
    · rcases List.mem_cons.1 h with rfl | h
      · rcases hn with hn | hn
        · exact absurd h1.symm hn
        · exact absurd h2.symm hn
      · exact vlook_some (x := x) (y := y) hS h1 h2 hK l h
theorem vlook_none {S : Sy} (hS : S0 Try.prog = S) {zero : SV} {a b : Z} {K : SV → Bool → Prop} (hK : K zero false) : ∀ (l : List Nat), (∀ c ∈ l, ¬(codeI c = a.v ∧ clsI c = b.v)) →
    vlook S ⟨true, [.ki, .ki]⟩ (.ag [.i .i64 a, .i .i64 b]) K zero (l.map ent)
  | [], h => by simpa [vlook] using hK
  | k :: l, h => by
    simp only [List.map_cons, ent, vlook]
    refine veq_2 hS (fun e1 e2 => ?_) fun _ => vlook_none hS hK l fun c hc => h c (List.mem_cons_of_mem _ hc)
    exact absurd ⟨e1.symm, e2.symm⟩ (h k (List.mem_cons_self ..))
/-- Whose code it is, looked up. -/
theorem look_known {S : Sy} (hS : S0 Try.prog = S) {T : List (SV × SV)} (hT : knownE 256 = T) {a b : Z} {K : SV → Bool → Prop} {zero : SV}
    (h1 : ∀ c : Int, findO a.v b.v = some c.toNat → 0 ≤ c → c < 256 → K (.i .u8 (.y c)) true) (h2 : findO a.v b.v = none → K zero false) :
    S.lk ⟨true, [.ki, .ki]⟩ (.ag [.i .i64 a, .i .i64 b]) K zero T := by
  refine s_lk hS ?_
  subst hT
  unfold knownE
  cases hf : findO a.v b.v with
  | some c =>
    obtain ⟨hc, e1, e2⟩ := findO_some hf
    exact vlook_some (x := zero) (y := zero) hS e1 e2 (h1 c (by simpa using hf) (by omega) (by omega)) _ (by simp [hc])
  | none => exact vlook_none hS (h2 hf) _ fun c hc => findO_none hf (by simpa using hc)
theorem Of_f {a m r : Int} {b : Bool} (hr : findR a m = r) (hb : findB a m = b) : (S0 Try.prog).call 15 [.i .i64 (.y a), .i .i64 (.y m)] [] (fun x _ => Sub x (.tp [.i .u8 (.y r), .b b])) := by
  generalize hT : knownE 256 = T
  have hk := known_f hT
  generalize hS : S0 Try.prog = S
  refine call_in' hS I.fn_huff_Of ?_
  cbv
  refine use_map hS (l0 := []) id hk .nil rfl trivial ?_
  cbv
  refine look_known hS hT (fun c hc h0 h1 => ?_) fun hc => ?_
  · have e1 : r = c := by rw [← hr]; unfold findR; simp only [Z.v] at hc; rw [hc]; simp; omega
    have e2 : b = true := by rw [← hb]; unfold findB; simp only [Z.v] at hc; rw [hc]; rfl
    cbv; (repeat' (first | exact sub_any | exact Sub.rfl | exact SubL.nil | refine SubL.cons ?_ ?_ | exact sub_i rfl | refine sub_tp ?_ | refine sub_ag ?_ | exact sub_tt rfl | exact sub_ff rfl | exact sub_b_tt rfl | exact sub_b_ff rfl | (refine sub_i ?_; simp only [Z.v]; omega) | (refine sub_b ?_; assumption) | (refine sub_b ?_; simp only [← hS, Int.ofNat_eq_natCast, cq, decide_eq_true_eq, decide_eq_false_iff_not, beq_iff_eq, beq_eq_false_iff_ne, ne_eq]; done) | (refine sub_tt ?_; assumption) | (refine sub_ff ?_; assumption)))
  · have e1 : r = 0 := by rw [← hr]; unfold findR; simp only [Z.v] at hc; rw [hc]
    have e2 : b = false := by rw [← hb]; unfold findB; simp only [Z.v] at hc; rw [hc]; rfl
    cbv; (repeat' (first | exact sub_any | exact Sub.rfl | exact SubL.nil | refine SubL.cons ?_ ?_ | exact sub_i rfl | refine sub_tp ?_ | refine sub_ag ?_ | exact sub_tt rfl | exact sub_ff rfl | exact sub_b_tt rfl | exact sub_b_ff rfl | (refine sub_i ?_; simp only [Z.v]; omega) | (refine sub_b ?_; assumption) | (refine sub_b ?_; simp only [← hS, Int.ofNat_eq_natCast, cq, decide_eq_true_eq, decide_eq_false_iff_not, beq_iff_eq, beq_eq_false_iff_ne, ne_eq]; done) | (refine sub_tt ?_; assumption) | (refine sub_ff ?_; assumption)))
end Cz
