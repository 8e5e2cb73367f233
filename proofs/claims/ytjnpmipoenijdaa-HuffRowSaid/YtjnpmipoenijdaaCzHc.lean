/- Huff, part C: a byte's code; whose code it is. -/
import Derived.Test.YtjnpmipoenijdaaCzHb
import Derived.Test.YtjnpmipoenijdaaCzZ2
namespace Cz
open Go Go.RowKit Go.Proofs
set_option linter.unusedSimpArgs false
set_option linter.unusedVariables false
set_option maxRecDepth 100000
set_option maxHeartbeats 4000000
theorem upto_at {c : Nat} (h : c < 256) : ((upto 256).drop (c * 2)).take 2 = cellC c := by
  have e : upto 256 = (List.range 256).flatMap cellC := by simp [upto]
  rw [e]
  have := flat_at (enc := cellC) (sz := 2) (fun _ => rfl) (l := List.range 256) (i := c) (a := c) (by simp [h]) 0 2 (Nat.le_refl _)
  simpa [cellC] using this
/-- A byte's code, read. -/
theorem code_rd {S : Sy} (hS : S0 Try.prog = S) {T : List SV} (hT : codeLit = T) {c : Int} {K : SV → Prop} (h0 : 0 ≤ c) (h : c < 256)
    (h1 : ∀ a m, codeI c = a → clsI c = m → K (.ag [.i .i64 (.y a), .i .i64 (.y m)])) : S.rd T c 2 0 2 true K := by
  subst hT
  rw [← codeLit_eq]
  refine s_rd hS h0 (by rw [upto_len (Nat.le_refl _)]; omega) (Nat.le_refl _) (v := .ag [.i .i64 (.y (codeI c)), .i .i64 (.y (clsI c))]) ?_ (h1 _ _ rfl rfl)
  rw [Nat.add_zero, upto_at (by omega)]
  rfl
theorem codeLit_len {T : List SV} (hT : codeLit = T) : lenS T = 512 := by rw [lenS_eq, ← hT, ← codeLit_eq, upto_len (Nat.le_refl _)]
theorem Code_f {c a m : Int} (h0 : 0 ≤ c) (h : c < 256) (ha : codeI c = a) (hm : clsI c = m) : (S0 Try.prog).call 13 [.i .u8 (.y c)] [] (fun x _ => Sub x (.tp [.i .i64 (.y a), .i .i64 (.y m)])) := by
  have hc := codes_f
  generalize hT : codeLit = T at hc
  generalize hS : S0 Try.prog = S
  refine call_in' hS I.fn_huff_Code ?_
  cbv
  refine use_val hS hc .rfl rfl (by rw [← hT]; rfl) ?_
  cbv
  refine ite_ok (lenS_m (codeLit_len hT)) ?_
  cbv
  refine code_rd hS hT h0 h fun a' m' ha' hm' => ?_
  obtain rfl : a' = a := ha'.symm.trans ha
  obtain rfl : m' = m := hm'.symm.trans hm
  cbv
  repeat' (first
      | (refine s_eqs hS rfl ?_; try cbv)
      | (refine s_eqt hS rfl ?_ ?_; (focus (cbv; (repeat' (first | exact trivial | rfl | refine And.intro ?_ ?_ | assumption | omega | (simp only [← hS, Int.ofNat_eq_natCast, cq, decide_eq_true_eq, decide_eq_false_iff_not, beq_iff_eq, beq_eq_false_iff_ne, ne_eq]; done) | (simp only [← hS, Int.ofNat_eq_natCast, cq, decide_eq_true_eq, decide_eq_false_iff_not, beq_iff_eq, beq_eq_false_iff_ne, ne_eq]; first | assumption | omega))); done)); try cbv)
      | (refine s_eqo hS ?_; try cbv)
      | (refine s_lk hS ?_; try cbv)
      | (refine s_mu hS ?_; try cbv)
      | (refine s_chk hS (by simp only [← hS, Int.ofNat_eq_natCast, cq, decide_eq_true_eq, decide_eq_false_iff_not, beq_iff_eq, beq_eq_false_iff_ne, ne_eq]; omega) ?_; try cbv)
      | (refine s_br hS ?_ ?_ <;> intro h <;> (try cbv) <;> (try simp only [← hS, Int.ofNat_eq_natCast, cq, decide_eq_true_eq, decide_eq_false_iff_not, beq_iff_eq, beq_eq_false_iff_ne, ne_eq] at h) <;> first | (exfalso; omega) | (exact absurd trivial h) | (exact (no_tf h).elim) | (exact (no_ft h).elim) | (exact (no_both h (by with_reducible assumption)).elim) | (exact (no_both (by with_reducible assumption) h).elim) | skip)
      | (refine s_add hS ?_ (by simp only [lo]; omega) (by simp only [hi]; omega); intro _ _; try cbv)
      | (refine s_sub hS ?_ (by simp only [lo]; omega) (by simp only [hi]; omega); intro _ _; try cbv)
      | (refine s_cvi hS ?_ (by simp only [lo]; omega) (by simp only [hi]; omega); try cbv)
      | (refine s_draw hS rfl I.ord_huff_Code_0 (by decide +kernel) ?_; cbv))
  all_goals (cbv; (repeat' (first | exact sub_any | exact Sub.rfl | exact SubL.nil | refine SubL.cons ?_ ?_ | exact sub_i rfl | refine sub_tp ?_ | refine sub_ag ?_ | exact sub_tt rfl | exact sub_ff rfl | exact sub_b_tt rfl | exact sub_b_ff rfl | (refine sub_i ?_; simp only [Z.v]; omega) | (refine sub_b ?_; assumption) | (refine sub_b ?_; simp only [← hS, Int.ofNat_eq_natCast, cq, decide_eq_true_eq, decide_eq_false_iff_not, beq_iff_eq, beq_eq_false_iff_ne, ne_eq]; done) | (refine sub_tt ?_; assumption) | (refine sub_ff ?_; assumption))))
end Cz
