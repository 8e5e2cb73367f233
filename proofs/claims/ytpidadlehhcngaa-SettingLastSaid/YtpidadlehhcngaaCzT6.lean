/- Setting, part F: what the document says of two SETTINGS, of two acks. -/
import Derived.Test.YtpidadlehhcngaaCzT5
namespace Cz
open Go Go.RowKit Go.Proofs
set_option linter.unusedSimpArgs false
set_option linter.unusedVariables false
set_option maxRecDepth 100000
set_option maxHeartbeats 4000000
theorem wakes_f : (S0 Try.prog).call 7 [] [] (fun x _ => Sub x .tt) := by
  generalize hS : S0 Try.prog = S
  refine call_in' hS I.fn_causeylaw21_wakes ?_
  cbv
  refine call_in' hS I.fn_setting_New ?_
  cbv
  refine take_l hS rfl [(4, 9), (4, 7), (77, 1)] (by simp [POk]) rfl (by decide) rfl (SubL.fsub (by cbv; (repeat' (first | exact sub_any | exact Sub.rfl | exact SubL.nil | refine SubL.cons ?_ ?_ | exact sub_i rfl | refine sub_tp ?_ | refine sub_ag ?_ | exact sub_tt rfl | exact sub_ff rfl | exact sub_b_tt rfl | exact sub_b_ff rfl | (refine sub_i ?_; simp only [Z.v]; omega) | (refine sub_b ?_; assumption) | (refine sub_b ?_; simp only [← hS, cmp_le, cmp_lt, cmp_ge, cmp_gt, cmp_eq, cmp_ne, pl_eq, mi_eq, sc_eq, slen_eq, flen_eq, nt_eq, beq_eq, scmp_eq, scmp_ne, decide_eq_true_eq, decide_eq_false_iff_not, Bool.not_eq_true', Bool.not_eq_false', Bool.not_true, Bool.not_false, beq_iff_eq, beq_eq_false_iff_ne, ne_eq]; done) | (refine sub_tt ?_; assumption) | (refine sub_ff ?_; assumption))))) ⟨⟨true, 4096, 7, 16384, -1, false, false, 1, 1⟩, false, 0, 0, 0⟩ rfl ?_
  cbv
  refine ack_l hS rfl ⟨⟨true, 4096, 7, 16384, -1, false, false, 1, 0⟩, false, 0, 0, 0⟩ rfl ?_
  cbv
  refine ack_l hS rfl ⟨⟨true, 4096, 7, 16384, -1, false, false, 1, 0⟩, true, 0, 1, 0⟩ rfl ?_
  cbv
  refine take_l hS rfl [(9, 1)] (by simp [POk]) rfl (by decide) rfl (SubL.fsub (by cbv; (repeat' (first | exact sub_any | exact Sub.rfl | exact SubL.nil | refine SubL.cons ?_ ?_ | exact sub_i rfl | refine sub_tp ?_ | refine sub_ag ?_ | exact sub_tt rfl | exact sub_ff rfl | exact sub_b_tt rfl | exact sub_b_ff rfl | (refine sub_i ?_; simp only [Z.v]; omega) | (refine sub_b ?_; assumption) | (refine sub_b ?_; simp only [← hS, cmp_le, cmp_lt, cmp_ge, cmp_gt, cmp_eq, cmp_ne, pl_eq, mi_eq, sc_eq, slen_eq, flen_eq, nt_eq, beq_eq, scmp_eq, scmp_ne, decide_eq_true_eq, decide_eq_false_iff_not, Bool.not_eq_true', Bool.not_eq_false', Bool.not_true, Bool.not_false, beq_iff_eq, beq_eq_false_iff_ne, ne_eq]; done) | (refine sub_tt ?_; assumption) | (refine sub_ff ?_; assumption))))) ⟨⟨true, 4096, 7, 16384, -1, false, false, 1, 1⟩, true, 0, 1, 0⟩ rfl ?_
  cbv
  refine take_l hS rfl [(5, 1)] (by simp [POk]) rfl (by decide) rfl (SubL.fsub (by cbv; (repeat' (first | exact sub_any | exact Sub.rfl | exact SubL.nil | refine SubL.cons ?_ ?_ | exact sub_i rfl | refine sub_tp ?_ | refine sub_ag ?_ | exact sub_tt rfl | exact sub_ff rfl | exact sub_b_tt rfl | exact sub_b_ff rfl | (refine sub_i ?_; simp only [Z.v]; omega) | (refine sub_b ?_; assumption) | (refine sub_b ?_; simp only [← hS, cmp_le, cmp_lt, cmp_ge, cmp_gt, cmp_eq, cmp_ne, pl_eq, mi_eq, sc_eq, slen_eq, flen_eq, nt_eq, beq_eq, scmp_eq, scmp_ne, decide_eq_true_eq, decide_eq_false_iff_not, Bool.not_eq_true', Bool.not_eq_false', Bool.not_true, Bool.not_false, beq_iff_eq, beq_eq_false_iff_ne, ne_eq]; done) | (refine sub_tt ?_; assumption) | (refine sub_ff ?_; assumption))))) ⟨⟨true, 4096, 7, 16384, -1, false, false, 1, 1⟩, false, 0, 0, 2⟩ rfl ?_
  cbv
  refine paid_l hS rfl (⟨true, 4096, 7, 16384, -1, false, false, 0, 1⟩, true) rfl ?_
  cbv
  refine paid_l hS rfl (⟨true, 4096, 7, 16384, -1, false, false, 0, 1⟩, false) rfl ?_
  cbv
  refine call_in' hS I.fn_setting_Ours ?_
  cbv
  repeat' (first
      | (refine s_eqs hS rfl ?_; try cbv)
      | (refine s_eqt hS rfl ?_ ?_; (focus (cbv; (repeat' (first | exact trivial | rfl | refine And.intro ?_ ?_ | assumption | omega | (simp only [← hS, cmp_le, cmp_lt, cmp_ge, cmp_gt, cmp_eq, cmp_ne, pl_eq, mi_eq, sc_eq, slen_eq, flen_eq, nt_eq, beq_eq, scmp_eq, scmp_ne, decide_eq_true_eq, decide_eq_false_iff_not, Bool.not_eq_true', Bool.not_eq_false', Bool.not_true, Bool.not_false, beq_iff_eq, beq_eq_false_iff_ne, ne_eq]; done) | (simp only [← hS, cmp_le, cmp_lt, cmp_ge, cmp_gt, cmp_eq, cmp_ne, pl_eq, mi_eq, sc_eq, slen_eq, flen_eq, nt_eq, beq_eq, scmp_eq, scmp_ne, decide_eq_true_eq, decide_eq_false_iff_not, Bool.not_eq_true', Bool.not_eq_false', Bool.not_true, Bool.not_false, beq_iff_eq, beq_eq_false_iff_ne, ne_eq]; first | assumption | omega))); done)); try cbv)
      | (refine s_eqo hS ?_; try cbv)
      | (refine s_chk hS (by simp only [← hS, cmp_le, cmp_lt, cmp_ge, cmp_gt, cmp_eq, cmp_ne, pl_eq, mi_eq, sc_eq, slen_eq, flen_eq, nt_eq, beq_eq, scmp_eq, scmp_ne, decide_eq_true_eq, decide_eq_false_iff_not, Bool.not_eq_true', Bool.not_eq_false', Bool.not_true, Bool.not_false, beq_iff_eq, beq_eq_false_iff_ne, ne_eq]; omega) ?_; try cbv)
      | (refine s_br hS ?_ ?_ <;> intro h <;> (try cbv) <;> (try simp only [← hS, cmp_le, cmp_lt, cmp_ge, cmp_gt, cmp_eq, cmp_ne, pl_eq, mi_eq, sc_eq, slen_eq, flen_eq, nt_eq, beq_eq, scmp_eq, scmp_ne, decide_eq_true_eq, decide_eq_false_iff_not, Bool.not_eq_true', Bool.not_eq_false', Bool.not_true, Bool.not_false, beq_iff_eq, beq_eq_false_iff_ne, ne_eq] at h) <;> first | (exfalso; omega) | (exact absurd trivial h) | (exact (no_tf h).elim) | (exact (no_ft h).elim) | (exact (no_both h (by with_reducible assumption)).elim) | (exact (no_both (by with_reducible assumption) h).elim) | skip)
      | (refine s_add hS ?_ (by simp only [lo]; omega) (by simp only [hi]; omega); intro _ _; try cbv)
      | (refine s_sub hS ?_ (by simp only [lo]; omega) (by simp only [hi]; omega); intro _ _; try cbv)
      | (refine s_cvi hS ?_ (by simp only [lo]; omega) (by simp only [hi]; omega); try cbv)
      | (refine fits_l hS _ rfl ?_; cbv)
      | (refine call_in' hS I.fn_setting_Ours_1 ?_; cbv)
      | (refine call_in' hS I.fn_setting_Ours ?_; cbv)
      | (refine call_in' hS I.fn_setting_Moved ?_; cbv)
      | (refine call_in' hS I.fn_setting_New ?_; cbv)
      | (refine s_draw hS rfl I.ord_setting_Ours_0 (by decide +kernel) ?_; cbv)
      | (refine s_draw hS rfl I.ord_causeylaw21_wakes_0 (by decide +kernel) ?_; cbv)
      | (refine And.intro rfl ?_; try cbv)
      | (refine pairs_u hS [(3, 2), (4, 100), (9, 1)] [(3, 2), (4, 100), (9, 1)] rfl rfl (by decide) (by decide) rfl rfl (SubL.fsub (by cbv; (repeat' (first | exact sub_any | exact Sub.rfl | exact SubL.nil | refine SubL.cons ?_ ?_ | exact sub_i rfl | refine sub_tp ?_ | refine sub_ag ?_ | exact sub_tt rfl | exact sub_ff rfl | exact sub_b_tt rfl | exact sub_b_ff rfl | (refine sub_i ?_; simp only [Z.v]; omega) | (refine sub_b ?_; assumption) | (refine sub_b ?_; simp only [← hS, cmp_le, cmp_lt, cmp_ge, cmp_gt, cmp_eq, cmp_ne, pl_eq, mi_eq, sc_eq, slen_eq, flen_eq, nt_eq, beq_eq, scmp_eq, scmp_ne, decide_eq_true_eq, decide_eq_false_iff_not, Bool.not_eq_true', Bool.not_eq_false', Bool.not_true, Bool.not_false, beq_iff_eq, beq_eq_false_iff_ne, ne_eq]; done) | (refine sub_tt ?_; assumption) | (refine sub_ff ?_; assumption))))) (SubL.fsub (by cbv; (repeat' (first | exact sub_any | exact Sub.rfl | exact SubL.nil | refine SubL.cons ?_ ?_ | exact sub_i rfl | refine sub_tp ?_ | refine sub_ag ?_ | exact sub_tt rfl | exact sub_ff rfl | exact sub_b_tt rfl | exact sub_b_ff rfl | (refine sub_i ?_; simp only [Z.v]; omega) | (refine sub_b ?_; assumption) | (refine sub_b ?_; simp only [← hS, cmp_le, cmp_lt, cmp_ge, cmp_gt, cmp_eq, cmp_ne, pl_eq, mi_eq, sc_eq, slen_eq, flen_eq, nt_eq, beq_eq, scmp_eq, scmp_ne, decide_eq_true_eq, decide_eq_false_iff_not, Bool.not_eq_true', Bool.not_eq_false', Bool.not_true, Bool.not_false, beq_iff_eq, beq_eq_false_iff_ne, ne_eq]; done) | (refine sub_tt ?_; assumption) | (refine sub_ff ?_; assumption))))) (fun _ => ?_) (fun e => absurd rfl e); cbv)
      | (refine right_l hS rfl true rfl ?_; cbv)
      | (refine right_l hS rfl false rfl ?_; cbv))
  exact .rfl
theorem wakes_u {S : Sy} (hS : S0 Try.prog = S) {l : List Blk} {K : SV → List Blk → Prop} (h : K .tt l) : S.call 7 [] l K :=
  use_val hS wakes_f .nil rfl rfl h
end Cz
