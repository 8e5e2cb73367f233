/- Setting, part G: an ack is taken just where one waits. -/
import Derived.Test.YtpidadlehhcngaaCzT6
namespace Cz
open Go Go.RowKit Go.Proofs
set_option linter.unusedSimpArgs false
set_option linter.unusedVariables false
set_option maxRecDepth 100000
set_option maxHeartbeats 2000000
theorem acks_law (s : St9) : (S0 Try.prog).call 6 [s.sv] [] (fun x _ => Sub x .tt) := by
  obtain ⟨so, t, w, f, li, to, pl, o, wa⟩ := s
  generalize hS : S0 Try.prog = S
  refine call_in' hS I.fn_causeylaw21_SettingAcks ?_
  cbv
  refine right2_u hS rfl ?_ ?_ <;> intro hr <;> simp only [st9, bv, iv, Z.v] at hr <;> cbv
  · have hb := rightB_o hr
    simp only at hb
    by_cases hwa : wa = 0
    · have ha := ackR_1 hr hwa
      refine ack_u hS rfl ?_
      intro so' t' w' f' li' to' pl' o' wa' fw fs fc e he
      simp only [st9, bv, iv, Z.v, ha, R3.mk.injEq, St9.mk.injEq] at he
      obtain ⟨⟨rfl, rfl, rfl, rfl, rfl, rfl, rfl, rfl, rfl⟩, rfl, rfl, rfl, rfl⟩ := he
      cbv
      repeat' (first
          | (refine s_eqs hS rfl ?_; try cbv)
          | (refine s_eqt hS rfl ?_ ?_; (focus (cbv; (repeat' (first | exact trivial | rfl | refine And.intro ?_ ?_ | assumption | omega | (simp only [← hS, cmp_le, cmp_lt, cmp_ge, cmp_gt, cmp_eq, cmp_ne, pl_eq, mi_eq, sc_eq, slen_eq, flen_eq, nt_eq, beq_eq, scmp_eq, scmp_ne, decide_eq_true_eq, decide_eq_false_iff_not, Bool.not_eq_true', Bool.not_eq_false', Bool.not_true, Bool.not_false, beq_iff_eq, beq_eq_false_iff_ne, ne_eq]; done) | (simp only [← hS, cmp_le, cmp_lt, cmp_ge, cmp_gt, cmp_eq, cmp_ne, pl_eq, mi_eq, sc_eq, slen_eq, flen_eq, nt_eq, beq_eq, scmp_eq, scmp_ne, decide_eq_true_eq, decide_eq_false_iff_not, Bool.not_eq_true', Bool.not_eq_false', Bool.not_true, Bool.not_false, beq_iff_eq, beq_eq_false_iff_ne, ne_eq]; first | assumption | omega))); done)); try cbv)
          | (refine s_eqo hS ?_; try cbv)
          | (refine s_chk hS (by simp only [← hS, cmp_le, cmp_lt, cmp_ge, cmp_gt, cmp_eq, cmp_ne, pl_eq, mi_eq, sc_eq, slen_eq, flen_eq, nt_eq, beq_eq, scmp_eq, scmp_ne, decide_eq_true_eq, decide_eq_false_iff_not, Bool.not_eq_true', Bool.not_eq_false', Bool.not_true, Bool.not_false, beq_iff_eq, beq_eq_false_iff_ne, ne_eq]; omega) ?_; try cbv)
          | (refine s_br hS ?_ ?_ <;> intro h <;> (try cbv) <;> (try simp only [← hS, cmp_le, cmp_lt, cmp_ge, cmp_gt, cmp_eq, cmp_ne, pl_eq, mi_eq, sc_eq, slen_eq, flen_eq, nt_eq, beq_eq, scmp_eq, scmp_ne, decide_eq_true_eq, decide_eq_false_iff_not, Bool.not_eq_true', Bool.not_eq_false', Bool.not_true, Bool.not_false, beq_iff_eq, beq_eq_false_iff_ne, ne_eq] at h) <;> first | (exfalso; omega) | (exact absurd trivial h) | (exact (no_tf h).elim) | (exact (no_ft h).elim) | (exact (no_both h (by with_reducible assumption)).elim) | (exact (no_both (by with_reducible assumption) h).elim) | skip)
          | (refine s_add hS ?_ (by simp only [lo]; omega) (by simp only [hi]; omega); intro _ _; try cbv)
          | (refine s_sub hS ?_ (by simp only [lo]; omega) (by simp only [hi]; omega); intro _ _; try cbv)
          | (refine s_cvi hS ?_ (by simp only [lo]; omega) (by simp only [hi]; omega); try cbv)
          | (refine wakes_u hS ?_; cbv)
          | (refine s_draw hS rfl I.ord_causeylaw21_SettingAcks_0 (by decide +kernel) ?_; cbv))
      all_goals first | exact .rfl | trace_state
    · have ha := ackR_2 hr hwa
      refine ack_u hS rfl ?_
      intro so' t' w' f' li' to' pl' o' wa' fw fs fc e he
      simp only [st9, bv, iv, Z.v, ha, R3.mk.injEq, St9.mk.injEq] at he
      obtain ⟨⟨rfl, rfl, rfl, rfl, rfl, rfl, rfl, rfl, hwa'⟩, rfl, rfl, rfl, rfl⟩ := he
      clear ha
      cbv
      repeat' (first
          | (refine s_eqs hS rfl ?_; try cbv)
          | (refine s_eqt hS rfl ?_ ?_; (focus (cbv; (repeat' (first | exact trivial | rfl | refine And.intro ?_ ?_ | assumption | omega | (simp only [← hS, cmp_le, cmp_lt, cmp_ge, cmp_gt, cmp_eq, cmp_ne, pl_eq, mi_eq, sc_eq, slen_eq, flen_eq, nt_eq, beq_eq, scmp_eq, scmp_ne, decide_eq_true_eq, decide_eq_false_iff_not, Bool.not_eq_true', Bool.not_eq_false', Bool.not_true, Bool.not_false, beq_iff_eq, beq_eq_false_iff_ne, ne_eq]; done) | (simp only [← hS, cmp_le, cmp_lt, cmp_ge, cmp_gt, cmp_eq, cmp_ne, pl_eq, mi_eq, sc_eq, slen_eq, flen_eq, nt_eq, beq_eq, scmp_eq, scmp_ne, decide_eq_true_eq, decide_eq_false_iff_not, Bool.not_eq_true', Bool.not_eq_false', Bool.not_true, Bool.not_false, beq_iff_eq, beq_eq_false_iff_ne, ne_eq]; first | assumption | omega))); done)); try cbv)
          | (refine s_eqo hS ?_; try cbv)
          | (refine s_chk hS (by simp only [← hS, cmp_le, cmp_lt, cmp_ge, cmp_gt, cmp_eq, cmp_ne, pl_eq, mi_eq, sc_eq, slen_eq, flen_eq, nt_eq, beq_eq, scmp_eq, scmp_ne, decide_eq_true_eq, decide_eq_false_iff_not, Bool.not_eq_true', Bool.not_eq_false', Bool.not_true, Bool.not_false, beq_iff_eq, beq_eq_false_iff_ne, ne_eq]; omega) ?_; try cbv)
          | (refine s_br hS ?_ ?_ <;> intro h <;> (try cbv) <;> (try simp only [← hS, cmp_le, cmp_lt, cmp_ge, cmp_gt, cmp_eq, cmp_ne, pl_eq, mi_eq, sc_eq, slen_eq, flen_eq, nt_eq, beq_eq, scmp_eq, scmp_ne, decide_eq_true_eq, decide_eq_false_iff_not, Bool.not_eq_true', Bool.not_eq_false', Bool.not_true, Bool.not_false, beq_iff_eq, beq_eq_false_iff_ne, ne_eq] at h) <;> first | (exfalso; omega) | (exact absurd trivial h) | (exact (no_tf h).elim) | (exact (no_ft h).elim) | (exact (no_both h (by with_reducible assumption)).elim) | (exact (no_both (by with_reducible assumption) h).elim) | skip)
          | (refine s_add hS ?_ (by simp only [lo]; omega) (by simp only [hi]; omega); intro _ _; try cbv)
          | (refine s_sub hS ?_ (by simp only [lo]; omega) (by simp only [hi]; omega); intro _ _; try cbv)
          | (refine s_cvi hS ?_ (by simp only [lo]; omega) (by simp only [hi]; omega); try cbv)
          | (refine wakes_u hS ?_; cbv)
          | (refine s_draw hS rfl I.ord_causeylaw21_SettingAcks_0 (by decide +kernel) ?_; cbv))
      all_goals first | exact .rfl | trace_state
  · refine wakes_u hS ?_
    cbv
    exact .rfl
end Cz
