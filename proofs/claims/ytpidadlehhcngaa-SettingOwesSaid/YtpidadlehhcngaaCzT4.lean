/- Setting, part D: what comes, the program's. -/
import Derived.Test.YtpidadlehhcngaaCzT3
namespace Cz
open Go Go.RowKit Go.Proofs
set_option linter.unusedSimpArgs false
set_option linter.unusedVariables false
set_option maxRecDepth 100000
set_option maxHeartbeats 2000000

theorem shr31 {r v : Int} (h : r = arS .shr .u32 v 31) : r = v / 2147483648 := by
  rw [h]
  show v.fdiv (2 ^ (min (31 : Int).toNat 32)) = _
  rw [Int.fdiv_eq_ediv_of_nonneg _ (by decide)]
  rfl
def badB (b : Bool) (l : List (Int × Int)) : Bool := b || !l.all okPair
theorem badB_next {b x : Bool} {l : List (Int × Int)} {a r : Int} {p : Int × Int} (h : x = badB b (l.take a.toNat)) (hp : l[a.toNat]? = some p) (h0 : 0 ≤ a) (hr : r = a + 1) (hk : okPair p = true) : x = badB b (l.take r.toNat) := by
  rw [h, hr, take_next hp h0]; simp [badB, hk]
theorem badB_bad {b : Bool} {l : List (Int × Int)} {a r : Int} {p : Int × Int} (hp : l[a.toNat]? = some p) (h0 : 0 ≤ a) (hr : r = a + 1) (hk : okPair p = false) : true = badB b (l.take r.toNat) := by
  rw [hr, take_next hp h0]; simp [badB, hk]
theorem okPair_4 {v : Int} (h : ¬ 2147483647 < v) : okPair (4, v) = true := by simp [okPair, h]
theorem okPair_4n {v : Int} (h : 2147483647 < v) : okPair (4, v) = false := by simp [okPair, h]
theorem okPair_5 {v : Int} (h : 16384 ≤ v) (h' : v ≤ 16777215) : okPair (5, v) = true := by simp [okPair, withinB, h, h']
theorem okPair_5n {v : Int} (h : withinB v 16384 16777215 = false) : okPair (5, v) = false := by simp [okPair, h]
theorem okPair_0 {id v : Int} (h : ¬ id = 4) (h' : ¬ id = 5) : okPair (id, v) = true := by simp [okPair, h, h']

theorem take_f (s : St9) (l : List (Int × Int)) (hl : POk l) (n : Int) (hn : ilen l = n) (F : List SV) (hF : cellsP l = F) (hm : n < 1000000) :
    (S0 Try.prog).call 8 [s.sv, .sl 0 2 (.l 0) (.y n) none] [.r true false (.l 0) 2 F] (fun x _ => Sub x (takeR s l).sv) := by
  have n0 : 0 ≤ n := hn ▸ ilen_nn l
  obtain ⟨so, t, w, f, li, to, pl, o, wa⟩ := s
  obtain ⟨b0, hbd⟩ : ∃ b0, b0 = !rightB ⟨so, t, w, f, li, to, pl, o, wa⟩ := ⟨_, rfl⟩
  have hb0 : b0 = badB b0 (l.take (0 : Int).toNat) := by simp [badB]
  generalize hT : (takeR ⟨so, t, w, f, li, to, pl, o, wa⟩ l).sv = T
  generalize hS : S0 Try.prog = S
  refine call_in' hS I.fn_setting_Take ?_
  cbv
  iterate 4 (refine call_in' hS I.fn_setting_Take_1 ?_; cbv)
  refine right_u hS rfl ?_ ?_ <;> intro hr <;> simp only [st9, bv, iv, Z.v] at hr <;> cbv
  all_goals
    refine call_in' hS I.fn_setting_wrong ?_
    cbv
    refine rfc_in' hS I.fn_setting_wrong_1 ?_
    cbv
    refine s_loop_up hS 14 I.dead_setting_wrong_1_0 (fun x : Int × Bool => 0 ≤ x.1 ∧ x.1 ≤ n ∧ x.2 = badB b0 (l.take x.1.toNat)) (fun x => [(9, .i .i64 (.y x.1))]) (fun x => [(10, .c [.b x.2])])
      (fun x => (n - x.1).toNat) (0, b0) rfl ⟨⟨Int.le_refl _, n0, hb0⟩, rfl, ?_, ?_, ?_⟩ ?_
    · cbv; (repeat' (first | exact sub_any | exact Sub.rfl | exact SubL.nil | refine SubL.cons ?_ ?_ | exact sub_i rfl | refine sub_tp ?_ | refine sub_ag ?_ | exact sub_tt rfl | exact sub_ff rfl | (refine sub_i ?_; simp only [Z.v]; omega) | (refine sub_b ?_; assumption) | (refine sub_b ?_; simp only [← hS, cmp_le, cmp_lt, cmp_ge, cmp_gt, cmp_eq, cmp_ne, pl_eq, mi_eq, sc_eq, slen_eq, flen_eq, nt_eq, beq_eq, scmp_eq, scmp_ne, decide_eq_true_eq, decide_eq_false_iff_not, Bool.not_eq_true', Bool.not_eq_false', Bool.not_true, Bool.not_false, beq_iff_eq, beq_eq_false_iff_ne, ne_eq]; done) | (refine sub_tt ?_; assumption) | (refine sub_ff ?_; assumption)))
    · rw [hr] at hbd; cbv; exact ⟨.rfl, .rfl, .rfl, .rfl, .rfl, .rfl, .rfl, .rfl, .rfl, .rfl, .c (.cons (by first | exact sub_ff hbd | exact sub_tt hbd) .nil), .rfl, .rfl, .rfl, trivial⟩
    · cbv
    · intro x
      obtain ⟨a, b⟩ := x
      intro ha
      dsimp only at ha
      cbv
      obtain ⟨h0, h1, h2⟩ := ha
      refine s_br hS ?_ ?_ <;> intro h <;> cbv <;> simp only [← hS, cmp_le, cmp_lt, cmp_ge, cmp_gt, cmp_eq, cmp_ne, pl_eq, mi_eq, sc_eq, slen_eq, flen_eq, nt_eq, beq_eq, scmp_eq, scmp_ne, decide_eq_true_eq, decide_eq_false_iff_not, Bool.not_eq_true', Bool.not_eq_false', Bool.not_true, Bool.not_false, beq_iff_eq, beq_eq_false_iff_ne, ne_eq] at h
      · obtain ⟨⟨id, v⟩, hp⟩ := at_ex (l := l) (i := a) (by omega) h0
        have hok := hl _ (List.mem_of_getElem? hp)
        simp only at hok
        clear hT
        repeat' (first
            | (refine s_eqs hS rfl ?_; try cbv)
            | (refine s_eqo hS ?_; try cbv)
            | (refine s_chk hS (by simp only [← hS, cmp_le, cmp_lt, cmp_ge, cmp_gt, cmp_eq, cmp_ne, pl_eq, mi_eq, sc_eq, slen_eq, flen_eq, nt_eq, beq_eq, scmp_eq, scmp_ne, decide_eq_true_eq, decide_eq_false_iff_not, Bool.not_eq_true', Bool.not_eq_false', Bool.not_true, Bool.not_false, beq_iff_eq, beq_eq_false_iff_ne, ne_eq]; omega) ?_; try cbv)
            | (refine s_br hS ?_ ?_ <;> intro h <;> (try cbv) <;> (try simp only [← hS, cmp_le, cmp_lt, cmp_ge, cmp_gt, cmp_eq, cmp_ne, pl_eq, mi_eq, sc_eq, slen_eq, flen_eq, nt_eq, beq_eq, scmp_eq, scmp_ne, decide_eq_true_eq, decide_eq_false_iff_not, Bool.not_eq_true', Bool.not_eq_false', Bool.not_true, Bool.not_false, beq_iff_eq, beq_eq_false_iff_ne, ne_eq] at h) <;> first | (exfalso; omega) | (exact absurd trivial h) | (exact (no_tf h).elim) | (exact (no_ft h).elim) | (exact (no_both h (by with_reducible assumption)).elim) | (exact (no_both (by with_reducible assumption) h).elim) | skip)
            | (refine s_add hS ?_ (by simp only [lo]; omega) (by simp only [hi]; omega); intro _ _; try cbv)
            | (refine s_sub hS ?_ (by simp only [lo]; omega) (by simp only [hi]; omega); intro _ _; try cbv)
            | (refine s_cvi hS ?_ (by simp only [lo]; omega) (by simp only [hi]; omega); try cbv)
            | (refine g_rd hS ?_; refine r_rowp hF hp (fun _ => rfl) (by omega) (by decide) rfl ?_; try cbv)
            | (refine within_u hS ?_ ?_ <;> intros <;> cbv)
            | (refine s_yld hS rfl rfl ?_; cbv)
            | (refine s_ar hS ?_; intro r hr31; have hr31 := shr31 hr31; cbv))
        all_goals simp only [Z.v] at *
        all_goals
          obtain ⟨r, hr'⟩ : ∃ r, r = a + 1 := ⟨_, rfl⟩
          first
            | (refine ⟨(r, b), by dsimp only; omega, ⟨by dsimp only; omega, by dsimp only; omega, badB_next h2 hp h0 hr' (by first | exact okPair_0 (by assumption) (by assumption) | (subst id; exact okPair_4 (by omega)) | (subst id; exact okPair_5 (by assumption) (by assumption)))⟩, rfl, (by cbv; (repeat' (first | exact sub_any | exact Sub.rfl | exact SubL.nil | refine SubL.cons ?_ ?_ | exact sub_i rfl | refine sub_tp ?_ | refine sub_ag ?_ | exact sub_tt rfl | exact sub_ff rfl | (refine sub_i ?_; simp only [Z.v]; omega) | (refine sub_b ?_; assumption) | (refine sub_b ?_; simp only [← hS, cmp_le, cmp_lt, cmp_ge, cmp_gt, cmp_eq, cmp_ne, pl_eq, mi_eq, sc_eq, slen_eq, flen_eq, nt_eq, beq_eq, scmp_eq, scmp_ne, decide_eq_true_eq, decide_eq_false_iff_not, Bool.not_eq_true', Bool.not_eq_false', Bool.not_true, Bool.not_false, beq_iff_eq, beq_eq_false_iff_ne, ne_eq]; done) | (refine sub_tt ?_; assumption) | (refine sub_ff ?_; assumption)))), (by cbv; exact ⟨.rfl, .rfl, .rfl, .rfl, .rfl, .rfl, .rfl, .rfl, .rfl, .rfl, .rfl, .rfl, .rfl, .rfl, trivial⟩), by cbv⟩; done)
            | (refine ⟨(r, true), by dsimp only; omega, ⟨by dsimp only; omega, by dsimp only; omega, badB_bad hp h0 hr' (by first | (subst id; exact okPair_4n (by omega)) | (subst id; exact okPair_5n (by assumption)))⟩, rfl, (by cbv; (repeat' (first | exact sub_any | exact Sub.rfl | exact SubL.nil | refine SubL.cons ?_ ?_ | exact sub_i rfl | refine sub_tp ?_ | refine sub_ag ?_ | exact sub_tt rfl | exact sub_ff rfl | (refine sub_i ?_; simp only [Z.v]; omega) | (refine sub_b ?_; assumption) | (refine sub_b ?_; simp only [← hS, cmp_le, cmp_lt, cmp_ge, cmp_gt, cmp_eq, cmp_ne, pl_eq, mi_eq, sc_eq, slen_eq, flen_eq, nt_eq, beq_eq, scmp_eq, scmp_ne, decide_eq_true_eq, decide_eq_false_iff_not, Bool.not_eq_true', Bool.not_eq_false', Bool.not_true, Bool.not_false, beq_iff_eq, beq_eq_false_iff_ne, ne_eq]; done) | (refine sub_tt ?_; assumption) | (refine sub_ff ?_; assumption)))), (by cbv; exact ⟨.rfl, .rfl, .rfl, .rfl, .rfl, .rfl, .rfl, .rfl, .rfl, .rfl, .c (.cons (sub_tt rfl) .nil), .rfl, .rfl, .rfl, trivial⟩), by cbv⟩; done)
      · rw [take_all (by omega)] at h2
        rw [hr] at hbd
        first
          | (have hb2 : b = true := by rw [h2, hbd]; rfl
             repeat' (first
                 | (refine s_eqs hS rfl ?_; try cbv)
                 | (refine s_eqo hS ?_; try cbv)
                 | (refine s_chk hS (by simp only [← hS, cmp_le, cmp_lt, cmp_ge, cmp_gt, cmp_eq, cmp_ne, pl_eq, mi_eq, sc_eq, slen_eq, flen_eq, nt_eq, beq_eq, scmp_eq, scmp_ne, decide_eq_true_eq, decide_eq_false_iff_not, Bool.not_eq_true', Bool.not_eq_false', Bool.not_true, Bool.not_false, beq_iff_eq, beq_eq_false_iff_ne, ne_eq]; omega) ?_; try cbv)
                 | (refine s_br hS ?_ ?_ <;> intro h <;> (try cbv) <;> (try simp only [← hS, cmp_le, cmp_lt, cmp_ge, cmp_gt, cmp_eq, cmp_ne, pl_eq, mi_eq, sc_eq, slen_eq, flen_eq, nt_eq, beq_eq, scmp_eq, scmp_ne, decide_eq_true_eq, decide_eq_false_iff_not, Bool.not_eq_true', Bool.not_eq_false', Bool.not_true, Bool.not_false, beq_iff_eq, beq_eq_false_iff_ne, ne_eq] at h) <;> first | (exfalso; omega) | (exact absurd trivial h) | (exact (no_tf h).elim) | (exact (no_ft h).elim) | (exact (no_both h (by with_reducible assumption)).elim) | (exact (no_both (by with_reducible assumption) h).elim) | skip)
                 | (refine s_add hS ?_ (by simp only [lo]; omega) (by simp only [hi]; omega); intro _ _; try cbv)
                 | (refine s_sub hS ?_ (by simp only [lo]; omega) (by simp only [hi]; omega); intro _ _; try cbv)
                 | (refine s_cvi hS ?_ (by simp only [lo]; omega) (by simp only [hi]; omega); try cbv))
             subst hT; rw [takeR_1 hr]; simp only [R3.sv, St9.sv]; (repeat' (first | exact sub_any | exact Sub.rfl | exact SubL.nil | refine SubL.cons ?_ ?_ | exact sub_i rfl | refine sub_tp ?_ | refine sub_ag ?_ | exact sub_tt rfl | exact sub_ff rfl | (refine sub_i ?_; simp only [Z.v]; omega) | (refine sub_b ?_; assumption) | (refine sub_b ?_; simp only [← hS, cmp_le, cmp_lt, cmp_ge, cmp_gt, cmp_eq, cmp_ne, pl_eq, mi_eq, sc_eq, slen_eq, flen_eq, nt_eq, beq_eq, scmp_eq, scmp_ne, decide_eq_true_eq, decide_eq_false_iff_not, Bool.not_eq_true', Bool.not_eq_false', Bool.not_true, Bool.not_false, beq_iff_eq, beq_eq_false_iff_ne, ne_eq]; done) | (refine sub_tt ?_; assumption) | (refine sub_ff ?_; assumption))); done)
          | (have hb2 : b = !l.all okPair := by rw [h2, hbd]; rfl
             have hb := rightB_o hr
             simp only at hb
             refine s_br hS ?_ ?_ <;> intro hbt <;> cbv
             · have hy : l.all okPair = false := by rw [hbt] at hb2; simpa using hb2.symm
               subst hT; rw [takeR_2 hy]; simp only [R3.sv, St9.sv]; (repeat' (first | exact sub_any | exact Sub.rfl | exact SubL.nil | refine SubL.cons ?_ ?_ | exact sub_i rfl | refine sub_tp ?_ | refine sub_ag ?_ | exact sub_tt rfl | exact sub_ff rfl | (refine sub_i ?_; simp only [Z.v]; omega) | (refine sub_b ?_; assumption) | (refine sub_b ?_; simp only [← hS, cmp_le, cmp_lt, cmp_ge, cmp_gt, cmp_eq, cmp_ne, pl_eq, mi_eq, sc_eq, slen_eq, flen_eq, nt_eq, beq_eq, scmp_eq, scmp_ne, decide_eq_true_eq, decide_eq_false_iff_not, Bool.not_eq_true', Bool.not_eq_false', Bool.not_true, Bool.not_false, beq_iff_eq, beq_eq_false_iff_ne, ne_eq]; done) | (refine sub_tt ?_; assumption) | (refine sub_ff ?_; assumption)))
             · have hy : l.all okPair = true := by rw [hbt] at hb2; simpa using hb2.symm
               refine s_loop_up hS 14 I.dead_setting_Take_0 (fun x : Int × St9 => 0 ≤ x.1 ∧ x.1 ≤ n ∧ loopR ⟨so, t, w, f, li, to, pl, o, wa⟩ ⟨so, t, w, f, li, to, pl, o, wa⟩ (l.take x.1.toNat) = some x.2) (fun x => [(41, .i .i64 (.y x.1))])
                 (fun x => [(4, .c [.b x.2.so, .i .i64 (.y x.2.t), .i .i64 (.y x.2.w), .i .i64 (.y x.2.f), .i .i64 (.y x.2.li), .b x.2.to, .b x.2.pl, .i .i64 (.y x.2.o), .i .i64 (.y x.2.wa)])])
                 (fun x => (n - x.1).toNat) (0, ⟨so, t, w, f, li, to, pl, o, wa⟩) rfl ⟨⟨Int.le_refl _, n0, rfl⟩, rfl, ?_, ?_, ?_⟩ ?_
               · cbv; (repeat' (first | exact sub_any | exact Sub.rfl | exact SubL.nil | refine SubL.cons ?_ ?_ | exact sub_i rfl | refine sub_tp ?_ | refine sub_ag ?_ | exact sub_tt rfl | exact sub_ff rfl | (refine sub_i ?_; simp only [Z.v]; omega) | (refine sub_b ?_; assumption) | (refine sub_b ?_; simp only [← hS, cmp_le, cmp_lt, cmp_ge, cmp_gt, cmp_eq, cmp_ne, pl_eq, mi_eq, sc_eq, slen_eq, flen_eq, nt_eq, beq_eq, scmp_eq, scmp_ne, decide_eq_true_eq, decide_eq_false_iff_not, Bool.not_eq_true', Bool.not_eq_false', Bool.not_true, Bool.not_false, beq_iff_eq, beq_eq_false_iff_ne, ne_eq]; done) | (refine sub_tt ?_; assumption) | (refine sub_ff ?_; assumption)))
               · cbv; exact ⟨.rfl, .rfl, .rfl, .rfl, .rfl, .rfl, .rfl, .rfl, .rfl, .rfl, .rfl, .rfl, .rfl, .rfl, trivial⟩
               · cbv
               · intro x
                 obtain ⟨a, so', t', w', f', li', to', pl', o', wa'⟩ := x
                 intro ha
                 dsimp only at ha
                 cbv
                 obtain ⟨h0, h1, h2⟩ := ha
                 have ho := loopR_o h2
                 simp only at ho
                 refine s_br hS ?_ ?_ <;> intro h <;> cbv <;> simp only [← hS, cmp_le, cmp_lt, cmp_ge, cmp_gt, cmp_eq, cmp_ne, pl_eq, mi_eq, sc_eq, slen_eq, flen_eq, nt_eq, beq_eq, scmp_eq, scmp_ne, decide_eq_true_eq, decide_eq_false_iff_not, Bool.not_eq_true', Bool.not_eq_false', Bool.not_true, Bool.not_false, beq_iff_eq, beq_eq_false_iff_ne, ne_eq] at h
                 · obtain ⟨⟨id, v⟩, hp⟩ := at_ex (l := l) (i := a) (by omega) h0
                   have hok := hl _ (List.mem_of_getElem? hp)
                   simp only at hok
                   repeat' (first
                       | (refine s_eqs hS rfl ?_; try cbv)
                       | (refine s_eqo hS ?_; try cbv)
                       | (refine s_chk hS (by simp only [← hS, cmp_le, cmp_lt, cmp_ge, cmp_gt, cmp_eq, cmp_ne, pl_eq, mi_eq, sc_eq, slen_eq, flen_eq, nt_eq, beq_eq, scmp_eq, scmp_ne, decide_eq_true_eq, decide_eq_false_iff_not, Bool.not_eq_true', Bool.not_eq_false', Bool.not_true, Bool.not_false, beq_iff_eq, beq_eq_false_iff_ne, ne_eq]; omega) ?_; try cbv)
                       | (refine s_br hS ?_ ?_ <;> intro h <;> (try cbv) <;> (try simp only [← hS, cmp_le, cmp_lt, cmp_ge, cmp_gt, cmp_eq, cmp_ne, pl_eq, mi_eq, sc_eq, slen_eq, flen_eq, nt_eq, beq_eq, scmp_eq, scmp_ne, decide_eq_true_eq, decide_eq_false_iff_not, Bool.not_eq_true', Bool.not_eq_false', Bool.not_true, Bool.not_false, beq_iff_eq, beq_eq_false_iff_ne, ne_eq] at h) <;> first | (exfalso; omega) | (exact absurd trivial h) | (exact (no_tf h).elim) | (exact (no_ft h).elim) | (exact (no_both h (by with_reducible assumption)).elim) | (exact (no_both (by with_reducible assumption) h).elim) | skip)
                       | (refine s_add hS ?_ (by simp only [lo]; omega) (by simp only [hi]; omega); intro _ _; try cbv)
                       | (refine s_sub hS ?_ (by simp only [lo]; omega) (by simp only [hi]; omega); intro _ _; try cbv)
                       | (refine s_cvi hS ?_ (by simp only [lo]; omega) (by simp only [hi]; omega); try cbv)
                       | (refine g_rd hS ?_; refine r_rowp hF hp (fun _ => rfl) (by omega) (by decide) rfl ?_; try cbv)
                       | (refine call_in' hS I.fn_setting_Take_1_1 ?_; cbv)
                       | (refine call_in' hS I.fn_setting_Take_2 ?_; cbv)
                       | (refine call_in' hS I.fn_setting_whole ?_; cbv)
                       | (refine s_draw hS rfl I.ord_setting_Take_0 (by decide +kernel) ?_; cbv)
                       | (refine And.intro rfl ?_; try cbv))
                   all_goals first
                     | (subst hT; rw [takeR_3 hr hy hp h0 h2 (stepR_9n (by assumption) (by assumption) (by first | assumption | (simp only; exact fun e => absurd e.symm (by assumption))))]; simp only [R3.sv, St9.sv]; (repeat' (first | exact sub_any | exact Sub.rfl | exact SubL.nil | refine SubL.cons ?_ ?_ | exact sub_i rfl | refine sub_tp ?_ | refine sub_ag ?_ | exact sub_tt rfl | exact sub_ff rfl | (refine sub_i ?_; simp only [Z.v]; omega) | (refine sub_b ?_; assumption) | (refine sub_b ?_; simp only [← hS, cmp_le, cmp_lt, cmp_ge, cmp_gt, cmp_eq, cmp_ne, pl_eq, mi_eq, sc_eq, slen_eq, flen_eq, nt_eq, beq_eq, scmp_eq, scmp_ne, decide_eq_true_eq, decide_eq_false_iff_not, Bool.not_eq_true', Bool.not_eq_false', Bool.not_true, Bool.not_false, beq_iff_eq, beq_eq_false_iff_ne, ne_eq]; done) | (refine sub_tt ?_; assumption) | (refine sub_ff ?_; assumption))); done)
                     | (obtain ⟨r, hr⟩ : ∃ r, r = a + 1 := ⟨_, rfl⟩
                        obtain ⟨pv, hpv⟩ : ∃ pv, pv = !decide (v = 0) := ⟨_, rfl⟩
                        first
                        | (refine ⟨(r, ⟨so', v, w', f', li', to', pl', o', wa'⟩), by dsimp only; omega, ⟨by dsimp only; omega, by dsimp only; omega, loop_next h2 hp h0 hr (stepR_1 (by assumption))⟩, rfl, (by cbv; (repeat' (first | exact sub_any | exact Sub.rfl | exact SubL.nil | refine SubL.cons ?_ ?_ | exact sub_i rfl | refine sub_tp ?_ | refine sub_ag ?_ | exact sub_tt rfl | exact sub_ff rfl | (refine sub_i ?_; simp only [Z.v]; omega) | (refine sub_b ?_; assumption) | (refine sub_b ?_; simp only [← hS, cmp_le, cmp_lt, cmp_ge, cmp_gt, cmp_eq, cmp_ne, pl_eq, mi_eq, sc_eq, slen_eq, flen_eq, nt_eq, beq_eq, scmp_eq, scmp_ne, decide_eq_true_eq, decide_eq_false_iff_not, Bool.not_eq_true', Bool.not_eq_false', Bool.not_true, Bool.not_false, beq_iff_eq, beq_eq_false_iff_ne, ne_eq]; done) | (refine sub_tt ?_; assumption) | (refine sub_ff ?_; assumption)))), (by cbv; exact ⟨.rfl, .rfl, .rfl, .rfl, .c (by (repeat' (first | exact sub_any | exact Sub.rfl | exact SubL.nil | refine SubL.cons ?_ ?_ | exact sub_i rfl | refine sub_tp ?_ | refine sub_ag ?_ | exact sub_tt rfl | exact sub_ff rfl | (refine sub_i ?_; simp only [Z.v]; omega) | (refine sub_b ?_; assumption) | (refine sub_b ?_; simp only [← hS, cmp_le, cmp_lt, cmp_ge, cmp_gt, cmp_eq, cmp_ne, pl_eq, mi_eq, sc_eq, slen_eq, flen_eq, nt_eq, beq_eq, scmp_eq, scmp_ne, decide_eq_true_eq, decide_eq_false_iff_not, Bool.not_eq_true', Bool.not_eq_false', Bool.not_true, Bool.not_false, beq_iff_eq, beq_eq_false_iff_ne, ne_eq]; done) | (refine sub_tt ?_; assumption) | (refine sub_ff ?_; assumption)))), .rfl, .rfl, .rfl, .rfl, .rfl, .rfl, .rfl, .rfl, .rfl, trivial⟩), by cbv⟩; done)
                        | (refine ⟨(r, ⟨so', t', v, f', li', to', pl', o', wa'⟩), by dsimp only; omega, ⟨by dsimp only; omega, by dsimp only; omega, loop_next h2 hp h0 hr (stepR_4 (by assumption))⟩, rfl, (by cbv; (repeat' (first | exact sub_any | exact Sub.rfl | exact SubL.nil | refine SubL.cons ?_ ?_ | exact sub_i rfl | refine sub_tp ?_ | refine sub_ag ?_ | exact sub_tt rfl | exact sub_ff rfl | (refine sub_i ?_; simp only [Z.v]; omega) | (refine sub_b ?_; assumption) | (refine sub_b ?_; simp only [← hS, cmp_le, cmp_lt, cmp_ge, cmp_gt, cmp_eq, cmp_ne, pl_eq, mi_eq, sc_eq, slen_eq, flen_eq, nt_eq, beq_eq, scmp_eq, scmp_ne, decide_eq_true_eq, decide_eq_false_iff_not, Bool.not_eq_true', Bool.not_eq_false', Bool.not_true, Bool.not_false, beq_iff_eq, beq_eq_false_iff_ne, ne_eq]; done) | (refine sub_tt ?_; assumption) | (refine sub_ff ?_; assumption)))), (by cbv; exact ⟨.rfl, .rfl, .rfl, .rfl, .c (by (repeat' (first | exact sub_any | exact Sub.rfl | exact SubL.nil | refine SubL.cons ?_ ?_ | exact sub_i rfl | refine sub_tp ?_ | refine sub_ag ?_ | exact sub_tt rfl | exact sub_ff rfl | (refine sub_i ?_; simp only [Z.v]; omega) | (refine sub_b ?_; assumption) | (refine sub_b ?_; simp only [← hS, cmp_le, cmp_lt, cmp_ge, cmp_gt, cmp_eq, cmp_ne, pl_eq, mi_eq, sc_eq, slen_eq, flen_eq, nt_eq, beq_eq, scmp_eq, scmp_ne, decide_eq_true_eq, decide_eq_false_iff_not, Bool.not_eq_true', Bool.not_eq_false', Bool.not_true, Bool.not_false, beq_iff_eq, beq_eq_false_iff_ne, ne_eq]; done) | (refine sub_tt ?_; assumption) | (refine sub_ff ?_; assumption)))), .rfl, .rfl, .rfl, .rfl, .rfl, .rfl, .rfl, .rfl, .rfl, trivial⟩), by cbv⟩; done)
                        | (refine ⟨(r, ⟨so', t', w', v, li', to', pl', o', wa'⟩), by dsimp only; omega, ⟨by dsimp only; omega, by dsimp only; omega, loop_next h2 hp h0 hr (stepR_5 (by assumption))⟩, rfl, (by cbv; (repeat' (first | exact sub_any | exact Sub.rfl | exact SubL.nil | refine SubL.cons ?_ ?_ | exact sub_i rfl | refine sub_tp ?_ | refine sub_ag ?_ | exact sub_tt rfl | exact sub_ff rfl | (refine sub_i ?_; simp only [Z.v]; omega) | (refine sub_b ?_; assumption) | (refine sub_b ?_; simp only [← hS, cmp_le, cmp_lt, cmp_ge, cmp_gt, cmp_eq, cmp_ne, pl_eq, mi_eq, sc_eq, slen_eq, flen_eq, nt_eq, beq_eq, scmp_eq, scmp_ne, decide_eq_true_eq, decide_eq_false_iff_not, Bool.not_eq_true', Bool.not_eq_false', Bool.not_true, Bool.not_false, beq_iff_eq, beq_eq_false_iff_ne, ne_eq]; done) | (refine sub_tt ?_; assumption) | (refine sub_ff ?_; assumption)))), (by cbv; exact ⟨.rfl, .rfl, .rfl, .rfl, .c (by (repeat' (first | exact sub_any | exact Sub.rfl | exact SubL.nil | refine SubL.cons ?_ ?_ | exact sub_i rfl | refine sub_tp ?_ | refine sub_ag ?_ | exact sub_tt rfl | exact sub_ff rfl | (refine sub_i ?_; simp only [Z.v]; omega) | (refine sub_b ?_; assumption) | (refine sub_b ?_; simp only [← hS, cmp_le, cmp_lt, cmp_ge, cmp_gt, cmp_eq, cmp_ne, pl_eq, mi_eq, sc_eq, slen_eq, flen_eq, nt_eq, beq_eq, scmp_eq, scmp_ne, decide_eq_true_eq, decide_eq_false_iff_not, Bool.not_eq_true', Bool.not_eq_false', Bool.not_true, Bool.not_false, beq_iff_eq, beq_eq_false_iff_ne, ne_eq]; done) | (refine sub_tt ?_; assumption) | (refine sub_ff ?_; assumption)))), .rfl, .rfl, .rfl, .rfl, .rfl, .rfl, .rfl, .rfl, .rfl, trivial⟩), by cbv⟩; done)
                        | (refine ⟨(r, ⟨so', t', w', f', v, to', pl', o', wa'⟩), by dsimp only; omega, ⟨by dsimp only; omega, by dsimp only; omega, loop_next h2 hp h0 hr (stepR_6 (by assumption))⟩, rfl, (by cbv; (repeat' (first | exact sub_any | exact Sub.rfl | exact SubL.nil | refine SubL.cons ?_ ?_ | exact sub_i rfl | refine sub_tp ?_ | refine sub_ag ?_ | exact sub_tt rfl | exact sub_ff rfl | (refine sub_i ?_; simp only [Z.v]; omega) | (refine sub_b ?_; assumption) | (refine sub_b ?_; simp only [← hS, cmp_le, cmp_lt, cmp_ge, cmp_gt, cmp_eq, cmp_ne, pl_eq, mi_eq, sc_eq, slen_eq, flen_eq, nt_eq, beq_eq, scmp_eq, scmp_ne, decide_eq_true_eq, decide_eq_false_iff_not, Bool.not_eq_true', Bool.not_eq_false', Bool.not_true, Bool.not_false, beq_iff_eq, beq_eq_false_iff_ne, ne_eq]; done) | (refine sub_tt ?_; assumption) | (refine sub_ff ?_; assumption)))), (by cbv; exact ⟨.rfl, .rfl, .rfl, .rfl, .c (by (repeat' (first | exact sub_any | exact Sub.rfl | exact SubL.nil | refine SubL.cons ?_ ?_ | exact sub_i rfl | refine sub_tp ?_ | refine sub_ag ?_ | exact sub_tt rfl | exact sub_ff rfl | (refine sub_i ?_; simp only [Z.v]; omega) | (refine sub_b ?_; assumption) | (refine sub_b ?_; simp only [← hS, cmp_le, cmp_lt, cmp_ge, cmp_gt, cmp_eq, cmp_ne, pl_eq, mi_eq, sc_eq, slen_eq, flen_eq, nt_eq, beq_eq, scmp_eq, scmp_ne, decide_eq_true_eq, decide_eq_false_iff_not, Bool.not_eq_true', Bool.not_eq_false', Bool.not_true, Bool.not_false, beq_iff_eq, beq_eq_false_iff_ne, ne_eq]; done) | (refine sub_tt ?_; assumption) | (refine sub_ff ?_; assumption)))), .rfl, .rfl, .rfl, .rfl, .rfl, .rfl, .rfl, .rfl, .rfl, trivial⟩), by cbv⟩; done)
                        | (refine ⟨(r, ⟨so', t', w', f', li', to', pl', o', wa'⟩), by dsimp only; omega, ⟨by dsimp only; omega, by dsimp only; omega, loop_next h2 hp h0 hr (stepR_9 (by assumption) (by assumption) (by first | assumption | (simp only; symm; assumption)))⟩, rfl, (by cbv; (repeat' (first | exact sub_any | exact Sub.rfl | exact SubL.nil | refine SubL.cons ?_ ?_ | exact sub_i rfl | refine sub_tp ?_ | refine sub_ag ?_ | exact sub_tt rfl | exact sub_ff rfl | (refine sub_i ?_; simp only [Z.v]; omega) | (refine sub_b ?_; assumption) | (refine sub_b ?_; simp only [← hS, cmp_le, cmp_lt, cmp_ge, cmp_gt, cmp_eq, cmp_ne, pl_eq, mi_eq, sc_eq, slen_eq, flen_eq, nt_eq, beq_eq, scmp_eq, scmp_ne, decide_eq_true_eq, decide_eq_false_iff_not, Bool.not_eq_true', Bool.not_eq_false', Bool.not_true, Bool.not_false, beq_iff_eq, beq_eq_false_iff_ne, ne_eq]; done) | (refine sub_tt ?_; assumption) | (refine sub_ff ?_; assumption)))), (by cbv; exact ⟨.rfl, .rfl, .rfl, .rfl, .c (by (repeat' (first | exact sub_any | exact Sub.rfl | exact SubL.nil | refine SubL.cons ?_ ?_ | exact sub_i rfl | refine sub_tp ?_ | refine sub_ag ?_ | exact sub_tt rfl | exact sub_ff rfl | (refine sub_i ?_; simp only [Z.v]; omega) | (refine sub_b ?_; assumption) | (refine sub_b ?_; simp only [← hS, cmp_le, cmp_lt, cmp_ge, cmp_gt, cmp_eq, cmp_ne, pl_eq, mi_eq, sc_eq, slen_eq, flen_eq, nt_eq, beq_eq, scmp_eq, scmp_ne, decide_eq_true_eq, decide_eq_false_iff_not, Bool.not_eq_true', Bool.not_eq_false', Bool.not_true, Bool.not_false, beq_iff_eq, beq_eq_false_iff_ne, ne_eq]; done) | (refine sub_tt ?_; assumption) | (refine sub_ff ?_; assumption)))), .rfl, .rfl, .rfl, .rfl, .rfl, .rfl, .rfl, .rfl, .rfl, trivial⟩), by cbv⟩; done)
                        | (refine ⟨(r, ⟨so', t', w', f', li', true, pv, o', wa'⟩), by dsimp only; omega, ⟨by dsimp only; omega, by dsimp only; omega, loop_next h2 hp h0 hr (hpv ▸ stepR_9f (by assumption) (by assumption))⟩, rfl, (by cbv; (repeat' (first | exact sub_any | exact Sub.rfl | exact SubL.nil | refine SubL.cons ?_ ?_ | exact sub_i rfl | refine sub_tp ?_ | refine sub_ag ?_ | exact sub_tt rfl | exact sub_ff rfl | (refine sub_i ?_; simp only [Z.v]; omega) | (refine sub_b ?_; assumption) | (refine sub_b ?_; simp only [← hS, cmp_le, cmp_lt, cmp_ge, cmp_gt, cmp_eq, cmp_ne, pl_eq, mi_eq, sc_eq, slen_eq, flen_eq, nt_eq, beq_eq, scmp_eq, scmp_ne, decide_eq_true_eq, decide_eq_false_iff_not, Bool.not_eq_true', Bool.not_eq_false', Bool.not_true, Bool.not_false, beq_iff_eq, beq_eq_false_iff_ne, ne_eq]; done) | (refine sub_tt ?_; assumption) | (refine sub_ff ?_; assumption)))), (by cbv; exact ⟨.rfl, .rfl, .rfl, .rfl, .c (.cons .rfl (.cons .rfl (.cons .rfl (.cons .rfl (.cons .rfl (.cons (sub_tt rfl) (.cons (sub_b (by rw [hpv, ← hS]; rfl)) (.cons .rfl (.cons .rfl .nil))))))))), .rfl, .rfl, .rfl, .rfl, .rfl, .rfl, .rfl, .rfl, .rfl, trivial⟩), by cbv⟩; done)
                        | (refine ⟨(r, ⟨so', t', w', f', li', to', pl', o', wa'⟩), by dsimp only; omega, ⟨by dsimp only; omega, by dsimp only; omega, loop_next h2 hp h0 hr (stepR_0 (by assumption) (by assumption) (by assumption) (by assumption) (by assumption))⟩, rfl, (by cbv; (repeat' (first | exact sub_any | exact Sub.rfl | exact SubL.nil | refine SubL.cons ?_ ?_ | exact sub_i rfl | refine sub_tp ?_ | refine sub_ag ?_ | exact sub_tt rfl | exact sub_ff rfl | (refine sub_i ?_; simp only [Z.v]; omega) | (refine sub_b ?_; assumption) | (refine sub_b ?_; simp only [← hS, cmp_le, cmp_lt, cmp_ge, cmp_gt, cmp_eq, cmp_ne, pl_eq, mi_eq, sc_eq, slen_eq, flen_eq, nt_eq, beq_eq, scmp_eq, scmp_ne, decide_eq_true_eq, decide_eq_false_iff_not, Bool.not_eq_true', Bool.not_eq_false', Bool.not_true, Bool.not_false, beq_iff_eq, beq_eq_false_iff_ne, ne_eq]; done) | (refine sub_tt ?_; assumption) | (refine sub_ff ?_; assumption)))), (by cbv; exact ⟨.rfl, .rfl, .rfl, .rfl, .c (by (repeat' (first | exact sub_any | exact Sub.rfl | exact SubL.nil | refine SubL.cons ?_ ?_ | exact sub_i rfl | refine sub_tp ?_ | refine sub_ag ?_ | exact sub_tt rfl | exact sub_ff rfl | (refine sub_i ?_; simp only [Z.v]; omega) | (refine sub_b ?_; assumption) | (refine sub_b ?_; simp only [← hS, cmp_le, cmp_lt, cmp_ge, cmp_gt, cmp_eq, cmp_ne, pl_eq, mi_eq, sc_eq, slen_eq, flen_eq, nt_eq, beq_eq, scmp_eq, scmp_ne, decide_eq_true_eq, decide_eq_false_iff_not, Bool.not_eq_true', Bool.not_eq_false', Bool.not_true, Bool.not_false, beq_iff_eq, beq_eq_false_iff_ne, ne_eq]; done) | (refine sub_tt ?_; assumption) | (refine sub_ff ?_; assumption)))), .rfl, .rfl, .rfl, .rfl, .rfl, .rfl, .rfl, .rfl, .rfl, trivial⟩), by cbv⟩; done))
                 · have hall := h2
                   rw [take_all (by omega)] at hall
                   repeat' (first
                       | (refine s_eqs hS rfl ?_; try cbv)
                       | (refine s_eqo hS ?_; try cbv)
                       | (refine s_chk hS (by simp only [← hS, cmp_le, cmp_lt, cmp_ge, cmp_gt, cmp_eq, cmp_ne, pl_eq, mi_eq, sc_eq, slen_eq, flen_eq, nt_eq, beq_eq, scmp_eq, scmp_ne, decide_eq_true_eq, decide_eq_false_iff_not, Bool.not_eq_true', Bool.not_eq_false', Bool.not_true, Bool.not_false, beq_iff_eq, beq_eq_false_iff_ne, ne_eq]; omega) ?_; try cbv)
                       | (refine s_br hS ?_ ?_ <;> intro h <;> (try cbv) <;> (try simp only [← hS, cmp_le, cmp_lt, cmp_ge, cmp_gt, cmp_eq, cmp_ne, pl_eq, mi_eq, sc_eq, slen_eq, flen_eq, nt_eq, beq_eq, scmp_eq, scmp_ne, decide_eq_true_eq, decide_eq_false_iff_not, Bool.not_eq_true', Bool.not_eq_false', Bool.not_true, Bool.not_false, beq_iff_eq, beq_eq_false_iff_ne, ne_eq] at h) <;> first | (exfalso; omega) | (exact absurd trivial h) | (exact (no_tf h).elim) | (exact (no_ft h).elim) | (exact (no_both h (by with_reducible assumption)).elim) | (exact (no_both (by with_reducible assumption) h).elim) | skip)
                       | (refine s_add hS ?_ (by simp only [lo]; omega) (by simp only [hi]; omega); intro _ _; try cbv)
                       | (refine s_sub hS ?_ (by simp only [lo]; omega) (by simp only [hi]; omega); intro _ _; try cbv)
                       | (refine s_cvi hS ?_ (by simp only [lo]; omega) (by simp only [hi]; omega); try cbv)
                       | (refine call_in' hS I.fn_setting_whole ?_; cbv)
                       | (refine s_draw hS rfl I.ord_setting_Take_1 (by decide +kernel) ?_; cbv)
                       | (refine s_draw hS rfl I.ord_setting_Take_2 (by decide +kernel) ?_; cbv)
                       | (refine And.intro rfl ?_; try cbv))
                   · subst hT; rw [takeR_4 hr hy hall (by simp only; omega)]; simp only [R3.sv, St9.sv]; (repeat' (first | exact sub_any | exact Sub.rfl | exact SubL.nil | refine SubL.cons ?_ ?_ | exact sub_i rfl | refine sub_tp ?_ | refine sub_ag ?_ | exact sub_tt rfl | exact sub_ff rfl | (refine sub_i ?_; simp only [Z.v]; omega) | (refine sub_b ?_; assumption) | (refine sub_b ?_; simp only [← hS, cmp_le, cmp_lt, cmp_ge, cmp_gt, cmp_eq, cmp_ne, pl_eq, mi_eq, sc_eq, slen_eq, flen_eq, nt_eq, beq_eq, scmp_eq, scmp_ne, decide_eq_true_eq, decide_eq_false_iff_not, Bool.not_eq_true', Bool.not_eq_false', Bool.not_true, Bool.not_false, beq_iff_eq, beq_eq_false_iff_ne, ne_eq]; done) | (refine sub_tt ?_; assumption) | (refine sub_ff ?_; assumption)))
                   · subst hT; rw [takeR_5 hr hy hall (by simp only; omega)]; simp only [R3.sv, St9.sv]; (repeat' (first | exact sub_any | exact Sub.rfl | exact SubL.nil | refine SubL.cons ?_ ?_ | exact sub_i rfl | refine sub_tp ?_ | refine sub_ag ?_ | exact sub_tt rfl | exact sub_ff rfl | (refine sub_i ?_; simp only [Z.v]; omega) | (refine sub_b ?_; assumption) | (refine sub_b ?_; simp only [← hS, cmp_le, cmp_lt, cmp_ge, cmp_gt, cmp_eq, cmp_ne, pl_eq, mi_eq, sc_eq, slen_eq, flen_eq, nt_eq, beq_eq, scmp_eq, scmp_ne, decide_eq_true_eq, decide_eq_false_iff_not, Bool.not_eq_true', Bool.not_eq_false', Bool.not_true, Bool.not_false, beq_iff_eq, beq_eq_false_iff_ne, ne_eq]; done) | (refine sub_tt ?_; assumption) | (refine sub_ff ?_; assumption))))
end Cz
