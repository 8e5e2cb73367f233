/- Setting, part J: as many acks may go out as settings came. -/
import Derived.Test.YtpidadlehhcngaaCzT9
namespace Cz
open Go Go.RowKit Go.Proofs
set_option linter.unusedSimpArgs false
set_option linter.unusedVariables false
set_option maxRecDepth 100000
set_option maxHeartbeats 4000000
theorem right_o1 {so to pl : Bool} {t w f li o wa : Int} (h : rightB ⟨so, t, w, f, li, to, pl, o, wa⟩ = true) (h1 : ¬ 64 < o + 1) : rightB ⟨true, t, w, f, li, to, pl, o + 1, wa⟩ = true := by
  simp only [rightB, withinB, Bool.and_eq_true, decide_eq_true_eq, Bool.true_or, and_true] at h ⊢
  obtain ⟨⟨⟨⟨⟨⟨⟨a, b⟩, c⟩, d⟩, e⟩, g⟩, i⟩, _⟩ := h
  exact ⟨⟨⟨⟨⟨⟨a, b⟩, c⟩, d⟩, by omega⟩, g⟩, i⟩
theorem right_p1 {to pl : Bool} {t w f li o wa : Int} (h : rightB ⟨true, t, w, f, li, to, pl, o, wa⟩ = true) (h1 : 1 ≤ o) : rightB ⟨true, t, w, f, li, to, pl, o - 1, wa⟩ = true := by
  simp only [rightB, withinB, Bool.and_eq_true, decide_eq_true_eq, Bool.true_or, and_true] at h ⊢
  obtain ⟨⟨⟨⟨⟨⟨a, b⟩, c⟩, d⟩, e⟩, g⟩, i⟩ := h
  exact ⟨⟨⟨⟨⟨⟨a, b⟩, c⟩, d⟩, by omega⟩, g⟩, i⟩

theorem lget_snoc : ∀ (l : List Blk) (b : Blk), lget (snoc l b) (len l) = b
  | [], _ => rfl
  | _ :: l, b => lget_snoc l b
theorem take_k {S : Sy} {l : List Blk} {K : SV → List Blk → Prop} {xs : List SV} (hS : S0 Try.prog = S) {k : Nat} {ro lit : Bool} {st n : Z} {F' : List SV} (hk : is9 xs = true) (ps : List (Int × Int)) (hl : POk ps) (hn : ilen ps = n.v) (hm : n.v < 1000000) (hrow : lget l k = .r ro lit st 2 F')
    (hs : FSub F' (cellsP ps)) (r : R3) (hr : takeR (st9 xs) ps = r) (h : K r.sv l) : S.call 8 [.ag xs, .sl k 2 (.l 0) n none] l K :=
  use_read hS (fun _ => k) (take_f (st9 xs) ps hl n.v hn (cellsP ps) rfl hm) (.cons (sub_st9 hk) (.cons (sub_sl rfl rfl) .nil)) (by simp [refsBL, refsB, St9.sv]) ⟨⟨_, _, _, _, _, _, _, _, rfl, cellsP_plain ps, hrow, hs⟩, trivial⟩ rfl
    (hr ▸ h)
theorem paid_k {S : Sy} {l : List Blk} {K : SV → List Blk → Prop} {xs : List SV} (hS : S0 Try.prog = S) (hk : is9 xs = true) (r : St9 × Bool) (hr : paidR (st9 xs) = r) (h : K (pdSv r) l) : S.call 12 [.ag xs] l K :=
  use_val hS (paid_f (st9 xs)) (.cons (sub_st9 hk) .nil) rfl rfl (hr ▸ h)
/-- SETTINGS that say nothing. -/
theorem take_0 {S : Sy} {l : List Blk} {K : SV → List Blk → Prop} {xs : List SV} (hS : S0 Try.prog = S) (hk : is9 xs = true) (r : R3) (hr : takeR (st9 xs) [] = r) (h : K r.sv (snoc l (.r true true (.l 0) 2 []))) :
    S.call 8 [.ag xs, .re (.slice none 0 0)] l K :=
  nil_u hS hk (take_k (xs := [.b (st9 xs).so, .i .i64 (.y (st9 xs).t), .i .i64 (.y (st9 xs).w), .i .i64 (.y (st9 xs).f), .i .i64 (.y (st9 xs).li), .b (st9 xs).to, .b (st9 xs).pl, .i .i64 (.y (st9 xs).o), .i .i64 (.y (st9 xs).wa)]) rfl rfl [] (by simp [POk]) rfl (by decide) (lget_snoc _ _) .rfl r hr h)

theorem owes_law (s : St9) (many paid : Int) : (S0 Try.prog).call 5 [s.sv, .i .i64 (.y many), .i .i64 (.y paid)] [] (fun x _ => Sub x .tt) := by
  obtain ⟨so, t, w, f, li, to, pl, o, wa⟩ := s
  generalize hS : S0 Try.prog = S
  refine call_in' hS I.fn_causeylaw21_SettingOwes ?_
  cbv
  repeat' (first
      | (refine s_eqs hS rfl ?_; try cbv)
      | (refine s_eqt hS rfl ?_ ?_; (focus (cbv; (repeat' (first | exact trivial | rfl | refine And.intro ?_ ?_ | assumption | omega | (simp only [← hS, cmp_le, cmp_lt, cmp_ge, cmp_gt, cmp_eq, cmp_ne, pl_eq, mi_eq, sc_eq, slen_eq, flen_eq, nt_eq, beq_eq, scmp_eq, scmp_ne, decide_eq_true_eq, decide_eq_false_iff_not, Bool.not_eq_true', Bool.not_eq_false', Bool.not_true, Bool.not_false, beq_iff_eq, beq_eq_false_iff_ne, ne_eq]; done) | (simp only [← hS, cmp_le, cmp_lt, cmp_ge, cmp_gt, cmp_eq, cmp_ne, pl_eq, mi_eq, sc_eq, slen_eq, flen_eq, nt_eq, beq_eq, scmp_eq, scmp_ne, decide_eq_true_eq, decide_eq_false_iff_not, Bool.not_eq_true', Bool.not_eq_false', Bool.not_true, Bool.not_false, beq_iff_eq, beq_eq_false_iff_ne, ne_eq]; first | assumption | omega))); done)); try cbv)
      | (refine s_eqo hS ?_; try cbv)
      | (refine s_chk hS (by simp only [← hS, cmp_le, cmp_lt, cmp_ge, cmp_gt, cmp_eq, cmp_ne, pl_eq, mi_eq, sc_eq, slen_eq, flen_eq, nt_eq, beq_eq, scmp_eq, scmp_ne, decide_eq_true_eq, decide_eq_false_iff_not, Bool.not_eq_true', Bool.not_eq_false', Bool.not_true, Bool.not_false, beq_iff_eq, beq_eq_false_iff_ne, ne_eq]; omega) ?_; try cbv)
      | (refine s_br hS ?_ ?_ <;> intro h <;> (try cbv) <;> (try simp only [← hS, cmp_le, cmp_lt, cmp_ge, cmp_gt, cmp_eq, cmp_ne, pl_eq, mi_eq, sc_eq, slen_eq, flen_eq, nt_eq, beq_eq, scmp_eq, scmp_ne, decide_eq_true_eq, decide_eq_false_iff_not, Bool.not_eq_true', Bool.not_eq_false', Bool.not_true, Bool.not_false, beq_iff_eq, beq_eq_false_iff_ne, ne_eq] at h) <;> first | (exfalso; omega) | (exact absurd trivial h) | (exact (no_tf h).elim) | (exact (no_ft h).elim) | (exact (no_both h (by with_reducible assumption)).elim) | (exact (no_both (by with_reducible assumption) h).elim) | skip)
      | (refine s_add hS ?_ (by simp only [lo]; omega) (by simp only [hi]; omega); intro _ _; try cbv)
      | (refine s_sub hS ?_ (by simp only [lo]; omega) (by simp only [hi]; omega); intro _ _; try cbv)
      | (refine s_cvi hS ?_ (by simp only [lo]; omega) (by simp only [hi]; omega); try cbv)
      | (exact Sub.rfl)
      | (refine right2_u hS rfl ?_ ?_ <;> intro hr <;> simp only [st9, bv, iv, Z.v] at hr <;> cbv)
      | (refine wakes_u hS ?_; cbv))
  have hm : many ≤ 70 := by omega
  refine s_loop_up hS 1 I.dead_causeylaw21_SettingOwes_0 (fun x : Int × St9 => 0 ≤ x.1 ∧ x.1 ≤ many ∧ rightB x.2 = true) (fun x => [(7, .i .i64 (.y x.2.o)), (8, .i .i64 (.y x.1))])
    (fun x => [(0, .c [.b x.2.so, .i .i64 (.y x.2.t), .i .i64 (.y x.2.w), .i .i64 (.y x.2.f), .i .i64 (.y x.2.li), .b x.2.to, .b x.2.pl, .i .i64 (.y x.2.o), .i .i64 (.y x.2.wa)])])
    (fun x => (many - x.1).toNat) (0, ⟨so, t, w, f, li, to, pl, o, wa⟩) rfl ⟨⟨by simp, by simp; omega, hr⟩, rfl, ?_, ?_, by cbv⟩ ?_
  · cbv; (repeat' (first | exact sub_any | exact Sub.rfl | exact SubL.nil | refine SubL.cons ?_ ?_ | exact sub_i rfl | refine sub_tp ?_ | refine sub_ag ?_ | exact sub_tt rfl | exact sub_ff rfl | exact sub_b_tt rfl | exact sub_b_ff rfl | (refine sub_i ?_; simp only [Z.v]; omega) | (refine sub_b ?_; assumption) | (refine sub_b ?_; simp only [← hS, cmp_le, cmp_lt, cmp_ge, cmp_gt, cmp_eq, cmp_ne, pl_eq, mi_eq, sc_eq, slen_eq, flen_eq, nt_eq, beq_eq, scmp_eq, scmp_ne, decide_eq_true_eq, decide_eq_false_iff_not, Bool.not_eq_true', Bool.not_eq_false', Bool.not_true, Bool.not_false, beq_iff_eq, beq_eq_false_iff_ne, ne_eq]; done) | (refine sub_tt ?_; assumption) | (refine sub_ff ?_; assumption)))
  · cbv; exact ⟨.rfl, trivial⟩
  · intro x
    obtain ⟨i, so, t, w, f, li, to, pl, o, wa⟩ := x
    clear hr
    intro ha
    dsimp only at ha
    cbv
    obtain ⟨h0, h1, hr⟩ := ha
    have hb := rightB_o hr
    simp only at hb
    refine s_br hS ?_ ?_ <;> intro h <;> cbv <;> simp only [← hS, cmp_le, cmp_lt, cmp_ge, cmp_gt, cmp_eq, cmp_ne, pl_eq, mi_eq, sc_eq, slen_eq, flen_eq, nt_eq, beq_eq, scmp_eq, scmp_ne, decide_eq_true_eq, decide_eq_false_iff_not, Bool.not_eq_true', Bool.not_eq_false', Bool.not_true, Bool.not_false, beq_iff_eq, beq_eq_false_iff_ne, ne_eq] at h
    · by_cases ho : 64 < o + 1
      · have ht := takeR_4 (l := []) hr rfl rfl ho
        refine take_0 hS rfl _ ht ?_
        cbv
        repeat' (first
            | (refine s_eqs hS rfl ?_; try cbv)
            | (refine s_eqt hS rfl ?_ ?_; (focus (cbv; (repeat' (first | exact trivial | rfl | refine And.intro ?_ ?_ | assumption | omega | (simp only [← hS, cmp_le, cmp_lt, cmp_ge, cmp_gt, cmp_eq, cmp_ne, pl_eq, mi_eq, sc_eq, slen_eq, flen_eq, nt_eq, beq_eq, scmp_eq, scmp_ne, decide_eq_true_eq, decide_eq_false_iff_not, Bool.not_eq_true', Bool.not_eq_false', Bool.not_true, Bool.not_false, beq_iff_eq, beq_eq_false_iff_ne, ne_eq]; done) | (simp only [← hS, cmp_le, cmp_lt, cmp_ge, cmp_gt, cmp_eq, cmp_ne, pl_eq, mi_eq, sc_eq, slen_eq, flen_eq, nt_eq, beq_eq, scmp_eq, scmp_ne, decide_eq_true_eq, decide_eq_false_iff_not, Bool.not_eq_true', Bool.not_eq_false', Bool.not_true, Bool.not_false, beq_iff_eq, beq_eq_false_iff_ne, ne_eq]; first | assumption | omega))); done)); try cbv)
            | (refine s_eqo hS ?_; try cbv)
            | (refine s_chk hS (by simp only [← hS, cmp_le, cmp_lt, cmp_ge, cmp_gt, cmp_eq, cmp_ne, pl_eq, mi_eq, sc_eq, slen_eq, flen_eq, nt_eq, beq_eq, scmp_eq, scmp_ne, decide_eq_true_eq, decide_eq_false_iff_not, Bool.not_eq_true', Bool.not_eq_false', Bool.not_true, Bool.not_false, beq_iff_eq, beq_eq_false_iff_ne, ne_eq]; omega) ?_; try cbv)
            | (refine s_br hS ?_ ?_ <;> intro h <;> (try cbv) <;> (try simp only [← hS, cmp_le, cmp_lt, cmp_ge, cmp_gt, cmp_eq, cmp_ne, pl_eq, mi_eq, sc_eq, slen_eq, flen_eq, nt_eq, beq_eq, scmp_eq, scmp_ne, decide_eq_true_eq, decide_eq_false_iff_not, Bool.not_eq_true', Bool.not_eq_false', Bool.not_true, Bool.not_false, beq_iff_eq, beq_eq_false_iff_ne, ne_eq] at h) <;> first | (exfalso; omega) | (exact absurd trivial h) | (exact (no_tf h).elim) | (exact (no_ft h).elim) | (exact (no_both h (by with_reducible assumption)).elim) | (exact (no_both (by with_reducible assumption) h).elim) | skip)
            | (refine s_add hS ?_ (by simp only [lo]; omega) (by simp only [hi]; omega); intro _ _; try cbv)
            | (refine s_sub hS ?_ (by simp only [lo]; omega) (by simp only [hi]; omega); intro _ _; try cbv)
            | (refine s_cvi hS ?_ (by simp only [lo]; omega) (by simp only [hi]; omega); try cbv)
            | (exact Sub.rfl)
            | (refine wakes_u hS ?_; cbv))
      · obtain ⟨o1, ho1⟩ : ∃ o1, o + 1 = o1 := ⟨_, rfl⟩
        have ht := takeR_5 (l := []) hr rfl rfl ho
        have hr1 := right_o1 hr ho
        simp only [ho1] at ht hr1
        refine take_0 hS rfl _ ht ?_
        cbv
        repeat' (first
            | (refine s_eqs hS rfl ?_; try cbv)
            | (refine s_eqt hS rfl ?_ ?_; (focus (cbv; (repeat' (first | exact trivial | rfl | refine And.intro ?_ ?_ | assumption | omega | (simp only [← hS, cmp_le, cmp_lt, cmp_ge, cmp_gt, cmp_eq, cmp_ne, pl_eq, mi_eq, sc_eq, slen_eq, flen_eq, nt_eq, beq_eq, scmp_eq, scmp_ne, decide_eq_true_eq, decide_eq_false_iff_not, Bool.not_eq_true', Bool.not_eq_false', Bool.not_true, Bool.not_false, beq_iff_eq, beq_eq_false_iff_ne, ne_eq]; done) | (simp only [← hS, cmp_le, cmp_lt, cmp_ge, cmp_gt, cmp_eq, cmp_ne, pl_eq, mi_eq, sc_eq, slen_eq, flen_eq, nt_eq, beq_eq, scmp_eq, scmp_ne, decide_eq_true_eq, decide_eq_false_iff_not, Bool.not_eq_true', Bool.not_eq_false', Bool.not_true, Bool.not_false, beq_iff_eq, beq_eq_false_iff_ne, ne_eq]; first | assumption | omega))); done)); try cbv)
            | (refine s_eqo hS ?_; try cbv)
            | (refine s_chk hS (by simp only [← hS, cmp_le, cmp_lt, cmp_ge, cmp_gt, cmp_eq, cmp_ne, pl_eq, mi_eq, sc_eq, slen_eq, flen_eq, nt_eq, beq_eq, scmp_eq, scmp_ne, decide_eq_true_eq, decide_eq_false_iff_not, Bool.not_eq_true', Bool.not_eq_false', Bool.not_true, Bool.not_false, beq_iff_eq, beq_eq_false_iff_ne, ne_eq]; omega) ?_; try cbv)
            | (refine s_br hS ?_ ?_ <;> intro h <;> (try cbv) <;> (try simp only [← hS, cmp_le, cmp_lt, cmp_ge, cmp_gt, cmp_eq, cmp_ne, pl_eq, mi_eq, sc_eq, slen_eq, flen_eq, nt_eq, beq_eq, scmp_eq, scmp_ne, decide_eq_true_eq, decide_eq_false_iff_not, Bool.not_eq_true', Bool.not_eq_false', Bool.not_true, Bool.not_false, beq_iff_eq, beq_eq_false_iff_ne, ne_eq] at h) <;> first | (exfalso; omega) | (exact absurd trivial h) | (exact (no_tf h).elim) | (exact (no_ft h).elim) | (exact (no_both h (by with_reducible assumption)).elim) | (exact (no_both (by with_reducible assumption) h).elim) | skip)
            | (refine s_add hS ?_ (by simp only [lo]; omega) (by simp only [hi]; omega); intro _ _; try cbv)
            | (refine s_sub hS ?_ (by simp only [lo]; omega) (by simp only [hi]; omega); intro _ _; try cbv)
            | (refine s_cvi hS ?_ (by simp only [lo]; omega) (by simp only [hi]; omega); try cbv)
            | (refine wakes_u hS ?_; cbv))
        rename_i r ho2
        obtain rfl : o1 = r := by omega
        refine s_loop_up hS 1 I.dead_causeylaw21_SettingOwes_1 (fun x : Int × Int => 0 ≤ x.1 ∧ rightB ⟨true, t, w, f, li, to, pl, x.2, wa⟩ = true) (fun x => [(7, .i .i64 (.y x.2)), (12, .i .i64 (.y x.1))])
          (fun x => [(0, .c [.tt, .i .i64 (.y t), .i .i64 (.y w), .i .i64 (.y f), .i .i64 (.y li), .b to, .b pl, .i .i64 (.y x.2), .i .i64 (.y wa)])])
          (fun x => (paid - x.1).toNat) (0, o1) rfl ⟨⟨by simp, hr1⟩, rfl, ?_, ?_, by cbv⟩ ?_
        · cbv; (repeat' (first | exact sub_any | exact Sub.rfl | exact SubL.nil | refine SubL.cons ?_ ?_ | exact sub_i rfl | refine sub_tp ?_ | refine sub_ag ?_ | exact sub_tt rfl | exact sub_ff rfl | exact sub_b_tt rfl | exact sub_b_ff rfl | (refine sub_i ?_; simp only [Z.v]; omega) | (refine sub_b ?_; assumption) | (refine sub_b ?_; simp only [← hS, cmp_le, cmp_lt, cmp_ge, cmp_gt, cmp_eq, cmp_ne, pl_eq, mi_eq, sc_eq, slen_eq, flen_eq, nt_eq, beq_eq, scmp_eq, scmp_ne, decide_eq_true_eq, decide_eq_false_iff_not, Bool.not_eq_true', Bool.not_eq_false', Bool.not_true, Bool.not_false, beq_iff_eq, beq_eq_false_iff_ne, ne_eq]; done) | (refine sub_tt ?_; assumption) | (refine sub_ff ?_; assumption)))
        · cbv; exact ⟨.c (by (repeat' (first | exact sub_any | exact Sub.rfl | exact SubL.nil | refine SubL.cons ?_ ?_ | exact sub_i rfl | refine sub_tp ?_ | refine sub_ag ?_ | exact sub_tt rfl | exact sub_ff rfl | exact sub_b_tt rfl | exact sub_b_ff rfl | (refine sub_i ?_; simp only [Z.v]; omega) | (refine sub_b ?_; assumption) | (refine sub_b ?_; simp only [← hS, cmp_le, cmp_lt, cmp_ge, cmp_gt, cmp_eq, cmp_ne, pl_eq, mi_eq, sc_eq, slen_eq, flen_eq, nt_eq, beq_eq, scmp_eq, scmp_ne, decide_eq_true_eq, decide_eq_false_iff_not, Bool.not_eq_true', Bool.not_eq_false', Bool.not_true, Bool.not_false, beq_iff_eq, beq_eq_false_iff_ne, ne_eq]; done) | (refine sub_tt ?_; assumption) | (refine sub_ff ?_; assumption)))), trivial⟩
        · intro x
          obtain ⟨k, o2⟩ := x
          intro ha
          dsimp only at ha
          cbv
          obtain ⟨h2, hr2⟩ := ha
          have hb2 := rightB_o hr2
          simp only at hb2
          refine s_br hS ?_ ?_ <;> intro h <;> cbv <;> simp only [← hS, cmp_le, cmp_lt, cmp_ge, cmp_gt, cmp_eq, cmp_ne, pl_eq, mi_eq, sc_eq, slen_eq, flen_eq, nt_eq, beq_eq, scmp_eq, scmp_ne, decide_eq_true_eq, decide_eq_false_iff_not, Bool.not_eq_true', Bool.not_eq_false', Bool.not_true, Bool.not_false, beq_iff_eq, beq_eq_false_iff_ne, ne_eq] at h
          · by_cases ho3 : 1 ≤ o2
            · obtain ⟨o3, ho4⟩ : ∃ o3, o2 - 1 = o3 := ⟨_, rfl⟩
              have hp := paidR_1 hr2 ho3
              have hr3 := right_p1 hr2 ho3
              simp only [ho4] at hp hr3
              refine paid_k hS rfl _ hp ?_
              cbv
              repeat' (first
                  | (refine s_eqs hS rfl ?_; try cbv)
                  | (refine s_eqt hS rfl ?_ ?_; (focus (cbv; (repeat' (first | exact trivial | rfl | refine And.intro ?_ ?_ | assumption | omega | (simp only [← hS, cmp_le, cmp_lt, cmp_ge, cmp_gt, cmp_eq, cmp_ne, pl_eq, mi_eq, sc_eq, slen_eq, flen_eq, nt_eq, beq_eq, scmp_eq, scmp_ne, decide_eq_true_eq, decide_eq_false_iff_not, Bool.not_eq_true', Bool.not_eq_false', Bool.not_true, Bool.not_false, beq_iff_eq, beq_eq_false_iff_ne, ne_eq]; done) | (simp only [← hS, cmp_le, cmp_lt, cmp_ge, cmp_gt, cmp_eq, cmp_ne, pl_eq, mi_eq, sc_eq, slen_eq, flen_eq, nt_eq, beq_eq, scmp_eq, scmp_ne, decide_eq_true_eq, decide_eq_false_iff_not, Bool.not_eq_true', Bool.not_eq_false', Bool.not_true, Bool.not_false, beq_iff_eq, beq_eq_false_iff_ne, ne_eq]; first | assumption | omega))); done)); try cbv)
                  | (refine s_eqo hS ?_; try cbv)
                  | (refine s_chk hS (by simp only [← hS, cmp_le, cmp_lt, cmp_ge, cmp_gt, cmp_eq, cmp_ne, pl_eq, mi_eq, sc_eq, slen_eq, flen_eq, nt_eq, beq_eq, scmp_eq, scmp_ne, decide_eq_true_eq, decide_eq_false_iff_not, Bool.not_eq_true', Bool.not_eq_false', Bool.not_true, Bool.not_false, beq_iff_eq, beq_eq_false_iff_ne, ne_eq]; omega) ?_; try cbv)
                  | (refine s_br hS ?_ ?_ <;> intro h <;> (try cbv) <;> (try simp only [← hS, cmp_le, cmp_lt, cmp_ge, cmp_gt, cmp_eq, cmp_ne, pl_eq, mi_eq, sc_eq, slen_eq, flen_eq, nt_eq, beq_eq, scmp_eq, scmp_ne, decide_eq_true_eq, decide_eq_false_iff_not, Bool.not_eq_true', Bool.not_eq_false', Bool.not_true, Bool.not_false, beq_iff_eq, beq_eq_false_iff_ne, ne_eq] at h) <;> first | (exfalso; omega) | (exact absurd trivial h) | (exact (no_tf h).elim) | (exact (no_ft h).elim) | (exact (no_both h (by with_reducible assumption)).elim) | (exact (no_both (by with_reducible assumption) h).elim) | skip)
                  | (refine s_add hS ?_ (by simp only [lo]; omega) (by simp only [hi]; omega); intro _ _; try cbv)
                  | (refine s_sub hS ?_ (by simp only [lo]; omega) (by simp only [hi]; omega); intro _ _; try cbv)
                  | (refine s_cvi hS ?_ (by simp only [lo]; omega) (by simp only [hi]; omega); try cbv))
              · obtain ⟨k1, h_k1⟩ : ∃ r_, r_ = k + 1 := ⟨_, rfl⟩
                exact ⟨(k1, o3), by dsimp only; omega, ⟨by dsimp only; omega, hr3⟩, rfl, (by cbv; (repeat' (first | exact sub_any | exact Sub.rfl | exact SubL.nil | refine SubL.cons ?_ ?_ | exact sub_i rfl | refine sub_tp ?_ | refine sub_ag ?_ | exact sub_tt rfl | exact sub_ff rfl | exact sub_b_tt rfl | exact sub_b_ff rfl | (refine sub_i ?_; simp only [Z.v]; omega) | (refine sub_b ?_; assumption) | (refine sub_b ?_; simp only [← hS, cmp_le, cmp_lt, cmp_ge, cmp_gt, cmp_eq, cmp_ne, pl_eq, mi_eq, sc_eq, slen_eq, flen_eq, nt_eq, beq_eq, scmp_eq, scmp_ne, decide_eq_true_eq, decide_eq_false_iff_not, Bool.not_eq_true', Bool.not_eq_false', Bool.not_true, Bool.not_false, beq_iff_eq, beq_eq_false_iff_ne, ne_eq]; done) | (refine sub_tt ?_; assumption) | (refine sub_ff ?_; assumption)))), (by cbv; (repeat' (first | exact trivial | exact SubB.rfl | refine And.intro ?_ ?_ | (refine SubB.c ?_; (repeat' (first | exact sub_any | exact Sub.rfl | exact SubL.nil | refine SubL.cons ?_ ?_ | exact sub_i rfl | refine sub_tp ?_ | refine sub_ag ?_ | exact sub_tt rfl | exact sub_ff rfl | exact sub_b_tt rfl | exact sub_b_ff rfl | (refine sub_i ?_; simp only [Z.v]; omega) | (refine sub_b ?_; assumption) | (refine sub_b ?_; simp only [← hS, cmp_le, cmp_lt, cmp_ge, cmp_gt, cmp_eq, cmp_ne, pl_eq, mi_eq, sc_eq, slen_eq, flen_eq, nt_eq, beq_eq, scmp_eq, scmp_ne, decide_eq_true_eq, decide_eq_false_iff_not, Bool.not_eq_true', Bool.not_eq_false', Bool.not_true, Bool.not_false, beq_iff_eq, beq_eq_false_iff_ne, ne_eq]; done) | (refine sub_tt ?_; assumption) | (refine sub_ff ?_; assumption))); done)))), by cbv⟩
              · exact absurd (decide_eq_true (show 0 < o2 by omega)).symm h
            · have hp := paidR_2 (s := ⟨true, t, w, f, li, to, pl, o2, wa⟩) ho3
              refine paid_k hS rfl _ hp ?_
              cbv
              repeat' (first
                  | (refine s_eqs hS rfl ?_; try cbv)
                  | (refine s_eqt hS rfl ?_ ?_; (focus (cbv; (repeat' (first | exact trivial | rfl | refine And.intro ?_ ?_ | assumption | omega | (simp only [← hS, cmp_le, cmp_lt, cmp_ge, cmp_gt, cmp_eq, cmp_ne, pl_eq, mi_eq, sc_eq, slen_eq, flen_eq, nt_eq, beq_eq, scmp_eq, scmp_ne, decide_eq_true_eq, decide_eq_false_iff_not, Bool.not_eq_true', Bool.not_eq_false', Bool.not_true, Bool.not_false, beq_iff_eq, beq_eq_false_iff_ne, ne_eq]; done) | (simp only [← hS, cmp_le, cmp_lt, cmp_ge, cmp_gt, cmp_eq, cmp_ne, pl_eq, mi_eq, sc_eq, slen_eq, flen_eq, nt_eq, beq_eq, scmp_eq, scmp_ne, decide_eq_true_eq, decide_eq_false_iff_not, Bool.not_eq_true', Bool.not_eq_false', Bool.not_true, Bool.not_false, beq_iff_eq, beq_eq_false_iff_ne, ne_eq]; first | assumption | omega))); done)); try cbv)
                  | (refine s_eqo hS ?_; try cbv)
                  | (refine s_chk hS (by simp only [← hS, cmp_le, cmp_lt, cmp_ge, cmp_gt, cmp_eq, cmp_ne, pl_eq, mi_eq, sc_eq, slen_eq, flen_eq, nt_eq, beq_eq, scmp_eq, scmp_ne, decide_eq_true_eq, decide_eq_false_iff_not, Bool.not_eq_true', Bool.not_eq_false', Bool.not_true, Bool.not_false, beq_iff_eq, beq_eq_false_iff_ne, ne_eq]; omega) ?_; try cbv)
                  | (refine s_br hS ?_ ?_ <;> intro h <;> (try cbv) <;> (try simp only [← hS, cmp_le, cmp_lt, cmp_ge, cmp_gt, cmp_eq, cmp_ne, pl_eq, mi_eq, sc_eq, slen_eq, flen_eq, nt_eq, beq_eq, scmp_eq, scmp_ne, decide_eq_true_eq, decide_eq_false_iff_not, Bool.not_eq_true', Bool.not_eq_false', Bool.not_true, Bool.not_false, beq_iff_eq, beq_eq_false_iff_ne, ne_eq] at h) <;> first | (exfalso; omega) | (exact absurd trivial h) | (exact (no_tf h).elim) | (exact (no_ft h).elim) | (exact (no_both h (by with_reducible assumption)).elim) | (exact (no_both (by with_reducible assumption) h).elim) | skip)
                  | (refine s_add hS ?_ (by simp only [lo]; omega) (by simp only [hi]; omega); intro _ _; try cbv)
                  | (refine s_sub hS ?_ (by simp only [lo]; omega) (by simp only [hi]; omega); intro _ _; try cbv)
                  | (refine s_cvi hS ?_ (by simp only [lo]; omega) (by simp only [hi]; omega); try cbv))
              · obtain ⟨k1, h_k1⟩ : ∃ r_, r_ = k + 1 := ⟨_, rfl⟩
                exact ⟨(k1, o2), by dsimp only; omega, ⟨by dsimp only; omega, hr2⟩, rfl, (by cbv; (repeat' (first | exact sub_any | exact Sub.rfl | exact SubL.nil | refine SubL.cons ?_ ?_ | exact sub_i rfl | refine sub_tp ?_ | refine sub_ag ?_ | exact sub_tt rfl | exact sub_ff rfl | exact sub_b_tt rfl | exact sub_b_ff rfl | (refine sub_i ?_; simp only [Z.v]; omega) | (refine sub_b ?_; assumption) | (refine sub_b ?_; simp only [← hS, cmp_le, cmp_lt, cmp_ge, cmp_gt, cmp_eq, cmp_ne, pl_eq, mi_eq, sc_eq, slen_eq, flen_eq, nt_eq, beq_eq, scmp_eq, scmp_ne, decide_eq_true_eq, decide_eq_false_iff_not, Bool.not_eq_true', Bool.not_eq_false', Bool.not_true, Bool.not_false, beq_iff_eq, beq_eq_false_iff_ne, ne_eq]; done) | (refine sub_tt ?_; assumption) | (refine sub_ff ?_; assumption)))), (by cbv; (repeat' (first | exact trivial | exact SubB.rfl | refine And.intro ?_ ?_ | (refine SubB.c ?_; (repeat' (first | exact sub_any | exact Sub.rfl | exact SubL.nil | refine SubL.cons ?_ ?_ | exact sub_i rfl | refine sub_tp ?_ | refine sub_ag ?_ | exact sub_tt rfl | exact sub_ff rfl | exact sub_b_tt rfl | exact sub_b_ff rfl | (refine sub_i ?_; simp only [Z.v]; omega) | (refine sub_b ?_; assumption) | (refine sub_b ?_; simp only [← hS, cmp_le, cmp_lt, cmp_ge, cmp_gt, cmp_eq, cmp_ne, pl_eq, mi_eq, sc_eq, slen_eq, flen_eq, nt_eq, beq_eq, scmp_eq, scmp_ne, decide_eq_true_eq, decide_eq_false_iff_not, Bool.not_eq_true', Bool.not_eq_false', Bool.not_true, Bool.not_false, beq_iff_eq, beq_eq_false_iff_ne, ne_eq]; done) | (refine sub_tt ?_; assumption) | (refine sub_ff ?_; assumption))); done)))), by cbv⟩
              · exact absurd (decide_eq_false (show ¬ 0 < o2 by omega)).symm h
          · --@ walk5
            repeat' (first
                | (refine s_eqs hS rfl ?_; try cbv)
                | (refine s_eqt hS rfl ?_ ?_; (focus (cbv; (repeat' (first | exact trivial | rfl | refine And.intro ?_ ?_ | assumption | omega | (simp only [← hS, cmp_le, cmp_lt, cmp_ge, cmp_gt, cmp_eq, cmp_ne, pl_eq, mi_eq, sc_eq, slen_eq, flen_eq, nt_eq, beq_eq, scmp_eq, scmp_ne, decide_eq_true_eq, decide_eq_false_iff_not, Bool.not_eq_true', Bool.not_eq_false', Bool.not_true, Bool.not_false, beq_iff_eq, beq_eq_false_iff_ne, ne_eq]; done) | (simp only [← hS, cmp_le, cmp_lt, cmp_ge, cmp_gt, cmp_eq, cmp_ne, pl_eq, mi_eq, sc_eq, slen_eq, flen_eq, nt_eq, beq_eq, scmp_eq, scmp_ne, decide_eq_true_eq, decide_eq_false_iff_not, Bool.not_eq_true', Bool.not_eq_false', Bool.not_true, Bool.not_false, beq_iff_eq, beq_eq_false_iff_ne, ne_eq]; first | assumption | omega))); done)); try cbv)
                | (refine s_eqo hS ?_; try cbv)
                | (refine s_chk hS (by simp only [← hS, cmp_le, cmp_lt, cmp_ge, cmp_gt, cmp_eq, cmp_ne, pl_eq, mi_eq, sc_eq, slen_eq, flen_eq, nt_eq, beq_eq, scmp_eq, scmp_ne, decide_eq_true_eq, decide_eq_false_iff_not, Bool.not_eq_true', Bool.not_eq_false', Bool.not_true, Bool.not_false, beq_iff_eq, beq_eq_false_iff_ne, ne_eq]; omega) ?_; try cbv)
                | (refine s_br hS ?_ ?_ <;> intro h <;> (try cbv) <;> (try simp only [← hS, cmp_le, cmp_lt, cmp_ge, cmp_gt, cmp_eq, cmp_ne, pl_eq, mi_eq, sc_eq, slen_eq, flen_eq, nt_eq, beq_eq, scmp_eq, scmp_ne, decide_eq_true_eq, decide_eq_false_iff_not, Bool.not_eq_true', Bool.not_eq_false', Bool.not_true, Bool.not_false, beq_iff_eq, beq_eq_false_iff_ne, ne_eq] at h) <;> first | (exfalso; omega) | (exact absurd trivial h) | (exact (no_tf h).elim) | (exact (no_ft h).elim) | (exact (no_both h (by with_reducible assumption)).elim) | (exact (no_both (by with_reducible assumption) h).elim) | skip)
                | (refine s_add hS ?_ (by simp only [lo]; omega) (by simp only [hi]; omega); intro _ _; try cbv)
                | (refine s_sub hS ?_ (by simp only [lo]; omega) (by simp only [hi]; omega); intro _ _; try cbv)
                | (refine s_cvi hS ?_ (by simp only [lo]; omega) (by simp only [hi]; omega); try cbv))
            obtain ⟨i1, h_i1⟩ : ∃ r_, r_ = i + 1 := ⟨_, rfl⟩
            exact ⟨(i1, ⟨true, t, w, f, li, to, pl, o2, wa⟩), by dsimp only; omega, ⟨by dsimp only; omega, by dsimp only; omega, hr2⟩, rfl, (by cbv; (repeat' (first | exact sub_any | exact Sub.rfl | exact SubL.nil | refine SubL.cons ?_ ?_ | exact sub_i rfl | refine sub_tp ?_ | refine sub_ag ?_ | exact sub_tt rfl | exact sub_ff rfl | exact sub_b_tt rfl | exact sub_b_ff rfl | (refine sub_i ?_; simp only [Z.v]; omega) | (refine sub_b ?_; assumption) | (refine sub_b ?_; simp only [← hS, cmp_le, cmp_lt, cmp_ge, cmp_gt, cmp_eq, cmp_ne, pl_eq, mi_eq, sc_eq, slen_eq, flen_eq, nt_eq, beq_eq, scmp_eq, scmp_ne, decide_eq_true_eq, decide_eq_false_iff_not, Bool.not_eq_true', Bool.not_eq_false', Bool.not_true, Bool.not_false, beq_iff_eq, beq_eq_false_iff_ne, ne_eq]; done) | (refine sub_tt ?_; assumption) | (refine sub_ff ?_; assumption)))), (by cbv; (repeat' (first | exact trivial | exact SubB.rfl | refine And.intro ?_ ?_ | (refine SubB.c ?_; (repeat' (first | exact sub_any | exact Sub.rfl | exact SubL.nil | refine SubL.cons ?_ ?_ | exact sub_i rfl | refine sub_tp ?_ | refine sub_ag ?_ | exact sub_tt rfl | exact sub_ff rfl | exact sub_b_tt rfl | exact sub_b_ff rfl | (refine sub_i ?_; simp only [Z.v]; omega) | (refine sub_b ?_; assumption) | (refine sub_b ?_; simp only [← hS, cmp_le, cmp_lt, cmp_ge, cmp_gt, cmp_eq, cmp_ne, pl_eq, mi_eq, sc_eq, slen_eq, flen_eq, nt_eq, beq_eq, scmp_eq, scmp_ne, decide_eq_true_eq, decide_eq_false_iff_not, Bool.not_eq_true', Bool.not_eq_false', Bool.not_true, Bool.not_false, beq_iff_eq, beq_eq_false_iff_ne, ne_eq]; done) | (refine sub_tt ?_; assumption) | (refine sub_ff ?_; assumption))); done)))), by cbv⟩
    · repeat' (first
        | (refine s_eqs hS rfl ?_; try cbv)
        | (refine s_eqt hS rfl ?_ ?_; (focus (cbv; (repeat' (first | exact trivial | rfl | refine And.intro ?_ ?_ | assumption | omega | (simp only [← hS, cmp_le, cmp_lt, cmp_ge, cmp_gt, cmp_eq, cmp_ne, pl_eq, mi_eq, sc_eq, slen_eq, flen_eq, nt_eq, beq_eq, scmp_eq, scmp_ne, decide_eq_true_eq, decide_eq_false_iff_not, Bool.not_eq_true', Bool.not_eq_false', Bool.not_true, Bool.not_false, beq_iff_eq, beq_eq_false_iff_ne, ne_eq]; done) | (simp only [← hS, cmp_le, cmp_lt, cmp_ge, cmp_gt, cmp_eq, cmp_ne, pl_eq, mi_eq, sc_eq, slen_eq, flen_eq, nt_eq, beq_eq, scmp_eq, scmp_ne, decide_eq_true_eq, decide_eq_false_iff_not, Bool.not_eq_true', Bool.not_eq_false', Bool.not_true, Bool.not_false, beq_iff_eq, beq_eq_false_iff_ne, ne_eq]; first | assumption | omega))); done)); try cbv)
        | (refine s_eqo hS ?_; try cbv)
        | (refine s_chk hS (by simp only [← hS, cmp_le, cmp_lt, cmp_ge, cmp_gt, cmp_eq, cmp_ne, pl_eq, mi_eq, sc_eq, slen_eq, flen_eq, nt_eq, beq_eq, scmp_eq, scmp_ne, decide_eq_true_eq, decide_eq_false_iff_not, Bool.not_eq_true', Bool.not_eq_false', Bool.not_true, Bool.not_false, beq_iff_eq, beq_eq_false_iff_ne, ne_eq]; omega) ?_; try cbv)
        | (refine s_br hS ?_ ?_ <;> intro h <;> (try cbv) <;> (try simp only [← hS, cmp_le, cmp_lt, cmp_ge, cmp_gt, cmp_eq, cmp_ne, pl_eq, mi_eq, sc_eq, slen_eq, flen_eq, nt_eq, beq_eq, scmp_eq, scmp_ne, decide_eq_true_eq, decide_eq_false_iff_not, Bool.not_eq_true', Bool.not_eq_false', Bool.not_true, Bool.not_false, beq_iff_eq, beq_eq_false_iff_ne, ne_eq] at h) <;> first | (exfalso; omega) | (exact absurd trivial h) | (exact (no_tf h).elim) | (exact (no_ft h).elim) | (exact (no_both h (by with_reducible assumption)).elim) | (exact (no_both (by with_reducible assumption) h).elim) | skip)
        | (refine s_add hS ?_ (by simp only [lo]; omega) (by simp only [hi]; omega); intro _ _; try cbv)
        | (refine s_sub hS ?_ (by simp only [lo]; omega) (by simp only [hi]; omega); intro _ _; try cbv)
        | (refine s_cvi hS ?_ (by simp only [lo]; omega) (by simp only [hi]; omega); try cbv)
        | (exact Sub.rfl)
        | (refine right_u hS rfl ?_ ?_ <;> intro hr1 <;> simp only [st9, bv, iv, Z.v] at hr1 <;> cbv)
        | (refine wakes_u hS ?_; cbv))
      exact (no_both hr hr1).elim
end Cz
