/- Setting, part I: the law that tells all of it. -/
import Derived.Test.YtpidadlehhcngaaCzT8
namespace Cz
open Go Go.RowKit Go.Proofs
set_option linter.unusedSimpArgs false
set_option linter.unusedVariables false
set_option maxRecDepth 100000
set_option maxHeartbeats 4000000
section
variable {S : Sy} {l : List Blk} {K : SV → List Blk → Prop} {xs ys : List SV}
theorem moved_f (s o : St9) : (S0 Try.prog).call 23 [s.sv, o.sv] [] (fun x _ => Sub x (.i .i64 (.y (arS .sub .i64 o.w s.w)))) := by
  obtain ⟨so, t, w, f, li, to, pl, o1, wa⟩ := s
  obtain ⟨so', t', w', f', li', to', pl', o', wa'⟩ := o
  generalize hT : arS .sub .i64 (St9.mk so' t' w' f' li' to' pl' o' wa').w (St9.mk so t w f li to pl o1 wa).w = T
  simp only at hT
  generalize hS : S0 Try.prog = S
  refine call_in' hS I.fn_setting_Moved ?_
  cbv
  repeat' (first
      | (refine s_eqs hS rfl ?_; try cbv)
      | (refine s_eqt hS rfl ?_ ?_; (focus (cbv; (repeat' (first | exact trivial | rfl | refine And.intro ?_ ?_ | assumption | omega | (simp only [← hS, cmp_le, cmp_lt, cmp_ge, cmp_gt, cmp_eq, cmp_ne, pl_eq, mi_eq, sc_eq, slen_eq, flen_eq, nt_eq, beq_eq, scmp_eq, scmp_ne, decide_eq_true_eq, decide_eq_false_iff_not, Bool.not_eq_true', Bool.not_eq_false', Bool.not_true, Bool.not_false, beq_iff_eq, beq_eq_false_iff_ne, ne_eq]; done) | (simp only [← hS, cmp_le, cmp_lt, cmp_ge, cmp_gt, cmp_eq, cmp_ne, pl_eq, mi_eq, sc_eq, slen_eq, flen_eq, nt_eq, beq_eq, scmp_eq, scmp_ne, decide_eq_true_eq, decide_eq_false_iff_not, Bool.not_eq_true', Bool.not_eq_false', Bool.not_true, Bool.not_false, beq_iff_eq, beq_eq_false_iff_ne, ne_eq]; first | assumption | omega))); done)); try cbv)
      | (refine s_eqo hS ?_; try cbv)
      | (refine s_chk hS (by simp only [← hS, cmp_le, cmp_lt, cmp_ge, cmp_gt, cmp_eq, cmp_ne, pl_eq, mi_eq, sc_eq, slen_eq, flen_eq, nt_eq, beq_eq, scmp_eq, scmp_ne, decide_eq_true_eq, decide_eq_false_iff_not, Bool.not_eq_true', Bool.not_eq_false', Bool.not_true, Bool.not_false, beq_iff_eq, beq_eq_false_iff_ne, ne_eq]; omega) ?_; try cbv)
      | (refine s_br hS ?_ ?_ <;> intro h <;> (try cbv) <;> (try simp only [← hS, cmp_le, cmp_lt, cmp_ge, cmp_gt, cmp_eq, cmp_ne, pl_eq, mi_eq, sc_eq, slen_eq, flen_eq, nt_eq, beq_eq, scmp_eq, scmp_ne, decide_eq_true_eq, decide_eq_false_iff_not, Bool.not_eq_true', Bool.not_eq_false', Bool.not_true, Bool.not_false, beq_iff_eq, beq_eq_false_iff_ne, ne_eq] at h) <;> first | (exfalso; omega) | (exact absurd trivial h) | (exact (no_tf h).elim) | (exact (no_ft h).elim) | (exact (no_both h (by with_reducible assumption)).elim) | (exact (no_both (by with_reducible assumption) h).elim) | skip)
      | (refine s_add hS ?_ (by simp only [lo]; omega) (by simp only [hi]; omega); intro _ _; try cbv)
      | (refine s_sub hS ?_ (by simp only [lo]; omega) (by simp only [hi]; omega); intro _ _; try cbv)
      | (refine s_cvi hS ?_ (by simp only [lo]; omega) (by simp only [hi]; omega); try cbv)
      | (refine s_ar hS ?_; intro r hr; cbv))
  refine sub_i ?_
  simp only [Z.v]; rw [← hT]; assumption
theorem moved2_f (s o : St9) : (S0 Try.prog).call 24 [s.sv, o.sv] [] (fun x _ => Sub x (.i .i64 (.y (arS .sub .i64 o.w s.w)))) := by
  obtain ⟨so, t, w, f, li, to, pl, o1, wa⟩ := s
  obtain ⟨so', t', w', f', li', to', pl', o', wa'⟩ := o
  generalize hT : arS .sub .i64 (St9.mk so' t' w' f' li' to' pl' o' wa').w (St9.mk so t w f li to pl o1 wa).w = T
  simp only at hT
  generalize hS : S0 Try.prog = S
  refine call_in' hS I.fn_causeyref21_Moved ?_
  cbv
  repeat' (first
      | (refine s_eqs hS rfl ?_; try cbv)
      | (refine s_eqt hS rfl ?_ ?_; (focus (cbv; (repeat' (first | exact trivial | rfl | refine And.intro ?_ ?_ | assumption | omega | (simp only [← hS, cmp_le, cmp_lt, cmp_ge, cmp_gt, cmp_eq, cmp_ne, pl_eq, mi_eq, sc_eq, slen_eq, flen_eq, nt_eq, beq_eq, scmp_eq, scmp_ne, decide_eq_true_eq, decide_eq_false_iff_not, Bool.not_eq_true', Bool.not_eq_false', Bool.not_true, Bool.not_false, beq_iff_eq, beq_eq_false_iff_ne, ne_eq]; done) | (simp only [← hS, cmp_le, cmp_lt, cmp_ge, cmp_gt, cmp_eq, cmp_ne, pl_eq, mi_eq, sc_eq, slen_eq, flen_eq, nt_eq, beq_eq, scmp_eq, scmp_ne, decide_eq_true_eq, decide_eq_false_iff_not, Bool.not_eq_true', Bool.not_eq_false', Bool.not_true, Bool.not_false, beq_iff_eq, beq_eq_false_iff_ne, ne_eq]; first | assumption | omega))); done)); try cbv)
      | (refine s_eqo hS ?_; try cbv)
      | (refine s_chk hS (by simp only [← hS, cmp_le, cmp_lt, cmp_ge, cmp_gt, cmp_eq, cmp_ne, pl_eq, mi_eq, sc_eq, slen_eq, flen_eq, nt_eq, beq_eq, scmp_eq, scmp_ne, decide_eq_true_eq, decide_eq_false_iff_not, Bool.not_eq_true', Bool.not_eq_false', Bool.not_true, Bool.not_false, beq_iff_eq, beq_eq_false_iff_ne, ne_eq]; omega) ?_; try cbv)
      | (refine s_br hS ?_ ?_ <;> intro h <;> (try cbv) <;> (try simp only [← hS, cmp_le, cmp_lt, cmp_ge, cmp_gt, cmp_eq, cmp_ne, pl_eq, mi_eq, sc_eq, slen_eq, flen_eq, nt_eq, beq_eq, scmp_eq, scmp_ne, decide_eq_true_eq, decide_eq_false_iff_not, Bool.not_eq_true', Bool.not_eq_false', Bool.not_true, Bool.not_false, beq_iff_eq, beq_eq_false_iff_ne, ne_eq] at h) <;> first | (exfalso; omega) | (exact absurd trivial h) | (exact (no_tf h).elim) | (exact (no_ft h).elim) | (exact (no_both h (by with_reducible assumption)).elim) | (exact (no_both (by with_reducible assumption) h).elim) | skip)
      | (refine s_add hS ?_ (by simp only [lo]; omega) (by simp only [hi]; omega); intro _ _; try cbv)
      | (refine s_sub hS ?_ (by simp only [lo]; omega) (by simp only [hi]; omega); intro _ _; try cbv)
      | (refine s_cvi hS ?_ (by simp only [lo]; omega) (by simp only [hi]; omega); try cbv)
      | (refine s_ar hS ?_; intro r hr; cbv))
  refine sub_i ?_
  simp only [Z.v]; rw [← hT]; assumption
theorem moved_u (hS : S0 Try.prog = S) (hk : is9 xs = true) (hk' : is9 ys = true) (h : ∀ r, arS .sub .i64 (st9 ys).w (st9 xs).w = r → K (.i .i64 (.y r)) l) : S.call 23 [.ag xs, .ag ys] l K :=
  use_val hS (moved_f (st9 xs) (st9 ys)) (.cons (sub_st9 hk) (.cons (sub_st9 hk') .nil)) rfl rfl (h _ rfl)
theorem moved2_k (hS : S0 Try.prog = S) (hk : is9 xs = true) (hk' : is9 ys = true) (r : Int) (hr : arS .sub .i64 (st9 ys).w (st9 xs).w = r) (h : K (.i .i64 (.y r)) l) : S.call 24 [.ag xs, .ag ys] l K :=
  use_val hS (moved2_f (st9 xs) (st9 ys)) (.cons (sub_st9 hk) (.cons (sub_st9 hk') .nil)) rfl rfl (hr ▸ h)
theorem right_x (hS : S0 Try.prog = S) (hk : is9 xs = true) (h : ∀ b, rightB (st9 xs) = b → K (.b b) l) : S.call 19 [.ag xs] l K :=
  use_val hS (right_f (st9 xs)) (.cons (sub_st9 hk) .nil) rfl rfl (h _ rfl)
theorem fits_x (hS : S0 Try.prog = S) {a b c : Z} (h : ∀ x, fitsB a.v b.v c.v = x → K (.b x) l) : S.call 17 [.ag [.i .i64 a, .i .i64 b, .i .i64 c]] l K :=
  use_val hS (args' := [cf a.v b.v c.v]) (fits_f _ _ _) (.cons (sub_ag (.cons (sub_i rfl) (.cons (sub_i rfl) (.cons (sub_i rfl) .nil)))) .nil) rfl rfl (h _ rfl)
theorem fits2_k (hS : S0 Try.prog = S) {a b c : Z} (x : Bool) (hx : fitsB a.v b.v c.v = x) (h : K (.b x) l) : S.call 18 [.ag [.i .i64 a, .i .i64 b, .i .i64 c]] l K :=
  use_val hS (args' := [cf a.v b.v c.v]) (fits2_f _ _ _) (.cons (sub_ag (.cons (sub_i rfl) (.cons (sub_i rfl) (.cons (sub_i rfl) .nil)))) .nil) rfl rfl (hx ▸ h)
/-- The one outcome of Fits that is known. -/
theorem fits_t (hS : S0 Try.prog = S) {a b c : Z} (hx : fitsB a.v b.v c.v = true) (h : K .tt l) : S.call 17 [.ag [.i .i64 a, .i .i64 b, .i .i64 c]] l K :=
  fits_u hS (fun _ => h) (fun e => (no_both hx e).elim)
theorem fits_n (hS : S0 Try.prog = S) {a b c : Z} (hx : fitsB a.v b.v c.v = false) (h : K .ff l) : S.call 17 [.ag [.i .i64 a, .i .i64 b, .i .i64 c]] l K :=
  fits_u hS (fun e => (no_both e hx).elim) (fun _ => h)
theorem fits2_t (hS : S0 Try.prog = S) {a b c : Z} (hx : fitsB a.v b.v c.v = true) (h : K .tt l) : S.call 18 [.ag [.i .i64 a, .i .i64 b, .i .i64 c]] l K :=
  fits2_u hS (fun _ => h) (fun e => (no_both hx e).elim)
theorem fits2_n (hS : S0 Try.prog = S) {a b c : Z} (hx : fitsB a.v b.v c.v = false) (h : K .ff l) : S.call 18 [.ag [.i .i64 a, .i .i64 b, .i .i64 c]] l K :=
  fits2_u hS (fun e => (no_both e hx).elim) (fun _ => h)
end

theorem pairs_nil_f : (S0 Try.prog).call 16 [.re (.slice none 0 0), .re (.slice none 0 0)] [] (fun x _ => Sub x .tt) := by
  generalize hS : S0 Try.prog = S
  refine call_in' hS I.fn_causeyref03_Pairs ?_
  cbv
  refine s_loop_one hS ?_
  cbv
  exact Sub.rfl
theorem pairs_nil {S : Sy} (hS : S0 Try.prog = S) {l : List Blk} {K : SV → List Blk → Prop} (h : K .tt l) : S.call 16 [.re (.slice none 0 0), .re (.slice none 0 0)] l K :=
  use_val hS pairs_nil_f .rfl rfl rfl h

theorem pairs_t {S : Sy} (hS : S0 Try.prog = S) {l : List Blk} {K : SV → List Blk → Prop} {k k' : Nat} {ro lt ro' lt' : Bool} {st st' n n' : Z} {F' G' : List SV} (ps : List (Int × Int)) (hn : ilen ps = n.v) (hn' : ilen ps = n'.v) (hm : n.v < 1000000) (hm' : n'.v < 1000000)
    (hrow : lget l k = .r ro lt st 2 F') (hrow' : lget l k' = .r ro' lt' st' 2 G') (hs : FSub F' (cellsP ps)) (hs' : FSub G' (cellsP ps)) (h1 : K .tt l) :
    S.call 16 [.sl k 2 (.l 0) n none, .sl k' 2 (.l 0) n' none] l K := pairs_u hS ps ps hn hn' hm hm' hrow hrow' hs hs' (fun _ => h1) (fun e => (e rfl).elim)

theorem tells_law (a b c : Int) (s o : St9) (l : List (Int × Int)) (hl : POk l) (n : Int) (hn : ilen l = n) (F : List SV) (hF : cellsP l = F) :
    (S0 Try.prog).call 3 [cf a b c, s.sv, o.sv, .sl 0 2 (.l 0) (.y n) none] [.r true false (.l 0) 2 F] (fun x _ => Sub x .tt) := by
  have n0 : 0 ≤ n := hn ▸ ilen_nn l
  obtain ⟨so, t, w, f, li, to, pl, o1, wa⟩ := s
  obtain ⟨so', t', w', f', li', to', pl', o', wa'⟩ := o
  generalize hS : S0 Try.prog = S
  refine call_in' hS I.fn_causeylaw21_SettingTells ?_
  cbv
  refine s_br hS ?_ ?_ <;> intro h <;> cbv <;> simp only [← hS, cmp_le, cmp_lt, cmp_ge, cmp_gt, cmp_eq, cmp_ne, pl_eq, mi_eq, sc_eq, slen_eq, flen_eq, nt_eq, beq_eq, scmp_eq, scmp_ne, decide_eq_true_eq, decide_eq_false_iff_not, Bool.not_eq_true', Bool.not_eq_false', Bool.not_true, Bool.not_false, beq_iff_eq, beq_eq_false_iff_ne, ne_eq] at h
  · refine wakes_u hS ?_
    cbv
    exact .rfl
  · refine take_u hS rfl l hl hn (by simp only [Z.v]; omega) rfl (hF ▸ .rfl) ?_
    intro so1 t1 w1 f1 li1 to1 pl1 o1 wa1 fw1 fs1 fc1 e1 he1
    simp only [st9, bv, iv, Z.v] at he1
    cbv
    refine take2_k hS rfl l hl hn (by simp only [Z.v]; omega) rfl (hF ▸ .rfl) _ (by simp only [st9, bv, iv, Z.v]; exact he1) ?_
    cbv
    repeat' (first
        | (refine s_eqs hS rfl ?_; try cbv)
        | (refine s_eqt hS rfl ?_ ?_; (focus (cbv; (repeat' (first | exact trivial | rfl | refine And.intro ?_ ?_ | assumption | omega | (simp only [← hS, cmp_le, cmp_lt, cmp_ge, cmp_gt, cmp_eq, cmp_ne, pl_eq, mi_eq, sc_eq, slen_eq, flen_eq, nt_eq, beq_eq, scmp_eq, scmp_ne, decide_eq_true_eq, decide_eq_false_iff_not, Bool.not_eq_true', Bool.not_eq_false', Bool.not_true, Bool.not_false, beq_iff_eq, beq_eq_false_iff_ne, ne_eq]; done) | (simp only [← hS, cmp_le, cmp_lt, cmp_ge, cmp_gt, cmp_eq, cmp_ne, pl_eq, mi_eq, sc_eq, slen_eq, flen_eq, nt_eq, beq_eq, scmp_eq, scmp_ne, decide_eq_true_eq, decide_eq_false_iff_not, Bool.not_eq_true', Bool.not_eq_false', Bool.not_true, Bool.not_false, beq_iff_eq, beq_eq_false_iff_ne, ne_eq]; first | assumption | omega))); done)); try cbv)
        | (refine s_eqo hS ?_; try cbv)
        | (refine s_chk hS (by simp only [← hS, cmp_le, cmp_lt, cmp_ge, cmp_gt, cmp_eq, cmp_ne, pl_eq, mi_eq, sc_eq, slen_eq, flen_eq, nt_eq, beq_eq, scmp_eq, scmp_ne, decide_eq_true_eq, decide_eq_false_iff_not, Bool.not_eq_true', Bool.not_eq_false', Bool.not_true, Bool.not_false, beq_iff_eq, beq_eq_false_iff_ne, ne_eq]; omega) ?_; try cbv)
        | (refine s_br hS ?_ ?_ <;> intro h <;> (try cbv) <;> (try simp only [← hS, cmp_le, cmp_lt, cmp_ge, cmp_gt, cmp_eq, cmp_ne, pl_eq, mi_eq, sc_eq, slen_eq, flen_eq, nt_eq, beq_eq, scmp_eq, scmp_ne, decide_eq_true_eq, decide_eq_false_iff_not, Bool.not_eq_true', Bool.not_eq_false', Bool.not_true, Bool.not_false, beq_iff_eq, beq_eq_false_iff_ne, ne_eq] at h) <;> first | (exfalso; omega) | (exact absurd trivial h) | (exact (no_tf h).elim) | (exact (no_ft h).elim) | (exact (no_both h (by with_reducible assumption)).elim) | (exact (no_both (by with_reducible assumption) h).elim) | skip)
        | (refine s_add hS ?_ (by simp only [lo]; omega) (by simp only [hi]; omega); intro _ _; try cbv)
        | (refine s_sub hS ?_ (by simp only [lo]; omega) (by simp only [hi]; omega); intro _ _; try cbv)
        | (refine s_cvi hS ?_ (by simp only [lo]; omega) (by simp only [hi]; omega); try cbv)
        | (exact Sub.rfl)
        | (refine ack_u hS rfl ?_; intro so2 t2 w2 f2 li2 to2 pl2 o2 wa2 fw2 fs2 fc2 e2 he2; simp only [st9, bv, iv, Z.v] at he2; cbv)
        | (refine ack2_k hS rfl _ (by simp only [st9, bv, iv, Z.v]; with_reducible assumption) ?_; cbv)
        | (refine paid_u hS rfl ?_; intro so3 t3 w3 f3 li3 to3 pl3 o3 wa3 b3 he3; simp only [st9, bv, iv, Z.v] at he3; cbv)
        | (refine paid2_k hS rfl _ (by simp only [st9, bv, iv, Z.v]; with_reducible assumption) ?_; cbv)
        | (refine call_in' hS I.fn_setting_Ours ?_; cbv)
        | (refine call_in' hS I.fn_causeyref21_Ours ?_; cbv)
        | (refine call_in' hS I.fn_setting_Ours_1 ?_; cbv)
        | (refine call_in' hS I.fn_setting_New ?_; cbv)
        | (refine call_in' hS I.fn_causeyref21_New ?_; cbv)
        | (refine fits_t hS (by simp only [Z.v]; with_reducible assumption) ?_; cbv)
        | (refine fits_n hS (by simp only [Z.v]; with_reducible assumption) ?_; cbv)
        | (refine fits2_t hS (by simp only [Z.v]; with_reducible assumption) ?_; cbv)
        | (refine fits2_n hS (by simp only [Z.v]; with_reducible assumption) ?_; cbv)
        | (refine fits_u hS ?_ ?_ <;> intro hfit <;> simp only [Z.v] at hfit <;> (try have hfb := fitsB_o hfit) <;> cbv)
        | (refine right_x hS rfl ?_; intro b4 hb4; simp only [st9, bv, iv, Z.v] at hb4; cbv)
        | (refine right2_k hS rfl _ (by simp only [st9, bv, iv, Z.v]; with_reducible assumption) ?_; cbv)
        | (refine moved_u hS rfl rfl ?_; intro r5 hr5; simp only [st9, bv, iv, Z.v] at hr5; cbv)
        | (refine moved2_k hS rfl rfl _ (by simp only [st9, bv, iv, Z.v]; with_reducible assumption) ?_; cbv)
        | (refine pairs_t hS [(3, a), (4, b), (9, 1)] rfl rfl (by decide) (by decide) rfl rfl (SubL.fsub (by cbv; (repeat' (first | exact sub_any | exact Sub.rfl | exact SubL.nil | refine SubL.cons ?_ ?_ | exact sub_i rfl | refine sub_tp ?_ | refine sub_ag ?_ | exact sub_tt rfl | exact sub_ff rfl | exact sub_b_tt rfl | exact sub_b_ff rfl | (refine sub_i ?_; simp only [Z.v]; omega) | (refine sub_b ?_; assumption) | (refine sub_b ?_; simp only [← hS, cmp_le, cmp_lt, cmp_ge, cmp_gt, cmp_eq, cmp_ne, pl_eq, mi_eq, sc_eq, slen_eq, flen_eq, nt_eq, beq_eq, scmp_eq, scmp_ne, decide_eq_true_eq, decide_eq_false_iff_not, Bool.not_eq_true', Bool.not_eq_false', Bool.not_true, Bool.not_false, beq_iff_eq, beq_eq_false_iff_ne, ne_eq]; done) | (refine sub_tt ?_; assumption) | (refine sub_ff ?_; assumption))))) (SubL.fsub (by cbv; (repeat' (first | exact sub_any | exact Sub.rfl | exact SubL.nil | refine SubL.cons ?_ ?_ | exact sub_i rfl | refine sub_tp ?_ | refine sub_ag ?_ | exact sub_tt rfl | exact sub_ff rfl | exact sub_b_tt rfl | exact sub_b_ff rfl | (refine sub_i ?_; simp only [Z.v]; omega) | (refine sub_b ?_; assumption) | (refine sub_b ?_; simp only [← hS, cmp_le, cmp_lt, cmp_ge, cmp_gt, cmp_eq, cmp_ne, pl_eq, mi_eq, sc_eq, slen_eq, flen_eq, nt_eq, beq_eq, scmp_eq, scmp_ne, decide_eq_true_eq, decide_eq_false_iff_not, Bool.not_eq_true', Bool.not_eq_false', Bool.not_true, Bool.not_false, beq_iff_eq, beq_eq_false_iff_ne, ne_eq]; done) | (refine sub_tt ?_; assumption) | (refine sub_ff ?_; assumption))))) ?_; cbv)
        | (refine pairs_nil hS ?_; cbv)
        | (refine wakes_u hS ?_; cbv)
        | (refine s_draw hS rfl I.ord_setting_Ours_0 (by decide +kernel) ?_; cbv)
        | (refine s_draw hS rfl I.ord_causeylaw21_SettingTells_0 (by decide +kernel) ?_; cbv)
        | (refine And.intro rfl ?_; try cbv))
end Cz
