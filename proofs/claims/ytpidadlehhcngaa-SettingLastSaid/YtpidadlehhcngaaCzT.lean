/- Setting, part A: what the functions of settings tell (program and document), as plain functions. -/
import Derived.Test.YtpidadlehhcngaaCzR
import Derived.Test.YtpidadlehhcngaaCzZ
namespace Cz
open Go Go.RowKit Go.Proofs
set_option linter.unusedSimpArgs false
set_option linter.unusedVariables false
set_option maxRecDepth 100000
set_option maxHeartbeats 4000000

def withinB (a b c : Int) : Bool := decide (b ≤ a) && decide (a ≤ c)
structure St9 where
  so : Bool
  t : Int
  w : Int
  f : Int
  li : Int
  to : Bool
  pl : Bool
  o : Int
  wa : Int
def St9.sv (s : St9) : SV := .ag [.b s.so, .i .i64 (.y s.t), .i .i64 (.y s.w), .i .i64 (.y s.f), .i .i64 (.y s.li), .b s.to, .b s.pl, .i .i64 (.y s.o), .i .i64 (.y s.wa)]
structure R3 where
  s : St9
  fw : Bool
  fs : Int
  fc : Int
  e : Int
def R3.sv (r : R3) : SV := .tp [r.s.sv, .ag [.b r.fw, .i .i64 (.y r.fs), .i .u32 (.y r.fc)], .i .i64 (.y r.e)]

theorem within_f (a b c : Int) : (S0 Try.prog).call 33 [.i .i64 (.y a), .i .i64 (.y b), .i .i64 (.y c)] [] (fun x _ => Sub x (.b (withinB a b c))) := by
  generalize hT : withinB a b c = T
  generalize hS : S0 Try.prog = S
  refine call_in' hS I.fn_setting_within ?_
  cbv
  repeat' (first
      | (refine s_eqs hS rfl ?_; try cbv)
      | (refine s_eqt hS rfl (by cbv; (repeat' (first | exact trivial | rfl | refine And.intro ?_ ?_ | assumption | omega | (simp only [← hS, cmp_le, cmp_lt, cmp_ge, cmp_gt, cmp_eq, cmp_ne, pl_eq, mi_eq, sc_eq, slen_eq, flen_eq, nt_eq, beq_eq, scmp_eq, scmp_ne, decide_eq_true_eq, decide_eq_false_iff_not, Bool.not_eq_true', Bool.not_eq_false', Bool.not_true, Bool.not_false, beq_iff_eq, beq_eq_false_iff_ne, ne_eq]; done) | (simp only [← hS, cmp_le, cmp_lt, cmp_ge, cmp_gt, cmp_eq, cmp_ne, pl_eq, mi_eq, sc_eq, slen_eq, flen_eq, nt_eq, beq_eq, scmp_eq, scmp_ne, decide_eq_true_eq, decide_eq_false_iff_not, Bool.not_eq_true', Bool.not_eq_false', Bool.not_true, Bool.not_false, beq_iff_eq, beq_eq_false_iff_ne, ne_eq]; first | assumption | omega)))) ?_; try cbv)
      | (refine s_eqo hS ?_; try cbv)
      | (refine s_chk hS (by simp only [← hS, cmp_le, cmp_lt, cmp_ge, cmp_gt, cmp_eq, cmp_ne, pl_eq, mi_eq, sc_eq, slen_eq, flen_eq, nt_eq, beq_eq, scmp_eq, scmp_ne, decide_eq_true_eq, decide_eq_false_iff_not, Bool.not_eq_true', Bool.not_eq_false', Bool.not_true, Bool.not_false, beq_iff_eq, beq_eq_false_iff_ne, ne_eq]; omega) ?_; try cbv)
      | (refine s_br hS ?_ ?_ <;> intro h <;> (try cbv) <;> (try simp only [← hS, cmp_le, cmp_lt, cmp_ge, cmp_gt, cmp_eq, cmp_ne, pl_eq, mi_eq, sc_eq, slen_eq, flen_eq, nt_eq, beq_eq, scmp_eq, scmp_ne, decide_eq_true_eq, decide_eq_false_iff_not, Bool.not_eq_true', Bool.not_eq_false', Bool.not_true, Bool.not_false, beq_iff_eq, beq_eq_false_iff_ne, ne_eq] at h) <;> first | (exfalso; omega) | (exact absurd trivial h) | (exact (no_tf h).elim) | (exact (no_ft h).elim) | (exact (no_both h (by with_reducible assumption)).elim) | (exact (no_both (by with_reducible assumption) h).elim) | skip)
      | (refine s_add hS ?_ (by simp only [lo]; omega) (by simp only [hi]; omega); intro _ _; try cbv)
      | (refine s_sub hS ?_ (by simp only [lo]; omega) (by simp only [hi]; omega); intro _ _; try cbv)
      | (refine s_cvi hS ?_ (by simp only [lo]; omega) (by simp only [hi]; omega); try cbv))
  all_goals first | refine sub_b ?_ | refine sub_tt ?_ | refine sub_ff ?_
  all_goals (subst hS; subst hT; simp_all [S0, BK.cmpLit, withinB])
  all_goals omega
theorem within2_f (a b c : Int) : (S0 Try.prog).call 34 [.i .i64 (.y a), .i .i64 (.y b), .i .i64 (.y c)] [] (fun x _ => Sub x (.b (withinB a b c))) := by
  generalize hT : withinB a b c = T
  generalize hS : S0 Try.prog = S
  refine call_in' hS I.fn_causeyref21_within ?_
  cbv
  repeat' (first
      | (refine s_eqs hS rfl ?_; try cbv)
      | (refine s_eqt hS rfl (by cbv; (repeat' (first | exact trivial | rfl | refine And.intro ?_ ?_ | assumption | omega | (simp only [← hS, cmp_le, cmp_lt, cmp_ge, cmp_gt, cmp_eq, cmp_ne, pl_eq, mi_eq, sc_eq, slen_eq, flen_eq, nt_eq, beq_eq, scmp_eq, scmp_ne, decide_eq_true_eq, decide_eq_false_iff_not, Bool.not_eq_true', Bool.not_eq_false', Bool.not_true, Bool.not_false, beq_iff_eq, beq_eq_false_iff_ne, ne_eq]; done) | (simp only [← hS, cmp_le, cmp_lt, cmp_ge, cmp_gt, cmp_eq, cmp_ne, pl_eq, mi_eq, sc_eq, slen_eq, flen_eq, nt_eq, beq_eq, scmp_eq, scmp_ne, decide_eq_true_eq, decide_eq_false_iff_not, Bool.not_eq_true', Bool.not_eq_false', Bool.not_true, Bool.not_false, beq_iff_eq, beq_eq_false_iff_ne, ne_eq]; first | assumption | omega)))) ?_; try cbv)
      | (refine s_eqo hS ?_; try cbv)
      | (refine s_chk hS (by simp only [← hS, cmp_le, cmp_lt, cmp_ge, cmp_gt, cmp_eq, cmp_ne, pl_eq, mi_eq, sc_eq, slen_eq, flen_eq, nt_eq, beq_eq, scmp_eq, scmp_ne, decide_eq_true_eq, decide_eq_false_iff_not, Bool.not_eq_true', Bool.not_eq_false', Bool.not_true, Bool.not_false, beq_iff_eq, beq_eq_false_iff_ne, ne_eq]; omega) ?_; try cbv)
      | (refine s_br hS ?_ ?_ <;> intro h <;> (try cbv) <;> (try simp only [← hS, cmp_le, cmp_lt, cmp_ge, cmp_gt, cmp_eq, cmp_ne, pl_eq, mi_eq, sc_eq, slen_eq, flen_eq, nt_eq, beq_eq, scmp_eq, scmp_ne, decide_eq_true_eq, decide_eq_false_iff_not, Bool.not_eq_true', Bool.not_eq_false', Bool.not_true, Bool.not_false, beq_iff_eq, beq_eq_false_iff_ne, ne_eq] at h) <;> first | (exfalso; omega) | (exact absurd trivial h) | (exact (no_tf h).elim) | (exact (no_ft h).elim) | (exact (no_both h (by with_reducible assumption)).elim) | (exact (no_both (by with_reducible assumption) h).elim) | skip)
      | (refine s_add hS ?_ (by simp only [lo]; omega) (by simp only [hi]; omega); intro _ _; try cbv)
      | (refine s_sub hS ?_ (by simp only [lo]; omega) (by simp only [hi]; omega); intro _ _; try cbv)
      | (refine s_cvi hS ?_ (by simp only [lo]; omega) (by simp only [hi]; omega); try cbv))
  all_goals first | refine sub_b ?_ | refine sub_tt ?_ | refine sub_ff ?_
  all_goals (subst hS; subst hT; simp_all [S0, BK.cmpLit, withinB])
  all_goals omega
theorem within_u {S : Sy} (hS : S0 Try.prog = S) {l : List Blk} {K : SV → List Blk → Prop} {a b c : Z} (h1 : b.v ≤ a.v → a.v ≤ c.v → K .tt l) (h2 : withinB a.v b.v c.v = false → K .ff l) :
    S.call 33 [.i .i64 a, .i .i64 b, .i .i64 c] l K := by
  refine use_val hS (args' := [.i .i64 (.y a.v), .i .i64 (.y b.v), .i .i64 (.y c.v)]) (call_lit (within_f _ _ _)) (.cons (sub_i rfl) (.cons (sub_i rfl) (.cons (sub_i rfl) .nil))) rfl (refsB_lit _ rfl) ?_
  cases h : withinB a.v b.v c.v
  · exact h2 h
  · simp only [withinB, Bool.and_eq_true, decide_eq_true_eq] at h; exact h1 h.1 h.2
theorem within2_u {S : Sy} (hS : S0 Try.prog = S) {l : List Blk} {K : SV → List Blk → Prop} {a b c : Z} (h1 : b.v ≤ a.v → a.v ≤ c.v → K .tt l) (h2 : withinB a.v b.v c.v = false → K .ff l) :
    S.call 34 [.i .i64 a, .i .i64 b, .i .i64 c] l K := by
  refine use_val hS (args' := [.i .i64 (.y a.v), .i .i64 (.y b.v), .i .i64 (.y c.v)]) (call_lit (within2_f _ _ _)) (.cons (sub_i rfl) (.cons (sub_i rfl) (.cons (sub_i rfl) .nil))) rfl (refsB_lit _ rfl) ?_
  cases h : withinB a.v b.v c.v
  · exact h2 h
  · simp only [withinB, Bool.and_eq_true, decide_eq_true_eq] at h; exact h1 h.1 h.2
theorem withinB_t {a b c : Int} (h1 : b ≤ a) (h2 : a ≤ c) : withinB a b c = true := by simp [withinB, h1, h2]

def rightB (s : St9) : Bool :=
  withinB s.t 0 4294967295 && withinB s.w 0 2147483647 && withinB s.f 16384 16777215 && withinB s.li (-1) 4294967295 && withinB s.o 0 64 && withinB s.wa 0 64 && (!s.pl || s.to) && (s.so || (!s.to && decide (s.o = 0)))

theorem right_f (s : St9) : (S0 Try.prog).call 19 [s.sv] [] (fun x _ => Sub x (.b (rightB s))) := by
  obtain ⟨so, t, w, f, li, to, pl, o, wa⟩ := s
  generalize hT : rightB ⟨so, t, w, f, li, to, pl, o, wa⟩ = T
  generalize hS : S0 Try.prog = S
  refine call_in' hS I.fn_setting_Right ?_
  cbv
  repeat' (first
      | (refine s_eqs hS rfl ?_; try cbv)
      | (refine s_eqt hS rfl (by cbv; (repeat' (first | exact trivial | rfl | refine And.intro ?_ ?_ | assumption | omega | (simp only [← hS, cmp_le, cmp_lt, cmp_ge, cmp_gt, cmp_eq, cmp_ne, pl_eq, mi_eq, sc_eq, slen_eq, flen_eq, nt_eq, beq_eq, scmp_eq, scmp_ne, decide_eq_true_eq, decide_eq_false_iff_not, Bool.not_eq_true', Bool.not_eq_false', Bool.not_true, Bool.not_false, beq_iff_eq, beq_eq_false_iff_ne, ne_eq]; done) | (simp only [← hS, cmp_le, cmp_lt, cmp_ge, cmp_gt, cmp_eq, cmp_ne, pl_eq, mi_eq, sc_eq, slen_eq, flen_eq, nt_eq, beq_eq, scmp_eq, scmp_ne, decide_eq_true_eq, decide_eq_false_iff_not, Bool.not_eq_true', Bool.not_eq_false', Bool.not_true, Bool.not_false, beq_iff_eq, beq_eq_false_iff_ne, ne_eq]; first | assumption | omega)))) ?_; try cbv)
      | (refine s_eqo hS ?_; try cbv)
      | (refine s_chk hS (by simp only [← hS, cmp_le, cmp_lt, cmp_ge, cmp_gt, cmp_eq, cmp_ne, pl_eq, mi_eq, sc_eq, slen_eq, flen_eq, nt_eq, beq_eq, scmp_eq, scmp_ne, decide_eq_true_eq, decide_eq_false_iff_not, Bool.not_eq_true', Bool.not_eq_false', Bool.not_true, Bool.not_false, beq_iff_eq, beq_eq_false_iff_ne, ne_eq]; omega) ?_; try cbv)
      | (refine s_br hS ?_ ?_ <;> intro h <;> (try cbv) <;> (try simp only [← hS, cmp_le, cmp_lt, cmp_ge, cmp_gt, cmp_eq, cmp_ne, pl_eq, mi_eq, sc_eq, slen_eq, flen_eq, nt_eq, beq_eq, scmp_eq, scmp_ne, decide_eq_true_eq, decide_eq_false_iff_not, Bool.not_eq_true', Bool.not_eq_false', Bool.not_true, Bool.not_false, beq_iff_eq, beq_eq_false_iff_ne, ne_eq] at h) <;> first | (exfalso; omega) | (exact absurd trivial h) | (exact (no_tf h).elim) | (exact (no_ft h).elim) | (exact (no_both h (by with_reducible assumption)).elim) | (exact (no_both (by with_reducible assumption) h).elim) | skip)
      | (refine s_add hS ?_ (by simp only [lo]; omega) (by simp only [hi]; omega); intro _ _; try cbv)
      | (refine s_sub hS ?_ (by simp only [lo]; omega) (by simp only [hi]; omega); intro _ _; try cbv)
      | (refine s_cvi hS ?_ (by simp only [lo]; omega) (by simp only [hi]; omega); try cbv)
      | (refine within_u hS ?_ ?_ <;> intros <;> cbv)
      | (refine s_jump hS rfl ?_; cbv))
  all_goals first | refine sub_b ?_ | refine sub_tt ?_ | refine sub_ff ?_
  all_goals (subst hS; subst hT; simp_all [S0, BK.cmpLit, rightB, Z.v, withinB_t])
theorem right2_f (s : St9) : (S0 Try.prog).call 20 [s.sv] [] (fun x _ => Sub x (.b (rightB s))) := by
  obtain ⟨so, t, w, f, li, to, pl, o, wa⟩ := s
  generalize hT : rightB ⟨so, t, w, f, li, to, pl, o, wa⟩ = T
  generalize hS : S0 Try.prog = S
  refine call_in' hS I.fn_causeyref21_Right ?_
  cbv
  repeat' (first
      | (refine s_eqs hS rfl ?_; try cbv)
      | (refine s_eqt hS rfl (by cbv; (repeat' (first | exact trivial | rfl | refine And.intro ?_ ?_ | assumption | omega | (simp only [← hS, cmp_le, cmp_lt, cmp_ge, cmp_gt, cmp_eq, cmp_ne, pl_eq, mi_eq, sc_eq, slen_eq, flen_eq, nt_eq, beq_eq, scmp_eq, scmp_ne, decide_eq_true_eq, decide_eq_false_iff_not, Bool.not_eq_true', Bool.not_eq_false', Bool.not_true, Bool.not_false, beq_iff_eq, beq_eq_false_iff_ne, ne_eq]; done) | (simp only [← hS, cmp_le, cmp_lt, cmp_ge, cmp_gt, cmp_eq, cmp_ne, pl_eq, mi_eq, sc_eq, slen_eq, flen_eq, nt_eq, beq_eq, scmp_eq, scmp_ne, decide_eq_true_eq, decide_eq_false_iff_not, Bool.not_eq_true', Bool.not_eq_false', Bool.not_true, Bool.not_false, beq_iff_eq, beq_eq_false_iff_ne, ne_eq]; first | assumption | omega)))) ?_; try cbv)
      | (refine s_eqo hS ?_; try cbv)
      | (refine s_chk hS (by simp only [← hS, cmp_le, cmp_lt, cmp_ge, cmp_gt, cmp_eq, cmp_ne, pl_eq, mi_eq, sc_eq, slen_eq, flen_eq, nt_eq, beq_eq, scmp_eq, scmp_ne, decide_eq_true_eq, decide_eq_false_iff_not, Bool.not_eq_true', Bool.not_eq_false', Bool.not_true, Bool.not_false, beq_iff_eq, beq_eq_false_iff_ne, ne_eq]; omega) ?_; try cbv)
      | (refine s_br hS ?_ ?_ <;> intro h <;> (try cbv) <;> (try simp only [← hS, cmp_le, cmp_lt, cmp_ge, cmp_gt, cmp_eq, cmp_ne, pl_eq, mi_eq, sc_eq, slen_eq, flen_eq, nt_eq, beq_eq, scmp_eq, scmp_ne, decide_eq_true_eq, decide_eq_false_iff_not, Bool.not_eq_true', Bool.not_eq_false', Bool.not_true, Bool.not_false, beq_iff_eq, beq_eq_false_iff_ne, ne_eq] at h) <;> first | (exfalso; omega) | (exact absurd trivial h) | (exact (no_tf h).elim) | (exact (no_ft h).elim) | (exact (no_both h (by with_reducible assumption)).elim) | (exact (no_both (by with_reducible assumption) h).elim) | skip)
      | (refine s_add hS ?_ (by simp only [lo]; omega) (by simp only [hi]; omega); intro _ _; try cbv)
      | (refine s_sub hS ?_ (by simp only [lo]; omega) (by simp only [hi]; omega); intro _ _; try cbv)
      | (refine s_cvi hS ?_ (by simp only [lo]; omega) (by simp only [hi]; omega); try cbv)
      | (refine within2_u hS ?_ ?_ <;> intros <;> cbv))
  all_goals first | refine sub_b ?_ | refine sub_tt ?_ | refine sub_ff ?_
  all_goals (subst hS; subst hT; simp_all [S0, BK.cmpLit, rightB, Z.v, withinB_t])

def is9 : List SV → Bool
  | [x0, x1, x2, x3, x4, x5, x6, x7, x8] => isB x0 && isI .i64 x1 && isI .i64 x2 && isI .i64 x3 && isI .i64 x4 && isB x5 && isB x6 && isI .i64 x7 && isI .i64 x8
  | _ => false
def st9 : List SV → St9
  | [x0, x1, x2, x3, x4, x5, x6, x7, x8] => ⟨bv x0, iv x1, iv x2, iv x3, iv x4, bv x5, bv x6, iv x7, iv x8⟩
  | _ => ⟨false, 0, 0, 0, 0, false, false, 0, 0⟩
theorem sub_st9 : ∀ {xs : List SV}, is9 xs = true → Sub (.ag xs) (st9 xs).sv
  | [x0, x1, x2, x3, x4, x5, x6, x7, x8], h => by
    simp only [is9, Bool.and_eq_true] at h
    obtain ⟨⟨⟨⟨⟨⟨⟨⟨h0, h1⟩, h2⟩, h3⟩, h4⟩, h5⟩, h6⟩, h7⟩, h8⟩ := h
    exact sub_ag (.cons (sub_isB h0) (.cons (sub_isI h1) (.cons (sub_isI h2) (.cons (sub_isI h3) (.cons (sub_isI h4) (.cons (sub_isB h5) (.cons (sub_isB h6) (.cons (sub_isI h7) (.cons (sub_isI h8) .nil)))))))))
  | [], h => by simp [is9] at h
  | [_], h => by simp [is9] at h
  | [_, _], h => by simp [is9] at h
  | [_, _, _], h => by simp [is9] at h
  | [_, _, _, _], h => by simp [is9] at h
  | [_, _, _, _, _], h => by simp [is9] at h
  | [_, _, _, _, _, _], h => by simp [is9] at h
  | [_, _, _, _, _, _, _], h => by simp [is9] at h
  | [_, _, _, _, _, _, _, _], h => by simp [is9] at h
  | _ :: _ :: _ :: _ :: _ :: _ :: _ :: _ :: _ :: _ :: _, h => by simp [is9] at h

theorem right_u {S : Sy} (hS : S0 Try.prog = S) {l : List Blk} {K : SV → List Blk → Prop} {xs : List SV} (hk : is9 xs = true) (h1 : rightB (st9 xs) = true → K .tt l) (h2 : rightB (st9 xs) = false → K .ff l) :
    S.call 19 [.ag xs] l K := by
  refine use_val hS (args' := [(st9 xs).sv]) (call_lit (right_f _)) (.cons (sub_st9 hk) .nil) rfl (refsB_lit _ rfl) ?_
  cases h : rightB (st9 xs)
  · exact h2 h
  · exact h1 h
theorem right2_u {S : Sy} (hS : S0 Try.prog = S) {l : List Blk} {K : SV → List Blk → Prop} {xs : List SV} (hk : is9 xs = true) (h1 : rightB (st9 xs) = true → K .tt l) (h2 : rightB (st9 xs) = false → K .ff l) :
    S.call 20 [.ag xs] l K := by
  refine use_val hS (args' := [(st9 xs).sv]) (call_lit (right2_f _)) (.cons (sub_st9 hk) .nil) rfl (refsB_lit _ rfl) ?_
  cases h : rightB (st9 xs)
  · exact h2 h
  · exact h1 h
theorem rightB_o {s : St9} (h : rightB s = true) : 0 ≤ s.t ∧ s.t ≤ 4294967295 ∧ 0 ≤ s.w ∧ s.w ≤ 2147483647 ∧ 0 ≤ s.o ∧ s.o ≤ 64 ∧ 0 ≤ s.wa ∧ s.wa ≤ 64 := by
  simp only [rightB, withinB, Bool.and_eq_true, decide_eq_true_eq] at h
  omega

/-! ### Acks -/
def ackR (s : St9) : R3 :=
  if rightB s then if s.wa = 0 then ⟨s, true, 0, 1, 0⟩ else ⟨⟨s.so, s.t, s.w, s.f, s.li, s.to, s.pl, s.o, s.wa - 1⟩, false, 0, 0, 0⟩ else ⟨s, false, 0, 0, 2⟩
def paidR (s : St9) : St9 × Bool :=
  if rightB s && decide (1 ≤ s.o) then (⟨s.so, s.t, s.w, s.f, s.li, s.to, s.pl, s.o - 1, s.wa⟩, true) else (s, false)
def pdSv (r : St9 × Bool) : SV := .tp [r.1.sv, .b r.2]

theorem ackR_1 {s : St9} (hr : rightB s = true) (h : s.wa = 0) : ackR s = ⟨s, true, 0, 1, 0⟩ := by simp [ackR, hr, h]
theorem ackR_2 {s : St9} (hr : rightB s = true) (h : ¬ s.wa = 0) : ackR s = ⟨⟨s.so, s.t, s.w, s.f, s.li, s.to, s.pl, s.o, s.wa - 1⟩, false, 0, 0, 0⟩ := by simp [ackR, hr, h]
theorem ackR_3 {s : St9} (hr : rightB s = false) : ackR s = ⟨s, false, 0, 0, 2⟩ := by simp [ackR, hr]
theorem paidR_1 {s : St9} (hr : rightB s = true) (h : 1 ≤ s.o) : paidR s = (⟨s.so, s.t, s.w, s.f, s.li, s.to, s.pl, s.o - 1, s.wa⟩, true) := by simp [paidR, hr, h]
theorem paidR_2 {s : St9} (h : ¬ 1 ≤ s.o) : paidR s = (s, false) := by simp [paidR, h]
theorem paidR_3 {s : St9} (hr : rightB s = false) : paidR s = (s, false) := by simp [paidR, hr]
theorem ack_f (s : St9) : (S0 Try.prog).call 10 [s.sv] [] (fun x _ => Sub x ((ackR s).sv)) := by
  obtain ⟨so, t, w, f, li, to, pl, o, wa⟩ := s
  generalize hT : (ackR ⟨so, t, w, f, li, to, pl, o, wa⟩).sv = T
  generalize hS : S0 Try.prog = S
  refine call_in' hS I.fn_setting_Ack ?_
  cbv
  repeat' (first
      | (refine s_eqs hS rfl ?_; try cbv)
      | (refine s_eqt hS rfl (by cbv; (repeat' (first | exact trivial | rfl | refine And.intro ?_ ?_ | assumption | omega | (simp only [← hS, cmp_le, cmp_lt, cmp_ge, cmp_gt, cmp_eq, cmp_ne, pl_eq, mi_eq, sc_eq, slen_eq, flen_eq, nt_eq, beq_eq, scmp_eq, scmp_ne, decide_eq_true_eq, decide_eq_false_iff_not, Bool.not_eq_true', Bool.not_eq_false', Bool.not_true, Bool.not_false, beq_iff_eq, beq_eq_false_iff_ne, ne_eq]; done) | (simp only [← hS, cmp_le, cmp_lt, cmp_ge, cmp_gt, cmp_eq, cmp_ne, pl_eq, mi_eq, sc_eq, slen_eq, flen_eq, nt_eq, beq_eq, scmp_eq, scmp_ne, decide_eq_true_eq, decide_eq_false_iff_not, Bool.not_eq_true', Bool.not_eq_false', Bool.not_true, Bool.not_false, beq_iff_eq, beq_eq_false_iff_ne, ne_eq]; first | assumption | omega)))) ?_; try cbv)
      | (refine s_eqo hS ?_; try cbv)
      | (refine s_chk hS (by simp only [← hS, cmp_le, cmp_lt, cmp_ge, cmp_gt, cmp_eq, cmp_ne, pl_eq, mi_eq, sc_eq, slen_eq, flen_eq, nt_eq, beq_eq, scmp_eq, scmp_ne, decide_eq_true_eq, decide_eq_false_iff_not, Bool.not_eq_true', Bool.not_eq_false', Bool.not_true, Bool.not_false, beq_iff_eq, beq_eq_false_iff_ne, ne_eq]; omega) ?_; try cbv)
      | (refine s_br hS ?_ ?_ <;> intro h <;> (try cbv) <;> (try simp only [← hS, cmp_le, cmp_lt, cmp_ge, cmp_gt, cmp_eq, cmp_ne, pl_eq, mi_eq, sc_eq, slen_eq, flen_eq, nt_eq, beq_eq, scmp_eq, scmp_ne, decide_eq_true_eq, decide_eq_false_iff_not, Bool.not_eq_true', Bool.not_eq_false', Bool.not_true, Bool.not_false, beq_iff_eq, beq_eq_false_iff_ne, ne_eq] at h) <;> first | (exfalso; omega) | (exact absurd trivial h) | (exact (no_tf h).elim) | (exact (no_ft h).elim) | (exact (no_both h (by with_reducible assumption)).elim) | (exact (no_both (by with_reducible assumption) h).elim) | skip)
      | (refine s_add hS ?_ (by simp only [lo]; omega) (by simp only [hi]; omega); intro _ _; try cbv)
      | (refine s_sub hS ?_ (by simp only [lo]; omega) (by simp only [hi]; omega); intro _ _; try cbv)
      | (refine s_cvi hS ?_ (by simp only [lo]; omega) (by simp only [hi]; omega); try cbv)
      | (refine right_u hS rfl ?_ ?_ <;> intro hr <;> simp only [st9, bv, iv, Z.v] at hr <;> (try have hb := rightB_o hr) <;> (try simp only at hb) <;> cbv)
      | (refine call_in' hS I.fn_setting_whole ?_; cbv)
      | (refine s_draw hS rfl I.ord_setting_Ack_0 (by decide +kernel) ?_; cbv)
      | (refine And.intro rfl ?_; try cbv))
  all_goals (subst hT; first | rw [ackR_1 hr (by simpa using h)] | rw [ackR_2 hr (by simpa using h)] | rw [ackR_3 hr])
  all_goals simp only [R3.sv, pdSv, St9.sv]
  all_goals (repeat' (first | exact sub_any | exact Sub.rfl | exact SubL.nil | refine SubL.cons ?_ ?_ | exact sub_i rfl | refine sub_tp ?_ | refine sub_ag ?_ | exact sub_tt rfl | exact sub_ff rfl | exact sub_b_tt rfl | exact sub_b_ff rfl | (refine sub_i ?_; simp only [Z.v]; omega) | (refine sub_b ?_; assumption) | (refine sub_b ?_; simp only [← hS, cmp_le, cmp_lt, cmp_ge, cmp_gt, cmp_eq, cmp_ne, pl_eq, mi_eq, sc_eq, slen_eq, flen_eq, nt_eq, beq_eq, scmp_eq, scmp_ne, decide_eq_true_eq, decide_eq_false_iff_not, Bool.not_eq_true', Bool.not_eq_false', Bool.not_true, Bool.not_false, beq_iff_eq, beq_eq_false_iff_ne, ne_eq]; done) | (refine sub_tt ?_; assumption) | (refine sub_ff ?_; assumption)))
theorem ack2_f (s : St9) : (S0 Try.prog).call 11 [s.sv] [] (fun x _ => Sub x ((ackR s).sv)) := by
  obtain ⟨so, t, w, f, li, to, pl, o, wa⟩ := s
  generalize hT : (ackR ⟨so, t, w, f, li, to, pl, o, wa⟩).sv = T
  generalize hS : S0 Try.prog = S
  refine call_in' hS I.fn_causeyref21_Ack ?_
  cbv
  repeat' (first
      | (refine s_eqs hS rfl ?_; try cbv)
      | (refine s_eqt hS rfl (by cbv; (repeat' (first | exact trivial | rfl | refine And.intro ?_ ?_ | assumption | omega | (simp only [← hS, cmp_le, cmp_lt, cmp_ge, cmp_gt, cmp_eq, cmp_ne, pl_eq, mi_eq, sc_eq, slen_eq, flen_eq, nt_eq, beq_eq, scmp_eq, scmp_ne, decide_eq_true_eq, decide_eq_false_iff_not, Bool.not_eq_true', Bool.not_eq_false', Bool.not_true, Bool.not_false, beq_iff_eq, beq_eq_false_iff_ne, ne_eq]; done) | (simp only [← hS, cmp_le, cmp_lt, cmp_ge, cmp_gt, cmp_eq, cmp_ne, pl_eq, mi_eq, sc_eq, slen_eq, flen_eq, nt_eq, beq_eq, scmp_eq, scmp_ne, decide_eq_true_eq, decide_eq_false_iff_not, Bool.not_eq_true', Bool.not_eq_false', Bool.not_true, Bool.not_false, beq_iff_eq, beq_eq_false_iff_ne, ne_eq]; first | assumption | omega)))) ?_; try cbv)
      | (refine s_eqo hS ?_; try cbv)
      | (refine s_chk hS (by simp only [← hS, cmp_le, cmp_lt, cmp_ge, cmp_gt, cmp_eq, cmp_ne, pl_eq, mi_eq, sc_eq, slen_eq, flen_eq, nt_eq, beq_eq, scmp_eq, scmp_ne, decide_eq_true_eq, decide_eq_false_iff_not, Bool.not_eq_true', Bool.not_eq_false', Bool.not_true, Bool.not_false, beq_iff_eq, beq_eq_false_iff_ne, ne_eq]; omega) ?_; try cbv)
      | (refine s_br hS ?_ ?_ <;> intro h <;> (try cbv) <;> (try simp only [← hS, cmp_le, cmp_lt, cmp_ge, cmp_gt, cmp_eq, cmp_ne, pl_eq, mi_eq, sc_eq, slen_eq, flen_eq, nt_eq, beq_eq, scmp_eq, scmp_ne, decide_eq_true_eq, decide_eq_false_iff_not, Bool.not_eq_true', Bool.not_eq_false', Bool.not_true, Bool.not_false, beq_iff_eq, beq_eq_false_iff_ne, ne_eq] at h) <;> first | (exfalso; omega) | (exact absurd trivial h) | (exact (no_tf h).elim) | (exact (no_ft h).elim) | (exact (no_both h (by with_reducible assumption)).elim) | (exact (no_both (by with_reducible assumption) h).elim) | skip)
      | (refine s_add hS ?_ (by simp only [lo]; omega) (by simp only [hi]; omega); intro _ _; try cbv)
      | (refine s_sub hS ?_ (by simp only [lo]; omega) (by simp only [hi]; omega); intro _ _; try cbv)
      | (refine s_cvi hS ?_ (by simp only [lo]; omega) (by simp only [hi]; omega); try cbv)
      | (refine right2_u hS rfl ?_ ?_ <;> intro hr <;> simp only [st9, bv, iv, Z.v] at hr <;> (try have hb := rightB_o hr) <;> (try simp only at hb) <;> cbv))
  all_goals (subst hT; first | rw [ackR_1 hr (by simpa using h)] | rw [ackR_2 hr (by simpa using h)] | rw [ackR_3 hr])
  all_goals simp only [R3.sv, pdSv, St9.sv]
  all_goals (repeat' (first | exact sub_any | exact Sub.rfl | exact SubL.nil | refine SubL.cons ?_ ?_ | exact sub_i rfl | refine sub_tp ?_ | refine sub_ag ?_ | exact sub_tt rfl | exact sub_ff rfl | exact sub_b_tt rfl | exact sub_b_ff rfl | (refine sub_i ?_; simp only [Z.v]; omega) | (refine sub_b ?_; assumption) | (refine sub_b ?_; simp only [← hS, cmp_le, cmp_lt, cmp_ge, cmp_gt, cmp_eq, cmp_ne, pl_eq, mi_eq, sc_eq, slen_eq, flen_eq, nt_eq, beq_eq, scmp_eq, scmp_ne, decide_eq_true_eq, decide_eq_false_iff_not, Bool.not_eq_true', Bool.not_eq_false', Bool.not_true, Bool.not_false, beq_iff_eq, beq_eq_false_iff_ne, ne_eq]; done) | (refine sub_tt ?_; assumption) | (refine sub_ff ?_; assumption)))
theorem paid_f (s : St9) : (S0 Try.prog).call 12 [s.sv] [] (fun x _ => Sub x (pdSv (paidR s))) := by
  obtain ⟨so, t, w, f, li, to, pl, o, wa⟩ := s
  generalize hT : pdSv (paidR ⟨so, t, w, f, li, to, pl, o, wa⟩) = T
  generalize hS : S0 Try.prog = S
  refine call_in' hS I.fn_setting_Paid ?_
  cbv
  repeat' (first
      | (refine s_eqs hS rfl ?_; try cbv)
      | (refine s_eqt hS rfl (by cbv; (repeat' (first | exact trivial | rfl | refine And.intro ?_ ?_ | assumption | omega | (simp only [← hS, cmp_le, cmp_lt, cmp_ge, cmp_gt, cmp_eq, cmp_ne, pl_eq, mi_eq, sc_eq, slen_eq, flen_eq, nt_eq, beq_eq, scmp_eq, scmp_ne, decide_eq_true_eq, decide_eq_false_iff_not, Bool.not_eq_true', Bool.not_eq_false', Bool.not_true, Bool.not_false, beq_iff_eq, beq_eq_false_iff_ne, ne_eq]; done) | (simp only [← hS, cmp_le, cmp_lt, cmp_ge, cmp_gt, cmp_eq, cmp_ne, pl_eq, mi_eq, sc_eq, slen_eq, flen_eq, nt_eq, beq_eq, scmp_eq, scmp_ne, decide_eq_true_eq, decide_eq_false_iff_not, Bool.not_eq_true', Bool.not_eq_false', Bool.not_true, Bool.not_false, beq_iff_eq, beq_eq_false_iff_ne, ne_eq]; first | assumption | omega)))) ?_; try cbv)
      | (refine s_eqo hS ?_; try cbv)
      | (refine s_chk hS (by simp only [← hS, cmp_le, cmp_lt, cmp_ge, cmp_gt, cmp_eq, cmp_ne, pl_eq, mi_eq, sc_eq, slen_eq, flen_eq, nt_eq, beq_eq, scmp_eq, scmp_ne, decide_eq_true_eq, decide_eq_false_iff_not, Bool.not_eq_true', Bool.not_eq_false', Bool.not_true, Bool.not_false, beq_iff_eq, beq_eq_false_iff_ne, ne_eq]; omega) ?_; try cbv)
      | (refine s_br hS ?_ ?_ <;> intro h <;> (try cbv) <;> (try simp only [← hS, cmp_le, cmp_lt, cmp_ge, cmp_gt, cmp_eq, cmp_ne, pl_eq, mi_eq, sc_eq, slen_eq, flen_eq, nt_eq, beq_eq, scmp_eq, scmp_ne, decide_eq_true_eq, decide_eq_false_iff_not, Bool.not_eq_true', Bool.not_eq_false', Bool.not_true, Bool.not_false, beq_iff_eq, beq_eq_false_iff_ne, ne_eq] at h) <;> first | (exfalso; omega) | (exact absurd trivial h) | (exact (no_tf h).elim) | (exact (no_ft h).elim) | (exact (no_both h (by with_reducible assumption)).elim) | (exact (no_both (by with_reducible assumption) h).elim) | skip)
      | (refine s_add hS ?_ (by simp only [lo]; omega) (by simp only [hi]; omega); intro _ _; try cbv)
      | (refine s_sub hS ?_ (by simp only [lo]; omega) (by simp only [hi]; omega); intro _ _; try cbv)
      | (refine s_cvi hS ?_ (by simp only [lo]; omega) (by simp only [hi]; omega); try cbv)
      | (refine right_u hS rfl ?_ ?_ <;> intro hr <;> simp only [st9, bv, iv, Z.v] at hr <;> (try have hb := rightB_o hr) <;> (try simp only at hb) <;> cbv))
  all_goals (subst hT; first | rw [paidR_1 hr (by simp only; omega)] | rw [paidR_2 (by simp only; omega)] | rw [paidR_3 hr])
  all_goals simp only [R3.sv, pdSv, St9.sv]
  all_goals (repeat' (first | exact sub_any | exact Sub.rfl | exact SubL.nil | refine SubL.cons ?_ ?_ | exact sub_i rfl | refine sub_tp ?_ | refine sub_ag ?_ | exact sub_tt rfl | exact sub_ff rfl | exact sub_b_tt rfl | exact sub_b_ff rfl | (refine sub_i ?_; simp only [Z.v]; omega) | (refine sub_b ?_; assumption) | (refine sub_b ?_; simp only [← hS, cmp_le, cmp_lt, cmp_ge, cmp_gt, cmp_eq, cmp_ne, pl_eq, mi_eq, sc_eq, slen_eq, flen_eq, nt_eq, beq_eq, scmp_eq, scmp_ne, decide_eq_true_eq, decide_eq_false_iff_not, Bool.not_eq_true', Bool.not_eq_false', Bool.not_true, Bool.not_false, beq_iff_eq, beq_eq_false_iff_ne, ne_eq]; done) | (refine sub_tt ?_; assumption) | (refine sub_ff ?_; assumption)))
theorem paid2_f (s : St9) : (S0 Try.prog).call 13 [s.sv] [] (fun x _ => Sub x (pdSv (paidR s))) := by
  obtain ⟨so, t, w, f, li, to, pl, o, wa⟩ := s
  generalize hT : pdSv (paidR ⟨so, t, w, f, li, to, pl, o, wa⟩) = T
  generalize hS : S0 Try.prog = S
  refine call_in' hS I.fn_causeyref21_Paid ?_
  cbv
  repeat' (first
      | (refine s_eqs hS rfl ?_; try cbv)
      | (refine s_eqt hS rfl (by cbv; (repeat' (first | exact trivial | rfl | refine And.intro ?_ ?_ | assumption | omega | (simp only [← hS, cmp_le, cmp_lt, cmp_ge, cmp_gt, cmp_eq, cmp_ne, pl_eq, mi_eq, sc_eq, slen_eq, flen_eq, nt_eq, beq_eq, scmp_eq, scmp_ne, decide_eq_true_eq, decide_eq_false_iff_not, Bool.not_eq_true', Bool.not_eq_false', Bool.not_true, Bool.not_false, beq_iff_eq, beq_eq_false_iff_ne, ne_eq]; done) | (simp only [← hS, cmp_le, cmp_lt, cmp_ge, cmp_gt, cmp_eq, cmp_ne, pl_eq, mi_eq, sc_eq, slen_eq, flen_eq, nt_eq, beq_eq, scmp_eq, scmp_ne, decide_eq_true_eq, decide_eq_false_iff_not, Bool.not_eq_true', Bool.not_eq_false', Bool.not_true, Bool.not_false, beq_iff_eq, beq_eq_false_iff_ne, ne_eq]; first | assumption | omega)))) ?_; try cbv)
      | (refine s_eqo hS ?_; try cbv)
      | (refine s_chk hS (by simp only [← hS, cmp_le, cmp_lt, cmp_ge, cmp_gt, cmp_eq, cmp_ne, pl_eq, mi_eq, sc_eq, slen_eq, flen_eq, nt_eq, beq_eq, scmp_eq, scmp_ne, decide_eq_true_eq, decide_eq_false_iff_not, Bool.not_eq_true', Bool.not_eq_false', Bool.not_true, Bool.not_false, beq_iff_eq, beq_eq_false_iff_ne, ne_eq]; omega) ?_; try cbv)
      | (refine s_br hS ?_ ?_ <;> intro h <;> (try cbv) <;> (try simp only [← hS, cmp_le, cmp_lt, cmp_ge, cmp_gt, cmp_eq, cmp_ne, pl_eq, mi_eq, sc_eq, slen_eq, flen_eq, nt_eq, beq_eq, scmp_eq, scmp_ne, decide_eq_true_eq, decide_eq_false_iff_not, Bool.not_eq_true', Bool.not_eq_false', Bool.not_true, Bool.not_false, beq_iff_eq, beq_eq_false_iff_ne, ne_eq] at h) <;> first | (exfalso; omega) | (exact absurd trivial h) | (exact (no_tf h).elim) | (exact (no_ft h).elim) | (exact (no_both h (by with_reducible assumption)).elim) | (exact (no_both (by with_reducible assumption) h).elim) | skip)
      | (refine s_add hS ?_ (by simp only [lo]; omega) (by simp only [hi]; omega); intro _ _; try cbv)
      | (refine s_sub hS ?_ (by simp only [lo]; omega) (by simp only [hi]; omega); intro _ _; try cbv)
      | (refine s_cvi hS ?_ (by simp only [lo]; omega) (by simp only [hi]; omega); try cbv)
      | (refine right2_u hS rfl ?_ ?_ <;> intro hr <;> simp only [st9, bv, iv, Z.v] at hr <;> (try have hb := rightB_o hr) <;> (try simp only at hb) <;> cbv))
  all_goals (subst hT; first | rw [paidR_1 hr (by simp only; omega)] | rw [paidR_2 (by simp only; omega)] | rw [paidR_3 hr])
  all_goals simp only [R3.sv, pdSv, St9.sv]
  all_goals (repeat' (first | exact sub_any | exact Sub.rfl | exact SubL.nil | refine SubL.cons ?_ ?_ | exact sub_i rfl | refine sub_tp ?_ | refine sub_ag ?_ | exact sub_tt rfl | exact sub_ff rfl | exact sub_b_tt rfl | exact sub_b_ff rfl | (refine sub_i ?_; simp only [Z.v]; omega) | (refine sub_b ?_; assumption) | (refine sub_b ?_; simp only [← hS, cmp_le, cmp_lt, cmp_ge, cmp_gt, cmp_eq, cmp_ne, pl_eq, mi_eq, sc_eq, slen_eq, flen_eq, nt_eq, beq_eq, scmp_eq, scmp_ne, decide_eq_true_eq, decide_eq_false_iff_not, Bool.not_eq_true', Bool.not_eq_false', Bool.not_true, Bool.not_false, beq_iff_eq, beq_eq_false_iff_ne, ne_eq]; done) | (refine sub_tt ?_; assumption) | (refine sub_ff ?_; assumption)))
end Cz
