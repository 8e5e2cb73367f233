/- Setting, part C: what comes. -/
import Derived.Test.YtpidadlehhcngaaCzT2
namespace Cz
open Go Go.RowKit Go.Proofs
set_option linter.unusedSimpArgs false
set_option linter.unusedVariables false
set_option maxRecDepth 100000
set_option maxHeartbeats 2000000

def stepR (s0 o : St9) (p : Int × Int) : Option St9 :=
  if p.1 = 1 then some ⟨o.so, p.2, o.w, o.f, o.li, o.to, o.pl, o.o, o.wa⟩
  else if p.1 = 4 then some ⟨o.so, o.t, p.2, o.f, o.li, o.to, o.pl, o.o, o.wa⟩
  else if p.1 = 5 then some ⟨o.so, o.t, o.w, p.2, o.li, o.to, o.pl, o.o, o.wa⟩
  else if p.1 = 6 then some ⟨o.so, o.t, o.w, o.f, p.2, o.to, o.pl, o.o, o.wa⟩
  else if p.1 = 9 then (if s0.so then (if s0.pl = !decide (p.2 = 0) then some o else none) else some ⟨o.so, o.t, o.w, o.f, o.li, true, !decide (p.2 = 0), o.o, o.wa⟩)
  else some o
def loopR (s0 : St9) : St9 → List (Int × Int) → Option St9
  | o, [] => some o
  | o, p :: l => match stepR s0 o p with | some o' => loopR s0 o' l | none => none
theorem loopR_append (s0 : St9) : ∀ (l m : List (Int × Int)) (o : St9), loopR s0 o (l ++ m) = match loopR s0 o l with | some o' => loopR s0 o' m | none => none
  | [], m, o => rfl
  | p :: l, m, o => by
    simp only [List.cons_append, loopR]
    cases stepR s0 o p with
    | none => rfl
    | some o' => exact loopR_append s0 l m o'
theorem stepR_o {s0 o o' : St9} {p : Int × Int} (h : stepR s0 o p = some o') : o'.o = o.o ∧ o'.wa = o.wa ∧ o'.so = o.so := by
  unfold stepR at h
  split at h
  · cases h; exact ⟨rfl, rfl, rfl⟩
  · split at h
    · cases h; exact ⟨rfl, rfl, rfl⟩
    · split at h
      · cases h; exact ⟨rfl, rfl, rfl⟩
      · split at h
        · cases h; exact ⟨rfl, rfl, rfl⟩
        · split at h
          · split at h
            · split at h
              · cases h; exact ⟨rfl, rfl, rfl⟩
              · cases h
            · cases h; exact ⟨rfl, rfl, rfl⟩
          · cases h; exact ⟨rfl, rfl, rfl⟩
theorem loopR_o {s0 : St9} : ∀ {l : List (Int × Int)} {o o' : St9}, loopR s0 o l = some o' → o'.o = o.o ∧ o'.wa = o.wa ∧ o'.so = o.so
  | [], o, o', h => by cases h; exact ⟨rfl, rfl, rfl⟩
  | p :: l, o, o', h => by
    simp only [loopR] at h
    split at h
    · rename_i o2 hs
      obtain ⟨a, b, c⟩ := stepR_o hs
      obtain ⟨a', b', c'⟩ := loopR_o h
      exact ⟨a'.trans a, b'.trans b, c'.trans c⟩
    · cases h
def takeR (s : St9) (l : List (Int × Int)) : R3 :=
  if rightB s && l.all okPair then match loopR s s l with
    | none => ⟨s, true, 0, 1, 0⟩
    | some o => if 64 < o.o + 1 then ⟨s, true, 0, 11, 0⟩ else ⟨⟨true, o.t, o.w, o.f, o.li, o.to, o.pl, o.o + 1, o.wa⟩, false, 0, 0, 0⟩
  else ⟨s, false, 0, 0, 2⟩
theorem takeR_1 {s : St9} {l : List (Int × Int)} (h : rightB s = false) : takeR s l = ⟨s, false, 0, 0, 2⟩ := by simp [takeR, h]
theorem takeR_2 {s : St9} {l : List (Int × Int)} (h : l.all okPair = false) : takeR s l = ⟨s, false, 0, 0, 2⟩ := by simp only [takeR, h, Bool.and_false, Bool.false_eq_true, if_false]
theorem takeR_3 {s : St9} {l : List (Int × Int)} (h : rightB s = true) (h' : l.all okPair = true) {i : Int} {p : Int × Int} {o : St9} (hp : l[i.toNat]? = some p) (h0 : 0 ≤ i) (ho : loopR s s (l.take i.toNat) = some o)
    (hs : stepR s o p = none) : takeR s l = ⟨s, true, 0, 1, 0⟩ := by
  have e : loopR s s l = none := by
    have : l = l.take (i + 1).toNat ++ l.drop (i + 1).toNat := (List.take_append_drop _ _).symm
    rw [this, take_next hp h0, List.append_assoc, loopR_append, ho]
    simp [loopR, hs]
  simp only [takeR, h, h', e, Bool.and_self, if_true]
theorem takeR_4 {s : St9} {l : List (Int × Int)} (h : rightB s = true) (h' : l.all okPair = true) {o : St9} (ho : loopR s s l = some o) (hb : 64 < o.o + 1) : takeR s l = ⟨s, true, 0, 11, 0⟩ := by
  simp only [takeR, h, h', ho, Bool.and_self, if_true, hb]
theorem takeR_5 {s : St9} {l : List (Int × Int)} (h : rightB s = true) (h' : l.all okPair = true) {o : St9} (ho : loopR s s l = some o) (hb : ¬ 64 < o.o + 1) :
    takeR s l = ⟨⟨true, o.t, o.w, o.f, o.li, o.to, o.pl, o.o + 1, o.wa⟩, false, 0, 0, 0⟩ := by
  simp only [takeR, h, h', ho, Bool.and_self, if_true, hb, if_false]

theorem loop_next {s0 o o2 : St9} {l : List (Int × Int)} {a r : Int} {p : Int × Int} (h2 : loopR s0 s0 (l.take a.toNat) = some o) (hp : l[a.toNat]? = some p) (h0 : 0 ≤ a) (hr : r = a + 1) (hs : stepR s0 o p = some o2) :
    loopR s0 s0 (l.take r.toNat) = some o2 := by
  rw [hr, take_next hp h0, loopR_append, h2]; simp only [loopR, hs]
section
variable {s0 o : St9} {id v : Int}
theorem stepR_1 (h : id = 1) : stepR s0 o (id, v) = some ⟨o.so, v, o.w, o.f, o.li, o.to, o.pl, o.o, o.wa⟩ := by simp [stepR, h]
theorem stepR_4 (h : id = 4) : stepR s0 o (id, v) = some ⟨o.so, o.t, v, o.f, o.li, o.to, o.pl, o.o, o.wa⟩ := by simp [stepR, h]
theorem stepR_5 (h : id = 5) : stepR s0 o (id, v) = some ⟨o.so, o.t, o.w, v, o.li, o.to, o.pl, o.o, o.wa⟩ := by simp [stepR, h]
theorem stepR_6 (h : id = 6) : stepR s0 o (id, v) = some ⟨o.so, o.t, o.w, o.f, v, o.to, o.pl, o.o, o.wa⟩ := by simp [stepR, h]
theorem stepR_9 (h : id = 9) (hs : s0.so = true) (hv : (!decide (v = 0)) = s0.pl) : stepR s0 o (id, v) = some o := by simp [stepR, h, hs, ← hv]
theorem stepR_9n (h : id = 9) (hs : s0.so = true) (hv : ¬ (!decide (v = 0)) = s0.pl) : stepR s0 o (id, v) = none := by
  simp only [stepR, h, hs]
  simp only [show ¬ (9 : Int) = 1 by omega, show ¬ (9 : Int) = 4 by omega, show ¬ (9 : Int) = 5 by omega, show ¬ (9 : Int) = 6 by omega, if_false, if_true]
  rw [if_neg (fun e => hv e.symm)]
theorem stepR_9f (h : id = 9) (hs : s0.so = false) : stepR s0 o (id, v) = some ⟨o.so, o.t, o.w, o.f, o.li, true, !decide (v = 0), o.o, o.wa⟩ := by simp [stepR, h, hs]
theorem stepR_0 (h1 : ¬ id = 1) (h4 : ¬ id = 4) (h5 : ¬ id = 5) (h6 : ¬ id = 6) (h9 : ¬ id = 9) : stepR s0 o (id, v) = some o := by simp [stepR, h1, h4, h5, h6, h9]
end

theorem may_u {S : Sy} (hS : S0 Try.prog = S) {l : List Blk} {K : SV → List Blk → Prop} {k : Nat} {ro lit : Bool} {st : Z} {n : Int} {F F' : List SV} (ps : List (Int × Int)) (hl : POk ps) (hn : ilen ps = n) (hm : n < 1000000)
    (hF : cellsP ps = F) (hr : lget l k = .r ro lit st 2 F') (hs : FSub F' F) (h1 : ps.all okPair = true → K .tt l) (h2 : ps.all okPair = false → K .ff l) :
    S.call 31 [.sl k 2 (.l 0) (.y n) none] l K := by
  refine use_read hS (fun _ => k) (call_lit (may_f ps hl n hn F hF hm)) (.cons .rfl .nil) (by simp [refsBL, refsB]) ⟨⟨_, _, _, _, _, _, _, _, rfl, hF ▸ cellsP_plain ps, hr, hs⟩, trivial⟩ (refsB_lit _ rfl) ?_
  cases h : ps.all okPair
  · exact h2 h
  · exact h1 h

theorem take2_f (s : St9) (l : List (Int × Int)) (hl : POk l) (n : Int) (hn : ilen l = n) (F : List SV) (hF : cellsP l = F) (hm : n < 1000000) :
    (S0 Try.prog).call 9 [s.sv, .sl 0 2 (.l 0) (.y n) none] [.r true false (.l 0) 2 F] (fun x _ => Sub x (takeR s l).sv) := by
  have n0 : 0 ≤ n := hn ▸ ilen_nn l
  obtain ⟨so, t, w, f, li, to, pl, o, wa⟩ := s
  generalize hT : (takeR ⟨so, t, w, f, li, to, pl, o, wa⟩ l).sv = T
  generalize hS : S0 Try.prog = S
  refine call_in' hS I.fn_causeyref21_Take ?_
  cbv
  refine right2_u hS rfl ?_ ?_ <;> intro hr <;> simp only [st9, bv, iv, Z.v] at hr <;> cbv
  · have hb := rightB_o hr
    simp only at hb
    refine may_u hS l hl hn hm hF rfl .rfl ?_ ?_ <;> intro hy <;> cbv
    · refine s_loop_up hS 5 I.dead_causeyref21_Take_0 (fun x : Int × St9 => 0 ≤ x.1 ∧ x.1 ≤ n ∧ loopR ⟨so, t, w, f, li, to, pl, o, wa⟩ ⟨so, t, w, f, li, to, pl, o, wa⟩ (l.take x.1.toNat) = some x.2) (fun x => [(8, .i .i64 (.y x.1))])
        (fun x => [(4, .c [.b x.2.so, .i .i64 (.y x.2.t), .i .i64 (.y x.2.w), .i .i64 (.y x.2.f), .i .i64 (.y x.2.li), .b x.2.to, .b x.2.pl, .i .i64 (.y x.2.o), .i .i64 (.y x.2.wa)])])
        (fun x => (n - x.1).toNat) (0, ⟨so, t, w, f, li, to, pl, o, wa⟩) rfl ⟨⟨by simp, by simpa using n0, by simp [loopR]⟩, rfl, ?_, ?_, by cbv⟩ ?_
      · cbv; (repeat' (first | exact sub_any | exact Sub.rfl | exact SubL.nil | refine SubL.cons ?_ ?_ | exact sub_i rfl | refine sub_tp ?_ | refine sub_ag ?_ | exact sub_tt rfl | exact sub_ff rfl | exact sub_b_tt rfl | exact sub_b_ff rfl | (refine sub_i ?_; simp only [Z.v]; omega) | (refine sub_b ?_; assumption) | (refine sub_b ?_; simp only [← hS, cmp_le, cmp_lt, cmp_ge, cmp_gt, cmp_eq, cmp_ne, pl_eq, mi_eq, sc_eq, slen_eq, flen_eq, nt_eq, beq_eq, scmp_eq, scmp_ne, decide_eq_true_eq, decide_eq_false_iff_not, Bool.not_eq_true', Bool.not_eq_false', Bool.not_true, Bool.not_false, beq_iff_eq, beq_eq_false_iff_ne, ne_eq]; done) | (refine sub_tt ?_; assumption) | (refine sub_ff ?_; assumption)))
      · cbv; exact ⟨.rfl, .rfl, .rfl, .rfl, .rfl, trivial⟩
      · intro x
        obtain ⟨a, so', t', w', f', li', to', pl', o', wa'⟩ := x
        intro ha
        dsimp only at ha
        cbv
        obtain ⟨h0, h1, h2⟩ := ha
        have ho := loopR_o h2
        simp only at ho
        refine s_br hS ?_ ?_ <;> intro h <;> cbv <;> simp only [← hS, cmp_le, cmp_lt, cmp_ge, cmp_gt, cmp_eq, cmp_ne, pl_eq, mi_eq, sc_eq, slen_eq, flen_eq, nt_eq, beq_eq, scmp_eq, scmp_ne, decide_eq_true_eq, decide_eq_false_iff_not, Bool.not_eq_true', Bool.not_eq_false', Bool.not_true, Bool.not_false, beq_iff_eq, beq_eq_false_iff_ne, ne_eq] at h
        · obtain ⟨⟨id, v⟩, hp⟩ := at_ex (l := l) (i := a) (by omega) h0
          have hok := hl _ (List.mem_of_getElem? hp)
          simp only at hok
          repeat' (first
              | (refine s_eqs hS rfl ?_; try cbv)
              | (refine s_eqt hS rfl ?_ ?_; (focus (cbv; (repeat' (first | exact trivial | rfl | refine And.intro ?_ ?_ | assumption | omega | (simp only [← hS, cmp_le, cmp_lt, cmp_ge, cmp_gt, cmp_eq, cmp_ne, pl_eq, mi_eq, sc_eq, slen_eq, flen_eq, nt_eq, beq_eq, scmp_eq, scmp_ne, decide_eq_true_eq, decide_eq_false_iff_not, Bool.not_eq_true', Bool.not_eq_false', Bool.not_true, Bool.not_false, beq_iff_eq, beq_eq_false_iff_ne, ne_eq]; done) | (simp only [← hS, cmp_le, cmp_lt, cmp_ge, cmp_gt, cmp_eq, cmp_ne, pl_eq, mi_eq, sc_eq, slen_eq, flen_eq, nt_eq, beq_eq, scmp_eq, scmp_ne, decide_eq_true_eq, decide_eq_false_iff_not, Bool.not_eq_true', Bool.not_eq_false', Bool.not_true, Bool.not_false, beq_iff_eq, beq_eq_false_iff_ne, ne_eq]; first | assumption | omega))); done)); try cbv)
              | (refine s_eqo hS ?_; try cbv)
              | (refine s_chk hS (by simp only [← hS, cmp_le, cmp_lt, cmp_ge, cmp_gt, cmp_eq, cmp_ne, pl_eq, mi_eq, sc_eq, slen_eq, flen_eq, nt_eq, beq_eq, scmp_eq, scmp_ne, decide_eq_true_eq, decide_eq_false_iff_not, Bool.not_eq_true', Bool.not_eq_false', Bool.not_true, Bool.not_false, beq_iff_eq, beq_eq_false_iff_ne, ne_eq]; omega) ?_; try cbv)
              | (refine s_br hS ?_ ?_ <;> intro h <;> (try cbv) <;> (try simp only [← hS, cmp_le, cmp_lt, cmp_ge, cmp_gt, cmp_eq, cmp_ne, pl_eq, mi_eq, sc_eq, slen_eq, flen_eq, nt_eq, beq_eq, scmp_eq, scmp_ne, decide_eq_true_eq, decide_eq_false_iff_not, Bool.not_eq_true', Bool.not_eq_false', Bool.not_true, Bool.not_false, beq_iff_eq, beq_eq_false_iff_ne, ne_eq] at h) <;> first | (exfalso; omega) | (exact absurd trivial h) | (exact (no_tf h).elim) | (exact (no_ft h).elim) | (exact (no_both h (by with_reducible assumption)).elim) | (exact (no_both (by with_reducible assumption) h).elim) | skip)
              | (refine s_add hS ?_ (by simp only [lo]; omega) (by simp only [hi]; omega); intro _ _; try cbv)
              | (refine s_sub hS ?_ (by simp only [lo]; omega) (by simp only [hi]; omega); intro _ _; try cbv)
              | (refine s_cvi hS ?_ (by simp only [lo]; omega) (by simp only [hi]; omega); try cbv)
              | (refine g_rd hS ?_; refine r_rowp hF hp (fun _ => rfl) (by omega) (by decide) rfl ?_; try cbv))
          all_goals first
            | (subst hT; rw [takeR_3 hr hy hp h0 h2 (stepR_9n (by assumption) (by assumption) (by assumption))]; simp only [R3.sv, St9.sv]; (repeat' (first | exact sub_any | exact Sub.rfl | exact SubL.nil | refine SubL.cons ?_ ?_ | exact sub_i rfl | refine sub_tp ?_ | refine sub_ag ?_ | exact sub_tt rfl | exact sub_ff rfl | exact sub_b_tt rfl | exact sub_b_ff rfl | (refine sub_i ?_; simp only [Z.v]; omega) | (refine sub_b ?_; assumption) | (refine sub_b ?_; simp only [← hS, cmp_le, cmp_lt, cmp_ge, cmp_gt, cmp_eq, cmp_ne, pl_eq, mi_eq, sc_eq, slen_eq, flen_eq, nt_eq, beq_eq, scmp_eq, scmp_ne, decide_eq_true_eq, decide_eq_false_iff_not, Bool.not_eq_true', Bool.not_eq_false', Bool.not_true, Bool.not_false, beq_iff_eq, beq_eq_false_iff_ne, ne_eq]; done) | (refine sub_tt ?_; assumption) | (refine sub_ff ?_; assumption))); done)
            | (obtain ⟨r, hr⟩ : ∃ r, r = a + 1 := ⟨_, rfl⟩
               obtain ⟨pv, hpv⟩ : ∃ pv, pv = !decide (v = 0) := ⟨_, rfl⟩
               first
                 | (refine ⟨(r, ⟨so', v, w', f', li', to', pl', o', wa'⟩), by dsimp only; omega, ⟨by dsimp only; omega, by dsimp only; omega, loop_next h2 hp h0 hr (stepR_1 (by assumption))⟩, rfl, (by cbv; (repeat' (first | exact sub_any | exact Sub.rfl | exact SubL.nil | refine SubL.cons ?_ ?_ | exact sub_i rfl | refine sub_tp ?_ | refine sub_ag ?_ | exact sub_tt rfl | exact sub_ff rfl | exact sub_b_tt rfl | exact sub_b_ff rfl | (refine sub_i ?_; simp only [Z.v]; omega) | (refine sub_b ?_; assumption) | (refine sub_b ?_; simp only [← hS, cmp_le, cmp_lt, cmp_ge, cmp_gt, cmp_eq, cmp_ne, pl_eq, mi_eq, sc_eq, slen_eq, flen_eq, nt_eq, beq_eq, scmp_eq, scmp_ne, decide_eq_true_eq, decide_eq_false_iff_not, Bool.not_eq_true', Bool.not_eq_false', Bool.not_true, Bool.not_false, beq_iff_eq, beq_eq_false_iff_ne, ne_eq]; done) | (refine sub_tt ?_; assumption) | (refine sub_ff ?_; assumption)))), (by cbv; exact ⟨.rfl, .rfl, .rfl, .rfl, .c (by (repeat' (first | exact sub_any | exact Sub.rfl | exact SubL.nil | refine SubL.cons ?_ ?_ | exact sub_i rfl | refine sub_tp ?_ | refine sub_ag ?_ | exact sub_tt rfl | exact sub_ff rfl | exact sub_b_tt rfl | exact sub_b_ff rfl | (refine sub_i ?_; simp only [Z.v]; omega) | (refine sub_b ?_; assumption) | (refine sub_b ?_; simp only [← hS, cmp_le, cmp_lt, cmp_ge, cmp_gt, cmp_eq, cmp_ne, pl_eq, mi_eq, sc_eq, slen_eq, flen_eq, nt_eq, beq_eq, scmp_eq, scmp_ne, decide_eq_true_eq, decide_eq_false_iff_not, Bool.not_eq_true', Bool.not_eq_false', Bool.not_true, Bool.not_false, beq_iff_eq, beq_eq_false_iff_ne, ne_eq]; done) | (refine sub_tt ?_; assumption) | (refine sub_ff ?_; assumption)))), trivial⟩), by cbv⟩; done)
                 | (refine ⟨(r, ⟨so', t', v, f', li', to', pl', o', wa'⟩), by dsimp only; omega, ⟨by dsimp only; omega, by dsimp only; omega, loop_next h2 hp h0 hr (stepR_4 (by assumption))⟩, rfl, (by cbv; (repeat' (first | exact sub_any | exact Sub.rfl | exact SubL.nil | refine SubL.cons ?_ ?_ | exact sub_i rfl | refine sub_tp ?_ | refine sub_ag ?_ | exact sub_tt rfl | exact sub_ff rfl | exact sub_b_tt rfl | exact sub_b_ff rfl | (refine sub_i ?_; simp only [Z.v]; omega) | (refine sub_b ?_; assumption) | (refine sub_b ?_; simp only [← hS, cmp_le, cmp_lt, cmp_ge, cmp_gt, cmp_eq, cmp_ne, pl_eq, mi_eq, sc_eq, slen_eq, flen_eq, nt_eq, beq_eq, scmp_eq, scmp_ne, decide_eq_true_eq, decide_eq_false_iff_not, Bool.not_eq_true', Bool.not_eq_false', Bool.not_true, Bool.not_false, beq_iff_eq, beq_eq_false_iff_ne, ne_eq]; done) | (refine sub_tt ?_; assumption) | (refine sub_ff ?_; assumption)))), (by cbv; exact ⟨.rfl, .rfl, .rfl, .rfl, .c (by (repeat' (first | exact sub_any | exact Sub.rfl | exact SubL.nil | refine SubL.cons ?_ ?_ | exact sub_i rfl | refine sub_tp ?_ | refine sub_ag ?_ | exact sub_tt rfl | exact sub_ff rfl | exact sub_b_tt rfl | exact sub_b_ff rfl | (refine sub_i ?_; simp only [Z.v]; omega) | (refine sub_b ?_; assumption) | (refine sub_b ?_; simp only [← hS, cmp_le, cmp_lt, cmp_ge, cmp_gt, cmp_eq, cmp_ne, pl_eq, mi_eq, sc_eq, slen_eq, flen_eq, nt_eq, beq_eq, scmp_eq, scmp_ne, decide_eq_true_eq, decide_eq_false_iff_not, Bool.not_eq_true', Bool.not_eq_false', Bool.not_true, Bool.not_false, beq_iff_eq, beq_eq_false_iff_ne, ne_eq]; done) | (refine sub_tt ?_; assumption) | (refine sub_ff ?_; assumption)))), trivial⟩), by cbv⟩; done)
                 | (refine ⟨(r, ⟨so', t', w', v, li', to', pl', o', wa'⟩), by dsimp only; omega, ⟨by dsimp only; omega, by dsimp only; omega, loop_next h2 hp h0 hr (stepR_5 (by assumption))⟩, rfl, (by cbv; (repeat' (first | exact sub_any | exact Sub.rfl | exact SubL.nil | refine SubL.cons ?_ ?_ | exact sub_i rfl | refine sub_tp ?_ | refine sub_ag ?_ | exact sub_tt rfl | exact sub_ff rfl | exact sub_b_tt rfl | exact sub_b_ff rfl | (refine sub_i ?_; simp only [Z.v]; omega) | (refine sub_b ?_; assumption) | (refine sub_b ?_; simp only [← hS, cmp_le, cmp_lt, cmp_ge, cmp_gt, cmp_eq, cmp_ne, pl_eq, mi_eq, sc_eq, slen_eq, flen_eq, nt_eq, beq_eq, scmp_eq, scmp_ne, decide_eq_true_eq, decide_eq_false_iff_not, Bool.not_eq_true', Bool.not_eq_false', Bool.not_true, Bool.not_false, beq_iff_eq, beq_eq_false_iff_ne, ne_eq]; done) | (refine sub_tt ?_; assumption) | (refine sub_ff ?_; assumption)))), (by cbv; exact ⟨.rfl, .rfl, .rfl, .rfl, .c (by (repeat' (first | exact sub_any | exact Sub.rfl | exact SubL.nil | refine SubL.cons ?_ ?_ | exact sub_i rfl | refine sub_tp ?_ | refine sub_ag ?_ | exact sub_tt rfl | exact sub_ff rfl | exact sub_b_tt rfl | exact sub_b_ff rfl | (refine sub_i ?_; simp only [Z.v]; omega) | (refine sub_b ?_; assumption) | (refine sub_b ?_; simp only [← hS, cmp_le, cmp_lt, cmp_ge, cmp_gt, cmp_eq, cmp_ne, pl_eq, mi_eq, sc_eq, slen_eq, flen_eq, nt_eq, beq_eq, scmp_eq, scmp_ne, decide_eq_true_eq, decide_eq_false_iff_not, Bool.not_eq_true', Bool.not_eq_false', Bool.not_true, Bool.not_false, beq_iff_eq, beq_eq_false_iff_ne, ne_eq]; done) | (refine sub_tt ?_; assumption) | (refine sub_ff ?_; assumption)))), trivial⟩), by cbv⟩; done)
                 | (refine ⟨(r, ⟨so', t', w', f', v, to', pl', o', wa'⟩), by dsimp only; omega, ⟨by dsimp only; omega, by dsimp only; omega, loop_next h2 hp h0 hr (stepR_6 (by assumption))⟩, rfl, (by cbv; (repeat' (first | exact sub_any | exact Sub.rfl | exact SubL.nil | refine SubL.cons ?_ ?_ | exact sub_i rfl | refine sub_tp ?_ | refine sub_ag ?_ | exact sub_tt rfl | exact sub_ff rfl | exact sub_b_tt rfl | exact sub_b_ff rfl | (refine sub_i ?_; simp only [Z.v]; omega) | (refine sub_b ?_; assumption) | (refine sub_b ?_; simp only [← hS, cmp_le, cmp_lt, cmp_ge, cmp_gt, cmp_eq, cmp_ne, pl_eq, mi_eq, sc_eq, slen_eq, flen_eq, nt_eq, beq_eq, scmp_eq, scmp_ne, decide_eq_true_eq, decide_eq_false_iff_not, Bool.not_eq_true', Bool.not_eq_false', Bool.not_true, Bool.not_false, beq_iff_eq, beq_eq_false_iff_ne, ne_eq]; done) | (refine sub_tt ?_; assumption) | (refine sub_ff ?_; assumption)))), (by cbv; exact ⟨.rfl, .rfl, .rfl, .rfl, .c (by (repeat' (first | exact sub_any | exact Sub.rfl | exact SubL.nil | refine SubL.cons ?_ ?_ | exact sub_i rfl | refine sub_tp ?_ | refine sub_ag ?_ | exact sub_tt rfl | exact sub_ff rfl | exact sub_b_tt rfl | exact sub_b_ff rfl | (refine sub_i ?_; simp only [Z.v]; omega) | (refine sub_b ?_; assumption) | (refine sub_b ?_; simp only [← hS, cmp_le, cmp_lt, cmp_ge, cmp_gt, cmp_eq, cmp_ne, pl_eq, mi_eq, sc_eq, slen_eq, flen_eq, nt_eq, beq_eq, scmp_eq, scmp_ne, decide_eq_true_eq, decide_eq_false_iff_not, Bool.not_eq_true', Bool.not_eq_false', Bool.not_true, Bool.not_false, beq_iff_eq, beq_eq_false_iff_ne, ne_eq]; done) | (refine sub_tt ?_; assumption) | (refine sub_ff ?_; assumption)))), trivial⟩), by cbv⟩; done)
                 | (refine ⟨(r, ⟨so', t', w', f', li', to', pl', o', wa'⟩), by dsimp only; omega, ⟨by dsimp only; omega, by dsimp only; omega, loop_next h2 hp h0 hr (stepR_9 (by assumption) (by assumption) (by assumption))⟩, rfl, (by cbv; (repeat' (first | exact sub_any | exact Sub.rfl | exact SubL.nil | refine SubL.cons ?_ ?_ | exact sub_i rfl | refine sub_tp ?_ | refine sub_ag ?_ | exact sub_tt rfl | exact sub_ff rfl | exact sub_b_tt rfl | exact sub_b_ff rfl | (refine sub_i ?_; simp only [Z.v]; omega) | (refine sub_b ?_; assumption) | (refine sub_b ?_; simp only [← hS, cmp_le, cmp_lt, cmp_ge, cmp_gt, cmp_eq, cmp_ne, pl_eq, mi_eq, sc_eq, slen_eq, flen_eq, nt_eq, beq_eq, scmp_eq, scmp_ne, decide_eq_true_eq, decide_eq_false_iff_not, Bool.not_eq_true', Bool.not_eq_false', Bool.not_true, Bool.not_false, beq_iff_eq, beq_eq_false_iff_ne, ne_eq]; done) | (refine sub_tt ?_; assumption) | (refine sub_ff ?_; assumption)))), (by cbv; exact ⟨.rfl, .rfl, .rfl, .rfl, .c (by (repeat' (first | exact sub_any | exact Sub.rfl | exact SubL.nil | refine SubL.cons ?_ ?_ | exact sub_i rfl | refine sub_tp ?_ | refine sub_ag ?_ | exact sub_tt rfl | exact sub_ff rfl | exact sub_b_tt rfl | exact sub_b_ff rfl | (refine sub_i ?_; simp only [Z.v]; omega) | (refine sub_b ?_; assumption) | (refine sub_b ?_; simp only [← hS, cmp_le, cmp_lt, cmp_ge, cmp_gt, cmp_eq, cmp_ne, pl_eq, mi_eq, sc_eq, slen_eq, flen_eq, nt_eq, beq_eq, scmp_eq, scmp_ne, decide_eq_true_eq, decide_eq_false_iff_not, Bool.not_eq_true', Bool.not_eq_false', Bool.not_true, Bool.not_false, beq_iff_eq, beq_eq_false_iff_ne, ne_eq]; done) | (refine sub_tt ?_; assumption) | (refine sub_ff ?_; assumption)))), trivial⟩), by cbv⟩; done)
                 | (refine ⟨(r, ⟨so', t', w', f', li', true, pv, o', wa'⟩), by dsimp only; omega, ⟨by dsimp only; omega, by dsimp only; omega, loop_next h2 hp h0 hr (hpv ▸ stepR_9f (by assumption) (by assumption))⟩, rfl, (by cbv; (repeat' (first | exact sub_any | exact Sub.rfl | exact SubL.nil | refine SubL.cons ?_ ?_ | exact sub_i rfl | refine sub_tp ?_ | refine sub_ag ?_ | exact sub_tt rfl | exact sub_ff rfl | exact sub_b_tt rfl | exact sub_b_ff rfl | (refine sub_i ?_; simp only [Z.v]; omega) | (refine sub_b ?_; assumption) | (refine sub_b ?_; simp only [← hS, cmp_le, cmp_lt, cmp_ge, cmp_gt, cmp_eq, cmp_ne, pl_eq, mi_eq, sc_eq, slen_eq, flen_eq, nt_eq, beq_eq, scmp_eq, scmp_ne, decide_eq_true_eq, decide_eq_false_iff_not, Bool.not_eq_true', Bool.not_eq_false', Bool.not_true, Bool.not_false, beq_iff_eq, beq_eq_false_iff_ne, ne_eq]; done) | (refine sub_tt ?_; assumption) | (refine sub_ff ?_; assumption)))), (by cbv; exact ⟨.rfl, .rfl, .rfl, .rfl, .c (.cons .rfl (.cons .rfl (.cons .rfl (.cons .rfl (.cons .rfl (.cons (sub_tt rfl) (.cons (sub_b (by rw [hpv, ← hS]; rfl)) (.cons .rfl (.cons .rfl .nil))))))))), trivial⟩), by cbv⟩; done)
                 | (refine ⟨(r, ⟨so', t', w', f', li', to', pl', o', wa'⟩), by dsimp only; omega, ⟨by dsimp only; omega, by dsimp only; omega, loop_next h2 hp h0 hr (stepR_0 (by assumption) (by assumption) (by assumption) (by assumption) (by assumption))⟩, rfl, (by cbv; (repeat' (first | exact sub_any | exact Sub.rfl | exact SubL.nil | refine SubL.cons ?_ ?_ | exact sub_i rfl | refine sub_tp ?_ | refine sub_ag ?_ | exact sub_tt rfl | exact sub_ff rfl | exact sub_b_tt rfl | exact sub_b_ff rfl | (refine sub_i ?_; simp only [Z.v]; omega) | (refine sub_b ?_; assumption) | (refine sub_b ?_; simp only [← hS, cmp_le, cmp_lt, cmp_ge, cmp_gt, cmp_eq, cmp_ne, pl_eq, mi_eq, sc_eq, slen_eq, flen_eq, nt_eq, beq_eq, scmp_eq, scmp_ne, decide_eq_true_eq, decide_eq_false_iff_not, Bool.not_eq_true', Bool.not_eq_false', Bool.not_true, Bool.not_false, beq_iff_eq, beq_eq_false_iff_ne, ne_eq]; done) | (refine sub_tt ?_; assumption) | (refine sub_ff ?_; assumption)))), (by cbv; exact ⟨.rfl, .rfl, .rfl, .rfl, .c (by (repeat' (first | exact sub_any | exact Sub.rfl | exact SubL.nil | refine SubL.cons ?_ ?_ | exact sub_i rfl | refine sub_tp ?_ | refine sub_ag ?_ | exact sub_tt rfl | exact sub_ff rfl | exact sub_b_tt rfl | exact sub_b_ff rfl | (refine sub_i ?_; simp only [Z.v]; omega) | (refine sub_b ?_; assumption) | (refine sub_b ?_; simp only [← hS, cmp_le, cmp_lt, cmp_ge, cmp_gt, cmp_eq, cmp_ne, pl_eq, mi_eq, sc_eq, slen_eq, flen_eq, nt_eq, beq_eq, scmp_eq, scmp_ne, decide_eq_true_eq, decide_eq_false_iff_not, Bool.not_eq_true', Bool.not_eq_false', Bool.not_true, Bool.not_false, beq_iff_eq, beq_eq_false_iff_ne, ne_eq]; done) | (refine sub_tt ?_; assumption) | (refine sub_ff ?_; assumption)))), trivial⟩), by cbv⟩; done))
        · have hall := h2
          rw [take_all (by omega)] at hall
          repeat' (first
              | (refine s_eqs hS rfl ?_; try cbv)
              | (refine s_eqt hS rfl ?_ ?_; (focus (cbv; (repeat' (first | exact trivial | rfl | refine And.intro ?_ ?_ | assumption | omega | (simp only [← hS, cmp_le, cmp_lt, cmp_ge, cmp_gt, cmp_eq, cmp_ne, pl_eq, mi_eq, sc_eq, slen_eq, flen_eq, nt_eq, beq_eq, scmp_eq, scmp_ne, decide_eq_true_eq, decide_eq_false_iff_not, Bool.not_eq_true', Bool.not_eq_false', Bool.not_true, Bool.not_false, beq_iff_eq, beq_eq_false_iff_ne, ne_eq]; done) | (simp only [← hS, cmp_le, cmp_lt, cmp_ge, cmp_gt, cmp_eq, cmp_ne, pl_eq, mi_eq, sc_eq, slen_eq, flen_eq, nt_eq, beq_eq, scmp_eq, scmp_ne, decide_eq_true_eq, decide_eq_false_iff_not, Bool.not_eq_true', Bool.not_eq_false', Bool.not_true, Bool.not_false, beq_iff_eq, beq_eq_false_iff_ne, ne_eq]; first | assumption | omega))); done)); try cbv)
              | (refine s_eqo hS ?_; try cbv)
              | (refine s_chk hS (by simp only [← hS, cmp_le, cmp_lt, cmp_ge, cmp_gt, cmp_eq, cmp_ne, pl_eq, mi_eq, sc_eq, slen_eq, flen_eq, nt_eq, beq_eq, scmp_eq, scmp_ne, decide_eq_true_eq, decide_eq_false_iff_not, Bool.not_eq_true', Bool.not_eq_false', Bool.not_true, Bool.not_false, beq_iff_eq, beq_eq_false_iff_ne, ne_eq]; omega) ?_; try cbv)
              | (refine s_br hS ?_ ?_ <;> intro h <;> (try cbv) <;> (try simp only [← hS, cmp_le, cmp_lt, cmp_ge, cmp_gt, cmp_eq, cmp_ne, pl_eq, mi_eq, sc_eq, slen_eq, flen_eq, nt_eq, beq_eq, scmp_eq, scmp_ne, decide_eq_true_eq, decide_eq_false_iff_not, Bool.not_eq_true', Bool.not_eq_false', Bool.not_true, Bool.not_false, beq_iff_eq, beq_eq_false_iff_ne, ne_eq] at h) <;> first | (exfalso; omega) | (exact absurd trivial h) | (exact (no_tf h).elim) | (exact (no_ft h).elim) | (exact (no_both h (by with_reducible assumption)).elim) | (exact (no_both (by with_reducible assumption) h).elim) | skip)
              | (refine s_add hS ?_ (by simp only [lo]; omega) (by simp only [hi]; omega); intro _ _; try cbv)
              | (refine s_sub hS ?_ (by simp only [lo]; omega) (by simp only [hi]; omega); intro _ _; try cbv)
              | (refine s_cvi hS ?_ (by simp only [lo]; omega) (by simp only [hi]; omega); try cbv))
          · subst hT; rw [takeR_4 hr hy hall (by simp only; omega)]; simp only [R3.sv, St9.sv]; (repeat' (first | exact sub_any | exact Sub.rfl | exact SubL.nil | refine SubL.cons ?_ ?_ | exact sub_i rfl | refine sub_tp ?_ | refine sub_ag ?_ | exact sub_tt rfl | exact sub_ff rfl | exact sub_b_tt rfl | exact sub_b_ff rfl | (refine sub_i ?_; simp only [Z.v]; omega) | (refine sub_b ?_; assumption) | (refine sub_b ?_; simp only [← hS, cmp_le, cmp_lt, cmp_ge, cmp_gt, cmp_eq, cmp_ne, pl_eq, mi_eq, sc_eq, slen_eq, flen_eq, nt_eq, beq_eq, scmp_eq, scmp_ne, decide_eq_true_eq, decide_eq_false_iff_not, Bool.not_eq_true', Bool.not_eq_false', Bool.not_true, Bool.not_false, beq_iff_eq, beq_eq_false_iff_ne, ne_eq]; done) | (refine sub_tt ?_; assumption) | (refine sub_ff ?_; assumption)))
          · subst hT; rw [takeR_5 hr hy hall (by simp only; omega)]; simp only [R3.sv, St9.sv]; (repeat' (first | exact sub_any | exact Sub.rfl | exact SubL.nil | refine SubL.cons ?_ ?_ | exact sub_i rfl | refine sub_tp ?_ | refine sub_ag ?_ | exact sub_tt rfl | exact sub_ff rfl | exact sub_b_tt rfl | exact sub_b_ff rfl | (refine sub_i ?_; simp only [Z.v]; omega) | (refine sub_b ?_; assumption) | (refine sub_b ?_; simp only [← hS, cmp_le, cmp_lt, cmp_ge, cmp_gt, cmp_eq, cmp_ne, pl_eq, mi_eq, sc_eq, slen_eq, flen_eq, nt_eq, beq_eq, scmp_eq, scmp_ne, decide_eq_true_eq, decide_eq_false_iff_not, Bool.not_eq_true', Bool.not_eq_false', Bool.not_true, Bool.not_false, beq_iff_eq, beq_eq_false_iff_ne, ne_eq]; done) | (refine sub_tt ?_; assumption) | (refine sub_ff ?_; assumption)))
    · subst hT; rw [takeR_2 hy]; simp only [R3.sv, St9.sv]; (repeat' (first | exact sub_any | exact Sub.rfl | exact SubL.nil | refine SubL.cons ?_ ?_ | exact sub_i rfl | refine sub_tp ?_ | refine sub_ag ?_ | exact sub_tt rfl | exact sub_ff rfl | exact sub_b_tt rfl | exact sub_b_ff rfl | (refine sub_i ?_; simp only [Z.v]; omega) | (refine sub_b ?_; assumption) | (refine sub_b ?_; simp only [← hS, cmp_le, cmp_lt, cmp_ge, cmp_gt, cmp_eq, cmp_ne, pl_eq, mi_eq, sc_eq, slen_eq, flen_eq, nt_eq, beq_eq, scmp_eq, scmp_ne, decide_eq_true_eq, decide_eq_false_iff_not, Bool.not_eq_true', Bool.not_eq_false', Bool.not_true, Bool.not_false, beq_iff_eq, beq_eq_false_iff_ne, ne_eq]; done) | (refine sub_tt ?_; assumption) | (refine sub_ff ?_; assumption)))
  · subst hT; rw [takeR_1 hr]; simp only [R3.sv, St9.sv]; (repeat' (first | exact sub_any | exact Sub.rfl | exact SubL.nil | refine SubL.cons ?_ ?_ | exact sub_i rfl | refine sub_tp ?_ | refine sub_ag ?_ | exact sub_tt rfl | exact sub_ff rfl | exact sub_b_tt rfl | exact sub_b_ff rfl | (refine sub_i ?_; simp only [Z.v]; omega) | (refine sub_b ?_; assumption) | (refine sub_b ?_; simp only [← hS, cmp_le, cmp_lt, cmp_ge, cmp_gt, cmp_eq, cmp_ne, pl_eq, mi_eq, sc_eq, slen_eq, flen_eq, nt_eq, beq_eq, scmp_eq, scmp_ne, decide_eq_true_eq, decide_eq_false_iff_not, Bool.not_eq_true', Bool.not_eq_false', Bool.not_true, Bool.not_false, beq_iff_eq, beq_eq_false_iff_ne, ne_eq]; done) | (refine sub_tt ?_; assumption) | (refine sub_ff ?_; assumption)))
end Cz
