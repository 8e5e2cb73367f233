/- What the claims of this group lean on, part 6: our engine, the functions' simplified codes, their contracts. No condition. -/
import Derived.Test.YtoebcpfligblaaaGreatDoorKF5
set_option linter.unusedSimpArgs false
set_option linter.unusedVariables false
set_option maxRecDepth 100000
set_option maxHeartbeats 4000000
namespace Cz
open Go Go.RowKit Go.Proofs
namespace Tb
def fdE (f : Fd) : List SV := [.s f.1, .s f.2]
def cellsF (l : List Fd) : List SV := l.flatMap fdE
theorem qzv (l : List Fd) : plains (cellsF l) = true := qlc (fun _ => rfl) l
def tabV (mx : Int) (l : List Fd) : SV := .ag [.i .i64 (.y mx), .v false 2 (cellsF l) (.y (ilen l))]
theorem cells_take (l : List Fd) (n : Nat) : (cellsF l).take (n * 2) = cellsF (l.take n) := by
  induction l generalizing n with
  | nil => simp [cellsF]
  | cons f l ih =>
    cases n with
    | zero => simp [cellsF]
    | succ n =>
      have := ih n
      simp only [cellsF, List.flatMap_cons, fdE, List.take_succ_cons] at this ⊢
      rw [show (n + 1) * 2 = n * 2 + 1 + 1 by omega]
      simp only [List.cons_append, List.nil_append, List.take_succ_cons]
      rw [this]
theorem row_tab {l' : List Blk} {g : Nat → Nat} {ks : List (Option Nat)} {k : Nat} {len : Z} {cap : Option Z} {lit : Bool} {st : Z} {F : List SV} {lit' : Bool} {n : Z} {l : List Fd} {m : Nat} (hB : l'[k]? = some (.r false lit st 2 F)) (hk : kpOf ks k = none)
    (hF : F = cellsF l) (hm : len.v = m) (hn : len.v = n.v) : Fz l' g ks (.sl k 2 (.l 0) len cap) (.v lit' 2 (cellsF (l.take m)) n) := by
  refine qag hB hk ?_ (qzv _) hn
  rw [hF, show (Z.l 0).v.toNat * 2 = 0 from rfl, List.drop_zero, show len.v.toNat = m by omega, cells_take]
inductive TabC (bl : List Blk) : List SV → Int → List Fd → Prop where
  | v {z n : Z} {lit : Bool} {F : List SV} {mx : Int} {l : List Fd} (hz : z.v = mx) (hF : cellsF l = F) (hn : n.v = ilen l) : TabC bl [.i .i64 z, .v lit 2 F n] mx l
  | nil {z : Z} {mx : Int} (hz : z.v = mx) : TabC bl [.i .i64 z, .re (.slice none 0 0)] mx []
  | row {z n st : Z} {k : Nat} {lit : Bool} {cap : Option Z} {F : List SV} {mx : Int} {l l0 : List Fd} (hz : z.v = mx) (hB : lget bl k = .r false lit st 2 F) (hF : cellsF l0 = F) (hl : l = l0.take n.v.toNat) (hn : n.v = ilen l) : TabC bl [.i .i64 z, .sl k 2 (.l 0) n cap] mx l
theorem TabC.fz {bl : List Blk} {cs : List SV} {mx : Int} {l : List Fd} (h : TabC bl cs mx l) {g : Nat → Nat} : FzL bl g [] [.ag cs] [tabV mx l] := by
  cases h with
  | v hz hF hn => exact .cons (.ag (.cons (.sub (qad hz) rfl) (.cons (.sub (sub_v hF.symm hn) rfl) .nil))) .nil
  | nil hz => exact .cons (.ag (.cons (.sub (qad hz) rfl) (.cons (.sub (sub_nv (by decide) rfl rfl) rfl) .nil))) .nil
  | @row z n st k lit cap F mx l l0 hz hB hF hl hn =>
    subst hl
    refine .cons (.ag (.cons (.sub (qad hz) rfl) (.cons (row_tab (qar hB (by simp)) rfl hF.symm ?_ hn) .nil))) .nil
    have := qsj (l0.take n.v.toNat)
    omega
theorem TabC.sub {cs : List SV} {mx : Int} {l : List Fd} (h : TabC [] cs mx l) : SubL [.ag cs] [tabV mx l] := by
  cases h with
  | v hz hF hn => exact .cons (qem (.cons (qad hz) (.cons (sub_v hF.symm hn) .nil))) .nil
  | nil hz => exact .cons (qem (.cons (qad hz) (.cons (sub_nv (by decide) rfl rfl) .nil))) .nil
  | row hz hB hF hl hn => simp [lget] at hB
theorem rowF {S : Sy} (hS : S0 Tryz.prog = S) {l : List Fd} {F : List SV} (hF : cellsF l = F) {q : Int} {a b : List UInt8} {K : SV → Prop} (hv : l[q.toNat]? = some (a, b)) (h0 : 0 ≤ q) (h : K (.ag [.s a, .s b])) : S.rd F q 2 0 2 true K :=
  s_rowp hS (enc := fdE) hF hv (fun _ => rfl) h0 (Nat.le_refl _) rfl h
theorem size_f {a b : List UInt8} {n : Int} (hn : n = szF (a, b)) (h : n ≤ 1000000000000000000) : (S0 Tryz.prog).call 136 [.ag [.s a, .s b]] [] (fun y _ => Sub y (.i .i64 (.y n))) := by
  generalize hS : S0 Tryz.prog = S
  have g1 := qsj a
  have g2 := qsj b
  have hn' : n = ilen a + ilen b + 32 := hn
  refine qaa hS I.qxj ?_
  cbv
  repeat' (first | (refine s_stl hS ?_; intro _ _; try cbv) | fail)
  refine qad ?_
  simp only [Z.v]; omega
end Tb
end Cz
namespace Cz
open Go Go.RowKit Go.Proofs
namespace Tb
theorem at_none {l : List Fd} {i : Int} (hi : i < 1 ∨ ilen l ≤ i - 21) : atR l i = (([], []), 90) := by
  unfold atR
  split
  · rfl
  · unfold allF
    unfold ilen at hi
    rw [List.getElem?_eq_none (by rw [List.length_append, qwc]; omega)]
end Tb
end Cz
namespace Cz
open Go Go.RowKit Go.Proofs
namespace Tb
theorem bidx_u {S : Sy} (hS : S0 Tryz.prog = S) {l : List Blk} {K : SV → List Blk → Prop} {x : List UInt8} {z : Z} {T : Int} (hT : idxI x z.v = T) (h : K (.i .i64 (.y T)) l) : S.call 177 [.s x, .i .u8 z] l K := by
  refine qaw hS (sv := .i .i64 (.y T)) (args' := [.s x, .i .u8 (.y z.v)]) ?_ (.cons .rfl (.cons (qad rfl) .nil)) rfl rfl h
  generalize hS : S0 Tryz.prog = S
  refine qaa hS I.qic ?_
  cbv
  refine qaw hS (idx_f x z.v) .rfl rfl rfl ?_
  rw [hT]
  cbv
  exact .rfl
theorem lidx_f (x : List UInt8) (c : UInt8) (hx : ilen x ≤ 140737488355328) : (S0 Tryz.prog).call 196 [.s x, .s [c]] [] (fun y _ => Sub y (.i .i64 (.y (idxI x c.toNat)))) := by
  generalize hT : idxI x c.toNat = T
  generalize hS : S0 Tryz.prog = S
  have h2 : S.sat [c] 0 = c.toNat := by subst hS; rfl
  refine qaa hS I.qkq ?_
  cbv
  refine qcz hS ?_ ?_ <;> intro h <;> cbv
  · exfalso; simp at h
  refine qcz hS ?_ ?_ <;> intro h <;> cbv
  · refine qad ?_
    rw [← h] at hT
    simp [idxI] at hT
    exact hT
  refine qcz hS ?_ ?_ <;> intro h <;> cbv
  · repeat' (first | (refine s_chl hS ?_; try cbv) | fail)
    refine bidx_u hS (T := T) (by rw [← hT]; exact congrArg (idxI x) h2) ?_
    cbv
    all_goals exact s_sA
  · exfalso; simp at h
theorem lidx_u {S : Sy} (hS : S0 Tryz.prog = S) {l : List Blk} {K : SV → List Blk → Prop} {x : List UInt8} {c : UInt8} {T : Int} (hx : ilen x ≤ 140737488355328) (hT : idxI x c.toNat = T) (h : K (.i .i64 (.y T)) l) : S.call 196 [.s x, .s [c]] l K := by
  subst hT
  exact qaw hS (lidx_f x c hx) .rfl rfl rfl h
theorem sidx_u {S : Sy} (hS : S0 Tryz.prog = S) {l : List Blk} {K : SV → List Blk → Prop} {x : List UInt8} {c : UInt8} {T : Int} (hx : ilen x ≤ 140737488355328) (hT : idxI x c.toNat = T) (h : K (.i .i64 (.y T)) l) : S.call 195 [.s x, .s [c]] l K := by
  refine qaw hS (sv := .i .i64 (.y T)) (args' := [.s x, .s [c]]) ?_ .rfl rfl rfl h
  generalize hS : S0 Tryz.prog = S
  refine qaa hS I.qqc ?_
  cbv
  refine lidx_u hS hx hT ?_
  cbv
  exact .rfl
def cutR (x : List UInt8) : Fd := if idxI x 32 < 0 then (x, []) else (x.take (idxI x 32).toNat, x.drop ((idxI x 32).toNat + 1))
theorem cut_f (x : List UInt8) {a b : List UInt8} (hr : cutR x = (a, b)) (hx : ilen x ≤ 140737488355328) (hi : idxI x 32 < ilen x) : ∃ t : Bool, (S0 Tryz.prog).call 174 [.s x, .s [32]] [] (fun y _ => Sub y (.tp [.s a, .s b, .b t])) := by
  obtain ⟨T, hT⟩ : ∃ T, idxI x 32 = T := ⟨_, rfl⟩
  unfold cutR at hr
  rw [hT] at hr hi
  obtain ⟨t, ht⟩ : ∃ t, t = decide (0 ≤ T) := ⟨_, rfl⟩
  refine ⟨t, ?_⟩
  generalize hS : S0 Tryz.prog = S
  refine qaa hS I.qus ?_
  cbv
  refine qaa hS I.qnc ?_
  cbv
  refine lidx_u hS (c := 32) hx hT ?_
  cbv
  refine qcz hS ?_ ?_ <;> intro h <;> cbv
  · rw [if_neg (by omega)] at hr
    have hc : ilen ([32] : List UInt8) = 1 := rfl
    have hc2 : (([32] : List UInt8).length : Int) = 1 := rfl
    have hx' : ilen x = x.length := rfl
    refine qaf hS rfl I.qjk (by decide +kernel) ?_
    cbv
    repeat' (first | (refine s_st hS ?_; try cbv) | (refine s_stl hS ?_; intro _ _; try cbv) | (refine s_chl hS ?_; try cbv) | fail)
    cases hr
    rename_i r hr
    have e : t = true := by rw [ht]; exact decide_eq_true h
    have e1 : S.ssub x 0 T = x.take T.toNat := by subst hS; rfl
    have e2 : S.ssub x r (S.slen x) = x.drop (T.toNat + 1) := by
      rw [hr, hc]
      subst hS
      show (x.take x.length).drop (T + 1).toNat = _
      rw [List.take_length, show (T + 1).toNat = T.toNat + 1 by omega]
    rw [← e1, ← e2]
    all_goals exact s_sA
  · rw [if_pos (by omega)] at hr
    cases hr
    have e : t = false := by rw [ht]; exact decide_eq_false h
    all_goals exact s_sA
theorem cut_u {S : Sy} (hS : S0 Tryz.prog = S) {l : List Blk} {K : SV → List Blk → Prop} {x a b : List UInt8} (hr : cutR x = (a, b)) (hx : ilen x ≤ 140737488355328) (hi : idxI x 32 < ilen x) (h : ∀ t, K (.tp [.s a, .s b, .b t]) l) : S.call 174 [.s x, .s [32]] l K := by
  obtain ⟨t, ht⟩ := cut_f x hr hx hi
  exact qaw hS ht .rfl rfl rfl (h t)
theorem line_at {j : Int} (h0 : 0 ≤ j) (h1 : j < 19) : ∃ (L a b : List UInt8), idxI (remT j.toNat) 10 = ilen L ∧ (remT j.toNat).take L.length = L ∧ (remT j.toNat).drop (L.length + 1) = remT (j + 1).toNat ∧ cutR L = (a, b) ∧ stL[j.toNat]? = some (a, b) ∧ ilen L ≤ 20 ∧ ilen (remT j.toNat) ≤ 300 ∧ idxI L 32 < ilen L ∧ ilen L < ilen (remT j.toNat) := by
  have h := line_facts ⟨j.toNat, by omega⟩
  dsimp only at h
  obtain ⟨e1, e2, e3, e4, e5, e6, e7, e8⟩ := h
  have hj : j.toNat < 19 := by omega
  rw [if_pos hj] at e1
  have hs : j.toNat < stL.length := by rw [qwc]; omega
  have hst : stL[j.toNat]? = some (stL.getD j.toNat ([], [])) := by rw [List.getD_eq_getElem?_getD, List.getElem?_eq_getElem hs]; rfl
  have hL : ilen (lineL.getD j.toNat []) < ilen (remT j.toNat) := by
    have := e3 hj
    have hd := congrArg List.length e2
    rw [List.length_take] at hd
    rcases Nat.lt_or_ge (lineL.getD j.toNat []).length (remT j.toNat).length with h | h
    · unfold ilen; omega
    · exfalso
      rw [List.drop_eq_nil_of_le (by omega)] at this
      have h2 : ∀ k : Fin 20, remT k.val ≠ [] := by decide +kernel
      exact h2 ⟨j.toNat + 1, by omega⟩ this.symm
  refine ⟨lineL.getD j.toNat [], (stL.getD j.toNat ([], [])).1, (stL.getD j.toNat ([], [])).2, e1, e2, ?_, ?_, hst, e6, e7, e8, hL⟩
  · rw [e3 hj]; congr 1; omega
  · unfold cutR
    by_cases h : idxI (lineL.getD j.toNat []) 32 < 0
    · rw [if_pos h] at e5 ⊢; rw [e5]
    · rw [if_neg h] at e5 ⊢; rw [e5]
theorem line_last {j : Int} (h1 : j = 19) : ∃ (a b : List UInt8), idxI (remT j.toNat) 10 = -1 ∧ cutR (remT j.toNat) = (a, b) ∧ stL[j.toNat]? = some (a, b) ∧ ilen (remT j.toNat) ≤ 300 ∧ idxI (remT j.toNat) 32 < ilen (remT j.toNat) := by
  subst h1
  exact ⟨[117, 115, 101, 114, 45, 97, 103, 101, 110, 116], [], by decide +kernel⟩
theorem at_i {l : List Fd} {i j : Int} {a b : List UInt8} (h0 : 0 ≤ j) (h : (allF l)[j.toNat]? = some (a, b)) (hi : i = j + 1) : atR l i = ((a, b), 0) := by
  unfold atR
  rw [if_neg (by omega), show (i - 1).toNat = j.toNat by omega, h]
theorem all_st {l : List Fd} {j : Int} {f : Fd} (h : stL[j.toNat]? = some f) : (allF l)[j.toNat]? = some f := by
  unfold allF
  have := (List.getElem?_eq_some_iff.1 h).1
  rw [List.getElem?_append_left this, h]
theorem all_row {l : List Fd} {j k : Int} (h0 : 0 ≤ j) (hk : k = j + 20) {f : Fd} (h : l[j.toNat]? = some f) : (allF l)[k.toNat]? = some f := by
  unfold allF
  rw [List.getElem?_append_right (by rw [qwc]; omega), qwc, show k.toNat - 20 = j.toNat by omega, h]
theorem at_f {mx i e : Int} {l : List Fd} {a b : List UInt8} (hr : atR l i = ((a, b), e)) (hm : ilen l ≤ 100000000) : (S0 Tryz.prog).call 154 [tabV mx l, .i .i64 (.y i)] [] (fun y _ => Sub y (.tp [.ag [.s a, .s b], .i .i64 (.y e)])) := by
  unfold tabV
  generalize hF : cellsF l = F
  obtain ⟨m, hm'⟩ : ∃ m, m = ilen l := ⟨_, rfl⟩
  have h0 := qsj l
  rw [← hm'] at h0 hm ⊢
  generalize hS : S0 Tryz.prog = S
  refine qaa hS I.qzabb ?_
  cbv
  refine qaa hS I.qsp ?_
  cbv
  refine qcb hS I.qoi ?_
  cbv
  refine qaa hS I.qlx ?_
  cbv
  refine qaa hS I.qlw ?_
  cbv
  refine qcb hS I.qjo ?_
  cbv
  refine qcz hS ?_ ?_ <;> intro h <;> cbv
  · exfalso; simp at h
  have hc : ilen ([10] : List UInt8) = 1 := rfl
  have hc2 : (([10] : List UInt8).length : Int) = 1 := rfl
  refine qyn hS 14 I.qhq (fun x : Int × List UInt8 => 0 ≤ x.1 ∧ x.1 ≤ 19 ∧ (i < 1 ∨ x.1 < i) ∧ x.2 = remT x.1.toNat) (fun _ => []) (fun x => [(8, .c [.i .i64 (.y x.1)]), (9, .c [.s x.2])]) (fun x => (19 - x.1).toNat) (0, remT 0) rfl
    ⟨⟨Int.le_refl _, by dsimp only; omega, by dsimp only; omega, rfl⟩, rfl, ?_, ?_, by cbv⟩ ?_
  · cbv; all_goals exact s_sA
  · cbv; all_goals exact s_bA
  intro x
  obtain ⟨j, s⟩ := x
  intro hx
  dsimp only at hx
  cbv
  obtain ⟨k0, k1, k2, k3⟩ := hx
  have hjj : j < 19 ∨ 19 ≤ j := by omega
  rcases hjj with hj | hj
  · obtain ⟨L, c, d, f1, f2, f3, f4, f5, f6, f7, f8, f9⟩ := line_at k0 hj
    rw [← k3] at f1 f2 f3 f7 f9
    refine sidx_u hS (c := 10) (by omega) f1 ?_
    generalize hn : ilen L = n at *
    have hn0 : 0 ≤ n := hn ▸ qsj L
    cbv
    repeat' (first | (refine s_st hS ?_; try cbv) | (refine qcz hS ?_ ?_ <;> intro h <;> (try cbv) <;> try exact s_ab h) | (refine s_sta hS ?_; intro _ _; try cbv) | (refine s_chl hS ?_; try cbv) | (refine qjh hS rfl rfl ?_; cbv) | fail)
    rename_i r1 hr1 j1 hj1
    have e1 : S.ssub s 0 r1 = L := by
      subst hS
      show (s.take r1.toNat).drop 0 = L
      rw [List.drop_zero, show r1.toNat = L.length by unfold ilen at hn; omega, f2]
    refine cut_u hS (x := S.ssub s 0 r1) (a := c) (b := d) (by rw [e1]; exact f4) (by rw [e1]; omega) (by rw [e1, hn]; exact f8) fun t => ?_
    cbv
    repeat' (first | (refine s_st hS ?_; try cbv) | (refine qcz hS ?_ ?_ <;> intro h <;> (try cbv) <;> try exact s_ab h) | (refine s_stl hS ?_; intro _ _; try cbv) | (refine s_chl hS ?_; try cbv) | (refine qjh hS rfl rfl ?_; cbv) | fail)
    · rename_i h
      rw [at_i k0 (all_st f5) (by omega)] at hr
      cases hr
      all_goals exact s_sA
    · rename_i h r2 hr2
      refine ⟨(j1, S.ssub s r2 (S.slen s)), by dsimp only; omega, ⟨by dsimp only; omega, by dsimp only; omega, by dsimp only; omega, ?_⟩, rfl, ?_, ?_, by cbv⟩
      · dsimp only
        rw [hj1, ← f3]
        subst hS
        show (s.take s.length).drop r2.toNat = _
        rw [List.take_length, show r2.toNat = L.length + 1 by unfold ilen at hn; omega]
      · cbv; all_goals exact s_sA
      · cbv; all_goals exact s_bA
  · obtain ⟨c, d, f1, f4, f5, f7, f8⟩ := line_last (j := j) (by omega)
    rw [← k3] at f1 f4 f7 f8
    refine sidx_u hS (c := 10) (by omega) f1 ?_
    cbv
    refine s_br hS ?_ ?_ <;> intro h' <;> cbv <;> simp only [← hS, Int.ofNat_eq_natCast, cq, Bool.not_eq_true', Bool.not_eq_false', decide_eq_true_eq, decide_eq_false_iff_not, beq_iff_eq, beq_eq_false_iff_ne, ne_eq] at h'
    · repeat' (first | (refine s_sta hS ?_; intro _ _; try cbv) | (refine qjh hS rfl rfl ?_; cbv) | fail)
      refine cut_u hS (a := c) (b := d) f4 (by omega) f8 fun t => ?_
      cbv
      repeat' (first | (refine qcz hS ?_ ?_ <;> intro h <;> (try cbv) <;> try exact s_ab h) | (refine qjh hS rfl rfl ?_; cbv) | fail)
      · rename_i h
        rw [at_i k0 (all_st f5) (by omega)] at hr
        cases hr
        all_goals exact s_sA
      · rename_i j1 hj1
        refine qyn hS 15 I.qjt (fun x : Int × Int => 0 ≤ x.1 ∧ x.1 ≤ m ∧ x.2 = x.1 + 20 ∧ (i < 1 ∨ x.2 < i)) (fun x => [(29, .i .i64 (.y x.1))]) (fun x => [(8, .c [.i .i64 (.y x.2)])]) (fun x => (m - x.1).toNat) (0, j1) rfl
          ⟨⟨Int.le_refl _, by dsimp only; omega, by dsimp only; omega, by dsimp only; omega⟩, rfl, ?_, ?_, by cbv⟩ ?_
        · cbv; all_goals exact s_sA
        · cbv; all_goals exact s_bA
        intro x
        obtain ⟨q, u⟩ := x
        intro hx
        dsimp only at hx
        cbv
        obtain ⟨q0, q1, q2, q3⟩ := hx
        refine qcz hS ?_ ?_ <;> intro h <;> cbv
        · obtain ⟨⟨v, w⟩, hp⟩ := at_ex (l := l) (i := q) (by omega) q0
          repeat' (first | (refine s_st hS ?_; try cbv) | (refine qcz hS ?_ ?_ <;> intro h <;> (try cbv) <;> try exact s_ab h) | (refine s_sta hS ?_; intro _ _; try cbv) | (refine qjh hS rfl rfl ?_; cbv) | (refine rowF hS hF hp (by omega) ?_; cbv) | fail)
          · rw [at_i (j := u) (by omega) (all_row q0 q2 hp) (by omega)] at hr
            cases hr
            all_goals exact s_sA
          · rename_i u1 hu1 q4 hq4
            refine ⟨(q4, u1), by dsimp only; omega, ⟨by dsimp only; omega, by dsimp only; omega, by dsimp only; omega, by dsimp only; omega⟩, rfl, ?_, ?_, by cbv⟩
            · cbv; all_goals exact s_sA
            · cbv; all_goals exact s_bA
        · skip
          rw [at_none (by omega)] at hr
          cases hr
          all_goals exact s_sA
    · omega
end Tb
end Cz
namespace Cz
open Go Go.RowKit Go.Proofs
namespace Fa
theorem at_6 : (S0 Tryz.prog).call 154 [.ag [.i .i64 (.l 4096), .v true 2 [] (.l 0)], .i .i64 (.l 6)] [] (fun x _ => Sub x (.tp [.ag [.s [58, 115, 116, 97, 116, 117, 115], .s [50, 48, 48]], .i .i64 (.l 0)])) := by
  refine qra (args' := [Tb.tabV 4096 [], .i .i64 (.y 6)]) (.cons (qem (.cons (qad rfl) (.cons (sub_v rfl rfl) .nil))) (.cons (qad rfl) .nil)) (qft (Tb.at_f (mx := 4096) (i := 6) (l := []) (e := 0) (a := [58, 115, 116, 97, 116, 117, 115]) (b := [50, 48, 48]) (by decide +kernel) (by decide)) fun x l' h => ⟨x, .rfl, h.trans (qed (.cons .rfl (.cons (qad rfl) .nil)))⟩)
theorem at_6u {S : Sy} {bl : List Blk} {K : SV → List Blk → Prop} (hS : S0 Tryz.prog = S) {args : List SV} (ha : FzL bl id [] args [.ag [.i .i64 (.l 4096), .v true 2 [] (.l 0)], .i .i64 (.l 6)]) (hK : K (.tp [.ag [.s [58, 115, 116, 97, 116, 117, 115], .s [50, 48, 48]], .i .i64 (.l 0)]) bl) : S.call 154 args bl K := qfj hS at_6 ha rfl rfl hK
theorem ptake : (S0 Tryz.prog).call 153 [.v true 1 [.i .u8 (.l 134)] (.l 1), .i .i64 (.l 7)] [] (Tell (.tp [.i .i64 (.l 6), .v true 1 [] (.l 0), .i .i64 (.l 0)])) := by
  generalize hS : S0 Tryz.prog = S
  refine qaa hS I.qut ?_
  cbv
  repeat' (first | (refine qdo hS ?_; cbv) | (refine qbz hS ?_; cbv) | (refine qaa hS I.qao ?_; cbv) | (refine qaa hS I.qsr ?_; cbv) | (refine qji hS (fun _ => ?_) ?_ <;> cbv) | fail)
  all_goals
    intro g
    repeat' (first | exact .nil | refine .cons ?_ ?_ | (refine .tp ?_) | (refine .ag ?_) | exact .sub .rfl rfl | exact .sub (qad rfl) rfl | exact .nil (by decide) rfl | exact qag rfl rfl rfl rfl rfl | fail)
theorem right_e : (S0 Tryz.prog).call 132 [.ag [.i .i64 (.l 4096), .v true 2 [] (.l 0)]] [] (fun x _ => Sub x .tt) := by
  generalize hS : S0 Tryz.prog = S
  refine qaa hS I.qkz ?_
  cbv
  repeat' (first | (refine qac hS ?_; cbv) | (refine qaa hS I.qnb ?_; cbv) | (refine qaf hS rfl I.qhx (by decide +kernel) ?_; cbv) | fail)
  all_goals exact .rfl
theorem resize_e : (S0 Tryz.prog).call 133 [.ag [.i .i64 (.l 4096), .v true 2 [] (.l 0)], .i .i64 (.l 4096)] [] (Tell (.tp [.ag [.i .i64 (.l 4096), .v true 2 [] (.l 0)], .i .i64 (.l 0)])) := by
  generalize hS : S0 Tryz.prog = S
  refine qaa hS I.qsq ?_
  cbv
  repeat' (first | (refine qac hS ?_; cbv) | (refine qaa hS I.qhg ?_; cbv) | (refine qaa hS I.qcj ?_; cbv) | (refine qaa hS I.qkz ?_; cbv) | (refine qaa hS I.qnb ?_; cbv) | (refine qaa hS I.qur ?_; cbv) | (refine qaf hS rfl I.qhx (by decide +kernel) ?_; cbv) | (refine qji hS (fun _ => ?_) ?_ <;> cbv) | fail)
  all_goals
    intro g
    repeat' (first | exact .nil | refine .cons ?_ ?_ | (refine .tp ?_) | (refine .ag ?_) | exact .sub .rfl rfl | exact .sub (qad rfl) rfl | exact .nil (by decide) rfl | exact qag rfl rfl rfl rfl rfl | fail)
theorem next_h : (S0 Tryz.prog).call 148 [.ag [.i .i64 (.l 4096), .v true 2 [] (.l 0)], .v true 1 [.i .u8 (.l 134)] (.l 1)] [] (Tell (.tp [.ag [.s [58, 115, 116, 97, 116, 117, 115], .s [50, 48, 48], .ff, .ff, .i .i64 (.l 0), .v true 1 [] (.l 0)], .i .i64 (.l 0)])) := by
  generalize hS : S0 Tryz.prog = S
  refine qaa hS I.quq ?_
  cbv
  repeat' (first | (refine qdo hS ?_; cbv) | (refine qbz hS ?_; cbv) | (refine qac hS ?_; cbv) | (refine at_6u hS ?_ ?_; (focus ((repeat' (first | exact .nil | refine .cons ?_ ?_ | (refine .ag ?_) | exact .sub .rfl rfl | exact .sub (qad rfl) rfl | exact .nil (by decide) rfl | exact qag rfl rfl rfl rfl rfl | fail)); done)); cbv) | (refine qap hS ptake (.cons .rfl (.cons (qad rfl) .nil)) rfl ?_; cbv) | fail)
  all_goals
    intro g
    repeat' (first | exact .nil | refine .cons ?_ ?_ | (refine .tp ?_) | (refine .ag ?_) | exact .sub .rfl rfl | exact .sub (qad rfl) rfl | exact .nil (by decide) rfl | exact qag rfl rfl rfl rfl rfl | fail)
end Fa
end Cz
namespace Cz
open Go Go.RowKit Go.Proofs
namespace Fa
theorem size_hu {S : Sy} {bl : List Blk} {K : SV → List Blk → Prop} (hS : S0 Tryz.prog = S) (hK : K (.i .i64 (.l 42)) bl) : S.call 136 [.ag [.s [58, 115, 116, 97, 116, 117, 115], .s [50, 48, 48]]] bl K :=
  qaw hS (call_lit (Tb.size_f (n := 42) (by decide) (by decide))) .rfl rfl rfl hK
theorem unb : (S0 Tryz.prog).call 111 [.ag [.i .i64 (.l 4096), .v true 2 [] (.l 0)], .i .i64 (.l 4096), .v true 1 [.i .u8 (.l 134)] (.l 1)] [] (Tell (.tp [.ag [.v true 2 [.s [58, 115, 116, 97, 116, 117, 115], .s [50, 48, 48]] (.l 1), .ff, .i .i64 (.l 4096), .v true 2 [] (.l 0)], .i .i64 (.l 0)])) := by
  generalize hS : S0 Tryz.prog = S
  refine qaa hS I.qso ?_
  cbv
  repeat' (first | (refine qac hS ?_; cbv) | (refine qjh hS rfl rfl ?_; cbv) | (refine size_hu hS ?_; cbv) | (refine qfj hS right_e ?_ rfl rfl ?_; (focus ((repeat' (first | exact .nil | refine .cons ?_ ?_ | (refine .ag ?_) | exact .sub .rfl rfl | exact .sub (qad rfl) rfl | exact .nil (by decide) rfl | exact qag rfl rfl rfl rfl rfl | fail)); done)); cbv) | (refine qap hS resize_e ?_ rfl ?_; (focus ((repeat' (first | exact .nil | refine .cons ?_ ?_ | exact .rfl | exact qad rfl | (refine qem ?_) | fail)); done)); cbv) | (refine qap hS next_h ?_ rfl ?_; (focus ((repeat' (first | exact .nil | refine .cons ?_ ?_ | exact .rfl | exact qad rfl | (refine qem ?_) | fail)); done)); cbv) | (refine qaa hS I.qsn ?_; cbv) | (refine qcb hS I.qoh ?_; cbv) | (refine qaf hS rfl I.qmm (by decide +kernel) ?_; cbv) | (refine qim hS rfl I.qke (by decide +kernel) ?_; cbv; (repeat' (refine And.intro ?_ ?_)) <;> cbv) | fail)
  all_goals
    intro g
    repeat' (first | exact .nil | refine .cons ?_ ?_ | (refine .tp ?_) | (refine .ag ?_) | exact .sub .rfl rfl | exact .sub (qad rfl) rfl | exact .nil (by decide) rfl | exact qag rfl rfl rfl rfl rfl | fail)
  all_goals trace_state
  all_goals sorry
end Fa
end Cz
namespace Cz
open Go Go.RowKit Go.Proofs
namespace Fa
theorem s_rdb {S : Sy} (hS : S0 Tryz.prog = S) {x : List UInt8} {i : Int} {c : UInt8} {K : SV → Prop} (hc : x[i.toNat]? = some c) (hi : 0 ≤ i) (h : K (.i .u8 (.y c.toNat))) : S.rd (S.sb x) i 1 0 1 false K := by
  subst hS
  have hl := (List.getElem?_eq_some_iff.1 hc).1
  refine s_rd rfl hi (by show _ ≤ (x.map _).length; rw [List.length_map]; omega) (by omega) (v := .i .u8 (.y c.toNat)) ?_ h
  show mkv false (((x.map fun c => SV.i .u8 (.y (c.toNat : Int))).drop (i.toNat * 1 + 0)).take 1) = _
  rw [Nat.mul_one, Nat.add_zero, List.drop_eq_getElem_cons (by rw [List.length_map]; exact hl), List.getElem_map, (List.getElem?_eq_some_iff.1 hc).2]
  rfl
theorem both {A B G : Prop} (a : G → A) (b : G → B) (g : G) : A ∧ B := ⟨a g, b g⟩
theorem s_brn {S : Sy} {op : BK} {a b : Int} {k1 k2 : Unit → Prop} (hS : S0 Tryz.prog = S) (h : if op.cmpLit a b = true then k2 () else k1 ()) (hd : decide (a = a ∧ b = b) = true := by decide) : S.br (S.nt (S.cmp op a b)) k1 k2 := by
  subst hS
  rw [show (S0 Tryz.prog).nt ((S0 Tryz.prog).cmp op a b) = !op.cmpLit a b by cases op <;> rfl]
  cases hc : op.cmpLit a b with
  | true => rw [hc, if_pos rfl] at h; exact ⟨fun e => (by cases e), fun _ => h⟩
  | false => rw [hc, if_neg (by simp)] at h; exact ⟨fun _ => h, fun e => (by cases e)⟩
theorem s_brm {S : Sy} {op : BK} {a b : Int} {k1 k2 : Unit → Prop} (hS : S0 Tryz.prog = S) (h : if op.cmpLit a b = true then k1 () else k2 ()) (hd : decide (a = a ∧ b = b) = true := by decide) : S.br (S.nt (S.nt (S.cmp op a b))) k1 k2 := by
  subst hS
  rw [show (S0 Tryz.prog).nt ((S0 Tryz.prog).nt ((S0 Tryz.prog).cmp op a b)) = op.cmpLit a b by show (!!BK.cmpLit op a b) = _; rw [Bool.not_not]]
  cases hc : op.cmpLit a b with
  | true => rw [hc, if_pos rfl] at h; exact ⟨fun _ => h, fun e => (by cases e)⟩
  | false => rw [hc, if_neg (by simp)] at h; exact ⟨fun e => (by cases e), fun _ => h⟩
theorem s_brs {S : Sy} {op : BK} {a : Int} {x : List UInt8} {k1 k2 : Unit → Prop} (hS : S0 Tryz.prog = S) (h : if op.cmpLit a x.length = true then k1 () else k2 ()) (hd : decide (a = a ∧ x = x) = true := by decide) : S.br (S.cmp op a (S.slen x)) k1 k2 := by
  subst hS
  rw [show (S0 Tryz.prog).cmp op a ((S0 Tryz.prog).slen x) = op.cmpLit a x.length by cases op <;> rfl]
  cases hc : op.cmpLit a x.length with
  | true => rw [hc, if_pos rfl] at h; exact ⟨fun _ => h, fun e => (by cases e)⟩
  | false => rw [hc, if_neg (by simp)] at h; exact ⟨fun e => (by cases e), fun _ => h⟩
theorem s_brs' {S : Sy} {op : BK} {a : Int} {x : List UInt8} {k1 k2 : Unit → Prop} (hS : S0 Tryz.prog = S) (h : if op.cmpLit x.length a = true then k1 () else k2 ()) (hd : decide (a = a ∧ x = x) = true := by decide) : S.br (S.cmp op (S.slen x) a) k1 k2 := by
  subst hS
  rw [show (S0 Tryz.prog).cmp op ((S0 Tryz.prog).slen x) a = op.cmpLit x.length a by cases op <;> rfl]
  cases hc : op.cmpLit x.length a with
  | true => rw [hc, if_pos rfl] at h; exact ⟨fun _ => h, fun e => (by cases e)⟩
  | false => rw [hc, if_neg (by simp)] at h; exact ⟨fun e => (by cases e), fun _ => h⟩
theorem answer_h : (S0 Tryz.prog).call 112 [.v true 2 [.s [58, 115, 116, 97, 116, 117, 115], .s [50, 48, 48]] (.l 1)] [] (fun x _ => Sub x .tt) := by
  generalize hS : S0 Tryz.prog = S
  refine qaa hS I.qxk ?_
  cbv
  repeat' (first | (refine qdo hS ?_; cbv) | (refine s_brs hS ?_; cbv) | (refine s_brs' hS ?_; cbv) | (refine s_ck hS ?_; try cbv) | (refine qcz hS ?_ ?_ <;> intro h <;> (try cbv) <;> try exact s_ab h) | (refine qac hS ?_; cbv) | (refine s_rdb hS rfl (by decide) ?_; cbv) | (refine qaa hS I.qdc ?_; cbv) | (refine qaa hS I.qdq ?_; cbv) | fail)
  all_goals exact .rfl
section
variable {S : Sy} {bl : List Blk} {K : SV → List Blk → Prop}
theorem unb_u (hS : S0 Tryz.prog = S) {k : Nat} {a b : SV} {o n : Z} {c : Option Z} (ha : FzL bl id (others [k] (len bl)) [a, b, .sl k 1 o n c] [.ag [.i .i64 (.l 4096), .v true 2 [] (.l 0)], .i .i64 (.l 4096), .v true 1 [.i .u8 (.l 134)] (.l 1)])
    (hK : K (.tp [.ag [.v true 2 [.s [58, 115, 116, 97, 116, 117, 115], .s [50, 48, 48]] (.l 1), .ff, .i .i64 (.l 4096), .v true 2 [] (.l 0)], .i .i64 (.l 0)]) (frzL [k] 0 bl)) : S.call 111 [a, b, .sl k 1 o n c] bl K := use_frz_t hS [k] unb ha rfl hK
theorem answer_u (hS : S0 Tryz.prog = S) (hK : K .tt bl) : S.call 112 [.v true 2 [.s [58, 115, 116, 97, 116, 117, 115], .s [50, 48, 48]] (.l 1)] bl K := qaw hS answer_h .rfl rfl rfl hK
end
end Fa
end Cz
namespace Cz
open Go Go.RowKit Go.Proofs
namespace Fa
theorem oct_sah : (S0 Tryz.prog).call 38 [.v true 1 [.i .u8 (.l 0), .i .u8 (.l 0), .i .u8 (.l 0), .i .u8 (.l 4), .i .u8 (.l 0), .i .u8 (.l 0), .i .u8 (.l 0), .i .u8 (.l 0), .i .u8 (.l 0), .i .u8 (.l 0), .i .u8 (.l 0), .i .u8 (.l 0), .i .u8 (.l 4), .i .u8 (.l 1), .i .u8 (.l 0), .i .u8 (.l 0), .i .u8 (.l 0), .i .u8 (.l 0), .i .u8 (.l 0), .i .u8 (.l 0), .i .u8 (.l 1), .i .u8 (.l 1), .i .u8 (.l 4), .i .u8 (.l 0), .i .u8 (.l 0), .i .u8 (.l 0), .i .u8 (.l 1), .i .u8 (.l 134)] (.l 28), .i .i64 (.l 0), .i .i64 (.l 3)] [] (fun x _ => Sub x (.tp [.i .i64 (.l 0), .i .i64 (.l 0)])) := by
  generalize hS : S0 Tryz.prog = S
  refine qaa hS I.qah ?_
  cbv
  repeat' (first | (refine qbz hS ?_; cbv) | (refine qdr hS ?_; cbv) | (refine qac hS ?_; cbv) | (refine qaa hS I.qae ?_; cbv) | fail)
  all_goals exact qed (.cons (qad rfl) (.cons (qad rfl) .nil))
theorem ocs_sah : (S0 Tryz.prog).call 109 [.v true 1 [.i .u8 (.l 0), .i .u8 (.l 0), .i .u8 (.l 0), .i .u8 (.l 4), .i .u8 (.l 0), .i .u8 (.l 0), .i .u8 (.l 0), .i .u8 (.l 0), .i .u8 (.l 0), .i .u8 (.l 0), .i .u8 (.l 0), .i .u8 (.l 0), .i .u8 (.l 4), .i .u8 (.l 1), .i .u8 (.l 0), .i .u8 (.l 0), .i .u8 (.l 0), .i .u8 (.l 0), .i .u8 (.l 0), .i .u8 (.l 0), .i .u8 (.l 1), .i .u8 (.l 1), .i .u8 (.l 4), .i .u8 (.l 0), .i .u8 (.l 0), .i .u8 (.l 0), .i .u8 (.l 1), .i .u8 (.l 134)] (.l 28), .i .i64 (.l 5)] [] (fun x _ => Sub x (.tp [.i .i64 (.l 0), .i .i64 (.l 0)])) := by
  generalize hS : S0 Tryz.prog = S
  refine qaa hS I.qbr ?_
  cbv
  repeat' (first | (refine qbz hS ?_; cbv) | (refine qdr hS ?_; cbv) | (refine qac hS ?_; cbv) | (refine qaa hS I.qah ?_; cbv) | (refine qaa hS I.qae ?_; cbv) | fail)
  all_goals exact qed (.cons (qad rfl) (.cons (qad rfl) .nil))
theorem whole_sah : (S0 Tryz.prog).call 37 [.v true 1 [.i .u8 (.l 0), .i .u8 (.l 0), .i .u8 (.l 0), .i .u8 (.l 4), .i .u8 (.l 0), .i .u8 (.l 0), .i .u8 (.l 0), .i .u8 (.l 0), .i .u8 (.l 0), .i .u8 (.l 0), .i .u8 (.l 0), .i .u8 (.l 0), .i .u8 (.l 4), .i .u8 (.l 1), .i .u8 (.l 0), .i .u8 (.l 0), .i .u8 (.l 0), .i .u8 (.l 0), .i .u8 (.l 0), .i .u8 (.l 0), .i .u8 (.l 1), .i .u8 (.l 1), .i .u8 (.l 4), .i .u8 (.l 0), .i .u8 (.l 0), .i .u8 (.l 0), .i .u8 (.l 1), .i .u8 (.l 134)] (.l 28)] [] (Kept [(1, [.i .u8 (.l 0), .i .u8 (.l 0), .i .u8 (.l 0), .i .u8 (.l 4), .i .u8 (.l 1), .i .u8 (.l 0), .i .u8 (.l 0), .i .u8 (.l 0), .i .u8 (.l 0), .i .u8 (.l 0), .i .u8 (.l 0), .i .u8 (.l 1), .i .u8 (.l 1), .i .u8 (.l 4), .i .u8 (.l 0), .i .u8 (.l 0), .i .u8 (.l 0), .i .u8 (.l 1), .i .u8 (.l 134)])] (fun m => .tp [.ag [.i .i64 (.l 0), .i .u8 (.l 4), .i .u8 (.l 0), .i .i64 (.l 0)], .v true 1 [] (.l 0), .sl m 1 (.l 0) (.l 19) none, .i .i64 (.l 0)])) := by
  generalize hS : S0 Tryz.prog = S
  refine qaa hS I.qcc ?_
  cbv
  repeat' (first | (refine s_nl hS ?_; cbv) | (refine qaw hS oct_sah .rfl rfl rfl ?_; cbv) | (refine qaw hS ocs_sah .rfl rfl rfl ?_; cbv) | (refine qaa hS I.qao ?_; cbv) | (refine qaa hS I.qcm ?_; cbv) | (refine qaf hS rfl I.qbq (by decide +kernel) ?_; cbv) | (refine qaf hS rfl I.qbp (by decide +kernel) ?_; cbv) | (refine qaf hS rfl I.qbj (by decide +kernel) ?_; cbv) | (refine qji hS (fun _ => ?_) ?_ <;> cbv) | fail)
  all_goals first
    | (refine ⟨[some 3], ⟨⟨_, _, _, rfl, FSub.rfl⟩, rfl, trivial⟩, fun m => ?_⟩; (repeat' (first | exact .nil | refine .cons ?_ ?_ | (refine .tp ?_) | (refine .ag ?_) | exact .keep (i := 0) rfl rfl rfl | exact .nilk (i := 0) rfl rfl rfl | exact .sub .rfl rfl | exact .sub (qad rfl) rfl | exact .nil (by decide) rfl | exact qag rfl rfl rfl rfl rfl | fail)); done)
    | (refine ⟨[some 4], ⟨⟨_, _, _, rfl, FSub.rfl⟩, rfl, trivial⟩, fun m => ?_⟩; (repeat' (first | exact .nil | refine .cons ?_ ?_ | (refine .tp ?_) | (refine .ag ?_) | exact .keep (i := 0) rfl rfl rfl | exact .nilk (i := 0) rfl rfl rfl | exact .sub .rfl rfl | exact .sub (qad rfl) rfl | exact .nil (by decide) rfl | exact qag rfl rfl rfl rfl rfl | fail)); done)
    | (refine ⟨[some 2], ⟨⟨_, _, _, rfl, FSub.rfl⟩, rfl, trivial⟩, fun m => ?_⟩; (repeat' (first | exact .nil | refine .cons ?_ ?_ | (refine .tp ?_) | (refine .ag ?_) | exact .keep (i := 0) rfl rfl rfl | exact .nilk (i := 0) rfl rfl rfl | exact .sub .rfl rfl | exact .sub (qad rfl) rfl | exact .nil (by decide) rfl | exact qag rfl rfl rfl rfl rfl | fail)); done)
    | (refine ⟨[some 5], ⟨⟨_, _, _, rfl, FSub.rfl⟩, rfl, trivial⟩, fun m => ?_⟩; (repeat' (first | exact .nil | refine .cons ?_ ?_ | (refine .tp ?_) | (refine .ag ?_) | exact .keep (i := 0) rfl rfl rfl | exact .nilk (i := 0) rfl rfl rfl | exact .sub .rfl rfl | exact .sub (qad rfl) rfl | exact .nil (by decide) rfl | exact qag rfl rfl rfl rfl rfl | fail)); done)
theorem whole_sahu {S : Sy} {bl : List Blk} {K : SV → List Blk → Prop} (hS : S0 Tryz.prog = S) {k : Nat} {o n : Z} {c : Option Z} (ha : FzL bl id (others [k] (len bl)) [.sl k 1 o n c] [.v true 1 [.i .u8 (.l 0), .i .u8 (.l 0), .i .u8 (.l 0), .i .u8 (.l 4), .i .u8 (.l 0), .i .u8 (.l 0), .i .u8 (.l 0), .i .u8 (.l 0), .i .u8 (.l 0), .i .u8 (.l 0), .i .u8 (.l 0), .i .u8 (.l 0), .i .u8 (.l 4), .i .u8 (.l 1), .i .u8 (.l 0), .i .u8 (.l 0), .i .u8 (.l 0), .i .u8 (.l 0), .i .u8 (.l 0), .i .u8 (.l 0), .i .u8 (.l 1), .i .u8 (.l 1), .i .u8 (.l 4), .i .u8 (.l 0), .i .u8 (.l 0), .i .u8 (.l 0), .i .u8 (.l 1), .i .u8 (.l 134)] (.l 28)]) (hK : ∀ st, K (.tp [.ag [.i .i64 (.l 0), .i .u8 (.l 4), .i .u8 (.l 0), .i .i64 (.l 0)], .v true 1 [] (.l 0), .sl (len bl) 1 (.l 0) (.l 19) none, .i .i64 (.l 0)]) (litsL (snoc (frzL [k] 0 bl) (.r false false (.y st) 1 [.i .u8 (.l 0), .i .u8 (.l 0), .i .u8 (.l 0), .i .u8 (.l 4), .i .u8 (.l 1), .i .u8 (.l 0), .i .u8 (.l 0), .i .u8 (.l 0), .i .u8 (.l 0), .i .u8 (.l 0), .i .u8 (.l 0), .i .u8 (.l 1), .i .u8 (.l 1), .i .u8 (.l 4), .i .u8 (.l 0), .i .u8 (.l 0), .i .u8 (.l 0), .i .u8 (.l 1), .i .u8 (.l 134)])))) : S.call 37 [.sl k 1 o n c] bl K :=
  qgg hS [k] whole_sah ha rfl ⟨⟨by decide, rfl⟩, trivial⟩ fun sts => hK _
end Fa
end Cz
namespace Cz
open Go Go.RowKit Go.Proofs
namespace Fa
theorem oct_ah : (S0 Tryz.prog).call 38 [.v true 1 [.i .u8 (.l 0), .i .u8 (.l 0), .i .u8 (.l 0), .i .u8 (.l 4), .i .u8 (.l 1), .i .u8 (.l 0), .i .u8 (.l 0), .i .u8 (.l 0), .i .u8 (.l 0), .i .u8 (.l 0), .i .u8 (.l 0), .i .u8 (.l 1), .i .u8 (.l 1), .i .u8 (.l 4), .i .u8 (.l 0), .i .u8 (.l 0), .i .u8 (.l 0), .i .u8 (.l 1), .i .u8 (.l 134)] (.l 19), .i .i64 (.l 0), .i .i64 (.l 3)] [] (fun x _ => Sub x (.tp [.i .i64 (.l 0), .i .i64 (.l 0)])) := by
  generalize hS : S0 Tryz.prog = S
  refine qaa hS I.qah ?_
  cbv
  repeat' (first | (refine qbz hS ?_; cbv) | (refine qdr hS ?_; cbv) | (refine qac hS ?_; cbv) | (refine qaa hS I.qae ?_; cbv) | fail)
  all_goals exact qed (.cons (qad rfl) (.cons (qad rfl) .nil))
theorem ocs_ah : (S0 Tryz.prog).call 109 [.v true 1 [.i .u8 (.l 0), .i .u8 (.l 0), .i .u8 (.l 0), .i .u8 (.l 4), .i .u8 (.l 1), .i .u8 (.l 0), .i .u8 (.l 0), .i .u8 (.l 0), .i .u8 (.l 0), .i .u8 (.l 0), .i .u8 (.l 0), .i .u8 (.l 1), .i .u8 (.l 1), .i .u8 (.l 4), .i .u8 (.l 0), .i .u8 (.l 0), .i .u8 (.l 0), .i .u8 (.l 1), .i .u8 (.l 134)] (.l 19), .i .i64 (.l 5)] [] (fun x _ => Sub x (.tp [.i .i64 (.l 0), .i .i64 (.l 0)])) := by
  generalize hS : S0 Tryz.prog = S
  refine qaa hS I.qbr ?_
  cbv
  repeat' (first | (refine qbz hS ?_; cbv) | (refine qdr hS ?_; cbv) | (refine qac hS ?_; cbv) | (refine qaa hS I.qah ?_; cbv) | (refine qaa hS I.qae ?_; cbv) | fail)
  all_goals exact qed (.cons (qad rfl) (.cons (qad rfl) .nil))
theorem whole_ah : (S0 Tryz.prog).call 37 [.v true 1 [.i .u8 (.l 0), .i .u8 (.l 0), .i .u8 (.l 0), .i .u8 (.l 4), .i .u8 (.l 1), .i .u8 (.l 0), .i .u8 (.l 0), .i .u8 (.l 0), .i .u8 (.l 0), .i .u8 (.l 0), .i .u8 (.l 0), .i .u8 (.l 1), .i .u8 (.l 1), .i .u8 (.l 4), .i .u8 (.l 0), .i .u8 (.l 0), .i .u8 (.l 0), .i .u8 (.l 1), .i .u8 (.l 134)] (.l 19)] [] (Kept [(1, [.i .u8 (.l 0), .i .u8 (.l 0), .i .u8 (.l 1), .i .u8 (.l 1), .i .u8 (.l 4), .i .u8 (.l 0), .i .u8 (.l 0), .i .u8 (.l 0), .i .u8 (.l 1), .i .u8 (.l 134)])] (fun m => .tp [.ag [.i .i64 (.l 0), .i .u8 (.l 4), .i .u8 (.l 1), .i .i64 (.l 0)], .v true 1 [] (.l 0), .sl m 1 (.l 0) (.l 10) none, .i .i64 (.l 0)])) := by
  generalize hS : S0 Tryz.prog = S
  refine qaa hS I.qcc ?_
  cbv
  repeat' (first | (refine s_nl hS ?_; cbv) | (refine qaw hS oct_ah .rfl rfl rfl ?_; cbv) | (refine qaw hS ocs_ah .rfl rfl rfl ?_; cbv) | (refine qaa hS I.qao ?_; cbv) | (refine qaa hS I.qcm ?_; cbv) | (refine qaf hS rfl I.qbq (by decide +kernel) ?_; cbv) | (refine qaf hS rfl I.qbp (by decide +kernel) ?_; cbv) | (refine qaf hS rfl I.qbj (by decide +kernel) ?_; cbv) | (refine qji hS (fun _ => ?_) ?_ <;> cbv) | fail)
  all_goals first
    | (refine ⟨[some 3], ⟨⟨_, _, _, rfl, FSub.rfl⟩, rfl, trivial⟩, fun m => ?_⟩; (repeat' (first | exact .nil | refine .cons ?_ ?_ | (refine .tp ?_) | (refine .ag ?_) | exact .keep (i := 0) rfl rfl rfl | exact .nilk (i := 0) rfl rfl rfl | exact .sub .rfl rfl | exact .sub (qad rfl) rfl | exact .nil (by decide) rfl | exact qag rfl rfl rfl rfl rfl | fail)); done)
    | (refine ⟨[some 4], ⟨⟨_, _, _, rfl, FSub.rfl⟩, rfl, trivial⟩, fun m => ?_⟩; (repeat' (first | exact .nil | refine .cons ?_ ?_ | (refine .tp ?_) | (refine .ag ?_) | exact .keep (i := 0) rfl rfl rfl | exact .nilk (i := 0) rfl rfl rfl | exact .sub .rfl rfl | exact .sub (qad rfl) rfl | exact .nil (by decide) rfl | exact qag rfl rfl rfl rfl rfl | fail)); done)
    | (refine ⟨[some 2], ⟨⟨_, _, _, rfl, FSub.rfl⟩, rfl, trivial⟩, fun m => ?_⟩; (repeat' (first | exact .nil | refine .cons ?_ ?_ | (refine .tp ?_) | (refine .ag ?_) | exact .keep (i := 0) rfl rfl rfl | exact .nilk (i := 0) rfl rfl rfl | exact .sub .rfl rfl | exact .sub (qad rfl) rfl | exact .nil (by decide) rfl | exact qag rfl rfl rfl rfl rfl | fail)); done)
    | (refine ⟨[some 5], ⟨⟨_, _, _, rfl, FSub.rfl⟩, rfl, trivial⟩, fun m => ?_⟩; (repeat' (first | exact .nil | refine .cons ?_ ?_ | (refine .tp ?_) | (refine .ag ?_) | exact .keep (i := 0) rfl rfl rfl | exact .nilk (i := 0) rfl rfl rfl | exact .sub .rfl rfl | exact .sub (qad rfl) rfl | exact .nil (by decide) rfl | exact qag rfl rfl rfl rfl rfl | fail)); done)
theorem whole_ahu {S : Sy} {bl : List Blk} {K : SV → List Blk → Prop} (hS : S0 Tryz.prog = S) {k : Nat} {o n : Z} {c : Option Z} (ha : FzL bl id (others [k] (len bl)) [.sl k 1 o n c] [.v true 1 [.i .u8 (.l 0), .i .u8 (.l 0), .i .u8 (.l 0), .i .u8 (.l 4), .i .u8 (.l 1), .i .u8 (.l 0), .i .u8 (.l 0), .i .u8 (.l 0), .i .u8 (.l 0), .i .u8 (.l 0), .i .u8 (.l 0), .i .u8 (.l 1), .i .u8 (.l 1), .i .u8 (.l 4), .i .u8 (.l 0), .i .u8 (.l 0), .i .u8 (.l 0), .i .u8 (.l 1), .i .u8 (.l 134)] (.l 19)]) (hK : ∀ st, K (.tp [.ag [.i .i64 (.l 0), .i .u8 (.l 4), .i .u8 (.l 1), .i .i64 (.l 0)], .v true 1 [] (.l 0), .sl (len bl) 1 (.l 0) (.l 10) none, .i .i64 (.l 0)]) (litsL (snoc (frzL [k] 0 bl) (.r false false (.y st) 1 [.i .u8 (.l 0), .i .u8 (.l 0), .i .u8 (.l 1), .i .u8 (.l 1), .i .u8 (.l 4), .i .u8 (.l 0), .i .u8 (.l 0), .i .u8 (.l 0), .i .u8 (.l 1), .i .u8 (.l 134)])))) : S.call 37 [.sl k 1 o n c] bl K :=
  qgg hS [k] whole_ah ha rfl ⟨⟨by decide, rfl⟩, trivial⟩ fun sts => hK _
theorem whole_o : (S0 Tryz.prog).call 37 [.v true 1 [] (.l 0)] [] (fun x _ => Sub x (.tp [.ag [.i .i64 (.l 0), .i .u8 (.l 0), .i .u8 (.l 0), .i .i64 (.l 0)], .re (.slice none 0 0), .re (.slice none 0 0), .i .i64 (.l 10)])) := by
  generalize hS : S0 Tryz.prog = S
  refine qaa hS I.qcc ?_
  cbv
  repeat' (first | (refine qkw hS rfl ?_; cbv) | (refine qaa hS I.qcm ?_; cbv) | fail)
  all_goals exact qed (.cons .rfl (.cons .rfl (.cons .rfl (.cons .rfl .nil))))
theorem qjw {S : Sy} {bl : List Blk} {K : SV → List Blk → Prop} (hS : S0 Tryz.prog = S) {args : List SV} (ha : FzL bl id [] args [.v true 1 [] (.l 0)]) (hK : K (.tp [.ag [.i .i64 (.l 0), .i .u8 (.l 0), .i .u8 (.l 0), .i .i64 (.l 0)], .re (.slice none 0 0), .re (.slice none 0 0), .i .i64 (.l 10)]) bl) : S.call 37 args bl K := qfj hS whole_o ha rfl rfl hK
end Fa
end Cz
namespace Cz
open Go Go.RowKit Go.Proofs
namespace Fa
theorem oct_h : (S0 Tryz.prog).call 38 [.v true 1 [.i .u8 (.l 0), .i .u8 (.l 0), .i .u8 (.l 1), .i .u8 (.l 1), .i .u8 (.l 4), .i .u8 (.l 0), .i .u8 (.l 0), .i .u8 (.l 0), .i .u8 (.l 1), .i .u8 (.l 134)] (.l 10), .i .i64 (.l 0), .i .i64 (.l 3)] [] (fun x _ => Sub x (.tp [.i .i64 (.l 1), .i .i64 (.l 0)])) := by
  generalize hS : S0 Tryz.prog = S
  refine qaa hS I.qah ?_
  cbv
  repeat' (first | (refine qbz hS ?_; cbv) | (refine qdr hS ?_; cbv) | (refine qac hS ?_; cbv) | (refine qaa hS I.qae ?_; cbv) | fail)
  all_goals exact qed (.cons (qad rfl) (.cons (qad rfl) .nil))
theorem ocs_h : (S0 Tryz.prog).call 109 [.v true 1 [.i .u8 (.l 0), .i .u8 (.l 0), .i .u8 (.l 1), .i .u8 (.l 1), .i .u8 (.l 4), .i .u8 (.l 0), .i .u8 (.l 0), .i .u8 (.l 0), .i .u8 (.l 1), .i .u8 (.l 134)] (.l 10), .i .i64 (.l 5)] [] (fun x _ => Sub x (.tp [.i .i64 (.l 1), .i .i64 (.l 0)])) := by
  generalize hS : S0 Tryz.prog = S
  refine qaa hS I.qbr ?_
  cbv
  repeat' (first | (refine qbz hS ?_; cbv) | (refine qdr hS ?_; cbv) | (refine qac hS ?_; cbv) | (refine qaa hS I.qah ?_; cbv) | (refine qaa hS I.qae ?_; cbv) | fail)
  all_goals exact qed (.cons (qad rfl) (.cons (qad rfl) .nil))
theorem whole_h : (S0 Tryz.prog).call 37 [.v true 1 [.i .u8 (.l 0), .i .u8 (.l 0), .i .u8 (.l 1), .i .u8 (.l 1), .i .u8 (.l 4), .i .u8 (.l 0), .i .u8 (.l 0), .i .u8 (.l 0), .i .u8 (.l 1), .i .u8 (.l 134)] (.l 10)] [] (Kept [(1, [])] (fun m => .tp [.ag [.i .i64 (.l 1), .i .u8 (.l 1), .i .u8 (.l 4), .i .i64 (.l 1)], .v true 1 [.i .u8 (.l 134)] (.l 1), .sl m 1 (.l 0) (.l 0) none, .i .i64 (.l 0)])) := by
  generalize hS : S0 Tryz.prog = S
  refine qaa hS I.qcc ?_
  cbv
  repeat' (first | (refine s_nl hS ?_; cbv) | (refine qaw hS oct_h .rfl rfl rfl ?_; cbv) | (refine qaw hS ocs_h .rfl rfl rfl ?_; cbv) | (refine qaa hS I.qao ?_; cbv) | (refine qaa hS I.qcm ?_; cbv) | (refine qaf hS rfl I.qbq (by decide +kernel) ?_; cbv) | (refine qaf hS rfl I.qbp (by decide +kernel) ?_; cbv) | (refine qaf hS rfl I.qbj (by decide +kernel) ?_; cbv) | (refine qji hS (fun _ => ?_) ?_ <;> cbv) | fail)
  all_goals first
    | (refine ⟨[some 3], ⟨⟨_, _, _, rfl, FSub.rfl⟩, rfl, trivial⟩, fun m => ?_⟩; (repeat' (first | exact .nil | refine .cons ?_ ?_ | (refine .tp ?_) | (refine .ag ?_) | exact .keep (i := 0) rfl rfl rfl | exact .nilk (i := 0) rfl rfl rfl | exact .sub .rfl rfl | exact .sub (qad rfl) rfl | exact .nil (by decide) rfl | exact qag rfl rfl rfl rfl rfl | fail)); done)
    | (refine ⟨[some 4], ⟨⟨_, _, _, rfl, FSub.rfl⟩, rfl, trivial⟩, fun m => ?_⟩; (repeat' (first | exact .nil | refine .cons ?_ ?_ | (refine .tp ?_) | (refine .ag ?_) | exact .keep (i := 0) rfl rfl rfl | exact .nilk (i := 0) rfl rfl rfl | exact .sub .rfl rfl | exact .sub (qad rfl) rfl | exact .nil (by decide) rfl | exact qag rfl rfl rfl rfl rfl | fail)); done)
    | (refine ⟨[some 2], ⟨⟨_, _, _, rfl, FSub.rfl⟩, rfl, trivial⟩, fun m => ?_⟩; (repeat' (first | exact .nil | refine .cons ?_ ?_ | (refine .tp ?_) | (refine .ag ?_) | exact .keep (i := 0) rfl rfl rfl | exact .nilk (i := 0) rfl rfl rfl | exact .sub .rfl rfl | exact .sub (qad rfl) rfl | exact .nil (by decide) rfl | exact qag rfl rfl rfl rfl rfl | fail)); done)
    | (refine ⟨[some 5], ⟨⟨_, _, _, rfl, FSub.rfl⟩, rfl, trivial⟩, fun m => ?_⟩; (repeat' (first | exact .nil | refine .cons ?_ ?_ | (refine .tp ?_) | (refine .ag ?_) | exact .keep (i := 0) rfl rfl rfl | exact .nilk (i := 0) rfl rfl rfl | exact .sub .rfl rfl | exact .sub (qad rfl) rfl | exact .nil (by decide) rfl | exact qag rfl rfl rfl rfl rfl | fail)); done)
    | (refine ⟨[none], ⟨rfl, trivial⟩, fun m => ?_⟩; (repeat' (first | exact .nil | refine .cons ?_ ?_ | (refine .tp ?_) | (refine .ag ?_) | exact .keep (i := 0) rfl rfl rfl | exact .nilk (i := 0) rfl rfl rfl | exact .sub .rfl rfl | exact .sub (qad rfl) rfl | exact .nil (by decide) rfl | exact qag rfl rfl rfl rfl rfl | fail)); done)
theorem qvx {S : Sy} {bl : List Blk} {K : SV → List Blk → Prop} (hS : S0 Tryz.prog = S) {k : Nat} {o n : Z} {c : Option Z} (ha : FzL bl id (others [k] (len bl)) [.sl k 1 o n c] [.v true 1 [.i .u8 (.l 0), .i .u8 (.l 0), .i .u8 (.l 1), .i .u8 (.l 1), .i .u8 (.l 4), .i .u8 (.l 0), .i .u8 (.l 0), .i .u8 (.l 0), .i .u8 (.l 1), .i .u8 (.l 134)] (.l 10)]) (hK : ∀ st, K (.tp [.ag [.i .i64 (.l 1), .i .u8 (.l 1), .i .u8 (.l 4), .i .i64 (.l 1)], .v true 1 [.i .u8 (.l 134)] (.l 1), .sl (len bl) 1 (.l 0) (.l 0) none, .i .i64 (.l 0)]) (litsL (snoc (frzL [k] 0 bl) (.r false false (.y st) 1 [])))) : S.call 37 [.sl k 1 o n c] bl K :=
  qgg hS [k] whole_h ha rfl ⟨⟨by decide, rfl⟩, trivial⟩ fun sts => hK _
theorem oct_a : (S0 Tryz.prog).call 38 [.v true 1 [.i .u8 (.l 0), .i .u8 (.l 0), .i .u8 (.l 0), .i .u8 (.l 4), .i .u8 (.l 1), .i .u8 (.l 0), .i .u8 (.l 0), .i .u8 (.l 0), .i .u8 (.l 0)] (.l 9), .i .i64 (.l 0), .i .i64 (.l 3)] [] (fun x _ => Sub x (.tp [.i .i64 (.l 0), .i .i64 (.l 0)])) := by
  generalize hS : S0 Tryz.prog = S
  refine qaa hS I.qah ?_
  cbv
  repeat' (first | (refine qbz hS ?_; cbv) | (refine qdr hS ?_; cbv) | (refine qac hS ?_; cbv) | (refine qaa hS I.qae ?_; cbv) | fail)
  all_goals exact qed (.cons (qad rfl) (.cons (qad rfl) .nil))
theorem ocs_a : (S0 Tryz.prog).call 109 [.v true 1 [.i .u8 (.l 0), .i .u8 (.l 0), .i .u8 (.l 0), .i .u8 (.l 4), .i .u8 (.l 1), .i .u8 (.l 0), .i .u8 (.l 0), .i .u8 (.l 0), .i .u8 (.l 0)] (.l 9), .i .i64 (.l 5)] [] (fun x _ => Sub x (.tp [.i .i64 (.l 0), .i .i64 (.l 0)])) := by
  generalize hS : S0 Tryz.prog = S
  refine qaa hS I.qbr ?_
  cbv
  repeat' (first | (refine qbz hS ?_; cbv) | (refine qdr hS ?_; cbv) | (refine qac hS ?_; cbv) | (refine qaa hS I.qah ?_; cbv) | (refine qaa hS I.qae ?_; cbv) | fail)
  all_goals exact qed (.cons (qad rfl) (.cons (qad rfl) .nil))
theorem whole_a : (S0 Tryz.prog).call 37 [.v true 1 [.i .u8 (.l 0), .i .u8 (.l 0), .i .u8 (.l 0), .i .u8 (.l 4), .i .u8 (.l 1), .i .u8 (.l 0), .i .u8 (.l 0), .i .u8 (.l 0), .i .u8 (.l 0)] (.l 9)] [] (Kept [(1, [])] (fun m => .tp [.ag [.i .i64 (.l 0), .i .u8 (.l 4), .i .u8 (.l 1), .i .i64 (.l 0)], .v true 1 [] (.l 0), .sl m 1 (.l 0) (.l 0) none, .i .i64 (.l 0)])) := by
  generalize hS : S0 Tryz.prog = S
  refine qaa hS I.qcc ?_
  cbv
  repeat' (first | (refine qaw hS oct_a .rfl rfl rfl ?_; cbv) | (refine qaw hS ocs_a .rfl rfl rfl ?_; cbv) | (refine qaa hS I.qao ?_; cbv) | (refine qaa hS I.qcm ?_; cbv) | (refine qaf hS rfl I.qbq (by decide +kernel) ?_; cbv) | (refine qaf hS rfl I.qbp (by decide +kernel) ?_; cbv) | (refine qaf hS rfl I.qbj (by decide +kernel) ?_; cbv) | (refine qji hS (fun _ => ?_) ?_ <;> cbv) | fail)
  all_goals first
    | (refine ⟨[some 3], ⟨⟨_, _, _, rfl, FSub.rfl⟩, rfl, trivial⟩, fun m => ?_⟩; (repeat' (first | exact .nil | refine .cons ?_ ?_ | (refine .tp ?_) | (refine .ag ?_) | exact .keep (i := 0) rfl rfl rfl | exact .nilk (i := 0) rfl rfl rfl | exact .sub .rfl rfl | exact .sub (qad rfl) rfl | exact .nil (by decide) rfl | exact qag rfl rfl rfl rfl rfl | fail)); done)
    | (refine ⟨[some 4], ⟨⟨_, _, _, rfl, FSub.rfl⟩, rfl, trivial⟩, fun m => ?_⟩; (repeat' (first | exact .nil | refine .cons ?_ ?_ | (refine .tp ?_) | (refine .ag ?_) | exact .keep (i := 0) rfl rfl rfl | exact .nilk (i := 0) rfl rfl rfl | exact .sub .rfl rfl | exact .sub (qad rfl) rfl | exact .nil (by decide) rfl | exact qag rfl rfl rfl rfl rfl | fail)); done)
    | (refine ⟨[some 2], ⟨⟨_, _, _, rfl, FSub.rfl⟩, rfl, trivial⟩, fun m => ?_⟩; (repeat' (first | exact .nil | refine .cons ?_ ?_ | (refine .tp ?_) | (refine .ag ?_) | exact .keep (i := 0) rfl rfl rfl | exact .nilk (i := 0) rfl rfl rfl | exact .sub .rfl rfl | exact .sub (qad rfl) rfl | exact .nil (by decide) rfl | exact qag rfl rfl rfl rfl rfl | fail)); done)
    | (refine ⟨[some 5], ⟨⟨_, _, _, rfl, FSub.rfl⟩, rfl, trivial⟩, fun m => ?_⟩; (repeat' (first | exact .nil | refine .cons ?_ ?_ | (refine .tp ?_) | (refine .ag ?_) | exact .keep (i := 0) rfl rfl rfl | exact .nilk (i := 0) rfl rfl rfl | exact .sub .rfl rfl | exact .sub (qad rfl) rfl | exact .nil (by decide) rfl | exact qag rfl rfl rfl rfl rfl | fail)); done)
    | (refine ⟨[none], ⟨rfl, trivial⟩, fun m => ?_⟩; (repeat' (first | exact .nil | refine .cons ?_ ?_ | (refine .tp ?_) | (refine .ag ?_) | exact .keep (i := 0) rfl rfl rfl | exact .nilk (i := 0) rfl rfl rfl | exact .sub .rfl rfl | exact .sub (qad rfl) rfl | exact .nil (by decide) rfl | exact qag rfl rfl rfl rfl rfl | fail)); done)
theorem whole_au {S : Sy} {bl : List Blk} {K : SV → List Blk → Prop} (hS : S0 Tryz.prog = S) {k : Nat} {o n : Z} {c : Option Z} (ha : FzL bl id (others [k] (len bl)) [.sl k 1 o n c] [.v true 1 [.i .u8 (.l 0), .i .u8 (.l 0), .i .u8 (.l 0), .i .u8 (.l 4), .i .u8 (.l 1), .i .u8 (.l 0), .i .u8 (.l 0), .i .u8 (.l 0), .i .u8 (.l 0)] (.l 9)]) (hK : ∀ st, K (.tp [.ag [.i .i64 (.l 0), .i .u8 (.l 4), .i .u8 (.l 1), .i .i64 (.l 0)], .v true 1 [] (.l 0), .sl (len bl) 1 (.l 0) (.l 0) none, .i .i64 (.l 0)]) (litsL (snoc (frzL [k] 0 bl) (.r false false (.y st) 1 [])))) : S.call 37 [.sl k 1 o n c] bl K :=
  qgg hS [k] whole_a ha rfl ⟨⟨by decide, rfl⟩, trivial⟩ fun sts => hK _
end Fa
end Cz
namespace Cz
open Go Go.RowKit Go.Proofs
namespace Fa
section
variable {l' : List Blk} {g : Nat → Nat} {ks : List (Option Nat)}
theorem qlv {k : Nat} {cap : Option Z} {lit lit' : Bool} {st : Z} {F : List SV} {n : Int} (hB : l'[k]? = some (.r false lit st 1 F)) (hk : kpOf ks k = none) (hl : (F.length : Int) = n) (hp : plains F = true) : Fz l' g ks (.sl k 1 (.l 0) (.y n) cap) (.v lit' 1 F (.y n)) :=
  qag hB hk (by show (F.drop (0 * 1)).take (n.toNat * 1) = F; rw [Nat.zero_mul, List.drop_zero, Nat.mul_one, List.take_of_length_le (by omega)]) hp rfl
theorem qzaar {S : Sy} (hS : S0 Tryz.prog = S) {k : Nat} {cap : Option Z} {lit lit' : Bool} {st : Z} {F : List SV} {n : Int} (hB : l'[k]? = some (.r false lit st 1 (S.app [] F))) (hk : kpOf ks k = none) (hl : (F.length : Int) = n) (hp : plains F = true) : Fz l' g ks (.sl k 1 (.l 0) (.y n) cap) (.v lit' 1 F (.y n)) := by
  subst hS
  exact qlv (F := F) hB hk hl hp
theorem qsl {lit' : Bool} {F : List SV} {n : Int} (h0 : n = 0) (hl : (F.length : Int) = n) : Fz l' g ks (.re (.slice none 0 0)) (.v lit' 1 F (.y n)) := by
  rw [List.eq_nil_of_length_eq_zero (l := F) (by omega)]
  exact .nil (by decide) h0
end
theorem rpay_n {F : List SV} {x : List UInt8} {n : Int} (h0 : 0 ≤ n) (h1 : n ≤ 16384) (hp : plains F = true) (hl : (F.length : Int) = n) (hb : ∀ (S : Sy) (K : List UInt8 → Prop), S0 Tryz.prog = S → K x → S.bs F 0 n K) : (S0 Tryz.prog).call 34 [FR 0 0 1 F (.y n) (.l 0) (.l 0) (.l 0) [] (.l 0)] [] (Tell (.v true 1 F (.y n))) := by
  generalize hS : S0 Tryz.prog = S
  refine qaa hS I.qat ?_
  cbv
  repeat' (first | (refine qdo hS ?_; cbv) | (refine qbz hS ?_; cbv) | (refine qdr hS ?_; cbv) | (refine s_ck hS ?_; try cbv) | (refine qac hS ?_; cbv) | (refine qaa hS I.qbd ?_; cbv) | (refine qaa hS I.qba ?_; cbv) | fail)
  all_goals
    intro g
    repeat' (first | exact .nil | refine .cons ?_ ?_ | (refine .tp ?_) | (refine .ag ?_) | exact .sub .rfl rfl | exact .sub (qad rfl) rfl | exact .nil (by decide) rfl | exact qlv rfl rfl hl hp | exact qsl (by assumption) hl | exact qag rfl rfl rfl rfl rfl | exact qzaar hS rfl rfl hl hp | fail)
  all_goals trace_state
  all_goals sorry
theorem rtake_n {F : List SV} {x : List UInt8} {n : Int} (h0 : 0 ≤ n) (h1 : n ≤ 16384) (hp : plains F = true) (hl : (F.length : Int) = n) (hb : ∀ (S : Sy) (K : List UInt8 → Prop), S0 Tryz.prog = S → K x → S.bs F 0 n K) : (S0 Tryz.prog).call 57 [.ag [.i .i64 (.l 0), .i .u8 (.l 0), .i .u8 (.l 0), .i .i64 (.l 1)], .v true 1 F (.y n)] [] (Tell (.tp [FR 0 0 1 F (.y n) (.l 0) (.l 0) (.l 0) [] (.l 0), .ag [.ff, .i .i64 (.l 0), .i .u32 (.l 0)]])) := by
  generalize hS : S0 Tryz.prog = S
  refine qaa hS I.qch ?_
  cbv
  repeat' (first | (refine qhk hS rfl ?_; try cbv) | (refine qdo hS ?_; cbv) | (refine qbz hS ?_; cbv) | (refine s_ck hS ?_; try cbv) | (refine qcz hS ?_ ?_ <;> intro h <;> (try cbv) <;> try exact s_ab h) | (refine qac hS ?_; cbv) | (refine qaa hS I.qbw ?_; cbv) | (refine qaa hS I.qav ?_; cbv) | (refine qaa hS I.qcg ?_; cbv) | (refine qaa hS I.qcf ?_; cbv) | (refine qaa hS I.qby ?_; cbv) | (refine qaa hS I.qcq ?_; cbv) | (refine qaa hS I.qck ?_; cbv) | (refine qaa hS I.qdv ?_; cbv) | (refine qaa hS I.qcp ?_; cbv) | (refine qaa hS I.qcr ?_; cbv) | (refine qaf hS rfl I.qbl (by decide +kernel) ?_; cbv) | (refine qaf hS rfl I.qbk (by decide +kernel) ?_; cbv) | fail)
  all_goals
    intro g
    repeat' (first | exact .nil | refine .cons ?_ ?_ | (refine .tp ?_) | (refine .ag ?_) | exact .sub .rfl rfl | exact .sub (qad rfl) rfl | exact .nil (by decide) rfl | exact qlv rfl rfl hl hp | exact qsl (by assumption) hl | exact qag rfl rfl rfl rfl rfl | exact qzaar hS rfl rfl hl hp | fail)
  all_goals trace_state
  all_goals sorry
theorem rsame_n {F : List SV} {x : List UInt8} {n : Int} (h0 : 0 ≤ n) (h1 : n ≤ 16384) (hp : plains F = true) (hl : (F.length : Int) = n) (hb : ∀ (S : Sy) (K : List UInt8 → Prop), S0 Tryz.prog = S → K x → S.bs F 0 n K) : (S0 Tryz.prog).call 59 [FR 0 0 1 F (.y n) (.l 0) (.l 0) (.l 0) [] (.l 0), FR 0 0 1 F (.y n) (.l 0) (.l 0) (.l 0) [] (.l 0)] [] (fun x _ => Sub x (.b true)) := by
  generalize hS : S0 Tryz.prog = S
  refine qaa hS I.qcl ?_
  cbv
  repeat' (first | (refine qhk hS rfl ?_; try cbv) | (refine qcz hS ?_ ?_ <;> intro h <;> (try cbv) <;> try exact s_ab h) | (refine qac hS ?_; cbv) | (refine hb _ _ hS ?_; cbv) | (refine qaa hS I.qci ?_; cbv) | fail)
  all_goals first
    | exact qiw rfl
    | exact .rfl
    | trace_state
  all_goals sorry
theorem rr_n {F : List SV} {x : List UInt8} {n : Int} (h0 : 0 ≤ n) (h1 : n ≤ 16384) (hp : plains F = true) (hl : (F.length : Int) = n) (hb : ∀ (S : Sy) (K : List UInt8 → Prop), S0 Tryz.prog = S → K x → S.bs F 0 n K) : (S0 Tryz.prog).call 33 [FR 0 0 1 F (.y n) (.l 0) (.l 0) (.l 0) [] (.l 0)] [] (fun x _ => Sub x (.b true)) :=
  rr_g rfl (fun bl K h => qap rfl (rpay_n h0 h1 hp hl hb) .rfl (by simp [refsBL, refsB]) h) (fun bl K h => qap rfl (rtake_n h0 h1 hp hl hb) .rfl (by simp [refsBL, refsB]) h) (fun bl K h => qaw rfl (rsame_n h0 h1 hp hl hb) .rfl (by simp [refsBL, refsB]) rfl h)
theorem take_n {L : Int} {F : List SV} {x : List UInt8} {n : Int} (h0 : 0 ≤ n) (h1 : n ≤ 16384) (hp : plains F = true) (hl : (F.length : Int) = n) (hb : ∀ (S : Sy) (K : List UInt8 → Prop), S0 Tryz.prog = S → K x → S.bs F 0 n K) : (S0 Tryz.prog).call 31 [.ag [.i .i64 (.y L), .i .u8 (.l 0), .i .u8 (.l 0), .i .i64 (.l 1)], .v true 1 F (.y n)] [] (Tell (.tp [FR 0 0 1 F (.y n) (.l 0) (.l 0) (.l 0) [] (.l 0), .ag [.ff, .i .i64 (.l 0), .i .u32 (.l 0)]])) := by
  generalize hS : S0 Tryz.prog = S
  refine qaa hS I.qbv ?_
  cbv
  repeat' (first | (refine qdo hS ?_; cbv) | (refine qbz hS ?_; cbv) | (refine s_ck hS ?_; try cbv) | (refine qcz hS ?_ ?_ <;> intro h <;> (try cbv) <;> try exact s_ab h) | (refine qac hS ?_; cbv) | (refine qwp hS ?_; cbv) | (refine qaa hS I.qao ?_; cbv) | (refine qaa hS I.qbu ?_; cbv) | (refine qaa hS I.qcd ?_; cbv) | (refine qaa hS I.qbs ?_; cbv) | (refine qaa hS I.qbt ?_; cbv) | (refine qaa hS I.qdz ?_; cbv) | (refine qaa hS I.qdm ?_; cbv) | (refine qaa hS I.qfn ?_; cbv) | (refine qcb hS I.qbh ?_; cbv) | (refine qaf hS rfl I.qaz (by decide +kernel) ?_; cbv) | (refine qji hS (fun hn0 => ?_) ?_ <;> cbv) | fail)
  all_goals
    intro g
    repeat' (first | exact .nil | refine .cons ?_ ?_ | (refine .tp ?_) | (refine .ag ?_) | exact .sub .rfl rfl | exact .sub (qad rfl) rfl | exact .nil (by decide) rfl | exact qlv rfl rfl hl hp | exact qsl (by assumption) hl | exact qag rfl rfl rfl rfl rfl | exact qzaar hS rfl rfl hl hp | fail)
  all_goals trace_state
  all_goals sorry
end Fa
end Cz
namespace Cz
open Go Go.RowKit Go.Proofs
namespace Fa
theorem s_quo {S : Sy} {k : IntKind} {a b : Int} {K : Int → Prop} (hS : S0 Tryz.prog = S) (h0 : 0 ≤ a) (hb : 0 < b) (h1 : a ≤ Cz.hi k) (h : ∀ r, r = a / b → K r) : S.ar .quo k a b K := by
  refine qyo hS _ ?_ (h _ rfl)
  show k.wrap (a.tdiv b) = _
  rw [Int.tdiv_eq_ediv_of_nonneg h0]
  have h2 := Int.ediv_nonneg h0 (by omega : 0 ≤ b)
  have h3 := Int.ediv_le_self b h0
  exact qnl (by cases k <;> simp only [lo] <;> omega) (by omega)
theorem s_rem {S : Sy} {k : IntKind} {a b : Int} {K : Int → Prop} (hS : S0 Tryz.prog = S) (h0 : 0 ≤ a) (h : ∀ r, r = a % b → K r) : S.ar .rem k a b K := by
  refine qyo hS _ ?_ (h _ rfl)
  show a.tmod b = _
  exact Int.tmod_eq_emod_of_nonneg h0
abbrev GB (b2 b1 b0 : Int) (F : List SV) : List SV := .i .u8 (.y b2) :: .i .u8 (.y b1) :: .i .u8 (.y b0) :: .i .u8 (.l 0) :: .i .u8 (.l 0) :: .i .u8 (.l 0) :: .i .u8 (.l 0) :: .i .u8 (.l 0) :: .i .u8 (.l 1) :: F
theorem put_n {F : List SV} {x : List UInt8} {n : Int} (h0 : 0 ≤ n) (h1 : n ≤ 16384) (hp : plains F = true) (hl : (F.length : Int) = n) (hb : ∀ (S : Sy) (K : List UInt8 → Prop), S0 Tryz.prog = S → K x → S.bs F 0 n K) {b0 b1 b2 N : Int} (e0 : b0 = n % 256) (e1 : b1 = n / 256 % 256) (e2 : b2 = n / 65536) (eN : N = n + 9) : (S0 Tryz.prog).call 8 [FR 0 0 1 F (.y n) (.l 0) (.l 0) (.l 0) [] (.l 0)] [] (Kept [(1, GB b2 b1 b0 F)] (fun m => .sl m 1 (.l 0) (.y N) none)) := by
  generalize hS : S0 Tryz.prog = S
  refine qaa hS I.qeg ?_
  cbv
  repeat' (first | (refine qdo hS ?_; cbv) | (refine qbz hS ?_; cbv) | (refine qdr hS ?_; cbv) | (refine s_ck hS ?_; try cbv) | (refine qcz hS ?_ ?_ <;> intro h <;> (try cbv) <;> try exact s_ab h) | (refine qme hS ?_; try cbv) | (refine qac hS ?_; cbv) | (refine qaw hS (rr_n h0 h1 hp hl hb) .rfl (by simp [refsBL, refsB]) rfl ?_; cbv) | (refine qap hS (rpay_n h0 h1 hp hl hb) .rfl (by simp [refsBL, refsB]) ?_; cbv) | (refine qaa hS I.qee ?_; cbv) | (refine qaa hS I.qef ?_; cbv) | (refine qaa hS I.qba ?_; cbv) | (refine qaa hS I.qav ?_; cbv) | (refine s_rem hS (by omega) ?_; intro _ _; cbv) | (refine s_quo hS (by omega) (by omega) (by simp only [Cz.hi]; omega) ?_; intro _ _; cbv) | fail)
  all_goals
    refine ⟨[some 4], ⟨⟨_, _, _, rfl, ?_⟩, rfl, trivial⟩, fun m => .keep (i := 0) rfl rfl ?_⟩
    · subst hS
      refine SubL.fsub ?_
      repeat' (first | exact .rfl | refine .cons ?_ ?_ | exact qad rfl | (refine qad ?_; (focus (simp only [Z.v]; omega))) | fail)
    · subst hS
      show 9 + n = N
      omega
end Fa
end Cz
namespace Cz
open Go Go.RowKit Go.Proofs
namespace Fa
theorem qzaas {l' : List Blk} {g : Nat → Nat} {ks : List (Option Nat)} {k : Nat} {cap : Option Z} {lit lit' : Bool} {st : Z} {X F : List SV} {n : Int} (hB : l'[k]? = some (.r false lit st 1 X)) (hk : kpOf ks k = none) (hX : X = F) (hl : (F.length : Int) = n) (hp : plains F = true) : Fz l' g ks (.sl k 1 (.l 0) (.y n) cap) (.v lit' 1 F (.y n)) := by
  subst hX; exact qlv hB hk hl hp
theorem oct_n {F : List SV} {n : Int} (h0 : 0 ≤ n) (h1 : n ≤ 16384) (hp : plains F = true) (hl : (F.length : Int) = n) {b0 b1 b2 N : Int} (e0 : b0 = n % 256) (e1 : b1 = n / 256 % 256) (e2 : b2 = n / 65536) (eN : N = n + 9) : (S0 Tryz.prog).call 38 [.v true 1 (GB b2 b1 b0 F) (.y N), .i .i64 (.l 0), .i .i64 (.l 3)] [] (fun x _ => Sub x (.tp [.i .i64 (.y n), .i .i64 (.l 0)])) := by
  generalize hS : S0 Tryz.prog = S
  refine qaa hS I.qah ?_
  cbv
  repeat' (first | (refine qbz hS ?_; cbv) | (refine s_ck hS ?_; try cbv) | (refine qcz hS ?_ ?_ <;> intro h <;> (try cbv) <;> try exact s_ab h) | (refine s_sb hS ?_; intro _ _; try cbv) | (refine qme hS ?_; try cbv) | (refine qac hS ?_; cbv) | (refine qaa hS I.qae ?_; cbv) | (refine qri hS (c := 256) rfl ?_ (by simp only [lo]; omega) (by simp only [Cz.hi]; omega); intro _ _; cbv) | (refine s_orl hS (c := 256) (m := 8) rfl (by omega) (by omega) (by omega) (by omega) (by simp only [Cz.hi]; omega) ?_; intro _ _; cbv) | fail)
  all_goals first
    | exact qed (.cons (qad (by simp only [Z.v]; omega)) (.cons (qad rfl) .nil))
    | (exfalso; omega)
    | trace_state
  all_goals sorry
theorem ocs_n {F : List SV} {n : Int} (h0 : 0 ≤ n) (h1 : n ≤ 16384) (hp : plains F = true) (hl : (F.length : Int) = n) {b0 b1 b2 N : Int} (e0 : b0 = n % 256) (e1 : b1 = n / 256 % 256) (e2 : b2 = n / 65536) (eN : N = n + 9) : (S0 Tryz.prog).call 109 [.v true 1 (GB b2 b1 b0 F) (.y N), .i .i64 (.l 5)] [] (fun x _ => Sub x (.tp [.i .i64 (.l 1), .i .i64 (.l 0)])) := by
  generalize hS : S0 Tryz.prog = S
  refine qaa hS I.qbr ?_
  cbv
  repeat' (first | (refine qbz hS ?_; cbv) | (refine qdr hS ?_; cbv) | (refine s_ck hS ?_; try cbv) | (refine qcz hS ?_ ?_ <;> intro h <;> (try cbv) <;> try exact s_ab h) | (refine s_sb hS ?_; intro _ _; try cbv) | (refine qac hS ?_; cbv) | (refine qaa hS I.qah ?_; cbv) | (refine qaa hS I.qae ?_; cbv) | fail)
  all_goals first
    | exact qed (.cons (qad rfl) (.cons (qad rfl) .nil))
    | (exfalso; omega)
    | trace_state
  all_goals sorry
theorem whole_n {F : List SV} {n : Int} (h0 : 0 ≤ n) (h1 : n ≤ 16384) (hp : plains F = true) (hl : (F.length : Int) = n) {b0 b1 b2 N : Int} (e0 : b0 = n % 256) (e1 : b1 = n / 256 % 256) (e2 : b2 = n / 65536) (eN : N = n + 9) : (S0 Tryz.prog).call 37 [.v true 1 (GB b2 b1 b0 F) (.y N)] [] (Kept [(1, [])] (fun m => .tp [.ag [.i .i64 (.y n), .i .u8 (.l 0), .i .u8 (.l 0), .i .i64 (.l 1)], .v true 1 F (.y n), .sl m 1 (.l 0) (.l 0) none, .i .i64 (.l 0)])) := by
  have hpG : plains (GB b2 b1 b0 F) = true := by simp [plains, plainV, hp]
  generalize hS : S0 Tryz.prog = S
  have q2 : ∀ X, S.app [] X = X := fun X => by subst hS; rfl
  have q0 : S.mi N 9 = n := by subst hS; show N - 9 = n; omega
  have q1 : S.sub (GB b2 b1 b0 F) 9 (S.mi N 9) 1 = F := by
    rw [q0]; subst hS
    show ((GB b2 b1 b0 F).drop 9).take (n.toNat * 1) = F
    rw [Nat.mul_one]
    show F.take n.toNat = F
    exact List.take_of_length_le (by omega)
  have q3 : S.sub F 0 n 1 = F := by
    subst hS
    show (F.drop (0 * 1)).take (n.toNat * 1) = F
    rw [Nat.zero_mul, List.drop_zero, Nat.mul_one, List.take_of_length_le (by omega)]
  have q5 : S.mi (S.mi N 9) n = 0 := by rw [q0]; subst hS; show n - n = 0; omega
  have q4 : S.sub F n (S.mi (S.mi N 9) n) 1 = [] := by
    rw [q5]; subst hS
    show (F.drop (n.toNat * 1)).take (0 * 1) = []
    rw [Nat.zero_mul, List.take_zero]
  refine qaa hS I.qcc ?_
  cbv
  repeat' (first | (refine s_ck hS ?_; try cbv) | (refine qcz hS ?_ ?_ <;> intro h <;> (try cbv) <;> try exact s_ab h) | (refine qaw hS (oct_n h0 h1 hp hl e0 e1 e2 eN) .rfl (by simp [refsBL, refsB]) rfl ?_; cbv) | (refine qaw hS (ocs_n h0 h1 hp hl e0 e1 e2 eN) .rfl (by simp [refsBL, refsB]) rfl ?_; cbv) | (refine qaa hS I.qao ?_; cbv) | (refine qaa hS I.qcm ?_; cbv) | (refine qaf hS rfl I.qbq (by decide +kernel) ?_; cbv) | (refine qaf hS rfl I.qbp (by decide +kernel) ?_; cbv) | (refine qaf hS rfl I.qbj (by decide +kernel) ?_; cbv) | (refine qji hS (fun hn0 => ?_) ?_ <;> cbv) | fail)
  all_goals first
    | (exfalso; omega)
    | (exfalso; have z : S.mi N 9 = 0 := hn0; omega)
    | exact ⟨[none], ⟨rfl, trivial⟩, fun m => .tp (.cons (.sub .rfl rfl) (.cons (qsl (by omega) hl) (.cons (.nilk (i := 0) rfl rfl rfl) (.cons (.sub .rfl rfl) .nil))))⟩
    | exact ⟨[some 3], ⟨⟨_, _, _, rfl, by show FSub (S.app [] (S.sub (S.app [] (S.sub (GB b2 b1 b0 F) 9 (S.mi N 9) 1)) n (S.mi (S.mi N 9) n) 1)) []; rw [q2, q2, q1, q4]; exact .rfl⟩, rfl, trivial⟩, fun m => .tp (.cons (.sub .rfl rfl) (.cons (qsl (by omega) hl) (.cons (.keep (i := 0) rfl rfl q5) (.cons (.sub .rfl rfl) .nil))))⟩
    | exact ⟨[none], ⟨rfl, trivial⟩, fun m => .tp (.cons (.sub .rfl rfl) (.cons (qzaas rfl rfl (by show S.app [] (S.sub (S.app [] (S.sub (GB b2 b1 b0 F) 9 (S.mi N 9) 1)) 0 n 1) = F; rw [q2, q2, q1, q3]) hl hp) (.cons (.nilk (i := 0) rfl rfl rfl) (.cons (.sub .rfl rfl) .nil))))⟩
    | exact ⟨[some 4], ⟨⟨_, _, _, rfl, by show FSub (S.app [] (S.sub (S.app [] (S.sub (GB b2 b1 b0 F) 9 (S.mi N 9) 1)) n (S.mi (S.mi N 9) n) 1)) []; rw [q2, q2, q1, q4]; exact .rfl⟩, rfl, trivial⟩, fun m => .tp (.cons (.sub .rfl rfl) (.cons (qzaas rfl rfl (by show S.app [] (S.sub (S.app [] (S.sub (GB b2 b1 b0 F) 9 (S.mi N 9) 1)) 0 n 1) = F; rw [q2, q2, q1, q3]) hl hp) (.cons (.keep (i := 0) rfl rfl q5) (.cons (.sub .rfl rfl) .nil))))⟩
    | trace_state
  all_goals sorry
end Fa
end Cz
namespace Cz
open Go Go.RowKit Go.Proofs
namespace Fa
theorem qmh : ∀ (k : Nat), repS k [.i .u8 (.l 0)] = List.replicate k (.i .u8 (.l 0))
  | 0 => rfl
  | k + 1 => by rw [List.replicate_succ, ← qmh k]; rfl
theorem s_mkz {S : Sy} {n c : Int} {K : List SV → Prop} (hS : S0 Tryz.prog = S) (hc : n = c) (h0 : 0 ≤ n) (h1 : n ≤ 16384)
    (h : ∀ (F : List SV) (x : List UInt8), (F.length : Int) = n → plains F = true → (∀ (S : Sy) (K : List UInt8 → Prop), S0 Tryz.prog = S → K x → S.bs F 0 n K) → K F) : S.mkr [.i .u8 (.l 0)] n c K := by
  have hl : ((repS n.toNat [SV.i .u8 (.l 0)]).length : Int) = n := by rw [qmh, List.length_replicate]; omega
  have hp : plains (repS n.toNat [SV.i .u8 (.l 0)]) = true := by
    rw [qmh]
    generalize n.toNat = k
    induction k with
    | zero => rfl
    | succ k ih => rw [List.replicate_succ]; simp only [plains, plainV, ih, Bool.and_self]
  refine s_mk hS hc h0 (by omega) hp (h _ (List.replicate n.toNat 0) hl hp fun S K hS hK => ?_)
  subst hS
  refine ⟨Int.le_refl _, h0, List.replicate n.toNat 0, ⟨by simp, fun q c hc => ?_⟩, hK⟩
  have hq := (List.getElem?_eq_some_iff.1 hc).1
  rw [List.length_replicate] at hq
  rw [List.getElem?_replicate_of_lt hq] at hc
  cases hc
  exact ⟨.l 0, by rw [qmh, List.getElem?_replicate_of_lt (by simpa using hq)], rfl⟩
section
variable {S : Sy} {bl : List Blk} {K : SV → List Blk → Prop} {F : List SV} {x : List UInt8} {n b0 b1 b2 N : Int}
theorem put_nu (hS : S0 Tryz.prog = S) (h0 : 0 ≤ n) (h1 : n ≤ 16384) (hp : plains F = true) (hl : (F.length : Int) = n) (hb : ∀ (S : Sy) (K : List UInt8 → Prop), S0 Tryz.prog = S → K x → S.bs F 0 n K) (e0 : b0 = n % 256) (e1 : b1 = n / 256 % 256) (e2 : b2 = n / 65536) (eN : N = n + 9)
    {k : Nat} {a0 a1 a2 : SV} {o m : Z} {c : Option Z} {r : List SV} (ha : FzL bl id (others [k] (len bl)) [.ag (a0 :: a1 :: a2 :: .sl k 1 o m c :: r)] [FR 0 0 1 F (.y n) (.l 0) (.l 0) (.l 0) [] (.l 0)])
    (hK : ∀ st, K (.sl (len bl) 1 (.l 0) (.y N) none) (snoc (frzL [k] 0 bl) (.r false false (.y st) 1 (GB b2 b1 b0 F)))) : S.call 8 [.ag (a0 :: a1 :: a2 :: .sl k 1 o m c :: r)] bl K :=
  qvy hS [k] (put_n h0 h1 hp hl hb e0 e1 e2 eN) ha (by simp [refsBL, refsB]) ⟨⟨by decide, by simp [plains, plainV, hp]⟩, trivial⟩ fun sts => hK _
theorem whole_nu (hS : S0 Tryz.prog = S) (h0 : 0 ≤ n) (h1 : n ≤ 16384) (hp : plains F = true) (hl : (F.length : Int) = n) (e0 : b0 = n % 256) (e1 : b1 = n / 256 % 256) (e2 : b2 = n / 65536) (eN : N = n + 9)
    {k : Nat} {lit : Bool} {st : Z} {X : List SV} {c : Option Z} (hX : X = GB b2 b1 b0 F) (hB : bl[k]? = some (.r false lit st 1 X)) (hk : kpOf (others [k] (len bl)) k = none)
    (hK : ∀ st', K (.tp [.ag [.i .i64 (.y n), .i .u8 (.l 0), .i .u8 (.l 0), .i .i64 (.l 1)], .v true 1 F (.y n), .sl (len bl) 1 (.l 0) (.l 0) none, .i .i64 (.l 0)]) (snoc (frzL [k] 0 bl) (.r false false (.y st') 1 []))) : S.call 37 [.sl k 1 (.l 0) (.y N) c] bl K :=
  qvy hS [k] (whole_n h0 h1 hp hl e0 e1 e2 eN) (.cons (qzaas hB hk hX (by simp; omega) (by simp [plains, plainV, hp])) .nil) (by simp [refsBL, refsB]) ⟨⟨by decide, rfl⟩, trivial⟩ fun sts => hK _
end
theorem oct_nr {F : List SV} {n : Int} (h0 : 0 ≤ n) (h1 : n ≤ 16384) {b0 b1 b2 N : Int} (e0 : b0 = n % 256) (e1 : b1 = n / 256 % 256) (e2 : b2 = n / 65536) (eN : N = n + 9) : (S0 Tryz.prog).call 38 [.sl 0 1 (.l 0) (.y N) none, .i .i64 (.l 0), .i .i64 (.l 3)] [.r true true (.l 0) 1 (GB b2 b1 b0 F)] (fun x _ => Sub x (.tp [.i .i64 (.y n), .i .i64 (.l 0)])) := by
  generalize hS : S0 Tryz.prog = S
  refine qaa hS I.qah ?_
  cbv
  repeat' (first | (refine qbz hS ?_; cbv) | (refine s_ck hS ?_; try cbv) | (refine qcz hS ?_ ?_ <;> intro h <;> (try cbv) <;> try exact s_ab h) | (refine s_sb hS ?_; intro _ _; try cbv) | (refine qme hS ?_; try cbv) | (refine qac hS ?_; cbv) | (refine qaa hS I.qae ?_; cbv) | (refine qri hS (c := 256) rfl ?_ (by simp only [lo]; omega) (by simp only [Cz.hi]; omega); intro _ _; cbv) | (refine s_orl hS (c := 256) (m := 8) rfl (by omega) (by omega) (by omega) (by omega) (by simp only [Cz.hi]; omega) ?_; intro _ _; cbv) | fail)
  all_goals first
    | exact qed (.cons (qad (by simp only [Z.v]; omega)) (.cons (qad rfl) .nil))
    | (exfalso; omega)
    | trace_state
  all_goals sorry
theorem oct_nru {S : Sy} {bl : List Blk} {K : SV → List Blk → Prop} {F : List SV} {n b0 b1 b2 N : Int} (hS : S0 Tryz.prog = S) (h0 : 0 ≤ n) (h1 : n ≤ 16384) (hp : plains F = true) (e0 : b0 = n % 256) (e1 : b1 = n / 256 % 256) (e2 : b2 = n / 65536) (eN : N = n + 9)
    {k : Nat} {ro lit : Bool} {st : Z} {X : List SV} (hX : X = GB b2 b1 b0 F) (hB : lget bl k = .r ro lit st 1 X) (hK : K (.tp [.i .i64 (.y n), .i .i64 (.l 0)]) bl) : S.call 38 [.sl k 1 (.l 0) (.y N) none, .i .i64 (.l 0), .i .i64 (.l 3)] bl K := by
  have hpG : plains (GB b2 b1 b0 F) = true := by simp [plains, plainV, hp]
  exact use_read hS (fun _ => k) (oct_nr h0 h1 e0 e1 e2 eN) .rfl rfl ⟨⟨true, .l 0, 1, GB b2 b1 b0 F, ro, lit, st, X, rfl, hpG, hB, by subst hX; exact FSub.rfl⟩, trivial⟩ rfl hK
end Fa
end Cz
namespace Cz
open Go Go.RowKit Go.Proofs
namespace Fa
theorem oct_s : (S0 Tryz.prog).call 38 [.v true 1 [.i .u8 (.l 0), .i .u8 (.l 0), .i .u8 (.l 0), .i .u8 (.l 4), .i .u8 (.l 0), .i .u8 (.l 0), .i .u8 (.l 0), .i .u8 (.l 0), .i .u8 (.l 0)] (.l 9), .i .i64 (.l 0), .i .i64 (.l 3)] [] (fun x _ => Sub x (.tp [.i .i64 (.l 0), .i .i64 (.l 0)])) := by
  generalize hS : S0 Tryz.prog = S
  refine qaa hS I.qah ?_
  cbv
  repeat' (first | (refine qbz hS ?_; cbv) | (refine qdr hS ?_; cbv) | (refine qac hS ?_; cbv) | (refine qaa hS I.qae ?_; cbv) | fail)
  all_goals exact qed (.cons (qad rfl) (.cons (qad rfl) .nil))
theorem ocs_s : (S0 Tryz.prog).call 109 [.v true 1 [.i .u8 (.l 0), .i .u8 (.l 0), .i .u8 (.l 0), .i .u8 (.l 4), .i .u8 (.l 0), .i .u8 (.l 0), .i .u8 (.l 0), .i .u8 (.l 0), .i .u8 (.l 0)] (.l 9), .i .i64 (.l 5)] [] (fun x _ => Sub x (.tp [.i .i64 (.l 0), .i .i64 (.l 0)])) := by
  generalize hS : S0 Tryz.prog = S
  refine qaa hS I.qbr ?_
  cbv
  repeat' (first | (refine qbz hS ?_; cbv) | (refine qdr hS ?_; cbv) | (refine qac hS ?_; cbv) | (refine qaa hS I.qah ?_; cbv) | (refine qaa hS I.qae ?_; cbv) | fail)
  all_goals exact qed (.cons (qad rfl) (.cons (qad rfl) .nil))
theorem whole_s : (S0 Tryz.prog).call 37 [.v true 1 [.i .u8 (.l 0), .i .u8 (.l 0), .i .u8 (.l 0), .i .u8 (.l 4), .i .u8 (.l 0), .i .u8 (.l 0), .i .u8 (.l 0), .i .u8 (.l 0), .i .u8 (.l 0)] (.l 9)] [] (Kept [(1, [])] (fun m => .tp [.ag [.i .i64 (.l 0), .i .u8 (.l 4), .i .u8 (.l 0), .i .i64 (.l 0)], .v true 1 [] (.l 0), .sl m 1 (.l 0) (.l 0) none, .i .i64 (.l 0)])) := by
  generalize hS : S0 Tryz.prog = S
  refine qaa hS I.qcc ?_
  cbv
  repeat' (first | (refine qaw hS oct_s .rfl rfl rfl ?_; cbv) | (refine qaw hS ocs_s .rfl rfl rfl ?_; cbv) | (refine qaa hS I.qao ?_; cbv) | (refine qaa hS I.qcm ?_; cbv) | (refine qaf hS rfl I.qbq (by decide +kernel) ?_; cbv) | (refine qaf hS rfl I.qbp (by decide +kernel) ?_; cbv) | (refine qaf hS rfl I.qbj (by decide +kernel) ?_; cbv) | (refine qji hS (fun _ => ?_) ?_ <;> cbv) | fail)
  all_goals first
    | (refine ⟨[some 3], ⟨⟨_, _, _, rfl, FSub.rfl⟩, rfl, trivial⟩, fun m => ?_⟩; (repeat' (first | exact .nil | refine .cons ?_ ?_ | (refine .tp ?_) | (refine .ag ?_) | exact .keep (i := 0) rfl rfl rfl | exact .nilk (i := 0) rfl rfl rfl | exact .sub .rfl rfl | exact .sub (qad rfl) rfl | exact .nil (by decide) rfl | exact qag rfl rfl rfl rfl rfl | fail)); done)
    | (refine ⟨[some 4], ⟨⟨_, _, _, rfl, FSub.rfl⟩, rfl, trivial⟩, fun m => ?_⟩; (repeat' (first | exact .nil | refine .cons ?_ ?_ | (refine .tp ?_) | (refine .ag ?_) | exact .keep (i := 0) rfl rfl rfl | exact .nilk (i := 0) rfl rfl rfl | exact .sub .rfl rfl | exact .sub (qad rfl) rfl | exact .nil (by decide) rfl | exact qag rfl rfl rfl rfl rfl | fail)); done)
    | (refine ⟨[some 2], ⟨⟨_, _, _, rfl, FSub.rfl⟩, rfl, trivial⟩, fun m => ?_⟩; (repeat' (first | exact .nil | refine .cons ?_ ?_ | (refine .tp ?_) | (refine .ag ?_) | exact .keep (i := 0) rfl rfl rfl | exact .nilk (i := 0) rfl rfl rfl | exact .sub .rfl rfl | exact .sub (qad rfl) rfl | exact .nil (by decide) rfl | exact qag rfl rfl rfl rfl rfl | fail)); done)
    | (refine ⟨[some 5], ⟨⟨_, _, _, rfl, FSub.rfl⟩, rfl, trivial⟩, fun m => ?_⟩; (repeat' (first | exact .nil | refine .cons ?_ ?_ | (refine .tp ?_) | (refine .ag ?_) | exact .keep (i := 0) rfl rfl rfl | exact .nilk (i := 0) rfl rfl rfl | exact .sub .rfl rfl | exact .sub (qad rfl) rfl | exact .nil (by decide) rfl | exact qag rfl rfl rfl rfl rfl | fail)); done)
    | (refine ⟨[none], ⟨rfl, trivial⟩, fun m => ?_⟩; (repeat' (first | exact .nil | refine .cons ?_ ?_ | (refine .tp ?_) | (refine .ag ?_) | exact .keep (i := 0) rfl rfl rfl | exact .nilk (i := 0) rfl rfl rfl | exact .sub .rfl rfl | exact .sub (qad rfl) rfl | exact .nil (by decide) rfl | exact qag rfl rfl rfl rfl rfl | fail)); done)
theorem whole_su {S : Sy} {bl : List Blk} {K : SV → List Blk → Prop} (hS : S0 Tryz.prog = S) {k : Nat} {o n : Z} {c : Option Z} (ha : FzL bl id (others [k] (len bl)) [.sl k 1 o n c] [.v true 1 [.i .u8 (.l 0), .i .u8 (.l 0), .i .u8 (.l 0), .i .u8 (.l 4), .i .u8 (.l 0), .i .u8 (.l 0), .i .u8 (.l 0), .i .u8 (.l 0), .i .u8 (.l 0)] (.l 9)]) (hK : ∀ st, K (.tp [.ag [.i .i64 (.l 0), .i .u8 (.l 4), .i .u8 (.l 0), .i .i64 (.l 0)], .v true 1 [] (.l 0), .sl (len bl) 1 (.l 0) (.l 0) none, .i .i64 (.l 0)]) (litsL (snoc (frzL [k] 0 bl) (.r false false (.y st) 1 [])))) : S.call 37 [.sl k 1 o n c] bl K :=
  qgg hS [k] whole_s ha rfl ⟨⟨by decide, rfl⟩, trivial⟩ fun sts => hK _
theorem oct_sh : (S0 Tryz.prog).call 38 [.v true 1 [.i .u8 (.l 0), .i .u8 (.l 0), .i .u8 (.l 0), .i .u8 (.l 4), .i .u8 (.l 0), .i .u8 (.l 0), .i .u8 (.l 0), .i .u8 (.l 0), .i .u8 (.l 0), .i .u8 (.l 0), .i .u8 (.l 0), .i .u8 (.l 1), .i .u8 (.l 1), .i .u8 (.l 4), .i .u8 (.l 0), .i .u8 (.l 0), .i .u8 (.l 0), .i .u8 (.l 1), .i .u8 (.l 134)] (.l 19), .i .i64 (.l 0), .i .i64 (.l 3)] [] (fun x _ => Sub x (.tp [.i .i64 (.l 0), .i .i64 (.l 0)])) := by
  generalize hS : S0 Tryz.prog = S
  refine qaa hS I.qah ?_
  cbv
  repeat' (first | (refine qbz hS ?_; cbv) | (refine qdr hS ?_; cbv) | (refine qac hS ?_; cbv) | (refine qaa hS I.qae ?_; cbv) | fail)
  all_goals exact qed (.cons (qad rfl) (.cons (qad rfl) .nil))
theorem ocs_sh : (S0 Tryz.prog).call 109 [.v true 1 [.i .u8 (.l 0), .i .u8 (.l 0), .i .u8 (.l 0), .i .u8 (.l 4), .i .u8 (.l 0), .i .u8 (.l 0), .i .u8 (.l 0), .i .u8 (.l 0), .i .u8 (.l 0), .i .u8 (.l 0), .i .u8 (.l 0), .i .u8 (.l 1), .i .u8 (.l 1), .i .u8 (.l 4), .i .u8 (.l 0), .i .u8 (.l 0), .i .u8 (.l 0), .i .u8 (.l 1), .i .u8 (.l 134)] (.l 19), .i .i64 (.l 5)] [] (fun x _ => Sub x (.tp [.i .i64 (.l 0), .i .i64 (.l 0)])) := by
  generalize hS : S0 Tryz.prog = S
  refine qaa hS I.qbr ?_
  cbv
  repeat' (first | (refine qbz hS ?_; cbv) | (refine qdr hS ?_; cbv) | (refine qac hS ?_; cbv) | (refine qaa hS I.qah ?_; cbv) | (refine qaa hS I.qae ?_; cbv) | fail)
  all_goals exact qed (.cons (qad rfl) (.cons (qad rfl) .nil))
theorem whole_sh : (S0 Tryz.prog).call 37 [.v true 1 [.i .u8 (.l 0), .i .u8 (.l 0), .i .u8 (.l 0), .i .u8 (.l 4), .i .u8 (.l 0), .i .u8 (.l 0), .i .u8 (.l 0), .i .u8 (.l 0), .i .u8 (.l 0), .i .u8 (.l 0), .i .u8 (.l 0), .i .u8 (.l 1), .i .u8 (.l 1), .i .u8 (.l 4), .i .u8 (.l 0), .i .u8 (.l 0), .i .u8 (.l 0), .i .u8 (.l 1), .i .u8 (.l 134)] (.l 19)] [] (Kept [(1, [.i .u8 (.l 0), .i .u8 (.l 0), .i .u8 (.l 1), .i .u8 (.l 1), .i .u8 (.l 4), .i .u8 (.l 0), .i .u8 (.l 0), .i .u8 (.l 0), .i .u8 (.l 1), .i .u8 (.l 134)])] (fun m => .tp [.ag [.i .i64 (.l 0), .i .u8 (.l 4), .i .u8 (.l 0), .i .i64 (.l 0)], .v true 1 [] (.l 0), .sl m 1 (.l 0) (.l 10) none, .i .i64 (.l 0)])) := by
  generalize hS : S0 Tryz.prog = S
  refine qaa hS I.qcc ?_
  cbv
  repeat' (first | (refine s_nl hS ?_; cbv) | (refine qaw hS oct_sh .rfl rfl rfl ?_; cbv) | (refine qaw hS ocs_sh .rfl rfl rfl ?_; cbv) | (refine qaa hS I.qao ?_; cbv) | (refine qaa hS I.qcm ?_; cbv) | (refine qaf hS rfl I.qbq (by decide +kernel) ?_; cbv) | (refine qaf hS rfl I.qbp (by decide +kernel) ?_; cbv) | (refine qaf hS rfl I.qbj (by decide +kernel) ?_; cbv) | (refine qji hS (fun _ => ?_) ?_ <;> cbv) | fail)
  all_goals first
    | (refine ⟨[some 3], ⟨⟨_, _, _, rfl, FSub.rfl⟩, rfl, trivial⟩, fun m => ?_⟩; (repeat' (first | exact .nil | refine .cons ?_ ?_ | (refine .tp ?_) | (refine .ag ?_) | exact .keep (i := 0) rfl rfl rfl | exact .nilk (i := 0) rfl rfl rfl | exact .sub .rfl rfl | exact .sub (qad rfl) rfl | exact .nil (by decide) rfl | exact qag rfl rfl rfl rfl rfl | fail)); done)
    | (refine ⟨[some 4], ⟨⟨_, _, _, rfl, FSub.rfl⟩, rfl, trivial⟩, fun m => ?_⟩; (repeat' (first | exact .nil | refine .cons ?_ ?_ | (refine .tp ?_) | (refine .ag ?_) | exact .keep (i := 0) rfl rfl rfl | exact .nilk (i := 0) rfl rfl rfl | exact .sub .rfl rfl | exact .sub (qad rfl) rfl | exact .nil (by decide) rfl | exact qag rfl rfl rfl rfl rfl | fail)); done)
    | (refine ⟨[some 2], ⟨⟨_, _, _, rfl, FSub.rfl⟩, rfl, trivial⟩, fun m => ?_⟩; (repeat' (first | exact .nil | refine .cons ?_ ?_ | (refine .tp ?_) | (refine .ag ?_) | exact .keep (i := 0) rfl rfl rfl | exact .nilk (i := 0) rfl rfl rfl | exact .sub .rfl rfl | exact .sub (qad rfl) rfl | exact .nil (by decide) rfl | exact qag rfl rfl rfl rfl rfl | fail)); done)
    | (refine ⟨[some 5], ⟨⟨_, _, _, rfl, FSub.rfl⟩, rfl, trivial⟩, fun m => ?_⟩; (repeat' (first | exact .nil | refine .cons ?_ ?_ | (refine .tp ?_) | (refine .ag ?_) | exact .keep (i := 0) rfl rfl rfl | exact .nilk (i := 0) rfl rfl rfl | exact .sub .rfl rfl | exact .sub (qad rfl) rfl | exact .nil (by decide) rfl | exact qag rfl rfl rfl rfl rfl | fail)); done)
theorem whole_shu {S : Sy} {bl : List Blk} {K : SV → List Blk → Prop} (hS : S0 Tryz.prog = S) {k : Nat} {o n : Z} {c : Option Z} (ha : FzL bl id (others [k] (len bl)) [.sl k 1 o n c] [.v true 1 [.i .u8 (.l 0), .i .u8 (.l 0), .i .u8 (.l 0), .i .u8 (.l 4), .i .u8 (.l 0), .i .u8 (.l 0), .i .u8 (.l 0), .i .u8 (.l 0), .i .u8 (.l 0), .i .u8 (.l 0), .i .u8 (.l 0), .i .u8 (.l 1), .i .u8 (.l 1), .i .u8 (.l 4), .i .u8 (.l 0), .i .u8 (.l 0), .i .u8 (.l 0), .i .u8 (.l 1), .i .u8 (.l 134)] (.l 19)]) (hK : ∀ st, K (.tp [.ag [.i .i64 (.l 0), .i .u8 (.l 4), .i .u8 (.l 0), .i .i64 (.l 0)], .v true 1 [] (.l 0), .sl (len bl) 1 (.l 0) (.l 10) none, .i .i64 (.l 0)]) (litsL (snoc (frzL [k] 0 bl) (.r false false (.y st) 1 [.i .u8 (.l 0), .i .u8 (.l 0), .i .u8 (.l 1), .i .u8 (.l 1), .i .u8 (.l 4), .i .u8 (.l 0), .i .u8 (.l 0), .i .u8 (.l 0), .i .u8 (.l 1), .i .u8 (.l 134)])))) : S.call 37 [.sl k 1 o n c] bl K :=
  qgg hS [k] whole_sh ha rfl ⟨⟨by decide, rfl⟩, trivial⟩ fun sts => hK _
end Fa
end Cz
namespace Cz
open Go Go.RowKit Go.Proofs
namespace Fa
theorem wread_1 {S : Sy} (hS : S0 Tryz.prog = S) {bl : List Blk} {K : SV → List Blk → Prop} (hL : LessL bl [.dead, .dead, .dead, .dead, .dead, .dead, .dead, .r false true (.l 9) 1 [.i .u8 (.l 0), .i .u8 (.l 0), .i .u8 (.l 0), .i .u8 (.l 4), .i .u8 (.l 0), .i .u8 (.l 0), .i .u8 (.l 0), .i .u8 (.l 0), .i .u8 (.l 0)], .dead, .dead, .dead, .dead, .m [], .c [.re (.slice none 0 0), .ff, .i .u8 (.l 0), .i .u8 (.l 0), .i .i64 (.l 0), .re (.slice none 0 0), .i .i64 (.l 0), .i .i64 (.l 0), .i .i64 (.l 0), .i .u32 (.l 0), .re (.slice none 0 0), .ff, .ff, .i .i64 (.l 0), .i .u8 (.l 0), .i .i64 (.l 4096), .re (.slice none 0 0), .i .i64 (.l 4096), .i .i64 (.l 65535), .i .i64 (.l 65535), .i .i64 (.l 0), .re (.slice none 0 0), .re (.slice none 0 0), .m 12, .re (.slice none 0 0), .i .i64 (.l 0)], .dead, .dead, .m [], .c [.re (.slice none 0 0), .ff, .i .u8 (.l 0), .i .u8 (.l 0), .i .i64 (.l 0), .re (.slice none 0 0), .i .i64 (.l 0), .i .i64 (.l 0), .i .i64 (.l 0), .i .u32 (.l 0), .re (.slice none 0 0), .ff, .ff, .i .i64 (.l 0), .i .u8 (.l 0), .i .i64 (.l 4096), .re (.slice none 0 0), .i .i64 (.l 4096), .i .i64 (.l 65535), .i .i64 (.l 65535), .i .i64 (.l 0), .re (.slice none 0 0), .re (.slice none 0 0), .m 16, .re (.slice none 0 0), .i .i64 (.l 0)], .dead, .dead, .m [], .c [.re (.slice none 0 0), .ff, .i .u8 (.l 0), .i .u8 (.l 0), .i .i64 (.l 0), .re (.slice none 0 0), .i .i64 (.l 0), .i .i64 (.l 0), .i .i64 (.l 0), .i .u32 (.l 0), .re (.slice none 0 0), .ff, .ff, .i .i64 (.l 0), .i .u8 (.l 0), .i .i64 (.l 4096), .re (.slice none 0 0), .i .i64 (.l 4096), .i .i64 (.l 65535), .i .i64 (.l 65535), .i .i64 (.l 0), .re (.slice none 0 0), .re (.slice none 0 0), .m 20, .re (.slice none 0 0), .i .i64 (.l 0)]])
    (hK : ∀ st0 : Int, K (.tp [.sl 38 14 (.l 0) (.l 1) none, .i .i64 (.l 0)]) [.dead, .dead, .dead, .dead, .dead, .dead, .dead, .r false true (.l 9) 1 [.i .u8 (.l 0), .i .u8 (.l 0), .i .u8 (.l 0), .i .u8 (.l 4), .i .u8 (.l 0), .i .u8 (.l 0), .i .u8 (.l 0), .i .u8 (.l 0), .i .u8 (.l 0)], .dead, .dead, .dead, .dead, .m [], .c [.sl 29 1 (.l 0) (.l 0) none, .tt, .i .u8 (.l 0), .i .u8 (.l 0), .i .i64 (.l 0), .re (.slice none 0 0), .i .i64 (.l 0), .i .i64 (.l 0), .i .i64 (.l 0), .i .u32 (.l 0), .re (.slice none 0 0), .ff, .ff, .i .i64 (.l 0), .i .u8 (.l 0), .i .i64 (.l 4096), .re (.slice none 0 0), .i .i64 (.l 4096), .i .i64 (.l 65535), .i .i64 (.l 65535), .i .i64 (.l 0), .re (.slice none 0 0), .re (.slice none 0 0), .m 12, .re (.slice none 0 0), .i .i64 (.l 0)], .dead, .dead, .m [], .c [.re (.slice none 0 0), .ff, .i .u8 (.l 0), .i .u8 (.l 0), .i .i64 (.l 0), .re (.slice none 0 0), .i .i64 (.l 0), .i .i64 (.l 0), .i .i64 (.l 0), .i .u32 (.l 0), .re (.slice none 0 0), .ff, .ff, .i .i64 (.l 0), .i .u8 (.l 0), .i .i64 (.l 4096), .re (.slice none 0 0), .i .i64 (.l 4096), .i .i64 (.l 65535), .i .i64 (.l 65535), .i .i64 (.l 0), .re (.slice none 0 0), .re (.slice none 0 0), .m 16, .re (.slice none 0 0), .i .i64 (.l 0)], .dead, .dead, .m [], .c [.re (.slice none 0 0), .ff, .i .u8 (.l 0), .i .u8 (.l 0), .i .i64 (.l 0), .re (.slice none 0 0), .i .i64 (.l 0), .i .i64 (.l 0), .i .i64 (.l 0), .i .u32 (.l 0), .re (.slice none 0 0), .ff, .ff, .i .i64 (.l 0), .i .u8 (.l 0), .i .i64 (.l 4096), .re (.slice none 0 0), .i .i64 (.l 4096), .i .i64 (.l 65535), .i .i64 (.l 65535), .i .i64 (.l 0), .re (.slice none 0 0), .re (.slice none 0 0), .m 20, .re (.slice none 0 0), .i .i64 (.l 0)], .dead, .dead, .dead, .dead, .dead, .dead, .dead, .r false true (.y st0) 1 [], .dead, .dead, .dead, .dead, .dead, .dead, .dead, .dead, .dead, .dead]) : S.call 10 [.p 13 0, .sl 7 1 (.l 0) (.l 9) none] bl K := by
  refine qmf hS hL ?_
  refine qil hS [7, 12, 13, 16, 17, 20, 21, 29] ?_
  refine qaa hS I.qbe ?_
  cbv
  repeat' (first | (refine qdo hS ?_; cbv) | (refine qbz hS ?_; cbv) | (refine qdr hS ?_; cbv) | (refine qkw hS rfl ?_; cbv) | (refine qac hS ?_; cbv) | (refine qjh hS rfl rfl ?_; cbv) | (refine qap hS (take_s (L := 0)) ?_ rfl ?_; (focus ((repeat' (first | exact .nil | refine .cons ?_ ?_ | exact .rfl | exact qad rfl | (refine qem ?_) | fail)); done)); cbv) | (refine whole_su hS ?_ ?_; (focus ((repeat' (first | exact .nil | refine .cons ?_ ?_ | (refine .ag ?_) | exact .sub .rfl rfl | exact .sub (qad rfl) rfl | exact .nil (by decide) rfl | exact qag rfl rfl rfl rfl rfl | fail)); done)); intro _; cbv) | (refine qjw hS ?_ ?_; (focus ((repeat' (first | exact .nil | refine .cons ?_ ?_ | (refine .ag ?_) | exact .sub .rfl rfl | exact .sub (qad rfl) rfl | exact .nil (by decide) rfl | exact qag rfl rfl rfl rfl rfl | fail)); done)); cbv) | (refine qaa hS I.qbi ?_; cbv) | (refine qaa hS I.qbm ?_; cbv) | (refine qcb hS I.qau ?_; cbv) | (refine qaa hS I.qah ?_; cbv) | (refine qaa hS I.qct ?_; cbv) | (refine qaa hS I.qak ?_; cbv) | (refine qaa hS I.qae ?_; cbv) | (refine qaa hS I.qal ?_; cbv) | (refine qaf hS rfl I.qbc (by decide +kernel) ?_; cbv) | (refine qaf hS rfl I.qbb (by decide +kernel) ?_; cbv) | (refine qaf hS rfl I.qay (by decide +kernel) ?_; cbv) | (refine qrj hS ?_; try cbv) | (refine s_lk hS ?_; try cbv) | (refine s_mu hS ?_; try cbv) | fail)
  all_goals exact hK _
end Fa
end Cz
namespace Cz
open Go Go.RowKit Go.Proofs
namespace Fa
theorem oct_e : (S0 Tryz.prog).call 38 [.v true 1 [.i .u8 (.l 0), .i .u8 (.l 0), .i .u8 (.l 1), .i .u8 (.l 0), .i .u8 (.l 1), .i .u8 (.l 0), .i .u8 (.l 0), .i .u8 (.l 0), .i .u8 (.l 1), .i .u8 (.l 7)] (.l 10), .i .i64 (.l 0), .i .i64 (.l 3)] [] (fun x _ => Sub x (.tp [.i .i64 (.l 1), .i .i64 (.l 0)])) := by
  generalize hS : S0 Tryz.prog = S
  refine qaa hS I.qah ?_
  cbv
  repeat' (first | (refine qbz hS ?_; cbv) | (refine qdr hS ?_; cbv) | (refine qac hS ?_; cbv) | (refine qaa hS I.qae ?_; cbv) | fail)
  all_goals exact qed (.cons (qad rfl) (.cons (qad rfl) .nil))
theorem ocs_e : (S0 Tryz.prog).call 109 [.v true 1 [.i .u8 (.l 0), .i .u8 (.l 0), .i .u8 (.l 1), .i .u8 (.l 0), .i .u8 (.l 1), .i .u8 (.l 0), .i .u8 (.l 0), .i .u8 (.l 0), .i .u8 (.l 1), .i .u8 (.l 7)] (.l 10), .i .i64 (.l 5)] [] (fun x _ => Sub x (.tp [.i .i64 (.l 1), .i .i64 (.l 0)])) := by
  generalize hS : S0 Tryz.prog = S
  refine qaa hS I.qbr ?_
  cbv
  repeat' (first | (refine qbz hS ?_; cbv) | (refine qdr hS ?_; cbv) | (refine qac hS ?_; cbv) | (refine qaa hS I.qah ?_; cbv) | (refine qaa hS I.qae ?_; cbv) | fail)
  all_goals exact qed (.cons (qad rfl) (.cons (qad rfl) .nil))
theorem whole_e : (S0 Tryz.prog).call 37 [.v true 1 [.i .u8 (.l 0), .i .u8 (.l 0), .i .u8 (.l 1), .i .u8 (.l 0), .i .u8 (.l 1), .i .u8 (.l 0), .i .u8 (.l 0), .i .u8 (.l 0), .i .u8 (.l 1), .i .u8 (.l 7)] (.l 10)] [] (Kept [(1, [])] (fun m => .tp [.ag [.i .i64 (.l 1), .i .u8 (.l 0), .i .u8 (.l 1), .i .i64 (.l 1)], .v true 1 [.i .u8 (.l 7)] (.l 1), .sl m 1 (.l 0) (.l 0) none, .i .i64 (.l 0)])) := by
  generalize hS : S0 Tryz.prog = S
  refine qaa hS I.qcc ?_
  cbv
  repeat' (first | (refine s_nl hS ?_; cbv) | (refine qaw hS oct_e .rfl rfl rfl ?_; cbv) | (refine qaw hS ocs_e .rfl rfl rfl ?_; cbv) | (refine qaa hS I.qao ?_; cbv) | (refine qaa hS I.qcm ?_; cbv) | (refine qaf hS rfl I.qbq (by decide +kernel) ?_; cbv) | (refine qaf hS rfl I.qbp (by decide +kernel) ?_; cbv) | (refine qaf hS rfl I.qbj (by decide +kernel) ?_; cbv) | (refine qji hS (fun _ => ?_) ?_ <;> cbv) | fail)
  all_goals first
    | (refine ⟨[some 3], ⟨⟨_, _, _, rfl, FSub.rfl⟩, rfl, trivial⟩, fun m => ?_⟩; (repeat' (first | exact .nil | refine .cons ?_ ?_ | (refine .tp ?_) | (refine .ag ?_) | exact .keep (i := 0) rfl rfl rfl | exact .nilk (i := 0) rfl rfl rfl | exact .sub .rfl rfl | exact .sub (qad rfl) rfl | exact .nil (by decide) rfl | exact qag rfl rfl rfl rfl rfl | fail)); done)
    | (refine ⟨[some 4], ⟨⟨_, _, _, rfl, FSub.rfl⟩, rfl, trivial⟩, fun m => ?_⟩; (repeat' (first | exact .nil | refine .cons ?_ ?_ | (refine .tp ?_) | (refine .ag ?_) | exact .keep (i := 0) rfl rfl rfl | exact .nilk (i := 0) rfl rfl rfl | exact .sub .rfl rfl | exact .sub (qad rfl) rfl | exact .nil (by decide) rfl | exact qag rfl rfl rfl rfl rfl | fail)); done)
    | (refine ⟨[some 2], ⟨⟨_, _, _, rfl, FSub.rfl⟩, rfl, trivial⟩, fun m => ?_⟩; (repeat' (first | exact .nil | refine .cons ?_ ?_ | (refine .tp ?_) | (refine .ag ?_) | exact .keep (i := 0) rfl rfl rfl | exact .nilk (i := 0) rfl rfl rfl | exact .sub .rfl rfl | exact .sub (qad rfl) rfl | exact .nil (by decide) rfl | exact qag rfl rfl rfl rfl rfl | fail)); done)
    | (refine ⟨[some 5], ⟨⟨_, _, _, rfl, FSub.rfl⟩, rfl, trivial⟩, fun m => ?_⟩; (repeat' (first | exact .nil | refine .cons ?_ ?_ | (refine .tp ?_) | (refine .ag ?_) | exact .keep (i := 0) rfl rfl rfl | exact .nilk (i := 0) rfl rfl rfl | exact .sub .rfl rfl | exact .sub (qad rfl) rfl | exact .nil (by decide) rfl | exact qag rfl rfl rfl rfl rfl | fail)); done)
    | (refine ⟨[none], ⟨rfl, trivial⟩, fun m => ?_⟩; (repeat' (first | exact .nil | refine .cons ?_ ?_ | (refine .tp ?_) | (refine .ag ?_) | exact .keep (i := 0) rfl rfl rfl | exact .nilk (i := 0) rfl rfl rfl | exact .sub .rfl rfl | exact .sub (qad rfl) rfl | exact .nil (by decide) rfl | exact qag rfl rfl rfl rfl rfl | fail)); done)
theorem whole_eu {S : Sy} {bl : List Blk} {K : SV → List Blk → Prop} (hS : S0 Tryz.prog = S) {k : Nat} {o n : Z} {c : Option Z} (ha : FzL bl id (others [k] (len bl)) [.sl k 1 o n c] [.v true 1 [.i .u8 (.l 0), .i .u8 (.l 0), .i .u8 (.l 1), .i .u8 (.l 0), .i .u8 (.l 1), .i .u8 (.l 0), .i .u8 (.l 0), .i .u8 (.l 0), .i .u8 (.l 1), .i .u8 (.l 7)] (.l 10)]) (hK : ∀ st, K (.tp [.ag [.i .i64 (.l 1), .i .u8 (.l 0), .i .u8 (.l 1), .i .i64 (.l 1)], .v true 1 [.i .u8 (.l 7)] (.l 1), .sl (len bl) 1 (.l 0) (.l 0) none, .i .i64 (.l 0)]) (litsL (snoc (frzL [k] 0 bl) (.r false false (.y st) 1 [])))) : S.call 37 [.sl k 1 o n c] bl K :=
  qgg hS [k] whole_e ha rfl ⟨⟨by decide, rfl⟩, trivial⟩ fun sts => hK _
theorem oct_sz : (S0 Tryz.prog).call 38 [.v true 1 [.i .u8 (.l 0), .i .u8 (.l 0), .i .u8 (.l 0), .i .u8 (.l 4), .i .u8 (.l 0), .i .u8 (.l 0), .i .u8 (.l 0), .i .u8 (.l 0), .i .u8 (.l 0), .i .u8 (.l 0), .i .u8 (.l 0), .i .u8 (.l 0), .i .u8 (.l 0), .i .u8 (.l 0), .i .u8 (.l 0), .i .u8 (.l 0), .i .u8 (.l 0), .i .u8 (.l 1)] (.l 18), .i .i64 (.l 0), .i .i64 (.l 3)] [] (fun x _ => Sub x (.tp [.i .i64 (.l 0), .i .i64 (.l 0)])) := by
  generalize hS : S0 Tryz.prog = S
  refine qaa hS I.qah ?_
  cbv
  repeat' (first | (refine qbz hS ?_; cbv) | (refine qdr hS ?_; cbv) | (refine qac hS ?_; cbv) | (refine qaa hS I.qae ?_; cbv) | fail)
  all_goals exact qed (.cons (qad rfl) (.cons (qad rfl) .nil))
theorem ocs_sz : (S0 Tryz.prog).call 109 [.v true 1 [.i .u8 (.l 0), .i .u8 (.l 0), .i .u8 (.l 0), .i .u8 (.l 4), .i .u8 (.l 0), .i .u8 (.l 0), .i .u8 (.l 0), .i .u8 (.l 0), .i .u8 (.l 0), .i .u8 (.l 0), .i .u8 (.l 0), .i .u8 (.l 0), .i .u8 (.l 0), .i .u8 (.l 0), .i .u8 (.l 0), .i .u8 (.l 0), .i .u8 (.l 0), .i .u8 (.l 1)] (.l 18), .i .i64 (.l 5)] [] (fun x _ => Sub x (.tp [.i .i64 (.l 0), .i .i64 (.l 0)])) := by
  generalize hS : S0 Tryz.prog = S
  refine qaa hS I.qbr ?_
  cbv
  repeat' (first | (refine qbz hS ?_; cbv) | (refine qdr hS ?_; cbv) | (refine qac hS ?_; cbv) | (refine qaa hS I.qah ?_; cbv) | (refine qaa hS I.qae ?_; cbv) | fail)
  all_goals exact qed (.cons (qad rfl) (.cons (qad rfl) .nil))
theorem whole_sz : (S0 Tryz.prog).call 37 [.v true 1 [.i .u8 (.l 0), .i .u8 (.l 0), .i .u8 (.l 0), .i .u8 (.l 4), .i .u8 (.l 0), .i .u8 (.l 0), .i .u8 (.l 0), .i .u8 (.l 0), .i .u8 (.l 0), .i .u8 (.l 0), .i .u8 (.l 0), .i .u8 (.l 0), .i .u8 (.l 0), .i .u8 (.l 0), .i .u8 (.l 0), .i .u8 (.l 0), .i .u8 (.l 0), .i .u8 (.l 1)] (.l 18)] [] (Kept [(1, [.i .u8 (.l 0), .i .u8 (.l 0), .i .u8 (.l 0), .i .u8 (.l 0), .i .u8 (.l 0), .i .u8 (.l 0), .i .u8 (.l 0), .i .u8 (.l 0), .i .u8 (.l 1)])] (fun m => .tp [.ag [.i .i64 (.l 0), .i .u8 (.l 4), .i .u8 (.l 0), .i .i64 (.l 0)], .v true 1 [] (.l 0), .sl m 1 (.l 0) (.l 9) none, .i .i64 (.l 0)])) := by
  generalize hS : S0 Tryz.prog = S
  refine qaa hS I.qcc ?_
  cbv
  repeat' (first | (refine s_nl hS ?_; cbv) | (refine qaw hS oct_sz .rfl rfl rfl ?_; cbv) | (refine qaw hS ocs_sz .rfl rfl rfl ?_; cbv) | (refine qaa hS I.qao ?_; cbv) | (refine qaa hS I.qcm ?_; cbv) | (refine qaf hS rfl I.qbq (by decide +kernel) ?_; cbv) | (refine qaf hS rfl I.qbp (by decide +kernel) ?_; cbv) | (refine qaf hS rfl I.qbj (by decide +kernel) ?_; cbv) | (refine qji hS (fun _ => ?_) ?_ <;> cbv) | fail)
  all_goals first
    | (refine ⟨[some 3], ⟨⟨_, _, _, rfl, FSub.rfl⟩, rfl, trivial⟩, fun m => ?_⟩; (repeat' (first | exact .nil | refine .cons ?_ ?_ | (refine .tp ?_) | (refine .ag ?_) | exact .keep (i := 0) rfl rfl rfl | exact .nilk (i := 0) rfl rfl rfl | exact .sub .rfl rfl | exact .sub (qad rfl) rfl | exact .nil (by decide) rfl | exact qag rfl rfl rfl rfl rfl | fail)); done)
    | (refine ⟨[some 4], ⟨⟨_, _, _, rfl, FSub.rfl⟩, rfl, trivial⟩, fun m => ?_⟩; (repeat' (first | exact .nil | refine .cons ?_ ?_ | (refine .tp ?_) | (refine .ag ?_) | exact .keep (i := 0) rfl rfl rfl | exact .nilk (i := 0) rfl rfl rfl | exact .sub .rfl rfl | exact .sub (qad rfl) rfl | exact .nil (by decide) rfl | exact qag rfl rfl rfl rfl rfl | fail)); done)
    | (refine ⟨[some 2], ⟨⟨_, _, _, rfl, FSub.rfl⟩, rfl, trivial⟩, fun m => ?_⟩; (repeat' (first | exact .nil | refine .cons ?_ ?_ | (refine .tp ?_) | (refine .ag ?_) | exact .keep (i := 0) rfl rfl rfl | exact .nilk (i := 0) rfl rfl rfl | exact .sub .rfl rfl | exact .sub (qad rfl) rfl | exact .nil (by decide) rfl | exact qag rfl rfl rfl rfl rfl | fail)); done)
    | (refine ⟨[some 5], ⟨⟨_, _, _, rfl, FSub.rfl⟩, rfl, trivial⟩, fun m => ?_⟩; (repeat' (first | exact .nil | refine .cons ?_ ?_ | (refine .tp ?_) | (refine .ag ?_) | exact .keep (i := 0) rfl rfl rfl | exact .nilk (i := 0) rfl rfl rfl | exact .sub .rfl rfl | exact .sub (qad rfl) rfl | exact .nil (by decide) rfl | exact qag rfl rfl rfl rfl rfl | fail)); done)
theorem whole_szu {S : Sy} {bl : List Blk} {K : SV → List Blk → Prop} (hS : S0 Tryz.prog = S) {k : Nat} {o n : Z} {c : Option Z} (ha : FzL bl id (others [k] (len bl)) [.sl k 1 o n c] [.v true 1 [.i .u8 (.l 0), .i .u8 (.l 0), .i .u8 (.l 0), .i .u8 (.l 4), .i .u8 (.l 0), .i .u8 (.l 0), .i .u8 (.l 0), .i .u8 (.l 0), .i .u8 (.l 0), .i .u8 (.l 0), .i .u8 (.l 0), .i .u8 (.l 0), .i .u8 (.l 0), .i .u8 (.l 0), .i .u8 (.l 0), .i .u8 (.l 0), .i .u8 (.l 0), .i .u8 (.l 1)] (.l 18)]) (hK : ∀ st, K (.tp [.ag [.i .i64 (.l 0), .i .u8 (.l 4), .i .u8 (.l 0), .i .i64 (.l 0)], .v true 1 [] (.l 0), .sl (len bl) 1 (.l 0) (.l 9) none, .i .i64 (.l 0)]) (litsL (snoc (frzL [k] 0 bl) (.r false false (.y st) 1 [.i .u8 (.l 0), .i .u8 (.l 0), .i .u8 (.l 0), .i .u8 (.l 0), .i .u8 (.l 0), .i .u8 (.l 0), .i .u8 (.l 0), .i .u8 (.l 0), .i .u8 (.l 1)])))) : S.call 37 [.sl k 1 o n c] bl K :=
  qgg hS [k] whole_sz ha rfl ⟨⟨by decide, rfl⟩, trivial⟩ fun sts => hK _
end Fa
end Cz
namespace Cz
open Go Go.RowKit Go.Proofs
namespace Fa
theorem oct_z : (S0 Tryz.prog).call 38 [.v true 1 [.i .u8 (.l 0), .i .u8 (.l 0), .i .u8 (.l 0), .i .u8 (.l 0), .i .u8 (.l 0), .i .u8 (.l 0), .i .u8 (.l 0), .i .u8 (.l 0), .i .u8 (.l 1)] (.l 9), .i .i64 (.l 0), .i .i64 (.l 3)] [] (fun x _ => Sub x (.tp [.i .i64 (.l 0), .i .i64 (.l 0)])) := by
  generalize hS : S0 Tryz.prog = S
  refine qaa hS I.qah ?_
  cbv
  repeat' (first | (refine qbz hS ?_; cbv) | (refine qdr hS ?_; cbv) | (refine qac hS ?_; cbv) | (refine qaa hS I.qae ?_; cbv) | fail)
  all_goals exact qed (.cons (qad rfl) (.cons (qad rfl) .nil))
theorem ocs_z : (S0 Tryz.prog).call 109 [.v true 1 [.i .u8 (.l 0), .i .u8 (.l 0), .i .u8 (.l 0), .i .u8 (.l 0), .i .u8 (.l 0), .i .u8 (.l 0), .i .u8 (.l 0), .i .u8 (.l 0), .i .u8 (.l 1)] (.l 9), .i .i64 (.l 5)] [] (fun x _ => Sub x (.tp [.i .i64 (.l 1), .i .i64 (.l 0)])) := by
  generalize hS : S0 Tryz.prog = S
  refine qaa hS I.qbr ?_
  cbv
  repeat' (first | (refine qbz hS ?_; cbv) | (refine qdr hS ?_; cbv) | (refine qac hS ?_; cbv) | (refine qaa hS I.qah ?_; cbv) | (refine qaa hS I.qae ?_; cbv) | fail)
  all_goals exact qed (.cons (qad rfl) (.cons (qad rfl) .nil))
theorem whole_z : (S0 Tryz.prog).call 37 [.v true 1 [.i .u8 (.l 0), .i .u8 (.l 0), .i .u8 (.l 0), .i .u8 (.l 0), .i .u8 (.l 0), .i .u8 (.l 0), .i .u8 (.l 0), .i .u8 (.l 0), .i .u8 (.l 1)] (.l 9)] [] (Kept [(1, [])] (fun m => .tp [.ag [.i .i64 (.l 0), .i .u8 (.l 0), .i .u8 (.l 0), .i .i64 (.l 1)], .v true 1 [] (.l 0), .sl m 1 (.l 0) (.l 0) none, .i .i64 (.l 0)])) := by
  generalize hS : S0 Tryz.prog = S
  refine qaa hS I.qcc ?_
  cbv
  repeat' (first | (refine qaw hS oct_z .rfl rfl rfl ?_; cbv) | (refine qaw hS ocs_z .rfl rfl rfl ?_; cbv) | (refine qaa hS I.qao ?_; cbv) | (refine qaa hS I.qcm ?_; cbv) | (refine qaf hS rfl I.qbq (by decide +kernel) ?_; cbv) | (refine qaf hS rfl I.qbp (by decide +kernel) ?_; cbv) | (refine qaf hS rfl I.qbj (by decide +kernel) ?_; cbv) | (refine qji hS (fun _ => ?_) ?_ <;> cbv) | fail)
  all_goals first
    | (refine ⟨[some 3], ⟨⟨_, _, _, rfl, FSub.rfl⟩, rfl, trivial⟩, fun m => ?_⟩; (repeat' (first | exact .nil | refine .cons ?_ ?_ | (refine .tp ?_) | (refine .ag ?_) | exact .keep (i := 0) rfl rfl rfl | exact .nilk (i := 0) rfl rfl rfl | exact .sub .rfl rfl | exact .sub (qad rfl) rfl | exact .nil (by decide) rfl | exact qag rfl rfl rfl rfl rfl | fail)); done)
    | (refine ⟨[some 4], ⟨⟨_, _, _, rfl, FSub.rfl⟩, rfl, trivial⟩, fun m => ?_⟩; (repeat' (first | exact .nil | refine .cons ?_ ?_ | (refine .tp ?_) | (refine .ag ?_) | exact .keep (i := 0) rfl rfl rfl | exact .nilk (i := 0) rfl rfl rfl | exact .sub .rfl rfl | exact .sub (qad rfl) rfl | exact .nil (by decide) rfl | exact qag rfl rfl rfl rfl rfl | fail)); done)
    | (refine ⟨[some 2], ⟨⟨_, _, _, rfl, FSub.rfl⟩, rfl, trivial⟩, fun m => ?_⟩; (repeat' (first | exact .nil | refine .cons ?_ ?_ | (refine .tp ?_) | (refine .ag ?_) | exact .keep (i := 0) rfl rfl rfl | exact .nilk (i := 0) rfl rfl rfl | exact .sub .rfl rfl | exact .sub (qad rfl) rfl | exact .nil (by decide) rfl | exact qag rfl rfl rfl rfl rfl | fail)); done)
    | (refine ⟨[some 5], ⟨⟨_, _, _, rfl, FSub.rfl⟩, rfl, trivial⟩, fun m => ?_⟩; (repeat' (first | exact .nil | refine .cons ?_ ?_ | (refine .tp ?_) | (refine .ag ?_) | exact .keep (i := 0) rfl rfl rfl | exact .nilk (i := 0) rfl rfl rfl | exact .sub .rfl rfl | exact .sub (qad rfl) rfl | exact .nil (by decide) rfl | exact qag rfl rfl rfl rfl rfl | fail)); done)
    | (refine ⟨[none], ⟨rfl, trivial⟩, fun m => ?_⟩; (repeat' (first | exact .nil | refine .cons ?_ ?_ | (refine .tp ?_) | (refine .ag ?_) | exact .keep (i := 0) rfl rfl rfl | exact .nilk (i := 0) rfl rfl rfl | exact .sub .rfl rfl | exact .sub (qad rfl) rfl | exact .nil (by decide) rfl | exact qag rfl rfl rfl rfl rfl | fail)); done)
theorem whole_zu {S : Sy} {bl : List Blk} {K : SV → List Blk → Prop} (hS : S0 Tryz.prog = S) {k : Nat} {o n : Z} {c : Option Z} (ha : FzL bl id (others [k] (len bl)) [.sl k 1 o n c] [.v true 1 [.i .u8 (.l 0), .i .u8 (.l 0), .i .u8 (.l 0), .i .u8 (.l 0), .i .u8 (.l 0), .i .u8 (.l 0), .i .u8 (.l 0), .i .u8 (.l 0), .i .u8 (.l 1)] (.l 9)]) (hK : ∀ st, K (.tp [.ag [.i .i64 (.l 0), .i .u8 (.l 0), .i .u8 (.l 0), .i .i64 (.l 1)], .v true 1 [] (.l 0), .sl (len bl) 1 (.l 0) (.l 0) none, .i .i64 (.l 0)]) (litsL (snoc (frzL [k] 0 bl) (.r false false (.y st) 1 [])))) : S.call 37 [.sl k 1 o n c] bl K :=
  qgg hS [k] whole_z ha rfl ⟨⟨by decide, rfl⟩, trivial⟩ fun sts => hK _
end Fa
end Cz
namespace Cz
open Go Go.RowKit Go.Proofs
namespace Fa
theorem wread_2 {S : Sy} (hS : S0 Tryz.prog = S) {z0 : Int} {bl : List Blk} {K : SV → List Blk → Prop} (hL : LessL bl [.dead, .dead, .dead, .dead, .dead, .dead, .dead, .r false true (.l 9) 1 [.i .u8 (.l 0), .i .u8 (.l 0), .i .u8 (.l 0), .i .u8 (.l 4), .i .u8 (.l 0), .i .u8 (.l 0), .i .u8 (.l 0), .i .u8 (.l 0), .i .u8 (.l 0)], .dead, .dead, .dead, .dead, .m [], .c [.sl 29 1 (.l 0) (.l 0) none, .tt, .i .u8 (.l 0), .i .u8 (.l 0), .i .i64 (.l 0), .re (.slice none 0 0), .i .i64 (.l 0), .i .i64 (.l 0), .i .i64 (.l 0), .i .u32 (.l 0), .re (.slice none 0 0), .ff, .ff, .i .i64 (.l 0), .i .u8 (.l 0), .i .i64 (.l 4096), .re (.slice none 0 0), .i .i64 (.l 4096), .i .i64 (.l 65535), .i .i64 (.l 65535), .i .i64 (.l 0), .re (.slice none 0 0), .re (.slice none 0 0), .m 12, .re (.slice none 0 0), .i .i64 (.l 0)], .dead, .dead, .m [], .c [.re (.slice none 0 0), .ff, .i .u8 (.l 0), .i .u8 (.l 0), .i .i64 (.l 0), .re (.slice none 0 0), .i .i64 (.l 0), .i .i64 (.l 0), .i .i64 (.l 0), .i .u32 (.l 0), .re (.slice none 0 0), .ff, .ff, .i .i64 (.l 0), .i .u8 (.l 0), .i .i64 (.l 4096), .re (.slice none 0 0), .i .i64 (.l 4096), .i .i64 (.l 65535), .i .i64 (.l 65535), .i .i64 (.l 0), .re (.slice none 0 0), .re (.slice none 0 0), .m 16, .re (.slice none 0 0), .i .i64 (.l 0)], .dead, .dead, .m [], .c [.re (.slice none 0 0), .ff, .i .u8 (.l 0), .i .u8 (.l 0), .i .i64 (.l 0), .re (.slice none 0 0), .i .i64 (.l 0), .i .i64 (.l 0), .i .i64 (.l 0), .i .u32 (.l 0), .re (.slice none 0 0), .ff, .ff, .i .i64 (.l 0), .i .u8 (.l 0), .i .i64 (.l 4096), .re (.slice none 0 0), .i .i64 (.l 4096), .i .i64 (.l 65535), .i .i64 (.l 65535), .i .i64 (.l 0), .re (.slice none 0 0), .re (.slice none 0 0), .m 20, .re (.slice none 0 0), .i .i64 (.l 0)], .dead, .dead, .dead, .dead, .dead, .dead, .dead, .r false true (.y z0) 1 [], .dead, .dead, .dead, .dead, .dead, .dead, .dead, .dead, .dead, .dead, .dead, .dead, .dead, .dead, .dead, .dead, .dead, .dead, .dead, .dead, .r false true (.l 9) 1 [.i .u8 (.l 0), .i .u8 (.l 0), .i .u8 (.l 1), .i .u8 (.l 1), .i .u8 (.l 4), .i .u8 (.l 0), .i .u8 (.l 0), .i .u8 (.l 0), .i .u8 (.l 1), .i .u8 (.l 134)], .dead, .dead])
    (hK : ∀ st0 : Int, K (.tp [.re (.slice none 0 0), .i .i64 (.l 304)]) [.dead, .dead, .dead, .dead, .dead, .dead, .dead, .r false true (.l 9) 1 [.i .u8 (.l 0), .i .u8 (.l 0), .i .u8 (.l 0), .i .u8 (.l 4), .i .u8 (.l 0), .i .u8 (.l 0), .i .u8 (.l 0), .i .u8 (.l 0), .i .u8 (.l 0)], .dead, .dead, .dead, .dead, .m [], .c [.sl 59 1 (.l 0) (.l 0) none, .tt, .i .u8 (.l 0), .i .u8 (.l 0), .i .i64 (.l 0), .re (.slice none 0 0), .i .i64 (.l 0), .i .i64 (.l 0), .i .i64 (.l 0), .i .u32 (.l 0), .re (.slice none 0 0), .ff, .ff, .i .i64 (.l 0), .i .u8 (.l 0), .i .i64 (.l 4096), .v true 2 [] (.l 0), .i .i64 (.l 4096), .i .i64 (.l 65535), .i .i64 (.l 65535), .i .i64 (.l 0), .re (.slice none 0 0), .re (.slice none 0 0), .m 12, .re (.slice none 0 0), .i .i64 (.l 304)], .dead, .dead, .m [], .c [.re (.slice none 0 0), .ff, .i .u8 (.l 0), .i .u8 (.l 0), .i .i64 (.l 0), .re (.slice none 0 0), .i .i64 (.l 0), .i .i64 (.l 0), .i .i64 (.l 0), .i .u32 (.l 0), .re (.slice none 0 0), .ff, .ff, .i .i64 (.l 0), .i .u8 (.l 0), .i .i64 (.l 4096), .re (.slice none 0 0), .i .i64 (.l 4096), .i .i64 (.l 65535), .i .i64 (.l 65535), .i .i64 (.l 0), .re (.slice none 0 0), .re (.slice none 0 0), .m 16, .re (.slice none 0 0), .i .i64 (.l 0)], .dead, .dead, .m [], .c [.re (.slice none 0 0), .ff, .i .u8 (.l 0), .i .u8 (.l 0), .i .i64 (.l 0), .re (.slice none 0 0), .i .i64 (.l 0), .i .i64 (.l 0), .i .i64 (.l 0), .i .u32 (.l 0), .re (.slice none 0 0), .ff, .ff, .i .i64 (.l 0), .i .u8 (.l 0), .i .i64 (.l 4096), .re (.slice none 0 0), .i .i64 (.l 4096), .i .i64 (.l 65535), .i .i64 (.l 65535), .i .i64 (.l 0), .re (.slice none 0 0), .re (.slice none 0 0), .m 20, .re (.slice none 0 0), .i .i64 (.l 0)], .dead, .dead, .dead, .dead, .dead, .dead, .dead, .dead, .dead, .dead, .dead, .dead, .dead, .dead, .dead, .dead, .dead, .dead, .dead, .dead, .dead, .dead, .dead, .dead, .dead, .dead, .dead, .dead, .dead, .dead, .dead, .dead, .dead, .dead, .dead, .dead, .dead, .r false true (.y st0) 1 [], .dead, .dead, .dead, .dead, .dead, .dead, .dead, .dead, .dead, .dead, .dead, .dead, .dead, .dead]) : S.call 10 [.p 13 0, .sl 50 1 (.l 0) (.l 10) none] bl K := by
  refine qmf hS hL ?_
  refine qil hS [7, 12, 13, 16, 17, 20, 21, 59] ?_
  refine qaa hS I.qbe ?_
  cbv
  repeat' (first | (refine qdo hS ?_; cbv) | (refine s_brn hS ?_; cbv) | (refine qbz hS ?_; cbv) | (refine qdr hS ?_; cbv) | (refine qac hS ?_; cbv) | (refine qjh hS rfl rfl ?_; cbv) | (refine qap hS (take_h (L := 1)) ?_ rfl ?_; (focus ((repeat' (first | exact .nil | refine .cons ?_ ?_ | exact .rfl | exact qad rfl | (refine qem ?_) | fail)); done)); cbv) | (refine qvx hS ?_ ?_; (focus ((repeat' (first | exact .nil | refine .cons ?_ ?_ | (refine .ag ?_) | exact .sub .rfl rfl | exact .sub (qad rfl) rfl | exact .nil (by decide) rfl | exact qag rfl rfl rfl rfl rfl | fail)); done)); intro _; cbv) | (refine qim hS rfl I.qdh (by decide +kernel) ?_; cbv; apply both; (focus (intro h; refine unb_u hS ?_ ?_; (focus ((repeat' (first | exact .nil | refine .cons ?_ ?_ | (refine .ag ?_) | exact .sub .rfl rfl | exact .sub (qad rfl) rfl | exact .nil (by decide) rfl | exact qag rfl rfl rfl rfl rfl | fail)); done)); cbv; exact h)); (focus (intro h; refine unb_u hS ?_ ?_; (focus ((repeat' (first | exact .nil | refine .cons ?_ ?_ | (refine .ag ?_) | exact .sub .rfl rfl | exact .sub (qad rfl) rfl | exact .nil (by decide) rfl | exact qag rfl rfl rfl rfl rfl | fail)); done)); cbv; exact h))) | (refine qaa hS I.qca ?_; cbv) | (refine qaa hS I.qhh ?_; cbv) | (refine qaa hS I.qbi ?_; cbv) | (refine qaa hS I.qbm ?_; cbv) | (refine qcb hS I.qau ?_; cbv) | (refine qaa hS I.qah ?_; cbv) | (refine qaa hS I.qak ?_; cbv) | (refine qaa hS I.qeo ?_; cbv) | (refine qaa hS I.qae ?_; cbv) | (refine qaa hS I.qal ?_; cbv) | (refine qaa hS I.qej ?_; cbv) | (refine qaf hS rfl I.qbc (by decide +kernel) ?_; cbv) | (refine qaf hS rfl I.qbb (by decide +kernel) ?_; cbv) | (refine qaf hS rfl I.qay (by decide +kernel) ?_; cbv) | (refine qaf hS rfl I.qdb (by decide +kernel) ?_; cbv) | (refine qaf hS rfl I.qdi (by decide +kernel) ?_; cbv) | (refine qrj hS ?_; try cbv) | (refine s_lk hS ?_; try cbv) | (refine s_mu hS ?_; try cbv) | fail)
  all_goals exact hK _
end Fa
end Cz
namespace Cz
open Go Go.RowKit Go.Proofs
namespace Fa
theorem known_6 : (S0 Tryz.prog).call 32 [.i .u8 (.l 6)] [] (fun x _ => Sub x (.ag [.i .i64 (.l 2), .any, .any, .fn (.func 102) [] []])) := by
  generalize hS : S0 Tryz.prog = S
  refine qaa hS I.qcw ?_
  cbv
  repeat' (first | (refine qaa hS I.qcx ?_; cbv) | (refine qaa hS I.qcu ?_; cbv) | (refine qaa hS I.qcv ?_; cbv) | (refine qaa hS I.qdd ?_; cbv) | (refine s_lk hS ?_; try cbv) | (refine s_mu hS ?_; try cbv) | fail)
  all_goals exact qem (.cons .rfl (.cons qnn (.cons qnn (.cons .rfl .nil))))
theorem puts_6 : (S0 Tryz.prog).call 102 [FR 6 0 0 [] (.l 0) (.l 0) (.l 0) (.l 0) [] (.l 0)] [] (Tell (.v true 1 [] (.l 0))) := by
  generalize hS : S0 Tryz.prog = S
  refine qaa hS I.qqd ?_
  cbv
  repeat' (first | (refine qaa hS I.qao ?_; cbv) | (refine qji hS (fun _ => ?_) ?_ <;> cbv) | fail)
  all_goals
    intro g
    repeat' (first | exact .nil | refine .cons ?_ ?_ | (refine .tp ?_) | (refine .ag ?_) | exact .sub .rfl rfl | exact .sub (qad rfl) rfl | exact .nil (by decide) rfl | exact qag rfl rfl rfl rfl rfl | fail)
theorem take_6 : (S0 Tryz.prog).call 31 [.ag [.i .i64 (.l 0), .i .u8 (.l 6), .i .u8 (.l 0), .i .i64 (.l 0)], .v true 1 [] (.l 0)] [] (Tell (.tp [FR 0 0 0 [] (.l 0) (.l 0) (.l 0) (.l 0) [] (.l 0), .ag [.tt, .i .i64 (.l 0), .i .u32 (.l 6)]])) := by
  generalize hS : S0 Tryz.prog = S
  refine qaa hS I.qbv ?_
  cbv
  repeat' (first | (refine qdo hS ?_; cbv) | (refine qbz hS ?_; cbv) | (refine qkw hS rfl ?_; cbv) | (refine qcz hS ?_ ?_ <;> intro h <;> (try cbv) <;> try exact s_ab h) | (refine qaa hS I.qcw ?_; cbv) | (refine qaa hS I.qbu ?_; cbv) | (refine qaa hS I.qcd ?_; cbv) | (refine qaa hS I.qcx ?_; cbv) | (refine qaa hS I.qcu ?_; cbv) | (refine qaa hS I.qcv ?_; cbv) | (refine qaa hS I.qdd ?_; cbv) | (refine qaa hS I.qgv ?_; cbv) | (refine qaf hS rfl I.qaz (by decide +kernel) ?_; cbv) | (refine s_lk hS ?_; try cbv) | (refine s_mu hS ?_; try cbv) | fail)
  all_goals
    intro g
    repeat' (first | exact .nil | refine .cons ?_ ?_ | (refine .tp ?_) | (refine .ag ?_) | exact .sub .rfl rfl | exact .sub (qad rfl) rfl | exact .nil (by decide) rfl | exact qag rfl rfl rfl rfl rfl | fail)
theorem no_6 : (S0 Tryz.prog).call 18 [FR 6 0 0 [] (.l 0) (.l 0) (.l 0) (.l 0) [] (.l 0)] [] (fun x _ => Sub x .ff) := by
  have hk0 := known_6
  have hk : ∀ (bl : List Blk) (K : SV → List Blk → Prop), K (.ag [.i .i64 (.l 2), .any, .any, .fn (.func 102) [] []]) bl → (S0 Tryz.prog).call 32 [.i .u8 (.l 6)] bl K := fun bl K h => qaw rfl hk0 .rfl rfl rfl h
  have hp : ∀ (bl : List Blk) (K : SV → List Blk → Prop), K (.v true 1 [] (.l 0)) bl → (S0 Tryz.prog).call 102 [FR 6 0 0 [] (.l 0) (.l 0) (.l 0) (.l 0) [] (.l 0)] bl K := fun bl K h => qap rfl puts_6 .rfl rfl h
  have hq : ∀ (bl : List Blk) (K : SV → List Blk → Prop), K (.tp [FR 0 0 0 [] (.l 0) (.l 0) (.l 0) (.l 0) [] (.l 0), .ag [.tt, .i .i64 (.l 0), .i .u32 (.l 6)]]) bl → (S0 Tryz.prog).call 31 [.ag [.i .i64 (.l 0), .i .u8 (.l 6), .i .u8 (.l 0), .i .i64 (.l 0)], .v true 1 [] (.l 0)] bl K := fun bl K h => qap rfl take_6 .rfl rfl h
  clear hk0
  generalize hS : S0 Tryz.prog = S at *
  refine qaa hS I.qla ?_
  cbv
  refine qim hS rfl I.qhs (by decide +kernel) ?_
  cbv
  repeat' (refine And.intro ?_ ?_)
  all_goals
    repeat' (first | (refine hk _ _ ?_; cbv) | (refine hp _ _ ?_; cbv) | (refine hq _ _ ?_; cbv) | fail)
  all_goals exact .rfl
theorem no_6u {S : Sy} {bl : List Blk} {K : SV → List Blk → Prop} (hS : S0 Tryz.prog = S) {args : List SV} (ha : FzL bl id [] args [FR 6 0 0 [] (.l 0) (.l 0) (.l 0) (.l 0) [] (.l 0)]) (hK : K .ff bl) : S.call 18 args bl K := qfj hS no_6 ha rfl rfl hK
end Fa
end Cz
namespace Cz
open Go Go.RowKit Go.Proofs
namespace Fa
theorem read_2b {S : Sy} (hS : S0 Tryz.prog = S) {F : List SV} {x : List UInt8} {n b0 b1 b2 N w lf wh z1 z2 : Int} (h0 : 0 ≤ n) (h1 : n ≤ 16384) (hp : plains F = true) (hl : (F.length : Int) = n) (hb : ∀ (S : Sy) (K : List UInt8 → Prop), S0 Tryz.prog = S → K x → S.bs F 0 n K) (e0 : b0 = n % 256) (e1 : b1 = n / 256 % 256) (e2 : b2 = n / 65536) (eN : N = n + 9) (hf : 1 ≤ lf ∧ lf ≤ 4294967294) (hw : 65536 ≤ wh ∧ wh ≤ 2147549182) (hq : 0 < n ∧ (lf < n ∨ wh < n)) {bl : List Blk} {K : SV → List Blk → Prop} (hL : LessL bl [.dead, .dead, .m [(.ag [.i .i64 (.l 1)], .ag [.i .u8 (.l 2), .i .i64 (.y lf)])], .c [.sl 88 1 (.l 0) (.l 0) none, .tt, .i .u8 (.l 0), .i .u8 (.l 0), .i .i64 (.l 0), .re (.slice none 0 0), .i .i64 (.l 0), .i .i64 (.l 0), .i .i64 (.l 0), .i .u32 (.l 0), .re (.slice none 0 0), .ff, .ff, .i .i64 (.l 0), .i .u8 (.l 0), .i .i64 (.l 4096), .v true 2 [] (.l 0), .i .i64 (.l 4096), .i .i64 (.y w), .i .i64 (.y wh), .i .i64 (.l 1), .sl 17 1 (.l 1) (.l 0) none, .re (.slice none 0 0), .m 2, .re (.slice none 0 0), .i .i64 (.l 0)], .dead, .dead, .dead, .dead, .dead, .dead, .dead, .dead, .dead, .dead, .dead, .dead, .dead, .dead, .dead, .dead, .dead, .dead, .dead, .dead, .dead, .dead, .dead, .dead, .dead, .dead, .dead, .dead, .r false true (.l 9) 1 [.i .u8 (.l 0), .i .u8 (.l 0), .i .u8 (.l 0), .i .u8 (.l 4), .i .u8 (.l 1), .i .u8 (.l 0), .i .u8 (.l 0), .i .u8 (.l 0), .i .u8 (.l 0)], .dead, .dead, .dead, .dead, .dead, .dead, .dead, .dead, .dead, .dead, .dead, .dead, .dead, .dead, .dead, .dead, .dead, .dead, .dead, .dead, .dead, .dead, .dead, .dead, .dead, .dead, .dead, .dead, .dead, .dead, .dead, .dead, .dead, .dead, .dead, .dead, .dead, .dead, .dead, .dead, .dead, .dead, .dead, .dead, .dead, .dead, .dead, .dead, .dead, .dead, .dead, .dead, .dead, .dead, .dead, .r false true (.y z1) 1 [], .dead, .dead, .dead, .dead, .dead, .dead, .dead, .dead, .dead, .dead, .dead, .dead, .dead, .dead, .dead, .dead, .dead, .dead, .dead, .dead, .dead, .r false false (.y z2) 1 (GB b2 b1 b0 F)])
    (hK : K (.tp [.re (.slice none 0 0), .i .i64 (.l 305)]) [.dead, .dead, .m [(.ag [.i .i64 (.l 1)], .ag [.i .u8 (.l 2), .i .i64 (.y lf)])], .c [.sl 117 1 (.l 0) (.l 0) none, .tt, .i .u8 (.l 0), .i .u8 (.l 0), .i .i64 (.l 0), .re (.slice none 0 0), .i .i64 (.l 0), .i .i64 (.l 0), .i .i64 (.l 0), .i .u32 (.l 0), .re (.slice none 0 0), .ff, .ff, .i .i64 (.l 0), .i .u8 (.l 0), .i .i64 (.l 4096), .v true 2 [] (.l 0), .i .i64 (.l 4096), .i .i64 (.y w), .i .i64 (.y wh), .i .i64 (.l 1), .sl 17 1 (.l 1) (.l 0) none, .re (.slice none 0 0), .m 2, .re (.slice none 0 0), .i .i64 (.l 305)], .dead, .dead, .dead, .dead, .dead, .dead, .dead, .dead, .dead, .dead, .dead, .dead, .dead, .dead, .dead, .dead, .dead, .dead, .dead, .dead, .dead, .dead, .dead, .dead, .dead, .dead, .dead, .dead, .dead, .dead, .dead, .dead, .dead, .dead, .dead, .dead, .dead, .dead, .dead, .dead, .dead, .dead, .dead, .dead, .dead, .dead, .dead, .dead, .dead, .dead, .dead, .dead, .dead, .dead, .dead, .dead, .dead, .dead, .dead, .dead, .dead, .dead, .dead, .dead, .dead, .dead, .dead, .dead, .dead, .dead, .dead, .dead, .dead, .dead, .dead, .dead, .dead, .dead, .dead, .dead, .dead, .dead, .dead, .dead, .dead, .dead, .dead, .dead, .dead, .dead, .dead, .dead, .dead, .dead, .dead, .dead, .dead, .dead, .dead, .dead, .dead, .dead, .dead, .dead, .dead, .dead, .dead, .dead, .dead, .dead, .dead, .dead, .dead, .dead, .dead, .dead, .dead, .dead, .dead, .dead, .dead, .dead, .dead, .dead]) : S.call 10 [.p 3 0, .sl 110 1 (.l 0) (.y N) none] bl K := by
  have qX : S.app [] (S.sub (GB b2 b1 b0 F) 0 N 1) = GB b2 b1 b0 F := by
    subst hS
    show ((GB b2 b1 b0 F).drop (0 * 1)).take (N.toNat * 1) = _
    rw [Nat.zero_mul, List.drop_zero, Nat.mul_one, List.take_of_length_le (by simp; omega)]
  refine qmf hS hL ?_
  refine qil hS [2, 3] ?_
  refine qaa hS I.qbe ?_
  cbv
  repeat' (first | (refine s_ck hS ?_; try cbv) | (refine qcz hS ?_ ?_ <;> intro h <;> (try cbv) <;> try exact s_ab h) | (refine qac hS ?_; cbv) | (refine qjh hS rfl rfl ?_; cbv) | (refine whole_nu hS h0 h1 hp hl e0 e1 e2 eN qX rfl rfl ?_; intro _; cbv) | (refine oct_nru hS h0 h1 hp e0 e1 e2 eN qX rfl ?_; cbv) | (refine qap hS (take_n (L := n) h0 h1 hp hl hb) ?_ (by simp [refsBL, refsB]) ?_; (focus ((repeat' (first | exact .nil | refine .cons ?_ ?_ | exact .rfl | exact qad rfl | (refine qem ?_) | fail)); done)); cbv) | (refine qaa hS I.qca ?_; cbv) | (refine qaa hS I.qbi ?_; cbv) | (refine qaa hS I.qbm ?_; cbv) | (refine qcb hS I.qau ?_; cbv) | (refine qaa hS I.qep ?_; cbv) | (refine qaa hS I.qak ?_; cbv) | (refine qaa hS I.qco ?_; cbv) | (refine qaa hS I.qal ?_; cbv) | (refine qaf hS rfl I.qbc (by decide +kernel) ?_; cbv) | (refine qaf hS rfl I.qbb (by decide +kernel) ?_; cbv) | (refine qaf hS rfl I.qay (by decide +kernel) ?_; cbv) | (refine qrj hS ?_; try cbv) | (refine s_lk hS ?_; try cbv) | (refine s_mu hS ?_; try cbv) | fail)
  all_goals exact hK 
end Fa
end Cz
namespace Cz
open Go Go.RowKit Go.Proofs
namespace Fa
theorem read_3 {S : Sy} (hS : S0 Tryz.prog = S) {w lf wh z1 : Int} {bl : List Blk} {K : SV → List Blk → Prop} (hL : LessL bl [.dead, .dead, .m [(.ag [.i .i64 (.l 1)], .ag [.i .u8 (.l 2), .i .i64 (.y lf)])], .c [.sl 117 1 (.l 0) (.l 0) none, .tt, .i .u8 (.l 0), .i .u8 (.l 0), .i .i64 (.l 0), .re (.slice none 0 0), .i .i64 (.l 0), .i .i64 (.l 0), .i .i64 (.l 0), .i .u32 (.l 0), .re (.slice none 0 0), .ff, .ff, .i .i64 (.l 0), .i .u8 (.l 0), .i .i64 (.l 4096), .v true 2 [] (.l 0), .i .i64 (.l 4096), .i .i64 (.y w), .i .i64 (.y wh), .i .i64 (.l 1), .sl 17 1 (.l 1) (.l 0) none, .re (.slice none 0 0), .m 2, .re (.slice none 0 0), .i .i64 (.l 0)], .dead, .dead, .dead, .dead, .dead, .dead, .dead, .dead, .dead, .dead, .dead, .dead, .dead, .dead, .dead, .dead, .dead, .dead, .dead, .dead, .dead, .dead, .dead, .dead, .dead, .dead, .dead, .dead, .r false true (.l 9) 1 [.i .u8 (.l 0), .i .u8 (.l 0), .i .u8 (.l 0), .i .u8 (.l 4), .i .u8 (.l 1), .i .u8 (.l 0), .i .u8 (.l 0), .i .u8 (.l 0), .i .u8 (.l 0)], .dead, .dead, .dead, .dead, .dead, .dead, .dead, .dead, .dead, .dead, .dead, .dead, .dead, .dead, .dead, .dead, .dead, .dead, .dead, .dead, .dead, .dead, .dead, .dead, .dead, .dead, .dead, .dead, .dead, .dead, .dead, .dead, .dead, .dead, .dead, .dead, .dead, .dead, .dead, .dead, .dead, .dead, .dead, .dead, .dead, .dead, .dead, .dead, .dead, .dead, .dead, .dead, .dead, .dead, .dead, .dead, .dead, .dead, .dead, .dead, .dead, .dead, .dead, .dead, .dead, .dead, .dead, .dead, .dead, .dead, .dead, .dead, .dead, .dead, .dead, .dead, .dead, .dead, .dead, .dead, .dead, .dead, .dead, .dead, .r false true (.y z1) 1 [], .dead, .dead, .dead, .dead, .dead, .dead, .dead, .dead, .dead, .dead, .dead, .dead, .dead, .dead])
    (hK : K (.tp [.re (.slice none 0 0), .i .i64 (.l 303)]) [.dead, .dead, .m [(.ag [.i .i64 (.l 1)], .ag [.i .u8 (.l 2), .i .i64 (.y lf)])], .c [.sl 138 1 (.l 0) (.l 0) none, .tt, .i .u8 (.l 0), .i .u8 (.l 0), .i .i64 (.l 0), .re (.slice none 0 0), .i .i64 (.l 0), .i .i64 (.l 0), .i .i64 (.l 0), .i .u32 (.l 0), .re (.slice none 0 0), .ff, .ff, .i .i64 (.l 0), .i .u8 (.l 0), .i .i64 (.l 4096), .v true 2 [] (.l 0), .i .i64 (.l 4096), .i .i64 (.y w), .i .i64 (.y wh), .i .i64 (.l 1), .sl 17 1 (.l 1) (.l 0) none, .re (.slice none 0 0), .m 2, .re (.slice none 0 0), .i .i64 (.l 303)], .dead, .dead, .dead, .dead, .dead, .dead, .dead, .dead, .dead, .dead, .dead, .dead, .dead, .dead, .dead, .dead, .dead, .dead, .dead, .dead, .dead, .dead, .dead, .dead, .dead, .dead, .dead, .dead, .dead, .dead, .dead, .dead, .dead, .dead, .dead, .dead, .dead, .dead, .dead, .dead, .dead, .dead, .dead, .dead, .dead, .dead, .dead, .dead, .dead, .dead, .dead, .dead, .dead, .dead, .dead, .dead, .dead, .dead, .dead, .dead, .dead, .dead, .dead, .dead, .dead, .dead, .dead, .dead, .dead, .dead, .dead, .dead, .dead, .dead, .dead, .dead, .dead, .dead, .dead, .dead, .dead, .dead, .dead, .dead, .dead, .dead, .dead, .dead, .dead, .dead, .dead, .dead, .dead, .dead, .dead, .dead, .dead, .dead, .dead, .dead, .dead, .dead, .dead, .dead, .dead, .dead, .dead, .dead, .dead, .dead, .dead, .dead, .dead, .dead, .dead, .dead, .dead, .dead, .dead, .dead, .dead, .dead, .dead, .dead, .dead, .dead, .dead, .dead, .dead, .dead, .dead, .dead, .dead, .dead, .dead, .dead, .dead, .dead, .dead, .dead, .dead, .dead]) : S.call 10 [.p 3 0, .sl 32 1 (.l 0) (.l 9) none] bl K := by
  refine qmf hS hL ?_
  refine qil hS [2, 3] ?_
  refine qaa hS I.qbe ?_
  cbv
  repeat' (first | (refine qdo hS ?_; cbv) | (refine qbz hS ?_; cbv) | (refine qdr hS ?_; cbv) | (refine qac hS ?_; cbv) | (refine qjh hS rfl rfl ?_; cbv) | (refine qap hS (take_a (L := 0)) ?_ rfl ?_; (focus ((repeat' (first | exact .nil | refine .cons ?_ ?_ | exact .rfl | exact qad rfl | (refine qem ?_) | fail)); done)); cbv) | (refine whole_au hS ?_ ?_; (focus ((repeat' (first | exact .nil | refine .cons ?_ ?_ | (refine .ag ?_) | exact .sub .rfl rfl | exact .sub (qad rfl) rfl | exact .nil (by decide) rfl | exact qag rfl rfl rfl rfl rfl | fail)); done)); intro _; cbv) | (refine qaa hS I.qbi ?_; cbv) | (refine qaa hS I.qbm ?_; cbv) | (refine qcb hS I.qau ?_; cbv) | (refine qaa hS I.qah ?_; cbv) | (refine qaa hS I.qct ?_; cbv) | (refine qaa hS I.qak ?_; cbv) | (refine qaa hS I.qae ?_; cbv) | (refine qaa hS I.qal ?_; cbv) | (refine qaf hS rfl I.qbc (by decide +kernel) ?_; cbv) | (refine qaf hS rfl I.qbb (by decide +kernel) ?_; cbv) | (refine qaf hS rfl I.qay (by decide +kernel) ?_; cbv) | (refine qrj hS ?_; try cbv) | (refine s_lk hS ?_; try cbv) | (refine s_mu hS ?_; try cbv) | fail)
  all_goals exact hK
end Fa
end Cz
namespace Cz
open Go Go.RowKit
namespace Fa
theorem op_i {svs : List SV} (h : pkVs [.i .i64] svs) : ∃ n, svs = [.i .i64 (.y n)] ∧ -9223372036854775808 ≤ n ∧ n ≤ 9223372036854775807 := by
  obtain ⟨x, rfl, h'⟩ := pkVs_one h
  simp only [pkV] at h'
  obtain ⟨n, rfl, h1, h2⟩ := h'
  exact ⟨n, rfl, h1, h2⟩
theorem op_u {svs : List SV} (h : pkVs [.i .u32] svs) : ∃ n, svs = [.i .u32 (.y n)] ∧ 0 ≤ n ∧ n ≤ 4294967295 := by
  obtain ⟨x, rfl, h'⟩ := pkVs_one h
  simp only [pkV] at h'
  obtain ⟨n, rfl, h1, h2⟩ := h'
  exact ⟨n, rfl, h1, h2⟩
end Fa
end Cz
