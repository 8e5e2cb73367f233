/- What the claims of this group lean on, part 6: our engine, the functions' simplified codes, their contracts. No condition. -/
import Derived.Test.YtdbnbknghhpbiaaDoorKQ5
namespace Cz
open Go Go.RowKit Go.Proofs
set_option linter.unusedSimpArgs false
set_option linter.unusedVariables false
set_option maxRecDepth 100000
set_option maxHeartbeats 4000000
namespace Tb
theorem bidx_u {S : Sy} (hS : S0 Tryd.prog = S) {l : List Blk} {K : SV → List Blk → Prop} {x : List UInt8} {z : Z} {T : Int} (hT : idxI x z.v = T) (h : K (.i .i64 (.y T)) l) : S.call 116 [.s x, .i .u8 z] l K := by
  refine use_val hS (sv := .i .i64 (.y T)) (args' := [.s x, .i .u8 (.y z.v)]) ?_ (.cons .rfl (.cons (sub_i rfl) .nil)) rfl rfl h
  generalize hS : S0 Tryd.prog = S
  refine call_in' hS I.fn_stringslite_IndexByte ?_
  cbv
  refine use_val hS (idx_f x z.v) .rfl rfl rfl ?_
  rw [hT]
  cbv
  exact .rfl
theorem lidx_f (x : List UInt8) (c : UInt8) (hx : ilen x ≤ 140737488355328) : (S0 Tryd.prog).call 108 [.s x, .s [c]] [] (fun y _ => Sub y (.i .i64 (.y (idxI x c.toNat)))) := by
  generalize hT : idxI x c.toNat = T
  generalize hS : S0 Tryd.prog = S
  have h2 : S.sat [c] 0 = c.toNat := by subst hS; rfl
  refine call_in' hS I.fn_stringslite_Index ?_
  cbv
  refine s_sbr hS ?_ ?_ <;> intro h <;> cbv
  · exfalso; simp at h
  refine s_sbr hS ?_ ?_ <;> intro h <;> cbv
  · refine sub_i ?_
    rw [← h] at hT
    simp [idxI] at hT
    exact hT
  refine s_sbr hS ?_ ?_ <;> intro h <;> cbv
  · repeat' (first
    | (refine s_st hS ?_; try cbv)
    | (refine s_sbr hS ?_ ?_ <;> intro h <;> (try cbv) <;> try exact s_ab h)
    | (refine s_sta hS ?_; intro _ _; try cbv)
    | (refine s_stc hS ?_; try cbv)
    | (refine s_stl hS ?_; intro _ _; try cbv)
    | (refine s_chl hS ?_; try cbv)
    | fail)
    refine bidx_u hS (T := T) (by rw [← hT]; exact congrArg (idxI x) h2) ?_
    cbv
    all_goals exact s_sA
  · exfalso; simp at h
theorem lidx_u {S : Sy} (hS : S0 Tryd.prog = S) {l : List Blk} {K : SV → List Blk → Prop} {x : List UInt8} {c : UInt8} {T : Int} (hx : ilen x ≤ 140737488355328) (hT : idxI x c.toNat = T) (h : K (.i .i64 (.y T)) l) : S.call 108 [.s x, .s [c]] l K := by
  subst hT
  exact use_val hS (lidx_f x c hx) .rfl rfl rfl h
theorem sidx_u {S : Sy} (hS : S0 Tryd.prog = S) {l : List Blk} {K : SV → List Blk → Prop} {x : List UInt8} {c : UInt8} {T : Int} (hx : ilen x ≤ 140737488355328) (hT : idxI x c.toNat = T) (h : K (.i .i64 (.y T)) l) : S.call 107 [.s x, .s [c]] l K := by
  refine use_val hS (sv := .i .i64 (.y T)) (args' := [.s x, .s [c]]) ?_ .rfl rfl rfl h
  generalize hS : S0 Tryd.prog = S
  refine call_in' hS I.fn_strings_Index ?_
  cbv
  refine lidx_u hS hx hT ?_
  cbv
  exact .rfl
def cutR (x : List UInt8) : Fd := if idxI x 32 < 0 then (x, []) else (x.take (idxI x 32).toNat, x.drop ((idxI x 32).toNat + 1))
theorem cut_f (x : List UInt8) {a b : List UInt8} (hr : cutR x = (a, b)) (hx : ilen x ≤ 140737488355328) (hi : idxI x 32 < ilen x) : ∃ t : Bool, (S0 Tryd.prog).call 75 [.s x, .s [32]] [] (fun y _ => Sub y (.tp [.s a, .s b, .b t])) := by
  obtain ⟨T, hT⟩ : ∃ T, idxI x 32 = T := ⟨_, rfl⟩
  unfold cutR at hr
  rw [hT] at hr hi
  obtain ⟨t, ht⟩ : ∃ t, t = decide (0 ≤ T) := ⟨_, rfl⟩
  refine ⟨t, ?_⟩
  generalize hS : S0 Tryd.prog = S
  refine call_in' hS I.fn_strings_Cut ?_
  cbv
  refine call_in' hS I.fn_stringslite_Cut ?_
  cbv
  refine lidx_u hS (c := 32) hx hT ?_
  cbv
  refine s_sbr hS ?_ ?_ <;> intro h <;> cbv
  · rw [if_neg (by omega)] at hr
    have hc : ilen ([32] : List UInt8) = 1 := rfl
    have hc2 : (([32] : List UInt8).length : Int) = 1 := rfl
    have hx' : ilen x = x.length := rfl
    refine s_draw hS rfl I.ord_stringslite_Cut_0 (by decide +kernel) ?_
    cbv
    repeat' (first
      | (refine s_st hS ?_; try cbv)
      | (refine s_sbr hS ?_ ?_ <;> intro h <;> (try cbv) <;> try exact s_ab h)
      | (refine s_sta hS ?_; intro _ _; try cbv)
      | (refine s_stc hS ?_; try cbv)
      | (refine s_stl hS ?_; intro _ _; try cbv)
      | (refine s_chl hS ?_; try cbv)
      | (refine And.intro rfl ?_; try cbv)
      | fail)
    cases hr
    rename_i r hr
    have e : t = true := by rw [ht]; exact decide_eq_true h
    have e1 : S.ssub x 0 T = x.take T.toNat := by subst hS; rfl
    have e2 : S.ssub x r (S.slen x) = x.drop (T.toNat + 1) := by
      rw [hr, hc]
      subst hS
      show (x.take x.length).drop (T + 1).toNat = _
      rw [List.take_length, show (T + 1).toNat = T.toNat + 1 by omega]
    rw [← e1, ← e2]
    all_goals exact s_sA
  · rw [if_pos (by omega)] at hr
    cases hr
    have e : t = false := by rw [ht]; exact decide_eq_false h
    all_goals exact s_sA
theorem cut_u {S : Sy} (hS : S0 Tryd.prog = S) {l : List Blk} {K : SV → List Blk → Prop} {x a b : List UInt8} (hr : cutR x = (a, b)) (hx : ilen x ≤ 140737488355328) (hi : idxI x 32 < ilen x) (h : ∀ t, K (.tp [.s a, .s b, .b t]) l) : S.call 75 [.s x, .s [32]] l K := by
  obtain ⟨t, ht⟩ := cut_f x hr hx hi
  exact use_val hS ht .rfl rfl rfl (h t)
theorem line_at {j : Int} (h0 : 0 ≤ j) (h1 : j < 19) : ∃ (L a b : List UInt8), idxI (remT j.toNat) 10 = ilen L ∧ (remT j.toNat).take L.length = L ∧ (remT j.toNat).drop (L.length + 1) = remT (j + 1).toNat ∧ cutR L = (a, b) ∧ stL[j.toNat]? = some (a, b) ∧ ilen L ≤ 20 ∧ ilen (remT j.toNat) ≤ 300 ∧ idxI L 32 < ilen L ∧ ilen L < ilen (remT j.toNat) := by
  have h := line_facts ⟨j.toNat, by omega⟩
  dsimp only at h
  obtain ⟨e1, e2, e3, e4, e5, e6, e7, e8⟩ := h
  have hj : j.toNat < 19 := by omega
  rw [if_pos hj] at e1
  have hs : j.toNat < stL.length := by rw [stL_len]; omega
  have hst : stL[j.toNat]? = some (stL.getD j.toNat ([], [])) := by rw [List.getD_eq_getElem?_getD, List.getElem?_eq_getElem hs]; rfl
  have hL : ilen (lineL.getD j.toNat []) < ilen (remT j.toNat) := by
    have := e3 hj
    have hd := congrArg List.length e2
    rw [List.length_take] at hd
    rcases Nat.lt_or_ge (lineL.getD j.toNat []).length (remT j.toNat).length with h | h
    · unfold ilen; omega
    · exfalso
      rw [List.drop_eq_nil_of_le (by omega)] at this
      have h2 : ∀ k : Fin 20, remT k.val ≠ [] := by decide +kernel
      exact h2 ⟨j.toNat + 1, by omega⟩ this.symm
  refine ⟨lineL.getD j.toNat [], (stL.getD j.toNat ([], [])).1, (stL.getD j.toNat ([], [])).2, e1, e2, ?_, ?_, hst, e6, e7, e8, hL⟩
  · rw [e3 hj]; congr 1; omega
  · unfold cutR
    by_cases h : idxI (lineL.getD j.toNat []) 32 < 0
    · rw [if_pos h] at e5 ⊢; rw [e5]
    · rw [if_neg h] at e5 ⊢; rw [e5]
theorem line_last {j : Int} (h1 : j = 19) : ∃ (a b : List UInt8), idxI (remT j.toNat) 10 = -1 ∧ cutR (remT j.toNat) = (a, b) ∧ stL[j.toNat]? = some (a, b) ∧ ilen (remT j.toNat) ≤ 300 ∧ idxI (remT j.toNat) 32 < ilen (remT j.toNat) := by
  subst h1
  exact ⟨[117, 115, 101, 114, 45, 97, 103, 101, 110, 116], [], by decide +kernel⟩
theorem at_i {l : List Fd} {i j : Int} {a b : List UInt8} (h0 : 0 ≤ j) (h : (allF l)[j.toNat]? = some (a, b)) (hi : i = j + 1) : atR l i = ((a, b), 0) := by
  unfold atR
  rw [if_neg (by omega), show (i - 1).toNat = j.toNat by omega, h]
theorem all_st {l : List Fd} {j : Int} {f : Fd} (h : stL[j.toNat]? = some f) : (allF l)[j.toNat]? = some f := by
  unfold allF
  have := (List.getElem?_eq_some_iff.1 h).1
  rw [List.getElem?_append_left this, h]
theorem all_row {l : List Fd} {j k : Int} (h0 : 0 ≤ j) (hk : k = j + 20) {f : Fd} (h : l[j.toNat]? = some f) : (allF l)[k.toNat]? = some f := by
  unfold allF
  rw [List.getElem?_append_right (by rw [stL_len]; omega), stL_len, show k.toNat - 20 = j.toNat by omega, h]
theorem at_f {mx i e : Int} {l : List Fd} {a b : List UInt8} (hr : atR l i = ((a, b), e)) (hm : ilen l ≤ 100000000) : (S0 Tryd.prog).call 32 [tabV mx l, .i .i64 (.y i)] [] (fun y _ => Sub y (.tp [.ag [.s a, .s b], .i .i64 (.y e)])) := by
  unfold tabV
  generalize hF : cellsF l = F
  obtain ⟨m, hm'⟩ : ∃ m, m = ilen l := ⟨_, rfl⟩
  have h0 := ilen_nn l
  rw [← hm'] at h0 hm ⊢
  generalize hS : S0 Tryd.prog = S
  refine call_in' hS I.fn_table_At ?_
  cbv
  refine call_in' hS I.fn_table_fields ?_
  cbv
  refine rfc_in' hS I.fn_table_fields_1 ?_
  cbv
  refine call_in' hS I.fn_strings_SplitSeq ?_
  cbv
  refine call_in' hS I.fn_strings_splitSeq ?_
  cbv
  refine rfc_in' hS I.fn_strings_splitSeq_1 ?_
  cbv
  refine s_sbr hS ?_ ?_ <;> intro h <;> cbv
  · exfalso; simp at h
  have hc : ilen ([10] : List UInt8) = 1 := rfl
  have hc2 : (([10] : List UInt8).length : Int) = 1 := rfl
  refine s_loop_up hS 14 I.dead_strings_splitSeq_1_0 (fun x : Int × List UInt8 => 0 ≤ x.1 ∧ x.1 ≤ 19 ∧ (i < 1 ∨ x.1 < i) ∧ x.2 = remT x.1.toNat) (fun _ => []) (fun x => [(8, .c [.i .i64 (.y x.1)]), (9, .c [.s x.2])]) (fun x => (19 - x.1).toNat) (0, remT 0) rfl
    ⟨⟨Int.le_refl _, by dsimp only; omega, by dsimp only; omega, rfl⟩, rfl, ?_, ?_, by cbv⟩ ?_
  · cbv; all_goals exact s_sA
  · cbv; all_goals exact s_bA
  intro x
  obtain ⟨j, s⟩ := x
  intro hx
  dsimp only at hx
  cbv
  obtain ⟨k0, k1, k2, k3⟩ := hx
  have hjj : j < 19 ∨ 19 ≤ j := by omega
  rcases hjj with hj | hj
  · obtain ⟨L, c, d, f1, f2, f3, f4, f5, f6, f7, f8, f9⟩ := line_at k0 hj
    rw [← k3] at f1 f2 f3 f7 f9
    refine sidx_u hS (c := 10) (by omega) f1 ?_
    generalize hn : ilen L = n at *
    have hn0 : 0 ≤ n := hn ▸ ilen_nn L
    cbv
    repeat' (first
      | (refine s_st hS ?_; try cbv)
      | (refine s_sbr hS ?_ ?_ <;> intro h <;> (try cbv) <;> try exact s_ab h)
      | (refine s_sta hS ?_; intro _ _; try cbv)
      | (refine s_stc hS ?_; try cbv)
      | (refine s_stl hS ?_; intro _ _; try cbv)
      | (refine s_chl hS ?_; try cbv)
      | (refine s_yld hS rfl rfl ?_; cbv)
      | fail)
    rename_i r1 hr1 j1 hj1
    have e1 : S.ssub s 0 r1 = L := by
      subst hS
      show (s.take r1.toNat).drop 0 = L
      rw [List.drop_zero, show r1.toNat = L.length by unfold ilen at hn; omega, f2]
    refine cut_u hS (x := S.ssub s 0 r1) (a := c) (b := d) (by rw [e1]; exact f4) (by rw [e1]; omega) (by rw [e1, hn]; exact f8) fun t => ?_
    cbv
    repeat' (first
      | (refine s_st hS ?_; try cbv)
      | (refine s_sbr hS ?_ ?_ <;> intro h <;> (try cbv) <;> try exact s_ab h)
      | (refine s_sta hS ?_; intro _ _; try cbv)
      | (refine s_stc hS ?_; try cbv)
      | (refine s_stl hS ?_; intro _ _; try cbv)
      | (refine s_chl hS ?_; try cbv)
      | (refine s_yld hS rfl rfl ?_; cbv)
      | fail)
    · rename_i h
      rw [at_i k0 (all_st f5) (by omega)] at hr
      cases hr
      all_goals exact s_sA
    · rename_i h r2 hr2
      refine ⟨(j1, S.ssub s r2 (S.slen s)), by dsimp only; omega, ⟨by dsimp only; omega, by dsimp only; omega, by dsimp only; omega, ?_⟩, rfl, ?_, ?_, by cbv⟩
      · dsimp only
        rw [hj1, ← f3]
        subst hS
        show (s.take s.length).drop r2.toNat = _
        rw [List.take_length, show r2.toNat = L.length + 1 by unfold ilen at hn; omega]
      · cbv; all_goals exact s_sA
      · cbv; all_goals exact s_bA
  · obtain ⟨c, d, f1, f4, f5, f7, f8⟩ := line_last (j := j) (by omega)
    rw [← k3] at f1 f4 f7 f8
    refine sidx_u hS (c := 10) (by omega) f1 ?_
    cbv
    refine s_br hS ?_ ?_ <;> intro h' <;> cbv <;> simp only [← hS, Int.ofNat_eq_natCast, cq, Bool.not_eq_true', Bool.not_eq_false', decide_eq_true_eq, decide_eq_false_iff_not, beq_iff_eq, beq_eq_false_iff_ne, ne_eq] at h'
    · repeat' (first
      | (refine s_st hS ?_; try cbv)
      | (refine s_sbr hS ?_ ?_ <;> intro h <;> (try cbv) <;> try exact s_ab h)
      | (refine s_sta hS ?_; intro _ _; try cbv)
      | (refine s_stc hS ?_; try cbv)
      | (refine s_stl hS ?_; intro _ _; try cbv)
      | (refine s_chl hS ?_; try cbv)
      | (refine s_yld hS rfl rfl ?_; cbv)
      | fail)
      refine cut_u hS (a := c) (b := d) f4 (by omega) f8 fun t => ?_
      cbv
      repeat' (first
        | (refine s_st hS ?_; try cbv)
        | (refine s_sbr hS ?_ ?_ <;> intro h <;> (try cbv) <;> try exact s_ab h)
        | (refine s_sta hS ?_; intro _ _; try cbv)
        | (refine s_stc hS ?_; try cbv)
        | (refine s_stl hS ?_; intro _ _; try cbv)
        | (refine s_chl hS ?_; try cbv)
        | (refine s_yld hS rfl rfl ?_; cbv)
        | fail)
      · rename_i h
        rw [at_i k0 (all_st f5) (by omega)] at hr
        cases hr
        all_goals exact s_sA
      · rename_i j1 hj1
        refine s_loop_up hS 15 I.dead_table_fields_1_0 (fun x : Int × Int => 0 ≤ x.1 ∧ x.1 ≤ m ∧ x.2 = x.1 + 20 ∧ (i < 1 ∨ x.2 < i)) (fun x => [(29, .i .i64 (.y x.1))]) (fun x => [(8, .c [.i .i64 (.y x.2)])]) (fun x => (m - x.1).toNat) (0, j1) rfl
          ⟨⟨Int.le_refl _, by dsimp only; omega, by dsimp only; omega, by dsimp only; omega⟩, rfl, ?_, ?_, by cbv⟩ ?_
        · cbv; all_goals exact s_sA
        · cbv; all_goals exact s_bA
        intro x
        obtain ⟨q, u⟩ := x
        intro hx
        dsimp only at hx
        cbv
        obtain ⟨q0, q1, q2, q3⟩ := hx
        refine s_sbr hS ?_ ?_ <;> intro h <;> cbv
        · obtain ⟨⟨v, w⟩, hp⟩ := at_ex (l := l) (i := q) (by omega) q0
          repeat' (first
            | (refine s_st hS ?_; try cbv)
            | (refine s_sbr hS ?_ ?_ <;> intro h <;> (try cbv) <;> try exact s_ab h)
            | (refine s_sta hS ?_; intro _ _; try cbv)
            | (refine s_stc hS ?_; try cbv)
            | (refine s_stl hS ?_; intro _ _; try cbv)
            | (refine s_chl hS ?_; try cbv)
            | (refine s_yld hS rfl rfl ?_; cbv)
            | (refine rowF hS hF hp (by omega) ?_; cbv)
            | fail)
          · rw [at_i (j := u) (by omega) (all_row q0 q2 hp) (by omega)] at hr
            cases hr
            all_goals exact s_sA
          · rename_i u1 hu1 q4 hq4
            refine ⟨(q4, u1), by dsimp only; omega, ⟨by dsimp only; omega, by dsimp only; omega, by dsimp only; omega, by dsimp only; omega⟩, rfl, ?_, ?_, by cbv⟩
            · cbv; all_goals exact s_sA
            · cbv; all_goals exact s_bA
        · repeat' (first
          | (refine s_st hS ?_; try cbv)
          | (refine s_sbr hS ?_ ?_ <;> intro h <;> (try cbv) <;> try exact s_ab h)
          | (refine s_sta hS ?_; intro _ _; try cbv)
          | (refine s_stc hS ?_; try cbv)
          | (refine s_stl hS ?_; intro _ _; try cbv)
          | (refine s_chl hS ?_; try cbv)
          | fail)
          rw [at_none (by omega)] at hr
          cases hr
          all_goals exact s_sA
    · omega
section
variable {S : Sy} {bl : List Blk} {K : SV → List Blk → Prop} {cs : List SV} {mx : Int} {l : List Fd}
theorem at_u (hS : S0 Tryd.prog = S) {z : Z} (hc : TabC bl cs mx l) (hm : ilen l ≤ 100000000)
    (hK : ∀ a b e, atR l z.v = ((a, b), e) → K (.tp [.ag [.s a, .s b], .i .i64 (.l e)]) bl) : S.call 32 [.ag cs, .i .i64 z] bl K := by
  cases hr : atR l z.v with
  | mk f e => cases f with
    | mk a b => exact use_tmp hS (call_lit (at_f hr hm)) (hc.fzi (sub_i (b := .y z.v) rfl) rfl) rfl rfl (hK a b e hr)
end
theorem static_f {i : Int} {a b : List UInt8} {t : Bool} (hr : statR i = ((a, b), t)) : (S0 Tryd.prog).call 17 [.i .i64 (.y i)] [] (fun y _ => Sub y (.tp [.ag [.s a, .s b], .b t])) := by
  generalize hS : S0 Tryd.prog = S
  refine call_in' hS I.fn_table_Static ?_
  cbv
  refine s_sbr hS ?_ ?_ <;> intro h <;> cbv
  · unfold statR at hr
    rw [if_neg (by omega)] at hr
    cases hr
    all_goals exact s_sA
  · refine at_u hS (.nil rfl) (by decide) fun c d e he => ?_
    dsimp only [Z.v] at he
    cbv
    by_cases hi : 1 ≤ i
    · obtain ⟨c', d', hp, hq⟩ := stat_ex (i := i) hi (by omega)
      rw [at_stat hq] at he
      rw [hq] at hr
      cases he; cases hr
      cbv
      all_goals exact s_sA
    · rw [at_none (.inl (by omega))] at he
      unfold statR at hr
      rw [if_neg (by omega)] at hr
      cases he; cases hr
      cbv
      all_goals exact s_sA
end Tb
end Cz
namespace Cz
open Go Go.RowKit Go.Proofs
set_option linter.unusedSimpArgs false
set_option linter.unusedVariables false
set_option maxRecDepth 100000
set_option maxHeartbeats 4000000
section
variable {α : Type} [DecidableEq α]
def mapE (enc : α → SV) (ms : List (α × Int)) : List (SV × SV) := ms.map fun p => (enc p.1, .i .i64 (.y p.2))
def mget : List (α × Int) → α → Int
  | [], _ => 0
  | (k, v) :: r, a => if a = k then v else mget r a
theorem mget_app (a b : α) (n : Int) : ∀ ms : List (α × Int), (∀ p, p ∈ ms → 1 ≤ p.2) → mget (ms ++ [(b, n)]) a = if mget ms a ≠ 0 then mget ms a else if a = b then n else 0
  | [], _ => by simp [mget]
  | (k, v) :: r, hv => by
    simp only [List.cons_append, mget]
    split
    · have := hv (k, v) (List.mem_cons_self ..)
      dsimp only at this
      rw [if_pos (by omega)]
    · exact mget_app a b n r fun p hp => hv p (List.mem_cons_of_mem _ hp)
theorem lk_g {P : Program} {S : Sy} {sig : Sg} {enc : α → SV} {zero : SV} {K : SV → Bool → Prop} {a : α} (hS : S0 P = S) (heq : ∀ (b : α) (k1 k2 : Unit → Prop), (a = b → k1 ()) → (a ≠ b → k2 ()) → veq S sig (enc a) (enc b) k1 k2)
    {ms : List (α × Int)} {E : List (SV × SV)} (hE : mapE enc ms = E) (h1 : mget ms a ≠ 0 → K (.i .i64 (.y (mget ms a))) true) (h2 : mget ms a = 0 → K zero false) (hv : ∀ p, p ∈ ms → 1 ≤ p.2) : S.lk sig (enc a) K zero E := by
  refine s_lk hS ?_
  subst hE
  induction ms with
  | nil => exact h2 rfl
  | cons p r ih =>
    obtain ⟨k, v⟩ := p
    simp only [mapE, List.map_cons, vlook]
    have h0 := hv (k, v) (List.mem_cons_self ..)
    dsimp only at h0
    refine heq k _ _ (fun e => ?_) (fun e => ?_)
    · simp only [mget, if_pos e] at h1
      exact h1 (by omega)
    · simp only [mget, if_neg e] at h1 h2
      exact ih h1 h2 fun p hp => hv p (List.mem_cons_of_mem _ hp)
theorem mu_g {P : Program} {S : Sy} {sig : Sg} {enc : α → SV} {K : List (SV × SV) → Prop} {a : α} {z : Z} (hS : S0 P = S) (heq : ∀ (b : α) (k1 k2 : Unit → Prop), (a = b → k1 ()) → (a ≠ b → k2 ()) → veq S sig (enc a) (enc b) k1 k2)
    {ms : List (α × Int)} {E : List (SV × SV)} (hE : mapE enc ms = E) (h0 : mget ms a = 0) (hv : ∀ p, p ∈ ms → 1 ≤ p.2) (h : ∀ E', E ++ [(enc a, .i .i64 z)] = E' → K E') : S.mu sig (enc a) (.i .i64 z) K [] E := by
  refine s_mu hS ?_
  have key : ∀ (r : List (α × Int)) (acc : List (SV × SV)), (∀ p, p ∈ r → 1 ≤ p.2) → mget r a = 0 → acc ++ mapE enc r = E → vmupd S sig (enc a) (.i .i64 z) K acc (mapE enc r) := by
    intro r
    induction r with
    | nil => intro acc _ _ he; simp only [mapE, List.map_nil, List.append_nil, vmupd] at he ⊢; exact h _ (by rw [he])
    | cons p r ih =>
      intro acc hv h0 he
      obtain ⟨k, v⟩ := p
      have h1 := hv (k, v) (List.mem_cons_self ..)
      dsimp only at h1
      simp only [mget] at h0
      have hk : a ≠ k := by intro e; rw [if_pos e] at h0; omega
      rw [if_neg hk] at h0
      simp only [mapE, List.map_cons, vmupd]
      exact heq k _ _ (fun e => absurd e hk) fun _ => ih _ (fun p hp => hv p (List.mem_cons_of_mem _ hp)) h0 (by rw [← he]; simp [mapE])
  have := key ms [] hv h0 (by simpa using hE)
  rwa [hE] at this
end
namespace Tb
theorem fstI_app (p : Fd → Bool) : ∀ (l r : List Fd) (k : Int), 1 ≤ k → fstI p (l ++ r) k = if fstI p l k ≠ 0 then fstI p l k else fstI p r (k + l.length)
  | [], r, k, _ => by simp [fstI]
  | x :: l, r, k, hk => by
    simp only [List.cons_append, fstI]
    split
    · rw [if_pos (by omega)]
    · rw [fstI_app p l r (k + 1) (by omega)]
      simp only [List.length_cons]
      rw [show k + 1 + (l.length : Int) = k + ((l.length + 1 : Nat) : Int) by omega]
theorem fst_range (p : Fd → Bool) : ∀ (l : List Fd) (k : Int), 1 ≤ k → 0 ≤ fstI p l k ∧ fstI p l k ≤ k + l.length - 1 ∧ (fstI p l k ≠ 0 → k ≤ fstI p l k)
  | [], k, hk => by simp [fstI]; omega
  | x :: l, k, hk => by
    simp only [fstI, List.length_cons]
    split
    · omega
    · have := fst_range p l (k + 1) (by omega)
      omega
theorem allF_len (l : List Fd) : ilen (allF l) = 20 + ilen l := by
  unfold ilen allF
  rw [List.length_append, stL_len]; omega
end Tb
end Cz
namespace Cz
open Go Go.RowKit Go.Proofs
set_option linter.unusedSimpArgs false
set_option linter.unusedVariables false
set_option maxRecDepth 100000
set_option maxHeartbeats 4000000
namespace Tb
theorem eqF' {S : Sy} (hS : S0 Tryd.prog = S) (x y : Fd) (k1 k2 : Unit → Prop) (h1 : x = y → k1 ()) (h2 : x ≠ y → k2 ()) : veq S ⟨true, [.ks, .ks]⟩ (.ag [.s x.1, .s x.2]) (.ag [.s y.1, .s y.2]) k1 k2 := by
  obtain ⟨a, b⟩ := x
  obtain ⟨c, d⟩ := y
  cbv
  refine s_br hS (fun h => ?_) (fun h => ?_) <;> cbv <;> simp only [← hS, Int.ofNat_eq_natCast, cq, Bool.not_eq_true', Bool.not_eq_false', decide_eq_true_eq, decide_eq_false_iff_not, beq_iff_eq, beq_eq_false_iff_ne, ne_eq] at h
  · refine s_br hS (fun h' => ?_) (fun h' => ?_) <;> cbv <;> simp only [← hS, Int.ofNat_eq_natCast, cq, Bool.not_eq_true', Bool.not_eq_false', decide_eq_true_eq, decide_eq_false_iff_not, beq_iff_eq, beq_eq_false_iff_ne, ne_eq] at h'
    · exact h1 (by rw [h, h'])
    · exact h2 (by intro e; cases e; exact h' rfl)
  · exact h2 (by intro e; cases e; exact h rfl)
theorem eqN' {S : Sy} (hS : S0 Tryd.prog = S) (x y : List UInt8) (k1 k2 : Unit → Prop) (h1 : x = y → k1 ()) (h2 : x ≠ y → k2 ()) : veq S ⟨false, [.ks]⟩ (.s x) (.s y) k1 k2 := by
  cbv
  refine s_br hS (fun h => ?_) (fun h => ?_) <;> cbv <;> simp only [← hS, Int.ofNat_eq_natCast, cq, Bool.not_eq_true', Bool.not_eq_false', decide_eq_true_eq, decide_eq_false_iff_not, beq_iff_eq, beq_eq_false_iff_ne, ne_eq] at h
  · exact h1 h
  · exact h2 h
def encF (x : Fd) : SV := .ag [.s x.1, .s x.2]
def MapG {α : Type} [DecidableEq α] (enc : α → SV) (key : Fd → α) (E : List (SV × SV)) (L : List Fd) : Prop :=
  ∃ ms : List (α × Int), mapE enc ms = E ∧ (∀ p, p ∈ ms → 1 ≤ p.2) ∧ ∀ k, mget ms k = fstI (fun x => decide (key x = k)) L 1
section
variable {α : Type} [DecidableEq α] {enc : α → SV} {key : Fd → α} {E : List (SV × SV)} {L : List Fd}
theorem fst_snoc (p : Fd → Bool) (L : List Fd) (x : Fd) : fstI p (L ++ [x]) 1 = if fstI p L 1 ≠ 0 then fstI p L 1 else if p x then 1 + L.length else 0 := by
  rw [fstI_app p L [x] 1 (Int.le_refl _)]
  simp only [fstI]
theorem MapG.keep (h : MapG enc key E L) {x : Fd} (hx : fstI (fun y => decide (key y = key x)) L 1 ≠ 0) : MapG enc key E (L ++ [x]) := by
  obtain ⟨ms, h1, h2, h3⟩ := h
  refine ⟨ms, h1, h2, fun k => ?_⟩
  rw [h3, fst_snoc]
  split
  · rfl
  · rename_i h0
    split
    · rename_i hk
      exact absurd (by rw [← of_decide_eq_true hk] at h0; omega) hx
    · omega
theorem MapG.put (h : MapG enc key E L) {x : Fd} (hx : fstI (fun y => decide (key y = key x)) L 1 = 0) : MapG enc key (E ++ [(enc (key x), .i .i64 (.y (1 + L.length)))]) (L ++ [x]) := by
  obtain ⟨ms, h1, h2, h3⟩ := h
  refine ⟨ms ++ [(key x, (1 + L.length : Int))], ?_, ?_, fun k => ?_⟩
  · rw [← h1]; simp [mapE]
  · intro p hp
    rcases List.mem_append.1 hp with hp | hp
    · exact h2 p hp
    · rw [List.mem_singleton.1 hp]; dsimp only; omega
  · rw [mget_app _ _ _ _ h2, h3, fst_snoc]
    simp only [decide_eq_true_eq]
    split
    · rfl
    · split
      · rename_i e; rw [if_pos e.symm]
      · rename_i e; rw [if_neg fun e' => e e'.symm]
theorem MapG.nil : MapG enc key [] [] := ⟨[], rfl, fun _ h => by simp at h, fun _ => rfl⟩
theorem lkG {S : Sy} {sig : Sg} {zero : SV} {K : SV → Bool → Prop} (hS : S0 Tryd.prog = S) (heq : ∀ (a b : α) (k1 k2 : Unit → Prop), (a = b → k1 ()) → (a ≠ b → k2 ()) → veq S sig (enc a) (enc b) k1 k2) (h : MapG enc key E L) {a : α} {n : Int} (hn : n = fstI (fun x => decide (key x = a)) L 1)
    (h1 : n ≠ 0 → K (.i .i64 (.y n)) true) (h2 : n = 0 → K zero false) : S.lk sig (enc a) K zero E := by
  obtain ⟨ms, hE, hv, hm⟩ := h
  rw [← hm] at hn
  subst hn
  exact lk_g (enc := enc) (a := a) hS (heq a) hE h1 h2 hv
theorem muG {S : Sy} {sig : Sg} {K : List (SV × SV) → Prop} (hS : S0 Tryd.prog = S) (heq : ∀ (a b : α) (k1 k2 : Unit → Prop), (a = b → k1 ()) → (a ≠ b → k2 ()) → veq S sig (enc a) (enc b) k1 k2) (h : MapG enc key E L) {x : Fd} {n : Int} (h0 : fstI (fun y => decide (key y = key x)) L 1 = 0) (hz : n = 1 + L.length)
    (hK : ∀ E', MapG enc key E' (L ++ [x]) → K E') : S.mu sig (enc (key x)) (.i .i64 (.y n)) K [] E := by
  have h' := h.put h0
  obtain ⟨ms, hE, hv, hm⟩ := h
  refine mu_g (enc := enc) (a := key x) hS (heq (key x)) hE (by rw [hm]; exact h0) hv fun E' hE' => hK E' ?_
  rw [← hE', hz]; exact h'
end
section
variable {S : Sy} {E : List (SV × SV)} {L : List Fd} {a b : List UInt8} {n : Int}
theorem lkF (hS : S0 Tryd.prog = S) (h : MapG encF id E L) (hn : n = fstI (fun x => decide (id x = (a, b))) L 1) {zero : SV} {K : SV → Bool → Prop} (h1 : n ≠ 0 → K (.i .i64 (.y n)) true) (h2 : n = 0 → K zero false) :
    S.lk ⟨true, [.ks, .ks]⟩ (.ag [.s a, .s b]) K zero E := lkG (enc := encF) (a := (a, b)) hS (eqF' hS) h hn h1 h2
theorem lkN (hS : S0 Tryd.prog = S) (h : MapG SV.s Prod.fst E L) (hn : n = fstI (fun x => decide (x.1 = a)) L 1) {zero : SV} {K : SV → Bool → Prop} (h1 : n ≠ 0 → K (.i .i64 (.y n)) true) (h2 : n = 0 → K zero false) :
    S.lk ⟨false, [.ks]⟩ (.s a) K zero E := lkG (enc := SV.s) (a := a) hS (eqN' hS) h hn h1 h2
theorem muF (hS : S0 Tryd.prog = S) (h : MapG encF id E L) (h0 : fstI (fun x => decide (id x = (a, b))) L 1 = 0) (hz : n = 1 + L.length) {K : List (SV × SV) → Prop} (hK : ∀ E', MapG encF id E' (L ++ [(a, b)]) → K E') :
    S.mu ⟨true, [.ks, .ks]⟩ (.ag [.s a, .s b]) (.i .i64 (.y n)) K [] E := muG (enc := encF) (key := id) (x := (a, b)) hS (eqF' hS) h h0 hz hK
theorem muN (hS : S0 Tryd.prog = S) (h : MapG SV.s Prod.fst E L) (h0 : fstI (fun x => decide (x.1 = a)) L 1 = 0) (hz : n = 1 + L.length) {K : List (SV × SV) → Prop} (hK : ∀ E', MapG SV.s Prod.fst E' (L ++ [(a, b)]) → K E') :
    S.mu ⟨false, [.ks]⟩ (.s a) (.i .i64 (.y n)) K [] E := muG (enc := SV.s) (key := Prod.fst) (x := (a, b)) hS (eqN' hS) h h0 hz hK
end
section
variable {E : List (SV × SV)} {L : List Fd}
theorem MapG.gcF (h : MapG encF id E L) (m : Nat) : gcM m E = true := by
  obtain ⟨ms, h1, -, -⟩ := h
  subst h1
  induction ms with
  | nil => rfl
  | cons p r ih => exact ih
theorem MapG.gcN (h : MapG SV.s Prod.fst E L) (m : Nat) : gcM m E = true := by
  obtain ⟨ms, h1, -, -⟩ := h
  subst h1
  induction ms with
  | nil => rfl
  | cons p r ih => exact ih
end
theorem line_last2 {j : Int} (h1 : j = 19) (l : List Fd) : ∃ (a b : List UInt8), idxI (remT j.toNat) 10 = -1 ∧ cutR (remT j.toNat) = (a, b) ∧ stL[j.toNat]? = some (a, b) ∧ ilen (remT j.toNat) ≤ 300 ∧ idxI (remT j.toNat) 32 < ilen (remT j.toNat) ∧
    fstI (fun x => decide (id x = (a, b))) ((allF l).take j.toNat) 1 = 0 ∧ fstI (fun x => decide (x.1 = a)) ((allF l).take j.toNat) 1 = 0 := by
  subst h1
  unfold allF
  rw [List.take_append_of_le_length (by decide)]
  exact ⟨[117, 115, 101, 114, 45, 97, 103, 101, 110, 116], [], by decide +kernel⟩
theorem find_f {mx n : Int} {l : List Fd} {a b : List UInt8} {t : Bool} (hr : findR l (a, b) = (n, t)) (hm : ilen l ≤ 100000000) : (S0 Tryd.prog).call 34 [tabV mx l, .ag [.s a, .s b]] [] (fun y _ => Sub y (.tp [.i .i64 (.y n), .b t])) := by
  unfold tabV
  generalize hF : cellsF l = F
  obtain ⟨m, hm'⟩ : ∃ m, m = ilen l := ⟨_, rfl⟩
  have h0 := ilen_nn l
  unfold findR at hr
  rw [← hm'] at h0 hm ⊢
  generalize hS : S0 Tryd.prog = S
  refine call_in' hS I.fn_table_Find ?_
  cbv
  refine call_in' hS I.fn_table_fields ?_
  cbv
  refine rfc_in' hS I.fn_table_fields_1 ?_
  cbv
  refine call_in' hS I.fn_strings_SplitSeq ?_
  cbv
  refine call_in' hS I.fn_strings_splitSeq ?_
  cbv
  refine rfc_in' hS I.fn_strings_splitSeq_1 ?_
  cbv
  refine s_sbr hS ?_ ?_ <;> intro h <;> cbv
  · exfalso; simp at h
  have hc : ilen ([10] : List UInt8) = 1 := rfl
  have hc2 : (([10] : List UInt8).length : Int) = 1 := rfl
  refine s_loop_up hS 16 I.dead_strings_splitSeq_1_0 (fun x : Int × List UInt8 × List (SV × SV) × List (SV × SV) => 0 ≤ x.1 ∧ x.1 ≤ 19 ∧ x.2.1 = remT x.1.toNat ∧ MapG encF id x.2.2.1 ((allF l).take x.1.toNat) ∧ MapG SV.s Prod.fst x.2.2.2 ((allF l).take x.1.toNat)) (fun _ => [])
    (fun x => [(2, .m x.2.2.1), (3, .m x.2.2.2), (10, .c [.i .i64 (.y x.1)]), (11, .c [.s x.2.1])]) (fun x => (19 - x.1).toNat) (0, remT 0, [], []) rfl
    ⟨⟨Int.le_refl _, by dsimp only; omega, rfl, .nil, .nil⟩, rfl, ?_, ?_, by cbv⟩ ?_
  · cbv; all_goals exact s_sA
  · cbv; all_goals exact s_bA
  intro x
  obtain ⟨j, s, E1, E2⟩ := x
  intro hx
  dsimp only at hx
  cbv
  obtain ⟨k0, k1, k3, g1, g2⟩ := hx
  have hjj : j < 19 ∨ 19 ≤ j := by omega
  rcases hjj with hj | hj
  · obtain ⟨L, c, d, f1, f2, f3, f4, f5, f6, f7, f8, f9⟩ := line_at k0 hj
    rw [← k3] at f1 f2 f3 f7 f9
    have hall := all_st (l := l) f5
    have htn := take_next hall k0
    have hlt : ((allF l).take j.toNat).length = j.toNat := by rw [List.length_take]; have := (List.getElem?_eq_some_iff.1 hall).1; omega
    refine sidx_u hS (c := 10) (by omega) f1 ?_
    generalize hn : ilen L = n1 at *
    have hn0 : 0 ≤ n1 := hn ▸ ilen_nn L
    cbv
    repeat' (first
      | (refine s_st hS ?_; try cbv)
      | (refine s_sbr hS ?_ ?_ <;> intro h <;> (try cbv) <;> try exact s_ab h)
      | (refine s_sta hS ?_; intro _ _; try cbv)
      | (refine s_stc hS ?_; try cbv)
      | (refine s_stl hS ?_; intro _ _; try cbv)
      | (refine s_chl hS ?_; try cbv)
      | (refine s_yld hS rfl rfl ?_; cbv)
      | fail)
    rename_i r1 hr1 j1 hj1
    have e1 : S.ssub s 0 r1 = L := by
      subst hS
      show (s.take r1.toNat).drop 0 = L
      rw [List.drop_zero, show r1.toNat = L.length by unfold ilen at hn; omega, f2]
    refine cut_u hS (x := S.ssub s 0 r1) (a := c) (b := d) (by rw [e1]; exact f4) (by rw [e1]; omega) (by rw [e1, hn]; exact f8) fun t => ?_
    generalize hT : (allF l).take j.toNat = T at *
    cbv
    refine s_yld hS rfl rfl ?_
    cbv
    obtain ⟨nf, hnf⟩ : ∃ nf, nf = fstI (fun x => decide (id x = (c, d))) T 1 := ⟨_, rfl⟩
    obtain ⟨nn, hnn⟩ : ∃ nn, nn = fstI (fun x => decide (x.1 = c)) T 1 := ⟨_, rfl⟩
    refine lkF hS g1 hnf (fun q => ?_) (fun q => ?_) <;> cbv
    · have g1' := g1.keep (x := (c, d)) (fun e => q (hnf.trans e))
      refine lkN hS g2 hnn (fun q2 => ?_) (fun q2 => ?_) <;> cbv
      · have g2' := g2.keep (x := (c, d)) (fun e => q2 (hnn.trans e))
        repeat' (first
          | (refine s_st hS ?_; try cbv)
          | (refine s_sbr hS ?_ ?_ <;> intro h <;> (try cbv) <;> try exact s_ab h)
          | (refine s_sta hS ?_; intro _ _; try cbv)
          | (refine s_stc hS ?_; try cbv)
          | (refine s_stl hS ?_; intro _ _; try cbv)
          | (refine s_chl hS ?_; try cbv)
          | fail)
        rename_i r2 hr2
        refine ⟨(j1, S.ssub s r2 (S.slen s), E1, E2), by dsimp only; omega, ⟨by dsimp only; omega, by dsimp only; omega, ?_, by dsimp only; rw [hj1, htn]; exact g1', by dsimp only; rw [hj1, htn]; exact g2'⟩, rfl, ?_, ?_, by cbv; (have ga := MapG.gcF g1' 16; have gb := MapG.gcN g2' 16; cbv at ga gb; first | rw [ga, gb] | (rw [ga]; rw [gb]))⟩
        · dsimp only
          rw [hj1, ← f3]
          subst hS
          show (s.take s.length).drop r2.toNat = _
          rw [List.take_length, show r2.toNat = L.length + 1 by unfold ilen at hn; omega]
        · cbv; all_goals exact s_sA
        · cbv; all_goals exact s_bA
      · refine muN (b := d) hS g2 (hnn.symm.trans q2) (show j1 = 1 + (T.length : Int) by omega) fun E2' g2' => ?_
        cbv
        repeat' (first
          | (refine s_st hS ?_; try cbv)
          | (refine s_sbr hS ?_ ?_ <;> intro h <;> (try cbv) <;> try exact s_ab h)
          | (refine s_sta hS ?_; intro _ _; try cbv)
          | (refine s_stc hS ?_; try cbv)
          | (refine s_stl hS ?_; intro _ _; try cbv)
          | (refine s_chl hS ?_; try cbv)
          | fail)
        rename_i r2 hr2
        refine ⟨(j1, S.ssub s r2 (S.slen s), E1, E2'), by dsimp only; omega, ⟨by dsimp only; omega, by dsimp only; omega, ?_, by dsimp only; rw [hj1, htn]; exact g1', by dsimp only; rw [hj1, htn]; exact g2'⟩, rfl, ?_, ?_, by cbv; (have ga := MapG.gcF g1' 16; have gb := MapG.gcN g2' 16; cbv at ga gb; first | rw [ga, gb] | (rw [ga]; rw [gb]))⟩
        · dsimp only
          rw [hj1, ← f3]
          subst hS
          show (s.take s.length).drop r2.toNat = _
          rw [List.take_length, show r2.toNat = L.length + 1 by unfold ilen at hn; omega]
        · cbv; all_goals exact s_sA
        · cbv; all_goals exact s_bA
    · refine muF hS g1 (hnf.symm.trans q) (show j1 = 1 + (T.length : Int) by omega) fun E1' g1' => ?_
      cbv
      refine lkN hS g2 hnn (fun q2 => ?_) (fun q2 => ?_) <;> cbv
      · have g2' := g2.keep (x := (c, d)) (fun e => q2 (hnn.trans e))
        repeat' (first
          | (refine s_st hS ?_; try cbv)
          | (refine s_sbr hS ?_ ?_ <;> intro h <;> (try cbv) <;> try exact s_ab h)
          | (refine s_sta hS ?_; intro _ _; try cbv)
          | (refine s_stc hS ?_; try cbv)
          | (refine s_stl hS ?_; intro _ _; try cbv)
          | (refine s_chl hS ?_; try cbv)
          | fail)
        rename_i r2 hr2
        refine ⟨(j1, S.ssub s r2 (S.slen s), E1', E2), by dsimp only; omega, ⟨by dsimp only; omega, by dsimp only; omega, ?_, by dsimp only; rw [hj1, htn]; exact g1', by dsimp only; rw [hj1, htn]; exact g2'⟩, rfl, ?_, ?_, by cbv; (have ga := MapG.gcF g1' 16; have gb := MapG.gcN g2' 16; cbv at ga gb; first | rw [ga, gb] | (rw [ga]; rw [gb]))⟩
        · dsimp only
          rw [hj1, ← f3]
          subst hS
          show (s.take s.length).drop r2.toNat = _
          rw [List.take_length, show r2.toNat = L.length + 1 by unfold ilen at hn; omega]
        · cbv; all_goals exact s_sA
        · cbv; all_goals exact s_bA
      · refine muN (b := d) hS g2 (hnn.symm.trans q2) (show j1 = 1 + (T.length : Int) by omega) fun E2' g2' => ?_
        cbv
        repeat' (first
          | (refine s_st hS ?_; try cbv)
          | (refine s_sbr hS ?_ ?_ <;> intro h <;> (try cbv) <;> try exact s_ab h)
          | (refine s_sta hS ?_; intro _ _; try cbv)
          | (refine s_stc hS ?_; try cbv)
          | (refine s_stl hS ?_; intro _ _; try cbv)
          | (refine s_chl hS ?_; try cbv)
          | fail)
        rename_i r2 hr2
        refine ⟨(j1, S.ssub s r2 (S.slen s), E1', E2'), by dsimp only; omega, ⟨by dsimp only; omega, by dsimp only; omega, ?_, by dsimp only; rw [hj1, htn]; exact g1', by dsimp only; rw [hj1, htn]; exact g2'⟩, rfl, ?_, ?_, by cbv; (have ga := MapG.gcF g1' 16; have gb := MapG.gcN g2' 16; cbv at ga gb; first | rw [ga, gb] | (rw [ga]; rw [gb]))⟩
        · dsimp only
          rw [hj1, ← f3]
          subst hS
          show (s.take s.length).drop r2.toNat = _
          rw [List.take_length, show r2.toNat = L.length + 1 by unfold ilen at hn; omega]
        · cbv; all_goals exact s_sA
        · cbv; all_goals exact s_bA
  · obtain ⟨c, d, f1, f4, f5, f7, f8, f9, f10⟩ := line_last2 (j := j) (by omega) l
    rw [← k3] at f1 f4 f7 f8
    have hall := all_st (l := l) f5
    have htn := take_next hall k0
    have hlt : ((allF l).take j.toNat).length = j.toNat := by rw [List.length_take]; have := (List.getElem?_eq_some_iff.1 hall).1; omega
    generalize hT : (allF l).take j.toNat = T at *
    refine sidx_u hS (c := 10) (by omega) f1 ?_
    cbv
    refine s_br hS ?_ ?_ <;> intro h' <;> cbv <;> simp only [← hS, Int.ofNat_eq_natCast, cq, Bool.not_eq_true', Bool.not_eq_false', decide_eq_true_eq, decide_eq_false_iff_not, beq_iff_eq, beq_eq_false_iff_ne, ne_eq] at h'
    · repeat' (first
      | (refine s_st hS ?_; try cbv)
      | (refine s_sbr hS ?_ ?_ <;> intro h <;> (try cbv) <;> try exact s_ab h)
      | (refine s_sta hS ?_; intro _ _; try cbv)
      | (refine s_stc hS ?_; try cbv)
      | (refine s_stl hS ?_; intro _ _; try cbv)
      | (refine s_chl hS ?_; try cbv)
      | (refine s_yld hS rfl rfl ?_; cbv)
      | fail)
      rename_i j1 hj1
      refine cut_u hS (a := c) (b := d) f4 (by omega) f8 fun t => ?_
      cbv
      refine s_yld hS rfl rfl ?_
      cbv
      obtain ⟨nzf9, hnzf9⟩ : ∃ nz, nz = (0 : Int) := ⟨_, rfl⟩
      refine lkF hS g1 (hnzf9.trans f9.symm) (fun q => ?_) (fun _ => ?_) <;> cbv
      · exact absurd hnzf9 q
      refine muF hS g1 f9 (show j1 = 1 + (T.length : Int) by omega) fun E1' g1' => ?_
      cbv
      obtain ⟨nzf10, hnzf10⟩ : ∃ nz, nz = (0 : Int) := ⟨_, rfl⟩
      refine lkN hS g2 (hnzf10.trans f10.symm) (fun q => ?_) (fun _ => ?_) <;> cbv
      · exact absurd hnzf10 q
      refine muN (b := d) hS g2 f10 (show j1 = 1 + (T.length : Int) by omega) fun E2' g2' => ?_
      cbv
      repeat' (first
        | (refine s_st hS ?_; try cbv)
        | (refine s_sbr hS ?_ ?_ <;> intro h <;> (try cbv) <;> try exact s_ab h)
        | (refine s_sta hS ?_; intro _ _; try cbv)
        | (refine s_stc hS ?_; try cbv)
        | (refine s_stl hS ?_; intro _ _; try cbv)
        | (refine s_chl hS ?_; try cbv)
        | fail)
      rw [← htn] at g1' g2'
      clear g1 g2 htn hlt hall
      refine s_loop_up hS 17 I.dead_table_fields_1_0 (fun x : Int × Int × List (SV × SV) × List (SV × SV) => 0 ≤ x.1 ∧ x.1 ≤ m ∧ x.2.1 = x.1 + 20 ∧ MapG encF id x.2.2.1 ((allF l).take x.2.1.toNat) ∧ MapG SV.s Prod.fst x.2.2.2 ((allF l).take x.2.1.toNat)) (fun x => [(29, .i .i64 (.y x.1))]) (fun x => [(2, .m x.2.2.1), (3, .m x.2.2.2), (10, .c [.i .i64 (.y x.2.1)])]) (fun x => (m - x.1).toNat) (0, j1, E1', E2') rfl
        ⟨⟨Int.le_refl _, by dsimp only; omega, by dsimp only; omega, by dsimp only; rw [hj1]; exact g1', by dsimp only; rw [hj1]; exact g2'⟩, rfl, ?_, ?_, by cbv; (have ga := MapG.gcF g1' 17; have gb := MapG.gcN g2' 17; cbv at ga gb; first | rw [ga, gb] | (rw [ga]; rw [gb]))⟩ ?_
      · cbv; all_goals exact s_sA
      · cbv; all_goals exact s_bA
      clear g1' g2'
      intro x
      obtain ⟨q, u, E1, E2⟩ := x
      intro hx
      dsimp only at hx
      cbv
      obtain ⟨q0, q1, q2, g1, g2⟩ := hx
      refine s_sbr hS ?_ ?_ <;> intro h <;> cbv
      · obtain ⟨⟨c, d⟩, hp⟩ := at_ex (l := l) (i := q) (by omega) q0
        have hall := all_row q0 q2 hp
        have htn := take_next hall (by omega)
        have hlt : ((allF l).take u.toNat).length = u.toNat := by rw [List.length_take]; have := (List.getElem?_eq_some_iff.1 hall).1; omega
        generalize hT' : (allF l).take u.toNat = T at *
        repeat' (first
          | (refine s_st hS ?_; try cbv)
          | (refine s_sbr hS ?_ ?_ <;> intro h <;> (try cbv) <;> try exact s_ab h)
          | (refine s_sta hS ?_; intro _ _; try cbv)
          | (refine s_stc hS ?_; try cbv)
          | (refine s_stl hS ?_; intro _ _; try cbv)
          | (refine s_chl hS ?_; try cbv)
          | (refine rowF hS hF hp (by omega) ?_; cbv)
          | fail)
        rename_i u1 hu1
        refine s_yld hS rfl rfl ?_
        cbv
        obtain ⟨nf, hnf⟩ : ∃ nf, nf = fstI (fun x => decide (id x = (c, d))) T 1 := ⟨_, rfl⟩
        obtain ⟨nn, hnn⟩ : ∃ nn, nn = fstI (fun x => decide (x.1 = c)) T 1 := ⟨_, rfl⟩
        refine lkF hS g1 hnf (fun q => ?_) (fun q => ?_) <;> cbv
        · have g1' := g1.keep (x := (c, d)) (fun e => q (hnf.trans e))
          refine lkN hS g2 hnn (fun q2 => ?_) (fun q2 => ?_) <;> cbv
          · have g2' := g2.keep (x := (c, d)) (fun e => q2 (hnn.trans e))
            repeat' (first
              | (refine s_st hS ?_; try cbv)
              | (refine s_sbr hS ?_ ?_ <;> intro h <;> (try cbv) <;> try exact s_ab h)
              | (refine s_sta hS ?_; intro _ _; try cbv)
              | (refine s_stc hS ?_; try cbv)
              | (refine s_stl hS ?_; intro _ _; try cbv)
              | (refine s_chl hS ?_; try cbv)
              | fail)
            rename_i q4 hq4
            refine ⟨(q4, u1, E1, E2), by dsimp only; omega, ⟨by dsimp only; omega, by dsimp only; omega, by dsimp only; omega, by dsimp only; rw [hu1, htn]; exact g1', by dsimp only; rw [hu1, htn]; exact g2'⟩, rfl, ?_, ?_, by cbv; (have ga := MapG.gcF g1' 17; have gb := MapG.gcN g2' 17; cbv at ga gb; first | rw [ga, gb] | (rw [ga]; rw [gb]))⟩
            · cbv; all_goals exact s_sA
            · cbv; all_goals exact s_bA
          · refine muN (b := d) hS g2 (hnn.symm.trans q2) (show u1 = 1 + (T.length : Int) by omega) fun E2' g2' => ?_
            cbv
            repeat' (first
              | (refine s_st hS ?_; try cbv)
              | (refine s_sbr hS ?_ ?_ <;> intro h <;> (try cbv) <;> try exact s_ab h)
              | (refine s_sta hS ?_; intro _ _; try cbv)
              | (refine s_stc hS ?_; try cbv)
              | (refine s_stl hS ?_; intro _ _; try cbv)
              | (refine s_chl hS ?_; try cbv)
              | fail)
            rename_i q4 hq4
            refine ⟨(q4, u1, E1, E2'), by dsimp only; omega, ⟨by dsimp only; omega, by dsimp only; omega, by dsimp only; omega, by dsimp only; rw [hu1, htn]; exact g1', by dsimp only; rw [hu1, htn]; exact g2'⟩, rfl, ?_, ?_, by cbv; (have ga := MapG.gcF g1' 17; have gb := MapG.gcN g2' 17; cbv at ga gb; first | rw [ga, gb] | (rw [ga]; rw [gb]))⟩
            · cbv; all_goals exact s_sA
            · cbv; all_goals exact s_bA
        · refine muF hS g1 (hnf.symm.trans q) (show u1 = 1 + (T.length : Int) by omega) fun E1' g1' => ?_
          cbv
          refine lkN hS g2 hnn (fun q2 => ?_) (fun q2 => ?_) <;> cbv
          · have g2' := g2.keep (x := (c, d)) (fun e => q2 (hnn.trans e))
            repeat' (first
              | (refine s_st hS ?_; try cbv)
              | (refine s_sbr hS ?_ ?_ <;> intro h <;> (try cbv) <;> try exact s_ab h)
              | (refine s_sta hS ?_; intro _ _; try cbv)
              | (refine s_stc hS ?_; try cbv)
              | (refine s_stl hS ?_; intro _ _; try cbv)
              | (refine s_chl hS ?_; try cbv)
              | fail)
            rename_i q4 hq4
            refine ⟨(q4, u1, E1', E2), by dsimp only; omega, ⟨by dsimp only; omega, by dsimp only; omega, by dsimp only; omega, by dsimp only; rw [hu1, htn]; exact g1', by dsimp only; rw [hu1, htn]; exact g2'⟩, rfl, ?_, ?_, by cbv; (have ga := MapG.gcF g1' 17; have gb := MapG.gcN g2' 17; cbv at ga gb; first | rw [ga, gb] | (rw [ga]; rw [gb]))⟩
            · cbv; all_goals exact s_sA
            · cbv; all_goals exact s_bA
          · refine muN (b := d) hS g2 (hnn.symm.trans q2) (show u1 = 1 + (T.length : Int) by omega) fun E2' g2' => ?_
            cbv
            repeat' (first
              | (refine s_st hS ?_; try cbv)
              | (refine s_sbr hS ?_ ?_ <;> intro h <;> (try cbv) <;> try exact s_ab h)
              | (refine s_sta hS ?_; intro _ _; try cbv)
              | (refine s_stc hS ?_; try cbv)
              | (refine s_stl hS ?_; intro _ _; try cbv)
              | (refine s_chl hS ?_; try cbv)
              | fail)
            rename_i q4 hq4
            refine ⟨(q4, u1, E1', E2'), by dsimp only; omega, ⟨by dsimp only; omega, by dsimp only; omega, by dsimp only; omega, by dsimp only; rw [hu1, htn]; exact g1', by dsimp only; rw [hu1, htn]; exact g2'⟩, rfl, ?_, ?_, by cbv; (have ga := MapG.gcF g1' 17; have gb := MapG.gcN g2' 17; cbv at ga gb; first | rw [ga, gb] | (rw [ga]; rw [gb]))⟩
            · cbv; all_goals exact s_sA
            · cbv; all_goals exact s_bA
      · have hta : (allF l).take u.toNat = allF l := take_all (by rw [allF_len]; omega)
        rw [hta] at g1 g2
        have b1 : (fun x : Fd => x == (a, b)) = fun x => decide (id x = (a, b)) := by funext x; rw [Bool.eq_iff_iff]; simp
        have b2 : (fun x : Fd => x.1 == (a, b).1) = fun x => decide (x.1 = a) := by funext x; rw [Bool.eq_iff_iff]; simp
        rw [b1, b2] at hr
        obtain ⟨nf, hnf⟩ : ∃ nf, nf = fstI (fun x => decide (id x = (a, b))) (allF l) 1 := ⟨_, rfl⟩
        obtain ⟨nn, hnn⟩ : ∃ nn, nn = fstI (fun x => decide (x.1 = a)) (allF l) 1 := ⟨_, rfl⟩
        rw [← hnf, ← hnn] at hr
        refine lkF hS g1 hnf (fun q => ?_) (fun q => ?_) <;> cbv
        · rw [if_pos q] at hr
          cases hr
          repeat' (first
            | (refine s_st hS ?_; try cbv)
            | (refine s_sbr hS ?_ ?_ <;> intro h <;> (try cbv) <;> try exact s_ab h)
            | (refine s_sta hS ?_; intro _ _; try cbv)
            | (refine s_stc hS ?_; try cbv)
            | (refine s_stl hS ?_; intro _ _; try cbv)
            | (refine s_chl hS ?_; try cbv)
            | fail)
          all_goals exact s_sA
        · rw [if_neg (fun h => h q)] at hr
          refine lkN hS g2 hnn (fun q => ?_) (fun q => ?_) <;> cbv
          · cases hr
            repeat' (first
              | (refine s_st hS ?_; try cbv)
              | (refine s_sbr hS ?_ ?_ <;> intro h <;> (try cbv) <;> try exact s_ab h)
              | (refine s_sta hS ?_; intro _ _; try cbv)
              | (refine s_stc hS ?_; try cbv)
              | (refine s_stl hS ?_; intro _ _; try cbv)
              | (refine s_chl hS ?_; try cbv)
              | fail)
            all_goals exact s_sA
          · cases hr
            repeat' (first
              | (refine s_st hS ?_; try cbv)
              | (refine s_sbr hS ?_ ?_ <;> intro h <;> (try cbv) <;> try exact s_ab h)
              | (refine s_sta hS ?_; intro _ _; try cbv)
              | (refine s_stc hS ?_; try cbv)
              | (refine s_stl hS ?_; intro _ _; try cbv)
              | (refine s_chl hS ?_; try cbv)
              | fail)
            all_goals exact s_sA
    · omega
end Tb
end Cz
namespace Cz
open Go Go.RowKit Go.Proofs
set_option linter.unusedSimpArgs false
set_option linter.unusedVariables false
set_option maxRecDepth 100000
set_option maxHeartbeats 4000000
namespace Tb
section
variable {S : Sy} {bl : List Blk} {K : SV → List Blk → Prop} {cs : List SV} {mx mx' e n : Int} {l l' : List Fd} {F : List SV} {a b : List UInt8}
theorem use_tell_l (hS : S0 Tryd.prog = S) {g : FuncId} {args args' : List SV} {y y' : SV} (hF : (S0 Tryd.prog).call g args' [] (Tell y)) (ha : SubL args args') (hr : refsBL (fun _ => false) args' = true) (hy : Sub y y') (hK : K y' bl) : S.call g args bl K := by
  subst hS
  exact call_post (use_tell rfl hF ha hr (K := fun x l' => x = y ∧ l' = bl) ⟨rfl, rfl⟩) fun x l' h => ⟨y', h.1 ▸ hy, h.2 ▸ hK⟩
theorem tabE_l (hF : cellsF l' = F) (hn : ilen l' = n) : Sub (tabE mx' l' e) (.tp [.ag [.i .i64 (.l mx'), .v true 2 F (.l n)], .i .i64 (.l e)]) := by
  subst hF hn
  exact sub_tp (.cons (sub_ag (.cons (sub_i rfl) (.cons (sub_v rfl rfl) .nil))) (.cons (sub_i rfl) .nil))
theorem new_l (hS : S0 Tryd.prog = S) {most : Z} (hr : newR most.v = ((mx', l'), e)) (hF : cellsF l' = F) (hn : ilen l' = n) (hK : K (.tp [.ag [.i .i64 (.l mx'), .v true 2 F (.l n)], .i .i64 (.l e)]) bl) :
    S.call 19 [.i .i64 most] bl K :=
  use_val hS (call_post (new_f hr) fun x _ h => ⟨x, .rfl, h.trans (tabE_l (e := e) hF hn)⟩) (.cons (sub_i rfl) .nil) rfl rfl hK
theorem add_l (hS : S0 Tryd.prog = S) (hc : TabC [] cs mx l) (hr : addR (mx, l) (a, b) = ((mx', l'), e)) (hF : cellsF l' = F) (hn : ilen l' = n) (hb : fullL l ≤ 10000000) (hs : szF (a, b) ≤ 10000000)
    (hK : K (.tp [.ag [.i .i64 (.l mx'), .v true 2 F (.l n)], .i .i64 (.l e)]) bl) : S.call 28 [.ag cs, .ag [.s a, .s b]] bl K := by
  refine use_tell_l hS (add_f hr hb hs) ?_ rfl (tabE_l hF hn) hK
  match hc.sub with
  | .cons h _ => exact .cons h .rfl
theorem res_l (hS : S0 Tryd.prog = S) (hc : TabC [] cs mx l) {most : Z} (hr : resR (mx, l) most.v = ((mx', l'), e)) (hF : cellsF l' = F) (hn : ilen l' = n) (hb : fullL l ≤ 100000000)
    (hK : K (.tp [.ag [.i .i64 (.l mx'), .v true 2 F (.l n)], .i .i64 (.l e)]) bl) : S.call 30 [.ag cs, .i .i64 most] bl K := by
  refine use_tell_l hS (res_f hr hb) ?_ rfl (tabE_l hF hn) hK
  match hc.sub with
  | .cons h _ => exact .cons h (.cons (sub_i rfl) .nil)
theorem find_l (hS : S0 Tryd.prog = S) (hc : TabC bl cs mx l) {t : Bool} (hr : findR l (a, b) = (n, t)) (hm : ilen l ≤ 100000000) (hK : K (.tp [.i .i64 (.l n), ofB t]) bl) : S.call 34 [.ag cs, .ag [.s a, .s b]] bl K :=
  use_tmp hS (call_lit (find_f hr hm)) (hc.fzi .rfl rfl) rfl (by cases t <;> rfl) hK
theorem at_l (hS : S0 Tryd.prog = S) {z : Z} (hc : TabC bl cs mx l) (hr : atR l z.v = ((a, b), e)) (hm : ilen l ≤ 100000000) (hK : K (.tp [.ag [.s a, .s b], .i .i64 (.l e)]) bl) : S.call 32 [.ag cs, .i .i64 z] bl K :=
  use_tmp hS (call_lit (at_f hr hm)) (hc.fzi (sub_i (b := .y z.v) rfl) rfl) rfl rfl hK
theorem static_l (hS : S0 Tryd.prog = S) {z : Z} {t : Bool} (hr : statR z.v = ((a, b), t)) (hK : K (.tp [.ag [.s a, .s b], ofB t]) bl) : S.call 17 [.i .i64 z] bl K :=
  use_val hS (call_lit (static_f hr)) (.cons (sub_i rfl) .nil) rfl (by cases t <;> rfl) hK
theorem full_l (hS : S0 Tryd.prog = S) (hc : TabC bl cs mx l) (hn : n = fullL l) (h : n ≤ 100000000) (hK : K (.i .i64 (.l n)) bl) : S.call 24 [.ag cs] bl K :=
  use_tmp hS (call_lit (full_f hn h)) hc.fz rfl rfl hK
theorem right_l (hS : S0 Tryd.prog = S) (hc : TabC bl cs mx l) {t : Bool} (ht : rightL mx l = t) (h : fullL l ≤ 100000000) (hK : K (ofB t) bl) : S.call 26 [.ag cs] bl K :=
  use_tmp hS (call_lit (right_f ht h)) hc.fz rfl (by cases t <;> rfl) hK
theorem size_l (hS : S0 Tryd.prog = S) (hn : n = szF (a, b)) (h : n ≤ 1000000000) (hK : K (.i .i64 (.l n)) bl) : S.call 22 [.ag [.s a, .s b]] bl K :=
  use_val hS (call_lit (size_f hn h)) .rfl rfl rfl hK
theorem same_l (hS : S0 Tryd.prog = S) {cs' : List SV} {my : Int} {k : List Fd} (hc : TabC bl cs mx l) (hc' : TabC bl cs' my k) {t : Bool} (ht : decide (mx = my ∧ l = k) = t) (hl : ilen l ≤ 100000000) (hk : ilen k ≤ 100000000) (hK : K (ofB t) bl) :
    S.call 36 [.ag cs, .ag cs'] bl K :=
  use_tmp hS (call_lit (same_f ht hl hk)) (fz_two hc.fz hc'.fz rfl rfl) rfl (by cases t <;> rfl) hK
end
abbrev fa : Fd := ([97], [49])
abbrev fb : Fd := ([98], [50])
abbrev fc : Fd := ([99], [51])
theorem wakes_f : (S0 Tryd.prog).call 16 [] [] (fun y _ => Sub y .tt) := by
  generalize hS : S0 Tryd.prog = S
  refine call_in' hS I.fn_causeylaw09_wakes ?_
  cbv
  refine new_l hS (mx' := 100) (l' := []) (e := 0) rfl rfl rfl ?_
  cbv
  refine add_l hS (mx := 100) (l := []) (mx' := 100) (l' := [fa]) (e := 0) (.v rfl rfl rfl) (by decide +kernel) rfl rfl (by decide +kernel) (by decide +kernel) ?_
  cbv
  refine add_l hS (mx := 100) (l := [fa]) (mx' := 100) (l' := [fb, fa]) (e := 0) (.v rfl rfl rfl) (by decide +kernel) rfl rfl (by decide +kernel) (by decide +kernel) ?_
  cbv
  refine add_l hS (mx := 100) (l := [fb, fa]) (mx' := 100) (l' := [fc, fb]) (e := 0) (.v rfl rfl rfl) (by decide +kernel) rfl rfl (by decide +kernel) (by decide +kernel) ?_
  cbv
  refine find_l hS (mx := 100) (l := [fc, fb]) (.v rfl rfl rfl) (n := 1) (t := false) (by decide +kernel) (by decide +kernel) ?_
  cbv
  refine find_l hS (mx := 100) (l := [fc, fb]) (.v rfl rfl rfl) (n := 2) (t := true) (by decide +kernel) (by decide +kernel) ?_
  cbv
  refine find_l hS (mx := 100) (l := [fc, fb]) (.v rfl rfl rfl) (n := 22) (t := true) (by decide +kernel) (by decide +kernel) ?_
  cbv
  refine at_l hS (mx := 100) (l := [fc, fb]) (.v rfl rfl rfl) (a := [99]) (b := [51]) (e := 0) (by decide +kernel) (by decide +kernel) ?_
  cbv
  refine at_l hS (mx := 100) (l := [fc, fb]) (.v rfl rfl rfl) (a := []) (b := []) (e := 90) (by decide +kernel) (by decide +kernel) ?_
  cbv
  refine static_l hS (a := [112, 114, 105, 111, 114, 105, 116, 121]) (b := [117, 61, 49]) (t := true) (by decide +kernel) ?_
  cbv
  refine static_l hS (a := []) (b := []) (t := false) (by decide +kernel) ?_
  cbv
  refine res_l hS (mx := 100) (l := [fc, fb]) (mx' := 40) (l' := [fc]) (e := 0) (.v rfl rfl rfl) (by decide +kernel) rfl rfl (by decide +kernel) ?_
  cbv
  refine new_l hS (mx' := 0) (l' := []) (e := 2) rfl rfl rfl ?_
  cbv
  refine full_l hS (mx := 100) (l := [fa]) (.v rfl rfl rfl) (n := 34) (by decide +kernel) (by decide) ?_
  cbv
  refine full_l hS (mx := 100) (l := [fb, fa]) (.v rfl rfl rfl) (n := 68) (by decide +kernel) (by decide) ?_
  cbv
  refine full_l hS (mx := 100) (l := [fc, fb]) (.v rfl rfl rfl) (n := 68) (by decide +kernel) (by decide) ?_
  cbv
  repeat' (first
    | (refine s_st hS ?_; try cbv)
    | (refine s_sbr hS ?_ ?_ <;> intro h <;> (try cbv) <;> try exact s_ab h)
    | (refine s_sta hS ?_; intro _ _; try cbv)
    | (refine s_stc hS ?_; try cbv)
    | (refine s_stl hS ?_; intro _ _; try cbv)
    | (refine s_chl hS ?_; try cbv)
    | fail)
  refine right_l hS (mx := 100) (l := [fc, fb]) (.v rfl rfl rfl) (t := true) (by decide +kernel) (by decide +kernel) ?_
  cbv
  refine right_l hS (mx := -1) (l := []) (.nil rfl) (t := false) (by decide +kernel) (by decide +kernel) ?_
  cbv
  refine size_l hS (n := 43) (by decide +kernel) (by decide) ?_
  cbv
  refine same_l hS (mx := 100) (l := [fc, fb]) (my := 100) (k := [fc, fb]) (.v rfl rfl rfl) (.v rfl rfl rfl) (t := true) (by decide +kernel) (by decide +kernel) (by decide +kernel) ?_
  cbv
  refine same_l hS (mx := 100) (l := [fc, fb]) (my := 40) (k := [fc]) (.v rfl rfl rfl) (.v rfl rfl rfl) (t := false) (by decide +kernel) (by decide +kernel) (by decide +kernel) ?_
  cbv
  exact .rfl
theorem wakes_u {S : Sy} {bl : List Blk} {K : SV → List Blk → Prop} (hS : S0 Tryd.prog = S) (hK : K .tt bl) : S.call 16 [] bl K := use_val hS wakes_f .rfl rfl rfl hK
theorem right_ev {mx : Int} {l : List Fd} (h0 : 0 ≤ mx) (h1 : mx ≤ 4096) : rightL mx (evL mx l) = true := decide_eq_true ⟨h0, h1, evL_right h0⟩
end Tb
end Cz
namespace Cz
open Go Go.RowKit Go.Proofs
set_option linter.unusedSimpArgs false
set_option linter.unusedVariables false
set_option maxRecDepth 100000
set_option maxHeartbeats 4000000
namespace Tb
section
variable {S : Sy} {bl : List Blk} {K : SV → List Blk → Prop} {cs : List SV} {mx mx' e n : Int} {l l' : List Fd} {F : List SV} {a b : List UInt8}
theorem tabE_g (hF : cellsF l' = F) (hn : n = ilen l') : Sub (tabE mx' l' e) (.tp [.ag [.i .i64 (.y mx'), .v false 2 F (.y n)], .i .i64 (.y e)]) := by
  subst hF hn; exact .rfl
theorem add_g (hS : S0 Tryd.prog = S) (hc : TabC [] cs mx l) (hr : addR (mx, l) (a, b) = ((mx', l'), e)) (hF : cellsF l' = F) (hn : n = ilen l') (hb : fullL l ≤ 10000000) (hs : szF (a, b) ≤ 10000000)
    (hK : K (.tp [.ag [.i .i64 (.y mx'), .v false 2 F (.y n)], .i .i64 (.y e)]) bl) : S.call 28 [.ag cs, .ag [.s a, .s b]] bl K := by
  refine use_tell_l hS (add_f hr hb hs) ?_ rfl (tabE_g hF hn) hK
  match hc.sub with
  | .cons h _ => exact .cons h .rfl
theorem res_g (hS : S0 Tryd.prog = S) (hc : TabC [] cs mx l) {most : Z} (hr : resR (mx, l) most.v = ((mx', l'), e)) (hF : cellsF l' = F) (hn : n = ilen l') (hb : fullL l ≤ 10000000)
    (hK : K (.tp [.ag [.i .i64 (.y mx'), .v false 2 F (.y n)], .i .i64 (.y e)]) bl) : S.call 30 [.ag cs, .i .i64 most] bl K := by
  refine use_tell_l hS (res_f hr (by omega)) ?_ rfl (tabE_g hF hn) hK
  match hc.sub with
  | .cons h _ => exact .cons h (.cons (sub_i rfl) .nil)
theorem find_g (hS : S0 Tryd.prog = S) {t : Bool} (hc : TabC bl cs mx l) (hr : findR l (a, b) = (n, t)) (hm : ilen l ≤ 100000000) (hK : K (.tp [.i .i64 (.y n), .b t]) bl) : S.call 34 [.ag cs, .ag [.s a, .s b]] bl K :=
  use_tmp hS (find_f hr hm) (hc.fzi .rfl rfl) rfl rfl hK
theorem rright_g (hS : S0 Tryd.prog = S) (hc : TabC bl cs mx l) {t : Bool} (ht : rightL mx l = t) (h : fullL l ≤ 100000000) (hK : K (.b t) bl) : S.call 27 [.ag cs] bl K :=
  use_tmp hS (rright_f ht h) hc.fz rfl rfl hK
theorem size_g (hS : S0 Tryd.prog = S) (hn : n = szF (a, b)) (h : n ≤ 1000000000) (hK : K (.i .i64 (.y n)) bl) : S.call 22 [.ag [.s a, .s b]] bl K :=
  use_val hS (size_f hn h) .rfl rfl rfl hK
theorem rsame_t (hS : S0 Tryd.prog = S) {cs' : List SV} (hc : TabC bl cs mx l) (hc' : TabC bl cs' mx l) (hl : ilen l ≤ 100000000) (hK : K .tt bl) : S.call 21 [.ag cs, .ag cs'] bl K :=
  use_tmp hS (call_lit (rsame_f (decide_eq_true ⟨rfl, rfl⟩) hl hl)) (fz_two hc.fz hc'.fz rfl rfl) rfl rfl hK
end
end Tb
end Cz
namespace Cz
open Go Go.RowKit
set_option linter.unusedSimpArgs false
set_option linter.unusedVariables false
def Ctx (C : SV → SV) : Prop := ∀ (ρ : Nms) (s : SV) (v : Value), den ρ (C s) v → ∃ u, den ρ s u ∧ ∀ (ρ' : Nms) (s' : SV), den ρ' s' u → den ρ' (C s') v
section
variable {P : Program} {l : List Blk}
theorem call_one {C : SV → SV} (hC : Ctx C) {sz : Nat} {F : List SV} {n : Int} {g : FuncId} {args : List SV}
    (hF : (S0 P).call g args [] (fun x l' => ∃ (j : Nat) (lit : Bool) (st z : Z) (F' : List SV), x = C (.sl j sz (.l 0) z none) ∧ l'[j]? = some (.r false lit st sz F') ∧ plains F' = true ∧ F'.take (z.v.toNat * sz) = F ∧ z.v = n)) :
    (S0 P).call g args [] (fun x l' => ∃ (j : Nat) (z : Z), x = C (.sl j sz (.l 0) z none) ∧ l'[j]? = some (.r false false (.l 0) sz F) ∧ z.v = n) := by
  intro N W0 ρ W vals hR hd
  refine NextR.mono ?_ (hF N W0 ρ W vals hR hd)
  rintro v W' ⟨ρ', x, l', ⟨j, lit, st, z, F', rfl, hB, hp, hFF, hz⟩, hle, hll, hR', hdv⟩
  obtain ⟨u, hu, hback⟩ := hC _ _ _ hdv
  have hj := (List.getElem?_eq_some_iff.1 hB).1
  obtain ⟨hsz, hvs, _, hown⟩ := hR'.blk j _ hB
  obtain ⟨cur, _, _, hown2, _, _⟩ := hown rfl
  simp only [den] at hu
  obtain ⟨h0, h1, vw, hvw, hin, hs⟩ := hu
  have e0 : (Z.l 0).v.toNat = 0 := rfl
  rw [e0] at hs hin
  rw [Nat.zero_add] at hin
  -- the slice's own view
  have key : ∃ vw0 : View, vw0.n = F.length ∧ vw0.n ≤ vw0.cap * sz ∧ (∀ a, vw0.base = some a → vw.base = some a) ∧ ViewOk W' ρ' F vw0 ∧ OwnOk N W' vw0 (vw0.cap * sz) ∧ (0 + z.v.toNat) * sz ≤ vw0.n ∧ SlVal vw0 sz 0 z.v.toNat (Option.map Z.v none) u := by
    have empty : z.v.toNat = 0 → (∃ a', u = .slice a' 0 0) → ∃ vw0 : View, vw0.n = F.length ∧ vw0.n ≤ vw0.cap * sz ∧ (∀ a, vw0.base = some a → vw.base = some a) ∧ ViewOk W' ρ' F vw0 ∧ OwnOk N W' vw0 (vw0.cap * sz) ∧ (0 + z.v.toNat) * sz ≤ vw0.n ∧ SlVal vw0 sz 0 z.v.toNat (Option.map Z.v none) u := by
      intro hz0 ha
      have hF0 : F = [] := by rw [← hFF, hz0]; simp
      subst hF0
      exact ⟨⟨none, 0, 0⟩, rfl, Nat.zero_le _, (fun a h => by cases h), ⟨Nat.zero_le _, fun _ => ⟨rfl, rfl⟩, fun q x hq _ => by simp at hq⟩, (fun a h => by cases h), by rw [hz0]; simp, ⟨rfl, hz0, ha⟩⟩
    have hv := hvs vw hvw
    unfold SlVal at hs
    cases hb : vw.base with
    | none =>
      rw [hb] at hs
      rw [← hb] at *
      exact empty hs.2.1 hs.2.2
    | some a =>
      rw [hb] at hs
      rcases hs with ⟨c, e, hc, hc2, hc3⟩ | ⟨h2, h3, _⟩
      · have hlen : F.length = z.v.toNat * sz := by rw [← hFF, List.length_take]; have := hv.1; omega
        refine ⟨⟨some a, z.v.toNat * sz, c⟩, hlen.symm, Nat.mul_le_mul_right _ hc, fun b h => by rw [← h], ⟨by rw [hlen]; exact Nat.le_refl _, fun h => by (cases h), fun q x hq hx => ?_⟩, ?_, by rw [Nat.zero_add]; exact Nat.le_refl _, ?_⟩
        · have hq' : q < z.v.toNat * sz := hq
          have : F'[q]? = some x := by rw [← hFF, List.getElem?_take_of_lt hq'] at hx; exact hx
          obtain ⟨a', w, g1, g2, g3⟩ := hv.2.2 q x (by omega) this
          rw [hb] at g1
          exact ⟨a', w, g1, g2, g3⟩
        · have hc4 : c = vw.cap := by have h5 : 0 + c = vw.cap := hc3; omega
          intro b hb'
          have := hown2 vw hvw b (by rw [hb]; exact hb')
          rw [hc4]; exact this
        · unfold SlVal
          refine .inl ⟨c, e, hc, by rw [Nat.zero_add]; exact Nat.le_refl _, ?_⟩
          simp only [Option.map_none, Nat.zero_add]
      · exact hb ▸ empty h2 h3
  obtain ⟨vw0, k1, k2, k3, k4, k5, k6, k7⟩ := key
  let ρ2 : Nms := ⟨fun k => if k = j then [vw0] else ρ' k, ρ'.fz, ρ'.q⟩
  have hj2 : ρ2 j = [vw0] := by simp [ρ2]
  have ho2 : ∀ k, k ≠ j → ρ2 k = ρ' k := fun k hk => by simp [ρ2, hk]
  have hpF : plains F = true := by rw [← hFF]; exact plains_of fun x hx => plains_all hp x (List.mem_of_mem_take hx)
  have hat : ∀ (k : Nat) (B : Blk), ((List.replicate l'.length Blk.dead).set j (.r false false (.l 0) sz F))[k]? = some B → B.wr = true → k = j ∧ B = .r false false (.l 0) sz F := by
    intro k B hk hw
    by_cases e : k = j
    · subst e
      rw [List.getElem?_set_self (by simpa using hj)] at hk
      exact ⟨rfl, (Option.some.inj hk).symm⟩
    · rw [List.getElem?_set_ne (fun h => e h.symm), List.getElem?_replicate] at hk
      split at hk
      · cases hk; cases hw
      · cases hk
  refine ⟨ρ2, C (.sl j sz (.l 0) z none), (List.replicate l'.length Blk.dead).set j (.r false false (.l 0) sz F), ⟨j, z, rfl, ?_, hz⟩, ⟨fun k hk => absurd hk (Nat.not_lt_zero k), hle.fz, hle.fq, hle.q⟩, by simp, ⟨hR'.below, hR'.le, ?_, ?_, ?_, ?_, ?_, hR'.qN, hR'.fin, ?_⟩, ?_⟩
  · rw [List.getElem?_set_self (by simpa using hj)]
  · intro k hk
    simp only [List.length_set, List.length_replicate] at hk
    rw [ho2 k (by omega)]; exact hR'.out k hk
  · intro k vw' a hv ha
    by_cases e : k = j
    · subst e
      rw [hj2, List.mem_singleton] at hv; subst hv
      exact hR'.ids k vw a hvw (k3 a ha)
    · rw [ho2 k e] at hv; exact hR'.ids k vw' a hv ha
  · intro k B hk
    by_cases e : k = j
    · subst e
      rw [List.getElem?_set_self (by simpa using hj)] at hk
      simp only [Option.some.injEq] at hk; subst hk
      refine ⟨hsz, fun vw' hv => ?_, fun _ x hx => plains_all hpF x hx, fun _ => ⟨vw0, by rw [hj2]; simp, k1, fun vw' hv => ?_, k2, fun vw' hv => ?_⟩⟩
      · rw [hj2, List.mem_singleton] at hv; subst hv
        exact ViewOk.plain (ρ := ρ') ρ2 (fun _ _ _ h => h) hpF k4
      · rw [hj2, List.mem_singleton] at hv; subst hv; exact k5
      · rw [hj2, List.mem_singleton] at hv; subst hv; exact .inl ⟨rfl, rfl⟩
    · rw [List.getElem?_set_ne (fun h => e h.symm), List.getElem?_replicate] at hk
      split at hk
      · cases hk; trivial
      · cases hk
  · intro k k' B vw1 vw2 a a' hB' hw hne hv hv' ha ha'
    obtain ⟨rfl, _⟩ := hat k B hB' hw
    rw [hj2, List.mem_singleton] at hv; subst hv
    rw [ho2 k' (fun e => hne e.symm)] at hv'
    exact hR'.sep k k' _ vw vw2 a a' hB rfl hne hvw hv' (k3 a ha) ha'
  · intro k B vw1 a hB' hw hv ha
    obtain ⟨rfl, _⟩ := hat k B hB' hw
    rw [hj2, List.mem_singleton] at hv; subst hv
    exact hR'.own k _ vw a hB rfl hvw (k3 a ha)
  · intro k B vw1 a hB' hw hv ha o
    obtain ⟨rfl, _⟩ := hat k B hB' hw
    rw [hj2, List.mem_singleton] at hv; subst hv
    exact hR'.fsep k _ vw a hB rfl hvw (k3 a ha) o
  · refine hback ρ2 _ ?_
    simp only [den]
    exact ⟨h0, h1, vw0, by rw [hj2]; simp, by rw [e0]; exact k6, by rw [e0]; exact k7⟩
end
section
variable {P : Program} {l : List Blk}
theorem use_one {S : Sy} (hS : S0 P = S) {C : SV → SV} (hC : Ctx C) (hCz : ∀ (l' : List Blk) (j m : Nat) (z z' : Z) (sz : Nat), z.v = z'.v → Fz l' (fun i => m + i) [some j] (C (.sl j sz (.l 0) z none)) (C (.sl m sz (.l 0) z' none))) {sz : Nat} {F : List SV} {n : Int} {g : FuncId} {args args' : List SV} {K : SV → List Blk → Prop}
    (hF : (S0 P).call g args' [] (fun x l' => ∃ (j : Nat) (lit : Bool) (st z : Z) (F' : List SV), x = C (.sl j sz (.l 0) z none) ∧ l'[j]? = some (.r false lit st sz F') ∧ plains F' = true ∧ F'.take (z.v.toNat * sz) = F ∧ z.v = n)) (ha : SubL args args')
    (hr : refsBL (fun _ => false) args' = true) (hsz : 0 < sz) (hp : plains F = true) (hK : K (C (.sl (len l) sz (.l 0) (.y n) none)) (snoc l (.r false false (.y 0) sz F))) : S.call g args l K := by
  subst hS
  refine call_sub ha (call_keptZ (Z := fun sts => sts 0 = 0) (rows := [(sz, F)]) (y := fun m => C (.sl m sz (.l 0) (.y n) none)) (call_post (call_one hC hF) fun x l' h => ⟨x, .rfl, ?_⟩) hr ⟨⟨hsz, hp⟩, trivial⟩ fun sts hz => ?_)
  · obtain ⟨j, z, rfl, hj, hz⟩ := h
    refine ⟨[some j], ⟨⟨_, _, _, hj, .rfl⟩, rfl, trivial⟩, fun m => hCz l' j m z (.y n) sz hz, ?_⟩
    simp only [stsOf, List.getElem?_cons_zero, hj]
    rfl
  · have : rowBs sts [(sz, F)] 0 = [.r false false (.y 0) sz F] := by simp only [rowBs, hz]
    rw [this]
    rw [len_eq, snoc_eq] at hK
    exact hK
end
end Cz
namespace Cz
open Go Go.RowKit Go.Proofs
set_option linter.unusedSimpArgs false
set_option linter.unusedVariables false
set_option maxRecDepth 100000
set_option maxHeartbeats 4000000
namespace Pa
def upP (w : Int) : Int := if w = 1 then 64 else if w = 2 then 16 else 0
def bitP (w : Int) : Int := if w = 1 then 6 else 4
def powP (w : Int) : Int := if w = 1 then 64 else 16
theorem of_f {w u k : Int} (hu : u = upP w) (hk : k = bitP w) : (S0 Tryd.prog).call 70 [.i .i64 (.y w)] [] (fun y _ => Sub y (.ag [.i .i64 (.y u), .i .i64 (.y k)])) := by
  generalize hS : S0 Tryd.prog = S
  refine call_in' hS I.fn_unpack_of ?_
  cbv
  refine call_in' hS I.fn_unpack_ways ?_
  cbv
  refine s_drawT hS rfl I.spl_unpack_ways_0 (by decide +kernel) ?_
  cbv
  refine ⟨?_, ?_⟩ <;> cbv
  all_goals
    repeat' (first
      | (refine s_eqs hS rfl ?_; try cbv)
      | (refine s_ck hS ?_; try cbv)
      | (refine s_sbr hS ?_ ?_ <;> intro h <;> (try cbv) <;> try exact s_ab h)
      | (refine s_ad hS ?_; intro _ _; try cbv)
      | (refine s_sb hS ?_; intro _ _; try cbv)
      | (refine s_stl hS ?_; intro _ _; try cbv)
      | (refine s_stc hS ?_; try cbv)
      | (refine s_eqo hS ?_; try cbv)
      | (refine s_lk hS ?_; try cbv)
      | (refine s_mu hS ?_; try cbv)
      | fail)
    all_goals exact sub_ag (.cons (sub_i (by simp only [Z.v]; rw [hu]; unfold upP; split <;> (try split) <;> omega)) (.cons (sub_i (by simp only [Z.v]; rw [hk]; unfold bitP; split <;> omega)) .nil))
theorem of_u {S : Sy} {bl : List Blk} {K : SV → List Blk → Prop} (hS : S0 Tryd.prog = S) {z : Z} {w : Int} (hz : z.v = w) (hK : ∀ u k, u = upP w → k = bitP w → K (.ag [.i .i64 (.y u), .i .i64 (.y k)]) bl) : S.call 70 [.i .i64 z] bl K :=
  use_val hS (of_f (w := w) rfl rfl) (.cons (sub_i hz) .nil) rfl rfl (hK _ _ rfl rfl)
theorem repS_len (z : List SV) : ∀ n, (repS n z).length = n * z.length
  | 0 => by simp [repS]
  | n + 1 => by rw [repS, catS_eq, List.length_append, repS_len z n, Nat.add_mul]; omega
theorem repS_plain {z : List SV} (h : plains z = true) : ∀ n, plains (repS n z) = true
  | 0 => rfl
  | n + 1 => by rw [repS, catS_eq]; exact plains_append h (repS_plain h n)
theorem s_mkg {S : Sy} {zero : List SV} {n c : Int} {K : List SV → Prop} (hS : S0 Tryd.prog = S) (hc : n = c) (h0 : 0 ≤ n) (h1 : n ≤ 65536) (hz : plains zero = true) (h : ∀ F, F.length = n.toNat * zero.length → plains F = true → K F) : S.mkr zero n c K :=
  s_mk hS hc h0 h1 (repS_plain hz _) (h _ (repS_len _ _) (repS_plain hz _))
theorem grow_f {n : Int} (h0 : 0 < n) (h1 : n ≤ 65536) : (S0 Tryd.prog).call 87 [.re (.slice none 0 0), .i .i64 (.y n)] [] (fun x l' => ∃ (j : Nat) (lit : Bool) (st z : Z) (F' : List SV), x = (.sl j 1 (.l 0) z none) ∧ l'[j]? = some (.r false lit st 1 F') ∧ plains F' = true ∧ F'.take (z.v.toNat * 1) = [] ∧ z.v = 0) := by
  generalize hS : S0 Tryd.prog = S
  refine call_in' hS I.fn_slices_Grow___byte_byte_ ?_
  cbv
  repeat' (first
    | (refine s_eqs hS rfl ?_; try cbv)
    | (refine s_ck hS ?_; try cbv)
    | (refine s_sbr hS ?_ ?_ <;> intro h <;> (try cbv) <;> try exact s_ab h)
    | (refine s_ad hS ?_; intro _ _; try cbv)
    | (refine s_sb hS ?_; intro _ _; try cbv)
    | (refine s_stl hS ?_; intro _ _; try cbv)
    | (refine s_stc hS ?_; try cbv)
    | (refine s_mkg hS rfl (by omega) (by omega) rfl fun F hF hp => ?_; cbv)
    | (refine s_eqo hS ?_; try cbv)
    | (refine s_lk hS ?_; try cbv)
    | (refine s_mu hS ?_; try cbv)
    | fail)
  exact ⟨0, false, .l 0, .l 0, F, rfl, rfl, hp, rfl, rfl⟩
theorem grow_u {S : Sy} {bl : List Blk} {K : SV → List Blk → Prop} (hS : S0 Tryd.prog = S) {z : Z} (h0 : 0 < z.v) (h1 : z.v ≤ 65536) (hK : K (.sl (len bl) 1 (.l 0) (.y 0) none) (snoc bl (.r false false (.y 0) 1 []))) : S.call 87 [.re (.slice none 0 0), .i .i64 z] bl K :=
  use_one hS (C := fun s => s) (fun ρ s v d => ⟨v, d, fun _ _ d' => d'⟩) (fun l' j m z z' sz h => .keep (i := 0) rfl rfl h) (grow_f h0 h1) (.cons .rfl (.cons (sub_i rfl) .nil)) rfl (by decide) rfl hK
theorem tell_own {g : FuncId} {args : List SV} {F : List SV} {n : Int} (hF : (S0 Tryd.prog).call g args [] (OwnR 0 1 F false [])) (hpl : plains F = true) (hn : n * 1 = F.length) : (S0 Tryd.prog).call g args [] (Tell (.v false 1 F (.y n))) := by
  refine call_post hF fun x l' ⟨y, hs, hr⟩ => ⟨y, hs, ?_⟩
  rcases hr with ⟨rfl, rfl⟩ | ⟨k, m, lit, st, F', _, rfl, hB, hsub, hp, hm⟩
  · exact fun g => .nil (by decide) (by simp only [Z.v]; simpa using hn)
  · have hmn : m.v = n := by omega
    have hl : F'.length = F.length := hsub.1
    have e : (F'.drop ((Z.l 0).v.toNat * 1)).take (m.v.toNat * 1) = F' := by
      rw [show (Z.l 0).v.toNat * 1 = 0 from rfl, List.drop_zero, List.take_of_length_le (by omega)]
    exact fun g => .row hB rfl (.fsub (by rw [e]; exact hsub) hpl) hpl hmn
end Pa
end Cz
namespace Cz
open Go Go.RowKit Go.Proofs
set_option linter.unusedSimpArgs false
set_option linter.unusedVariables false
set_option maxRecDepth 100000
set_option maxHeartbeats 4000000
namespace Pa
open Tb
abbrev Fd := Tb.Fd
theorem up_bd (w : Int) : 0 ≤ upP w ∧ upP w ≤ 64 ∧ 4 ≤ bitP w ∧ bitP w ≤ 6 ∧ 2 ^ (bitP w).toNat = powP w := by
  unfold upP bitP powP
  split
  · exact ⟨by decide, by decide, by decide, by decide, rfl⟩
  · split <;> exact ⟨by decide, by decide, by decide, by decide, rfl⟩
def nmB (i : Int) (b : List UInt8) (w : Int) : List Int := putI i (powP w) (upP w) ++ bestT (byS b)
def fldB (f : Fd) (w : Int) : List Int := putI 0 (powP w) (upP w) ++ bestT (byS f.1) ++ bestT (byS f.2)
def idxB (i : Int) : List Int := putI i 128 128
def sizB (n : Int) : List Int := putI n 32 32
def ckN : List UInt8 := [99, 111, 111, 107, 105, 101]
def wayP (mx : Int) (f : Fd) : Int := if f.1 = ckN then 2 else if szF f ≤ mx then 1 else 3
def ownB (i : Int) (f : Fd) (w : Int) : List Int := if 0 < i then nmB i f.2 w else fldB f w
def fieldB (mx : Int) (l : List Fd) (f : Fd) : List Int := if (Tb.findR l f).2 = true then idxB (Tb.findR l f).1 else ownB (Tb.findR l f).1 f (wayP mx f)
def addP (mx : Int) (l : List Fd) (f : Fd) : Bool := decide ((Tb.findR l f).2 = false ∧ wayP mx f = 1)
def fieldL (mx : Int) (l : List Fd) (f : Fd) : List Fd := if addP mx l f = true then evL mx (f :: l) else l
def blockB (mx : Int) : List Fd → List Fd → List Int
  | _, [] => []
  | l, f :: fs => fieldB mx l f ++ blockB mx (fieldL mx l f) fs
def blockL (mx : Int) : List Fd → List Fd → List Fd
  | l, [] => l
  | l, f :: fs => blockL mx (fieldL mx l f) fs
theorem find_rng (l : List Fd) (f : Fd) : 0 ≤ (Tb.findR l f).1 ∧ (Tb.findR l f).1 ≤ 20 + ilen l := by
  have hal := allF_len l
  have r1 := fst_range (fun x => x == f) (allF l) 1 (Int.le_refl _)
  have r2 := fst_range (fun x => x.1 == f.1) (allF l) 1 (Int.le_refl _)
  unfold ilen at hal
  unfold Tb.findR
  split
  · exact ⟨r1.1, by unfold ilen; dsimp only; omega⟩
  · exact ⟨r2.1, by unfold ilen; dsimp only; omega⟩
theorem bok_way {i w : Int} (h0 : 0 ≤ i) : Hu.BOk (putI i (powP w) (upP w)) := by
  unfold powP upP
  split
  · exact putI_ok h0 (by decide) (by decide) (by decide) (by decide)
  · split <;> exact putI_ok h0 (by decide) (by decide) (by decide) (by decide)
theorem bok_nm {i w : Int} {b : List UInt8} (h0 : 0 ≤ i) : Hu.BOk (nmB i b w) := bok_app (bok_way h0) (bestT_ok (byS_ok _))
theorem bok_fld {w : Int} {f : Fd} : Hu.BOk (fldB f w) := bok_app (bok_app (bok_way (by decide)) (bestT_ok (byS_ok _))) (bestT_ok (byS_ok _))
theorem bok_idx {i : Int} (h0 : 0 ≤ i) : Hu.BOk (idxB i) := putI_ok h0 (by decide) (by decide) (by decide) (by decide)
theorem bok_field (mx : Int) (l : List Fd) (f : Fd) : Hu.BOk (fieldB mx l f) := by
  have hr := find_rng l f
  unfold fieldB ownB
  split
  · exact bok_idx hr.1
  · split
    · exact bok_nm hr.1
    · exact bok_fld
theorem bok_block (mx : Int) : ∀ (fs l : List Fd), Hu.BOk (blockB mx l fs)
  | [], _ => fun v hv => by simp [blockB] at hv
  | f :: fs, l => bok_app (bok_field mx l f) (bok_block mx fs _)
theorem fieldL_right {mx : Int} {l : List Fd} {f : Fd} (h : rightL mx l = true) : rightL mx (fieldL mx l f) = true := by
  unfold fieldL
  have h' := of_decide_eq_true h
  split
  · exact decide_eq_true ⟨h'.1, h'.2.1, evL_right h'.1⟩
  · exact h
theorem right_len {mx : Int} {l : List Fd} (h : rightL mx l = true) : ilen l ≤ 128 := by
  have h' := of_decide_eq_true h
  have := fullL_len l
  omega
theorem block_app (mx : Int) : ∀ (A B l : List Fd), blockB mx l (A ++ B) = blockB mx l A ++ blockB mx (blockL mx l A) B ∧ blockL mx l (A ++ B) = blockL mx (blockL mx l A) B
  | [], B, l => ⟨rfl, rfl⟩
  | f :: A, B, l => by
    obtain ⟨h1, h2⟩ := block_app mx A B (fieldL mx l f)
    simp only [List.cons_append, blockB, blockL]
    exact ⟨by rw [h1, List.append_assoc], h2⟩
theorem block_right {mx : Int} : ∀ {fs l : List Fd}, rightL mx l = true → rightL mx (blockL mx l fs) = true
  | [], l, h => h
  | f :: fs, l, h => by simp only [blockL]; exact block_right (fieldL_right h)
theorem pbest_len (b : List Int) : ilen (bestT b) ≤ ilen b + 6 := by
  have h0 := ilen_nn b
  unfold bestT
  split
  · rename_i h
    unfold shortB at h
    have h := of_decide_eq_true h
    unfold packT
    have h1 := putI_len (ilen (Hu.put b)) 128 128
    have h2 := Hu.put_len b
    have h3 : bitsI b (ilen b) = Hu.nbits b := by unfold bitsI; rw [take_all (by omega)]
    have h4 := ilen_nn (Hu.put b)
    rw [ilen_app]
    unfold ilen at *
    omega
  · unfold plainT
    have h1 := putI_len (ilen b) 128 0
    rw [ilen_app]
    omega
theorem field_len (mx : Int) (l : List Fd) (f : Fd) : ilen (fieldB mx l f) ≤ szF f := by
  have h1 := pbest_len (byS f.1)
  have h2 := pbest_len (byS f.2)
  have a1 := ilen_nn f.1
  have a2 := ilen_nn f.2
  rw [byS_len] at h1 h2
  unfold fieldB ownB nmB fldB idxB szF
  split
  · have := putI_len (Tb.findR l f).1 128 128; omega
  · split
    · have := putI_len (Tb.findR l f).1 (powP (wayP mx f)) (upP (wayP mx f)); rw [ilen_app]; omega
    · have := putI_len 0 (powP (wayP mx f)) (upP (wayP mx f)); rw [ilen_app, ilen_app]; omega
theorem block_len (mx : Int) : ∀ (fs l : List Fd), ilen (blockB mx l fs) ≤ fullL fs
  | [], l => Int.le_refl _
  | f :: fs, l => by
    have h1 := field_len mx l f
    have h2 := block_len mx fs (fieldL mx l f)
    simp only [blockB, fullL]
    rw [ilen_app]; omega
theorem block_next {mx : Int} {l fs : List Fd} {i : Int} {f : Fd} (hf : fs[i.toNat]? = some f) (h0 : 0 ≤ i) :
    blockB mx l (fs.take (i + 1).toNat) = blockB mx l (fs.take i.toNat) ++ fieldB mx (blockL mx l (fs.take i.toNat)) f ∧ blockL mx l (fs.take (i + 1).toNat) = fieldL mx (blockL mx l (fs.take i.toNat)) f := by
  have e : fs.take (i + 1).toNat = fs.take i.toNat ++ [f] := by rw [show (i + 1).toNat = i.toNat + 1 by omega, List.take_add_one, hf]; rfl
  rw [e]
  obtain ⟨h1, h2⟩ := block_app mx (fs.take i.toNat) [f] l
  rw [h1, h2]
  simp only [blockB, blockL, List.append_nil]
  exact ⟨trivial, trivial⟩
end Pa
end Cz
namespace Cz
open Go Go.RowKit Go.Proofs
set_option linter.unusedSimpArgs false
set_option linter.unusedVariables false
set_option maxRecDepth 100000
set_option maxHeartbeats 4000000
namespace Pa
theorem bytes_fz {l' : List Blk} {k : Nat} {lit : Bool} {st z : Z} {F : List SV} {L : List Int} {n : Int} (hB : l'[k]? = some (.r false lit st 1 F)) (hF : cellsB L = F) (hz : z.v = ilen L) (hn : n = ilen L) (g : Nat → Nat) : Fz l' g [] (.sl k 1 (.l 0) z none) (.v false 1 (cellsB L) (.y n)) := by
  subst hF hn
  refine .row hB rfl (.fsub ?_ (cellsB_plain L)) (cellsB_plain L) hz
  rw [show (Z.l 0).v.toNat * 1 = 0 from rfl, List.drop_zero, List.take_of_length_le]
  · exact .rfl
  · have := cellsB_len L
    unfold ilen at *
    omega
theorem best_t {x : List UInt8} (hx : ilen x ≤ 1000000) : (S0 Tryd.prog).call 72 [.s x] [] (Tell (.v false 1 (cellsB (bestT (byS x))) (.y (ilen (bestT (byS x)))))) := tell_own (tbest_f hx) (cellsB_plain _) (cellsB_n _)
theorem best_len (b : List Int) : 1 ≤ ilen (bestT b) ∧ ilen (bestT b) ≤ ilen b + 6 := by
  have h0 := ilen_nn b
  unfold bestT
  split
  · rename_i h
    unfold shortB at h
    have h := of_decide_eq_true h
    unfold packT
    have h1 := putI_len (ilen (Hu.put b)) 128 128
    have h2 := Hu.put_len b
    have h3 : bitsI b (ilen b) = Hu.nbits b := by unfold bitsI; rw [take_all (by omega)]
    have h4 := ilen_nn (Hu.put b)
    rw [ilen_app]
    unfold ilen at *
    omega
  · unfold plainT
    have h1 := putI_len (ilen b) 128 0
    rw [ilen_app]
    omega
section
variable {S : Sy} {bl : List Blk} {K : SV → List Blk → Prop}
theorem best_g (hS : S0 Tryd.prog = S) {x : List UInt8} {F : List SV} {n : Int} (hx : ilen x ≤ 1000000) (hF : cellsB (bestT (byS x)) = F) (hn : n = ilen (bestT (byS x))) (hK : K (.v false 1 F (.y n)) bl) : S.call 72 [.s x] bl K := by
  subst hF hn
  exact use_tell hS (best_t hx) (.cons .rfl .nil) rfl hK
end
def C0 (s : SV) : SV := s
def C1 (e : Int) (s : SV) : SV := .tp [s, .i .i64 (.y e)]
theorem c1_ctx (e : Int) : Ctx (C1 e) := by
  intro ρ s v d
  unfold C1 at d
  simp only [den] at d
  obtain ⟨vs, rfl, d⟩ := d
  obtain ⟨vs⟩ := vs
  match vs, d with
  | [], d => simp [denL] at d
  | [_], d => simp [denL] at d
  | _ :: _ :: _ :: _, d => simp [denL] at d
  | [x, y], d =>
    simp only [denL, den] at d
    obtain ⟨dx, rfl, _⟩ := d
    refine ⟨x, dx, fun ρ' s' d' => ?_⟩
    unfold C1
    simp only [den]
    refine ⟨_, rfl, ?_⟩
    simp only [denL, den]
    exact ⟨d', trivial, trivial⟩
def OwnB (C : SV → SV) (L : List Int) (x : SV) (l' : List Blk) : Prop := ∃ (j : Nat) (lit : Bool) (st z : Z) (F' : List SV), Sub x (C (.sl j 1 (.l 0) z none)) ∧ l'[j]? = some (.r false lit st 1 F') ∧ plains F' = true ∧ F'.take (z.v.toNat * 1) = cellsB L ∧ z.v = ilen L
theorem ownB_of {C : SV → SV} {L : List Int} {l' : List Blk} {j : Nat} {lit : Bool} {st z : Z} {F : List SV} {x : SV} (hx : Sub x (C (.sl j 1 (.l 0) z none))) (hB : l'[j]? = some (.r false lit st 1 F)) (hF : F = cellsB L) (hz : z.v = ilen L) : OwnB C L x l' := by
  refine ⟨j, lit, st, z, F, hx, hB, hF ▸ cellsB_plain L, ?_, hz⟩
  rw [hF, List.take_of_length_le]
  have := cellsB_len L
  unfold ilen at *
  omega
theorem fz_own {L : List Int} {l' : List Blk} {j : Nat} {lit : Bool} {st z : Z} {F' : List SV} (hB : l'[j]? = some (.r false lit st 1 F')) (h : F'.take (z.v.toNat * 1) = cellsB L) (hz : z.v = ilen L) (g : Nat → Nat) : Fz l' g [] (.sl j 1 (.l 0) z none) (.v false 1 (cellsB L) (.y (ilen L))) := by
  refine .row hB rfl (.fsub ?_ (cellsB_plain L)) (cellsB_plain L) hz
  rw [show (Z.l 0).v.toNat * 1 = 0 from rfl, List.drop_zero, h]
  exact .rfl
theorem own_eq {C : SV → SV} {g : FuncId} {args : List SV} {L : List Int} (h : (S0 Tryd.prog).call g args [] (OwnB C L)) :
    (S0 Tryd.prog).call g args [] (fun x l' => ∃ (j : Nat) (lit : Bool) (st z : Z) (F' : List SV), x = C (.sl j 1 (.l 0) z none) ∧ l'[j]? = some (.r false lit st 1 F') ∧ plains F' = true ∧ F'.take (z.v.toNat * 1) = cellsB L ∧ z.v = ilen L) :=
  call_post h fun x l' ⟨j, lit, st, z, F', hs, hB, h0, h1, h2⟩ => ⟨_, hs, j, lit, st, z, F', rfl, hB, h0, h1, h2⟩
theorem own_t0 {g : FuncId} {args : List SV} {L : List Int} {F : List SV} {n : Int} (h : (S0 Tryd.prog).call g args [] (OwnB C0 L)) (hF : cellsB L = F) (hn : n = ilen L) : (S0 Tryd.prog).call g args [] (Tell (.v false 1 F (.y n))) := by
  subst hF hn
  refine call_post h fun x l' h => ?_
  obtain ⟨j, lit, st, z, F', hs, hB, _, h1, h2⟩ := h
  refine ⟨_, hs, ?_⟩
  exact fun g => fz_own hB h1 h2 g
theorem own_t1 {g : FuncId} {args : List SV} {L : List Int} {F : List SV} {n e : Int} (h : (S0 Tryd.prog).call g args [] (OwnB (C1 e) L)) (hF : cellsB L = F) (hn : n = ilen L) : (S0 Tryd.prog).call g args [] (Tell (.tp [.v false 1 F (.y n), .i .i64 (.y e)])) := by
  subst hF hn
  refine call_post h fun x l' h => ?_
  obtain ⟨j, lit, st, z, F', hs, hB, _, h1, h2⟩ := h
  refine ⟨_, hs, ?_⟩
  exact fun g => .tp (.cons (fz_own hB h1 h2 g) (.cons (.sub .rfl rfl) .nil))
section
variable {S : Sy} {bl : List Blk} {K : SV → List Blk → Prop} {g : FuncId} {args args' : List SV} {L : List Int} {F : List SV} {n e : Int}
theorem own_u1 (hS : S0 Tryd.prog = S) (h : (S0 Tryd.prog).call g args' [] (OwnB (C1 e) L)) (ha : SubL args args') (hr : refsBL (fun _ => false) args' = true) (hF : cellsB L = F) (hn : n = ilen L)
    (hK : K (.tp [.sl (len bl) 1 (.l 0) (.y n) none, .i .i64 (.y e)]) (snoc bl (.r false false (.y 0) 1 F))) : S.call g args bl K := by
  subst hF hn
  exact use_one hS (c1_ctx e) (fun l' j m z z' sz h => .tp (.cons (.keep (i := 0) rfl rfl h) (.cons (.sub .rfl rfl) .nil))) (own_eq h) ha hr (by decide) (cellsB_plain _) hK
end
theorem idx_o {i : Int} (h0 : 0 ≤ i) (h1 : i < 2147483648) : (S0 Tryd.prog).call 53 [.i .i64 (.y i)] [] (OwnB (C1 0) (idxB i)) := by
  obtain ⟨L, hL⟩ : ∃ L, idxB i = L := ⟨_, rfl⟩
  rw [hL]
  generalize hS : S0 Tryd.prog = S
  refine call_in' hS I.fn_unpack_Indexed ?_
  cbv
  refine call_in' hS I.fn_unpack_put ?_
  cbv
  repeat' (first
    | (refine s_eqs hS rfl ?_; try cbv)
    | (refine s_ck hS ?_; try cbv)
    | (refine s_sbr hS ?_ ?_ <;> intro h <;> (try cbv) <;> try exact s_ab h)
    | (refine s_ad hS ?_; intro _ _; try cbv)
    | (refine s_sb hS ?_; intro _ _; try cbv)
    | (refine s_stl hS ?_; intro _ _; try cbv)
    | (refine s_stc hS ?_; try cbv)
    | (refine pput_u hS i 7 128 128 rfl rfl rfl h0 h1 (by decide) (by decide) rfl (by decide) (by decide) fun F2 n2 st hF2 hn2 => ?_; cbv)
    | (refine s_eqo hS ?_; try cbv)
    | (refine s_lk hS ?_; try cbv)
    | (refine s_mu hS ?_; try cbv)
    | fail)
  exact ownB_of (z := .y n2) .rfl rfl (hL ▸ hF2.symm) (hL ▸ hn2)
theorem siz_o {i : Int} (h0 : 0 ≤ i) (h1 : i < 2147483648) : (S0 Tryd.prog).call 55 [.i .i64 (.y i)] [] (OwnB (C1 0) (sizB i)) := by
  obtain ⟨L, hL⟩ : ∃ L, sizB i = L := ⟨_, rfl⟩
  rw [hL]
  generalize hS : S0 Tryd.prog = S
  refine call_in' hS I.fn_unpack_Sized ?_
  cbv
  refine call_in' hS I.fn_unpack_put ?_
  cbv
  repeat' (first
    | (refine s_eqs hS rfl ?_; try cbv)
    | (refine s_ck hS ?_; try cbv)
    | (refine s_sbr hS ?_ ?_ <;> intro h <;> (try cbv) <;> try exact s_ab h)
    | (refine s_ad hS ?_; intro _ _; try cbv)
    | (refine s_sb hS ?_; intro _ _; try cbv)
    | (refine s_stl hS ?_; intro _ _; try cbv)
    | (refine s_stc hS ?_; try cbv)
    | (refine pput_u hS i 5 32 32 rfl rfl rfl h0 h1 (by decide) (by decide) rfl (by decide) (by decide) fun F2 n2 st hF2 hn2 => ?_; cbv)
    | (refine s_eqo hS ?_; try cbv)
    | (refine s_lk hS ?_; try cbv)
    | (refine s_mu hS ?_; try cbv)
    | fail)
  exact ownB_of (z := .y n2) .rfl rfl (hL ▸ hF2.symm) (hL ▸ hn2)
theorem named_o {i w : Int} {b : List UInt8} (h0 : 0 < i) (h1 : i < 2147483648) (hb : ilen b ≤ 1000000) :
    (S0 Tryd.prog).call 54 [.i .i64 (.y i), .s b, .i .i64 (.y w)] [] (OwnB (C1 0) (nmB i b w)) := by
  obtain ⟨L, hL⟩ : ∃ L, nmB i b w = L := ⟨_, rfl⟩
  rw [hL]
  obtain ⟨B, hB⟩ : ∃ B, cellsB (bestT (byS b)) = B := ⟨_, rfl⟩
  obtain ⟨m, hm⟩ : ∃ m, m = ilen (bestT (byS b)) := ⟨_, rfl⟩
  have hm1 := best_len (byS b)
  rw [← hm, byS_len] at hm1
  generalize hS : S0 Tryd.prog = S
  refine call_in' hS I.fn_unpack_Named ?_
  cbv
  refine of_u hS (w := w) rfl fun u k hu hk => ?_
  obtain ⟨u0, u1, k0, k1, hp⟩ := up_bd w
  rw [← hu] at u0 u1
  rw [← hk] at k0 k1 hp
  cbv
  refine call_in' hS I.fn_unpack_put ?_
  cbv
  repeat' (first
    | (refine s_eqs hS rfl ?_; try cbv)
    | (refine s_ck hS ?_; try cbv)
    | (refine s_sbr hS ?_ ?_ <;> intro h <;> (try cbv) <;> try exact s_ab h)
    | (refine s_ad hS ?_; intro _ _; try cbv)
    | (refine s_sb hS ?_; intro _ _; try cbv)
    | (refine s_stl hS ?_; intro _ _; try cbv)
    | (refine s_stc hS ?_; try cbv)
    | (refine pput_u hS i k u (powP w) rfl rfl rfl (by omega) h1 (by omega) (by omega) hp (by omega) (by omega) fun F2 n2 st hF2 hn2 => ?_; cbv)
    | (refine s_eqo hS ?_; try cbv)
    | (refine s_lk hS ?_; try cbv)
    | (refine s_mu hS ?_; try cbv)
    | fail)
  have hpl := putI_len i (powP w) u
  rw [← hn2] at hpl
  have hfl : ilen F2 = n2 := by rw [← hF2, cellsB_len, hn2]
  refine best_g hS hb hB hm ?_
  cbv
  repeat' (first
    | (refine s_eqs hS rfl ?_; try cbv)
    | (refine s_ck hS ?_; try cbv)
    | (refine s_sbr hS ?_ ?_ <;> intro h <;> (try cbv) <;> try exact s_ab h)
    | (refine s_ad hS ?_; intro _ _; try cbv)
    | (refine s_sb hS ?_; intro _ _; try cbv)
    | (refine s_stl hS ?_; intro _ _; try cbv)
    | (refine s_stc hS ?_; try cbv)
    | (refine s_eqo hS ?_; try cbv)
    | (refine s_lk hS ?_; try cbv)
    | (refine s_mu hS ?_; try cbv)
    | fail)
  have e1 : S.app F2 B = cellsB L := by rw [← hL]; unfold nmB; rw [← hu]; exact app_cells hS hF2.symm hB.symm
  have e2 : S.pl n2 m = ilen L := by rw [← hL]; unfold nmB; rw [← hu, ilen_app, ← hn2, ← hm]; subst hS; rfl
  exact ownB_of (z := .y (S.pl n2 m)) (sub_tp (.cons .rfl (.cons (sub_i rfl) .nil))) rfl e1 e2
theorem s_ckA {S : Sy} {a b : Int} {k : Unit → Prop} (hS : S0 Tryd.prog = S) (e : a = b) (h : k ()) : S.chk (S.cmp .eq a b) k := s_chk hS (by subst hS; rw [cmp_eq]; exact decide_eq_true e) h
theorem fld_o {w : Int} {a b : List UInt8} (hab : ilen a + ilen b ≤ 60000) :
    (S0 Tryd.prog).call 52 [.ag [.s a, .s b], .i .i64 (.y w)] [] (OwnB C0 (fldB (a, b) w)) := by
  obtain ⟨L, hL⟩ : ∃ L, fldB (a, b) w = L := ⟨_, rfl⟩
  rw [hL]
  have h0a := ilen_nn a
  have h0b := ilen_nn b
  have ha : ilen a ≤ 1000000 := by omega
  have hb : ilen b ≤ 1000000 := by omega
  obtain ⟨A, hA⟩ : ∃ B, cellsB (bestT (byS a)) = B := ⟨_, rfl⟩
  obtain ⟨ma, hma⟩ : ∃ m, m = ilen (bestT (byS a)) := ⟨_, rfl⟩
  have hm0 := best_len (byS a)
  rw [← hma, byS_len] at hm0
  obtain ⟨B, hB⟩ : ∃ B, cellsB (bestT (byS b)) = B := ⟨_, rfl⟩
  obtain ⟨m, hm⟩ : ∃ m, m = ilen (bestT (byS b)) := ⟨_, rfl⟩
  have hm1 := best_len (byS b)
  rw [← hm, byS_len] at hm1
  generalize hS : S0 Tryd.prog = S
  refine call_in' hS I.fn_unpack_Field ?_
  cbv
  refine of_u hS (w := w) rfl fun u k hu hk => ?_
  obtain ⟨u0, u1, k0, k1, hp⟩ := up_bd w
  rw [← hu] at u0 u1
  rw [← hk] at k0 k1 hp
  cbv
  refine call_in' hS I.fn_unpack_put ?_
  cbv
  repeat' (first
    | (refine s_eqs hS rfl ?_; try cbv)
    | (refine s_ck hS ?_; try cbv)
    | (refine s_sbr hS ?_ ?_ <;> intro h <;> (try cbv) <;> try exact s_ab h)
    | (refine s_ad hS ?_; intro _ _; try cbv)
    | (refine s_sb hS ?_; intro _ _; try cbv)
    | (refine s_stl hS ?_; intro _ _; try cbv)
    | (refine s_stc hS ?_; try cbv)
    | (refine pput_u hS 0 k u (powP w) rfl rfl rfl (by omega) (by omega) (by omega) (by omega) hp (by omega) (by omega) fun F2 n2 st hF2 hn2 => ?_; cbv)
    | (refine s_eqo hS ?_; try cbv)
    | (refine s_lk hS ?_; try cbv)
    | (refine s_mu hS ?_; try cbv)
    | fail)
  have hpl := putI_len 0 (powP w) u
  rw [← hn2] at hpl
  have hfl : ilen F2 = n2 := by rw [← hF2, cellsB_len, hn2]
  have hal : ilen A = ma := by rw [← hA, cellsB_len, hma]
  have hbl : ilen B = m := by rw [← hB, cellsB_len, hm]
  have hs1 : S.app [] (S.sub F2 0 n2 1) = F2 := by rw [sub_all hS hF2 hn2, app_nil hS]
  have c1 : S.sc (S.pl 0 n2) 1 = S.flen (S.app [] (S.sub F2 0 n2 1)) := by rw [hs1]; subst hS; show (0 + n2) * 1 = ilen F2; omega
  have c2 : S.sc (S.pl (S.pl 0 n2) ma) 1 = S.flen (S.app (S.app [] (S.sub F2 0 n2 1)) A) := by rw [hs1]; subst hS; show (0 + n2 + ma) * 1 = ilen (F2 ++ A); rw [ilen_app]; omega
  refine s_draw hS rfl I.ord_unpack_Field_0 (by decide +kernel) ?_
  cbv
  refine best_g hS ha hA hma ?_
  cbv
  refine best_g hS hb hB hm ?_
  cbv
  repeat' (first
    | (refine s_eqs hS rfl ?_; try cbv)
    | (refine s_ck hS ?_; try cbv)
    | (refine s_sbr hS ?_ ?_ <;> intro h <;> (try cbv) <;> try exact s_ab h)
    | (refine s_ad hS ?_; intro _ _; try cbv)
    | (refine s_sb hS ?_; intro _ _; try cbv)
    | (refine s_stl hS ?_; intro _ _; try cbv)
    | (refine s_stc hS ?_; try cbv)
    | (refine s_eqo hS ?_; try cbv)
    | (refine s_lk hS ?_; try cbv)
    | (refine s_mu hS ?_; try cbv)
    | fail)
  refine call_in' hS I.fn_slices_Concat___byte_byte_ ?_
  cbv
  repeat' (first
    | (refine s_eqs hS rfl ?_; try cbv)
    | (refine s_ck hS ?_; try cbv)
    | (refine s_sbr hS ?_ ?_ <;> intro h <;> (try cbv) <;> try exact s_ab h)
    | (refine s_ad hS ?_; intro _ _; try cbv)
    | (refine s_sb hS ?_; intro _ _; try cbv)
    | (refine s_stl hS ?_; intro _ _; try cbv)
    | (refine s_stc hS ?_; try cbv)
    | (refine s_ckA hS c1 ?_; cbv)
    | (refine s_ckA hS c2 ?_; cbv)
    | (refine s_loop_one hS ?_; cbv)
    | (refine grow_u hS (by simp only [Z.v]; omega) (by simp only [Z.v]; omega) ?_; cbv)
    | (refine s_eqo hS ?_; try cbv)
    | (refine s_lk hS ?_; try cbv)
    | (refine s_mu hS ?_; try cbv)
    | fail)
  have e1 : S.app (S.app (S.app [] (S.sub F2 0 n2 1)) A) B = cellsB L := by
    rw [← hL]; rw [hs1, app_cells hS hF2.symm hA.symm, app_cells hS rfl hB.symm]; unfold fldB; rw [← hu]
  have e2 : S.pl (S.pl (S.pl 0 n2) ma) m = ilen L := by
    rw [← hL]; unfold fldB; rw [← hu, ilen_app, ilen_app, ← hn2, ← hm, ← hma]; subst hS; show 0 + n2 + ma + m = _; omega
  exact ownB_of (z := .y (S.pl (S.pl (S.pl 0 n2) ma) m)) .rfl rfl e1 e2
end Pa
end Cz
namespace Cz
open Go Go.RowKit Go.Proofs
set_option linter.unusedSimpArgs false
set_option linter.unusedVariables false
set_option maxRecDepth 100000
set_option maxHeartbeats 4000000
namespace Pa
open Tb
theorem secret_f {a b : List UInt8} {t : Bool} (ht : decide (a = ckN) = t) : (S0 Tryd.prog).call 43 [.ag [.s a, .s b]] [] (fun y _ => Sub y (.b t)) := by
  generalize hS : S0 Tryd.prog = S
  refine call_in' hS I.fn_pack_Secret ?_
  cbv
  repeat' (first
    | (refine s_eqs hS rfl ?_; try cbv)
    | (refine s_ck hS ?_; try cbv)
    | (refine s_sbr hS ?_ ?_ <;> intro h <;> (try cbv) <;> try exact s_ab h)
    | (refine s_ad hS ?_; intro _ _; try cbv)
    | (refine s_sb hS ?_; intro _ _; try cbv)
    | (refine s_stl hS ?_; intro _ _; try cbv)
    | (refine s_stc hS ?_; try cbv)
    | (refine s_eqo hS ?_; try cbv)
    | (refine s_lk hS ?_; try cbv)
    | (refine s_mu hS ?_; try cbv)
    | fail)
  refine sub_b ?_
  subst hS
  rw [← ht]
  show (a == ckN) = decide (a = ckN)
  by_cases h : a = ckN <;> simp [h]
theorem named_z {w : Int} {b : List UInt8} : (S0 Tryd.prog).call 54 [.i .i64 (.y 0), .s b, .i .i64 (.y w)] [] (fun y _ => Sub y (.tp [.re (.slice none 0 0), .i .i64 (.y 2)])) := by
  generalize hS : S0 Tryd.prog = S
  refine call_in' hS I.fn_unpack_Named ?_
  cbv
  refine of_u hS (w := w) rfl fun u k hu hk => ?_
  obtain ⟨u0, u1, k0, k1, hp⟩ := up_bd w
  rw [← hu] at u0 u1
  rw [← hk] at k0 k1 hp
  cbv
  refine call_in' hS I.fn_unpack_put ?_
  cbv
  repeat' (first
    | (refine s_eqs hS rfl ?_; try cbv)
    | (refine s_ck hS ?_; try cbv)
    | (refine s_sbr hS ?_ ?_ <;> intro h <;> (try cbv) <;> try exact s_ab h)
    | (refine s_ad hS ?_; intro _ _; try cbv)
    | (refine s_sb hS ?_; intro _ _; try cbv)
    | (refine s_stl hS ?_; intro _ _; try cbv)
    | (refine s_stc hS ?_; try cbv)
    | (refine pput_u hS 0 k u (powP w) rfl rfl rfl (by omega) (by omega) (by omega) (by omega) hp (by omega) (by omega) fun F2 n2 st hF2 hn2 => ?_; cbv)
    | (refine s_eqo hS ?_; try cbv)
    | (refine s_lk hS ?_; try cbv)
    | (refine s_mu hS ?_; try cbv)
    | fail)
  exact sub_tp (.cons .rfl (.cons (sub_i rfl) .nil))
section
variable {S : Sy} {bl : List Blk} {K : SV → List Blk → Prop} {L : List Int} {F : List SV} {n i w : Int} {a b : List UInt8}
theorem secret_g (hS : S0 Tryd.prog = S) {t : Bool} (ht : decide (a = ckN) = t) (hK : K (.b t) bl) : S.call 43 [.ag [.s a, .s b]] bl K := use_val hS (secret_f ht) .rfl rfl rfl hK
theorem named_g (hS : S0 Tryd.prog = S) {zi zw : Z} (hi : zi.v = i) (hw : zw.v = w) (h0 : 0 < i) (h1 : i < 2147483648) (hb : ilen b ≤ 1000000) (hF : cellsB (nmB i b w) = F) (hn : n = ilen (nmB i b w)) (hK : K (.tp [.v false 1 F (.y n), .i .i64 (.y 0)]) bl) :
    S.call 54 [.i .i64 zi, .s b, .i .i64 zw] bl K :=
  use_tell hS (own_t1 (named_o h0 h1 hb) hF hn) (.cons (sub_i hi) (.cons .rfl (.cons (sub_i hw) .nil))) rfl hK
theorem named_n (hS : S0 Tryd.prog = S) {zi zw : Z} (hi : zi.v = 0) (hK : K (.tp [.re (.slice none 0 0), .i .i64 (.y 2)]) bl) : S.call 54 [.i .i64 zi, .s b, .i .i64 zw] bl K :=
  use_val hS (named_z (w := zw.v)) (.cons (sub_i hi) (.cons .rfl (.cons (sub_i rfl) .nil))) rfl rfl hK
theorem fld_g (hS : S0 Tryd.prog = S) {zw : Z} (hw : zw.v = w) (hab : ilen a + ilen b ≤ 60000) (hF : cellsB (fldB (a, b) w) = F) (hn : n = ilen (fldB (a, b) w)) (hK : K (.v false 1 F (.y n)) bl) : S.call 52 [.ag [.s a, .s b], .i .i64 zw] bl K :=
  use_tell hS (own_t0 (fld_o hab) hF hn) (.cons .rfl (.cons (sub_i hw) .nil)) rfl hK
theorem idx_g (hS : S0 Tryd.prog = S) {zi : Z} (hi : zi.v = i) (h0 : 0 ≤ i) (h1 : i < 2147483648) (hF : cellsB (idxB i) = F) (hn : n = ilen (idxB i)) (hK : K (.tp [.v false 1 F (.y n), .i .i64 (.y 0)]) bl) : S.call 53 [.i .i64 zi] bl K :=
  use_tell hS (own_t1 (idx_o h0 h1) hF hn) (.cons (sub_i hi) .nil) rfl hK
end
theorem field_f {mx : Int} {l l' : List Tb.Fd} {a b : List UInt8} {L : List Int} {F R : List SV} {n m : Int} (hR : rightL mx l = true) (hL : fieldB mx l (a, b) = L) (hl : fieldL mx l (a, b) = l') (hF : cellsB L = F) (hn : n = ilen L) (hRr : cellsF l' = R) (hm : m = ilen l')
    (hab : ilen a + ilen b ≤ 60000) :
    (S0 Tryd.prog).call 44 [tabV mx l, .ag [.s a, .s b]] [] (Tell (.tp [.v false 1 F (.y n), .ag [.i .i64 (.y mx), .v false 2 R (.y m)], .i .i64 (.y 0)])) := by
  have hl0 := right_len hR
  have hR' := of_decide_eq_true hR
  have h0a := ilen_nn a
  have h0b := ilen_nn b
  unfold tabV
  generalize hG : cellsF l = G
  obtain ⟨k, hk⟩ : ∃ k, k = ilen l := ⟨_, rfl⟩
  obtain ⟨sz, hsz⟩ : ∃ r, r = szF (a, b) := ⟨_, rfl⟩
  have hsz' : sz = ilen a + ilen b + 32 := hsz
  have hres : resR (mx, l) mx = ((mx, l), 0) := by unfold resR; rw [if_pos ⟨hR, hR'.1, hR'.2.1⟩]; dsimp only; rw [evL_all hR'.2.2]
  have hadd : addR (mx, l) (a, b) = ((mx, evL mx ((a, b) :: l)), 0) := by unfold addR; rw [if_pos hR]
  have hrg := find_rng l (a, b)
  unfold fieldL addP at hl
  unfold fieldB ownB at hL
  unfold wayP at hL hl
  rw [← hsz] at hL hl
  obtain ⟨⟨fi, ft⟩, hfi⟩ : ∃ r, Tb.findR l (a, b) = r := ⟨_, rfl⟩
  rw [hfi] at hL hl hrg
  dsimp only at hL hl hrg
  rw [← hk]
  generalize hS : S0 Tryd.prog = S
  refine call_in' hS I.fn_pack_Field ?_
  cbv
  refine res_g hS (.v (z := .y mx) (n := .y k) rfl hG hk) hres hG hk (by omega) ?_
  cbv
  repeat' (first
    | (refine s_eqs hS rfl ?_; try cbv)
    | (refine s_ck hS ?_; try cbv)
    | (refine s_sbr hS ?_ ?_ <;> intro h <;> (try cbv) <;> try exact s_ab h)
    | (refine s_ad hS ?_; intro _ _; try cbv)
    | (refine s_sb hS ?_; intro _ _; try cbv)
    | (refine s_stl hS ?_; intro _ _; try cbv)
    | (refine s_stc hS ?_; try cbv)
    | (refine s_eqo hS ?_; try cbv)
    | (refine s_lk hS ?_; try cbv)
    | (refine s_mu hS ?_; try cbv)
    | fail)
  refine find_g hS (.v (z := .y mx) (n := .y k) rfl hG hk) hfi (by omega) ?_
  cbv
  cases ft with
  | true =>
    cbv
    simp only [if_true] at hL hl
    simp at hl
    subst hl hL
    repeat' (first
      | (refine s_eqs hS rfl ?_; try cbv)
      | (refine s_ck hS ?_; try cbv)
      | (refine s_sbr hS ?_ ?_ <;> intro h <;> (try cbv) <;> try exact s_ab h)
      | (refine s_ad hS ?_; intro _ _; try cbv)
      | (refine s_sb hS ?_; intro _ _; try cbv)
      | (refine s_stl hS ?_; intro _ _; try cbv)
      | (refine s_stc hS ?_; try cbv)
      | (refine idx_g hS (i := fi) rfl hrg.1 (by omega) hF hn ?_; cbv)
      | (refine s_draw hS rfl I.ord_pack_Field_0 (by decide +kernel) ?_; cbv)
      | (refine s_draw hS rfl I.ord_pack_Field_1 (by decide +kernel) ?_; cbv)
      | (refine s_draw hS rfl I.ord_pack_Field_2 (by decide +kernel) ?_; cbv)
      | (refine s_draw hS rfl I.ord_pack_Field_3 (by decide +kernel) ?_; cbv)
      | (refine s_draw hS rfl I.ord_pack_Field_4 (by decide +kernel) ?_; cbv)
      | (refine s_draw hS rfl I.ord_pack_Field_5 (by decide +kernel) ?_; cbv)
      | (refine s_eqo hS ?_; try cbv)
      | (refine s_lk hS ?_; try cbv)
      | (refine s_mu hS ?_; try cbv)
      | fail)
    exact fun g => .sub (sub_tp (.cons .rfl (.cons (sub_ag (.cons .rfl (.cons (sub_v (hG.symm.trans hRr) (hk.trans hm.symm)) .nil))) (.cons (sub_i rfl) .nil)))) rfl
  | false =>
    cbv
    rw [if_neg (by simp)] at hL
    by_cases hc : a = ckN
    · rw [if_pos hc] at hL hl
      rw [if_neg (by simp)] at hl
      subst hl
      by_cases hp : 0 < fi
      · rw [if_pos hp] at hL
        subst hL
        repeat' (first
          | (refine s_eqs hS rfl ?_; try cbv)
          | (refine s_ck hS ?_; try cbv)
          | (refine s_sbr hS ?_ ?_ <;> intro h <;> (try cbv) <;> try exact s_ab h)
          | (refine s_ad hS ?_; intro _ _; try cbv)
          | (refine s_sb hS ?_; intro _ _; try cbv)
          | (refine s_stl hS ?_; intro _ _; try cbv)
          | (refine s_stc hS ?_; try cbv)
          | (refine secret_g hS (t := true) (decide_eq_true hc) ?_; cbv)
          | (refine named_g hS (i := fi) (w := 2) rfl rfl hp (by omega) (by omega) hF hn ?_; cbv)
          | (refine named_g hS (i := fi) (w := 3) rfl rfl hp (by omega) (by omega) hF hn ?_; cbv)
          | (refine named_g hS (i := fi) (w := 1) rfl rfl hp (by omega) (by omega) hF hn ?_; cbv)
          | (refine s_draw hS rfl I.ord_pack_Field_0 (by decide +kernel) ?_; cbv)
          | (refine s_draw hS rfl I.ord_pack_Field_1 (by decide +kernel) ?_; cbv)
          | (refine s_draw hS rfl I.ord_pack_Field_2 (by decide +kernel) ?_; cbv)
          | (refine s_draw hS rfl I.ord_pack_Field_3 (by decide +kernel) ?_; cbv)
          | (refine s_draw hS rfl I.ord_pack_Field_4 (by decide +kernel) ?_; cbv)
          | (refine s_draw hS rfl I.ord_pack_Field_5 (by decide +kernel) ?_; cbv)
          | (refine call_in' hS I.fn_pack_Field_1 ?_; cbv)
          | (refine s_eqo hS ?_; try cbv)
          | (refine s_lk hS ?_; try cbv)
          | (refine s_mu hS ?_; try cbv)
          | fail)
        exact fun g => .sub (sub_tp (.cons .rfl (.cons (sub_ag (.cons .rfl (.cons (sub_v (hG.symm.trans hRr) (hk.trans hm.symm)) .nil))) (.cons (sub_i rfl) .nil)))) rfl
      · rw [if_neg hp] at hL
        subst hL
        have hp0 : fi = 0 := by omega
        repeat' (first
          | (refine s_eqs hS rfl ?_; try cbv)
          | (refine s_ck hS ?_; try cbv)
          | (refine s_sbr hS ?_ ?_ <;> intro h <;> (try cbv) <;> try exact s_ab h)
          | (refine s_ad hS ?_; intro _ _; try cbv)
          | (refine s_sb hS ?_; intro _ _; try cbv)
          | (refine s_stl hS ?_; intro _ _; try cbv)
          | (refine s_stc hS ?_; try cbv)
          | (refine secret_g hS (t := true) (decide_eq_true hc) ?_; cbv)
          | (refine fld_g hS (w := 2) rfl hab hF hn ?_; cbv)
          | (refine fld_g hS (w := 3) rfl hab hF hn ?_; cbv)
          | (refine fld_g hS (w := 1) rfl hab hF hn ?_; cbv)
          | (refine s_draw hS rfl I.ord_pack_Field_0 (by decide +kernel) ?_; cbv)
          | (refine s_draw hS rfl I.ord_pack_Field_1 (by decide +kernel) ?_; cbv)
          | (refine s_draw hS rfl I.ord_pack_Field_2 (by decide +kernel) ?_; cbv)
          | (refine s_draw hS rfl I.ord_pack_Field_3 (by decide +kernel) ?_; cbv)
          | (refine s_draw hS rfl I.ord_pack_Field_4 (by decide +kernel) ?_; cbv)
          | (refine s_draw hS rfl I.ord_pack_Field_5 (by decide +kernel) ?_; cbv)
          | (refine named_n hS hp0 ?_; cbv)
          | (refine call_in' hS I.fn_pack_Field_1 ?_; cbv)
          | (refine s_eqo hS ?_; try cbv)
          | (refine s_lk hS ?_; try cbv)
          | (refine s_mu hS ?_; try cbv)
          | fail)
        exact fun g => .sub (sub_tp (.cons .rfl (.cons (sub_ag (.cons .rfl (.cons (sub_v (hG.symm.trans hRr) (hk.trans hm.symm)) .nil))) (.cons (sub_i rfl) .nil)))) rfl
    · rw [if_neg hc] at hL hl
      by_cases hs : sz ≤ mx
      · rw [if_pos hs] at hL hl
        rw [if_pos (by simp)] at hl
        subst hl
        by_cases hp : 0 < fi
        · rw [if_pos hp] at hL
          subst hL
          repeat' (first
            | (refine s_eqs hS rfl ?_; try cbv)
            | (refine s_ck hS ?_; try cbv)
            | (refine s_sbr hS ?_ ?_ <;> intro h <;> (try cbv) <;> try exact s_ab h)
            | (refine s_ad hS ?_; intro _ _; try cbv)
            | (refine s_sb hS ?_; intro _ _; try cbv)
            | (refine s_stl hS ?_; intro _ _; try cbv)
            | (refine s_stc hS ?_; try cbv)
            | (refine secret_g hS (t := false) (decide_eq_false hc) ?_; cbv)
            | (refine named_g hS (i := fi) (w := 2) rfl rfl hp (by omega) (by omega) hF hn ?_; cbv)
            | (refine named_g hS (i := fi) (w := 3) rfl rfl hp (by omega) (by omega) hF hn ?_; cbv)
            | (refine named_g hS (i := fi) (w := 1) rfl rfl hp (by omega) (by omega) hF hn ?_; cbv)
            | (refine s_draw hS rfl I.ord_pack_Field_0 (by decide +kernel) ?_; cbv)
            | (refine s_draw hS rfl I.ord_pack_Field_1 (by decide +kernel) ?_; cbv)
            | (refine s_draw hS rfl I.ord_pack_Field_2 (by decide +kernel) ?_; cbv)
            | (refine s_draw hS rfl I.ord_pack_Field_3 (by decide +kernel) ?_; cbv)
            | (refine s_draw hS rfl I.ord_pack_Field_4 (by decide +kernel) ?_; cbv)
            | (refine s_draw hS rfl I.ord_pack_Field_5 (by decide +kernel) ?_; cbv)
            | (refine call_in' hS I.fn_pack_Field_1 ?_; cbv)
            | (refine size_g hS hsz (by omega) ?_; cbv)
            | (refine add_g hS (.v (z := .y mx) (n := .y k) rfl hG hk) hadd hRr hm (by omega) (by omega) ?_; cbv)
            | (refine s_eqo hS ?_; try cbv)
            | (refine s_lk hS ?_; try cbv)
            | (refine s_mu hS ?_; try cbv)
            | fail)
          exact fun g => .sub (sub_tp (.cons .rfl (.cons .rfl (.cons (sub_i rfl) .nil)))) rfl
        · rw [if_neg hp] at hL
          subst hL
          have hp0 : fi = 0 := by omega
          repeat' (first
            | (refine s_eqs hS rfl ?_; try cbv)
            | (refine s_ck hS ?_; try cbv)
            | (refine s_sbr hS ?_ ?_ <;> intro h <;> (try cbv) <;> try exact s_ab h)
            | (refine s_ad hS ?_; intro _ _; try cbv)
            | (refine s_sb hS ?_; intro _ _; try cbv)
            | (refine s_stl hS ?_; intro _ _; try cbv)
            | (refine s_stc hS ?_; try cbv)
            | (refine secret_g hS (t := false) (decide_eq_false hc) ?_; cbv)
            | (refine fld_g hS (w := 2) rfl hab hF hn ?_; cbv)
            | (refine fld_g hS (w := 3) rfl hab hF hn ?_; cbv)
            | (refine fld_g hS (w := 1) rfl hab hF hn ?_; cbv)
            | (refine s_draw hS rfl I.ord_pack_Field_0 (by decide +kernel) ?_; cbv)
            | (refine s_draw hS rfl I.ord_pack_Field_1 (by decide +kernel) ?_; cbv)
            | (refine s_draw hS rfl I.ord_pack_Field_2 (by decide +kernel) ?_; cbv)
            | (refine s_draw hS rfl I.ord_pack_Field_3 (by decide +kernel) ?_; cbv)
            | (refine s_draw hS rfl I.ord_pack_Field_4 (by decide +kernel) ?_; cbv)
            | (refine s_draw hS rfl I.ord_pack_Field_5 (by decide +kernel) ?_; cbv)
            | (refine named_n hS hp0 ?_; cbv)
            | (refine call_in' hS I.fn_pack_Field_1 ?_; cbv)
            | (refine size_g hS hsz (by omega) ?_; cbv)
            | (refine add_g hS (.v (z := .y mx) (n := .y k) rfl hG hk) hadd hRr hm (by omega) (by omega) ?_; cbv)
            | (refine s_eqo hS ?_; try cbv)
            | (refine s_lk hS ?_; try cbv)
            | (refine s_mu hS ?_; try cbv)
            | fail)
          exact fun g => .sub (sub_tp (.cons .rfl (.cons .rfl (.cons (sub_i rfl) .nil)))) rfl
      · rw [if_neg hs] at hL hl
        rw [if_neg (by simp)] at hl
        subst hl
        by_cases hp : 0 < fi
        · rw [if_pos hp] at hL
          subst hL
          repeat' (first
            | (refine s_eqs hS rfl ?_; try cbv)
            | (refine s_ck hS ?_; try cbv)
            | (refine s_sbr hS ?_ ?_ <;> intro h <;> (try cbv) <;> try exact s_ab h)
            | (refine s_ad hS ?_; intro _ _; try cbv)
            | (refine s_sb hS ?_; intro _ _; try cbv)
            | (refine s_stl hS ?_; intro _ _; try cbv)
            | (refine s_stc hS ?_; try cbv)
            | (refine secret_g hS (t := false) (decide_eq_false hc) ?_; cbv)
            | (refine named_g hS (i := fi) (w := 2) rfl rfl hp (by omega) (by omega) hF hn ?_; cbv)
            | (refine named_g hS (i := fi) (w := 3) rfl rfl hp (by omega) (by omega) hF hn ?_; cbv)
            | (refine named_g hS (i := fi) (w := 1) rfl rfl hp (by omega) (by omega) hF hn ?_; cbv)
            | (refine s_draw hS rfl I.ord_pack_Field_0 (by decide +kernel) ?_; cbv)
            | (refine s_draw hS rfl I.ord_pack_Field_1 (by decide +kernel) ?_; cbv)
            | (refine s_draw hS rfl I.ord_pack_Field_2 (by decide +kernel) ?_; cbv)
            | (refine s_draw hS rfl I.ord_pack_Field_3 (by decide +kernel) ?_; cbv)
            | (refine s_draw hS rfl I.ord_pack_Field_4 (by decide +kernel) ?_; cbv)
            | (refine s_draw hS rfl I.ord_pack_Field_5 (by decide +kernel) ?_; cbv)
            | (refine call_in' hS I.fn_pack_Field_1 ?_; cbv)
            | (refine size_g hS hsz (by omega) ?_; cbv)
            | (refine s_eqo hS ?_; try cbv)
            | (refine s_lk hS ?_; try cbv)
            | (refine s_mu hS ?_; try cbv)
            | fail)
          exact fun g => .sub (sub_tp (.cons .rfl (.cons (sub_ag (.cons .rfl (.cons (sub_v (hG.symm.trans hRr) (hk.trans hm.symm)) .nil))) (.cons (sub_i rfl) .nil)))) rfl
        · rw [if_neg hp] at hL
          subst hL
          have hp0 : fi = 0 := by omega
          repeat' (first
            | (refine s_eqs hS rfl ?_; try cbv)
            | (refine s_ck hS ?_; try cbv)
            | (refine s_sbr hS ?_ ?_ <;> intro h <;> (try cbv) <;> try exact s_ab h)
            | (refine s_ad hS ?_; intro _ _; try cbv)
            | (refine s_sb hS ?_; intro _ _; try cbv)
            | (refine s_stl hS ?_; intro _ _; try cbv)
            | (refine s_stc hS ?_; try cbv)
            | (refine secret_g hS (t := false) (decide_eq_false hc) ?_; cbv)
            | (refine fld_g hS (w := 2) rfl hab hF hn ?_; cbv)
            | (refine fld_g hS (w := 3) rfl hab hF hn ?_; cbv)
            | (refine fld_g hS (w := 1) rfl hab hF hn ?_; cbv)
            | (refine s_draw hS rfl I.ord_pack_Field_0 (by decide +kernel) ?_; cbv)
            | (refine s_draw hS rfl I.ord_pack_Field_1 (by decide +kernel) ?_; cbv)
            | (refine s_draw hS rfl I.ord_pack_Field_2 (by decide +kernel) ?_; cbv)
            | (refine s_draw hS rfl I.ord_pack_Field_3 (by decide +kernel) ?_; cbv)
            | (refine s_draw hS rfl I.ord_pack_Field_4 (by decide +kernel) ?_; cbv)
            | (refine s_draw hS rfl I.ord_pack_Field_5 (by decide +kernel) ?_; cbv)
            | (refine named_n hS hp0 ?_; cbv)
            | (refine call_in' hS I.fn_pack_Field_1 ?_; cbv)
            | (refine size_g hS hsz (by omega) ?_; cbv)
            | (refine s_eqo hS ?_; try cbv)
            | (refine s_lk hS ?_; try cbv)
            | (refine s_mu hS ?_; try cbv)
            | fail)
          exact fun g => .sub (sub_tp (.cons .rfl (.cons (sub_ag (.cons .rfl (.cons (sub_v (hG.symm.trans hRr) (hk.trans hm.symm)) .nil))) (.cons (sub_i rfl) .nil)))) rfl
end Pa
end Cz
namespace Cz
open Go Go.RowKit
set_option linter.unusedSimpArgs false
set_option linter.unusedVariables false
section
variable {P : Program} {l : List Blk}
theorem Rel.reblk {N : Nat → Prop} {W0 W : World} {ρ : Nms} (hR : Rel P N W0 ρ l W) {k : Nat} {cs cs' : List SV} (hB : l[k]? = some (.c cs)) (hlen : cs'.length = cs.length)
    (hd : ∀ (q : Nat) (x' : SV), cs'[q]? = some x' → ∃ x, cs[q]? = some x ∧ ∀ v, den ρ x v → den ρ x' v) : Rel P N W0 ρ (l.set k (.c cs')) W := by
  have hk := (List.getElem?_eq_some_iff.1 hB).1
  have hat : ∀ (j : Nat) (B : Blk), (l.set k (.c cs'))[j]? = some B → B.wr = true → ∃ B0, l[j]? = some B0 ∧ B0.wr = true := by
    intro j B h hw
    by_cases e : j = k
    · subst e; exact ⟨_, hB, rfl⟩
    · rw [List.getElem?_set_ne (fun h => e h.symm)] at h; exact ⟨B, h, hw⟩
  refine ⟨hR.below, hR.le, fun j hj => hR.out j (by simpa using hj), hR.ids, fun j B h => ?_, fun j j' B vw vw' a a' h hw hne hv hv' ha ha' => ?_, fun j B vw a h hw hv ha => ?_, hR.qN, hR.fin, fun j B vw a h hw hv ha => ?_⟩
  · by_cases e : j = k
    · subst e
      rw [List.getElem?_set_self hk] at h
      simp only [Option.some.injEq] at h; subst h
      obtain ⟨b, h1, h2, h3⟩ := hR.blk j _ hB
      refine ⟨b, by rw [h1, hlen], ?_, by rw [hlen]; exact h3⟩
      refine ⟨by rw [hlen]; exact h2.1, fun hb => by (cases hb), fun q x' hq hx' => ?_⟩
      obtain ⟨x, hx, hdx⟩ := hd q x' hx'
      obtain ⟨a, v, g1, g2, g3⟩ := h2.2.2 q x (by simpa [hlen] using hq) hx
      exact ⟨a, v, g1, g2, hdx v g3⟩
    · rw [List.getElem?_set_ne (fun h => e h.symm)] at h
      exact hR.blk j B h
  · obtain ⟨B0, g1, g2⟩ := hat j B h hw
    exact hR.sep j j' B0 vw vw' a a' g1 g2 hne hv hv' ha ha'
  · obtain ⟨B0, g1, g2⟩ := hat j B h hw
    exact hR.own j B0 vw a g1 g2 hv ha
  · obtain ⟨B0, g1, g2⟩ := hat j B h hw
    exact hR.fsep j B0 vw a g1 g2 hv ha
theorem s_loop_nilB {S : Sy} (hS : S0 P = S) (k q sz : Nat) {cs : List SV} {cx : Cx} {b : IR} {K : VK} {e : Env} (hsz : 0 < sz) (hB : lget l k = .c cs) (hq : nth cs q = .re (.slice none 0 0))
    (h : S.loop cx b e (snoc (lset l k (.c (put cs q (nilRow l sz)))) (.r false true (.l 0) sz [])) K) : S.loop cx b e l K := by
  subst hS
  have hB' := lget_some hB (by simp)
  have hk := (List.getElem?_eq_some_iff.1 hB').1
  rw [snoc_eq, lset_eq] at h
  intro c kl hc N W0 ρ rr a W hs hr hm
  have hle : Le l.length ρ (upd ρ l.length [⟨none, 0, 0⟩]) := le_ghost (Nat.le_refl _)
  have hE : EnvOk (upd ρ l.length [⟨none, 0, 0⟩]) e.vs a.tmps := hs.env.le hle hs.rel.out
  have hM : MkOk (upd ρ l.length [⟨none, 0, 0⟩]) e.mks a.defers := MkOk.le hle hs.rel.out _ _ hs.mks
  have hG := hs.rel.ghost false hsz
  have hR := hG.reblk (k := k) (cs := cs) (cs' := put cs q (nilRow l sz)) (by rw [List.getElem?_append_left hk]; exact hB') (by rw [put_eq, List.length_set]) (by
    intro j x' hx'
    by_cases hj : j = q
    · subst hj
      have hlt : j < cs.length := by have := (List.getElem?_eq_some_iff.1 hx').1; rw [put_eq, List.length_set] at this; exact this
      rw [put_eq, List.getElem?_set_self hlt] at hx'
      simp only [Option.some.injEq] at hx'; subst hx'
      refine ⟨_, List.getElem?_eq_getElem hlt, fun v hd => ?_⟩
      have : cs[j] = .re (.slice none 0 0) := by rw [nth_eq, List.getD_eq_getElem?_getD, List.getElem?_eq_getElem hlt] at hq; exact hq
      rw [this] at hd
      simp only [den] at hd
      rw [hd.1]; exact den_nilRow (by rw [upd_same]; simp)
    · rw [put_eq, List.getElem?_set_ne (fun e => hj e.symm)] at hx'
      exact ⟨x', hx', fun _ h => h⟩)
  rw [List.set_append_left _ _ hk] at hR
  exact Wp.mono (h c kl hc N W0 _ rr a W ⟨hR, hE, hM⟩ (hr.le (le_ghost hm)) (by simp; omega)) fun _ _ _ q => q.le (le_ghost hm)
end
theorem s_qA {p : Prop} (h : p := by repeat' (first | exact trivial | exact SubB.rfl | exact Sub.rfl | refine And.intro ?_ ?_ | (exact SubB.c (by with_reducible assumption)) | refine SubB.c ?_ | exact SubB.r .rfl rfl rfl | exact SubB.r .rfl rfl (by assumption) | exact SubM.nil | refine SubM.cons ?_ ?_ ?_ | refine SubB.m ?_ | exact sub_any | exact SubL.nil | refine SubL.cons ?_ ?_ | exact sub_i rfl | refine sub_tp ?_ | refine sub_ag ?_ | exact sub_sl rfl rfl | exact sub_v rfl rfl | exact sub_tt rfl | exact sub_ff rfl | exact sub_b_tt rfl | exact sub_b_ff rfl | (refine sub_i ?_; simp only [Z.v]; omega) | (refine sub_b ?_; assumption) | (refine sub_tt ?_; assumption) | (refine sub_ff ?_; assumption))) : p := h
end Cz
namespace Cz
open Go Go.RowKit Go.Proofs
set_option linter.unusedSimpArgs false
set_option linter.unusedVariables false
set_option maxRecDepth 100000
set_option maxHeartbeats 4000000
namespace Pa
open Tb
section
variable {S : Sy} {bl : List Blk} {K : SV → List Blk → Prop}
theorem field_g (hS : S0 Tryd.prog = S) {cs : List SV} {mx : Int} {l l' : List Tb.Fd} {a b : List UInt8} {L : List Int} {F R : List SV} {n m : Int} (hc : TabC [] cs mx l) (hR : rightL mx l = true) (hL : fieldB mx l (a, b) = L) (hl : fieldL mx l (a, b) = l') (hF : cellsB L = F) (hn : n = ilen L) (hRr : cellsF l' = R) (hm : m = ilen l')
    (hab : ilen a + ilen b ≤ 60000) (hK : K (.tp [.v false 1 F (.y n), .ag [.i .i64 (.y mx), .v false 2 R (.y m)], .i .i64 (.y 0)]) bl) : S.call 44 [.ag cs, .ag [.s a, .s b]] bl K := by
  refine use_tell hS (field_f hR hL hl hF hn hRr hm hab) ?_ rfl hK
  match hc.sub with
  | .cons h _ => exact .cons h .rfl
end
theorem block_f {mx : Int} {l l' fs : List Tb.Fd} {L : List Int} {F R : List SV} {n m : Int} (hR : rightL mx l = true) (hL : blockB mx l fs = L) (hl : blockL mx l fs = l') (hF : cellsB L = F) (hn : n = ilen L) (hRr : cellsF l' = R) (hm : m = ilen l')
    (hfs : fullL fs ≤ 60000) :
    (S0 Tryd.prog).call 40 [tabV mx l, .v false 2 (cellsF fs) (.y (ilen fs))] [] (Tell (.tp [.v false 1 F (.y n), .ag [.i .i64 (.y mx), .v false 2 R (.y m)], .i .i64 (.y 0)])) := by
  have hl0 := right_len hR
  have hR' := of_decide_eq_true hR
  unfold tabV
  generalize hG : cellsF l = G
  obtain ⟨k, hk⟩ : ∃ k, k = ilen l := ⟨_, rfl⟩
  generalize hH : cellsF fs = H
  obtain ⟨q, hq⟩ : ∃ k, k = ilen fs := ⟨_, rfl⟩
  have hres : resR (mx, l) mx = ((mx, l), 0) := by unfold resR; rw [if_pos ⟨hR, hR'.1, hR'.2.1⟩]; dsimp only; rw [evL_all hR'.2.2]
  rw [← hk, ← hq]
  generalize hS : S0 Tryd.prog = S
  refine call_in' hS I.fn_pack_Block ?_
  cbv
  refine res_g hS (.v (z := .y mx) (n := .y k) rfl hG hk) hres hG hk (by omega) ?_
  cbv
  repeat' (first
    | (refine s_eqs hS rfl ?_; try cbv)
    | (refine s_ck hS ?_; try cbv)
    | (refine s_sbr hS ?_ ?_ <;> intro h <;> (try cbv) <;> try exact s_ab h)
    | (refine s_ad hS ?_; intro _ _; try cbv)
    | (refine s_sb hS ?_; intro _ _; try cbv)
    | (refine s_stl hS ?_; intro _ _; try cbv)
    | (refine s_stc hS ?_; try cbv)
    | (refine call_in' hS I.fn_pack_packed ?_; cbv)
    | (refine rfc_in' hS I.fn_pack_packed_1 ?_; cbv)
    | (refine s_eqo hS ?_; try cbv)
    | (refine s_lk hS ?_; try cbv)
    | (refine s_mu hS ?_; try cbv)
    | fail)
  refine s_loop_nilB hS 1 0 1 (by decide) rfl rfl ?_
  cbv
  refine s_loop_up hS 8 I.dead_pack_packed_1_0 (fun x : Int × Int × List SV × Int × List SV × Int => 0 ≤ x.1 ∧ x.1 ≤ q ∧ ∃ Lb lt, blockB mx l (fs.take x.1.toNat) = Lb ∧ blockL mx l (fs.take x.1.toNat) = lt ∧ cellsB Lb = x.2.2.1 ∧ x.2.2.2.1 = ilen Lb ∧ cellsF lt = x.2.2.2.2.1 ∧ x.2.2.2.2.2 = ilen lt)
    (fun x => [(9, .i .i64 (.y x.1))])
    (fun x => [(1, .c [.sl 7 1 (.l 0) (.y x.2.2.2.1) none]), (2, .c [.i .i64 (.y mx), .v false 2 x.2.2.2.2.1 (.y x.2.2.2.2.2)]), (3, .c [.i .i64 (.y mx), .v false 2 x.2.2.2.2.1 (.y x.2.2.2.2.2)]), (7, .r false false (.y x.2.1) 1 x.2.2.1)])
    (fun x => (q - x.1).toNat) (0, 0, [], 0, G, k) rfl
    ⟨⟨Int.le_refl _, by dsimp only; rw [hq]; exact ilen_nn _, [], l, rfl, rfl, rfl, rfl, hG, hk⟩, rfl, ?_, ?_, by cbv⟩ ?_
  · cbv; exact s_qA
  · cbv; exact s_qA
  intro x
  obtain ⟨i, st, B, bn, T, tn⟩ := x
  intro hx
  dsimp only at hx
  cbv
  obtain ⟨k0, k1, Lb, lt, f1, f2, f3, f4, f5, f6⟩ := hx
  refine s_sbr hS ?_ ?_ <;> intro h <;> cbv
  · obtain ⟨⟨a, b⟩, hp⟩ := at_ex (l := fs) (i := i) (by omega) k0
    have hRt : rightL mx lt = true := f2 ▸ block_right hR
    have hsz := full_at hp
    have hsz' : szF (a, b) = ilen a + ilen b + 32 := rfl
    have h0a := ilen_nn a
    have h0b := ilen_nn b
    obtain ⟨Lf, hLf⟩ : ∃ L, fieldB mx lt (a, b) = L := ⟨_, rfl⟩
    obtain ⟨lf, hlf⟩ : ∃ L, fieldL mx lt (a, b) = L := ⟨_, rfl⟩
    obtain ⟨Ff, hFf⟩ : ∃ F, cellsB Lf = F := ⟨_, rfl⟩
    obtain ⟨nf, hnf⟩ : ∃ n, n = ilen Lf := ⟨_, rfl⟩
    obtain ⟨Rf, hRf⟩ : ∃ F, cellsF lf = F := ⟨_, rfl⟩
    obtain ⟨mf, hmf⟩ : ∃ n, n = ilen lf := ⟨_, rfl⟩
    obtain ⟨nx1, nx2⟩ := block_next (mx := mx) (l := l) hp k0
    rw [f1, f2, hLf] at nx1
    rw [f2, hlf] at nx2
    have hfl := field_len mx lt (a, b)
    rw [hLf, ← hnf] at hfl
    have hbl := block_len mx (fs.take i.toNat) l
    have hft := full_take fs i.toNat
    rw [f1, ← f4] at hbl
    have hnf0 : 0 ≤ nf := hnf ▸ ilen_nn _
    have hbn0 : 0 ≤ bn := f4 ▸ ilen_nn _
    have hfn := fullL_len fs
    have hBl : ilen B = bn := by rw [← f3, cellsB_len, f4]
    repeat' (first
      | (refine s_eqs hS rfl ?_; try cbv)
      | (refine s_ck hS ?_; try cbv)
      | (refine s_sbr hS ?_ ?_ <;> intro h <;> (try cbv) <;> try exact s_ab h)
      | (refine s_ad hS ?_; intro _ _; try cbv)
      | (refine s_sb hS ?_; intro _ _; try cbv)
      | (refine s_stl hS ?_; intro _ _; try cbv)
      | (refine s_stc hS ?_; try cbv)
      | (refine rowF hS hH hp k0 ?_; cbv)
      | (refine field_g hS (.v (z := .y mx) (n := .y tn) rfl f5 f6) hRt hLf hlf hFf hnf hRf hmf (by omega) ?_; cbv)
      | (refine s_yld hS rfl rfl ?_; cbv)
      | (refine s_draw hS rfl I.ord_pack_Block_0 (by decide +kernel) ?_; cbv)
      | (refine s_draw hS rfl I.ord_pack_Block_1 (by decide +kernel) ?_; cbv)
      | (refine s_eqo hS ?_; try cbv)
      | (refine s_lk hS ?_; try cbv)
      | (refine s_mu hS ?_; try cbv)
      | fail)
    rename_i i2 hi2
    have e1 : S.app B Ff = cellsB (Lb ++ Lf) := app_cells hS f3.symm hFf.symm
    have e2 : S.pl bn nf = ilen (Lb ++ Lf) := by rw [ilen_app, ← f4, ← hnf]; subst hS; rfl
    refine ⟨(i2, S.flen B, S.app B Ff, S.pl bn nf, Rf, mf), by dsimp only; omega, ⟨by dsimp only; omega, by dsimp only; omega, Lb ++ Lf, lf, by dsimp only; rw [hi2]; exact nx1, by dsimp only; rw [hi2]; exact nx2, e1.symm, e2, hRf, hmf⟩, rfl, ?_, ?_, by cbv⟩
    · cbv; exact s_qA
    · cbv; exact s_qA
  · refine s_draw hS rfl I.ord_pack_Block_2 (by decide +kernel) ?_
    cbv
    have hft : fs.take i.toNat = fs := take_all (by omega)
    rw [hft] at f1 f2
    have e1 : cellsB L = F := hF
    rw [← hL, f1] at e1 hn
    rw [← hl, f2] at hRr hm
    subst e1 hRr
    exact fun g => .tp (.cons (bytes_fz (z := .y bn) rfl f3 f4 hn g) (.cons (.ag (.cons (.sub .rfl rfl) (.cons (.sub (sub_v f5.symm (f6.trans hm.symm)) rfl) .nil))) (.cons (.sub (sub_i rfl) rfl) .nil)))
section
variable {S : Sy} {bl : List Blk} {K : SV → List Blk → Prop}
theorem block_g (hS : S0 Tryd.prog = S) {cs : List SV} {x : SV} {mx : Int} {l l' fs : List Tb.Fd} {L : List Int} {F R : List SV} {n m : Int} (hc : TabC [] cs mx l) (hx : Sub x (.v false 2 (cellsF fs) (.y (ilen fs)))) (hR : rightL mx l = true) (hL : blockB mx l fs = L) (hl : blockL mx l fs = l') (hF : cellsB L = F) (hn : n = ilen L) (hRr : cellsF l' = R) (hm : m = ilen l')
    (hfs : fullL fs ≤ 60000) (hK : K (.tp [.v false 1 F (.y n), .ag [.i .i64 (.y mx), .v false 2 R (.y m)], .i .i64 (.y 0)]) bl) : S.call 40 [.ag cs, x] bl K := by
  refine use_tell hS (block_f hR hL hl hF hn hRr hm hfs) ?_ rfl hK
  match hc.sub with
  | .cons h _ => exact .cons h (.cons hx .nil)
end
theorem sized_f {mx most : Int} {l l' fs : List Tb.Fd} {L : List Int} {F R : List SV} {n m : Int} (hR : rightL mx l = true) (h0 : 0 ≤ most) (h1 : most ≤ 4096) (hL : sizB most ++ blockB most (evL most l) fs = L) (hl : blockL most (evL most l) fs = l') (hF : cellsB L = F) (hn : n = ilen L) (hRr : cellsF l' = R) (hm : m = ilen l')
    (hfs : fullL fs ≤ 60000) :
    (S0 Tryd.prog).call 42 [tabV mx l, .i .i64 (.y most), .v false 2 (cellsF fs) (.y (ilen fs))] [] (Tell (.tp [.v false 1 F (.y n), .ag [.i .i64 (.y most), .v false 2 R (.y m)], .i .i64 (.y 0)])) := by
  have hl0 := right_len hR
  have hR' := of_decide_eq_true hR
  unfold tabV
  generalize hG : cellsF l = G
  obtain ⟨k, hk⟩ : ∃ k, k = ilen l := ⟨_, rfl⟩
  obtain ⟨lr, hlr⟩ : ∃ r, evL most l = r := ⟨_, rfl⟩
  obtain ⟨rF, hrF⟩ : ∃ r, cellsF lr = r := ⟨_, rfl⟩
  obtain ⟨rn, hrn⟩ : ∃ r, r = ilen lr := ⟨_, rfl⟩
  have hres : resR (mx, l) most = ((most, lr), 0) := by unfold resR; rw [if_pos ⟨hR, h0, h1⟩, hlr]
  have hRr2 : rightL most lr = true := hlr ▸ right_ev h0 h1
  rw [hlr] at hL hl
  obtain ⟨Lb, hLb⟩ : ∃ L, blockB most lr fs = L := ⟨_, rfl⟩
  obtain ⟨Fb, hFb⟩ : ∃ F, cellsB Lb = F := ⟨_, rfl⟩
  obtain ⟨nb, hnb⟩ : ∃ n, n = ilen Lb := ⟨_, rfl⟩
  have hbl := block_len most fs lr
  rw [hLb] at hL
  rw [hLb, ← hnb] at hbl
  obtain ⟨Fz, hFz⟩ : ∃ F, cellsB (sizB most) = F := ⟨_, rfl⟩
  obtain ⟨nz, hnz⟩ : ∃ n, n = ilen (sizB most) := ⟨_, rfl⟩
  have hzl := putI_len most 32 32
  have hzl2 : nz = ilen (putI most 32 32) := hnz
  have hFl : ilen Fz = nz := by rw [← hFz, cellsB_len, hnz]
  rw [← hzl2] at hzl
  generalize hH : cellsF fs = H
  obtain ⟨q, hq⟩ : ∃ k, k = ilen fs := ⟨_, rfl⟩
  rw [← hk, ← hq]
  generalize hS : S0 Tryd.prog = S
  refine call_in' hS I.fn_pack_Sized ?_
  cbv
  refine res_g hS (.v (z := .y mx) (n := .y k) rfl hG hk) hres hrF hrn (by omega) ?_
  cbv
  repeat' (first
    | (refine s_eqs hS rfl ?_; try cbv)
    | (refine s_ck hS ?_; try cbv)
    | (refine s_sbr hS ?_ ?_ <;> intro h <;> (try cbv) <;> try exact s_ab h)
    | (refine s_ad hS ?_; intro _ _; try cbv)
    | (refine s_sb hS ?_; intro _ _; try cbv)
    | (refine s_stl hS ?_; intro _ _; try cbv)
    | (refine s_stc hS ?_; try cbv)
    | (refine own_u1 hS (siz_o h0 (by omega)) (.cons (sub_i rfl) .nil) rfl hFz hnz ?_; cbv)
    | (refine block_g hS (.v (z := .y most) (n := .y rn) rfl hrF hrn) (sub_v hH.symm hq) hRr2 hLb hl hFb hnb hRr hm hfs ?_; cbv)
    | (refine s_draw hS rfl I.ord_pack_Sized_0 (by decide +kernel) ?_; cbv)
    | (refine s_draw hS rfl I.ord_pack_Sized_1 (by decide +kernel) ?_; cbv)
    | (refine s_eqo hS ?_; try cbv)
    | (refine s_lk hS ?_; try cbv)
    | (refine s_mu hS ?_; try cbv)
    | fail)
  have e1 : S.app Fz Fb = cellsB L := by rw [app_cells hS hFz.symm hFb.symm, hL]
  have e2 : S.pl nz nb = ilen L := by rw [← hL, ilen_app, ← hnz, ← hnb]; subst hS; rfl
  subst hF
  exact fun g => .tp (.cons (bytes_fz (z := .y (S.pl nz nb)) rfl e1.symm e2 hn g) (.cons (.sub .rfl rfl) (.cons (.sub (sub_i rfl) rfl) .nil)))
def errP : SV := .tp [.v false 1 [] (.y 0), .ag [.i .i64 (.y 0), .v false 2 [] (.y 0)], .i .i64 (.y 2)]
theorem err_fz {x : SV} {l' : List Blk} (h : Sub x (.tp [.re (.slice none 0 0), .ag [.i .i64 (.l 0), .re (.slice none 0 0)], .i .i64 (.l 2)]) ∨ Sub x (.tp [.re (.slice none 0 0), .ag [.i .i64 (.y 0), .v false 2 [] (.y 0)], .i .i64 (.l 2)])) (hr : refsB (fun _ => false) x = true) : Tell errP x l' := by
  refine fun g => .sub ?_ hr
  rcases h with h | h
  · exact h.trans (sub_tp (.cons (sub_nv (by decide) rfl rfl) (.cons (sub_ag (.cons (sub_i rfl) (.cons (sub_nv (by decide) rfl rfl) .nil))) (.cons (sub_i rfl) .nil))))
  · exact h.trans (sub_tp (.cons (sub_nv (by decide) rfl rfl) (.cons .rfl (.cons (sub_i rfl) .nil))))
theorem block_e {mx : Int} {l fs : List Tb.Fd} (hR : rightL mx l = false) (hb : fullL l ≤ 10000000) : (S0 Tryd.prog).call 40 [tabV mx l, .v false 2 (cellsF fs) (.y (ilen fs))] [] (Tell errP) := by
  unfold tabV
  generalize hG : cellsF l = G
  obtain ⟨k, hk⟩ : ∃ k, k = ilen l := ⟨_, rfl⟩
  have hres : resR (mx, l) mx = ((0, []), 2) := by unfold resR; rw [if_neg (by rw [hR]; simp)]
  rw [← hk]
  generalize hH : cellsF fs = H
  obtain ⟨q, hq⟩ : ∃ k, k = ilen fs := ⟨_, rfl⟩
  rw [← hq]
  generalize hS : S0 Tryd.prog = S
  refine call_in' hS I.fn_pack_Block ?_
  cbv
  refine res_g hS (.v (z := .y mx) (n := .y k) rfl hG hk) hres rfl rfl (by omega) ?_
  cbv
  repeat' (first
    | (refine s_eqs hS rfl ?_; try cbv)
    | (refine s_ck hS ?_; try cbv)
    | (refine s_sbr hS ?_ ?_ <;> intro h <;> (try cbv) <;> try exact s_ab h)
    | (refine s_ad hS ?_; intro _ _; try cbv)
    | (refine s_sb hS ?_; intro _ _; try cbv)
    | (refine s_stl hS ?_; intro _ _; try cbv)
    | (refine s_stc hS ?_; try cbv)
    | (refine s_draw hS rfl I.ord_pack_Block_0 (by decide +kernel) ?_; cbv)
    | (refine s_eqo hS ?_; try cbv)
    | (refine s_lk hS ?_; try cbv)
    | (refine s_mu hS ?_; try cbv)
    | fail)
  exact err_fz (.inr .rfl) rfl
end Pa
end Cz
namespace Cz
open Go Go.RowKit Go.Proofs
set_option linter.unusedSimpArgs false
set_option linter.unusedVariables false
set_option maxRecDepth 100000
set_option maxHeartbeats 4000000
namespace Pa
open Tb
theorem strB_inj {a b : List Int} (ha : Hu.BOk a) (hb : Hu.BOk b) (h : strB a = strB b) : a = b := by rw [← byS_strB ha, ← byS_strB hb, h]
theorem rsm_f {a b : List Int} {t : Bool} (ha : Hu.BOk a) (hb : Hu.BOk b) (ht : decide (a = b) = t) : (S0 Tryd.prog).call 46 [.v false 1 (cellsB a) (.y (ilen a)), .v false 1 (cellsB b) (.y (ilen b))] [] (fun x _ => Sub x (.b t)) := by
  generalize hF : cellsB a = F
  generalize hG : cellsB b = G
  obtain ⟨m, hm⟩ : ∃ m, m = ilen a := ⟨_, rfl⟩
  obtain ⟨n, hn⟩ : ∃ n, n = ilen b := ⟨_, rfl⟩
  rw [← hm, ← hn]
  obtain ⟨x, hx⟩ : ∃ x, strB a = x := ⟨_, rfl⟩
  obtain ⟨y, hy⟩ : ∃ x, strB b = x := ⟨_, rfl⟩
  generalize hS : S0 Tryd.prog = S
  refine call_in' hS I.fn_causeyref01_Same ?_
  cbv
  repeat' (first
    | (refine s_eqs hS rfl ?_; try cbv)
    | (refine s_ck hS ?_; try cbv)
    | (refine s_sbr hS ?_ ?_ <;> intro h <;> (try cbv) <;> try exact s_ab h)
    | (refine s_ad hS ?_; intro _ _; try cbv)
    | (refine s_sb hS ?_; intro _ _; try cbv)
    | (refine s_stl hS ?_; intro _ _; try cbv)
    | (refine s_stc hS ?_; try cbv)
    | (refine s_bsx hS ha hF hm hx ?_; cbv)
    | (refine s_bsx hS hb hG hn hy ?_; cbv)
    | (refine s_eqo hS ?_; try cbv)
    | (refine s_lk hS ?_; try cbv)
    | (refine s_mu hS ?_; try cbv)
    | fail)
  refine sub_b ?_
  subst hS
  show (x == y) = t
  rw [← ht, ← hx, ← hy]
  by_cases h : a = b
  · simp [h]
  · have : strB a ≠ strB b := fun e => h (strB_inj ha hb e)
    simp [h, this]
section
variable {S : Sy} {bl : List Blk} {K : SV → List Blk → Prop}
theorem rsm_u (hS : S0 Tryd.prog = S) {x y : SV} {a b : List Int} (hc : FzL bl id [] [x, y] [.v false 1 (cellsB a) (.y (ilen a)), .v false 1 (cellsB b) (.y (ilen b))]) (ha : Hu.BOk a) (hb : Hu.BOk b) (h1 : a = b → K .tt bl) (h2 : a ≠ b → K .ff bl) : S.call 46 [x, y] bl K := by
  by_cases h : a = b
  · exact use_tmp hS (call_lit (rsm_f ha hb (decide_eq_true h))) hc rfl rfl (h1 h)
  · exact use_tmp hS (call_lit (rsm_f ha hb (decide_eq_false h))) hc rfl rfl (h2 h)
theorem rsm_t (hS : S0 Tryd.prog = S) {x y : SV} {a : List Int} (hc : FzL bl id [] [x, y] [.v false 1 (cellsB a) (.y (ilen a)), .v false 1 (cellsB a) (.y (ilen a))]) (ha : Hu.BOk a) (hK : K .tt bl) : S.call 46 [x, y] bl K :=
  rsm_u hS hc ha ha (fun _ => hK) (fun h => absurd rfl h)
inductive ByC (bl : List Blk) : SV → List Int → Prop where
  | v {n : Z} {lit : Bool} {F : List SV} {b : List Int} (hF : cellsB b = F) (hn : n.v = ilen b) : ByC bl (.v lit 1 F n) b
  | nil : ByC bl (.re (.slice none 0 0)) []
  | row {n st : Z} {k : Nat} {lit : Bool} {cap : Option Z} {F : List SV} {b : List Int} (hB : lget bl k = .r false lit st 1 F) (hF : FSub F (cellsB b)) (hn : n.v = ilen b) : ByC bl (.sl k 1 (.l 0) n cap) b
theorem ByC.fz {x : SV} {b : List Int} (h : ByC bl x b) {g : Nat → Nat} : Fz bl g [] x (.v false 1 (cellsB b) (.y (ilen b))) := by
  cases h with
  | v hF hn => exact .sub (sub_v hF.symm hn) rfl
  | nil => exact .nil (by decide) rfl
  | @row n st k lit cap F b hB hF hn =>
    refine .row (lget_some hB (by simp)) rfl (.fsub ?_ (cellsB_plain _)) (cellsB_plain _) hn
    rw [show (Z.l 0).v.toNat * 1 = 0 from rfl, List.drop_zero, List.take_of_length_le]
    · exact hF
    · have h1 := hF.1
      have h2 := cellsB_len b
      unfold ilen at *
      omega
theorem ByC.two {x y : SV} {a b : List Int} (h : ByC bl x a) (h' : ByC bl y b) {g : Nat → Nat} : FzL bl g [] [x, y] [.v false 1 (cellsB a) (.y (ilen a)), .v false 1 (cellsB b) (.y (ilen b))] := .cons h.fz (.cons h'.fz .nil)
end
section
variable {S : Sy} {bl : List Blk} {K : SV → List Blk → Prop}
theorem use_frz_l (hS : S0 Tryd.prog = S) (fs : List Nat) {g : FuncId} {args args' : List SV} {y y' : SV} (hF : (S0 Tryd.prog).call g args' [] (Tell y)) (ha : FzL bl id (others fs (len bl)) args args') (hr : refsBL (fun _ => false) args' = true) (hy : Sub y y') (hK : K y' (frzL fs 0 bl)) : S.call g args bl K := by
  subst hS
  exact call_post (use_frz rfl fs (rows := []) (y := fun _ => y) (call_post hF fun x l' h => ⟨x, .rfl, [], trivial, fun m => h _⟩) ha hr trivial (K := fun x l' => x = y ∧ l' = frzL fs 0 bl) (fun _ => ⟨rfl, rfl⟩)) fun x l' h => ⟨y', h.1 ▸ hy, h.2 ▸ hK⟩
variable {mx n m : Int} {l l' q : List Tb.Fd} {a b : List UInt8} {L : List Int} {F R : List SV} {args : List SV}
theorem pv_l (hF : cellsB L = F) (hn : ilen L = n) (hRr : cellsF l' = R) (hm : ilen l' = m) : Sub (.tp [.v false 1 (cellsB L) (.y (ilen L)), .ag [.i .i64 (.y mx), .v false 2 (cellsF l') (.y (ilen l'))], .i .i64 (.y 0)]) (.tp [.v true 1 F (.l n), .ag [.i .i64 (.l mx), .v true 2 R (.l m)], .i .i64 (.l 0)]) :=
  sub_tp (.cons (sub_v hF hn) (.cons (sub_ag (.cons (sub_i rfl) (.cons (sub_v hRr hm) .nil))) (.cons (sub_i rfl) .nil)))
theorem block_l (hS : S0 Tryd.prog = S) (fs : List Nat) (ha : FzL bl id (others fs (len bl)) args [tabV mx l, .v false 2 (cellsF q) (.y (ilen q))]) (hR : rightL mx l = true) (hL : blockB mx l q = L) (hl : blockL mx l q = l') (hF : cellsB L = F) (hn : ilen L = n) (hRr : cellsF l' = R) (hm : ilen l' = m)
    (hq : fullL q ≤ 60000) (hK : K (.tp [.v true 1 F (.l n), .ag [.i .i64 (.l mx), .v true 2 R (.l m)], .i .i64 (.l 0)]) (frzL fs 0 bl)) : S.call 40 args bl K :=
  use_frz_l hS fs (block_f hR hL hl rfl rfl rfl rfl hq) ha rfl (pv_l hF hn hRr hm) hK
theorem block_el (hS : S0 Tryd.prog = S) (fs : List Nat) (ha : FzL bl id (others fs (len bl)) args [tabV mx l, .v false 2 (cellsF q) (.y (ilen q))]) (hR : rightL mx l = false) (hb : fullL l ≤ 10000000) (hK : K (.tp [.v true 1 [] (.l 0), .ag [.i .i64 (.l 0), .v true 2 [] (.l 0)], .i .i64 (.l 2)]) (frzL fs 0 bl)) : S.call 40 args bl K :=
  use_frz_l hS fs (block_e hR hb) ha rfl (y' := .tp [.v true 1 [] (.l 0), .ag [.i .i64 (.l 0), .v true 2 [] (.l 0)], .i .i64 (.l 2)]) (sub_tp (.cons (sub_v rfl rfl) (.cons (sub_ag (.cons (sub_i rfl) (.cons (sub_v rfl rfl) .nil))) (.cons (sub_i rfl) .nil)))) hK
theorem field_l (hS : S0 Tryd.prog = S) (fs : List Nat) (ha : FzL bl id (others fs (len bl)) args [tabV mx l, .ag [.s a, .s b]]) (hR : rightL mx l = true) (hL : fieldB mx l (a, b) = L) (hl : fieldL mx l (a, b) = l') (hF : cellsB L = F) (hn : ilen L = n) (hRr : cellsF l' = R) (hm : ilen l' = m)
    (hab : ilen a + ilen b ≤ 60000) (hK : K (.tp [.v true 1 F (.l n), .ag [.i .i64 (.l mx), .v true 2 R (.l m)], .i .i64 (.l 0)]) (frzL fs 0 bl)) : S.call 44 args bl K :=
  use_frz_l hS fs (field_f hR hL hl rfl rfl rfl rfl hab) ha rfl (pv_l hF hn hRr hm) hK
theorem sized_l (hS : S0 Tryd.prog = S) (fs : List Nat) {most : Int} (ha : FzL bl id (others fs (len bl)) args [tabV mx l, .i .i64 (.y most), .v false 2 (cellsF q) (.y (ilen q))]) (hR : rightL mx l = true) (h0 : 0 ≤ most) (h1 : most ≤ 4096) (hL : sizB most ++ blockB most (evL most l) q = L) (hl : blockL most (evL most l) q = l') (hF : cellsB L = F) (hn : ilen L = n) (hRr : cellsF l' = R) (hm : ilen l' = m)
    (hq : fullL q ≤ 60000) (hK : K (.tp [.v true 1 F (.l n), .ag [.i .i64 (.l most), .v true 2 R (.l m)], .i .i64 (.l 0)]) (frzL fs 0 bl)) : S.call 42 args bl K :=
  use_frz_l hS fs (sized_f hR h0 h1 hL hl rfl rfl rfl rfl hq) ha rfl (pv_l hF hn hRr hm) hK
end
abbrev fget : Tb.Fd := ([58, 109, 101, 116, 104, 111, 100], [71, 69, 84])
theorem tab_fz {bl : List Blk} {g : Nat → Nat} {ks : List (Option Nat)} {z n : Z} {lit : Bool} {F : List SV} {mx : Int} {l : List Tb.Fd} (hz : z.v = mx) (hF : cellsF l = F) (hn : n.v = ilen l) : Fz bl g ks (.ag [.i .i64 z, .v lit 2 F n]) (tabV mx l) :=
  .ag (.cons (.sub (sub_i hz) rfl) (.cons (.sub (sub_v hF.symm hn) rfl) .nil))
theorem tab_fzn {bl : List Blk} {g : Nat → Nat} {ks : List (Option Nat)} {z : Z} {mx : Int} (hz : z.v = mx) : Fz bl g ks (.ag [.i .i64 z, .re (.slice none 0 0)]) (tabV mx []) :=
  .ag (.cons (.sub (sub_i hz) rfl) (.cons (.sub (sub_nv (by decide) rfl rfl) rfl) .nil))
theorem wakes_f : (S0 Tryd.prog).call 39 [] [] (fun y _ => Sub y .tt) := by
  generalize hS : S0 Tryd.prog = S
  refine call_in' hS I.fn_causeylaw11_wakes ?_
  cbv
  refine block_l hS [2] (mx := 100) (l := []) (q := [fget, fa, fa]) (L := [129, 64, 1, 97, 1, 49, 149]) (l' := [fa]) (.cons (tab_fzn rfl) (.cons (fz_row (lget_some rfl (by simp)) rfl rfl rfl rfl) .nil)) (by decide +kernel) (by decide +kernel) (by decide +kernel) rfl rfl rfl rfl (by decide +kernel) ?_
  cbv
  refine field_l hS [] (mx := 100) (l := []) (a := ckN) (b := [49]) (L := [29, 1, 49]) (l' := []) (.cons (tab_fzn rfl) (.cons (.sub .rfl rfl) .nil)) (by decide +kernel) (by decide +kernel) (by decide +kernel) rfl rfl rfl rfl (by decide +kernel) ?_
  cbv
  refine block_el hS [] (mx := -1) (l := []) (q := []) (.cons (tab_fzn rfl) (.cons (.nil (by decide) rfl) .nil)) (by decide +kernel) (by decide +kernel) ?_
  cbv
  refine sized_l hS [6] (mx := 100) (l := [fa]) (most := 0) (q := [fa]) (L := [32, 0, 1, 97, 1, 49]) (l' := []) (.cons (tab_fz rfl rfl rfl) (.cons (.sub (sub_i rfl) rfl) (.cons (fz_row (lget_some rfl (by simp)) rfl rfl rfl rfl) .nil))) (by decide +kernel) (by decide) (by decide) (by decide +kernel) (by decide +kernel) rfl rfl rfl rfl (by decide +kernel) ?_
  cbv
  refine rsm_t hS (a := [129, 64, 1, 97, 1, 49, 149]) (ByC.two (.v (b := [129, 64, 1, 97, 1, 49, 149]) rfl rfl) (.row (b := [129, 64, 1, 97, 1, 49, 149]) rfl ?_ rfl)) (by intro v hv; simp at hv; omega) ?_
  · exact SubL.fsub (by repeat' (first | exact SubL.nil | refine SubL.cons (sub_i rfl) ?_))
  cbv
  refine rsame_t hS (mx := 100) (l := [fa]) (.v rfl rfl rfl) (.row (l0 := [fa]) rfl rfl rfl rfl rfl) (by decide) ?_
  cbv
  refine rsm_t hS (a := [29, 1, 49]) (ByC.two (.v (b := [29, 1, 49]) rfl rfl) (.row (b := [29, 1, 49]) rfl ?_ rfl)) (by intro v hv; simp at hv; omega) ?_
  · exact SubL.fsub (by repeat' (first | exact SubL.nil | refine SubL.cons (sub_i rfl) ?_))
  cbv
  refine rsm_t hS (a := [32, 0, 1, 97, 1, 49]) (ByC.two (.v (b := [32, 0, 1, 97, 1, 49]) rfl rfl) (.row (b := [32, 0, 1, 97, 1, 49]) rfl ?_ rfl)) (by intro v hv; simp at hv; omega) ?_
  · exact SubL.fsub (by repeat' (first | exact SubL.nil | refine SubL.cons (sub_i rfl) ?_))
  cbv
  refine use_val hS (call_lit (secret_f (a := ckN) (b := []) (decide_eq_true rfl))) .rfl rfl rfl ?_
  cbv
  refine use_val hS (call_lit (secret_f (a := [97]) (b := [49]) (t := false) (by decide))) .rfl rfl rfl ?_
  cbv
  exact .rfl
theorem wakes_u {S : Sy} {bl : List Blk} {K : SV → List Blk → Prop} (hS : S0 Tryd.prog = S) (hK : K .tt bl) : S.call 39 [] bl K := use_val hS wakes_f .rfl rfl rfl hK
theorem great_f {mx : Int} {l q : List Tb.Fd} {t : Bool} (ht : decide ((140 < ilen l ∨ 5000 < fullL l - 32 * ilen l) ∨ (140 < ilen q ∨ 5000 < fullL q - 32 * ilen q) ∨ 40 < ilen q) = t) (hs : shortL l) (hm0 : ilen l ≤ 140737488355328) (hs2 : shortL q) (hm2 : ilen q ≤ 140737488355328) :
    (S0 Tryd.prog).call 38 [tabV mx l, .v false 2 (cellsF q) (.y (ilen q))] [] (fun y _ => Sub y (.b t)) := by
  unfold tabV
  generalize hF : cellsF l = F
  obtain ⟨m, hm⟩ : ∃ m, m = ilen l := ⟨_, rfl⟩
  generalize hG : cellsF q = G
  obtain ⟨n, hn⟩ : ∃ m, m = ilen q := ⟨_, rfl⟩
  rw [← hm, ← hn]
  generalize hS : S0 Tryd.prog = S
  refine call_in' hS I.fn_causeylaw11_great ?_
  cbv
  refine great_u hS (l := l) (.cons (.sub (sub_v hF.symm hm) rfl) .nil) hs hm0 (fun hg => ?_) (fun hg1 hg2 => ?_) <;> cbv
  · refine sub_tt ?_
    rw [← ht]; exact decide_eq_true (.inl hg)
  refine great_u hS (l := q) (.cons (.sub (sub_v hG.symm hn) rfl) .nil) hs2 hm2 (fun hg => ?_) (fun hg3 hg4 => ?_) <;> cbv
  · refine sub_tt ?_
    rw [← ht]; exact decide_eq_true (.inr (.inl hg))
  repeat' (first
    | (refine s_eqs hS rfl ?_; try cbv)
    | (refine s_ck hS ?_; try cbv)
    | (refine s_sbr hS ?_ ?_ <;> intro h <;> (try cbv) <;> try exact s_ab h)
    | (refine s_ad hS ?_; intro _ _; try cbv)
    | (refine s_sb hS ?_; intro _ _; try cbv)
    | (refine s_stl hS ?_; intro _ _; try cbv)
    | (refine s_stc hS ?_; try cbv)
    | (refine s_eqo hS ?_; try cbv)
    | (refine s_lk hS ?_; try cbv)
    | (refine s_mu hS ?_; try cbv)
    | fail)
  refine sub_b ?_
  subst hS
  show decide (40 < n) = t
  rw [← ht]
  exact decide_eq_decide.2 ⟨fun h => .inr (.inr (hn ▸ h)), fun h => by omega⟩
section
variable {S : Sy} {bl : List Blk} {K : SV → List Blk → Prop} {cs : List SV} {mx : Int} {l q : List Tb.Fd} {x : SV}
theorem pgreat_u (hS : S0 Tryd.prog = S) (hc : FzL bl id [] [.ag cs, x] [tabV mx l, .v false 2 (cellsF q) (.y (ilen q))]) (hs : shortL l) (hm0 : ilen l ≤ 140737488355328) (hs2 : shortL q) (hm2 : ilen q ≤ 140737488355328)
    (h1 : K .tt bl) (h2 : ilen l ≤ 140 → fullL l ≤ 5000 + 32 * ilen l → ilen q ≤ 40 → fullL q ≤ 5000 + 32 * ilen q → K .ff bl) : S.call 38 [.ag cs, x] bl K := by
  by_cases h : (140 < ilen l ∨ 5000 < fullL l - 32 * ilen l) ∨ (140 < ilen q ∨ 5000 < fullL q - 32 * ilen q) ∨ 40 < ilen q
  · exact use_tmp hS (call_lit (great_f (decide_eq_true h) hs hm0 hs2 hm2)) hc rfl rfl h1
  · exact use_tmp hS (call_lit (great_f (decide_eq_false h) hs hm0 hs2 hm2)) hc rfl rfl (h2 (by omega) (by omega) (by omega) (by omega))
end
end Pa
end Cz
namespace Cz
open Go Go.RowKit Go.Proofs
set_option linter.unusedSimpArgs false
set_option linter.unusedVariables false
namespace Tb
theorem op_i {svs : List SV} (h : pkVs [.i .i64] svs) : ∃ n, svs = [.i .i64 (.y n)] ∧ -9223372036854775808 ≤ n ∧ n ≤ 9223372036854775807 := by
  obtain ⟨x, rfl, h'⟩ := pkVs_one h
  simp only [pkV] at h'
  obtain ⟨n, rfl, h1, h2⟩ := h'
  exact ⟨n, rfl, h1, h2⟩
theorem op_fd' {svs : List SV} (h : pkVs [.s, .s] svs) : ∃ f : Fd, svs = fdE f ∧ ilen f.1 ≤ 140737488355328 ∧ ilen f.2 ≤ 140737488355328 := by
  match svs, h with
  | [], h => simp [pkVs] at h
  | [_], h => simp [pkVs] at h
  | _ :: _ :: _ :: _, h => simp [pkVs] at h
  | [x, y], h =>
    simp only [pkVs, pkV] at h
    obtain ⟨⟨a, rfl, ha⟩, ⟨b, rfl, hb⟩, _⟩ := h
    exact ⟨(a, b), rfl, ha, hb⟩
theorem op_fds' {x : SV} (h : pkV (.sl [.s, .s]) x) : ∃ l : List Fd, x = .v false 2 (cellsF l) (.y (ilen l)) ∧ ilen l ≤ 140737488355328 ∧ shortL l := by
  obtain ⟨l, h1, h2, h3⟩ := pk_rows (ec := fdE) (good := fun f => ilen f.1 ≤ 140737488355328 ∧ ilen f.2 ≤ 140737488355328) (fun svs h => op_fd' h) h
  exact ⟨l, h1, h2, h3⟩
theorem op_fds {svs : List SV} (h : pkVs [.sl [.s, .s]] svs) : ∃ l : List Fd, svs = [.v false 2 (cellsF l) (.y (ilen l))] ∧ ilen l ≤ 140737488355328 ∧ shortL l := by
  obtain ⟨x, rfl, h'⟩ := pkVs_one h
  obtain ⟨l, rfl, h1, h2⟩ := op_fds' h'
  exact ⟨l, rfl, h1, h2⟩
theorem op_tab {svs : List SV} (h : pkVs [.i .i64, .sl [.s, .s]] svs) : ∃ mx l, svs = [.i .i64 (.y mx), .v false 2 (cellsF l) (.y (ilen l))] ∧ -9223372036854775808 ≤ mx ∧ mx ≤ 9223372036854775807 ∧ ilen l ≤ 140737488355328 ∧ shortL l := by
  match svs, h with
  | [], h => simp [pkVs] at h
  | [_], h => simp [pkVs] at h
  | _ :: _ :: _ :: _, h => simp [pkVs] at h
  | [x, y], h =>
    simp only [pkVs] at h
    obtain ⟨h1, h2, _⟩ := h
    simp only [pkV] at h1
    obtain ⟨n, rfl, h3, h4⟩ := h1
    obtain ⟨l, rfl, h5, h6⟩ := op_fds' h2
    exact ⟨n, l, rfl, h3, h4, h5, h6⟩
end Tb
end Cz
