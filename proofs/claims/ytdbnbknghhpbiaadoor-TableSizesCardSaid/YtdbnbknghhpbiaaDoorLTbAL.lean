/- A table of another size has the newest fields that fit, and no fewer: the law TableSizes returns true for every input. No condition. -/
import Derived.Test.YtdbnbknghhpbiaaDoorKTb6
import Derived.LaidMore
import Derived.Lay
import Derived.SevenTiedAt
import Derived.Stop.Joined
import Derived.Test.YtdbnbknghhpbiaaDoorRows
import Derived.Test.YtdbnbknghhpbiaaDoorCards
import Derived.Test.YtdbnbknghhpbiaaDoorTie
namespace Cz
open Go Go.RowKit Go.Proofs
set_option linter.unusedSimpArgs false
set_option linter.unusedVariables false
set_option maxRecDepth 100000
set_option maxHeartbeats 4000000
namespace Tb
theorem sizes_f {mx most : Int} {l : List Fd} (hs : shortL l) (hm0 : ilen l ≤ 140737488355328) : (S0 Tryd.prog).call 5 [tabV mx l, .i .i64 (.y most)] [] (fun y _ => Sub y .tt) := by
  unfold tabV
  generalize hF : cellsF l = F
  obtain ⟨m, hm⟩ : ∃ m, m = ilen l := ⟨_, rfl⟩
  have h0 := ilen_nn l
  have hlen := fullL_len l
  rw [← hm] at h0 ⊢
  generalize hS : S0 Tryd.prog = S
  refine call_in' hS I.fn_causeylaw09_TableSizes ?_
  cbv
  refine great_u hS (.cons (.sub (sub_v hF.symm hm) rfl) .nil) hs hm0 (fun hg => ?_) (fun hg1 hg2 => ?_) <;> cbv
  · refine wakes_u hS ?_
    cbv
    exact .rfl
  refine rright_u hS (.v (z := .y mx) (n := .y m) rfl hF hm) (by omega) (fun hR => ?_) (fun hR => ?_) <;> cbv <;> dsimp only [Z.v] at *
  rotate_left
  · refine wakes_u hS ?_
    cbv
    exact .rfl
  refine res_u hS (.v (z := .y mx) (n := .y m) rfl hF hm) (by omega) fun mx' l' e F' n' hr hF' hn' => ?_
  dsimp only [Z.v] at hr
  have hb := of_decide_eq_true hR
  cbv
  refine s_sbr hS ?_ ?_ <;> intro h <;> cbv
  · unfold resR at hr
    rw [if_neg (by intro h'; omega)] at hr
    cases hr
    replace hn' : n' = 0 := hn'
    repeat' (first
      | (refine s_st hS ?_; try cbv)
      | (refine s_sbr hS ?_ ?_ <;> intro h <;> (try cbv) <;> try exact s_ab h)
      | (refine s_sta hS ?_; intro _ _; try cbv)
      | (refine s_stc hS ?_; try cbv)
      | (refine s_stl hS ?_; intro _ _; try cbv)
      | (refine s_chl hS ?_; try cbv)
      | (refine wakes_u hS ?_; cbv)
      | fail)
    all_goals exact .rfl
  refine s_br hS ?_ ?_ <;> intro h' <;> cbv <;> simp only [← hS, Int.ofNat_eq_natCast, cq, Bool.not_eq_true', Bool.not_eq_false', decide_eq_true_eq, decide_eq_false_iff_not, beq_iff_eq, beq_eq_false_iff_ne, ne_eq] at h'
  · unfold resR at hr
    rw [if_neg (by intro h'; omega)] at hr
    cases hr
    replace hn' : n' = 0 := hn'
    repeat' (first
      | (refine s_st hS ?_; try cbv)
      | (refine s_sbr hS ?_ ?_ <;> intro h <;> (try cbv) <;> try exact s_ab h)
      | (refine s_sta hS ?_; intro _ _; try cbv)
      | (refine s_stc hS ?_; try cbv)
      | (refine s_stl hS ?_; intro _ _; try cbv)
      | (refine s_chl hS ?_; try cbv)
      | (refine wakes_u hS ?_; cbv)
      | fail)
    all_goals exact .rfl
  unfold resR at hr
  rw [if_pos ⟨hR, by omega, by omega⟩] at hr
  obtain ⟨L, hL⟩ : ∃ L, evL most l = L := ⟨_, rfl⟩
  dsimp only at hr
  rw [hL] at hr
  cases hr
  have he := evL_len most l
  have hf := evL_full most l
  have hri := right_ev (mx := most) (l := l) (by omega) (by omega)
  have htk := evL_take most l
  rw [hL] at he hf hri htk
  have hn0 := ilen_nn l'
  rw [← hn'] at htk he hn0
  have hlen' := fullL_len l'
  refine s_draw hS rfl I.ord_causeylaw09_TableSizes_0 (by decide +kernel) ?_
  cbv
  repeat' (first
    | (refine s_st hS ?_; try cbv)
    | (refine s_sbr hS ?_ ?_ <;> intro h <;> (try cbv) <;> try exact s_ab h)
    | (refine s_sta hS ?_; intro _ _; try cbv)
    | (refine s_stc hS ?_; try cbv)
    | (refine s_stl hS ?_; intro _ _; try cbv)
    | (refine s_chl hS ?_; try cbv)
    | (refine And.intro rfl ?_; try cbv)
    | fail)
  refine fields_u hS (l := l') (k := l') (.cons (.sub (sub_v hF'.symm hn') rfl) (.cons (.sub (sub_v ?_ hn') rfl) .nil)) (by omega) (by omega) (fun _ => ?_) (fun e => ?_)
  · subst hS
    show ((F.drop ((0 : Int).toNat * 2)).take (n'.toNat * 2)) = cellsF l'
    rw [← hF, show (0 : Int).toNat * 2 = 0 from rfl, List.drop_zero, cells_take, ← htk]
  rotate_left
  · cbv
    exact absurd rfl e
  cbv
  repeat' (first
    | (refine s_st hS ?_; try cbv)
    | (refine s_sbr hS ?_ ?_ <;> intro h <;> (try cbv) <;> try exact s_ab h)
    | (refine s_sta hS ?_; intro _ _; try cbv)
    | (refine s_stc hS ?_; try cbv)
    | (refine s_stl hS ?_; intro _ _; try cbv)
    | (refine s_chl hS ?_; try cbv)
    | (refine And.intro rfl ?_; try cbv)
    | fail)
  refine rright_u hS (.v (z := .y most) (n := .y n') rfl hF' hn') (by omega) (fun _ => ?_) (fun e => ?_) <;> cbv
  rotate_left
  · rw [show (Z.y most).v = most from rfl, hri] at e; cases e
  repeat' (first
    | (refine s_st hS ?_; try cbv)
    | (refine s_sbr hS ?_ ?_ <;> intro h <;> (try cbv) <;> try exact s_ab h)
    | (refine s_sta hS ?_; intro _ _; try cbv)
    | (refine s_stc hS ?_; try cbv)
    | (refine s_stl hS ?_; intro _ _; try cbv)
    | (refine s_chl hS ?_; try cbv)
    | (refine And.intro rfl ?_; try cbv)
    | fail)
  refine res_u hS (.v (z := .y mx) (n := .y m) rfl hF hm) (by omega) fun mx2 l2 e2 F2 n2 hr2 hF2 hn2 => ?_
  dsimp only [Z.v] at hr2
  unfold resR at hr2
  rw [if_pos ⟨hR, hb.1, hb.2.1⟩] at hr2
  dsimp only at hr2
  rw [evL_all hb.2.2] at hr2
  cbv
  cases hr2
  refine s_sbr hS ?_ ?_ <;> intro h <;> cbv
  · repeat' (first
    | (refine s_st hS ?_; try cbv)
    | (refine s_sbr hS ?_ ?_ <;> intro h <;> (try cbv) <;> try exact s_ab h)
    | (refine s_sta hS ?_; intro _ _; try cbv)
    | (refine s_stc hS ?_; try cbv)
    | (refine s_stl hS ?_; intro _ _; try cbv)
    | (refine s_chl hS ?_; try cbv)
    | fail)
    refine rsame_u hS (.v (z := .y mx) (n := .y n2) rfl hF2 hn2) (.v (z := .y mx) (n := .y m) rfl hF hm) (by omega) (by omega) (fun _ _ => ?_) (fun e => ?_) <;> cbv
    · refine wakes_u hS ?_
      cbv
      exact .rfl
    · exact absurd ⟨rfl, rfl⟩ e
  · have hmo := ev_more hL hn' (by omega)
    have hft := full_take l (n' + 1).toNat
    repeat' (first
      | (refine s_st hS ?_; try cbv)
      | (refine s_sbr hS ?_ ?_ <;> intro h <;> (try cbv) <;> try exact s_ab h)
      | (refine s_sta hS ?_; intro _ _; try cbv)
      | (refine s_stc hS ?_; try cbv)
      | (refine s_stl hS ?_; intro _ _; try cbv)
      | (refine s_chl hS ?_; try cbv)
      | fail)
    rename_i r hr'
    rw [← hr'] at hmo hft
    have hsub : cellsF (l.take r.toNat) = S.sub F 0 r 2 := by
      subst hS
      show _ = ((F.drop ((0 : Int).toNat * 2)).take (r.toNat * 2))
      rw [← hF, show (0 : Int).toNat * 2 = 0 from rfl, List.drop_zero, cells_take]
    refine rfull_u hS (mx := 0) (l := l.take r.toNat) (.v (z := .l 0) (n := .y r) rfl hsub (by simp only [Z.v, ilen, List.length_take]; unfold ilen at hm; omega)) (by omega) fun f hf' => ?_
    rw [← hf'] at hmo
    cbv
    repeat' (first
      | (refine s_st hS ?_; try cbv)
      | (refine s_sbr hS ?_ ?_ <;> intro h <;> (try cbv) <;> try exact s_ab h)
      | (refine s_sta hS ?_; intro _ _; try cbv)
      | (refine s_stc hS ?_; try cbv)
      | (refine s_stl hS ?_; intro _ _; try cbv)
      | (refine s_chl hS ?_; try cbv)
      | fail)
    refine rsame_u hS (.v (z := .y mx) (n := .y n2) rfl hF2 hn2) (.v (z := .y mx) (n := .y m) rfl hF hm) (by omega) (by omega) (fun _ _ => ?_) (fun e => ?_) <;> cbv
    · refine wakes_u hS ?_
      cbv
      exact .rfl
    · exact absurd ⟨rfl, rfl⟩ e
end Tb
end Cz
namespace Go.Proofs.YtdbnbknghhpbiaaDoor
open Go Cz Go.ChangeShapes Go.WideShapes Go.ChangeAt Go.RowKit
set_option linter.unusedSimpArgs false
set_option linter.unusedVariables false
theorem own : ownKnob Tryd.prog.godebug = Option.none := by kernel_rfl
theorem laidOut : laidOutB Tryd.prog = true := by kernel_rfl
theorem pk_tab : pks Tryd.prog 4 24 = some [.i .i64, .sl [.s, .s]] := by kernel_rfl
theorem pk_i : pks Tryd.prog 4 3 = some [.i .i64] := by kernel_rfl
set_option maxRecDepth 100000 in
theorem sizes_lifted (os : Os) (started : os.Started) (H : Type) (enc : TypeId × Value → H) :
    ReturnsInHanded {} Tryd.checked os 5 .any (fun w args => (Rows.tableSizesSpec.pre enc Tryd.prog Tryd.f5 Rows.tableSizesRow.domain false w args ∧ laidMetH Tryd.prog Rows.tableSizesRow.laid w) ∧ sizedMet enc Tryd.prog Tryd.f5 (OpenSpec.ofChange Rows.tableSizesSpec) false w args)
      (Rows.tableSizesSpec.post enc Tryd.prog Tryd.f5 false true false false) := by
  refine returnsInHanded_of_change_and (C := Tryd.checked) (X := fun w _ => laidMetH Tryd.prog Rows.tableSizesRow.laid w) (fun _ _ _ hh h => h.of_heap hh) own started (by kernel_rfl) Tryd.func5
    (ChangeSpec.witness_shaped (enc := enc) (C := Tryd.checked) (os := os) (X := fun w _ => laidMetH Tryd.prog Rows.tableSizesRow.laid w) false (World.laidAll Tryd.prog os Rows.tableSizesRow.laid) #[.agg #[.int .i64 0, .slice none 0 0], .int .i64 0] 8 (World.laidAll_os _ _ _)
      (World.shaped_of_ZipB (by kernel_rfl) (by kernel_rfl)) (by kernel_rfl) (by kernel_rfl) (by kernel_rfl)
      (by rw [MakeChecks.laidMetH_plain _ _ _ (by kernel_rfl)]; exact laidMet_laidAll _ (by kernel_rfl) (by kernel_rfl))) ?_
  intro W base args ds gs before hval0 hW _ hsz _ _
  have hval : ∀ (j : Nat) t v, Tryd.f5.params[j]? = some t → args[j]? = some v → Value.okWide Tryd.prog W .any base t v := hval0
  have hW' := hW
  obtain ⟨p, q, hA0, hV, hbef, hfz, hnd⟩ := hW
  have hA : DataW.TrodAll enc Tryd.prog W 0 (fun _ => true) true Tryd.f5.params.toList args.toList ds p := hA0
  rw [Tryd.params5] at hA hval
  obtain ⟨v0, vs0, d0, ds0, p0, q0, hargs, rfl, rfl, h0, r0⟩ := trodAll_cons hA
  obtain ⟨v1, vs1, d1, ds1, p1, q1, rfl, rfl, rfl, h1, r1⟩ := trodAll_cons r0
  obtain ⟨rfl, rfl, rfl⟩ := trodAll_nil r1
  obtain rfl : args = #[v0, v1] := by cases args; simp_all
  obtain ⟨rfl, rfl⟩ := trodVars_none hV
  obtain ⟨c0, rfl, _⟩ := okWide_struct Tryd.underlying24 (hval 0 24 v0 rfl rfl)
  obtain ⟨fu0, hf0⟩ := h0
  obtain ⟨c1, rfl⟩ := okWide_int Tryd.underlying3 (hval 1 3 v1 rfl rfl)
  obtain ⟨fu1, hf1⟩ := h1
  obtain ⟨s0, hk0, hd0⟩ := open_any 4 24 _ fu0 _ _ pk_tab hf0 fun n hn => of_decide_eq_true (List.all_eq_true.1 hsz n (DataW.weights_mem_each (j := 0) (by kernel_rfl) (by first | rfl | simp) n hn))
  obtain ⟨mx, l, rfl, lo_mx, hi_mx, hl_l, hs_l⟩ := Tb.op_tab hk0
  obtain ⟨s1, hk1, hd1⟩ := open_any 4 3 _ fu1 _ _ pk_i hf1 fun n hn => of_decide_eq_true (List.all_eq_true.1 hsz n (DataW.weights_mem_each (j := 1) (by kernel_rfl) (by first | rfl | simp) n hn))
  obtain ⟨most, rfl, lo_most, hi_most⟩ := Tb.op_i hk1
  have hd' : denL (nmW W) [Tb.tabV mx l, .i .i64 (.y most)] [Value.agg c0, Value.int .i64 c1] := by
    simp only [denL]
    exact ⟨(by simp only [Tb.tabV, den]; exact ⟨c0, rfl, hd0⟩), denL_one hd1, trivial⟩
  refine (law_calls I.fn_causeylaw09_TableSizes (Tb.sizes_f hs_l hl_l) hd').mono fun e W' ⟨he, hb⟩ => ?_
  subst he
  exact ⟨_, rfl, post_law laidOut hW' rfl (by kernel_rfl) rfl Tryd.underlying4 rfl hb⟩
theorem sizes_row : Rows.TableSizesSaid :=
  OpenClaim.holds_of_wide 5 Tryd.f5 rfl rfl rfl rfl rfl rfl rfl ⟨rfl, rfl, rfl, rfl, rfl⟩ rfl rfl rfl rfl rfl (by kernel_rfl) Tryd.func5 (by kernel_rfl)
    (of_decide_eq_true (by kernel_rfl)) (by unfold Func.isWrapper; first | (rw [if_pos (by decide +kernel)]; kernel_rfl) | (rw [if_neg (by decide +kernel)]; exact ⟨rfl, rfl⟩))
    (fun os started H enc _ => sizes_lifted os started H enc)
theorem sizes_holds : Rows.TableSizesCardSaid :=
  Claim7.holds_tied_plain_at .later [] _ _ _ _ sizes_row (fun _ h => by cases h) (by kernel_rfl) (fun _ h => by cases h) tableSizes_row_tie rfl ⟨rfl, rfl⟩ (by kernel_rfl) rfl
    (fun f fn hf hfn => by
      obtain rfl : f = 5 := Option.some.inj ((show Tryd.prog.funcNamed "causey/causeylaw09.TableSizes" = some 5 by kernel_rfl).symm.trans hf) |>.symm
      obtain rfl : fn = Tryd.f5 := (Option.some.inj (Tryd.func5.symm.trans hfn)).symm
      exact ⟨by kernel_rfl, fun j t ht => by
        rw [Tryd.params5] at ht
        have hm : t ∈ [24, 3] := by simpa using Array.mem_of_getElem? ht
        have hall : ([24, 3].all fun u => !Tryd.prog.wantsStandIn u) = true := by kernel_rfl
        exact (show Tryd.prog.wantsStandIn t = false by simpa using List.all_eq_true.1 hall t hm)⟩)
    (by kernel_rfl)
#print axioms sizes_holds
end Go.Proofs.YtdbnbknghhpbiaaDoor
