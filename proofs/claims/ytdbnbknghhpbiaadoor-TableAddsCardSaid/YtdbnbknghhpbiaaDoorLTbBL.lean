/- What was added is the newest one, if it fits, and all others are as they stood: the law TableAdds returns true for every input. No condition. -/
import Derived.Test.YtdbnbknghhpbiaaDoorKTb6
import Derived.LaidMore
import Derived.Lay
import Derived.SevenTiedAt
import Derived.Stop.Joined
import Derived.Test.YtdbnbknghhpbiaaDoorRows
import Derived.Test.YtdbnbknghhpbiaaDoorCards
import Derived.Test.YtdbnbknghhpbiaaDoorTie
namespace Cz
open Go Go.RowKit Go.Proofs
set_option linter.unusedSimpArgs false
set_option linter.unusedVariables false
set_option maxRecDepth 100000
set_option maxHeartbeats 4000000
namespace Tb
theorem adds_f {mx : Int} {l : List Fd} {a b : List UInt8} (hs : shortL l) (hm0 : ilen l ≤ 140737488355328) (hs1 : shortL [(a, b)]) : (S0 Tryd.prog).call 4 [tabV mx l, .ag [.s a, .s b]] [] (fun y _ => Sub y .tt) := by
  unfold tabV
  generalize hF : cellsF l = F
  obtain ⟨m, hm⟩ : ∃ m, m = ilen l := ⟨_, rfl⟩
  have h0 := ilen_nn l
  have hlen := fullL_len l
  have hsz1 : fullL [(a, b)] = szF (a, b) := by simp [fullL]
  rw [← hm] at h0 ⊢
  have hfl : ilen F = m * 2 := by rw [← hF, hm]; have := cellsF_len l; unfold ilen; omega
  generalize hS : S0 Tryd.prog = S
  refine call_in' hS I.fn_causeylaw09_TableAdds ?_
  cbv
  refine great_u hS (.cons (.sub (sub_v hF.symm hm) rfl) .nil) hs hm0 (fun hg => ?_) (fun hg1 hg2 => ?_) <;> cbv
  · refine wakes_u hS ?_
    cbv
    exact .rfl
  refine great_u hS (l := [(a, b)]) (.cons (row_tab (l := [(a, b)]) (m := 1) (n := .y 1) (lget_some rfl (by simp)) rfl rfl rfl rfl) .nil) hs1 (by rw [show ilen [(a, b)] = 1 from rfl]; omega) (fun hg => ?_) (fun hg3 hg4 => ?_) <;> cbv
  · refine wakes_u hS ?_
    cbv
    exact .rfl
  rw [hsz1, show ilen [(a, b)] = 1 from rfl] at hg4
  have hsz0 := szF_pos (a, b)
  refine rright_u hS (.v (z := .y mx) (n := .y m) rfl hF hm) (by omega) (fun hR => ?_) (fun hR => ?_) <;> cbv <;> dsimp only [Z.v] at *
  rotate_left
  · refine wakes_u hS ?_
    cbv
    exact .rfl
  refine add_u hS (.v (z := .y mx) (n := .y m) rfl hF hm) (by omega) (by omega) fun mx' l' e F' n' hr hF' hn' => ?_
  cbv
  have hb := of_decide_eq_true hR
  replace hr : addR (mx, l) (a, b) = ((mx', l'), e) := hr
  unfold addR at hr
  dsimp only at hr
  rw [if_pos hR] at hr
  obtain ⟨L, hL⟩ : ∃ L, evL mx ((a, b) :: l) = L := ⟨_, rfl⟩
  rw [hL] at hr
  have he := evL_len mx ((a, b) :: l)
  have hf := evL_full mx ((a, b) :: l)
  have hri := right_ev (mx := mx) (l := (a, b) :: l) (by omega) (by omega)
  have htk := evL_take mx ((a, b) :: l)
  have e3 : fullL ((a, b) :: l) = szF (a, b) + fullL l := rfl
  have e4 : ilen ((a, b) :: l) = ilen l + 1 := by unfold ilen; simp
  rw [hL] at he hf hri htk
  cases hr
  have hn0 := ilen_nn l'
  rw [← hn'] at htk he hn0
  have he2 : n' ≤ m + 1 := by rw [hm, ← e4]; exact he
  have hlen' := fullL_len l'
  repeat' (first
    | (refine s_st hS ?_; try cbv)
    | (refine s_sbr hS ?_ ?_ <;> intro h <;> (try cbv) <;> try exact s_ab h)
    | (refine s_sta hS ?_; intro _ _; try cbv)
    | (refine s_stc hS ?_; try cbv)
    | (refine s_stl hS ?_; intro _ _; try cbv)
    | (refine s_chl hS ?_; try cbv)
    | fail)
  have h1c : Int.ofNat (nat_lit 1) = 1 := rfl
  rw [Int.ofNat_eq_natCast] at h1c
  have e1 : S.app [.s a, .s b] F = cellsF ((a, b) :: l) := by subst hS; rw [← hF]; rfl
  have e2 : S.pl 1 m = m + 1 := by subst hS; simp only [pl_eq]; omega
  generalize hA : S.app [.s a, .s b] F = A at *
  generalize hp1 : S.pl 1 m = p1 at *
  refine s_draw hS rfl I.ord_causeylaw09_TableAdds_0 (by decide +kernel) ?_
  cbv
  repeat' (first
    | (refine s_st hS ?_; try cbv)
    | (refine s_sbr hS ?_ ?_ <;> intro h <;> (try cbv) <;> try exact s_ab h)
    | (refine s_sta hS ?_; intro _ _; try cbv)
    | (refine s_stc hS ?_; try cbv)
    | (refine s_stl hS ?_; intro _ _; try cbv)
    | (refine s_chl hS ?_; try cbv)
    | (refine And.intro rfl ?_; try cbv)
    | fail)
  refine rright_u hS (.v (z := .y mx) (n := .y n') rfl hF' hn') (by omega) (fun _ => ?_) (fun e => ?_) <;> cbv
  rotate_left
  · rw [show (Z.y mx).v = mx from rfl, hri] at e; cases e
  repeat' (first
    | (refine s_st hS ?_; try cbv)
    | (refine s_sbr hS ?_ ?_ <;> intro h <;> (try cbv) <;> try exact s_ab h)
    | (refine s_sta hS ?_; intro _ _; try cbv)
    | (refine s_stc hS ?_; try cbv)
    | (refine s_stl hS ?_; intro _ _; try cbv)
    | (refine s_chl hS ?_; try cbv)
    | (refine And.intro rfl ?_; try cbv)
    | fail)
  · exfalso
    rename_i h
    have h3 : (1 : Int) + m < n' := h
    omega
  refine fields_u hS (l := l') (k := l') ?_ (by omega) (by omega) (fun _ => ?_) (fun e => ?_)
  · refine .cons (.sub (sub_v hF'.symm hn') rfl) (.cons ?_ .nil)
    rw [show cellsF l' = cellsF (((a, b) :: l).take n'.toNat) by rw [← htk]]
    exact row_tab (lget_some rfl (by simp)) rfl (hA.trans e1) (by dsimp only [Z.v]; omega) (by dsimp only [Z.v]; exact hn')
  rotate_left
  · cbv
    exact absurd rfl e
  cbv
  repeat' (first
    | (refine s_st hS ?_; try cbv)
    | (refine s_sbr hS ?_ ?_ <;> intro h <;> (try cbv) <;> try exact s_ab h)
    | (refine s_sta hS ?_; intro _ _; try cbv)
    | (refine s_stc hS ?_; try cbv)
    | (refine s_stl hS ?_; intro _ _; try cbv)
    | (refine s_chl hS ?_; try cbv)
    | (refine And.intro rfl ?_; try cbv)
    | fail)
  refine s_draw hS rfl I.ord_causeylaw09_TableAdds_1 (by decide +kernel) ?_
  cbv
  refine s_sbr hS ?_ ?_ <;> intro h <;> cbv
  · repeat' (first
    | (refine s_st hS ?_; try cbv)
    | (refine s_sbr hS ?_ ?_ <;> intro h <;> (try cbv) <;> try exact s_ab h)
    | (refine s_sta hS ?_; intro _ _; try cbv)
    | (refine s_stc hS ?_; try cbv)
    | (refine s_stl hS ?_; intro _ _; try cbv)
    | (refine s_chl hS ?_; try cbv)
    | (refine And.intro rfl ?_; try cbv)
    | (refine wakes_u hS ?_; cbv)
    | fail)
    all_goals exact .rfl
  · have h3 : ¬n' = (1 : Int) + m := h
    have hmo := ev_more hL hn' (by omega)
    have hft := full_take ((a, b) :: l) (n' + 1).toNat
    repeat' (first
      | (refine s_st hS ?_; try cbv)
      | (refine s_sbr hS ?_ ?_ <;> intro h <;> (try cbv) <;> try exact s_ab h)
      | (refine s_sta hS ?_; intro _ _; try cbv)
      | (refine s_stc hS ?_; try cbv)
      | (refine s_stl hS ?_; intro _ _; try cbv)
      | (refine s_chl hS ?_; try cbv)
      | (refine And.intro rfl ?_; try cbv)
      | fail)
    rename_i r hr'
    rw [← hr'] at hmo hft
    refine rfull_u hS (mx := 0) (l := ((a, b) :: l).take r.toNat) (.row (z := .l 0) (n := .y r) (l0 := (a, b) :: l) rfl rfl (e1.symm.trans hA.symm) rfl (by simp only [Z.v, ilen, List.length_take, List.length_cons]; unfold ilen at hm; omega)) (by omega) fun f hf' => ?_
    rw [← hf'] at hmo
    cbv
    repeat' (first
      | (refine s_st hS ?_; try cbv)
      | (refine s_sbr hS ?_ ?_ <;> intro h <;> (try cbv) <;> try exact s_ab h)
      | (refine s_sta hS ?_; intro _ _; try cbv)
      | (refine s_stc hS ?_; try cbv)
      | (refine s_stl hS ?_; intro _ _; try cbv)
      | (refine s_chl hS ?_; try cbv)
      | (refine And.intro rfl ?_; try cbv)
      | (refine wakes_u hS ?_; cbv)
      | fail)
    all_goals exact .rfl
end Tb
end Cz
namespace Go.Proofs.YtdbnbknghhpbiaaDoor
open Go Cz Go.ChangeShapes Go.WideShapes Go.ChangeAt Go.RowKit
set_option linter.unusedSimpArgs false
set_option linter.unusedVariables false
theorem own : ownKnob Tryd.prog.godebug = Option.none := by kernel_rfl
theorem laidOut : laidOutB Tryd.prog = true := by kernel_rfl
theorem pk_tab : pks Tryd.prog 4 24 = some [.i .i64, .sl [.s, .s]] := by kernel_rfl
theorem pk_fd : pks Tryd.prog 4 26 = some [.s, .s] := by kernel_rfl
set_option maxRecDepth 100000 in
theorem adds_lifted (os : Os) (started : os.Started) (H : Type) (enc : TypeId × Value → H) :
    ReturnsInHanded {} Tryd.checked os 4 .any (fun w args => (Rows.tableAddsSpec.pre enc Tryd.prog Tryd.f4 Rows.tableAddsRow.domain false w args ∧ laidMetH Tryd.prog Rows.tableAddsRow.laid w) ∧ sizedMet enc Tryd.prog Tryd.f4 (OpenSpec.ofChange Rows.tableAddsSpec) false w args)
      (Rows.tableAddsSpec.post enc Tryd.prog Tryd.f4 false true false false) := by
  refine returnsInHanded_of_change_and (C := Tryd.checked) (X := fun w _ => laidMetH Tryd.prog Rows.tableAddsRow.laid w) (fun _ _ _ hh h => h.of_heap hh) own started (by kernel_rfl) Tryd.func4
    (ChangeSpec.witness_shaped (enc := enc) (C := Tryd.checked) (os := os) (X := fun w _ => laidMetH Tryd.prog Rows.tableAddsRow.laid w) false (World.laidAll Tryd.prog os Rows.tableAddsRow.laid) #[.agg #[.int .i64 0, .slice none 0 0], .agg #[.string ⟨#[]⟩, .string ⟨#[]⟩]] 8 (World.laidAll_os _ _ _)
      (World.shaped_of_ZipB (by kernel_rfl) (by kernel_rfl)) (by kernel_rfl) (by kernel_rfl) (by kernel_rfl)
      (by rw [MakeChecks.laidMetH_plain _ _ _ (by kernel_rfl)]; exact laidMet_laidAll _ (by kernel_rfl) (by kernel_rfl))) ?_
  intro W base args ds gs before hval0 hW _ hsz _ _
  have hval : ∀ (j : Nat) t v, Tryd.f4.params[j]? = some t → args[j]? = some v → Value.okWide Tryd.prog W .any base t v := hval0
  have hW' := hW
  obtain ⟨p, q, hA0, hV, hbef, hfz, hnd⟩ := hW
  have hA : DataW.TrodAll enc Tryd.prog W 0 (fun _ => true) true Tryd.f4.params.toList args.toList ds p := hA0
  rw [Tryd.params4] at hA hval
  obtain ⟨v0, vs0, d0, ds0, p0, q0, hargs, rfl, rfl, h0, r0⟩ := trodAll_cons hA
  obtain ⟨v1, vs1, d1, ds1, p1, q1, rfl, rfl, rfl, h1, r1⟩ := trodAll_cons r0
  obtain ⟨rfl, rfl, rfl⟩ := trodAll_nil r1
  obtain rfl : args = #[v0, v1] := by cases args; simp_all
  obtain ⟨rfl, rfl⟩ := trodVars_none hV
  obtain ⟨c0, rfl, _⟩ := okWide_struct Tryd.underlying24 (hval 0 24 v0 rfl rfl)
  obtain ⟨fu0, hf0⟩ := h0
  obtain ⟨c1, rfl, _⟩ := okWide_struct Tryd.underlying26 (hval 1 26 v1 rfl rfl)
  obtain ⟨fu1, hf1⟩ := h1
  obtain ⟨s0, hk0, hd0⟩ := open_any 4 24 _ fu0 _ _ pk_tab hf0 fun n hn => of_decide_eq_true (List.all_eq_true.1 hsz n (DataW.weights_mem_each (j := 0) (by kernel_rfl) (by first | rfl | simp) n hn))
  obtain ⟨mx, l, rfl, lo_mx, hi_mx, hl_l, hs_l⟩ := Tb.op_tab hk0
  obtain ⟨s1, hk1, hd1⟩ := open_any 4 26 _ fu1 _ _ pk_fd hf1 fun n hn => of_decide_eq_true (List.all_eq_true.1 hsz n (DataW.weights_mem_each (j := 1) (by kernel_rfl) (by first | rfl | simp) n hn))
  obtain ⟨a, b, rfl, hs_a⟩ := Tb.op_fd hk1
  have hd' : denL (nmW W) [Tb.tabV mx l, .ag [.s a, .s b]] [Value.agg c0, Value.agg c1] := by
    simp only [denL]
    exact ⟨(by simp only [Tb.tabV, den]; exact ⟨c0, rfl, hd0⟩), (by simp only [Tb.tabV, den]; exact ⟨c1, rfl, hd1⟩), trivial⟩
  refine (law_calls I.fn_causeylaw09_TableAdds (Tb.adds_f hs_l hl_l hs_a) hd').mono fun e W' ⟨he, hb⟩ => ?_
  subst he
  exact ⟨_, rfl, post_law laidOut hW' rfl (by kernel_rfl) rfl Tryd.underlying4 rfl hb⟩
theorem adds_row : Rows.TableAddsSaid :=
  OpenClaim.holds_of_wide 4 Tryd.f4 rfl rfl rfl rfl rfl rfl rfl ⟨rfl, rfl, rfl, rfl, rfl⟩ rfl rfl rfl rfl rfl (by kernel_rfl) Tryd.func4 (by kernel_rfl)
    (of_decide_eq_true (by kernel_rfl)) (by unfold Func.isWrapper; first | (rw [if_pos (by decide +kernel)]; kernel_rfl) | (rw [if_neg (by decide +kernel)]; exact ⟨rfl, rfl⟩))
    (fun os started H enc _ => adds_lifted os started H enc)
theorem adds_holds : Rows.TableAddsCardSaid :=
  Claim7.holds_tied_plain_at .later [] _ _ _ _ adds_row (fun _ h => by cases h) (by kernel_rfl) (fun _ h => by cases h) tableAdds_row_tie rfl ⟨rfl, rfl⟩ (by kernel_rfl) rfl
    (fun f fn hf hfn => by
      obtain rfl : f = 4 := Option.some.inj ((show Tryd.prog.funcNamed "causey/causeylaw09.TableAdds" = some 4 by kernel_rfl).symm.trans hf) |>.symm
      obtain rfl : fn = Tryd.f4 := (Option.some.inj (Tryd.func4.symm.trans hfn)).symm
      exact ⟨by kernel_rfl, fun j t ht => by
        rw [Tryd.params4] at ht
        have hm : t ∈ [24, 26] := by simpa using Array.mem_of_getElem? ht
        have hall : ([24, 26].all fun u => !Tryd.prog.wantsStandIn u) = true := by kernel_rfl
        exact (show Tryd.prog.wantsStandIn t = false by simpa using List.all_eq_true.1 hall t hm)⟩)
    (by kernel_rfl)
#print axioms adds_holds
end Go.Proofs.YtdbnbknghhpbiaaDoor
