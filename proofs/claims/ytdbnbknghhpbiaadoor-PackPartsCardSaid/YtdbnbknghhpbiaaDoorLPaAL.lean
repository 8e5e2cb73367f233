/- A list in two parts is packed as in one: the law PackParts returns true for every input. No condition. -/
import Derived.Test.YtdbnbknghhpbiaaDoorKQ6
import Derived.LaidMore
import Derived.Lay
import Derived.SevenTiedAt
import Derived.Stop.Joined
import Derived.Test.YtdbnbknghhpbiaaDoorRows
import Derived.Test.YtdbnbknghhpbiaaDoorCards
import Derived.Test.YtdbnbknghhpbiaaDoorTie
namespace Cz
open Go Go.RowKit Go.Proofs
set_option linter.unusedSimpArgs false
set_option linter.unusedVariables false
set_option maxRecDepth 100000
set_option maxHeartbeats 4000000
namespace Pa
open Tb
theorem s_max {S : Sy} {k : IntKind} {a b : Int} {K : Int → Prop} (hS : S0 Tryd.prog = S) (h : ∀ r, (a < b ∧ r = b ∨ b ≤ a ∧ r = a) → K r) : S.ar .max k a b K :=
  s_ar hS fun r hr => h r (by
    have hr' : r = if a < b then b else a := hr
    split at hr' <;> omega)
theorem s_min {S : Sy} {k : IntKind} {a b : Int} {K : Int → Prop} (hS : S0 Tryd.prog = S) (h : ∀ r, (a < b ∧ r = a ∨ b ≤ a ∧ r = b) → K r) : S.ar .min k a b K :=
  s_ar hS fun r hr => h r (by
    have hr' : r = if b < a then b else a := hr
    split at hr' <;> omega)
theorem cells_drop (l : List Tb.Fd) (n : Nat) : (cellsF l).drop (n * 2) = cellsF (l.drop n) := by
  induction l generalizing n with
  | nil => simp [cellsF]
  | cons f l ih =>
    cases n with
    | zero => simp
    | succ n =>
      have := ih n
      simp only [cellsF, List.flatMap_cons, fdE, List.drop_succ_cons] at this ⊢
      rw [show (n + 1) * 2 = n * 2 + 1 + 1 by omega]
      simp only [List.cons_append, List.nil_append, List.drop_succ_cons]
      exact this
theorem parts_f {mx i : Int} {l q : List Tb.Fd} (hs : shortL l) (hm0 : ilen l ≤ 140737488355328) (hs2 : shortL q) (hm2 : ilen q ≤ 140737488355328) (l0 : -9223372036854775808 ≤ i) (u0 : i ≤ 9223372036854775807) :
    (S0 Tryd.prog).call 10 [tabV mx l, .v false 2 (cellsF q) (.y (ilen q)), .i .i64 (.y i)] [] (fun y _ => Sub y .tt) := by
  unfold tabV
  generalize hF : cellsF l = F
  obtain ⟨m, hm⟩ : ∃ m, m = ilen l := ⟨_, rfl⟩
  generalize hG : cellsF q = G
  obtain ⟨n, hn⟩ : ∃ m, m = ilen q := ⟨_, rfl⟩
  rw [← hm, ← hn]
  generalize hS : S0 Tryd.prog = S
  refine call_in' hS I.fn_causeylaw11_PackParts ?_
  cbv
  refine pgreat_u hS (l := l) (q := q) (.cons (tab_fz rfl hF hm) (.cons (.sub (sub_v hG.symm hn) rfl) .nil)) hs hm0 hs2 hm2 ?_ (fun g1 g2 g3 g4 => ?_) <;> cbv
  · refine wakes_u hS ?_
    cbv
    exact .rfl
  have hn0 := ilen_nn q
  by_cases hR : rightL mx l = true
  · refine rright_g hS (.v (z := .y mx) (n := .y m) rfl hF hm) hR (by omega) ?_
    cbv
    repeat' (first
      | (refine s_eqs hS rfl ?_; try cbv)
      | (refine s_ck hS ?_; try cbv)
      | (refine s_sbr hS ?_ ?_ <;> intro h <;> (try cbv) <;> try exact s_ab h)
      | (refine s_ad hS ?_; intro _ _; try cbv)
      | (refine s_sb hS ?_; intro _ _; try cbv)
      | (refine s_stl hS ?_; intro _ _; try cbv)
      | (refine s_stc hS ?_; try cbv)
      | (refine s_eqo hS ?_; try cbv)
      | (refine s_lk hS ?_; try cbv)
      | (refine s_mu hS ?_; try cbv)
      | fail)
    refine s_max hS fun r1 hr1 => ?_
    cbv
    refine s_min hS fun r2 hr2 => ?_
    have hat : 0 ≤ r2 ∧ r2 ≤ n := by omega
    clear hr1 hr2
    have hq60 : fullL q ≤ 60000 := by omega
    obtain ⟨qa, hqa⟩ : ∃ r, q.take r2.toNat = r := ⟨_, rfl⟩
    obtain ⟨qb, hqb⟩ : ∃ r, q.drop r2.toNat = r := ⟨_, rfl⟩
    have hqq : q = qa ++ qb := by rw [← hqa, ← hqb, List.take_append_drop]
    have hfa := fullL_app qa qb
    rw [← hqq] at hfa
    have hf1 := fullL_nn qa
    have hf2 := fullL_nn qb
    have hna : r2 = ilen qa := by rw [← hqa]; unfold ilen at hn ⊢; rw [List.length_take]; omega
    have hnb : n - r2 = ilen qb := by rw [← hqb]; unfold ilen at hn ⊢; rw [List.length_drop]; omega
    have ea : S.sub G 0 r2 2 = cellsF qa := by
      subst hS
      show (G.drop ((0 : Int).toNat * 2)).take (r2.toNat * 2) = cellsF qa
      rw [show (0 : Int).toNat * 2 = 0 from rfl, List.drop_zero, ← hG, cells_take, hqa]
    have eb : S.sub G r2 (S.mi n r2) 2 = cellsF qb := by
      subst hS
      show (G.drop (r2.toNat * 2)).take ((n - r2).toNat * 2) = cellsF qb
      rw [← hG, cells_drop, hqb, List.take_of_length_le]
      rw [cellsF_len]
      unfold ilen at hnb; omega
    have eb2 : S.mi n r2 = ilen qb := by subst hS; exact hnb
    have hbg := block_app mx qa qb l
    rw [← hqq] at hbg
    obtain ⟨L1, hL1⟩ : ∃ r, blockB mx l q = r := ⟨_, rfl⟩
    obtain ⟨l1, hl1⟩ : ∃ r, blockL mx l q = r := ⟨_, rfl⟩
    obtain ⟨L2, hL2⟩ : ∃ r, blockB mx l qa = r := ⟨_, rfl⟩
    obtain ⟨l2, hl2⟩ : ∃ r, blockL mx l qa = r := ⟨_, rfl⟩
    obtain ⟨L3, hL3⟩ : ∃ r, blockB mx l2 qb = r := ⟨_, rfl⟩
    obtain ⟨l3, hl3⟩ : ∃ r, blockL mx l2 qb = r := ⟨_, rfl⟩
    rw [hL1, hl1, hL2, hl2, hL3, hl3] at hbg
    obtain ⟨hb1, hb2⟩ := hbg
    subst hb2
    obtain ⟨F1, hF1⟩ : ∃ r, cellsB L1 = r := ⟨_, rfl⟩
    obtain ⟨n1, hn1⟩ : ∃ r, r = ilen L1 := ⟨_, rfl⟩
    obtain ⟨F2, hF2⟩ : ∃ r, cellsB L2 = r := ⟨_, rfl⟩
    obtain ⟨n2, hn2⟩ : ∃ r, r = ilen L2 := ⟨_, rfl⟩
    obtain ⟨F3, hF3⟩ : ∃ r, cellsB L3 = r := ⟨_, rfl⟩
    obtain ⟨n3, hn3⟩ : ∃ r, r = ilen L3 := ⟨_, rfl⟩
    obtain ⟨R1, hR1⟩ : ∃ r, cellsF l1 = r := ⟨_, rfl⟩
    obtain ⟨m1, hm1⟩ : ∃ r, r = ilen l1 := ⟨_, rfl⟩
    obtain ⟨R2, hR2⟩ : ∃ r, cellsF l2 = r := ⟨_, rfl⟩
    obtain ⟨m2, hm2'⟩ : ∃ r, r = ilen l2 := ⟨_, rfl⟩
    have hr2 : rightL mx l2 = true := hl2 ▸ block_right hR
    have hb2' := block_len mx qa l
    rw [hL2, ← hn2] at hb2'
    have hb3 := block_len mx qb l2
    rw [hL3, ← hn3] at hb3
    have hn20 : 0 ≤ n2 := hn2 ▸ ilen_nn _
    have hn30 : 0 ≤ n3 := hn3 ▸ ilen_nn _
    have hF2l : ilen F2 = n2 := by rw [← hF2, cellsB_len, hn2]
    have hl1r := right_len (hl1 ▸ block_right (fs := q) hR : rightL mx l1 = true)
    have hok1 : Hu.BOk L1 := hL1 ▸ bok_block mx q l
    cbv
    refine block_g hS (.v (z := .y mx) (n := .y m) rfl hF hm) (sub_v (n := .y n) hG.symm hn) hR hL1 hl1 hF1 hn1 hR1 hm1 (by omega) ?_
    cbv
    refine s_drawT hS rfl I.spl_causeylaw11_PackParts_0 (by decide +kernel) ?_
    cbv
    have c1 : S.sc n2 1 = S.flen (S.app [] F2) := by rw [app_nil hS]; subst hS; show n2 * 1 = ilen F2; omega
    have er : S.app (S.app [] F2) F3 = cellsB L1 := by rw [app_nil hS, hb1]; exact app_cells hS hF2.symm hF3.symm
    have en : S.pl n2 n3 = ilen L1 := by rw [hb1, ilen_app, ← hn2, ← hn3]; subst hS; rfl
    refine ⟨?_, ?_⟩ <;> cbv
    all_goals
      repeat' (first
        | (refine s_eqs hS rfl ?_; try cbv)
        | (refine s_ck hS ?_; try cbv)
        | (refine s_sbr hS ?_ ?_ <;> intro h <;> (try cbv) <;> try exact s_ab h)
        | (refine s_ad hS ?_; intro _ _; try cbv)
        | (refine s_sb hS ?_; intro _ _; try cbv)
        | (refine s_stl hS ?_; intro _ _; try cbv)
        | (refine s_stc hS ?_; try cbv)
        | (refine s_ckA hS c1 ?_; cbv)
        | (refine rsm_t hS (a := L1) (ByC.two (.row (n := .y (S.pl n2 n3)) rfl ?_ en) (.v (n := .y n1) hF1 hn1)) hok1 ?_; (focus (rw [← er]; exact FSub.rfl)); cbv)
        | (refine rsame_t hS (mx := mx) (l := l1) (.v rfl hR1 hm1) (.v rfl hR1 hm1) (by omega) ?_; cbv)
        | (refine wakes_u hS ?_; cbv)
        | (refine block_g hS (.v (z := .y mx) (n := .y m) rfl hF hm) (sub_v (n := .y r2) ea hna) hR hL2 hl2 hF2 hn2 hR2 hm2' (by omega) ?_; cbv)
        | (refine block_g hS (.v (z := .y mx) (n := .y m2) rfl hR2 hm2') (sub_v (n := .y (S.mi n r2)) eb eb2) hr2 hL3 hl3 hF3 hn3 hR1 hm1 (by omega) ?_; cbv)
        | (refine s_drawT hS rfl I.spl_causeylaw11_PackParts_1 (by decide +kernel) ?_; cbv; refine ⟨?_, ?_⟩ <;> cbv)
        | (refine s_eqo hS ?_; try cbv)
        | (refine s_lk hS ?_; try cbv)
        | (refine s_mu hS ?_; try cbv)
        | fail)
    all_goals exact .rfl
  · refine rright_g hS (.v (z := .y mx) (n := .y m) rfl hF hm) (mx := mx) (t := false) (by simpa using hR) (by omega) ?_
    cbv
    repeat' (first
      | (refine s_eqs hS rfl ?_; try cbv)
      | (refine s_ck hS ?_; try cbv)
      | (refine s_sbr hS ?_ ?_ <;> intro h <;> (try cbv) <;> try exact s_ab h)
      | (refine s_ad hS ?_; intro _ _; try cbv)
      | (refine s_sb hS ?_; intro _ _; try cbv)
      | (refine s_stl hS ?_; intro _ _; try cbv)
      | (refine s_stc hS ?_; try cbv)
      | (refine s_eqo hS ?_; try cbv)
      | (refine s_lk hS ?_; try cbv)
      | (refine s_mu hS ?_; try cbv)
      | fail)
    refine wakes_u hS ?_
    cbv
    exact .rfl
end Pa
end Cz
namespace Go.Proofs.YtdbnbknghhpbiaaDoor
open Go Cz Go.ChangeShapes Go.WideShapes Go.ChangeAt Go.RowKit
set_option linter.unusedSimpArgs false
set_option linter.unusedVariables false
theorem own : ownKnob Tryd.prog.godebug = Option.none := by kernel_rfl
theorem laidOut : laidOutB Tryd.prog = true := by kernel_rfl
theorem pk_tab : pks Tryd.prog 4 24 = some [.i .i64, .sl [.s, .s]] := by kernel_rfl
theorem pk_fds : pks Tryd.prog 4 22 = some [.sl [.s, .s]] := by kernel_rfl
theorem pk_i : pks Tryd.prog 4 3 = some [.i .i64] := by kernel_rfl
set_option maxRecDepth 100000 in
theorem parts_lifted (os : Os) (started : os.Started) (H : Type) (enc : TypeId × Value → H) :
    ReturnsInHanded {} Tryd.checked os 10 .any (fun w args => (Rows.packPartsSpec.pre enc Tryd.prog Tryd.f10 Rows.packPartsRow.domain false w args ∧ laidMetH Tryd.prog Rows.packPartsRow.laid w) ∧ sizedMet enc Tryd.prog Tryd.f10 (OpenSpec.ofChange Rows.packPartsSpec) false w args)
      (Rows.packPartsSpec.post enc Tryd.prog Tryd.f10 false true false false) := by
  refine returnsInHanded_of_change_and (C := Tryd.checked) (X := fun w _ => laidMetH Tryd.prog Rows.packPartsRow.laid w) (fun _ _ _ hh h => h.of_heap hh) own started (by kernel_rfl) Tryd.func10
    (ChangeSpec.witness_shaped (enc := enc) (C := Tryd.checked) (os := os) (X := fun w _ => laidMetH Tryd.prog Rows.packPartsRow.laid w) false (World.laidAll Tryd.prog os Rows.packPartsRow.laid) #[.agg #[.int .i64 0, .slice none 0 0], .slice none 0 0, .int .i64 0] 8 (World.laidAll_os _ _ _)
      (World.shaped_of_ZipB (by kernel_rfl) (by kernel_rfl)) (by kernel_rfl) (by kernel_rfl) (by kernel_rfl)
      (by rw [MakeChecks.laidMetH_plain _ _ _ (by kernel_rfl)]; exact laidMet_laidAll _ (by kernel_rfl) (by kernel_rfl))) ?_
  intro W base args ds gs before hval0 hW _ hsz _ _
  have hval : ∀ (j : Nat) t v, Tryd.f10.params[j]? = some t → args[j]? = some v → Value.okWide Tryd.prog W .any base t v := hval0
  have hW' := hW
  obtain ⟨p, q, hA0, hV, hbef, hfz, hnd⟩ := hW
  have hA : DataW.TrodAll enc Tryd.prog W 0 (fun _ => true) true Tryd.f10.params.toList args.toList ds p := hA0
  rw [Tryd.params10] at hA hval
  obtain ⟨v0, vs0, d0, ds0, p0, q0, hargs, rfl, rfl, h0, r0⟩ := trodAll_cons hA
  obtain ⟨v1, vs1, d1, ds1, p1, q1, rfl, rfl, rfl, h1, r1⟩ := trodAll_cons r0
  obtain ⟨v2, vs2, d2, ds2, p2, q2, rfl, rfl, rfl, h2, r2⟩ := trodAll_cons r1
  obtain ⟨rfl, rfl, rfl⟩ := trodAll_nil r2
  obtain rfl : args = #[v0, v1, v2] := by cases args; simp_all
  obtain ⟨rfl, rfl⟩ := trodVars_none hV
  obtain ⟨c0, rfl, _⟩ := okWide_struct Tryd.underlying24 (hval 0 24 v0 rfl rfl)
  obtain ⟨fu0, hf0⟩ := h0
  obtain ⟨c1, len1, cap1, rfl⟩ := okWide_slice Tryd.underlying22 (hval 1 22 v1 rfl rfl)
  obtain ⟨fu1, hf1⟩ := h1
  obtain ⟨c2, rfl⟩ := okWide_int Tryd.underlying3 (hval 2 3 v2 rfl rfl)
  obtain ⟨fu2, hf2⟩ := h2
  obtain ⟨s0, hk0, hd0⟩ := open_any 4 24 _ fu0 _ _ pk_tab hf0 fun n hn => of_decide_eq_true (List.all_eq_true.1 hsz n (DataW.weights_mem_each (j := 0) (by kernel_rfl) (by first | rfl | simp) n hn))
  obtain ⟨mx, l, rfl, lo_mx, hi_mx, hl_l, hs_l⟩ := Tb.op_tab hk0
  obtain ⟨s1, hk1, hd1⟩ := open_any 4 22 _ fu1 _ _ pk_fds hf1 fun n hn => of_decide_eq_true (List.all_eq_true.1 hsz n (DataW.weights_mem_each (j := 1) (by kernel_rfl) (by first | rfl | simp) n hn))
  obtain ⟨q, rfl, hl_q, hs_q⟩ := Tb.op_fds hk1
  obtain ⟨s2, hk2, hd2⟩ := open_any 4 3 _ fu2 _ _ pk_i hf2 fun n hn => of_decide_eq_true (List.all_eq_true.1 hsz n (DataW.weights_mem_each (j := 2) (by kernel_rfl) (by first | rfl | simp) n hn))
  obtain ⟨i, rfl, lo_i, hi_i⟩ := Tb.op_i hk2
  have hd' : denL (nmW W) [Tb.tabV mx l, .v false 2 (Tb.cellsF q) (.y (ilen q)), .i .i64 (.y i)] [Value.agg c0, Value.slice c1 len1 cap1, Value.int .i64 c2] := by
    simp only [denL]
    exact ⟨(by simp only [Tb.tabV, den]; exact ⟨c0, rfl, hd0⟩), denL_one hd1, denL_one hd2, trivial⟩
  refine (law_calls I.fn_causeylaw11_PackParts (Pa.parts_f hs_l hl_l hs_q hl_q lo_i hi_i) hd').mono fun e W' ⟨he, hb⟩ => ?_
  subst he
  exact ⟨_, rfl, post_law laidOut hW' rfl (by kernel_rfl) rfl Tryd.underlying4 rfl hb⟩
theorem parts_row : Rows.PackPartsSaid :=
  OpenClaim.holds_of_wide 10 Tryd.f10 rfl rfl rfl rfl rfl rfl rfl ⟨rfl, rfl, rfl, rfl, rfl⟩ rfl rfl rfl rfl rfl (by kernel_rfl) Tryd.func10 (by kernel_rfl)
    (of_decide_eq_true (by kernel_rfl)) (by unfold Func.isWrapper; first | (rw [if_pos (by decide +kernel)]; kernel_rfl) | (rw [if_neg (by decide +kernel)]; exact ⟨rfl, rfl⟩))
    (fun os started H enc _ => parts_lifted os started H enc)
theorem parts_holds : Rows.PackPartsCardSaid :=
  Claim7.holds_tied_plain_at .later [] _ _ _ _ parts_row (fun _ h => by cases h) (by kernel_rfl) (fun _ h => by cases h) packParts_row_tie rfl ⟨rfl, rfl⟩ (by kernel_rfl) rfl
    (fun f fn hf hfn => by
      obtain rfl : f = 10 := Option.some.inj ((show Tryd.prog.funcNamed "causey/causeylaw11.PackParts" = some 10 by kernel_rfl).symm.trans hf) |>.symm
      obtain rfl : fn = Tryd.f10 := (Option.some.inj (Tryd.func10.symm.trans hfn)).symm
      exact ⟨by kernel_rfl, fun j t ht => by
        rw [Tryd.params10] at ht
        have hm : t ∈ [24, 22, 3] := by simpa using Array.mem_of_getElem? ht
        have hall : ([24, 22, 3].all fun u => !Tryd.prog.wantsStandIn u) = true := by kernel_rfl
        exact (show Tryd.prog.wantsStandIn t = false by simpa using List.all_eq_true.1 hall t hm)⟩)
    (by kernel_rfl)
#print axioms parts_holds
end Go.Proofs.YtdbnbknghhpbiaaDoor
