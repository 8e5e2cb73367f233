/- Tables are told in memory of their own: the law PackOwn returns true for every input. No condition. -/
import Derived.Test.YtdbnbknghhpbiaaDoorKW6
import Derived.LaidMore
import Derived.Lay
import Derived.SevenTiedAt
import Derived.Stop.Joined
import Derived.Test.YtdbnbknghhpbiaaDoorRows
import Derived.Test.YtdbnbknghhpbiaaDoorCards
import Derived.Test.YtdbnbknghhpbiaaDoorTie
set_option linter.unusedSimpArgs false
set_option linter.unusedVariables false
set_option maxRecDepth 100000
set_option maxHeartbeats 4000000
namespace Cz
open Go Go.RowKit Go.Proofs
namespace Pa
open Tb
theorem own_f {mx : Int} {l q : List Tb.Fd} (hs : shortL l) (hm0 : ilen l ≤ 140737488355328) (hs2 : shortL q) (hm2 : ilen q ≤ 140737488355328) :
    (S0 Tryd.prog).call 11 [tabV mx l, .v false 2 (cellsF q) (.y (ilen q))] [] (fun y _ => Sub y .tt) := by
  unfold tabV
  generalize hF : cellsF l = F
  obtain ⟨m, hm⟩ : ∃ m, m = ilen l := ⟨_, rfl⟩
  generalize hG : cellsF q = G
  obtain ⟨n, hn⟩ : ∃ m, m = ilen q := ⟨_, rfl⟩
  rw [← hm, ← hn]
  generalize hS : S0 Tryd.prog = S
  refine qab hS I.qdc ?_
  cbv
  refine pgreat_u hS (l := l) (q := q) (.cons (tab_fz rfl hF hm) (.cons (.sub (qcg hG.symm hn) rfl) .nil)) hs hm0 hs2 hm2 ?_ (fun g1 g2 g3 g4 => ?_) <;> cbv
  · refine qfs hS ?_
    cbv
    exact .rfl
  have hn0 := qai q
  have hl0 := qai l
  have hFl : ilen F = m * 2 := by rw [← hF, hm]; have := qcb l; unfold ilen; omega
  have hGl : ilen G = n * 2 := by rw [← hG, hn]; have := qcb q; unfold ilen; omega
  by_cases hR : rightL mx l = true
  · obtain ⟨l', hl'⟩ : ∃ r, blockL mx l q = r := ⟨_, rfl⟩
    obtain ⟨A, hA⟩ : ∃ A, cellsF l' = A := ⟨_, rfl⟩
    obtain ⟨na, hna⟩ : ∃ n, n = ilen l' := ⟨_, rfl⟩
    have hA2 : A.length = na.toNat * 2 := by rw [← hA, qcb, hna]; unfold ilen; omega
    have hAp : plains A = true := hA ▸ qal _
    have hn0 : 0 ≤ na := hna ▸ qai _
    have hnr := qfe (hl' ▸ qgm (fs := q) hR : rightL mx l' = true)
    repeat' (first
      | (refine qbl hS rfl ?_; try cbv)
      | (refine s_ck hS ?_; try cbv)
      | (refine qac hS ?_ ?_ <;> intro h <;> (try cbv) <;> try exact s_ab h)
      | (refine s_ad hS ?_; intro _ _; try cbv)
      | (refine s_sb hS ?_; intro _ _; try cbv)
      | (refine qav hS ?_; intro _ _; try cbv)
      | (refine qaf hS ?_; try cbv)
      | (refine block_ku hS [] (.cons (tab_fz rfl hF hm) (.cons (.sub (qcg hG.symm hn) rfl) .nil)) hR hl' hA hna (by omega) ?_; cbv)
      | (refine qbm hS ?_; try cbv)
      | (refine s_lk hS ?_; try cbv)
      | (refine s_mu hS ?_; try cbv)
      | fail)
    refine qbh hS 5 I.qeo (fun x : Int × List SV => 0 ≤ x.1 ∧ x.1 ≤ na ∧ x.2.length = A.length ∧ plains x.2 = true) (fun x => [(10, .i .i64 (.y x.1))]) (fun x => [(3, .r false false (.y 0) 2 x.2)]) (fun x => (na - x.1).toNat) (0, A) rfl
      ⟨⟨Int.le_refl _, hn0, rfl, hAp⟩, rfl, ?_, ?_, by cbv⟩ ?_
    · cbv; all_goals exact s_sA
    · cbv; all_goals exact s_bA
    intro x
    obtain ⟨i, A'⟩ := x
    intro hx
    dsimp only at hx
    cbv
    obtain ⟨k0, k1, k2, k3⟩ := hx
    refine qac hS ?_ ?_ <;> intro h <;> cbv
    · repeat' (first
      | (refine qbl hS rfl ?_; try cbv)
      | (refine s_ck hS ?_; try cbv)
      | (refine qac hS ?_ ?_ <;> intro h <;> (try cbv) <;> try exact s_ab h)
      | (refine s_ad hS ?_; intro _ _; try cbv)
      | (refine s_sb hS ?_; intro _ _; try cbv)
      | (refine qav hS ?_; intro _ _; try cbv)
      | (refine qaf hS ?_; try cbv)
      | (refine s_wrg hS k0 (by omega) (by decide) rfl k3 fun F2 e1 e2 => ?_; cbv)
      | (refine qbm hS ?_; try cbv)
      | (refine s_lk hS ?_; try cbv)
      | (refine s_mu hS ?_; try cbv)
      | fail)
      rename_i i2 hi2
      refine ⟨(i2, F2), by dsimp only; omega, ⟨by dsimp only; omega, by dsimp only; omega, e1.trans k2, e2⟩, rfl, ?_, ?_, by cbv⟩
      · cbv; all_goals exact s_sA
      · cbv; all_goals exact s_bA
    refine qet hS (l := l) (k := l) (.cons (.sub (qcg hF.symm hm) rfl) (.cons ?_ .nil)) (by omega) (by omega) (fun _ => ?_) (fun e => ?_)
    · rw [show cellsF l = cellsF (l.take m.toNat) by rw [qbf (by omega)]]
      exact qfw (qaj rfl (by simp)) rfl ((qhj hS F).trans hF.symm) (by dsimp only [Z.v]; omega) (by dsimp only [Z.v]; exact hm)
    · cbv
      repeat' (first
        | (refine qbl hS rfl ?_; try cbv)
        | (refine s_ck hS ?_; try cbv)
        | (refine qac hS ?_ ?_ <;> intro h <;> (try cbv) <;> try exact s_ab h)
        | (refine s_ad hS ?_; intro _ _; try cbv)
        | (refine s_sb hS ?_; intro _ _; try cbv)
        | (refine qav hS ?_; intro _ _; try cbv)
        | (refine qaf hS ?_; try cbv)
        | (refine qbm hS ?_; try cbv)
        | (refine s_lk hS ?_; try cbv)
        | (refine s_mu hS ?_; try cbv)
        | fail)
      refine qet hS (l := q) (k := q) (.cons (.sub (qcg hG.symm hn) rfl) (.cons ?_ .nil)) (by omega) (by omega) (fun _ => ?_) (fun e => ?_)
      · rw [show cellsF q = cellsF (q.take n.toNat) by rw [qbf (by omega)]]
        exact qfw (qaj rfl (by simp)) rfl ((qhj hS G).trans hG.symm) (by dsimp only [Z.v]; omega) (by dsimp only [Z.v]; exact hn)
      · cbv
        repeat' (first
          | (refine qbl hS rfl ?_; try cbv)
          | (refine s_ck hS ?_; try cbv)
          | (refine qac hS ?_ ?_ <;> intro h <;> (try cbv) <;> try exact s_ab h)
          | (refine s_ad hS ?_; intro _ _; try cbv)
          | (refine s_sb hS ?_; intro _ _; try cbv)
          | (refine qav hS ?_; intro _ _; try cbv)
          | (refine qaf hS ?_; try cbv)
          | (refine qfs hS ?_; cbv)
          | (refine qbm hS ?_; try cbv)
          | (refine s_lk hS ?_; try cbv)
          | (refine s_mu hS ?_; try cbv)
          | fail)
        exact .rfl
      · cbv
        exact absurd rfl e
    · cbv
      exact absurd rfl e
  · repeat' (first
    | (refine qbl hS rfl ?_; try cbv)
    | (refine s_ck hS ?_; try cbv)
    | (refine qac hS ?_ ?_ <;> intro h <;> (try cbv) <;> try exact s_ab h)
    | (refine s_ad hS ?_; intro _ _; try cbv)
    | (refine s_sb hS ?_; intro _ _; try cbv)
    | (refine qav hS ?_; intro _ _; try cbv)
    | (refine qaf hS ?_; try cbv)
    | (refine block_el hS [] (mx := mx) (l := l) (q := q) (.cons (tab_fz rfl hF hm) (.cons (.sub (qcg hG.symm hn) rfl) .nil)) (by simpa using hR) (by omega) ?_; cbv)
    | (refine qbm hS ?_; try cbv)
    | (refine s_lk hS ?_; try cbv)
    | (refine s_mu hS ?_; try cbv)
    | fail)
    refine qax hS ?_
    cbv
    refine qet hS (l := l) (k := l) (.cons (.sub (qcg hF.symm hm) rfl) (.cons ?_ .nil)) (by omega) (by omega) (fun _ => ?_) (fun e => ?_)
    · rw [show cellsF l = cellsF (l.take m.toNat) by rw [qbf (by omega)]]
      exact qfw (qaj rfl (by simp)) rfl ((qhj hS F).trans hF.symm) (by dsimp only [Z.v]; omega) (by dsimp only [Z.v]; exact hm)
    · cbv
      repeat' (first
        | (refine qbl hS rfl ?_; try cbv)
        | (refine s_ck hS ?_; try cbv)
        | (refine qac hS ?_ ?_ <;> intro h <;> (try cbv) <;> try exact s_ab h)
        | (refine s_ad hS ?_; intro _ _; try cbv)
        | (refine s_sb hS ?_; intro _ _; try cbv)
        | (refine qav hS ?_; intro _ _; try cbv)
        | (refine qaf hS ?_; try cbv)
        | (refine qbm hS ?_; try cbv)
        | (refine s_lk hS ?_; try cbv)
        | (refine s_mu hS ?_; try cbv)
        | fail)
      refine qet hS (l := q) (k := q) (.cons (.sub (qcg hG.symm hn) rfl) (.cons ?_ .nil)) (by omega) (by omega) (fun _ => ?_) (fun e => ?_)
      · rw [show cellsF q = cellsF (q.take n.toNat) by rw [qbf (by omega)]]
        exact qfw (qaj rfl (by simp)) rfl ((qhj hS G).trans hG.symm) (by dsimp only [Z.v]; omega) (by dsimp only [Z.v]; exact hn)
      · cbv
        repeat' (first
          | (refine qbl hS rfl ?_; try cbv)
          | (refine s_ck hS ?_; try cbv)
          | (refine qac hS ?_ ?_ <;> intro h <;> (try cbv) <;> try exact s_ab h)
          | (refine s_ad hS ?_; intro _ _; try cbv)
          | (refine s_sb hS ?_; intro _ _; try cbv)
          | (refine qav hS ?_; intro _ _; try cbv)
          | (refine qaf hS ?_; try cbv)
          | (refine qfs hS ?_; cbv)
          | (refine qbm hS ?_; try cbv)
          | (refine s_lk hS ?_; try cbv)
          | (refine s_mu hS ?_; try cbv)
          | fail)
        exact .rfl
      · cbv
        exact absurd rfl e
    · cbv
      exact absurd rfl e
end Pa
end Cz
namespace Go.Proofs.YtdbnbknghhpbiaaDoor
open Go Cz Go.ChangeShapes Go.WideShapes Go.ChangeAt Go.RowKit
theorem own : ownKnob Tryd.prog.godebug = Option.none := by kernel_rfl
theorem laidOut : laidOutB Tryd.prog = true := by kernel_rfl
theorem pk_tab : pks Tryd.prog 4 24 = some [.i .i64, .sl [.s, .s]] := by kernel_rfl
theorem pk_fds : pks Tryd.prog 4 22 = some [.sl [.s, .s]] := by kernel_rfl
set_option maxRecDepth 100000 in
theorem own_lifted (os : Os) (started : os.Started) (H : Type) (enc : TypeId × Value → H) :
    ReturnsInHanded {} Tryd.checked os 11 .any (fun w args => (Rows.packOwnSpec.pre enc Tryd.prog Tryd.f11 Rows.packOwnRow.domain false w args ∧ laidMetH Tryd.prog Rows.packOwnRow.laid w) ∧ sizedMet enc Tryd.prog Tryd.f11 (OpenSpec.ofChange Rows.packOwnSpec) false w args)
      (Rows.packOwnSpec.post enc Tryd.prog Tryd.f11 false true false false) := by
  refine returnsInHanded_of_change_and (C := Tryd.checked) (X := fun w _ => laidMetH Tryd.prog Rows.packOwnRow.laid w) (fun _ _ _ hh h => h.of_heap hh) own started (by kernel_rfl) Tryd.func11
    (ChangeSpec.witness_shaped (enc := enc) (C := Tryd.checked) (os := os) (X := fun w _ => laidMetH Tryd.prog Rows.packOwnRow.laid w) false (World.laidAll Tryd.prog os Rows.packOwnRow.laid) #[.agg #[.int .i64 0, .slice none 0 0], .slice none 0 0] 8 (World.laidAll_os _ _ _)
      (World.shaped_of_ZipB (by kernel_rfl) (by kernel_rfl)) (by kernel_rfl) (by kernel_rfl) (by kernel_rfl)
      (by rw [MakeChecks.laidMetH_plain _ _ _ (by kernel_rfl)]; exact laidMet_laidAll _ (by kernel_rfl) (by kernel_rfl))) ?_
  intro W base args ds gs before hval0 hW _ hsz _ _
  have hval : ∀ (j : Nat) t v, Tryd.f11.params[j]? = some t → args[j]? = some v → Value.okWide Tryd.prog W .any base t v := hval0
  have hW' := hW
  obtain ⟨p, q, hA0, hV, hbef, hfz, hnd⟩ := hW
  have hA : DataW.TrodAll enc Tryd.prog W 0 (fun _ => true) true Tryd.f11.params.toList args.toList ds p := hA0
  rw [Tryd.params11] at hA hval
  obtain ⟨v0, vs0, d0, ds0, p0, q0, hargs, rfl, rfl, h0, r0⟩ := trodAll_cons hA
  obtain ⟨v1, vs1, d1, ds1, p1, q1, rfl, rfl, rfl, h1, r1⟩ := trodAll_cons r0
  obtain ⟨rfl, rfl, rfl⟩ := trodAll_nil r1
  obtain rfl : args = #[v0, v1] := by cases args; simp_all
  obtain ⟨rfl, rfl⟩ := trodVars_none hV
  obtain ⟨c0, rfl, _⟩ := okWide_struct Tryd.underlying24 (hval 0 24 v0 rfl rfl)
  obtain ⟨fu0, hf0⟩ := h0
  obtain ⟨c1, len1, cap1, rfl⟩ := okWide_slice Tryd.underlying22 (hval 1 22 v1 rfl rfl)
  obtain ⟨fu1, hf1⟩ := h1
  obtain ⟨s0, hk0, hd0⟩ := qjs 4 24 _ fu0 _ _ pk_tab hf0 fun n hn => of_decide_eq_true (List.all_eq_true.1 hsz n (DataW.weights_mem_each (j := 0) (by kernel_rfl) (by first | rfl | simp) n hn))
  obtain ⟨mx, l, rfl, lo_mx, hi_mx, hl_l, hs_l⟩ := Tb.op_tab hk0
  obtain ⟨s1, hk1, hd1⟩ := qjs 4 22 _ fu1 _ _ pk_fds hf1 fun n hn => of_decide_eq_true (List.all_eq_true.1 hsz n (DataW.weights_mem_each (j := 1) (by kernel_rfl) (by first | rfl | simp) n hn))
  obtain ⟨q, rfl, hl_q, hs_q⟩ := Tb.op_fds hk1
  have hd' : denL (nmW W) [Tb.tabV mx l, .v false 2 (Tb.cellsF q) (.y (ilen q))] [Value.agg c0, Value.slice c1 len1 cap1] := by
    simp only [denL]
    exact ⟨(by simp only [Tb.tabV, den]; exact ⟨c0, rfl, hd0⟩), denL_one hd1, trivial⟩
  refine (law_calls I.qdc (Pa.own_f hs_l hl_l hs_q hl_q) hd').mono fun e W' ⟨he, hb⟩ => ?_
  subst he
  exact ⟨_, rfl, post_law laidOut hW' rfl (by kernel_rfl) rfl Tryd.underlying4 rfl hb⟩
theorem own_row : Rows.PackOwnSaid :=
  OpenClaim.holds_of_wide 11 Tryd.f11 rfl rfl rfl rfl rfl rfl rfl ⟨rfl, rfl, rfl, rfl, rfl⟩ rfl rfl rfl rfl rfl (by kernel_rfl) Tryd.func11 (by kernel_rfl)
    (of_decide_eq_true (by kernel_rfl)) (by unfold Func.isWrapper; first | (rw [if_pos (by decide +kernel)]; kernel_rfl) | (rw [if_neg (by decide +kernel)]; exact ⟨rfl, rfl⟩))
    (fun os started H enc _ => own_lifted os started H enc)
theorem own_holds : Rows.PackOwnCardSaid :=
  Claim7.holds_tied_plain_at .later [] _ _ _ _ own_row (fun _ h => by cases h) (by kernel_rfl) (fun _ h => by cases h) packOwn_row_tie rfl ⟨rfl, rfl⟩ (by kernel_rfl) rfl
    (fun f fn hf hfn => by
      obtain rfl : f = 11 := Option.some.inj ((show Tryd.prog.funcNamed "causey/causeylaw11.PackOwn" = some 11 by kernel_rfl).symm.trans hf) |>.symm
      obtain rfl : fn = Tryd.f11 := (Option.some.inj (Tryd.func11.symm.trans hfn)).symm
      exact ⟨by kernel_rfl, fun j t ht => by
        rw [Tryd.params11] at ht
        have hm : t ∈ [24, 22] := by simpa using Array.mem_of_getElem? ht
        have hall : ([24, 22].all fun u => !Tryd.prog.wantsStandIn u) = true := by kernel_rfl
        exact (show Tryd.prog.wantsStandIn t = false by simpa using List.all_eq_true.1 hall t hm)⟩)
    (by kernel_rfl)
#print axioms own_holds
end Go.Proofs.YtdbnbknghhpbiaaDoor
