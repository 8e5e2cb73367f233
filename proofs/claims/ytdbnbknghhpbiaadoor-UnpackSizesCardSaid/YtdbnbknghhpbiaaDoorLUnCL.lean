/- A size makes the table so great, ahead of all fields alone, and no greater than the most: the law UnpackSizes returns true for every input. No condition. -/
import Derived.Test.YtdbnbknghhpbiaaDoorKV7
import Derived.Test.YtdbnbknghhpbiaaDoorKVhUnC1
import Derived.Test.YtdbnbknghhpbiaaDoorKVhUnC
import Derived.LaidMore
import Derived.Lay
import Derived.SevenTiedAt
import Derived.Stop.Joined
import Derived.Test.YtdbnbknghhpbiaaDoorRows
import Derived.Test.YtdbnbknghhpbiaaDoorCards
import Derived.Test.YtdbnbknghhpbiaaDoorTie
set_option linter.unusedSimpArgs false
set_option linter.unusedVariables false
namespace Go.Proofs.YtdbnbknghhpbiaaDoor
open Go Cz Go.ChangeShapes Go.WideShapes Go.ChangeAt Go.RowKit
theorem own : ownKnob Tryd.prog.godebug = Option.none := by kernel_rfl
theorem laidOut : laidOutB Tryd.prog = true := by kernel_rfl
theorem pk_tab : pks Tryd.prog 4 24 = some [.i .i64, .sl [.s, .s]] := by kernel_rfl
theorem pk_i : pks Tryd.prog 4 3 = some [.i .i64] := by kernel_rfl
theorem pk_fd : pks Tryd.prog 4 26 = some [.s, .s] := by kernel_rfl
set_option maxRecDepth 100000 in
theorem qzaap (os : Os) (started : os.Started) (H : Type) (enc : TypeId × Value → H) :
    ReturnsInHanded {} Tryd.checked os 14 .any (fun w args => (Rows.unpackSizesSpec.pre enc Tryd.prog Tryd.f14 Rows.unpackSizesRow.domain false w args ∧ laidMetH Tryd.prog Rows.unpackSizesRow.laid w) ∧ sizedMet enc Tryd.prog Tryd.f14 (OpenSpec.ofChange Rows.unpackSizesSpec) false w args)
      (Rows.unpackSizesSpec.post enc Tryd.prog Tryd.f14 false true false false) := by
  refine returnsInHanded_of_change_and (C := Tryd.checked) (X := fun w _ => laidMetH Tryd.prog Rows.unpackSizesRow.laid w) (fun _ _ _ hh h => h.of_heap hh) own started (by kernel_rfl) Tryd.func14
    (ChangeSpec.witness_shaped (enc := enc) (C := Tryd.checked) (os := os) (X := fun w _ => laidMetH Tryd.prog Rows.unpackSizesRow.laid w) false (World.laidAll Tryd.prog os Rows.unpackSizesRow.laid) #[.agg #[.int .i64 0, .slice none 0 0], .int .i64 0, .int .i64 0, .int .i64 0, .agg #[.string ⟨#[]⟩, .string ⟨#[]⟩]] 8 (World.laidAll_os _ _ _)
      (World.shaped_of_ZipB (by kernel_rfl) (by kernel_rfl)) (by kernel_rfl) (by kernel_rfl) (by kernel_rfl)
      (by rw [MakeChecks.laidMetH_plain _ _ _ (by kernel_rfl)]; exact laidMet_laidAll _ (by kernel_rfl) (by kernel_rfl))) ?_
  intro W base args ds gs before hval0 hW _ hsz _ _
  have hval : ∀ (j : Nat) t v, Tryd.f14.params[j]? = some t → args[j]? = some v → Value.okWide Tryd.prog W .any base t v := hval0
  have hW' := hW
  obtain ⟨p, q, hA0, hV, hbef, hfz, hnd⟩ := hW
  have hA : DataW.TrodAll enc Tryd.prog W 0 (fun _ => true) true Tryd.f14.params.toList args.toList ds p := hA0
  rw [Tryd.params14] at hA hval
  obtain ⟨v0, vs0, d0, ds0, p0, q0, hargs, rfl, rfl, h0, r0⟩ := trodAll_cons hA
  obtain ⟨v1, vs1, d1, ds1, p1, q1, rfl, rfl, rfl, h1, r1⟩ := trodAll_cons r0
  obtain ⟨v2, vs2, d2, ds2, p2, q2, rfl, rfl, rfl, h2, r2⟩ := trodAll_cons r1
  obtain ⟨v3, vs3, d3, ds3, p3, q3, rfl, rfl, rfl, h3, r3⟩ := trodAll_cons r2
  obtain ⟨v4, vs4, d4, ds4, p4, q4, rfl, rfl, rfl, h4, r4⟩ := trodAll_cons r3
  obtain ⟨rfl, rfl, rfl⟩ := trodAll_nil r4
  obtain rfl : args = #[v0, v1, v2, v3, v4] := by cases args; simp_all
  obtain ⟨rfl, rfl⟩ := trodVars_none hV
  obtain ⟨c0, rfl, _⟩ := okWide_struct Tryd.underlying24 (hval 0 24 v0 rfl rfl)
  obtain ⟨fu0, hf0⟩ := h0
  obtain ⟨c1, rfl⟩ := okWide_int Tryd.underlying3 (hval 1 3 v1 rfl rfl)
  obtain ⟨fu1, hf1⟩ := h1
  obtain ⟨c2, rfl⟩ := okWide_int Tryd.underlying3 (hval 2 3 v2 rfl rfl)
  obtain ⟨fu2, hf2⟩ := h2
  obtain ⟨c3, rfl⟩ := okWide_int Tryd.underlying3 (hval 3 3 v3 rfl rfl)
  obtain ⟨fu3, hf3⟩ := h3
  obtain ⟨c4, rfl, _⟩ := okWide_struct Tryd.underlying26 (hval 4 26 v4 rfl rfl)
  obtain ⟨fu4, hf4⟩ := h4
  obtain ⟨s0, hk0, hd0⟩ := qdq 4 24 _ fu0 _ _ pk_tab hf0 fun n hn => of_decide_eq_true (List.all_eq_true.1 hsz n (DataW.weights_mem_each (j := 0) (by kernel_rfl) (by first | rfl | simp) n hn))
  obtain ⟨mx, l, rfl, lo_mx, hi_mx, hl_l, hs_l⟩ := Tb.op_tab hk0
  obtain ⟨s1, hk1, hd1⟩ := qdq 4 3 _ fu1 _ _ pk_i hf1 fun n hn => of_decide_eq_true (List.all_eq_true.1 hsz n (DataW.weights_mem_each (j := 1) (by kernel_rfl) (by first | rfl | simp) n hn))
  obtain ⟨most, rfl, lo_most, hi_most⟩ := Tb.op_i hk1
  obtain ⟨s2, hk2, hd2⟩ := qdq 4 3 _ fu2 _ _ pk_i hf2 fun n hn => of_decide_eq_true (List.all_eq_true.1 hsz n (DataW.weights_mem_each (j := 2) (by kernel_rfl) (by first | rfl | simp) n hn))
  obtain ⟨one, rfl, lo_one, hi_one⟩ := Tb.op_i hk2
  obtain ⟨s3, hk3, hd3⟩ := qdq 4 3 _ fu3 _ _ pk_i hf3 fun n hn => of_decide_eq_true (List.all_eq_true.1 hsz n (DataW.weights_mem_each (j := 3) (by kernel_rfl) (by first | rfl | simp) n hn))
  obtain ⟨two, rfl, lo_two, hi_two⟩ := Tb.op_i hk3
  obtain ⟨s4, hk4, hd4⟩ := qdq 4 26 _ fu4 _ _ pk_fd hf4 fun n hn => of_decide_eq_true (List.all_eq_true.1 hsz n (DataW.weights_mem_each (j := 4) (by kernel_rfl) (by first | rfl | simp) n hn))
  obtain ⟨a, b, rfl, hs_a⟩ := Tb.op_fd hk4
  have hd' : denL (nmW W) [Tb.tabV mx l, .i .i64 (.y most), .i .i64 (.y one), .i .i64 (.y two), .ag [.s a, .s b]] [Value.agg c0, Value.int .i64 c1, Value.int .i64 c2, Value.int .i64 c3, Value.agg c4] := by
    simp only [denL]
    exact ⟨(by simp only [Tb.tabV, den]; exact ⟨c0, rfl, hd0⟩), qhz hd1, qhz hd2, qhz hd3, (by simp only [Tb.tabV, den]; exact ⟨c4, rfl, hd4⟩), trivial⟩
  refine (qzabg I.qck (Pa.usz_f hs_l hl_l hs_a lo_one hi_one lo_two hi_two) hd').mono fun e W' ⟨he, hb⟩ => ?_
  subst he
  exact ⟨_, rfl, post_law laidOut hW' rfl (by kernel_rfl) rfl Tryd.underlying4 rfl hb⟩
theorem sizes_row : Rows.UnpackSizesSaid :=
  OpenClaim.holds_of_wide 14 Tryd.f14 rfl rfl rfl rfl rfl rfl rfl ⟨rfl, rfl, rfl, rfl, rfl⟩ rfl rfl rfl rfl rfl (by kernel_rfl) Tryd.func14 (by kernel_rfl)
    (of_decide_eq_true (by kernel_rfl)) (by unfold Func.isWrapper; first | (rw [if_pos (by decide +kernel)]; kernel_rfl) | (rw [if_neg (by decide +kernel)]; exact ⟨rfl, rfl⟩))
    (fun os started H enc _ => qzaap os started H enc)
theorem sizes_holds : Rows.UnpackSizesCardSaid :=
  Claim7.holds_tied_plain_at .later [] _ _ _ _ sizes_row (fun _ h => by cases h) (by kernel_rfl) (fun _ h => by cases h) unpackSizes_row_tie rfl ⟨rfl, rfl⟩ (by kernel_rfl) rfl
    (fun f fn hf hfn => by
      obtain rfl : f = 14 := Option.some.inj ((show Tryd.prog.funcNamed "causey/causeylaw10.UnpackSizes" = some 14 by kernel_rfl).symm.trans hf) |>.symm
      obtain rfl : fn = Tryd.f14 := (Option.some.inj (Tryd.func14.symm.trans hfn)).symm
      exact ⟨by kernel_rfl, fun j t ht => by
        rw [Tryd.params14] at ht
        have hm : t ∈ [24, 3, 3, 3, 26] := by simpa using Array.mem_of_getElem? ht
        have hall : ([24, 3, 3, 3, 26].all fun u => !Tryd.prog.wantsStandIn u) = true := by kernel_rfl
        exact (show Tryd.prog.wantsStandIn t = false by simpa using List.all_eq_true.1 hall t hm)⟩)
    (by kernel_rfl)
#print axioms sizes_holds
end Go.Proofs.YtdbnbknghhpbiaaDoor
