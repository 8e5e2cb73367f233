/- What is told of two blocks, one behind the other, is what is told of both as one: the law UnpackParts returns true for every input. No condition. -/
import Derived.Test.YtdbnbknghhpbiaaDoorKV7
import Derived.Test.YtdbnbknghhpbiaaDoorKVhUnA1
import Derived.Test.YtdbnbknghhpbiaaDoorKVhUnA2
import Derived.Test.YtdbnbknghhpbiaaDoorKVhUnA3a
import Derived.Test.YtdbnbknghhpbiaaDoorKVhUnA3b
import Derived.Test.YtdbnbknghhpbiaaDoorKVhUnA3c
import Derived.LaidMore
import Derived.Lay
import Derived.SevenTiedAt
import Derived.Stop.Joined
import Derived.Test.YtdbnbknghhpbiaaDoorRows
import Derived.Test.YtdbnbknghhpbiaaDoorCards
import Derived.Test.YtdbnbknghhpbiaaDoorTie
set_option linter.unusedSimpArgs false
set_option linter.unusedVariables false
set_option maxRecDepth 100000
set_option maxHeartbeats 4000000
namespace Cz
open Go Go.RowKit Go.Proofs
namespace Pa
open Tb
theorem uparts_f {mx most : Int} {l : List Fd} {a b : List Int} (hs : shortL l) (hm0 : ilen l ≤ 140737488355328) (ha : Hu.BOk a) (hb : Hu.BOk b) (hal : ilen a ≤ 140737488355328) (hbl : ilen b ≤ 140737488355328) :
    (S0 Tryd.prog).call 12 [tabV mx l, .i .i64 (.y most), .v false 1 (cellsB a) (.y (ilen a)), .v false 1 (cellsB b) (.y (ilen b))] [] (fun y _ => Sub y .tt) := by
  by_cases hall : rightL mx l = true ∧ (0 ≤ most ∧ most ≤ 4096) ∧ ilen a ≤ 1000 ∧ ilen b ≤ 1000 ∧ (goU most ⟨a, mx, l, [], 0⟩).1 = 0
  · obtain ⟨hR, ⟨v0, v1⟩, v2, v3, he⟩ := hall
    obtain ⟨⟨e, s⟩, hgo⟩ : ∃ r, goU most ⟨a, mx, l, [], 0⟩ = r := ⟨_, rfl⟩
    rw [hgo] at he
    dsimp only at he
    subst he
    obtain ⟨⟨f, t⟩, hgo2⟩ : ∃ r, goU most ⟨b, s.mx, s.l, [], 0⟩ = r := ⟨_, rfl⟩
    by_cases hf : f = 0
    · by_cases hq : (32 ≤ b.getD 0 0 ∧ b.getD 0 0 < 64) ∨ 2000 < s.size ∨ 2000 < t.size
      · exact up_q hs hm0 ha hb hR v0 v1 v2 v3 hgo hgo2 hf hq
      · by_cases h1 : 1 ≤ ilen b
        · by_cases h2 : b.getD 0 0 < 32
          · exact up_b hs hm0 ha hb hR v0 v1 v2 v3 hgo hgo2 hf hq ⟨h1, h2⟩
          · exact up_c hs hm0 ha hb hR v0 v1 v2 v3 hgo hgo2 hf hq ⟨h1, by
              rcases Int.lt_or_le (b.getD 0 0) 64 with h | h
              · exact absurd (.inl ⟨by omega, h⟩) hq
              · exact h⟩
        · exact up_a hs hm0 ha hb hR v0 v1 v2 v3 hgo hgo2 hf hq (by have := qaf b; omega)
    · exact up_err hs hm0 ha hb hR v0 v1 v2 v3 hgo hgo2 hf
  unfold tabV
  generalize hF : cellsF l = F
  obtain ⟨m, hm⟩ : ∃ m, m = ilen l := ⟨_, rfl⟩
  generalize hA : cellsB a = A
  obtain ⟨na, hna⟩ : ∃ m, m = ilen a := ⟨_, rfl⟩
  generalize hB : cellsB b = B
  obtain ⟨nb, hnb⟩ : ∃ m, m = ilen b := ⟨_, rfl⟩
  have ha0 := qaf a
  have hb0 := qaf b
  rw [← hm, ← hna, ← hnb]
  generalize hS : S0 Tryd.prog = S
  refine qac hS I.qat ?_
  cbv
  refine qgb hS (.v (z := .y mx) (n := .y m) rfl hF hm) hs hm0 ?_ (fun g1 g2 => ?_) <;> cbv
  · refine qbi hS ?_
    cbv
    exact .rfl
  by_cases hR : rightL mx l = true
  case neg =>
    refine qcm hS (.v (z := .y mx) (n := .y m) rfl hF hm) (mx := mx) (t := false) (by simpa using hR) (by omega) ?_
    cbv
    repeat' (first
      | (refine qbr hS rfl ?_; try cbv)
      | (refine s_ck hS ?_; try cbv)
      | (refine qab hS ?_ ?_ <;> intro h <;> (try cbv) <;> try exact s_ab h)
      | (refine s_ad hS ?_; intro _ _; try cbv)
      | (refine s_sb hS ?_; intro _ _; try cbv)
      | (refine qau hS ?_; intro _ _; try cbv)
      | (refine qae hS ?_; try cbv)
      | (refine qbi hS ?_; cbv)
      | (refine qbs hS ?_; try cbv)
      | (refine s_lk hS ?_; try cbv)
      | (refine s_mu hS ?_; try cbv)
      | fail)
    exact .rfl
  refine qcm hS (.v (z := .y mx) (n := .y m) rfl hF hm) hR (by omega) ?_
  cbv
  by_cases hv : (0 ≤ most ∧ most ≤ 4096) ∧ na ≤ 1000 ∧ nb ≤ 1000
  case neg =>
    repeat' (first
      | (refine qbr hS rfl ?_; try cbv)
      | (refine s_ck hS ?_; try cbv)
      | (refine qab hS ?_ ?_ <;> intro h <;> (try cbv) <;> try exact s_ab h)
      | (refine s_ad hS ?_; intro _ _; try cbv)
      | (refine s_sb hS ?_; intro _ _; try cbv)
      | (refine qau hS ?_; intro _ _; try cbv)
      | (refine qae hS ?_; try cbv)
      | (refine qbi hS ?_; cbv)
      | (refine qbs hS ?_; try cbv)
      | (refine s_lk hS ?_; try cbv)
      | (refine s_mu hS ?_; try cbv)
      | fail)
    all_goals first
      | exact .rfl
      | (exfalso; omega)
  obtain ⟨⟨v0, v1⟩, v2, v3⟩ := hv
  have hmR := qbn hR
  have hR' := of_decide_eq_true hR
  obtain ⟨⟨e, s⟩, hgo⟩ : ∃ r, goU most ⟨a, mx, l, [], 0⟩ = r := ⟨_, rfl⟩
  by_cases he : e = 0
  case neg =>
    have hx := qpx hR v0 v1 hgo he
    have he2 : e ≠ 2 := by have := go_e most ⟨a, mx, l, [], 0⟩; rw [hgo] at this; exact this
    repeat' (first
      | (refine qbr hS rfl ?_; try cbv)
      | (refine s_ck hS ?_; try cbv)
      | (refine qab hS ?_ ?_ <;> intro h <;> (try cbv) <;> try exact s_ab h)
      | (refine s_ad hS ?_; intro _ _; try cbv)
      | (refine s_sb hS ?_; intro _ _; try cbv)
      | (refine qau hS ?_; intro _ _; try cbv)
      | (refine qae hS ?_; try cbv)
      | (refine qbi hS ?_; cbv)
      | (refine qon hS hx (.v (z := .y mx) (n := .y m) rfl hF hm) rfl (qbe (n := .y na) hA.symm hna) ha (by omega) (by omega) (F := []) (n := 0) (R := []) (k := 0) rfl rfl rfl rfl ?_; cbv)
      | (refine qbs hS ?_; try cbv)
      | (refine s_lk hS ?_; try cbv)
      | (refine s_mu hS ?_; try cbv)
      | fail)
    all_goals first
      | exact .rfl
      | (exfalso; omega)
  subst he
  exact absurd ⟨hR, ⟨v0, v1⟩, by omega, by omega, by rw [hgo]⟩ hall
end Pa
end Cz
namespace Go.Proofs.YtdbnbknghhpbiaaDoor
open Go Cz Go.ChangeShapes Go.WideShapes Go.ChangeAt Go.RowKit
theorem own : ownKnob Tryd.prog.godebug = Option.none := by kernel_rfl
theorem laidOut : laidOutB Tryd.prog = true := by kernel_rfl
theorem pk_tab : pks Tryd.prog 4 24 = some [.i .i64, .sl [.s, .s]] := by kernel_rfl
theorem pk_i : pks Tryd.prog 4 3 = some [.i .i64] := by kernel_rfl
theorem pk_by : pks Tryd.prog 4 50 = some [.sl [.i .u8]] := by kernel_rfl
set_option maxRecDepth 100000 in
theorem qzaaz (os : Os) (started : os.Started) (H : Type) (enc : TypeId × Value → H) :
    ReturnsInHanded {} Tryd.checked os 12 .any (fun w args => (Rows.unpackPartsSpec.pre enc Tryd.prog Tryd.f12 Rows.unpackPartsRow.domain false w args ∧ laidMetH Tryd.prog Rows.unpackPartsRow.laid w) ∧ sizedMet enc Tryd.prog Tryd.f12 (OpenSpec.ofChange Rows.unpackPartsSpec) false w args)
      (Rows.unpackPartsSpec.post enc Tryd.prog Tryd.f12 false true false false) := by
  refine returnsInHanded_of_change_and (C := Tryd.checked) (X := fun w _ => laidMetH Tryd.prog Rows.unpackPartsRow.laid w) (fun _ _ _ hh h => h.of_heap hh) own started (by kernel_rfl) Tryd.func12
    (ChangeSpec.witness_shaped (enc := enc) (C := Tryd.checked) (os := os) (X := fun w _ => laidMetH Tryd.prog Rows.unpackPartsRow.laid w) false (World.laidAll Tryd.prog os Rows.unpackPartsRow.laid) #[.agg #[.int .i64 0, .slice none 0 0], .int .i64 0, .slice none 0 0, .slice none 0 0] 8 (World.laidAll_os _ _ _)
      (World.shaped_of_ZipB (by kernel_rfl) (by kernel_rfl)) (by kernel_rfl) (by kernel_rfl) (by kernel_rfl)
      (by rw [MakeChecks.laidMetH_plain _ _ _ (by kernel_rfl)]; exact laidMet_laidAll _ (by kernel_rfl) (by kernel_rfl))) ?_
  intro W base args ds gs before hval0 hW _ hsz _ _
  have hval : ∀ (j : Nat) t v, Tryd.f12.params[j]? = some t → args[j]? = some v → Value.okWide Tryd.prog W .any base t v := hval0
  have hW' := hW
  obtain ⟨p, q, hA0, hV, hbef, hfz, hnd⟩ := hW
  have hA : DataW.TrodAll enc Tryd.prog W 0 (fun _ => true) true Tryd.f12.params.toList args.toList ds p := hA0
  rw [Tryd.params12] at hA hval
  obtain ⟨v0, vs0, d0, ds0, p0, q0, hargs, rfl, rfl, h0, r0⟩ := trodAll_cons hA
  obtain ⟨v1, vs1, d1, ds1, p1, q1, rfl, rfl, rfl, h1, r1⟩ := trodAll_cons r0
  obtain ⟨v2, vs2, d2, ds2, p2, q2, rfl, rfl, rfl, h2, r2⟩ := trodAll_cons r1
  obtain ⟨v3, vs3, d3, ds3, p3, q3, rfl, rfl, rfl, h3, r3⟩ := trodAll_cons r2
  obtain ⟨rfl, rfl, rfl⟩ := trodAll_nil r3
  obtain rfl : args = #[v0, v1, v2, v3] := by cases args; simp_all
  obtain ⟨rfl, rfl⟩ := trodVars_none hV
  obtain ⟨c0, rfl, _⟩ := okWide_struct Tryd.underlying24 (hval 0 24 v0 rfl rfl)
  obtain ⟨fu0, hf0⟩ := h0
  obtain ⟨c1, rfl⟩ := okWide_int Tryd.underlying3 (hval 1 3 v1 rfl rfl)
  obtain ⟨fu1, hf1⟩ := h1
  obtain ⟨c2, len2, cap2, rfl⟩ := okWide_slice Tryd.underlying50 (hval 2 50 v2 rfl rfl)
  obtain ⟨fu2, hf2⟩ := h2
  obtain ⟨c3, len3, cap3, rfl⟩ := okWide_slice Tryd.underlying50 (hval 3 50 v3 rfl rfl)
  obtain ⟨fu3, hf3⟩ := h3
  obtain ⟨s0, hk0, hd0⟩ := qdq 4 24 _ fu0 _ _ pk_tab hf0 fun n hn => of_decide_eq_true (List.all_eq_true.1 hsz n (DataW.weights_mem_each (j := 0) (by kernel_rfl) (by first | rfl | simp) n hn))
  obtain ⟨mx, l, rfl, lo_mx, hi_mx, hl_l, hs_l⟩ := Tb.op_tab hk0
  obtain ⟨s1, hk1, hd1⟩ := qdq 4 3 _ fu1 _ _ pk_i hf1 fun n hn => of_decide_eq_true (List.all_eq_true.1 hsz n (DataW.weights_mem_each (j := 1) (by kernel_rfl) (by first | rfl | simp) n hn))
  obtain ⟨most, rfl, lo_most, hi_most⟩ := Tb.op_i hk1
  obtain ⟨s2, hk2, hd2⟩ := qdq 4 50 _ fu2 _ _ pk_by hf2 fun n hn => of_decide_eq_true (List.all_eq_true.1 hsz n (DataW.weights_mem_each (j := 2) (by kernel_rfl) (by first | rfl | simp) n hn))
  obtain ⟨a, rfl, hl_a, hb_a⟩ := Tb.op_by hk2
  obtain ⟨s3, hk3, hd3⟩ := qdq 4 50 _ fu3 _ _ pk_by hf3 fun n hn => of_decide_eq_true (List.all_eq_true.1 hsz n (DataW.weights_mem_each (j := 3) (by kernel_rfl) (by first | rfl | simp) n hn))
  obtain ⟨b, rfl, hl_b, hb_b⟩ := Tb.op_by hk3
  have hd' : denL (nmW W) [Tb.tabV mx l, .i .i64 (.y most), .v false 1 (cellsB a) (.y (ilen a)), .v false 1 (cellsB b) (.y (ilen b))] [Value.agg c0, Value.int .i64 c1, Value.slice c2 len2 cap2, Value.slice c3 len3 cap3] := by
    simp only [denL]
    exact ⟨(by simp only [Tb.tabV, den]; exact ⟨c0, rfl, hd0⟩), qhz hd1, qhz hd2, qhz hd3, trivial⟩
  refine (qzabg I.qat (Pa.uparts_f hs_l hl_l hb_a hb_b hl_a hl_b) hd').mono fun e W' ⟨he, hb⟩ => ?_
  subst he
  exact ⟨_, rfl, post_law laidOut hW' rfl (by kernel_rfl) rfl Tryd.underlying4 rfl hb⟩
theorem parts_row : Rows.UnpackPartsSaid :=
  OpenClaim.holds_of_wide 12 Tryd.f12 rfl rfl rfl rfl rfl rfl rfl ⟨rfl, rfl, rfl, rfl, rfl⟩ rfl rfl rfl rfl rfl (by kernel_rfl) Tryd.func12 (by kernel_rfl)
    (of_decide_eq_true (by kernel_rfl)) (by unfold Func.isWrapper; first | (rw [if_pos (by decide +kernel)]; kernel_rfl) | (rw [if_neg (by decide +kernel)]; exact ⟨rfl, rfl⟩))
    (fun os started H enc _ => qzaaz os started H enc)
theorem parts_holds : Rows.UnpackPartsCardSaid :=
  Claim7.holds_tied_plain_at .later [] _ _ _ _ parts_row (fun _ h => by cases h) (by kernel_rfl) (fun _ h => by cases h) unpackParts_row_tie rfl ⟨rfl, rfl⟩ (by kernel_rfl) rfl
    (fun f fn hf hfn => by
      obtain rfl : f = 12 := Option.some.inj ((show Tryd.prog.funcNamed "causey/causeylaw10.UnpackParts" = some 12 by kernel_rfl).symm.trans hf) |>.symm
      obtain rfl : fn = Tryd.f12 := (Option.some.inj (Tryd.func12.symm.trans hfn)).symm
      exact ⟨by kernel_rfl, fun j t ht => by
        rw [Tryd.params12] at ht
        have hm : t ∈ [24, 3, 50, 50] := by simpa using Array.mem_of_getElem? ht
        have hall : ([24, 3, 50, 50].all fun u => !Tryd.prog.wantsStandIn u) = true := by kernel_rfl
        exact (show Tryd.prog.wantsStandIn t = false by simpa using List.all_eq_true.1 hall t hm)⟩)
    (by kernel_rfl)
#print axioms parts_holds
end Go.Proofs.YtdbnbknghhpbiaaDoor
