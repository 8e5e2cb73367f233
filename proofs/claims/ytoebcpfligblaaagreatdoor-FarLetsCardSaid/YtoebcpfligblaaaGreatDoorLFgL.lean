/- How many bytes may come of a stream, and that DATA is read just if it has no more than that: the law FarLets returns true for every input. No condition. -/
import Derived.Test.YtoebcpfligblaaaGreatDoorKF6
import Derived.Test.YtoebcpfligblaaaGreatDoorKFhFa8
import Derived.Test.YtoebcpfligblaaaGreatDoorKFhFa9
import Derived.Test.YtoebcpfligblaaaGreatDoorKFhFb2
import Derived.Test.YtoebcpfligblaaaGreatDoorKFhFb3
import Derived.Test.YtoebcpfligblaaaGreatDoorKFhFa7
import Derived.Test.YtoebcpfligblaaaGreatDoorKFhFc1
import Derived.Test.YtoebcpfligblaaaGreatDoorKFhFx3
import Derived.Test.YtoebcpfligblaaaGreatDoorKFhFx4
import Derived.Test.YtoebcpfligblaaaGreatDoorKFhFx5
import Derived.Test.YtoebcpfligblaaaGreatDoorKFhFw9
import Derived.Test.YtoebcpfligblaaaGreatDoorKFhFr2
import Derived.Test.YtoebcpfligblaaaGreatDoorKFhFg1
import Derived.Test.YtoebcpfligblaaaGreatDoorKFhFg2
import Derived.LaidMore
import Derived.Lay
import Derived.SevenTiedAt
import Derived.Stop.Joined
import Derived.Test.YtoebcpfligblaaaGreatDoorRows
import Derived.Test.YtoebcpfligblaaaGreatDoorCards
import Derived.Test.YtoebcpfligblaaaGreatDoorTie
set_option linter.unusedSimpArgs false
set_option linter.unusedVariables false
set_option maxRecDepth 100000
set_option maxHeartbeats 4000000
namespace Cz
open Go Go.RowKit Go.Proofs
namespace Fa
theorem law_g {w inc whole n : Int} (hg : 2147483647 < w ∨ inc < 1 ∨ 2147483647 < inc ∨ whole < 1 ∨ 2147483647 < whole ∨ n < 0 ∨ 16384 < n) : (S0 Tryz.prog).call 3 [.i .u32 (.y w), .i .i64 (.y inc), .i .i64 (.y whole), .i .i64 (.y n)] [] (fun x _ => Sub x .tt) := by
  generalize hS : S0 Tryz.prog = S
  refine qaa hS I.qda ?_
  cbv
  repeat' (first
    | (refine qhk hS rfl ?_; try cbv)
    | (refine qdo hS ?_; cbv)
    | (refine s_brn hS ?_; cbv)
    | (refine s_brm hS ?_; cbv)
    | (refine s_brs hS ?_; cbv)
    | (refine s_brs' hS ?_; cbv)
    | (refine qbz hS ?_; cbv)
    | (refine qdr hS ?_; cbv)
    | (refine s_nl hS ?_; cbv)
    | (refine qkw hS rfl ?_; cbv)
    | (refine s_ck hS ?_; try cbv)
    | (refine qcz hS ?_ ?_ <;> intro h <;> (try cbv) <;> try exact s_ab h)
    | (refine s_ad hS ?_; intro _ _; try cbv)
    | (refine s_sb hS ?_; intro _ _; try cbv)
    | (refine s_stl hS ?_; intro _ _; try cbv)
    | (refine qme hS ?_; try cbv)
    | (refine qac hS ?_; cbv)
    | (refine qjh hS rfl rfl ?_; cbv)
    | (refine qzx hS ?_; cbv)
    | (refine qrj hS ?_; try cbv)
    | (refine s_lk hS ?_; try cbv)
    | (refine s_mu hS ?_; try cbv)
    | fail)
  all_goals exact .rfl
theorem lets_f {w inc whole n : Int} (lo_w : 0 ≤ w) : (S0 Tryz.prog).call 3 [.i .u32 (.y w), .i .i64 (.y inc), .i .i64 (.y whole), .i .i64 (.y n)] [] (fun x _ => Sub x .tt) := by
  by_cases hg : 2147483647 < w ∨ inc < 1 ∨ 2147483647 < inc ∨ whole < 1 ∨ 2147483647 < whole ∨ n < 0 ∨ 16384 < n
  · exact law_g hg
  · by_cases hq : n = 0 ∨ (n ≤ inc + w ∧ n ≤ 65535 + whole)
    · exact law_t (b0 := n % 256) (b1 := n / 256 % 256) (b2 := n / 65536) (N := n + 9) (by omega) (by omega) (by omega) (by omega) rfl rfl rfl rfl hq
    · exact law_n (b0 := n % 256) (b1 := n / 256 % 256) (b2 := n / 65536) (N := n + 9) (by omega) (by omega) (by omega) (by omega) rfl rfl rfl rfl (by omega)
end Fa
end Cz
namespace Go.Proofs.YtoebcpfligblaaaGreatDoor
open Go Cz Go.ChangeShapes Go.WideShapes Go.ChangeAt Go.RowKit
theorem own : ownKnob Tryz.prog.godebug = Option.none := by kernel_rfl
theorem laidOut : laidOutB Tryz.prog = true := by kernel_rfl
theorem pk_u : pks Tryz.prog 4 22 = some [.i .u32] := by kernel_rfl
theorem pk_i : pks Tryz.prog 4 3 = some [.i .i64] := by kernel_rfl
set_option maxRecDepth 100000 in
theorem qzaan (os : Os) (started : os.Started) (H : Type) (enc : TypeId × Value → H) :
    ReturnsInHanded {} Tryz.checked os 3 .any (fun w args => (Rows.farLetsSpec.pre enc Tryz.prog Tryz.f3 Rows.farLetsRow.domain false w args ∧ laidMetH Tryz.prog Rows.farLetsRow.laid w) ∧ sizedMet enc Tryz.prog Tryz.f3 (OpenSpec.ofChange Rows.farLetsSpec) false w args)
      (Rows.farLetsSpec.post enc Tryz.prog Tryz.f3 false true false false) := by
  refine returnsInHanded_of_change_and (C := Tryz.checked) (X := fun w _ => laidMetH Tryz.prog Rows.farLetsRow.laid w) (fun _ _ _ hh h => h.of_heap hh) own started (by kernel_rfl) Tryz.func3
    (ChangeSpec.witness_shaped (enc := enc) (C := Tryz.checked) (os := os) (X := fun w _ => laidMetH Tryz.prog Rows.farLetsRow.laid w) false (World.laidAll Tryz.prog os Rows.farLetsRow.laid) #[.int .u32 0, .int .i64 0, .int .i64 0, .int .i64 0] 8 (World.laidAll_os _ _ _)
      (World.shaped_of_ZipB (by kernel_rfl) (by kernel_rfl)) (by kernel_rfl) (by kernel_rfl) (by kernel_rfl)
      (by rw [MakeChecks.laidMetH_plain _ _ _ (by kernel_rfl)]; exact laidMet_laidAll _ (by kernel_rfl) (by kernel_rfl))) ?_
  intro W base args ds gs before hval0 hW _ hsz _ _
  have hval : ∀ (j : Nat) t v, Tryz.f3.params[j]? = some t → args[j]? = some v → Value.okWide Tryz.prog W .any base t v := hval0
  have hW' := hW
  obtain ⟨p, q, hA0, hV, hbef, hfz, hnd⟩ := hW
  have hA : DataW.TrodAll enc Tryz.prog W 0 (fun _ => true) true Tryz.f3.params.toList args.toList ds p := hA0
  rw [Tryz.params3] at hA hval
  obtain ⟨v0, vs0, d0, ds0, p0, q0, hargs, rfl, rfl, h0, r0⟩ := trodAll_cons hA
  obtain ⟨v1, vs1, d1, ds1, p1, q1, rfl, rfl, rfl, h1, r1⟩ := trodAll_cons r0
  obtain ⟨v2, vs2, d2, ds2, p2, q2, rfl, rfl, rfl, h2, r2⟩ := trodAll_cons r1
  obtain ⟨v3, vs3, d3, ds3, p3, q3, rfl, rfl, rfl, h3, r3⟩ := trodAll_cons r2
  obtain ⟨rfl, rfl, rfl⟩ := trodAll_nil r3
  obtain rfl : args = #[v0, v1, v2, v3] := by cases args; simp_all
  obtain ⟨rfl, rfl⟩ := trodVars_none hV
  obtain ⟨c0, rfl⟩ := okWide_int Tryz.underlying22 (hval 0 22 v0 rfl rfl)
  obtain ⟨fu0, hf0⟩ := h0
  obtain ⟨c1, rfl⟩ := okWide_int Tryz.underlying3 (hval 1 3 v1 rfl rfl)
  obtain ⟨fu1, hf1⟩ := h1
  obtain ⟨c2, rfl⟩ := okWide_int Tryz.underlying3 (hval 2 3 v2 rfl rfl)
  obtain ⟨fu2, hf2⟩ := h2
  obtain ⟨c3, rfl⟩ := okWide_int Tryz.underlying3 (hval 3 3 v3 rfl rfl)
  obtain ⟨fu3, hf3⟩ := h3
  obtain ⟨s0, hk0, hd0⟩ := qip 4 22 _ fu0 _ _ pk_u hf0 fun n hn => of_decide_eq_true (List.all_eq_true.1 hsz n (DataW.weights_mem_each (j := 0) (by kernel_rfl) (by first | rfl | simp) n hn))
  obtain ⟨w, rfl, lo_w, hi_w⟩ := Fa.op_u hk0
  obtain ⟨s1, hk1, hd1⟩ := qip 4 3 _ fu1 _ _ pk_i hf1 fun n hn => of_decide_eq_true (List.all_eq_true.1 hsz n (DataW.weights_mem_each (j := 1) (by kernel_rfl) (by first | rfl | simp) n hn))
  obtain ⟨inc, rfl, lo_inc, hi_inc⟩ := Fa.op_i hk1
  obtain ⟨s2, hk2, hd2⟩ := qip 4 3 _ fu2 _ _ pk_i hf2 fun n hn => of_decide_eq_true (List.all_eq_true.1 hsz n (DataW.weights_mem_each (j := 2) (by kernel_rfl) (by first | rfl | simp) n hn))
  obtain ⟨whole, rfl, lo_whole, hi_whole⟩ := Fa.op_i hk2
  obtain ⟨s3, hk3, hd3⟩ := qip 4 3 _ fu3 _ _ pk_i hf3 fun n hn => of_decide_eq_true (List.all_eq_true.1 hsz n (DataW.weights_mem_each (j := 3) (by kernel_rfl) (by first | rfl | simp) n hn))
  obtain ⟨n, rfl, lo_n, hi_n⟩ := Fa.op_i hk3
  have hd' : denL (nmW W) [.i .u32 (.y w), .i .i64 (.y inc), .i .i64 (.y whole), .i .i64 (.y n)] [Value.int .u32 c0, Value.int .i64 c1, Value.int .i64 c2, Value.int .i64 c3] := by
    simp only [denL]
    exact ⟨qqz hd0, qqz hd1, qqz hd2, qqz hd3, trivial⟩
  refine (law_calls I.qda (Fa.lets_f lo_w) hd').mono fun e W' ⟨he, hb⟩ => ?_
  subst he
  exact ⟨_, rfl, post_law laidOut hW' rfl (by kernel_rfl) rfl Tryz.underlying4 rfl hb⟩
theorem lets_row : Rows.FarLetsSaid :=
  OpenClaim.holds_of_wide 3 Tryz.f3 rfl rfl rfl rfl rfl rfl rfl ⟨rfl, rfl, rfl, rfl, rfl⟩ rfl rfl rfl rfl rfl (by kernel_rfl) Tryz.func3 (by kernel_rfl)
    (of_decide_eq_true (by kernel_rfl)) (by unfold Func.isWrapper; first | (rw [if_pos (by decide +kernel)]; kernel_rfl) | (rw [if_neg (by decide +kernel)]; exact ⟨rfl, rfl⟩))
    (fun os started H enc _ => qzaan os started H enc)
theorem lets_holds : Rows.FarLetsCardSaid :=
  Claim7.holds_tied_plain_at .later [] _ _ _ _ lets_row (fun _ h => by cases h) (by kernel_rfl) (fun _ h => by cases h) farLets_row_tie rfl ⟨rfl, rfl⟩ (by kernel_rfl) rfl
    (fun f fn hf hfn => by
      obtain rfl : f = 3 := Option.some.inj ((show Tryz.prog.funcNamed "causey/causeylaw30.FarLets" = some 3 by kernel_rfl).symm.trans hf) |>.symm
      obtain rfl : fn = Tryz.f3 := (Option.some.inj (Tryz.func3.symm.trans hfn)).symm
      exact ⟨by kernel_rfl, fun j t ht => by
        rw [Tryz.params3] at ht
        have hm : t ∈ [22, 3, 3, 3] := by simpa using Array.mem_of_getElem? ht
        have hall : ([22, 3, 3, 3].all fun u => !Tryz.prog.wantsStandIn u) = true := by kernel_rfl
        exact (show Tryz.prog.wantsStandIn t = false by simpa using List.all_eq_true.1 hall t hm)⟩)
    (by kernel_rfl)
#print axioms lets_holds
end Go.Proofs.YtoebcpfligblaaaGreatDoor
