/- No code begins another one, nor the end: the law HuffApart returns true for every input. No condition. -/
import Derived.Test.YtjnpmipoenijdaaRows
import Derived.Test.YtjnpmipoenijdaaCzHz
import Derived.Test.YtjnpmipoenijdaaCzHu
namespace Go.Proofs.Ytjnpmipoenijdaa
open Go Cz Go.ChangeShapes Go.WideShapes Go.ChangeAt Go.RowKit
set_option linter.unusedSimpArgs false
set_option linter.unusedVariables false

theorem own : ownKnob Try.prog.godebug = none := by kernel_rfl
theorem laidOut : laidOutB Try.prog = true := by kernel_rfl
theorem pks_0 : pks Try.prog 3 5 = some [.i .u8] := by kernel_rfl
theorem pks_1 : pks Try.prog 3 5 = some [.i .u8] := by kernel_rfl

set_option maxRecDepth 100000 in
theorem apart_lifted (os : Os) (started : os.Started) (H : Type) (enc : TypeId × Value → H) :
    ReturnsInHanded {} Try.checked os 4 .any (Rows.huffApartSpec.pre6 enc Try.prog Try.f4 Rows.huffApartRow.domain false) (Rows.huffApartSpec.post enc Try.prog Try.f4 false true false false) := by
  refine returnsInHanded_of_change (C := Try.checked) own started (by kernel_rfl) Try.func4
    (ChangeSpec.witness6 (enc := enc) (C := Try.checked) false ⟨#[], #[.int .u8 0, .int .u8 0], []⟩ 8 (by kernel_rfl) (by kernel_rfl) (by kernel_rfl) (by kernel_rfl)) ?_
  intro W base args ds gs before hval0 hW hcnd _
  have hval : ∀ (j : Nat) t v, Try.f4.params[j]? = some t → args[j]? = some v → Value.okWide Try.prog W .any base t v := hval0
  have hW' := hW
  obtain ⟨p, q, hA0, hV, hbef, hfz, hnd⟩ := hW
  have hA : DataW.TrodAll enc Try.prog W 0 (fun _ => true) true Try.f4.params.toList args.toList ds p := hA0
  rw [Try.params4] at hA hval
  obtain ⟨v0, vs0, d0, ds0, p0, q0, hargs, rfl, rfl, h0, r0⟩ := trodAll_cons hA
  obtain ⟨v1, vs1, d1, ds1, p1, q1, rfl, rfl, rfl, h1, r1⟩ := trodAll_cons r0
  obtain ⟨rfl, rfl, rfl⟩ := trodAll_nil r1
  obtain rfl : args = #[v0, v1] := by cases args; simp_all
  obtain ⟨rfl, rfl⟩ := trodVars_none hV
  obtain ⟨c0, rfl⟩ := okWide_int Try.underlying5 (hval 0 5 v0 rfl rfl)
  obtain ⟨c1, rfl⟩ := okWide_int Try.underlying5 (hval 1 5 v1 rfl rfl)
  obtain ⟨fu0, hf0⟩ := h0
  obtain ⟨fu1, hf1⟩ := h1
  obtain ⟨s0, hk0, hd0⟩ := open_plain 3 5 _ fu0 _ _ pks_0 hf0
  obtain ⟨x0, rfl, hx0⟩ := pkVs_one hk0
  obtain ⟨c, rfl, bd0⟩ := hx0
  obtain ⟨s1, hk1, hd1⟩ := open_plain 3 5 _ fu1 _ _ pks_1 hf1
  obtain ⟨x1, rfl, hx1⟩ := pkVs_one hk1
  obtain ⟨d, rfl, bd1⟩ := hx1
  have hd' : denL (fun _ => []) [.i .u8 (.y c), .i .u8 (.y d)] [Value.int .u8 c0, Value.int .u8 c1] := by
    simp only [denL, den]
    exact ⟨(by have := denL_one (hd0 (fun _ => [])); simp only [den] at this; exact this), (by have := denL_one (hd1 (fun _ => [])); simp only [den] at this; exact this), trivial⟩
  refine (law_calls I.fn_causeylaw07_HuffApart (apart_law c d (u8b bd0) (u8b bd1)) (Rel.start W) hd').mono fun e W' ⟨he, hb⟩ => ?_
  subst he
  exact ⟨_, rfl, post_law laidOut hW' rfl (by kernel_rfl) rfl Try.underlying4 rfl hb⟩

theorem apart_holds : Rows.HuffApartSaid :=
  OpenClaim.holds_of_wide 4 Try.f4 rfl rfl rfl rfl rfl rfl rfl ⟨rfl, rfl, rfl, rfl, rfl⟩ rfl rfl rfl rfl rfl (by kernel_rfl) Try.func4 (by kernel_rfl)
    (of_decide_eq_true (by kernel_rfl)) (by unfold Func.isWrapper; first | (rw [if_pos (by decide +kernel)]; kernel_rfl) | (rw [if_neg (by decide +kernel)]; exact ⟨rfl, rfl⟩))
    (fun os started H enc _ => apart_lifted os started H enc)
#print axioms apart_holds
end Go.Proofs.Ytjnpmipoenijdaa
