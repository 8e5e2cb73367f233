/- As many acks may go out as settings came, and no more: the law SettingOwes returns true for every input. No condition. -/
import Derived.Test.YtpidadlehhcngaaRows
import Derived.Test.YtpidadlehhcngaaCzT10
namespace Go.Proofs.Ytpidadlehhcngaa
open Go Cz Go.ChangeShapes Go.WideShapes Go.ChangeAt Go.RowKit
set_option linter.unusedSimpArgs false
set_option linter.unusedVariables false

theorem own : ownKnob Try.prog.godebug = none := by kernel_rfl
theorem laidOut : laidOutB Try.prog = true := by kernel_rfl
theorem pks_0 : pks Try.prog 3 25 = some ks9 := by kernel_rfl
theorem pks_1 : pks Try.prog 3 3 = some [.i .i64] := by kernel_rfl
theorem pks_2 : pks Try.prog 3 3 = some [.i .i64] := by kernel_rfl

set_option maxRecDepth 100000 in
theorem owes_lifted (os : Os) (started : os.Started) (H : Type) (enc : TypeId × Value → H) :
    ReturnsInHanded {} Try.checked os 5 .any (Rows.settingOwesSpec.pre6 enc Try.prog Try.f5 Rows.settingOwesRow.domain false) (Rows.settingOwesSpec.post enc Try.prog Try.f5 false true false false) := by
  refine returnsInHanded_of_change (C := Try.checked) own started (by kernel_rfl) Try.func5
    (ChangeSpec.witness6 (enc := enc) (C := Try.checked) false ⟨#[], #[.agg #[.bool false, .int .i64 0, .int .i64 0, .int .i64 0, .int .i64 0, .bool false, .bool false, .int .i64 0, .int .i64 0], .int .i64 0, .int .i64 0], []⟩ 8 (by kernel_rfl) (by kernel_rfl) (by kernel_rfl) (by kernel_rfl)) ?_
  intro W base args ds gs before hval0 hW hcnd _
  have hval : ∀ (j : Nat) t v, Try.f5.params[j]? = some t → args[j]? = some v → Value.okWide Try.prog W .any base t v := hval0
  have hW' := hW
  obtain ⟨p, q, hA0, hV, hbef, hfz, hnd⟩ := hW
  have hA : DataW.TrodAll enc Try.prog W 0 (fun _ => true) true Try.f5.params.toList args.toList ds p := hA0
  rw [Try.params5] at hA hval
  obtain ⟨v0, vs0, d0, ds0, p0, q0, hargs, rfl, rfl, h0, r0⟩ := trodAll_cons hA
  obtain ⟨v1, vs1, d1, ds1, p1, q1, rfl, rfl, rfl, h1, r1⟩ := trodAll_cons r0
  obtain ⟨v2, vs2, d2, ds2, p2, q2, rfl, rfl, rfl, h2, r2⟩ := trodAll_cons r1
  obtain ⟨rfl, rfl, rfl⟩ := trodAll_nil r2
  obtain rfl : args = #[v0, v1, v2] := by cases args; simp_all
  obtain ⟨rfl, rfl⟩ := trodVars_none hV
  obtain ⟨c0, rfl, _⟩ := okWide_struct Try.underlying25 (hval 0 25 v0 rfl rfl)
  obtain ⟨c1, rfl⟩ := okWide_int Try.underlying3 (hval 1 3 v1 rfl rfl)
  obtain ⟨c2, rfl⟩ := okWide_int Try.underlying3 (hval 2 3 v2 rfl rfl)
  obtain ⟨fu0, hf0⟩ := h0
  obtain ⟨fu1, hf1⟩ := h1
  obtain ⟨fu2, hf2⟩ := h2
  obtain ⟨s0, hk0, hd0⟩ := open_plain 3 25 _ fu0 _ _ pks_0 hf0
  obtain ⟨s, e0, _⟩ := pk9 hk0
  obtain ⟨s1, hk1, hd1⟩ := open_plain 3 3 _ fu1 _ _ pks_1 hf1
  obtain ⟨x1, rfl, hx1⟩ := pkVs_one hk1
  obtain ⟨n1, rfl, bd1⟩ := hx1
  obtain ⟨s2, hk2, hd2⟩ := open_plain 3 3 _ fu2 _ _ pks_2 hf2
  obtain ⟨x2, rfl, hx2⟩ := pkVs_one hk2
  obtain ⟨n2, rfl, bd2⟩ := hx2
  have hd' : denL (fun _ => []) [s.sv, .i .i64 (.y n1), .i .i64 (.y n2)] [Value.agg c0, Value.int .i64 c1, Value.int .i64 c2] := by
    rw [← e0]
    simp only [denL, den]
    exact ⟨⟨c0, rfl, hd0 _⟩, (by have := denL_one (hd1 (fun _ => [])); simp only [den] at this; exact this), (by have := denL_one (hd2 (fun _ => [])); simp only [den] at this; exact this), trivial⟩
  refine (law_calls I.fn_causeylaw21_SettingOwes (owes_law s n1 n2) (Rel.start W) hd').mono fun e W' ⟨he, hb⟩ => ?_
  subst he
  exact ⟨_, rfl, post_law laidOut hW' rfl (by kernel_rfl) rfl Try.underlying4 rfl hb⟩

theorem owes_holds : Rows.SettingOwesSaid :=
  OpenClaim.holds_of_wide 5 Try.f5 rfl rfl rfl rfl rfl rfl rfl ⟨rfl, rfl, rfl, rfl, rfl⟩ rfl rfl rfl rfl rfl (by kernel_rfl) Try.func5 (by kernel_rfl)
    (of_decide_eq_true (by kernel_rfl)) (by unfold Func.isWrapper; first | (rw [if_pos (by decide +kernel)]; kernel_rfl) | (rw [if_neg (by decide +kernel)]; exact ⟨rfl, rfl⟩))
    (fun os started H enc _ => owes_lifted os started H enc)
#print axioms owes_holds
end Go.Proofs.Ytpidadlehhcngaa
