/- That an ack is taken just where one of ours waits: the law SettingAcks returns true for every settings. No condition. -/
import Derived.Test.YtpidadlehhcngaaRows
import Derived.Test.YtpidadlehhcngaaCzT8
namespace Go.Proofs.Ytpidadlehhcngaa
open Go Cz Go.ChangeShapes Go.WideShapes Go.ChangeAt Go.RowKit
set_option linter.unusedSimpArgs false
set_option linter.unusedVariables false

theorem own : ownKnob Try.prog.godebug = none := by kernel_rfl
theorem laidOut : laidOutB Try.prog = true := by kernel_rfl
theorem pks9 : pks Try.prog 3 25 = some ks9 := by kernel_rfl

set_option maxRecDepth 100000 in
theorem acks_lifted (os : Os) (started : os.Started) (H : Type) (enc : TypeId × Value → H) :
    ReturnsInHanded {} Try.checked os 6 .any (Rows.settingAcksSpec.pre6 enc Try.prog Try.f6 Rows.settingAcksRow.domain false) (Rows.settingAcksSpec.post enc Try.prog Try.f6 false true false false) := by
  refine returnsInHanded_of_change (C := Try.checked) own started (by kernel_rfl) Try.func6
    (ChangeSpec.witness6 (enc := enc) (C := Try.checked) false ⟨#[], #[.agg #[.bool false, .int .i64 0, .int .i64 0, .int .i64 0, .int .i64 0, .bool false, .bool false, .int .i64 0, .int .i64 0]], []⟩ 8 (by kernel_rfl) (by kernel_rfl) (by kernel_rfl) (by kernel_rfl)) ?_
  intro W base args ds gs before hval0 hW hcnd _
  have hval : ∀ (j : Nat) t v, Try.f6.params[j]? = some t → args[j]? = some v → Value.okWide Try.prog W .any base t v := hval0
  have hW' := hW
  obtain ⟨p, q, hA0, hV, hbef, hfz, hnd⟩ := hW
  have hA : DataW.TrodAll enc Try.prog W 0 (fun _ => true) true Try.f6.params.toList args.toList ds p := hA0
  rw [Try.params6] at hA hval
  obtain ⟨v0, vs0, d0, ds0, p0, q0, hargs, rfl, rfl, h0, r0⟩ := trodAll_cons hA
  obtain ⟨rfl, rfl, rfl⟩ := trodAll_nil r0
  obtain rfl : args = #[v0] := by cases args; simp_all
  obtain ⟨rfl, rfl⟩ := trodVars_none hV
  obtain ⟨cs, rfl, _⟩ := okWide_struct Try.underlying25 (hval 0 25 v0 rfl rfl)
  obtain ⟨fuel, hf⟩ := h0
  obtain ⟨svs, hk, hd⟩ := open_plain 3 25 ks9 fuel _ _ pks9 hf
  obtain ⟨s, hs, _⟩ := pk9 hk
  have hd' : denL (fun _ => []) [s.sv] [Value.agg cs] := by
    rw [← hs]
    simp only [denL, den]
    exact ⟨⟨cs, rfl, hd _⟩, trivial⟩
  refine (law_calls I.fn_causeylaw21_SettingAcks (acks_law s) (Rel.start W) hd').mono fun e W' ⟨he, hb⟩ => ?_
  subst he
  exact ⟨_, rfl, post_law laidOut hW' rfl (by kernel_rfl) rfl Try.underlying4 rfl hb⟩

theorem acks_holds : Rows.SettingAcksSaid :=
  OpenClaim.holds_of_wide 6 Try.f6 rfl rfl rfl rfl rfl rfl rfl ⟨rfl, rfl, rfl, rfl, rfl⟩ rfl rfl rfl rfl rfl (by kernel_rfl) Try.func6 (by kernel_rfl)
    (of_decide_eq_true (by kernel_rfl)) (by unfold Func.isWrapper; first | (rw [if_pos (by decide +kernel)]; kernel_rfl) | (rw [if_neg (by decide +kernel)]; exact ⟨rfl, rfl⟩))
    (fun os started H enc _ => acks_lifted os started H enc)
#print axioms acks_holds
end Go.Proofs.Ytpidadlehhcngaa
