/- Settings that may be stay so, and of each Id the last one counts: the law SettingLast returns true for every input. No condition. -/
import Derived.Test.YtpidadlehhcngaaRows
import Derived.Test.YtpidadlehhcngaaCzT11
namespace Go.Proofs.Ytpidadlehhcngaa
open Go Cz Go.ChangeShapes Go.WideShapes Go.ChangeAt Go.RowKit
set_option linter.unusedSimpArgs false
set_option linter.unusedVariables false

theorem own : ownKnob Try.prog.godebug = none := by kernel_rfl
theorem laidOut : laidOutB Try.prog = true := by kernel_rfl
theorem pks_0 : pks Try.prog 3 25 = some ks9 := by kernel_rfl
theorem pks_1 : pks Try.prog 3 51 = some [.i .u16, .i .u32] := by kernel_rfl

set_option maxRecDepth 100000 in
theorem last_lifted (os : Os) (started : os.Started) (H : Type) (enc : TypeId × Value → H) :
    ReturnsInHanded {} Try.checked os 4 .any (Rows.settingLastSpec.pre6 enc Try.prog Try.f4 Rows.settingLastRow.domain false) (Rows.settingLastSpec.post enc Try.prog Try.f4 false true false false) := by
  refine returnsInHanded_of_change (C := Try.checked) own started (by kernel_rfl) Try.func4
    (ChangeSpec.witness6 (enc := enc) (C := Try.checked) false ⟨#[], #[.agg #[.bool false, .int .i64 0, .int .i64 0, .int .i64 0, .int .i64 0, .bool false, .bool false, .int .i64 0, .int .i64 0], .slice none 0 0], []⟩ 8 (by kernel_rfl) (by kernel_rfl) (by kernel_rfl) (by kernel_rfl)) ?_
  intro W base args ds gs before hval0 hW hcnd _
  have hval : ∀ (j : Nat) t v, Try.f4.params[j]? = some t → args[j]? = some v → Value.okWide Try.prog W .any base t v := hval0
  have hW' := hW
  obtain ⟨p, q, hA0, hV, hbef, hfz, hnd⟩ := hW
  have hA : DataW.TrodAll enc Try.prog W 0 (fun _ => true) true Try.f4.params.toList args.toList ds p := hA0
  rw [Try.params4] at hA hval
  obtain ⟨v0, vs0, d0, ds0, p0, q0, hargs, rfl, rfl, h0, r0⟩ := trodAll_cons hA
  obtain ⟨v1, vs1, d1, ds1, p1, q1, rfl, rfl, rfl, h1, r1⟩ := trodAll_cons r0
  obtain ⟨rfl, rfl, rfl⟩ := trodAll_nil r1
  obtain rfl : args = #[v0, v1] := by cases args; simp_all
  obtain ⟨rfl, rfl⟩ := trodVars_none hV
  obtain ⟨c0, rfl, _⟩ := okWide_struct Try.underlying25 (hval 0 25 v0 rfl rfl)
  obtain ⟨c1, len1, cap1, rfl⟩ := okWide_slice Try.underlying26 (hval 1 26 v1 rfl rfl)
  obtain ⟨fu0, hf0⟩ := h0
  obtain ⟨fu1, hf1⟩ := h1
  obtain ⟨s0, hk0, hd0⟩ := open_plain 3 25 _ fu0 _ _ pks_0 hf0
  obtain ⟨s, e0, _⟩ := pk9 hk0
  obtain ⟨l1, vw1, good1, hb1, hv1, hd1⟩ := open_rows (ec := pr) (good := fun p => 0 ≤ p.1 ∧ p.1 < 65536 ∧ 0 ≤ p.2 ∧ p.2 < 4294967296) Try.underlying26 pks_1 (by kernel_rfl) (by decide) (fun svs h => pk2 h) (fun _ => rfl) hf1
  have hR : Rel Try.prog W.heap.size W (upd (fun _ => []) 0 [vw1]) [.r true false (.l 0) 2 (cellsP l1)] W := ((Rel.start W).addRo (sz := 2) (by decide) (cellsP_plain l1) hb1 hv1 (by simp [Blk.wr]))
  have hd' : denL (upd (fun _ => []) 0 [vw1]) [s.sv, .sl 0 2 (.l 0) (.y (ilen l1)) none] [Value.agg c0, Value.slice c1 len1 cap1] := by
    rw [← e0]
    simp only [denL, den]
    exact ⟨⟨c0, rfl, hd0 _⟩, by have := hd1 (upd (fun _ => []) 0 [vw1]) 0 (by simp [upd]); simp only [den] at this; exact this, trivial⟩
  refine (law_calls I.fn_causeylaw21_SettingLast (last_law s l1 good1 (ilen l1) rfl (cellsP l1) rfl) hR hd').mono fun e W' ⟨he, hb⟩ => ?_
  subst he
  exact ⟨_, rfl, post_law laidOut hW' rfl (by kernel_rfl) rfl Try.underlying4 rfl hb⟩

theorem last_holds : Rows.SettingLastSaid :=
  OpenClaim.holds_of_wide 4 Try.f4 rfl rfl rfl rfl rfl rfl rfl ⟨rfl, rfl, rfl, rfl, rfl⟩ rfl rfl rfl rfl rfl (by kernel_rfl) Try.func4 (by kernel_rfl)
    (of_decide_eq_true (by kernel_rfl)) (by unfold Func.isWrapper; first | (rw [if_pos (by decide +kernel)]; kernel_rfl) | (rw [if_neg (by decide +kernel)]; exact ⟨rfl, rfl⟩))
    (fun os started H enc _ => last_lifted os started H enc)
#print axioms last_holds
end Go.Proofs.Ytpidadlehhcngaa
