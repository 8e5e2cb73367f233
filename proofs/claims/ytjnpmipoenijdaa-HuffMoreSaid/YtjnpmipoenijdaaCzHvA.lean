/- A whole byte of ones more is no text: the law HuffMore returns true for every input. No condition. -/
import Derived.Test.YtjnpmipoenijdaaRows
import Derived.Test.YtjnpmipoenijdaaCzHz
import Derived.Test.YtjnpmipoenijdaaCzHv
namespace Go.Proofs.Ytjnpmipoenijdaa
open Go Cz Go.ChangeShapes Go.WideShapes Go.ChangeAt Go.RowKit
set_option linter.unusedSimpArgs false
set_option linter.unusedVariables false

theorem own : ownKnob Try.prog.godebug = none := by kernel_rfl
theorem laidOut : laidOutB Try.prog = true := by kernel_rfl
theorem pks_0 : pks Try.prog 3 5 = some [.i .u8] := by kernel_rfl

set_option maxRecDepth 100000 in
theorem more_lifted (os : Os) (started : os.Started) (H : Type) (enc : TypeId × Value → H) :
    ReturnsInHanded {} Try.checked os 7 .any (Rows.huffMoreSpec.pre6 enc Try.prog Try.f7 Rows.huffMoreRow.domain false) (Rows.huffMoreSpec.post enc Try.prog Try.f7 false true false false) := by
  refine returnsInHanded_of_change (C := Try.checked) own started (by kernel_rfl) Try.func7
    (ChangeSpec.witness6 (enc := enc) (C := Try.checked) false ⟨#[], #[.slice none 0 0], []⟩ 8 (by kernel_rfl) (by kernel_rfl) (by kernel_rfl) (by kernel_rfl)) ?_
  intro W base args ds gs before hval0 hW hcnd _
  have hval : ∀ (j : Nat) t v, Try.f7.params[j]? = some t → args[j]? = some v → Value.okWide Try.prog W .any base t v := hval0
  have hW' := hW
  obtain ⟨p, q, hA0, hV, hbef, hfz, hnd⟩ := hW
  have hA : DataW.TrodAll enc Try.prog W 0 (fun _ => true) true Try.f7.params.toList args.toList ds p := hA0
  rw [Try.params7] at hA hval
  obtain ⟨v0, vs0, d0, ds0, p0, q0, hargs, rfl, rfl, h0, r0⟩ := trodAll_cons hA
  obtain ⟨rfl, rfl, rfl⟩ := trodAll_nil r0
  obtain rfl : args = #[v0] := by cases args; simp_all
  obtain ⟨rfl, rfl⟩ := trodVars_none hV
  obtain ⟨c0, len0, cap0, rfl⟩ := okWide_slice Try.underlying22 (hval 0 22 v0 rfl rfl)
  obtain ⟨fu0, hf0⟩ := h0
  obtain ⟨b, vw0, good0, hb0, hv0, hd0⟩ := open_rows (ec := by1) (good := fun v => 0 ≤ v ∧ v < 256) Try.underlying22 pks_0 (by kernel_rfl) (by decide) (fun svs h => pk1 h) (fun _ => rfl) hf0
  have hR : Rel Try.prog W.heap.size W (upd (fun _ => []) 0 [vw0]) [.r true false (.l 0) 1 (cellsB b)] W := ((Rel.start W).addRo (sz := 1) (by decide) (cellsB_plain b) hb0 hv0 (by simp [Blk.wr]))
  have hd' : denL (upd (fun _ => []) 0 [vw0]) [.sl 0 1 (.l 0) (.y (ilen b)) none] [Value.slice c0 len0 cap0] := by
    simp only [denL, den]
    exact ⟨by have := hd0 (upd (fun _ => []) 0 [vw0]) 0 (by simp [upd]); simp only [den] at this; exact this, trivial⟩
  refine (law_calls I.fn_causeylaw07_HuffMore (more_law b good0) hR hd').mono fun e W' ⟨he, hb⟩ => ?_
  subst he
  exact ⟨_, rfl, post_law laidOut hW' rfl (by kernel_rfl) rfl Try.underlying4 rfl hb⟩

theorem more_holds : Rows.HuffMoreSaid :=
  OpenClaim.holds_of_wide 7 Try.f7 rfl rfl rfl rfl rfl rfl rfl ⟨rfl, rfl, rfl, rfl, rfl⟩ rfl rfl rfl rfl rfl (by kernel_rfl) Try.func7 (by kernel_rfl)
    (of_decide_eq_true (by kernel_rfl)) (by unfold Func.isWrapper; first | (rw [if_pos (by decide +kernel)]; kernel_rfl) | (rw [if_neg (by decide +kernel)]; exact ⟨rfl, rfl⟩))
    (fun os started H enc _ => more_lifted os started H enc)
#print axioms more_holds
end Go.Proofs.Ytjnpmipoenijdaa
