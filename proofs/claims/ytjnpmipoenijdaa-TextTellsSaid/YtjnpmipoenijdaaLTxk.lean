/- The functions of texts tell what the document tells: the law TextTells returns true for every input. No condition. -/
import Derived.Test.YtjnpmipoenijdaaRows
import Derived.Test.YtjnpmipoenijdaaH1
import Derived.Test.YtjnpmipoenijdaaT2
namespace Go.Proofs.Ytjnpmipoenijdaa
open Go Cz Go.ChangeShapes Go.WideShapes Go.ChangeAt Go.RowKit
set_option linter.unusedSimpArgs false
set_option linter.unusedVariables false

theorem own : ownKnob Try.prog.godebug = none := by kernel_rfl
theorem laidOut : laidOutB Try.prog = true := by kernel_rfl
theorem pks_0 : pks Try.prog 3 9 = some [.s] := by kernel_rfl
theorem pks_1 : pks Try.prog 3 5 = some [.i .u8] := by kernel_rfl

set_option maxRecDepth 100000 in
theorem ttells_lifted (os : Os) (started : os.Started) (H : Type) (enc : TypeId × Value → H) :
    ReturnsInHanded {} Try.checked os 8 .any (Rows.textTellsSpec.pre6 enc Try.prog Try.f8 Rows.textTellsRow.domain false) (Rows.textTellsSpec.post enc Try.prog Try.f8 false true false false) := by
  refine returnsInHanded_of_change (C := Try.checked) own started (by kernel_rfl) Try.func8
    (ChangeSpec.witness6 (enc := enc) (C := Try.checked) false ⟨#[], #[.string ⟨#[]⟩, .slice none 0 0], []⟩ 8 (by kernel_rfl) (by kernel_rfl) (by kernel_rfl) (by kernel_rfl)) ?_
  intro W base args ds gs before hval0 hW hcnd _
  have hval : ∀ (j : Nat) t v, Try.f8.params[j]? = some t → args[j]? = some v → Value.okWide Try.prog W .any base t v := hval0
  have hW' := hW
  obtain ⟨p, q, hA0, hV, hbef, hfz, hnd⟩ := hW
  have hA : DataW.TrodAll enc Try.prog W 0 (fun _ => true) true Try.f8.params.toList args.toList ds p := hA0
  rw [Try.params8] at hA hval
  obtain ⟨v0, vs0, d0, ds0, p0, q0, hargs, rfl, rfl, h0, r0⟩ := trodAll_cons hA
  obtain ⟨v1, vs1, d1, ds1, p1, q1, rfl, rfl, rfl, h1, r1⟩ := trodAll_cons r0
  obtain ⟨rfl, rfl, rfl⟩ := trodAll_nil r1
  obtain rfl : args = #[v0, v1] := by cases args; simp_all
  obtain ⟨rfl, rfl⟩ := trodVars_none hV
  obtain ⟨c0, rfl⟩ := okWide_string Try.underlying9 (hval 0 9 v0 rfl rfl)
  obtain ⟨c1, len1, cap1, rfl⟩ := okWide_slice Try.underlying22 (hval 1 22 v1 rfl rfl)
  obtain ⟨fu0, hf0⟩ := h0
  obtain ⟨fu1, hf1⟩ := h1
  obtain ⟨s0, hk0, hd0⟩ := open_plain 3 9 _ fu0 _ _ pks_0 hf0
  obtain ⟨x0, rfl, hx0⟩ := pkVs_one hk0
  obtain ⟨x, rfl⟩ := hx0
  obtain ⟨b, vw1, good1, hb1, hv1, hd1⟩ := open_rows (ec := by1) (good := fun v => 0 ≤ v ∧ v < 256) Try.underlying22 pks_1 (by kernel_rfl) (by decide) (fun svs h => pk1 h) (fun _ => rfl) hf1
  have hR : Rel Try.prog W.heap.size W (upd (fun _ => []) 0 [vw1]) [.r true false (.l 0) 1 (cellsB b)] W := ((Rel.start W).addRo (sz := 1) (by decide) (cellsB_plain b) hb1 hv1 (by simp [Blk.wr]))
  have hd' : denL (upd (fun _ => []) 0 [vw1]) [.s x, .sl 0 1 (.l 0) (.y (ilen b)) none] [Value.string c0, Value.slice c1 len1 cap1] := by
    simp only [denL, den]
    exact ⟨(by have := denL_one (hd0 (upd (fun _ => []) 0 [vw1])); simp only [den] at this; exact this), by have := hd1 (upd (fun _ => []) 0 [vw1]) 0 (by simp [upd]); simp only [den] at this; exact this, trivial⟩
  refine (law_calls I.fn_causeylaw08_TextTells (ttells_law x b good1) hR hd').mono fun e W' ⟨he, hb⟩ => ?_
  subst he
  exact ⟨_, rfl, post_law laidOut hW' rfl (by kernel_rfl) rfl Try.underlying4 rfl hb⟩

theorem ttells_holds : Rows.TextTellsSaid :=
  OpenClaim.holds_of_wide 8 Try.f8 rfl rfl rfl rfl rfl rfl rfl ⟨rfl, rfl, rfl, rfl, rfl⟩ rfl rfl rfl rfl rfl (by kernel_rfl) Try.func8 (by kernel_rfl)
    (of_decide_eq_true (by kernel_rfl)) (by unfold Func.isWrapper; first | (rw [if_pos (by decide +kernel)]; kernel_rfl) | (rw [if_neg (by decide +kernel)]; exact ⟨rfl, rfl⟩))
    (fun os started H enc _ => ttells_lifted os started H enc)
#print axioms ttells_holds
end Go.Proofs.Ytjnpmipoenijdaa
