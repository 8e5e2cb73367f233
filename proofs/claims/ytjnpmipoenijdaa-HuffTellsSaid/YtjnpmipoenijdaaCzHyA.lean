/- The functions tell what the document tells: the law HuffTells returns true for every input. No condition. -/
import Derived.Test.YtjnpmipoenijdaaRows
import Derived.Test.YtjnpmipoenijdaaCzHz
import Derived.Test.YtjnpmipoenijdaaCzHy
namespace Go.Proofs.Ytjnpmipoenijdaa
open Go Cz Go.ChangeShapes Go.WideShapes Go.ChangeAt Go.RowKit
set_option linter.unusedSimpArgs false
set_option linter.unusedVariables false

theorem own : ownKnob Try.prog.godebug = none := by kernel_rfl
theorem laidOut : laidOutB Try.prog = true := by kernel_rfl
theorem pks_0 : pks Try.prog 3 5 = some [.i .u8] := by kernel_rfl
theorem pks_1 : pks Try.prog 3 3 = some [.i .i64] := by kernel_rfl
theorem pks_2 : pks Try.prog 3 3 = some [.i .i64] := by kernel_rfl
theorem pks_3 : pks Try.prog 3 5 = some [.i .u8] := by kernel_rfl
theorem pks_4 : pks Try.prog 3 5 = some [.i .u8] := by kernel_rfl

set_option maxRecDepth 100000 in
theorem htells_lifted (os : Os) (started : os.Started) (H : Type) (enc : TypeId × Value → H) :
    ReturnsInHanded {} Try.checked os 3 .any (Rows.huffTellsSpec.pre6 enc Try.prog Try.f3 Rows.huffTellsRow.domain false) (Rows.huffTellsSpec.post enc Try.prog Try.f3 false true false false) := by
  refine returnsInHanded_of_change (C := Try.checked) own started (by kernel_rfl) Try.func3
    (ChangeSpec.witness6 (enc := enc) (C := Try.checked) false ⟨#[], #[.int .u8 0, .int .i64 0, .int .i64 0, .slice none 0 0, .slice none 0 0], []⟩ 8 (by kernel_rfl) (by kernel_rfl) (by kernel_rfl) (by kernel_rfl)) ?_
  intro W base args ds gs before hval0 hW hcnd _
  have hval : ∀ (j : Nat) t v, Try.f3.params[j]? = some t → args[j]? = some v → Value.okWide Try.prog W .any base t v := hval0
  have hW' := hW
  obtain ⟨p, q, hA0, hV, hbef, hfz, hnd⟩ := hW
  have hA : DataW.TrodAll enc Try.prog W 0 (fun _ => true) true Try.f3.params.toList args.toList ds p := hA0
  rw [Try.params3] at hA hval
  obtain ⟨v0, vs0, d0, ds0, p0, q0, hargs, rfl, rfl, h0, r0⟩ := trodAll_cons hA
  obtain ⟨v1, vs1, d1, ds1, p1, q1, rfl, rfl, rfl, h1, r1⟩ := trodAll_cons r0
  obtain ⟨v2, vs2, d2, ds2, p2, q2, rfl, rfl, rfl, h2, r2⟩ := trodAll_cons r1
  obtain ⟨v3, vs3, d3, ds3, p3, q3, rfl, rfl, rfl, h3, r3⟩ := trodAll_cons r2
  obtain ⟨v4, vs4, d4, ds4, p4, q4, rfl, rfl, rfl, h4, r4⟩ := trodAll_cons r3
  obtain ⟨rfl, rfl, rfl⟩ := trodAll_nil r4
  obtain rfl : args = #[v0, v1, v2, v3, v4] := by cases args; simp_all
  obtain ⟨rfl, rfl⟩ := trodVars_none hV
  obtain ⟨c0, rfl⟩ := okWide_int Try.underlying5 (hval 0 5 v0 rfl rfl)
  obtain ⟨c1, rfl⟩ := okWide_int Try.underlying3 (hval 1 3 v1 rfl rfl)
  obtain ⟨c2, rfl⟩ := okWide_int Try.underlying3 (hval 2 3 v2 rfl rfl)
  obtain ⟨c3, len3, cap3, rfl⟩ := okWide_slice Try.underlying22 (hval 3 22 v3 rfl rfl)
  obtain ⟨c4, len4, cap4, rfl⟩ := okWide_slice Try.underlying22 (hval 4 22 v4 rfl rfl)
  obtain ⟨fu0, hf0⟩ := h0
  obtain ⟨fu1, hf1⟩ := h1
  obtain ⟨fu2, hf2⟩ := h2
  obtain ⟨fu3, hf3⟩ := h3
  obtain ⟨fu4, hf4⟩ := h4
  obtain ⟨s0, hk0, hd0⟩ := open_plain 3 5 _ fu0 _ _ pks_0 hf0
  obtain ⟨x0, rfl, hx0⟩ := pkVs_one hk0
  obtain ⟨c, rfl, bd0⟩ := hx0
  obtain ⟨s1, hk1, hd1⟩ := open_plain 3 3 _ fu1 _ _ pks_1 hf1
  obtain ⟨x1, rfl, hx1⟩ := pkVs_one hk1
  obtain ⟨code, rfl, bd1⟩ := hx1
  obtain ⟨s2, hk2, hd2⟩ := open_plain 3 3 _ fu2 _ _ pks_2 hf2
  obtain ⟨x2, rfl, hx2⟩ := pkVs_one hk2
  obtain ⟨many, rfl, bd2⟩ := hx2
  obtain ⟨b, vw3, good3, hb3, hv3, hd3⟩ := open_rows (ec := by1) (good := fun v => 0 ≤ v ∧ v < 256) Try.underlying22 pks_3 (by kernel_rfl) (by decide) (fun svs h => pk1 h) (fun _ => rfl) hf3
  obtain ⟨d, vw4, good4, hb4, hv4, hd4⟩ := open_rows (ec := by1) (good := fun v => 0 ≤ v ∧ v < 256) Try.underlying22 pks_4 (by kernel_rfl) (by decide) (fun svs h => pk1 h) (fun _ => rfl) hf4
  have hR : Rel Try.prog W.heap.size W (upd (upd (fun _ => []) 0 [vw3]) 1 [vw4]) [.r true false (.l 0) 1 (cellsB b), .r true false (.l 0) 1 (cellsB d)] W := (((Rel.start W).addRo (sz := 1) (by decide) (cellsB_plain b) hb3 hv3 (by simp [Blk.wr])).addRo (sz := 1) (by decide) (cellsB_plain d) hb4 hv4 (by simp [Blk.wr]))
  have hd' : denL (upd (upd (fun _ => []) 0 [vw3]) 1 [vw4]) [.i .u8 (.y c), .i .i64 (.y code), .i .i64 (.y many), .sl 0 1 (.l 0) (.y (ilen b)) none, .sl 1 1 (.l 0) (.y (ilen d)) none] [Value.int .u8 c0, Value.int .i64 c1, Value.int .i64 c2, Value.slice c3 len3 cap3, Value.slice c4 len4 cap4] := by
    simp only [denL, den]
    exact ⟨(by have := denL_one (hd0 (upd (upd (fun _ => []) 0 [vw3]) 1 [vw4])); simp only [den] at this; exact this), (by have := denL_one (hd1 (upd (upd (fun _ => []) 0 [vw3]) 1 [vw4])); simp only [den] at this; exact this), (by have := denL_one (hd2 (upd (upd (fun _ => []) 0 [vw3]) 1 [vw4])); simp only [den] at this; exact this), by have := hd3 (upd (upd (fun _ => []) 0 [vw3]) 1 [vw4]) 0 (by simp [upd]); simp only [den] at this; exact this, by have := hd4 (upd (upd (fun _ => []) 0 [vw3]) 1 [vw4]) 1 (by simp [upd]); simp only [den] at this; exact this, trivial⟩
  refine (law_calls I.fn_causeylaw07_HuffTells (htells_law c code many b d (u8b bd0) good3 good4) hR hd').mono fun e W' ⟨he, hb⟩ => ?_
  subst he
  exact ⟨_, rfl, post_law laidOut hW' rfl (by kernel_rfl) rfl Try.underlying4 rfl hb⟩

theorem htells_holds : Rows.HuffTellsSaid :=
  OpenClaim.holds_of_wide 3 Try.f3 rfl rfl rfl rfl rfl rfl rfl ⟨rfl, rfl, rfl, rfl, rfl⟩ rfl rfl rfl rfl rfl (by kernel_rfl) Try.func3 (by kernel_rfl)
    (of_decide_eq_true (by kernel_rfl)) (by unfold Func.isWrapper; first | (rw [if_pos (by decide +kernel)]; kernel_rfl) | (rw [if_neg (by decide +kernel)]; exact ⟨rfl, rfl⟩))
    (fun os started H enc _ => htells_lifted os started H enc)
#print axioms htells_holds
end Go.Proofs.Ytjnpmipoenijdaa
