/- Which configurations, which settings may be, new ones, ours, what comes, acks, how much a window moved: the law SettingTells returns true for every input. No condition. -/
import Derived.Test.YtpidadlehhcngaaRows
import Derived.Test.YtpidadlehhcngaaCzT9
namespace Go.Proofs.Ytpidadlehhcngaa
open Go Cz Go.ChangeShapes Go.WideShapes Go.ChangeAt Go.RowKit
set_option linter.unusedSimpArgs false
set_option linter.unusedVariables false

theorem own : ownKnob Try.prog.godebug = none := by kernel_rfl
theorem laidOut : laidOutB Try.prog = true := by kernel_rfl
theorem pks9 : pks Try.prog 3 25 = some ks9 := by kernel_rfl
theorem pks3 : pks Try.prog 3 23 = some [.i .i64, .i .i64, .i .i64] := by kernel_rfl
theorem pks2 : pks Try.prog 3 51 = some [.i .u16, .i .u32] := by kernel_rfl

set_option maxRecDepth 100000 in
theorem tells_lifted (os : Os) (started : os.Started) (H : Type) (enc : TypeId × Value → H) :
    ReturnsInHanded {} Try.checked os 3 .any (Rows.settingTellsSpec.pre6 enc Try.prog Try.f3 Rows.settingTellsRow.domain false) (Rows.settingTellsSpec.post enc Try.prog Try.f3 false true false false) := by
  refine returnsInHanded_of_change (C := Try.checked) own started (by kernel_rfl) Try.func3
    (ChangeSpec.witness6 (enc := enc) (C := Try.checked) false ⟨#[], #[.agg #[.int .i64 0, .int .i64 0, .int .i64 0], .agg #[.bool false, .int .i64 0, .int .i64 0, .int .i64 0, .int .i64 0, .bool false, .bool false, .int .i64 0, .int .i64 0], .agg #[.bool false, .int .i64 0, .int .i64 0, .int .i64 0, .int .i64 0, .bool false, .bool false, .int .i64 0, .int .i64 0], .slice none 0 0], []⟩ 8 (by kernel_rfl) (by kernel_rfl) (by kernel_rfl) (by kernel_rfl)) ?_
  intro W base args ds gs before hval0 hW hcnd _
  have hval : ∀ (j : Nat) t v, Try.f3.params[j]? = some t → args[j]? = some v → Value.okWide Try.prog W .any base t v := hval0
  have hW' := hW
  obtain ⟨p, q, hA0, hV, hbef, hfz, hnd⟩ := hW
  have hA : DataW.TrodAll enc Try.prog W 0 (fun _ => true) true Try.f3.params.toList args.toList ds p := hA0
  rw [Try.params3] at hA hval
  obtain ⟨v0, vs0, d0, ds0, p0, q0, hargs, rfl, rfl, h0, r0⟩ := trodAll_cons hA
  obtain ⟨v1, vs1, d1, ds1, p1, q1, rfl, rfl, rfl, h1, r1⟩ := trodAll_cons r0
  obtain ⟨v2, vs2, d2, ds2, p2, q2, rfl, rfl, rfl, h2, r2⟩ := trodAll_cons r1
  obtain ⟨v3, vs3, d3, ds3, p3, q3, rfl, rfl, rfl, h3, r3⟩ := trodAll_cons r2
  obtain ⟨rfl, rfl, rfl⟩ := trodAll_nil r3
  obtain rfl : args = #[v0, v1, v2, v3] := by cases args; simp_all
  obtain ⟨rfl, rfl⟩ := trodVars_none hV
  obtain ⟨c0, rfl, _⟩ := okWide_struct Try.underlying23 (hval 0 23 v0 rfl rfl)
  obtain ⟨c1, rfl, _⟩ := okWide_struct Try.underlying25 (hval 1 25 v1 rfl rfl)
  obtain ⟨c2, rfl, _⟩ := okWide_struct Try.underlying25 (hval 2 25 v2 rfl rfl)
  obtain ⟨a3, len3, cap3, rfl⟩ := okWide_slice Try.underlying26 (hval 3 26 v3 rfl rfl)
  obtain ⟨fu0, hf0⟩ := h0
  obtain ⟨fu1, hf1⟩ := h1
  obtain ⟨fu2, hf2⟩ := h2
  obtain ⟨fu3, hf3⟩ := h3
  obtain ⟨s0, hk0, hd0⟩ := open_plain 3 23 _ fu0 _ _ pks3 hf0
  obtain ⟨s1, hk1, hd1⟩ := open_plain 3 25 _ fu1 _ _ pks9 hf1
  obtain ⟨s2, hk2, hd2⟩ := open_plain 3 25 _ fu2 _ _ pks9 hf2
  obtain ⟨a, b, c, e0⟩ := pk3 hk0
  obtain ⟨s, e1, _⟩ := pk9 hk1
  obtain ⟨o, e2, _⟩ := pk9 hk2
  obtain ⟨l, vw, hg, hb, hv, hd3⟩ := open_rows (ec := pr) (good := fun p => 0 ≤ p.1 ∧ p.1 < 65536 ∧ 0 ≤ p.2 ∧ p.2 < 4294967296) Try.underlying26 pks2 (by kernel_rfl) (by decide) (fun svs h => pk2 h) (fun _ => rfl) hf3
  have hR : Rel Try.prog W.heap.size W (upd (fun _ => []) 0 [vw]) [.r true false (.l 0) 2 (cellsP l)] W :=
    (Rel.start W).addRo (sz := 2) (by decide) (cellsP_plain l) hb hv (by simp)
  have hd' : denL (upd (fun _ => []) 0 [vw]) [cf a b c, s.sv, o.sv, .sl 0 2 (.l 0) (.y (ilen l)) none] [Value.agg c0, Value.agg c1, Value.agg c2, Value.slice a3 len3 cap3] := by
    rw [← e0, ← e1, ← e2]
    simp only [denL, den]
    exact ⟨⟨c0, rfl, hd0 _⟩, ⟨c1, rfl, hd1 _⟩, ⟨c2, rfl, hd2 _⟩, by have := hd3 (upd (fun _ => []) 0 [vw]) 0 (by rw [upd_same]; simp); simp only [den] at this; exact this, trivial⟩
  refine (law_calls I.fn_causeylaw21_SettingTells (tells_law a b c s o l hg (ilen l) rfl (cellsP l) rfl) hR hd').mono fun e W' ⟨he, hb⟩ => ?_
  subst he
  exact ⟨_, rfl, post_law laidOut hW' rfl (by kernel_rfl) rfl Try.underlying4 rfl hb⟩

theorem tells_holds : Rows.SettingTellsSaid :=
  OpenClaim.holds_of_wide 3 Try.f3 rfl rfl rfl rfl rfl rfl rfl ⟨rfl, rfl, rfl, rfl, rfl⟩ rfl rfl rfl rfl rfl (by kernel_rfl) Try.func3 (by kernel_rfl)
    (of_decide_eq_true (by kernel_rfl)) (by unfold Func.isWrapper; first | (rw [if_pos (by decide +kernel)]; kernel_rfl) | (rw [if_neg (by decide +kernel)]; exact ⟨rfl, rfl⟩))
    (fun os started H enc _ => tells_lifted os started H enc)
#print axioms tells_holds
end Go.Proofs.Ytpidadlehhcngaa
