/- What is taken is a text of so many bytes, or one of these bits: the law TextOnly returns true for every input. No condition. -/
import Derived.Test.YtjnpmipoenijdaaT2
import Derived.Test.YtjnpmipoenijdaaRows
import Derived.Test.YtjnpmipoenijdaaH1
namespace Cz
open Go Go.RowKit Go.Proofs
set_option linter.unusedSimpArgs false
set_option linter.unusedVariables false
set_option maxRecDepth 100000
set_option maxHeartbeats 4000000
/-- Bytes of a part of a row, as a text. -/
theorem s_bso {S : Sy} (hS : S0 Try.prog = S) {R T : List Int} {F : List SV} {o n : Int} {x : List UInt8} {K : List UInt8 → Prop} (hb : Hu.BOk R) (hF : cellsB R = F) (hT : part R o n = T) (h0 : 0 ≤ o) (hn0 : 0 ≤ n) (h1 : o + n ≤ ilen R) (hx : strB T = x) (h : K x) : S.bs F o n K := by
  subst hS hF hT hx
  have hl := part_len (b := R) h0 hn0 h1
  refine ⟨h0, hn0, strB (part R o n), ⟨?_, ?_⟩, h⟩
  · unfold strB; rw [List.length_map]; unfold ilen at hl; omega
  · intro q c hc
    unfold strB at hc
    rw [List.getElem?_map, Option.map_eq_some_iff] at hc
    obtain ⟨v, hv, rfl⟩ := hc
    have hq : R[o.toNat + q]? = some v := by
      unfold part at hv
      rw [List.getElem?_take] at hv
      split at hv
      · rw [List.getElem?_drop] at hv; exact hv
      · cases hv
    refine ⟨.y v, cellsB_get hq, ?_⟩
    have := hb v (List.mem_of_getElem? hq)
    simp only [Z.v, Nat.toUInt8, UInt8.toNat_ofNat']
    omega
theorem tonly_law (b : List Int) (hb : ∀ v ∈ b, 0 ≤ v ∧ v < 256) :
    (S0 Try.prog).call 10 [.sl 0 1 (.l 0) (.y (ilen b)) none] [.r true false (.l 0) 1 (cellsB b)] (fun x _ => Sub x .tt) := by
  obtain ⟨n, hn'⟩ : ∃ n, n = ilen b := ⟨_, rfl⟩
  have h0n := ilen_nn b
  rw [← hn'] at h0n ⊢
  have hpl := cellsB_plain b
  obtain ⟨N, hN⟩ : ∃ N, preN b 128 = N := ⟨_, rfl⟩
  obtain ⟨E, hE⟩ : ∃ E, preE b 128 = E := ⟨_, rfl⟩
  obtain ⟨R, hR⟩ : ∃ R, preR b 128 = R := ⟨_, rfl⟩
  have hN0 := preN_nn (p := 128) hb (by decide)
  have hRl := preR_len (b := b) (p := 128)
  have hRok := bok_preR (p := 128) hb
  rw [hN] at hN0
  rw [hR] at hRl hRok
  have hEn : b = [] → E = 10 := fun h => by rw [← hE, h]; rfl
  obtain ⟨T, hTp⟩ : ∃ T, part R 0 N = T := ⟨_, rfl⟩
  have hTok : Hu.BOk T := hTp ▸ bok_part hRok
  obtain ⟨D, hD⟩ : ∃ D, R.drop N.toNat = D := ⟨_, rfl⟩
  have hDok : Hu.BOk D := hD ▸ bok_drop hRok _
  have hq := tT_ok hb
  have c : tTake b = if E ≠ 0 then ([], [], E) else if ilen R < N then ([], [], 10) else if b.getD 0 0 < 128 then (T, D, 0) else if takeE T = 0 then (takeL T, D, 0) else ([], [], 70) := by
    unfold tTake; rw [hN, hE, hR, hTp, hD]
  generalize hF : cellsB b = F at hpl ⊢
  have hfs : FSub F (cellsB b) := by rw [hF]; exact .rfl
  generalize hS : S0 Try.prog = S
  refine call_in' hS I.fn_causeylaw08_TextOnly ?_
  cbv
  refine s_sbrr hS ?_ ?_ <;> intro h <;> cbv
  · refine wakes8_u hS ?_
    cbv
    exact .rfl
  · refine ttake_u hS (b := b) hb (by omega) rfl hfs hn' fun x1 R1 e1 F1 n1 st1 hx1 hR1 he1 hF1 hn1 => ?_
    have hT : ∀ a c d, tTake b = (a, c, d) → strB a = x1 ∧ c = R1 ∧ d = e1 := fun a c d h => ⟨by rw [← hx1]; unfold tS; rw [h], by rw [← hR1]; unfold tR; rw [h], by rw [← he1]; unfold tE; rw [h]⟩
    clear hx1 he1
    cbv
    refine rptake_u hS (b := b) 7 128 rfl hb (by omega) (by decide) (by decide) rfl rfl hfs hn' fun N2 R2 E2 F2 n2 st hN2 hR2 hE2 hF2 hn2 => ?_
    obtain rfl : N2 = N := hN2.symm.trans hN
    obtain rfl : R2 = R := hR2.symm.trans hR
    obtain rfl : E2 = E := hE2.symm.trans hE
    cbv
    refine s_sbrr hS ?_ ?_ <;> intro h1 <;> cbv
    · obtain ⟨a1, a2, a3⟩ := hT [] [] E2 (by rw [c, if_pos h1])
      have hx : x1 = [] := a1.symm
      have hn0 : n1 = 0 := by rw [hn1, ← a2]; rfl
      subst hx
      repeat' (first
        | (refine s_st hS ?_; try cbv)
        | (refine s_sbr hS ?_ ?_ <;> intro h <;> (try cbv) <;> try exact s_ab h)
        | (refine s_sta hS ?_; intro _ _; try cbv)
        | (refine s_stc hS ?_; try cbv)
        | (refine wakes8_u hS ?_; cbv))
      exact .rfl
    · refine s_sbrr hS ?_ ?_ <;> intro h2 <;> cbv
      · obtain ⟨a1, a2, a3⟩ := hT [] [] 10 (by rw [c, if_neg (by omega), if_pos (by omega)])
        have hx : x1 = [] := a1.symm
        have hn0 : n1 = 0 := by rw [hn1, ← a2]; rfl
        subst hx
        repeat' (first
          | (refine s_st hS ?_; try cbv)
          | (refine s_sbr hS ?_ ?_ <;> intro h <;> (try cbv) <;> try exact s_ab h)
          | (refine s_sta hS ?_; intro _ _; try cbv)
          | (refine s_stc hS ?_; try cbv)
          | (refine wakes8_u hS ?_; cbv))
        exact .rfl
      · have hE0 : ¬E2 ≠ 0 := by omega
        have hRN : ¬ilen R2 < N2 := by omega
        rw [if_neg hE0, if_neg hRN] at c
        have hn1' : 1 ≤ n := by
          rcases Int.lt_or_le n 1 with h1 | h1
          · exfalso
            have := hEn (List.length_eq_zero_iff.1 (by unfold ilen at hn'; omega))
            omega
          · exact h1
        obtain ⟨v, hv⟩ := at_ex (l := b) (i := 0) (by omega) (Int.le_refl 0)
        have hb0 := hb v (List.mem_of_getElem? hv)
        have hv0 : b.getD 0 0 = v := by rw [List.getD_eq_getElem?_getD]; simp at hv; rw [hv]; rfl
        rw [hv0] at c
        have hTl : ilen T = N2 := by rw [← hTp]; exact part_len (by decide) hN0 (by omega)
        have hmi : S.mi n2 N2 = n2 - N2 := by rw [← hS]; rfl
        have hm0 : 0 ≤ S.mi n2 N2 := by omega
        have hm1 : N2 + S.mi n2 N2 ≤ ilen R2 := by omega
        have hpd : part R2 N2 (S.mi n2 N2) = D := by rw [part_drop hN0 (by omega), hD]
        repeat' (first
          | (refine s_st hS ?_; try cbv)
          | (refine s_sbr hS ?_ ?_ <;> intro h <;> (try cbv) <;> try exact s_ab h)
          | (refine s_sta hS ?_; intro _ _; try cbv)
          | (refine s_stc hS ?_; try cbv))
        refine rowB hS hF hv rfl (Int.le_refl 0) ?_
        cbv
        refine s_sbrr hS ?_ ?_ <;> intro h3 <;> cbv
        · obtain ⟨a1, a2, a3⟩ := hT T D 0 (by rw [c, if_pos h3])
          repeat' (first
            | (refine s_st hS ?_; try cbv)
            | (refine s_sbr hS ?_ ?_ <;> intro h <;> (try cbv) <;> try exact s_ab h)
            | (refine s_sta hS ?_; intro _ _; try cbv)
            | (refine s_stc hS ?_; try cbv))
          refine s_bso hS (o := 0) hRok hF2 hTp (Int.le_refl 0) hN0 (by omega) a1 ?_
          cbv
          repeat' (first
            | (refine s_st hS ?_; try cbv)
            | (refine s_sbr hS ?_ ?_ <;> intro h <;> (try cbv) <;> try exact s_ab h)
            | (refine s_sta hS ?_; intro _ _; try cbv)
            | (refine s_stc hS ?_; try cbv))
          refine call_in' hS I.fn_causeylaw08_same ?_
          cbv
          refine s_bsx hS (x := strB D) (a2 ▸ hDok) hF1 hn1 (by rw [a2]) ?_
          generalize hz : strB D = z
          cbv
          refine s_bso hS (o := N2) (n := S.mi n2 N2) (T := D) (x := z) hRok hF2 hpd hN0 hm0 hm1 hz ?_
          cbv
          repeat' (first
            | (refine s_st hS ?_; try cbv)
            | (refine s_sbr hS ?_ ?_ <;> intro h <;> (try cbv) <;> try exact s_ab h)
            | (refine s_sta hS ?_; intro _ _; try cbv)
            | (refine s_stc hS ?_; try cbv)
            | (refine wakes8_u hS ?_; cbv))
          exact .rfl
        · rw [if_neg h3] at c
          refine rtake_cut hS (n := N2) hRok (by omega) rfl (by rw [hF2]; exact .rfl) rfl hN0 (by omega) hTp fun L F5 n5 st5 e5 hL hF5 hn5 he5 => ?_
          rw [hL, he5] at c
          cbv
          refine s_sbrr hS ?_ ?_ <;> intro h4 <;> cbv
          · rw [if_neg h4] at c
            obtain ⟨a1, a2, a3⟩ := hT [] [] 70 c
            have h70 : e5 = 70 := by
              rcases takeE_cases T with h1 | ⟨h1, _⟩ <;> omega
            have hx : x1 = [] := a1.symm
            have hn0 : n1 = 0 := by rw [hn1, ← a2]; rfl
            subst hx
            repeat' (first
              | (refine s_st hS ?_; try cbv)
              | (refine s_sbr hS ?_ ?_ <;> intro h <;> (try cbv) <;> try exact s_ab h)
              | (refine s_sta hS ?_; intro _ _; try cbv)
              | (refine s_stc hS ?_; try cbv)
              | (refine wakes8_u hS ?_; cbv))
            exact .rfl
          · rw [if_pos h4] at c
            obtain ⟨a1, a2, a3⟩ := hT L D 0 c
            repeat' (first
              | (refine s_st hS ?_; try cbv)
              | (refine s_sbr hS ?_ ?_ <;> intro h <;> (try cbv) <;> try exact s_ab h)
              | (refine s_sta hS ?_; intro _ _; try cbv)
              | (refine s_stc hS ?_; try cbv))
            refine s_bsx hS (hL ▸ takeL_bok hTok) hF5 hn5 a1 ?_
            cbv
            repeat' (first
              | (refine s_st hS ?_; try cbv)
              | (refine s_sbr hS ?_ ?_ <;> intro h <;> (try cbv) <;> try exact s_ab h)
              | (refine s_sta hS ?_; intro _ _; try cbv)
              | (refine s_stc hS ?_; try cbv))
            refine call_in' hS I.fn_causeylaw08_same ?_
            cbv
            refine s_bsx hS (x := strB D) (a2 ▸ hDok) hF1 hn1 (by rw [a2]) ?_
            generalize hz : strB D = z
            cbv
            refine s_bso hS (o := N2) (n := S.mi n2 N2) (T := D) (x := z) hRok hF2 hpd hN0 hm0 hm1 hz ?_
            cbv
            repeat' (first
              | (refine s_st hS ?_; try cbv)
              | (refine s_sbr hS ?_ ?_ <;> intro h <;> (try cbv) <;> try exact s_ab h)
              | (refine s_sta hS ?_; intro _ _; try cbv)
              | (refine s_stc hS ?_; try cbv)
              | (refine wakes8_u hS ?_; cbv))
            exact .rfl
end Cz
namespace Go.Proofs.Ytjnpmipoenijdaa
open Go Cz Go.ChangeShapes Go.WideShapes Go.ChangeAt Go.RowKit
set_option linter.unusedSimpArgs false
set_option linter.unusedVariables false

theorem own : ownKnob Try.prog.godebug = none := by kernel_rfl
theorem laidOut : laidOutB Try.prog = true := by kernel_rfl
theorem pks_0 : pks Try.prog 3 5 = some [.i .u8] := by kernel_rfl

set_option maxRecDepth 100000 in
theorem tonly_lifted (os : Os) (started : os.Started) (H : Type) (enc : TypeId × Value → H) :
    ReturnsInHanded {} Try.checked os 10 .any (Rows.textOnlySpec.pre6 enc Try.prog Try.f10 Rows.textOnlyRow.domain false) (Rows.textOnlySpec.post enc Try.prog Try.f10 false true false false) := by
  refine returnsInHanded_of_change (C := Try.checked) own started (by kernel_rfl) Try.func10
    (ChangeSpec.witness6 (enc := enc) (C := Try.checked) false ⟨#[], #[.slice none 0 0], []⟩ 8 (by kernel_rfl) (by kernel_rfl) (by kernel_rfl) (by kernel_rfl)) ?_
  intro W base args ds gs before hval0 hW hcnd _
  have hval : ∀ (j : Nat) t v, Try.f10.params[j]? = some t → args[j]? = some v → Value.okWide Try.prog W .any base t v := hval0
  have hW' := hW
  obtain ⟨p, q, hA0, hV, hbef, hfz, hnd⟩ := hW
  have hA : DataW.TrodAll enc Try.prog W 0 (fun _ => true) true Try.f10.params.toList args.toList ds p := hA0
  rw [Try.params10] at hA hval
  obtain ⟨v0, vs0, d0, ds0, p0, q0, hargs, rfl, rfl, h0, r0⟩ := trodAll_cons hA
  obtain ⟨rfl, rfl, rfl⟩ := trodAll_nil r0
  obtain rfl : args = #[v0] := by cases args; simp_all
  obtain ⟨rfl, rfl⟩ := trodVars_none hV
  obtain ⟨c0, len0, cap0, rfl⟩ := okWide_slice Try.underlying22 (hval 0 22 v0 rfl rfl)
  obtain ⟨fu0, hf0⟩ := h0
  obtain ⟨b, vw0, good0, hb0, hv0, hd0⟩ := open_rows (ec := by1) (good := fun v => 0 ≤ v ∧ v < 256) Try.underlying22 pks_0 (by kernel_rfl) (by decide) (fun svs h => pk1 h) (fun _ => rfl) hf0
  have hR : Rel Try.prog W.heap.size W (upd (fun _ => []) 0 [vw0]) [.r true false (.l 0) 1 (cellsB b)] W := ((Rel.start W).addRo (sz := 1) (by decide) (cellsB_plain b) hb0 hv0 (by simp [Blk.wr]))
  have hd' : denL (upd (fun _ => []) 0 [vw0]) [.sl 0 1 (.l 0) (.y (ilen b)) none] [Value.slice c0 len0 cap0] := by
    simp only [denL, den]
    exact ⟨by have := hd0 (upd (fun _ => []) 0 [vw0]) 0 (by simp [upd]); simp only [den] at this; exact this, trivial⟩
  refine (law_calls I.fn_causeylaw08_TextOnly (tonly_law b good0) hR hd').mono fun e W' ⟨he, hb⟩ => ?_
  subst he
  exact ⟨_, rfl, post_law laidOut hW' rfl (by kernel_rfl) rfl Try.underlying4 rfl hb⟩

theorem tonly_holds : Rows.TextOnlySaid :=
  OpenClaim.holds_of_wide 10 Try.f10 rfl rfl rfl rfl rfl rfl rfl ⟨rfl, rfl, rfl, rfl, rfl⟩ rfl rfl rfl rfl rfl (by kernel_rfl) Try.func10 (by kernel_rfl)
    (of_decide_eq_true (by kernel_rfl)) (by unfold Func.isWrapper; first | (rw [if_pos (by decide +kernel)]; kernel_rfl) | (rw [if_neg (by decide +kernel)]; exact ⟨rfl, rfl⟩))
    (fun os started H enc _ => tonly_lifted os started H enc)
#print axioms tonly_holds
end Go.Proofs.Ytjnpmipoenijdaa
