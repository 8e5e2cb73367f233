/- What the claims of this group lean on, part 7: our engine, the functions' simplified codes, their contracts. No condition. -/
import Derived.Test.YtdbnbknghhpbiaaDoorKV6
set_option linter.unusedSimpArgs false
set_option linter.unusedVariables false
set_option maxRecDepth 100000
set_option maxHeartbeats 4000000
namespace Cz
open Go Go.RowKit Go.Proofs
namespace Pa
open Tb
theorem val_f {mx i : Int} {l : List Fd} {b : List Int} {f1 f2 : List UInt8} {R : List Int} {F : List SV} {n e : Int} (hb : Hu.BOk b) (hbl : ilen b ≤ 1000000) (hl : ilen l ≤ 100000000) (h : valW l i b = ((f1, f2), R, e)) (hF : cellsB R = F) (hn : n = ilen R) :
    (S0 Tryd.prog).call 97 [tabV mx l, .i .i64 (.y i), .v false 1 (cellsB b) (.y (ilen b))] [] (Tell (.tp [.ag [.s f1, .s f2], .v false 1 F (.y n), .i .i64 (.y e)])) := by
  unfold tabV
  generalize hG : cellsF l = G
  obtain ⟨m, hm⟩ : ∃ m, m = ilen l := ⟨_, rfl⟩
  generalize hB : cellsB b = B
  obtain ⟨k, hk⟩ : ∃ m, m = ilen b := ⟨_, rfl⟩
  rw [← hm, ← hk]
  unfold valW at h
  obtain ⟨⟨⟨xa, xb⟩, xe⟩, hat⟩ : ∃ r, atR l i = r := ⟨_, rfl⟩
  rw [hat] at h
  obtain ⟨T1, hT1⟩ : ∃ r, strB (tS b) = r := ⟨_, rfl⟩
  obtain ⟨e1, he1⟩ : ∃ r, tE b = r := ⟨_, rfl⟩
  obtain ⟨R1, hR1⟩ : ∃ r, tR b = r := ⟨_, rfl⟩
  obtain ⟨FR1, hFR1⟩ : ∃ r, cellsB R1 = r := ⟨_, rfl⟩
  obtain ⟨nR1, hnR1⟩ : ∃ r, r = ilen R1 := ⟨_, rfl⟩
  obtain ⟨T2, hT2⟩ : ∃ r, strB (tS R1) = r := ⟨_, rfl⟩
  obtain ⟨e2, he2⟩ : ∃ r, tE R1 = r := ⟨_, rfl⟩
  obtain ⟨R2, hR2⟩ : ∃ r, tR R1 = r := ⟨_, rfl⟩
  obtain ⟨FR2, hFR2⟩ : ∃ r, cellsB R2 = r := ⟨_, rfl⟩
  obtain ⟨nR2, hnR2⟩ : ∃ r, r = ilen R2 := ⟨_, rfl⟩
  rw [he1, hT1, hR1, he2, hT2, hR2] at h
  have hR1o : Hu.BOk R1 := hR1 ▸ tR_ok hb
  have hR1l := (tT_ok hb).2.2
  rw [hR1] at hR1l
  have hBk : Sub (.v false 1 B (.y k)) (.v false 1 (cellsB b) (.y (ilen b))) := qbe hB.symm hk
  generalize hS : S0 Tryd.prog = S
  refine qac hS I.qtg ?_
  cbv
  by_cases h0 : 0 < i
  · rw [if_pos h0] at h
    by_cases hx : xe = 0
    · rw [if_neg (by simpa using hx)] at h
      cases h
      repeat' (first
        | (refine qbr hS rfl ?_; try cbv)
        | (refine s_ck hS ?_; try cbv)
        | (refine qab hS ?_ ?_ <;> intro h <;> (try cbv) <;> try exact s_ab h)
        | (refine s_ad hS ?_; intro _ _; try cbv)
        | (refine s_sb hS ?_; intro _ _; try cbv)
        | (refine qau hS ?_; intro _ _; try cbv)
        | (refine qae hS ?_; try cbv)
        | (refine at_g hS (.v (z := .y mx) (n := .y m) rfl hG hm) hat (by omega) ?_; cbv)
        | (refine qwx hS hBk hb hbl hT1 he1 hR1 hFR1 hnR1 ?_; cbv)
        | (refine qam hS rfl I.ord_unpack_value_0 (by decide +kernel) ?_; cbv)
        | (refine qam hS rfl I.ord_unpack_value_1 (by decide +kernel) ?_; cbv)
        | (refine qam hS rfl I.ord_unpack_value_2 (by decide +kernel) ?_; cbv)
        | (refine qbs hS ?_; try cbv)
        | (refine s_lk hS ?_; try cbv)
        | (refine s_mu hS ?_; try cbv)
        | fail)
      all_goals first
        | exact fun g => .sub (qaw (.cons .rfl (.cons (qbe (hFR1.symm.trans hF) (hnR1.trans hn.symm)) (.cons (qag rfl) .nil)))) rfl
        | exact fun g => .sub (qaw (.cons .rfl (.cons (qbe (hFR2.symm.trans hF) (hnR2.trans hn.symm)) (.cons (qag rfl) .nil)))) rfl
        | exact fun g => .sub (qaw (.cons .rfl (.cons (qbe (hB.symm.trans hF) (hk.trans hn.symm)) (.cons (qag rfl) .nil)))) rfl
    · rw [if_pos hx] at h
      cases h
      repeat' (first
        | (refine qbr hS rfl ?_; try cbv)
        | (refine s_ck hS ?_; try cbv)
        | (refine qab hS ?_ ?_ <;> intro h <;> (try cbv) <;> try exact s_ab h)
        | (refine s_ad hS ?_; intro _ _; try cbv)
        | (refine s_sb hS ?_; intro _ _; try cbv)
        | (refine qau hS ?_; intro _ _; try cbv)
        | (refine qae hS ?_; try cbv)
        | (refine at_g hS (.v (z := .y mx) (n := .y m) rfl hG hm) hat (by omega) ?_; cbv)
        | (refine qam hS rfl I.ord_unpack_value_0 (by decide +kernel) ?_; cbv)
        | (refine qam hS rfl I.ord_unpack_value_1 (by decide +kernel) ?_; cbv)
        | (refine qam hS rfl I.ord_unpack_value_2 (by decide +kernel) ?_; cbv)
        | (refine qbs hS ?_; try cbv)
        | (refine s_lk hS ?_; try cbv)
        | (refine s_mu hS ?_; try cbv)
        | fail)
      all_goals first
        | exact fun g => .sub (qaw (.cons .rfl (.cons (qbe (hFR1.symm.trans hF) (hnR1.trans hn.symm)) (.cons (qag rfl) .nil)))) rfl
        | exact fun g => .sub (qaw (.cons .rfl (.cons (qbe (hFR2.symm.trans hF) (hnR2.trans hn.symm)) (.cons (qag rfl) .nil)))) rfl
        | exact fun g => .sub (qaw (.cons .rfl (.cons (qbe (hB.symm.trans hF) (hk.trans hn.symm)) (.cons (qag rfl) .nil)))) rfl
  · rw [if_neg h0] at h
    by_cases hx : e1 = 0
    · rw [if_neg (by simpa using hx)] at h
      cases h
      repeat' (first
        | (refine qbr hS rfl ?_; try cbv)
        | (refine s_ck hS ?_; try cbv)
        | (refine qab hS ?_ ?_ <;> intro h <;> (try cbv) <;> try exact s_ab h)
        | (refine s_ad hS ?_; intro _ _; try cbv)
        | (refine s_sb hS ?_; intro _ _; try cbv)
        | (refine qau hS ?_; intro _ _; try cbv)
        | (refine qae hS ?_; try cbv)
        | (refine qwx hS hBk hb hbl hT1 he1 hR1 hFR1 hnR1 ?_; cbv)
        | (refine qwx hS (qbe hFR1.symm hnR1) hR1o (by omega) hT2 he2 hR2 hFR2 hnR2 ?_; cbv)
        | (refine qam hS rfl I.ord_unpack_value_0 (by decide +kernel) ?_; cbv)
        | (refine qam hS rfl I.ord_unpack_value_1 (by decide +kernel) ?_; cbv)
        | (refine qam hS rfl I.ord_unpack_value_2 (by decide +kernel) ?_; cbv)
        | (refine qbs hS ?_; try cbv)
        | (refine s_lk hS ?_; try cbv)
        | (refine s_mu hS ?_; try cbv)
        | fail)
      all_goals first
        | exact fun g => .sub (qaw (.cons .rfl (.cons (qbe (hFR1.symm.trans hF) (hnR1.trans hn.symm)) (.cons (qag rfl) .nil)))) rfl
        | exact fun g => .sub (qaw (.cons .rfl (.cons (qbe (hFR2.symm.trans hF) (hnR2.trans hn.symm)) (.cons (qag rfl) .nil)))) rfl
        | exact fun g => .sub (qaw (.cons .rfl (.cons (qbe (hB.symm.trans hF) (hk.trans hn.symm)) (.cons (qag rfl) .nil)))) rfl
    · rw [if_pos hx] at h
      cases h
      repeat' (first
        | (refine qbr hS rfl ?_; try cbv)
        | (refine s_ck hS ?_; try cbv)
        | (refine qab hS ?_ ?_ <;> intro h <;> (try cbv) <;> try exact s_ab h)
        | (refine s_ad hS ?_; intro _ _; try cbv)
        | (refine s_sb hS ?_; intro _ _; try cbv)
        | (refine qau hS ?_; intro _ _; try cbv)
        | (refine qae hS ?_; try cbv)
        | (refine qwx hS hBk hb hbl hT1 he1 hR1 hFR1 hnR1 ?_; cbv)
        | (refine qam hS rfl I.ord_unpack_value_0 (by decide +kernel) ?_; cbv)
        | (refine qam hS rfl I.ord_unpack_value_1 (by decide +kernel) ?_; cbv)
        | (refine qam hS rfl I.ord_unpack_value_2 (by decide +kernel) ?_; cbv)
        | (refine qbs hS ?_; try cbv)
        | (refine s_lk hS ?_; try cbv)
        | (refine s_mu hS ?_; try cbv)
        | fail)
      all_goals first
        | exact fun g => .sub (qaw (.cons .rfl (.cons (qbe (hFR1.symm.trans hF) (hnR1.trans hn.symm)) (.cons (qag rfl) .nil)))) rfl
        | exact fun g => .sub (qaw (.cons .rfl (.cons (qbe (hFR2.symm.trans hF) (hnR2.trans hn.symm)) (.cons (qag rfl) .nil)))) rfl
        | exact fun g => .sub (qaw (.cons .rfl (.cons (qbe (hB.symm.trans hF) (hk.trans hn.symm)) (.cons (qag rfl) .nil)))) rfl
end Pa
end Cz
namespace Cz
open Go Go.RowKit Go.Proofs
namespace Pa
open Tb
section
variable {S : Sy} {bl : List Blk} {K : SV → List Blk → Prop} {b R : List Int} {e n i mx : Int} {F : List SV} {x : SV} {cs : List SV} {l : List Fd} {f1 f2 : List UInt8}
theorem val_g (hS : S0 Tryd.prog = S) {zi : Z} (hi : zi.v = i) (hc : TabC [] cs mx l) (hx : Sub x (.v false 1 (cellsB b) (.y (ilen b)))) (hb : Hu.BOk b) (hbl : ilen b ≤ 1000000) (hl : ilen l ≤ 100000000) (h : valW l i b = ((f1, f2), R, e)) (hF : cellsB R = F) (hn : n = ilen R)
    (hK : K (.tp [.ag [.s f1, .s f2], .v false 1 F (.y n), .i .i64 (.y e)]) bl) : S.call 97 [.ag cs, .i .i64 zi, x] bl K := by
  refine qdz hS (val_f (mx := mx) hb hbl hl h hF hn) ?_ rfl hK
  match hc.sub with
  | .cons h _ => exact .cons h (.cons (qag hi) (.cons hx .nil))
end
theorem next_f {mx c : Int} {l : List Fd} {b : List Int} {f1 f2 : List UInt8} {sd ad : Bool} {sz e n : Int} {R : List Int} {F : List SV} (hb : Hu.BOk b) (hbl : ilen b ≤ 1000000) (hl : ilen l ≤ 100000000) (hc : b[(0 : Int).toNat]? = some c) (hw : nextW l b = ⟨(f1, f2), sd, ad, sz, R, e⟩) (hF : cellsB R = F) (hn : n = ilen R) :
    (S0 Tryd.prog).call 84 [tabV mx l, .v false 1 (cellsB b) (.y (ilen b))] [] (Tell (.tp [.ag [.s f1, .s f2, .b sd, .b ad, .i .i64 (.y sz), .v false 1 F (.y n)], .i .i64 (.y e)])) := by
  have hcb := hb c (List.mem_of_getElem? hc)
  have hcd : b.getD 0 0 = c := by rw [List.getD_eq_getElem?_getD]; rw [show (0 : Int).toNat = 0 from rfl] at hc; rw [hc]; rfl
  unfold tabV
  generalize hG : cellsF l = G
  obtain ⟨m, hm⟩ : ∃ m, m = ilen l := ⟨_, rfl⟩
  generalize hB : cellsB b = B
  obtain ⟨k, hk⟩ : ∃ m, m = ilen b := ⟨_, rfl⟩
  rw [← hm, ← hk]
  unfold nextW at hw
  rw [hcd] at hw
  have hbl1 : 1 ≤ k := by
    have := (List.getElem?_eq_some_iff.1 hc).1
    rw [hk]; unfold ilen; omega
  have hBk : Sub (.v false 1 B (.y k)) (.v false 1 (cellsB b) (.y (ilen b))) := qbe hB.symm hk
  generalize hS : S0 Tryd.prog = S
  refine qac hS I.qvc ?_
  cbv
  by_cases c7 : 128 ≤ c
  · have e : powU c = 128 := by unfold powU; rw [if_pos c7]
    rw [e] at hw
    obtain ⟨N, hN⟩ : ∃ r, preN b 128 = r := ⟨_, rfl⟩
    have hN0 := qiz (p := 128) hb (by decide)
    have hN1 := qxu (b := b) (p := 128) (by decide) (by decide)
    rw [hN] at hN0 hN1
    obtain ⟨E, hE⟩ : ∃ r, preE b 128 = r := ⟨_, rfl⟩
    obtain ⟨R0, hR0⟩ : ∃ r, preR b 128 = r := ⟨_, rfl⟩
    have hRo : Hu.BOk R0 := hR0 ▸ qds hb
    have hRl := qgd (b := b) (p := 128)
    rw [hR0] at hRl
    obtain ⟨FR, hFR⟩ : ∃ r, cellsB R0 = r := ⟨_, rfl⟩
    obtain ⟨nR, hnR⟩ : ∃ r, r = ilen R0 := ⟨_, rfl⟩
    rw [hN, hE, hR0] at hw
    by_cases hE0 : E = 0
    case neg =>
      rw [if_pos hE0] at hw
      cases hw
      repeat' (first
        | (refine qbr hS rfl ?_; try cbv)
        | (refine s_ck hS ?_; try cbv)
        | (refine qab hS ?_ ?_ <;> intro h <;> (try cbv) <;> try exact s_ab h)
        | (refine s_ad hS ?_; intro _ _; try cbv)
        | (refine s_sb hS ?_; intro _ _; try cbv)
        | (refine qau hS ?_; intro _ _; try cbv)
        | (refine qae hS ?_; try cbv)
        | (refine rowB hS hB hc rfl (by omega) ?_; cbv)
        | (refine qah hS ?_; cbv)
        | (refine qbx hS (c := 128) rfl ?_; intro _ _; cbv)
        | (refine qbx hS (c := 64) rfl ?_; intro _ _; cbv)
        | (refine qbx hS (c := 32) rfl ?_; intro _ _; cbv)
        | (refine qgv hS (c := 2) (m := 1) (by decide) ?_; intro _ _; cbv)
        | (refine qiy hS 7 128 rfl hBk hb hbl (by decide) (by decide) rfl hN hE hR0 hFR hnR ?_; cbv)
        | (refine qam hS rfl I.ord_unpack_next_0 (by decide +kernel) ?_; cbv)
        | (refine qam hS rfl I.ord_unpack_next_1 (by decide +kernel) ?_; cbv)
        | (refine qam hS rfl I.ord_unpack_next_2 (by decide +kernel) ?_; cbv)
        | (refine qam hS rfl I.ord_unpack_next_3 (by decide +kernel) ?_; cbv)
        | (refine qam hS rfl I.ord_unpack_next_4 (by decide +kernel) ?_; cbv)
        | (refine qbs hS ?_; try cbv)
        | (refine s_lk hS ?_; try cbv)
        | (refine s_mu hS ?_; try cbv)
        | fail)
      all_goals first
        | (exfalso; omega)
        | exact fun g => .sub (qaw (.cons (qdn (.cons .rfl (.cons .rfl (.cons (qcl rfl) (.cons (qcl rfl) (.cons (qag rfl) (.cons (qld (by decide) hF.symm hn) .nil))))))) (.cons (qag rfl) .nil))) rfl
    rw [if_neg (by simpa using hE0)] at hw
    obtain ⟨⟨⟨xa, xb⟩, xe⟩, hat⟩ : ∃ r, atR l N = r := ⟨_, rfl⟩
    rw [if_pos rfl, hat] at hw
    cases hw
    repeat' (first
      | (refine qbr hS rfl ?_; try cbv)
      | (refine s_ck hS ?_; try cbv)
      | (refine qab hS ?_ ?_ <;> intro h <;> (try cbv) <;> try exact s_ab h)
      | (refine s_ad hS ?_; intro _ _; try cbv)
      | (refine s_sb hS ?_; intro _ _; try cbv)
      | (refine qau hS ?_; intro _ _; try cbv)
      | (refine qae hS ?_; try cbv)
      | (refine rowB hS hB hc rfl (by omega) ?_; cbv)
      | (refine qah hS ?_; cbv)
      | (refine qbx hS (c := 128) rfl ?_; intro _ _; cbv)
      | (refine qbx hS (c := 64) rfl ?_; intro _ _; cbv)
      | (refine qbx hS (c := 32) rfl ?_; intro _ _; cbv)
      | (refine qgv hS (c := 2) (m := 1) (by decide) ?_; intro _ _; cbv)
      | (refine qiy hS 7 128 rfl hBk hb hbl (by decide) (by decide) rfl hN hE hR0 hFR hnR ?_; cbv)
      | (refine at_g hS (.v (z := .y mx) (n := .y m) rfl hG hm) hat (by omega) ?_; cbv)
      | (refine qam hS rfl I.ord_unpack_next_0 (by decide +kernel) ?_; cbv)
      | (refine qam hS rfl I.ord_unpack_next_1 (by decide +kernel) ?_; cbv)
      | (refine qam hS rfl I.ord_unpack_next_2 (by decide +kernel) ?_; cbv)
      | (refine qam hS rfl I.ord_unpack_next_3 (by decide +kernel) ?_; cbv)
      | (refine qam hS rfl I.ord_unpack_next_4 (by decide +kernel) ?_; cbv)
      | (refine qbs hS ?_; try cbv)
      | (refine s_lk hS ?_; try cbv)
      | (refine s_mu hS ?_; try cbv)
      | fail)
    all_goals first
      | (exfalso; omega)
      | exact fun g => .sub (qaw (.cons (qdn (.cons .rfl (.cons .rfl (.cons (qcl rfl) (.cons (qcl rfl) (.cons (qag rfl) (.cons (qbe (hFR.symm.trans hF) (hnR.trans hn.symm)) .nil))))))) (.cons (qag rfl) .nil))) rfl
  by_cases c6 : 64 ≤ c
  · have e : powU c = 64 := by unfold powU; rw [if_neg c7, if_pos c6]
    rw [e] at hw
    obtain ⟨N, hN⟩ : ∃ r, preN b 64 = r := ⟨_, rfl⟩
    have hN0 := qiz (p := 64) hb (by decide)
    have hN1 := qxu (b := b) (p := 64) (by decide) (by decide)
    rw [hN] at hN0 hN1
    obtain ⟨E, hE⟩ : ∃ r, preE b 64 = r := ⟨_, rfl⟩
    obtain ⟨R0, hR0⟩ : ∃ r, preR b 64 = r := ⟨_, rfl⟩
    have hRo : Hu.BOk R0 := hR0 ▸ qds hb
    have hRl := qgd (b := b) (p := 64)
    rw [hR0] at hRl
    obtain ⟨FR, hFR⟩ : ∃ r, cellsB R0 = r := ⟨_, rfl⟩
    obtain ⟨nR, hnR⟩ : ∃ r, r = ilen R0 := ⟨_, rfl⟩
    rw [hN, hE, hR0] at hw
    by_cases hE0 : E = 0
    case neg =>
      rw [if_pos hE0] at hw
      cases hw
      repeat' (first
        | (refine qbr hS rfl ?_; try cbv)
        | (refine s_ck hS ?_; try cbv)
        | (refine qab hS ?_ ?_ <;> intro h <;> (try cbv) <;> try exact s_ab h)
        | (refine s_ad hS ?_; intro _ _; try cbv)
        | (refine s_sb hS ?_; intro _ _; try cbv)
        | (refine qau hS ?_; intro _ _; try cbv)
        | (refine qae hS ?_; try cbv)
        | (refine rowB hS hB hc rfl (by omega) ?_; cbv)
        | (refine qah hS ?_; cbv)
        | (refine qbx hS (c := 128) rfl ?_; intro _ _; cbv)
        | (refine qbx hS (c := 64) rfl ?_; intro _ _; cbv)
        | (refine qbx hS (c := 32) rfl ?_; intro _ _; cbv)
        | (refine qgv hS (c := 2) (m := 1) (by decide) ?_; intro _ _; cbv)
        | (refine qiy hS 6 64 rfl hBk hb hbl (by decide) (by decide) rfl hN hE hR0 hFR hnR ?_; cbv)
        | (refine qam hS rfl I.ord_unpack_next_0 (by decide +kernel) ?_; cbv)
        | (refine qam hS rfl I.ord_unpack_next_1 (by decide +kernel) ?_; cbv)
        | (refine qam hS rfl I.ord_unpack_next_2 (by decide +kernel) ?_; cbv)
        | (refine qam hS rfl I.ord_unpack_next_3 (by decide +kernel) ?_; cbv)
        | (refine qam hS rfl I.ord_unpack_next_4 (by decide +kernel) ?_; cbv)
        | (refine qbs hS ?_; try cbv)
        | (refine s_lk hS ?_; try cbv)
        | (refine s_mu hS ?_; try cbv)
        | fail)
      all_goals first
        | (exfalso; omega)
        | exact fun g => .sub (qaw (.cons (qdn (.cons .rfl (.cons .rfl (.cons (qcl rfl) (.cons (qcl rfl) (.cons (qag rfl) (.cons (qld (by decide) hF.symm hn) .nil))))))) (.cons (qag rfl) .nil))) rfl
    rw [if_neg (by simpa using hE0)] at hw
    obtain ⟨⟨⟨v1, v2⟩, R1, e1⟩, hval⟩ : ∃ r, valW l N R0 = r := ⟨_, rfl⟩
    obtain ⟨FR1, hFR1⟩ : ∃ r, cellsB R1 = r := ⟨_, rfl⟩
    obtain ⟨nR1, hnR1⟩ : ∃ r, r = ilen R1 := ⟨_, rfl⟩
    rw [if_neg (by decide), if_neg (by decide), hval] at hw
    cases hw
    repeat' (first
      | (refine qbr hS rfl ?_; try cbv)
      | (refine s_ck hS ?_; try cbv)
      | (refine qab hS ?_ ?_ <;> intro h <;> (try cbv) <;> try exact s_ab h)
      | (refine s_ad hS ?_; intro _ _; try cbv)
      | (refine s_sb hS ?_; intro _ _; try cbv)
      | (refine qau hS ?_; intro _ _; try cbv)
      | (refine qae hS ?_; try cbv)
      | (refine rowB hS hB hc rfl (by omega) ?_; cbv)
      | (refine qah hS ?_; cbv)
      | (refine qbx hS (c := 128) rfl ?_; intro _ _; cbv)
      | (refine qbx hS (c := 64) rfl ?_; intro _ _; cbv)
      | (refine qbx hS (c := 32) rfl ?_; intro _ _; cbv)
      | (refine qgv hS (c := 2) (m := 1) (by decide) ?_; intro _ _; cbv)
      | (refine qiy hS 6 64 rfl hBk hb hbl (by decide) (by decide) rfl hN hE hR0 hFR hnR ?_; cbv)
      | (refine val_g hS (i := N) rfl (.v (z := .y mx) (n := .y m) rfl hG hm) (qbe (n := .y nR) hFR.symm hnR) hRo (by omega) (by omega) hval hFR1 hnR1 ?_; cbv)
      | (refine qam hS rfl I.ord_unpack_next_0 (by decide +kernel) ?_; cbv)
      | (refine qam hS rfl I.ord_unpack_next_1 (by decide +kernel) ?_; cbv)
      | (refine qam hS rfl I.ord_unpack_next_2 (by decide +kernel) ?_; cbv)
      | (refine qam hS rfl I.ord_unpack_next_3 (by decide +kernel) ?_; cbv)
      | (refine qam hS rfl I.ord_unpack_next_4 (by decide +kernel) ?_; cbv)
      | (refine qbs hS ?_; try cbv)
      | (refine s_lk hS ?_; try cbv)
      | (refine s_mu hS ?_; try cbv)
      | fail)
    all_goals first
      | (exfalso; omega)
      | exact fun g => .sub (qaw (.cons (qdn (.cons .rfl (.cons .rfl (.cons (qcl rfl) (.cons (qlc rfl) (.cons (qag rfl) (.cons (qbe (hFR1.symm.trans hF) (hnR1.trans hn.symm)) .nil))))))) (.cons (qag rfl) .nil))) rfl
      | exact fun g => .sub (qaw (.cons (qdn (.cons .rfl (.cons .rfl (.cons (qcl rfl) (.cons (qcl rfl) (.cons (qag rfl) (.cons (qbe (hFR1.symm.trans hF) (hnR1.trans hn.symm)) .nil))))))) (.cons (qag rfl) .nil))) rfl
  by_cases c5 : 32 ≤ c
  · have e : powU c = 32 := by unfold powU; rw [if_neg c7, if_neg c6, if_pos c5]
    rw [e] at hw
    obtain ⟨N, hN⟩ : ∃ r, preN b 32 = r := ⟨_, rfl⟩
    have hN0 := qiz (p := 32) hb (by decide)
    have hN1 := qxu (b := b) (p := 32) (by decide) (by decide)
    rw [hN] at hN0 hN1
    obtain ⟨E, hE⟩ : ∃ r, preE b 32 = r := ⟨_, rfl⟩
    obtain ⟨R0, hR0⟩ : ∃ r, preR b 32 = r := ⟨_, rfl⟩
    have hRo : Hu.BOk R0 := hR0 ▸ qds hb
    have hRl := qgd (b := b) (p := 32)
    rw [hR0] at hRl
    obtain ⟨FR, hFR⟩ : ∃ r, cellsB R0 = r := ⟨_, rfl⟩
    obtain ⟨nR, hnR⟩ : ∃ r, r = ilen R0 := ⟨_, rfl⟩
    rw [hN, hE, hR0] at hw
    by_cases hE0 : E = 0
    case neg =>
      rw [if_pos hE0] at hw
      cases hw
      repeat' (first
        | (refine qbr hS rfl ?_; try cbv)
        | (refine s_ck hS ?_; try cbv)
        | (refine qab hS ?_ ?_ <;> intro h <;> (try cbv) <;> try exact s_ab h)
        | (refine s_ad hS ?_; intro _ _; try cbv)
        | (refine s_sb hS ?_; intro _ _; try cbv)
        | (refine qau hS ?_; intro _ _; try cbv)
        | (refine qae hS ?_; try cbv)
        | (refine rowB hS hB hc rfl (by omega) ?_; cbv)
        | (refine qah hS ?_; cbv)
        | (refine qbx hS (c := 128) rfl ?_; intro _ _; cbv)
        | (refine qbx hS (c := 64) rfl ?_; intro _ _; cbv)
        | (refine qbx hS (c := 32) rfl ?_; intro _ _; cbv)
        | (refine qgv hS (c := 2) (m := 1) (by decide) ?_; intro _ _; cbv)
        | (refine qiy hS 5 32 rfl hBk hb hbl (by decide) (by decide) rfl hN hE hR0 hFR hnR ?_; cbv)
        | (refine qam hS rfl I.ord_unpack_next_0 (by decide +kernel) ?_; cbv)
        | (refine qam hS rfl I.ord_unpack_next_1 (by decide +kernel) ?_; cbv)
        | (refine qam hS rfl I.ord_unpack_next_2 (by decide +kernel) ?_; cbv)
        | (refine qam hS rfl I.ord_unpack_next_3 (by decide +kernel) ?_; cbv)
        | (refine qam hS rfl I.ord_unpack_next_4 (by decide +kernel) ?_; cbv)
        | (refine qbs hS ?_; try cbv)
        | (refine s_lk hS ?_; try cbv)
        | (refine s_mu hS ?_; try cbv)
        | fail)
      all_goals first
        | (exfalso; omega)
        | exact fun g => .sub (qaw (.cons (qdn (.cons .rfl (.cons .rfl (.cons (qcl rfl) (.cons (qcl rfl) (.cons (qag rfl) (.cons (qld (by decide) hF.symm hn) .nil))))))) (.cons (qag rfl) .nil))) rfl
    rw [if_neg (by simpa using hE0)] at hw
    rw [if_neg (by decide), if_pos rfl] at hw
    cases hw
    repeat' (first
      | (refine qbr hS rfl ?_; try cbv)
      | (refine s_ck hS ?_; try cbv)
      | (refine qab hS ?_ ?_ <;> intro h <;> (try cbv) <;> try exact s_ab h)
      | (refine s_ad hS ?_; intro _ _; try cbv)
      | (refine s_sb hS ?_; intro _ _; try cbv)
      | (refine qau hS ?_; intro _ _; try cbv)
      | (refine qae hS ?_; try cbv)
      | (refine rowB hS hB hc rfl (by omega) ?_; cbv)
      | (refine qah hS ?_; cbv)
      | (refine qbx hS (c := 128) rfl ?_; intro _ _; cbv)
      | (refine qbx hS (c := 64) rfl ?_; intro _ _; cbv)
      | (refine qbx hS (c := 32) rfl ?_; intro _ _; cbv)
      | (refine qgv hS (c := 2) (m := 1) (by decide) ?_; intro _ _; cbv)
      | (refine qiy hS 5 32 rfl hBk hb hbl (by decide) (by decide) rfl hN hE hR0 hFR hnR ?_; cbv)
      | (refine qam hS rfl I.ord_unpack_next_0 (by decide +kernel) ?_; cbv)
      | (refine qam hS rfl I.ord_unpack_next_1 (by decide +kernel) ?_; cbv)
      | (refine qam hS rfl I.ord_unpack_next_2 (by decide +kernel) ?_; cbv)
      | (refine qam hS rfl I.ord_unpack_next_3 (by decide +kernel) ?_; cbv)
      | (refine qam hS rfl I.ord_unpack_next_4 (by decide +kernel) ?_; cbv)
      | (refine qbs hS ?_; try cbv)
      | (refine s_lk hS ?_; try cbv)
      | (refine s_mu hS ?_; try cbv)
      | fail)
    all_goals first
      | (exfalso; omega)
      | exact fun g => .sub (qaw (.cons (qdn (.cons .rfl (.cons .rfl (.cons (qlc rfl) (.cons (qcl rfl) (.cons (qag rfl) (.cons (qbe (hFR.symm.trans hF) (hnR.trans hn.symm)) .nil))))))) (.cons (qag hE0) .nil))) rfl
  · have e : powU c = 16 := by unfold powU; rw [if_neg c7, if_neg c6, if_neg c5]
    rw [e] at hw
    obtain ⟨N, hN⟩ : ∃ r, preN b 16 = r := ⟨_, rfl⟩
    have hN0 := qiz (p := 16) hb (by decide)
    have hN1 := qxu (b := b) (p := 16) (by decide) (by decide)
    rw [hN] at hN0 hN1
    obtain ⟨E, hE⟩ : ∃ r, preE b 16 = r := ⟨_, rfl⟩
    obtain ⟨R0, hR0⟩ : ∃ r, preR b 16 = r := ⟨_, rfl⟩
    have hRo : Hu.BOk R0 := hR0 ▸ qds hb
    have hRl := qgd (b := b) (p := 16)
    rw [hR0] at hRl
    obtain ⟨FR, hFR⟩ : ∃ r, cellsB R0 = r := ⟨_, rfl⟩
    obtain ⟨nR, hnR⟩ : ∃ r, r = ilen R0 := ⟨_, rfl⟩
    rw [hN, hE, hR0] at hw
    by_cases hE0 : E = 0
    case neg =>
      rw [if_pos hE0] at hw
      cases hw
      repeat' (first
        | (refine qbr hS rfl ?_; try cbv)
        | (refine s_ck hS ?_; try cbv)
        | (refine qab hS ?_ ?_ <;> intro h <;> (try cbv) <;> try exact s_ab h)
        | (refine s_ad hS ?_; intro _ _; try cbv)
        | (refine s_sb hS ?_; intro _ _; try cbv)
        | (refine qau hS ?_; intro _ _; try cbv)
        | (refine qae hS ?_; try cbv)
        | (refine rowB hS hB hc rfl (by omega) ?_; cbv)
        | (refine qah hS ?_; cbv)
        | (refine qbx hS (c := 128) rfl ?_; intro _ _; cbv)
        | (refine qbx hS (c := 64) rfl ?_; intro _ _; cbv)
        | (refine qbx hS (c := 32) rfl ?_; intro _ _; cbv)
        | (refine qgv hS (c := 2) (m := 1) (by decide) ?_; intro _ _; cbv)
        | (refine qiy hS 4 16 rfl hBk hb hbl (by decide) (by decide) rfl hN hE hR0 hFR hnR ?_; cbv)
        | (refine qam hS rfl I.ord_unpack_next_0 (by decide +kernel) ?_; cbv)
        | (refine qam hS rfl I.ord_unpack_next_1 (by decide +kernel) ?_; cbv)
        | (refine qam hS rfl I.ord_unpack_next_2 (by decide +kernel) ?_; cbv)
        | (refine qam hS rfl I.ord_unpack_next_3 (by decide +kernel) ?_; cbv)
        | (refine qam hS rfl I.ord_unpack_next_4 (by decide +kernel) ?_; cbv)
        | (refine qbs hS ?_; try cbv)
        | (refine s_lk hS ?_; try cbv)
        | (refine s_mu hS ?_; try cbv)
        | fail)
      all_goals first
        | (exfalso; omega)
        | exact fun g => .sub (qaw (.cons (qdn (.cons .rfl (.cons .rfl (.cons (qcl rfl) (.cons (qcl rfl) (.cons (qag rfl) (.cons (qld (by decide) hF.symm hn) .nil))))))) (.cons (qag rfl) .nil))) rfl
    rw [if_neg (by simpa using hE0)] at hw
    obtain ⟨⟨⟨v1, v2⟩, R1, e1⟩, hval⟩ : ∃ r, valW l N R0 = r := ⟨_, rfl⟩
    obtain ⟨FR1, hFR1⟩ : ∃ r, cellsB R1 = r := ⟨_, rfl⟩
    obtain ⟨nR1, hnR1⟩ : ∃ r, r = ilen R1 := ⟨_, rfl⟩
    rw [if_neg (by decide), if_neg (by decide), hval] at hw
    cases hw
    repeat' (first
      | (refine qbr hS rfl ?_; try cbv)
      | (refine s_ck hS ?_; try cbv)
      | (refine qab hS ?_ ?_ <;> intro h <;> (try cbv) <;> try exact s_ab h)
      | (refine s_ad hS ?_; intro _ _; try cbv)
      | (refine s_sb hS ?_; intro _ _; try cbv)
      | (refine qau hS ?_; intro _ _; try cbv)
      | (refine qae hS ?_; try cbv)
      | (refine rowB hS hB hc rfl (by omega) ?_; cbv)
      | (refine qah hS ?_; cbv)
      | (refine qbx hS (c := 128) rfl ?_; intro _ _; cbv)
      | (refine qbx hS (c := 64) rfl ?_; intro _ _; cbv)
      | (refine qbx hS (c := 32) rfl ?_; intro _ _; cbv)
      | (refine qgv hS (c := 2) (m := 1) (by decide) ?_; intro _ _; cbv)
      | (refine qiy hS 4 16 rfl hBk hb hbl (by decide) (by decide) rfl hN hE hR0 hFR hnR ?_; cbv)
      | (refine val_g hS (i := N) rfl (.v (z := .y mx) (n := .y m) rfl hG hm) (qbe (n := .y nR) hFR.symm hnR) hRo (by omega) (by omega) hval hFR1 hnR1 ?_; cbv)
      | (refine qam hS rfl I.ord_unpack_next_0 (by decide +kernel) ?_; cbv)
      | (refine qam hS rfl I.ord_unpack_next_1 (by decide +kernel) ?_; cbv)
      | (refine qam hS rfl I.ord_unpack_next_2 (by decide +kernel) ?_; cbv)
      | (refine qam hS rfl I.ord_unpack_next_3 (by decide +kernel) ?_; cbv)
      | (refine qam hS rfl I.ord_unpack_next_4 (by decide +kernel) ?_; cbv)
      | (refine qbs hS ?_; try cbv)
      | (refine s_lk hS ?_; try cbv)
      | (refine s_mu hS ?_; try cbv)
      | fail)
    all_goals first
      | (exfalso; omega)
      | exact fun g => .sub (qaw (.cons (qdn (.cons .rfl (.cons .rfl (.cons (qcl rfl) (.cons (qlc rfl) (.cons (qag rfl) (.cons (qbe (hFR1.symm.trans hF) (hnR1.trans hn.symm)) .nil))))))) (.cons (qag rfl) .nil))) rfl
      | exact fun g => .sub (qaw (.cons (qdn (.cons .rfl (.cons .rfl (.cons (qcl rfl) (.cons (qcl rfl) (.cons (qag rfl) (.cons (qbe (hFR1.symm.trans hF) (hnR1.trans hn.symm)) .nil))))))) (.cons (qag rfl) .nil))) rfl
end Pa
end Cz
namespace Cz
open Go Go.RowKit Go.Proofs
namespace Pa
open Tb
def unV (r : (List Tb.Fd × Bool × Tab) × Int) : SV := .tp [.ag [.v false 2 (cellsF r.1.1) (.y (ilen r.1.1)), .b r.1.2.1, .i .i64 (.y r.1.2.2.1), .v false 2 (cellsF r.1.2.2.2) (.y (ilen r.1.2.2.2))], .i .i64 (.y r.2)]
theorem unE_fz {e : Int} {ze : Z} {l' : List Blk} (he : ze.v = e) : Tell (unV (([], false, (0, [])), e)) (.tp [.ag [.re (.slice none 0 0), .ff, .i .i64 (.l 0), .re (.slice none 0 0)], .i .i64 ze]) l' :=
  fun g => .sub (qaw (.cons (qdn (.cons (qld (by decide) rfl rfl) (.cons (qcl rfl) (.cons (qag rfl) (.cons (qld (by decide) rfl rfl) .nil))))) (.cons (qag he) .nil))) rfl
end Pa
end Cz
namespace Cz
open Go Go.RowKit Go.Proofs
namespace Pa
open Tb
section
variable {S : Sy} {bl : List Blk} {K : SV → List Blk → Prop} {b R : List Int} {e n sz c mx : Int} {F : List SV} {x : SV} {cs : List SV} {l : List Fd} {f1 f2 : List UInt8} {sd ad : Bool}
theorem qso (hS : S0 Tryd.prog = S) (hc : TabC [] cs mx l) (hx : Sub x (.v false 1 (cellsB b) (.y (ilen b)))) (hb : Hu.BOk b) (hbl : ilen b ≤ 1000000) (hl : ilen l ≤ 100000000) (hc0 : b[(0 : Int).toNat]? = some c) (hw : nextW l b = ⟨(f1, f2), sd, ad, sz, R, e⟩) (hF : cellsB R = F) (hn : n = ilen R)
    (hK : K (.tp [.ag [.s f1, .s f2, .b sd, .b ad, .i .i64 (.y sz), .v false 1 F (.y n)], .i .i64 (.y e)]) bl) : S.call 84 [.ag cs, x] bl K := by
  refine qdz hS (next_f (mx := mx) hb hbl hl hc0 hw hF hn) ?_ rfl hK
  match hc.sub with
  | .cons h _ => exact .cons h (.cons hx .nil)
end
theorem next_sz {l : List Fd} {b : List Int} (hb : Hu.BOk b) : 0 ≤ (nextW l b).size := by
  unfold nextW
  split
  · exact Int.le_refl _
  · split
    · exact Int.le_refl _
    · split
      · exact qiz (p := 32) hb (by decide)
      · exact Int.le_refl _
theorem unb_e {mx most : Int} {l : List Tb.Fd} {b : List Int} (hv : ¬(rightL mx l = true ∧ 0 ≤ most ∧ most ≤ 4096)) (hl : fullL l ≤ 10000000) :
    (S0 Tryd.prog).call 49 [tabV mx l, .i .i64 (.y most), .v false 1 (cellsB b) (.y (ilen b))] [] (Tell (unV (([], false, (0, [])), 2))) := by
  unfold tabV
  generalize hG : cellsF l = G
  obtain ⟨k, hk⟩ : ∃ k, k = ilen l := ⟨_, rfl⟩
  generalize hF : cellsB b = F
  obtain ⟨n, hn⟩ : ∃ k, k = ilen b := ⟨_, rfl⟩
  obtain ⟨ri, hri⟩ : ∃ r, rightL mx l = r := ⟨_, rfl⟩
  obtain ⟨x, hx⟩ : ∃ x, unV (([], false, (0, [])), 2) = x := ⟨_, rfl⟩
  rw [← hk, ← hn, hx]
  rw [hri] at hv
  generalize hS : S0 Tryd.prog = S
  refine qac hS I.qjl ?_
  cbv
  refine right_g hS (.v (z := .y mx) (n := .y k) rfl hG hk) hri (by omega) ?_
  cbv
  cases ri <;> cbv
  all_goals
    repeat' (first
      | (refine qbr hS rfl ?_; try cbv)
      | (refine s_ck hS ?_; try cbv)
      | (refine qab hS ?_ ?_ <;> intro h <;> (try cbv) <;> try exact s_ab h)
      | (refine s_ad hS ?_; intro _ _; try cbv)
      | (refine s_sb hS ?_; intro _ _; try cbv)
      | (refine qau hS ?_; intro _ _; try cbv)
      | (refine qae hS ?_; try cbv)
      | (refine qcx hS rfl ?_; cbv)
      | (refine qam hS rfl I.qbd (by decide +kernel) ?_; cbv)
      | (refine qbs hS ?_; try cbv)
      | (refine s_lk hS ?_; try cbv)
      | (refine s_mu hS ?_; try cbv)
      | fail)
  all_goals first
    | (subst hx; exact unE_fz rfl)
    | (exfalso; exact hv ⟨rfl, by omega, by omega⟩)
theorem unb_k {mx most : Int} {l : List Tb.Fd} {b : List Int} {e : Int} {s : Un} (hr : goU most ⟨b, mx, l, [], 0⟩ = (e, s)) (hR : rightL mx l = true) (h0 : 0 ≤ most) (h1 : most ≤ 4096) (hb : Hu.BOk b) (hbl : ilen b ≤ 60000) :
    (S0 Tryd.prog).call 49 [tabV mx l, .i .i64 (.y most), .v false 1 (cellsB b) (.y (ilen b))] [] (Tell (if e ≠ 0 then unV (([], false, (0, [])), e) else unV ((s.out, decide (2000 < s.size), (s.mx, s.l)), 0))) := by
  have hl0 := qbn hR
  have hR' := of_decide_eq_true hR
  unfold tabV
  generalize hG : cellsF l = G
  obtain ⟨k, hk⟩ : ∃ k, k = ilen l := ⟨_, rfl⟩
  have h0n := qaf b
  generalize hF : cellsB b = F
  obtain ⟨n, hn⟩ : ∃ k, k = ilen b := ⟨_, rfl⟩
  have hres : resR (mx, l) mx = ((mx, l), 0) := by unfold resR; rw [if_pos ⟨hR, hR'.1, hR'.2.1⟩]; dsimp only; rw [evL_all hR'.2.2]
  obtain ⟨x, hx⟩ : ∃ x, (if e ≠ 0 then unV (([], false, (0, [])), e) else unV ((s.out, decide (2000 < s.size), (s.mx, s.l)), 0)) = x := ⟨_, rfl⟩
  rw [← hk, ← hn, hx]
  generalize hS : S0 Tryd.prog = S
  refine qac hS I.qjl ?_
  cbv
  refine right_g hS (.v (z := .y mx) (n := .y k) rfl hG hk) hR (by omega) ?_
  cbv
  repeat' (first
    | (refine qbr hS rfl ?_; try cbv)
    | (refine s_ck hS ?_; try cbv)
    | (refine qab hS ?_ ?_ <;> intro h <;> (try cbv) <;> try exact s_ab h)
    | (refine s_ad hS ?_; intro _ _; try cbv)
    | (refine s_sb hS ?_; intro _ _; try cbv)
    | (refine qau hS ?_; intro _ _; try cbv)
    | (refine qae hS ?_; try cbv)
    | (refine res_g hS (.v (z := .y mx) (n := .y k) rfl hG hk) hres hG hk (by omega) ?_; cbv)
    | (refine qcx hS rfl ?_; cbv)
    | (refine qam hS rfl I.qbd (by decide +kernel) ?_; cbv)
    | (refine qac hS I.qth ?_; cbv)
    | (refine qhq hS I.qph ?_; cbv)
    | (refine qbs hS ?_; try cbv)
    | (refine s_lk hS ?_; try cbv)
    | (refine s_mu hS ?_; try cbv)
    | fail)
  refine qzadd hS 2 0 2 (by decide) rfl rfl ?_
  cbv
  refine qba hS 11 I.qju (fun x : Un × List SV × Int × List SV × Int × List SV × Int × Int × Bool × Int × Int =>
      goU most x.1 = (e, s) ∧ UnOk 17000000000000 x.1 ∧ cellsB x.1.b = x.2.1 ∧ x.2.2.1 = ilen x.1.b ∧ cellsF x.1.l = x.2.2.2.1 ∧ x.2.2.2.2.1 = ilen x.1.l ∧ cellsF x.1.out = x.2.2.2.2.2.1 ∧ x.2.2.2.2.2.2.1 = ilen x.1.out ∧ x.2.2.2.2.2.2.2.2.1 = decide (2000 < x.1.size) ∧ 0 ≤ x.2.2.2.2.2.2.2.2.2.2 ∧ (0 < x.2.2.2.2.2.2.2.2.2.2 ↔ 0 < x.1.size) ∧ x.2.2.2.2.2.2.2.2.2.2 + ilen x.1.b ≤ 60000) (fun _ => [])
    (fun x => [(2, .c [.sl 10 2 (.l 0) (.y x.2.2.2.2.2.2.1) none, .b x.2.2.2.2.2.2.2.2.1, .i .i64 (.y x.1.mx), .v false 2 x.2.2.2.1 (.y x.2.2.2.2.1)]), (3, .c [.i .i64 (.y x.2.2.2.2.2.2.2.2.2.1)]), (4, .c [.i .i64 (.y x.1.size)]), (5, .c [.i .i64 (.y x.2.2.2.2.2.2.2.2.2.2)]), (7, .c [.v false 1 x.2.1 (.y x.2.2.1)]), (10, .r false false (.y x.2.2.2.2.2.2.2.1) 2 x.2.2.2.2.2.1)])
    (fun x => x.1.b.length) (⟨b, mx, l, [], 0⟩, F, n, G, k, [], 0, 0, false, 2, 0) rfl
    ⟨⟨hr, ⟨hb, hbl, hR, Int.le_refl _, by dsimp only; omega, Int.le_refl _, (show (0 : Int) ≤ 2000 by decide)⟩, hF, hn, hG, hk, rfl, rfl, rfl, Int.le_refl _, Iff.rfl, by dsimp only; omega⟩, rfl, ?_, ?_, by cbv⟩ ?_
  · cbv; exact s_qA
  · cbv; exact s_qA
  intro x'
  obtain ⟨⟨b', mx', l', out', sz'⟩, B, bn, T, tn, O, on, st, lg, ev, fi⟩ := x'
  intro hx'
  dsimp only at hx'
  cbv
  obtain ⟨g1, ok, g3, g4, g5, g6, g7, g8, g9, g10, g11, g12⟩ := hx'
  have hbok : Hu.BOk b' := ok.b
  have hbl0 : ilen b' ≤ 60000 := ok.len
  have hbl' : ilen b' ≤ 1000000 := by omega
  have hR2 : rightL mx' l' = true := ok.right
  have hs0 : 0 ≤ sz' := ok.s0
  have hsz : sz' + 17000000 * ilen b' ≤ 17000000000000 := ok.size
  have hl2 := qbn hR2
  have hR3 := of_decide_eq_true hR2
  have ho1 : fullL out' ≤ sz' := ok.o1
  have ho2 : fullL out' ≤ 2000 := ok.o2
  have ho3 := qbq out'
  have hn0 := qaf b'
  have hOl : ilen O = on * 2 := by rw [← g7, g8]; have := qce out'; unfold ilen; omega
  have hon0 := qaf out'
  refine qab hS ?_ ?_ <;> intro hz <;> cbv
  · have hne : b' ≠ [] := by intro h; rw [h] at g4; unfold ilen at g4; simp at g4; omega
    obtain ⟨c, hc⟩ := qek (l := b') (i := 0) (by omega) (Int.le_refl _)
    obtain ⟨⟨⟨f1, f2⟩, sd, ad, sz, R, ew⟩, hw⟩ : ∃ r, nextW l' b' = r := ⟨_, rfl⟩
    obtain ⟨hX, hY⟩ := next_nxt l' b'
    rw [hw] at hX hY
    dsimp only at hX hY
    obtain ⟨FR, hFR⟩ : ∃ r, cellsB R = r := ⟨_, rfl⟩
    obtain ⟨nR, hnR⟩ : ∃ r, r = ilen R := ⟨_, rfl⟩
    have errL : ∀ (e' : Int) (y : Nx) (ze : Z) (l'' : List Blk), nxtU l' b' = y → (stepU most ⟨b', mx', l', out', sz'⟩ y).1 = e' → e' ≠ 0 → ze.v = e' → ∀ g, Fz l'' g [] (.tp [.ag [.re (.slice none 0 0), .ff, .i .i64 (.l 0), .re (.slice none 0 0)], .i .i64 ze]) x := by
      intro e' y ze l'' hy he hn0 hz
      have := go_E (s := ⟨b', mx', l', out', sz'⟩) hy hne g1 (by rw [he]; exact hn0)
      rw [he] at this
      subst this hx
      rw [if_pos hn0]
      exact unE_fz hz
    by_cases he0 : ew = 0
    case neg =>
      have hst : (stepU most ⟨b', mx', l', out', sz'⟩ (nxtU l' b')).1 = ew := by rw [step_e (by rw [hX]; exact he0), hX]
      repeat' (first
        | (refine qbr hS rfl ?_; try cbv)
        | (refine s_ck hS ?_; try cbv)
        | (refine qab hS ?_ ?_ <;> intro h <;> (try cbv) <;> try exact s_ab h)
        | (refine s_ad hS ?_; intro _ _; try cbv)
        | (refine s_sb hS ?_; intro _ _; try cbv)
        | (refine qau hS ?_; intro _ _; try cbv)
        | (refine qae hS ?_; try cbv)
        | (refine qcx hS rfl ?_; cbv)
        | (refine qdc hS rfl I.qbg (by decide +kernel) ?_; cbv; refine ⟨?_, ?_⟩ <;> cbv)
        | (refine qso hS (.v (z := .y mx') (n := .y tn) rfl g5 g6) (qbe (n := .y bn) g3.symm g4) hbok hbl' (by omega) hc hw hFR hnR ?_; cbv)
        | (refine qev hS rfl rfl ?_; cbv)
        | (refine qam hS rfl I.qbp (by decide +kernel) ?_; cbv)
        | (refine qam hS rfl I.qbd (by decide +kernel) ?_; cbv)
        | (refine qbs hS ?_; try cbv)
        | (refine s_lk hS ?_; try cbv)
        | (refine s_mu hS ?_; try cbv)
        | fail)
      all_goals exact errL ew _ (.y ew) _ rfl hst he0 rfl
    replace hY := hY he0
    subst he0
    have hlt : ilen R < ilen b' := by have h := (qzadj ok hY rfl).2; dsimp only at h; exact h
    have hR0 := qaf R
    have hlt' : R.length < b'.length := by unfold ilen at hlt; omega
    cases sd with
    | true =>
      by_cases hs : 0 < sz' ∨ most < sz
      · have hst : (stepU most ⟨b', mx', l', out', sz'⟩ ⟨0, true, ad, sz, (f1, f2), R⟩).1 = 100 := by rw [qrw rfl rfl, if_pos hs]
        by_cases hs1 : 0 < fi
        · repeat' (first
          | (refine qbr hS rfl ?_; try cbv)
          | (refine s_ck hS ?_; try cbv)
          | (refine qab hS ?_ ?_ <;> intro h <;> (try cbv) <;> try exact s_ab h)
          | (refine s_ad hS ?_; intro _ _; try cbv)
          | (refine s_sb hS ?_; intro _ _; try cbv)
          | (refine qau hS ?_; intro _ _; try cbv)
          | (refine qae hS ?_; try cbv)
          | (refine qcx hS rfl ?_; cbv)
          | (refine qdc hS rfl I.qbg (by decide +kernel) ?_; cbv; refine ⟨?_, ?_⟩ <;> cbv)
          | (refine qso hS (.v (z := .y mx') (n := .y tn) rfl g5 g6) (qbe (n := .y bn) g3.symm g4) hbok hbl' (by omega) hc hw hFR hnR ?_; cbv)
          | (refine qev hS rfl rfl ?_; cbv)
          | (refine qam hS rfl I.qbp (by decide +kernel) ?_; cbv)
          | (refine qam hS rfl I.qbd (by decide +kernel) ?_; cbv)
          | (refine qbs hS ?_; try cbv)
          | (refine s_lk hS ?_; try cbv)
          | (refine s_mu hS ?_; try cbv)
          | fail)
          all_goals first
            | (exfalso; omega)
            | exact errL 100 _ (.l 100) _ hY hst (by decide) rfl
        · repeat' (first
          | (refine qbr hS rfl ?_; try cbv)
          | (refine s_ck hS ?_; try cbv)
          | (refine qab hS ?_ ?_ <;> intro h <;> (try cbv) <;> try exact s_ab h)
          | (refine s_ad hS ?_; intro _ _; try cbv)
          | (refine s_sb hS ?_; intro _ _; try cbv)
          | (refine qau hS ?_; intro _ _; try cbv)
          | (refine qae hS ?_; try cbv)
          | (refine qcx hS rfl ?_; cbv)
          | (refine qdc hS rfl I.qbg (by decide +kernel) ?_; cbv; refine ⟨?_, ?_⟩ <;> cbv)
          | (refine qso hS (.v (z := .y mx') (n := .y tn) rfl g5 g6) (qbe (n := .y bn) g3.symm g4) hbok hbl' (by omega) hc hw hFR hnR ?_; cbv)
          | (refine qev hS rfl rfl ?_; cbv)
          | (refine qam hS rfl I.qbp (by decide +kernel) ?_; cbv)
          | (refine qam hS rfl I.qbd (by decide +kernel) ?_; cbv)
          | (refine qbs hS ?_; try cbv)
          | (refine s_lk hS ?_; try cbv)
          | (refine s_mu hS ?_; try cbv)
          | fail)
          all_goals first
            | (exfalso; omega)
            | exact errL 100 _ (.l 100) _ hY hst (by decide) rfl
      · have hst : stepU most ⟨b', mx', l', out', sz'⟩ ⟨0, true, ad, sz, (f1, f2), R⟩ = (0, ⟨R, sz, evL sz l', out', sz'⟩) := by rw [qrw rfl rfl, if_neg hs]
        have hsz0 : 0 ≤ sz := by have h := next_sz (l := l') hbok; rw [hw] at h; exact h
        have q1 := go_S (s := ⟨b', mx', l', out', sz'⟩) hY hbok hne g1 hst
        have q2 := ok_size ok hY rfl h1 hsz0 (show sz ≤ most by omega)
        have hres2 : resR (mx', l') sz = ((sz, evL sz l'), 0) := by unfold resR; rw [if_pos ⟨hR2, hsz0, by omega⟩]
        obtain ⟨l2, hl2'⟩ : ∃ r, evL sz l' = r := ⟨_, rfl⟩
        rw [hl2'] at hres2 q1 q2
        obtain ⟨A2, hA2⟩ : ∃ r, cellsF l2 = r := ⟨_, rfl⟩
        obtain ⟨m2, hm2⟩ : ∃ r, r = ilen l2 := ⟨_, rfl⟩
        repeat' (first
          | (refine qbr hS rfl ?_; try cbv)
          | (refine s_ck hS ?_; try cbv)
          | (refine qab hS ?_ ?_ <;> intro h <;> (try cbv) <;> try exact s_ab h)
          | (refine s_ad hS ?_; intro _ _; try cbv)
          | (refine s_sb hS ?_; intro _ _; try cbv)
          | (refine qau hS ?_; intro _ _; try cbv)
          | (refine qae hS ?_; try cbv)
          | (refine qcx hS rfl ?_; cbv)
          | (refine qdc hS rfl I.qbg (by decide +kernel) ?_; cbv; refine ⟨?_, ?_⟩ <;> cbv)
          | (refine qso hS (.v (z := .y mx') (n := .y tn) rfl g5 g6) (qbe (n := .y bn) g3.symm g4) hbok hbl' (by omega) hc hw hFR hnR ?_; cbv)
          | (refine qev hS rfl rfl ?_; cbv)
          | (refine qam hS rfl I.qbp (by decide +kernel) ?_; cbv)
          | (refine qam hS rfl I.qbd (by decide +kernel) ?_; cbv)
          | (refine res_g hS (.v (z := .y mx') (n := .y tn) rfl g5 g6) hres2 hA2 hm2 (by omega) ?_; cbv)
          | (refine qbs hS ?_; try cbv)
          | (refine s_lk hS ?_; try cbv)
          | (refine s_mu hS ?_; try cbv)
          | fail)
        all_goals
          refine ⟨(⟨R, sz, l2, out', sz'⟩, FR, nR, A2, m2, O, on, st, lg, 100, fi), hlt', ⟨q1, q2, hFR, hnR, hA2, hm2, g7, g8, g9, g10, g11, by dsimp only; omega⟩, rfl, ?_, ?_, by cbv⟩
          · cbv; exact s_qA
          · cbv; exact s_qA
    | false =>
      have telL : goU most (tellU ⟨b', mx', l', out', sz'⟩ ⟨0, false, ad, sz, (f1, f2), R⟩) = (e, s) ∧ UnOk 17000000000000 (tellU ⟨b', mx', l', out', sz'⟩ ⟨0, false, ad, sz, (f1, f2), R⟩) :=
        ⟨go_S (s := ⟨b', mx', l', out', sz'⟩) hY hbok hne g1 (qzaam rfl rfl), ok_tell ok hY rfl⟩
      unfold tellU at telL
      dsimp only at telL
      have hzb := nxt_len (l := l') hbok (by omega)
      rw [hY] at hzb
      dsimp only at hzb
      obtain ⟨z, hz'⟩ : ∃ z, z = szF (f1, f2) := ⟨_, rfl⟩
      have hzp := qeu (f1, f2)
      rw [← hz'] at hzb telL hzp
      have fin : ∀ (r : Int) (l2 : List Fd), (if ad = true then evL mx' ((f1, f2) :: l') else l') = l2 → r = sz' + z →
          (2000 < r → goU most ⟨R, mx', l2, out', r⟩ = (e, s) ∧ UnOk 17000000000000 ⟨R, mx', l2, out', r⟩) ∧ (¬2000 < r → goU most ⟨R, mx', l2, out' ++ [(f1, f2)], r⟩ = (e, s) ∧ UnOk 17000000000000 ⟨R, mx', l2, out' ++ [(f1, f2)], r⟩) := by
        intro r l2 h2 hr2
        rw [h2, ← hr2] at telL
        exact ⟨fun h3 => by rwa [if_pos h3] at telL, fun h3 => by rwa [if_neg h3] at telL⟩
      have e1 : S.app O [.s f1, .s f2] = cellsF (out' ++ [(f1, f2)]) := by rw [← g7, app_i hS]; simp [cellsF, fdE]
      have e2 : S.pl on 1 = ilen (out' ++ [(f1, f2)]) := by rw [qar, g8]; subst hS; rfl
      have hlg : ∀ r, r = sz' + z → ¬2000 < r → lg = decide (2000 < r) := by
        intro r h1 h2
        rw [g9, decide_eq_false h2, decide_eq_false (by omega)]
      cases ad with
      | true =>
        have had : addR (mx', l') (f1, f2) = ((mx', evL mx' ((f1, f2) :: l')), 0) := by unfold addR; rw [if_pos hR2]
        obtain ⟨l2, hl2'⟩ : ∃ r, evL mx' ((f1, f2) :: l') = r := ⟨_, rfl⟩
        rw [hl2'] at had
        have fin := fun r => fin r l2 (by rw [if_pos rfl, hl2'])
        obtain ⟨A2, hA2⟩ : ∃ r, cellsF l2 = r := ⟨_, rfl⟩
        obtain ⟨m2, hm2⟩ : ∃ r, r = ilen l2 := ⟨_, rfl⟩
        repeat' (first
          | (refine qbr hS rfl ?_; try cbv)
          | (refine s_ck hS ?_; try cbv)
          | (refine qab hS ?_ ?_ <;> intro h <;> (try cbv) <;> try exact s_ab h)
          | (refine s_ad hS ?_; intro _ _; try cbv)
          | (refine s_sb hS ?_; intro _ _; try cbv)
          | (refine qau hS ?_; intro _ _; try cbv)
          | (refine qae hS ?_; try cbv)
          | (refine qcx hS rfl ?_; cbv)
          | (refine qdc hS rfl I.qbg (by decide +kernel) ?_; cbv; refine ⟨?_, ?_⟩ <;> cbv)
          | (refine qso hS (.v (z := .y mx') (n := .y tn) rfl g5 g6) (qbe (n := .y bn) g3.symm g4) hbok hbl' (by omega) hc hw hFR hnR ?_; cbv)
          | (refine qev hS rfl rfl ?_; cbv)
          | (refine qam hS rfl I.qbp (by decide +kernel) ?_; cbv)
          | (refine qam hS rfl I.qbd (by decide +kernel) ?_; cbv)
          | (refine add_g hS (.v (z := .y mx') (n := .y tn) rfl g5 g6) had hA2 hm2 (by omega) (by omega) ?_; cbv)
          | (refine size_g hS hz' (by omega) ?_; cbv)
          | (refine qbs hS ?_; try cbv)
          | (refine s_lk hS ?_; try cbv)
          | (refine s_mu hS ?_; try cbv)
          | fail)
        all_goals
          rename_i fi2 hfi r hr2 h3
          first
            | (have h3 : 2000 < r := h3
               obtain ⟨q1, q2⟩ := (fin r hr2).1 h3
               refine ⟨(⟨R, mx', l2, out', r⟩, FR, nR, A2, m2, O, on, st, true, 0, fi2), hlt', ⟨q1, q2, hFR, hnR, hA2, hm2, g7, g8, (decide_eq_true h3).symm, by dsimp only; omega, ⟨fun _ => by dsimp only; omega, fun _ => by dsimp only; omega⟩, by dsimp only; omega⟩, rfl, ?_, ?_, by cbv⟩
               · cbv; exact s_qA
               · cbv; exact s_qA)
            | (have h3 : ¬2000 < r := h3
               obtain ⟨q1, q2⟩ := (fin r hr2).2 h3
               refine ⟨(⟨R, mx', l2, out' ++ [(f1, f2)], r⟩, FR, nR, A2, m2, S.app O [.s f1, .s f2], S.pl on 1, S.flen O, lg, 0, fi2), hlt', ⟨q1, q2, hFR, hnR, hA2, hm2, e1.symm, e2, hlg r hr2 h3, by dsimp only; omega, ⟨fun _ => by dsimp only; omega, fun _ => by dsimp only; omega⟩, by dsimp only; omega⟩, rfl, ?_, ?_, by cbv⟩
               · cbv; exact s_qA
               · cbv; exact s_qA)
      | false =>
        have fin := fun r => fin r l' (by rw [if_neg (by simp)])
        repeat' (first
          | (refine qbr hS rfl ?_; try cbv)
          | (refine s_ck hS ?_; try cbv)
          | (refine qab hS ?_ ?_ <;> intro h <;> (try cbv) <;> try exact s_ab h)
          | (refine s_ad hS ?_; intro _ _; try cbv)
          | (refine s_sb hS ?_; intro _ _; try cbv)
          | (refine qau hS ?_; intro _ _; try cbv)
          | (refine qae hS ?_; try cbv)
          | (refine qcx hS rfl ?_; cbv)
          | (refine qdc hS rfl I.qbg (by decide +kernel) ?_; cbv; refine ⟨?_, ?_⟩ <;> cbv)
          | (refine qso hS (.v (z := .y mx') (n := .y tn) rfl g5 g6) (qbe (n := .y bn) g3.symm g4) hbok hbl' (by omega) hc hw hFR hnR ?_; cbv)
          | (refine qev hS rfl rfl ?_; cbv)
          | (refine qam hS rfl I.qbp (by decide +kernel) ?_; cbv)
          | (refine qam hS rfl I.qbd (by decide +kernel) ?_; cbv)
          | (refine size_g hS hz' (by omega) ?_; cbv)
          | (refine qbs hS ?_; try cbv)
          | (refine s_lk hS ?_; try cbv)
          | (refine s_mu hS ?_; try cbv)
          | fail)
        all_goals
          rename_i fi2 hfi r hr2 h3
          first
            | (have h3 : 2000 < r := h3
               obtain ⟨q1, q2⟩ := (fin r hr2).1 h3
               refine ⟨(⟨R, mx', l', out', r⟩, FR, nR, T, tn, O, on, st, true, 0, fi2), hlt', ⟨q1, q2, hFR, hnR, g5, g6, g7, g8, (decide_eq_true h3).symm, by dsimp only; omega, ⟨fun _ => by dsimp only; omega, fun _ => by dsimp only; omega⟩, by dsimp only; omega⟩, rfl, ?_, ?_, by cbv⟩
               · cbv; exact s_qA
               · cbv; exact s_qA)
            | (have h3 : ¬2000 < r := h3
               obtain ⟨q1, q2⟩ := (fin r hr2).2 h3
               refine ⟨(⟨R, mx', l', out' ++ [(f1, f2)], r⟩, FR, nR, T, tn, S.app O [.s f1, .s f2], S.pl on 1, S.flen O, lg, 0, fi2), hlt', ⟨q1, q2, hFR, hnR, g5, g6, e1.symm, e2, hlg r hr2 h3, by dsimp only; omega, ⟨fun _ => by dsimp only; omega, fun _ => by dsimp only; omega⟩, by dsimp only; omega⟩, rfl, ?_, ?_, by cbv⟩
               · cbv; exact s_qA
               · cbv; exact s_qA)
  · have hbe : b' = [] := by
      apply List.eq_nil_of_length_eq_zero
      unfold ilen at g4; omega
    have hg := qlj (most := most) (s := ⟨b', mx', l', out', sz'⟩) hbe
    rw [hg] at g1
    cases g1
    rw [if_neg (by simp)] at hx
    subst hx
    have hO : (O.drop ((Z.l 0).v.toNat * 2)).take (on.toNat * 2) = cellsF out' := by
      rw [show (Z.l 0).v.toNat * 2 = 0 from rfl, List.drop_zero, List.take_of_length_le, g7]
      unfold ilen at hOl; omega
    repeat' (first
      | (refine qbr hS rfl ?_; try cbv)
      | (refine s_ck hS ?_; try cbv)
      | (refine qab hS ?_ ?_ <;> intro h <;> (try cbv) <;> try exact s_ab h)
      | (refine s_ad hS ?_; intro _ _; try cbv)
      | (refine s_sb hS ?_; intro _ _; try cbv)
      | (refine qau hS ?_; intro _ _; try cbv)
      | (refine qae hS ?_; try cbv)
      | (refine qcx hS rfl ?_; cbv)
      | (refine qdc hS rfl I.qbg (by decide +kernel) ?_; cbv; refine ⟨?_, ?_⟩ <;> cbv)
      | (refine qso hS (.v (z := .y mx') (n := .y tn) rfl g5 g6) (qbe (n := .y bn) g3.symm g4) hbok hbl' (by omega) hc hw hFR hnR ?_; cbv)
      | (refine qev hS rfl rfl ?_; cbv)
      | (refine qam hS rfl I.qbp (by decide +kernel) ?_; cbv)
      | (refine qam hS rfl I.qbd (by decide +kernel) ?_; cbv)
      | (refine qbs hS ?_; try cbv)
      | (refine s_lk hS ?_; try cbv)
      | (refine s_mu hS ?_; try cbv)
      | fail)
    exact fun g => .tp (.cons (.ag (.cons (qnr rfl rfl hO (qbo _) g8) (.cons (.sub (qwz g9) rfl) (.cons (.sub (qag rfl) rfl) (.cons (.sub (qbe g5.symm g6) rfl) .nil))))) (.cons (.sub (qag rfl) rfl) .nil))
end Pa
end Cz
namespace Cz
open Go Go.RowKit Go.Proofs
namespace Pa
open Tb
section
variable {S : Sy} {bl : List Blk} {K : SV → List Blk → Prop} {L : List Int} {F : List SV} {n i w : Int} {a b : List UInt8}
theorem named_g (hS : S0 Tryd.prog = S) {zi zw : Z} (hi : zi.v = i) (hw : zw.v = w) (h0 : 0 < i) (h1 : i < 2147483648) (hb : ilen b ≤ 1000000) (hF : cellsB (nmB i b w) = F) (hn : n = ilen (nmB i b w)) (hK : K (.tp [.v false 1 F (.y n), .i .i64 (.y 0)]) bl) :
    S.call 54 [.i .i64 zi, .s b, .i .i64 zw] bl K :=
  qdz hS (own_t1 (named_o h0 h1 hb) hF hn) (.cons (qag hi) (.cons .rfl (.cons (qag hw) .nil))) rfl hK
theorem idx_g (hS : S0 Tryd.prog = S) {zi : Z} (hi : zi.v = i) (h0 : 0 ≤ i) (h1 : i < 2147483648) (hF : cellsB (idxB i) = F) (hn : n = ilen (idxB i)) (hK : K (.tp [.v false 1 F (.y n), .i .i64 (.y 0)]) bl) : S.call 53 [.i .i64 zi] bl K :=
  qdz hS (own_t1 (idx_o h0 h1) hF hn) (.cons (qag hi) .nil) rfl hK
end
end Pa
end Cz
namespace Cz
open Go Go.RowKit Go.Proofs
namespace Pa
open Tb
theorem strB_inj {a b : List Int} (ha : Hu.BOk a) (hb : Hu.BOk b) (h : strB a = strB b) : a = b := by rw [← byS_strB ha, ← byS_strB hb, h]
section
variable {S : Sy} {bl : List Blk} {K : SV → List Blk → Prop}
inductive ByC (bl : List Blk) : SV → List Int → Prop where
  | v {n : Z} {lit : Bool} {F : List SV} {b : List Int} (hF : cellsB b = F) (hn : n.v = ilen b) : ByC bl (.v lit 1 F n) b
  | nil : ByC bl (.re (.slice none 0 0)) []
  | row {n st : Z} {k : Nat} {lit : Bool} {cap : Option Z} {F : List SV} {b : List Int} (hB : lget bl k = .r false lit st 1 F) (hF : FSub F (cellsB b)) (hn : n.v = ilen b) : ByC bl (.sl k 1 (.l 0) n cap) b
theorem ByC.fz {x : SV} {b : List Int} (h : ByC bl x b) {g : Nat → Nat} : Fz bl g [] x (.v false 1 (cellsB b) (.y (ilen b))) := by
  cases h with
  | v hF hn => exact .sub (qbe hF.symm hn) rfl
  | nil => exact .nil (by decide) rfl
  | @row n st k lit cap F b hB hF hn =>
    refine .row (qav hB (by simp)) rfl (.fsub ?_ (qad _)) (qad _) hn
    rw [show (Z.l 0).v.toNat * 1 = 0 from rfl, List.drop_zero, List.take_of_length_le]
    · exact hF
    · have h1 := hF.1
      have h2 := qas b
      unfold ilen at *
      omega
theorem ByC.two {x y : SV} {a b : List Int} (h : ByC bl x a) (h' : ByC bl y b) {g : Nat → Nat} : FzL bl g [] [x, y] [.v false 1 (cellsB a) (.y (ilen a)), .v false 1 (cellsB b) (.y (ilen b))] := .cons h.fz (.cons h'.fz .nil)
end
section
variable {S : Sy} {bl : List Blk} {K : SV → List Blk → Prop}
theorem qzx (hS : S0 Tryd.prog = S) (fs : List Nat) {g : FuncId} {args args' : List SV} {y y' : SV} (hF : (S0 Tryd.prog).call g args' [] (Tell y)) (ha : FzL bl id (others fs (len bl)) args args') (hr : refsBL (fun _ => false) args' = true) (hy : Sub y y') (hK : K y' (frzL fs 0 bl)) : S.call g args bl K := by
  subst hS
  exact qay (use_frz rfl fs (rows := []) (y := fun _ => y) (qay hF fun x l' h => ⟨x, .rfl, [], trivial, fun m => h _⟩) ha hr trivial (K := fun x l' => x = y ∧ l' = frzL fs 0 bl) (fun _ => ⟨rfl, rfl⟩)) fun x l' h => ⟨y', h.1 ▸ hy, h.2 ▸ hK⟩
variable {mx n m : Int} {l l' q : List Tb.Fd} {a b : List UInt8} {L : List Int} {F R : List SV} {args : List SV}
end
theorem qcr {bl : List Blk} {g : Nat → Nat} {ks : List (Option Nat)} {z n : Z} {lit : Bool} {F : List SV} {mx : Int} {l : List Tb.Fd} (hz : z.v = mx) (hF : cellsF l = F) (hn : n.v = ilen l) : Fz bl g ks (.ag [.i .i64 z, .v lit 2 F n]) (tabV mx l) :=
  .ag (.cons (.sub (qag hz) rfl) (.cons (.sub (qbe hF.symm hn) rfl) .nil))
theorem qrt {bl : List Blk} {g : Nat → Nat} {ks : List (Option Nat)} {z : Z} {mx : Int} (hz : z.v = mx) : Fz bl g ks (.ag [.i .i64 z, .re (.slice none 0 0)]) (tabV mx []) :=
  .ag (.cons (.sub (qag hz) rfl) (.cons (.sub (qld (by decide) rfl rfl) rfl) .nil))
end Pa
end Cz
namespace Cz
open Go Go.RowKit Go.Proofs
namespace Pa
open Tb
theorem pgo_fin {b : List Int} : ∀ (f : Nat) (a n : Int), 0 ≤ a → (pgo b f a n).2.2 = 0 → 0 ≤ (pgo b f a n).2.1 ∧ (pgo b f a n).2.1 ≤ ilen b
  | 0, _, _, _, h => by simp [pgo] at h
  | f + 1, a, n, h0, h => by
    rw [pgo] at h ⊢
    cases hv : b[a.toNat]? with
    | none => rw [hv] at h; simp at h
    | some v =>
      rw [hv] at h
      have hl := (List.getElem?_eq_some_iff.1 hv).1
      dsimp only at h ⊢
      split at h
      · simp at h
      · rename_i h1
        rw [if_neg h1]
        split at h
        · rename_i h2; rw [if_pos h2]; unfold ilen; dsimp only; omega
        · rename_i h2; rw [if_neg h2]; exact pgo_fin f _ _ (by omega) h
theorem pgo_app {b d : List Int} : ∀ (f : Nat) (a n : Int), (pgo b f a n).2.2 = 0 → pgo (b ++ d) f a n = pgo b f a n
  | 0, _, _, h => by simp [pgo] at h
  | f + 1, a, n, h => by
    rw [pgo] at h
    rw [pgo, pgo]
    cases hv : b[a.toNat]? with
    | none => rw [hv] at h; simp at h
    | some v =>
      rw [hv] at h
      have hl := (List.getElem?_eq_some_iff.1 hv).1
      rw [List.getElem?_append_left hl, hv]
      dsimp only at h ⊢
      split at h
      · simp at h
      · rename_i h1
        rw [if_neg h1, if_neg h1]
        split at h
        · rename_i h2; rw [if_pos h2, if_pos h2]
        · rename_i h2; rw [if_neg h2, if_neg h2]; exact pgo_app f _ _ h
theorem pre_app {b d : List Int} {p : Int} (h : preE b p = 0) : preE (b ++ d) p = 0 ∧ preN (b ++ d) p = preN b p ∧ preR (b ++ d) p = preR b p ++ d := by
  cases b with
  | nil => simp [preE, preI] at h
  | cons v b =>
    have e : preI (v :: b ++ d) p = preI (v :: b) p ∧ 0 ≤ (preI (v :: b) p).2.1 ∧ (preI (v :: b) p).2.1 ≤ ilen (v :: b) := by
      unfold preE preI at h
      unfold preI
      dsimp only [List.cons_append] at h ⊢
      split at h
      · rename_i h1; rw [if_pos h1, if_pos h1]; refine ⟨rfl, by simp, ?_⟩; unfold ilen; simp; omega
      · rename_i h1; rw [if_neg h1, if_neg h1]; exact ⟨pgo_app (b := v :: b) 6 1 (p - 1) h, pgo_fin 6 1 (p - 1) (by decide) h⟩
    obtain ⟨e1, e2, e3⟩ := e
    have h2 : preE (v :: b ++ d) p = 0 := by unfold preE at h ⊢; rw [e1]; exact h
    refine ⟨h2, by unfold preN; rw [e1], ?_⟩
    unfold preR
    rw [if_pos h, if_pos h2, e1, List.drop_append_of_le_length (by unfold ilen at e3; omega)]
theorem part_app {b d : List Int} {n : Int} (h : n ≤ ilen b) : part (b ++ d) 0 n = part b 0 n := by
  unfold part ilen at *
  rw [show (0 : Int).toNat = 0 from rfl, List.drop_zero, List.drop_zero, List.take_append_of_le_length (by omega)]
theorem t_app {b d : List Int} (h : tE b = 0) : tTake (b ++ d) = (tS b, tR b ++ d, 0) := by
  have hn : b ≠ [] := by intro h1; rw [h1] at h; revert h; decide
  obtain ⟨v, b', rfl⟩ : ∃ v b', b = v :: b' := by cases b with | nil => exact absurd rfl hn | cons v b => exact ⟨v, b, rfl⟩
  unfold tE at h
  unfold tS tR
  unfold tTake at h ⊢
  by_cases h1 : preE (v :: b') 128 = 0
  · have n1 : ¬preE (v :: b') 128 ≠ 0 := fun h => h h1
    obtain ⟨e1, e2, e3⟩ := pre_app (d := d) h1
    have n2 : ¬preE (v :: b' ++ d) 128 ≠ 0 := fun h => h e1
    rw [if_neg n1] at h
    simp only [if_neg n1, if_neg n2, e2, e3]
    by_cases h2 : ilen (preR (v :: b') 128) < preN (v :: b') 128
    · rw [if_pos h2] at h; simp at h
    · have h3 := qaf d
      have h4 := qar (preR (v :: b') 128) d
      have n3 : ¬ilen (preR (v :: b') 128 ++ d) < preN (v :: b') 128 := by omega
      rw [if_neg h2] at h
      simp only [if_neg h2, if_neg n3, part_app (d := d) (show preN (v :: b') 128 ≤ ilen (preR (v :: b') 128) by omega)]
      rw [List.drop_append_of_le_length (show (preN (v :: b') 128).toNat ≤ (preR (v :: b') 128).length by unfold ilen at h2; omega)]
      have e5 : (v :: b' ++ d).getD 0 0 = (v :: b').getD 0 0 := rfl
      rw [e5]
      by_cases h5 : (v :: b').getD 0 0 < 128
      · simp only [if_pos h5]
      · rw [if_neg h5] at h
        simp only [if_neg h5]
        by_cases h6 : takeE (part (preR (v :: b') 128) 0 (preN (v :: b') 128)) = 0
        · simp only [if_pos h6]
        · rw [if_neg h6] at h; simp at h
  · rw [if_pos h1] at h; exact absurd h h1
theorem t_app3 {b d : List Int} (h : tE b = 0) : tE (b ++ d) = 0 ∧ tS (b ++ d) = tS b ∧ tR (b ++ d) = tR b ++ d := by
  have e := t_app (d := d) h
  exact ⟨congrArg (·.2.2) e, congrArg (·.1) e, congrArg (·.2.1) e⟩
theorem lit_app {l : List Fd} {a : Bool} {i : Int} {b d : List Int} {x : Nx} (hx : litU l a i b = x) (h : x.e = 0) : litU l a i (b ++ d) = ⟨0, x.sized, x.added, x.size, x.f, x.rest ++ d⟩ := by
  subst hx
  unfold litU at h ⊢
  split
  · rename_i h0
    rw [if_pos h0] at h
    split
    · rename_i h1; rw [if_pos h1] at h; exact absurd h h1
    · rename_i h1
      rw [if_neg h1] at h
      by_cases h2 : tE b = 0
      · obtain ⟨e1, e2, e3⟩ := t_app3 (d := d) h2
        rw [if_neg (by simpa using e1), if_neg (by simpa using h2), e2, e3]
      · rw [if_pos h2] at h; exact absurd h h2
  · rename_i h0
    rw [if_neg h0] at h
    by_cases h2 : tE b = 0
    · rw [if_neg (by simpa using h2)] at h
      obtain ⟨e1, e2, e3⟩ := t_app3 (d := d) h2
      by_cases h3 : tE (tR b) = 0
      · obtain ⟨g1, g2, g3⟩ := t_app3 (d := d) h3
        rw [e2, e3, g2, g3, if_neg (by simpa using e1), if_neg (by simpa using g1), if_neg (by simpa using h2), if_neg (by simpa using h3)]
      · rw [if_pos h3] at h; exact absurd h h3
    · rw [if_pos h2] at h; exact absurd h h2
theorem nxt_app {l : List Fd} {b d : List Int} {x : Nx} (hb : b ≠ []) (hx : nxtU l b = x) (h : x.e = 0) : nxtU l (b ++ d) = ⟨0, x.sized, x.added, x.size, x.f, x.rest ++ d⟩ := by
  subst hx
  have hg : (b ++ d).getD 0 0 = b.getD 0 0 := by cases b with | nil => exact absurd rfl hb | cons v b => rfl
  unfold nxtU at h ⊢
  rw [hg]
  by_cases h1 : preE b (powU (b.getD 0 0)) = 0
  · have n1 : ¬preE b (powU (b.getD 0 0)) ≠ 0 := fun h => h h1
    obtain ⟨e1, e2, e3⟩ := pre_app (d := d) h1
    have n2 : ¬preE (b ++ d) (powU (b.getD 0 0)) ≠ 0 := fun h => h e1
    rw [if_neg n1] at h
    rw [if_neg n1, if_neg n2, e2, e3]
    unfold nxtC at h ⊢
    split
    · rename_i h2
      rw [if_pos h2] at h
      split
      · rename_i h3; rw [if_pos h3] at h; exact absurd h h3
      · rfl
    · rename_i h2
      rw [if_neg h2] at h
      split
      · rename_i h3; rw [if_pos h3] at h; exact lit_app rfl h
      · rename_i h3
        rw [if_neg h3] at h
        split
        · rfl
        · rename_i h4; rw [if_neg h4] at h; exact lit_app rfl h
  · rw [if_pos h1] at h; exact absurd h h1
theorem step_app {most : Int} {s u : Un} {x : Nx} {d : List Int} (h : stepU most s x = (0, u)) : stepU most ⟨s.b ++ d, s.mx, s.l, s.out, s.size⟩ ⟨0, x.sized, x.added, x.size, x.f, x.rest ++ d⟩ = (0, ⟨u.b ++ d, u.mx, u.l, u.out, u.size⟩) := by
  have hx : x.e = 0 := by
    have := (qiu (most := most) (s := s) (x := x) (by rw [h])).1
    exact this
  unfold stepU at h ⊢
  rw [if_neg (by simpa using hx)] at h
  rw [if_neg (by simp)]
  split
  · rename_i h1
    rw [if_pos h1] at h
    split
    · rename_i h2; rw [if_pos h2] at h; cases h
    · rename_i h2; rw [if_neg h2] at h; cases h; rfl
  · rename_i h1
    rw [if_neg h1] at h; cases h; rfl
theorem go_app {most : Int} {d : List Int} (hd : Hu.BOk d) : ∀ (n : Nat) (s t : Un), s.b.length ≤ n → Hu.BOk s.b → goU most s = (0, t) → goU most ⟨s.b ++ d, s.mx, s.l, s.out, s.size⟩ = goU most ⟨d, t.mx, t.l, t.out, t.size⟩ := by
  intro n
  induction n with
  | zero =>
    intro s t hn hb hg
    have hs : s.b = [] := List.length_eq_zero_iff.1 (by omega)
    rw [qlj hs] at hg; cases hg; rw [hs]; rfl
  | succ n ih =>
    intro s t hn hb hg
    by_cases hs : s.b = []
    · rw [qlj hs] at hg; cases hg; rw [hs]; rfl
    · by_cases h1 : (stepU most s (nxtU s.l s.b)).1 = 0
      · obtain ⟨u, hu⟩ : ∃ u, stepU most s (nxtU s.l s.b) = (0, u) := ⟨_, Prod.ext h1 rfl⟩
        obtain ⟨h2, h3⟩ := qiu h1
        obtain ⟨h4, h5⟩ := qwc hb h2
        have h6 := nxt_app (d := d) hs rfl h2
        have h7 := step_app (d := d) hu
        have hg' := go_S rfl hb hs hg hu
        rw [hu] at h3
        have h8 := qjj (most := most) (s := ⟨s.b ++ d, s.mx, s.l, s.out, s.size⟩) (qef hb hd) (by simp [hs]) (by dsimp only; rw [h6, h7])
        dsimp only at h8
        rw [h8, h6, h7]
        exact ih u t (by rw [show u.b = (nxtU s.l s.b).rest from h3]; unfold ilen at h5; omega) (by rw [show u.b = (nxtU s.l s.b).rest from h3]; exact h4) hg'
      · rw [qqd hs h1] at hg
        rw [hg] at h1; exact absurd rfl h1
theorem nxt_sized {l : List Fd} {b : List Int} (h : ¬(32 ≤ b.getD 0 0 ∧ b.getD 0 0 < 64)) (he : (nxtU l b).e = 0) : (nxtU l b).sized = false := by
  obtain ⟨c, hc⟩ : ∃ c, b.getD 0 0 = c := ⟨_, rfl⟩
  rw [hc] at h
  have hL : ∀ a i r, (litU l a i r).e = 0 → (litU l a i r).sized = false := by
    intro a i r
    unfold litU
    split
    · split
      · intro h; rename_i h1; exact absurd h h1
      · split
        · intro h; rename_i h1; exact absurd h h1
        · intro _; rfl
    · split
      · intro h; rename_i h1; exact absurd h h1
      · split
        · intro h; rename_i h1; exact absurd h h1
        · intro _; rfl
  revert he
  unfold nxtU
  rw [hc]
  split
  · intro h; rename_i h1; exact absurd h h1
  · unfold nxtC
    split
    · split
      · intro h; rename_i h1; exact absurd h h1
      · intro _; rfl
    · split
      · exact hL _ _ _
      · split
        · exfalso; omega
        · exact hL _ _ _
theorem go_off {most : Int} : ∀ (n : Nat) (b : List Int) (mx : Int) (l out out' : List Fd) (z z' : Int), b.length ≤ n → Hu.BOk b → 0 ≤ z → z ≤ z' → ((0 < z ∨ z' = 0) ∨ ¬(32 ≤ b.getD 0 0 ∧ b.getD 0 0 < 64)) →
    ∃ e t t', goU most ⟨b, mx, l, out, z⟩ = (e, t) ∧ goU most ⟨b, mx, l, out', z'⟩ = (e, t') ∧ (e = 0 → t'.mx = t.mx ∧ t'.l = t.l ∧ z ≤ t.size ∧ t'.size - z' = t.size - z ∧ (t'.size ≤ 2000 → ∃ w, t.out = out ++ w ∧ t'.out = out' ++ w ∧ fullL w = t.size - z)) := by
  intro n
  induction n with
  | zero =>
    intro b mx l out out' z z' hn hb h0 h1 h2
    have hs : b = [] := List.length_eq_zero_iff.1 (by omega)
    exact ⟨0, _, _, qlj hs, qlj hs, fun _ => ⟨rfl, rfl, Int.le_refl _, by dsimp only; omega, fun _ => ⟨[], by simp, by simp, by dsimp only [fullL]; omega⟩⟩⟩
  | succ n ih =>
    intro b mx l out out' z z' hn hb h0 h1 h2
    by_cases hs : b = []
    · exact ⟨0, _, _, qlj hs, qlj hs, fun _ => ⟨rfl, rfl, Int.le_refl _, by dsimp only; omega, fun _ => ⟨[], by simp, by simp, by dsimp only [fullL]; omega⟩⟩⟩
    · obtain ⟨x, hx⟩ : ∃ x, nxtU l b = x := ⟨_, rfl⟩
      by_cases he : x.e = 0
      · obtain ⟨h4, h5⟩ := qwc hb (by rw [hx]; exact he : (nxtU l b).e = 0)
        rw [hx] at h4 h5
        have hlen : x.rest.length ≤ n := by unfold ilen at h5; omega
        by_cases hz : x.sized = true
        · have h3 : 0 < z ∨ z' = 0 := by
            rcases h2 with h2 | h2
            · exact h2
            · have := nxt_sized (l := l) h2 (by rw [hx]; exact he)
              rw [hx, hz] at this; cases this
          have s1 := qrw (most := most) (s := ⟨b, mx, l, out, z⟩) he hz
          have s2 := qrw (most := most) (s := ⟨b, mx, l, out', z'⟩) he hz
          dsimp only at s1 s2
          by_cases h6 : 0 < z ∨ most < x.size
          · rw [if_pos h6] at s1
            rw [if_pos (by omega)] at s2
            refine ⟨100, _, _, (qqd (s := ⟨b, mx, l, out, z⟩) hs (by dsimp only; rw [hx, s1]; simp)).trans (by dsimp only; rw [hx, s1]), (qqd (s := ⟨b, mx, l, out', z'⟩) hs (by dsimp only; rw [hx, s2]; simp)).trans (by dsimp only; rw [hx, s2]), fun h => absurd h (by decide)⟩
          · rw [if_neg h6] at s1
            rw [if_neg (by omega)] at s2
            have g1 := qjj (most := most) (s := ⟨b, mx, l, out, z⟩) hb hs (by dsimp only; rw [hx, s1])
            have g2 := qjj (most := most) (s := ⟨b, mx, l, out', z'⟩) hb hs (by dsimp only; rw [hx, s2])
            dsimp only at g1 g2
            rw [hx, s1] at g1
            rw [hx, s2] at g2
            rw [g1, g2]
            exact ih x.rest x.size (evL x.size l) out out' z z' hlen h4 h0 h1 (.inl (by omega))
        · have hz : x.sized = false := by simpa using hz
          have s1 := qzaam (most := most) (s := ⟨b, mx, l, out, z⟩) he hz
          have s2 := qzaam (most := most) (s := ⟨b, mx, l, out', z'⟩) he hz
          have g1 := qjj (most := most) (s := ⟨b, mx, l, out, z⟩) hb hs (by dsimp only; rw [hx, s1])
          have g2 := qjj (most := most) (s := ⟨b, mx, l, out', z'⟩) hb hs (by dsimp only; rw [hx, s2])
          dsimp only at g1 g2
          rw [hx, s1] at g1
          rw [hx, s2] at g2
          unfold tellU at g1 g2
          dsimp only at g1 g2
          have hp := qeu x.f
          rw [g1, g2]
          obtain ⟨e, t, t', q1, q2, q3⟩ := ih x.rest mx (if x.added = true then evL mx (x.f :: l) else l) (if 2000 < z + szF x.f then out else out ++ [x.f]) (if 2000 < z' + szF x.f then out' else out' ++ [x.f]) (z + szF x.f) (z' + szF x.f) hlen h4 (by omega) (by omega) (.inl (.inl (by omega)))
          refine ⟨e, t, t', q1, q2, fun h => ?_⟩
          obtain ⟨r1, r2, r3, r4, r5⟩ := q3 h
          refine ⟨r1, r2, by omega, by omega, fun h7 => ?_⟩
          obtain ⟨w, w1, w2, w3⟩ := r5 h7
          rw [if_neg (by omega)] at w1 w2
          exact ⟨x.f :: w, by rw [w1]; simp, by rw [w2]; simp, by simp only [fullL]; omega⟩
      · have s1 := step_e (most := most) (s := ⟨b, mx, l, out, z⟩) he
        have s2 := step_e (most := most) (s := ⟨b, mx, l, out', z'⟩) he
        refine ⟨x.e, _, _, (qqd (s := ⟨b, mx, l, out, z⟩) hs (by dsimp only; rw [hx, s1]; exact he)).trans (by dsimp only; rw [hx, s1]), (qqd (s := ⟨b, mx, l, out', z'⟩) hs (by dsimp only; rw [hx, s2]; exact he)).trans (by dsimp only; rw [hx, s2]), fun h => absurd h he⟩
theorem qzadr {B most : Int} (hm : most ≤ 4096) : ∀ (n : Nat) (s t : Un), s.b.length ≤ n → UnOk B s → goU most s = (0, t) → UnOk B t := by
  intro n
  induction n with
  | zero =>
    intro s t hn hb hg
    have hs : s.b = [] := List.length_eq_zero_iff.1 (by omega)
    rw [qlj hs] at hg; cases hg; exact hb
  | succ n ih =>
    intro s t hn hb hg
    by_cases hs : s.b = []
    · rw [qlj hs] at hg; cases hg; exact hb
    · by_cases h1 : (stepU most s (nxtU s.l s.b)).1 = 0
      · obtain ⟨u, hu⟩ : ∃ u, stepU most s (nxtU s.l s.b) = (0, u) := ⟨_, Prod.ext h1 rfl⟩
        obtain ⟨h2, h3⟩ := qiu h1
        obtain ⟨h4, h5⟩ := qwc hb.b h2
        have hg' := go_S rfl hb.b hs hg hu
        rw [hu] at h3
        refine ih u t (by rw [show u.b = (nxtU s.l s.b).rest from h3]; unfold ilen at h5; omega) ?_ hg'
        by_cases hz : (nxtU s.l s.b).sized = true
        · rw [qrw h2 hz] at hu
          by_cases h6 : 0 < s.size ∨ most < (nxtU s.l s.b).size
          · rw [if_pos h6] at hu; cases hu
          · rw [if_neg h6] at hu
            cases hu
            refine ok_size hb rfl h2 hm ?_ (by omega)
            have hp : ∀ p, 1 ≤ p → 0 ≤ preN s.b p := fun p h => qiz hb.b h
            have hq : 1 ≤ powU (s.b.getD 0 0) := by unfold powU; split; decide; split; decide; split <;> decide
            have hL : ∀ a i r, (litU s.l a i r).size = 0 := by
              intro a i r; unfold litU; split
              · split
                · rfl
                · split <;> rfl
              · split
                · rfl
                · split <;> rfl
            unfold nxtU
            split
            · exact Int.le_refl _
            · unfold nxtC
              split
              · split <;> exact Int.le_refl _
              · split
                · rw [hL]; decide
                · split
                  · exact hp _ hq
                  · rw [hL]; decide
        · rw [qzaam h2 (by simpa using hz)] at hu
          cases hu
          exact ok_tell hb rfl h2
      · rw [qqd hs h1] at hg
        rw [hg] at h1; exact absurd rfl h1
theorem pgo_e {b : List Int} : ∀ (f : Nat) (a n : Int), (pgo b f a n).2.2 ≠ 2
  | 0, _, _ => by simp [pgo]
  | f + 1, a, n => by
    rw [pgo]
    split
    · simp
    · split
      · simp
      · split
        · simp
        · exact pgo_e f _ _
theorem pre_e (b : List Int) (p : Int) : preE b p ≠ 2 := by
  unfold preE preI
  split
  · simp
  · split
    · simp
    · exact pgo_e _ _ _
theorem t_e (b : List Int) : tE b ≠ 2 := by
  unfold tE tTake
  split
  · exact pre_e _ _
  · split
    · simp
    · split
      · simp
      · split <;> simp
theorem at_e (l : List Fd) (i : Int) : (atR l i).2 = 0 ∨ atR l i = (([], []), 90) := by
  unfold atR
  split
  · exact .inr rfl
  · split
    · exact .inl rfl
    · exact .inr rfl
theorem at_e2 (l : List Fd) (i : Int) : (atR l i).2 ≠ 2 := by
  rcases at_e l i with h | h
  · rw [h]; decide
  · rw [h]; decide
theorem lit_e (l : List Fd) (a : Bool) (i : Int) (b : List Int) : (litU l a i b).e ≠ 2 := by
  unfold litU
  split
  · split
    · exact at_e2 _ _
    · split
      · exact t_e _
      · simp
  · split
    · exact t_e _
    · split
      · exact t_e _
      · simp
theorem nxt_e (l : List Fd) (b : List Int) : (nxtU l b).e ≠ 2 := by
  unfold nxtU
  split
  · exact pre_e _ _
  · unfold nxtC
    split
    · split
      · exact at_e2 _ _
      · simp
    · split
      · exact lit_e _ _ _ _
      · split
        · simp
        · exact lit_e _ _ _ _
theorem step_e2 (most : Int) (s : Un) (x : Nx) (h : x.e ≠ 2) : (stepU most s x).1 ≠ 2 := by
  unfold stepU
  split
  · exact h
  · split
    · split <;> simp
    · simp
theorem run_e (most : Int) : ∀ (n : Nat) (s : Un), (runU most n s).1 ≠ 2
  | 0, s => by simp [runU]
  | n + 1, s => by
    simp only [runU]
    split
    · simp
    · split
      · exact step_e2 _ _ _ (nxt_e _ _)
      · exact run_e most n _
theorem go_e (most : Int) (s : Un) : (goU most s).1 ≠ 2 := run_e _ _ _
theorem qzabv {B most mx : Int} {l : List Fd} {a b : List Int} {s : Un} (hm : most ≤ 4096) (ha : Hu.BOk a) (hb : Hu.BOk b) (h : goU most ⟨a, mx, l, [], 0⟩ = (0, s)) (hok : UnOk B ⟨a, mx, l, [], 0⟩) :
    rightL s.mx s.l = true ∧ 0 ≤ s.size ∧ (s.size ≤ 2000 → fullL s.out = s.size) ∧ (¬(32 ≤ b.getD 0 0 ∧ b.getD 0 0 < 64) → ∃ f t t', goU most ⟨b, s.mx, s.l, [], 0⟩ = (f, t) ∧ goU most ⟨a ++ b, mx, l, [], 0⟩ = (f, t') ∧ (f = 0 → t'.mx = t.mx ∧ t'.l = t.l ∧ t'.size = s.size + t.size ∧ 0 ≤ t.size ∧ (t'.size ≤ 2000 → t'.out = s.out ++ t.out) ∧ (t.size ≤ 2000 → fullL t.out = t.size))) := by
  have hs := qzadr hm _ _ _ (Nat.le_refl _) hok h
  have full : ∀ (c : List Int) (m : Int) (k : List Fd) (u : Un), Hu.BOk c → goU most ⟨c, m, k, [], 0⟩ = (0, u) → u.size ≤ 2000 → fullL u.out = u.size := by
    intro c m k u hc hg hu
    obtain ⟨e, t, t', q1, q2, q3⟩ := go_off (most := most) c.length c m k [] [] 0 0 (Nat.le_refl _) hc (Int.le_refl _) (Int.le_refl _) (.inl (.inr rfl))
    rw [hg] at q1 q2
    cases q1
    cases q2
    obtain ⟨w, w1, _, w3⟩ := (q3 rfl).2.2.2.2 hu
    rw [w1, List.nil_append, w3]; omega
  refine ⟨hs.right, hs.s0, full _ _ _ _ ha h, fun hb0 => ?_⟩
  obtain ⟨f, t, t', q1, q2, q3⟩ := go_off (most := most) b.length b s.mx s.l [] s.out 0 s.size (Nat.le_refl _) hb (Int.le_refl _) hs.s0 (.inr hb0)
  have h2 := go_app hb _ _ _ (Nat.le_refl _) ha h
  dsimp only at h2
  refine ⟨f, t, t', q1, h2.trans q2, fun h3 => ?_⟩
  obtain ⟨r1, r2, r3, r4, r5⟩ := q3 h3
  subst h3
  refine ⟨r1, r2, by omega, r3, fun h4 => ?_, full _ _ _ _ hb q1⟩
  obtain ⟨w, w1, w2, _⟩ := r5 h4
  rw [w2, w1, List.nil_append]
theorem nxt_fld {l : List Fd} {w : Int} {f : Fd} {d : List Int} (h : ilen f.1 + ilen f.2 ≤ 900) : nxtU l (fldB f w ++ d) = ⟨0, false, decide (w = 1), 0, f, d⟩ := by
  have h1 := qaf f.1
  have h2 := qaf f.2
  unfold fldB
  rw [List.append_assoc, List.append_assoc, nxt_way (by decide) (by decide), lit_own (by omega) (by omega)]
theorem fldB_ne {f : Fd} {w : Int} : fldB f w ≠ [] := by
  unfold fldB; intro h; exact qsf (List.append_eq_nil_iff.1 (List.append_eq_nil_iff.1 h).1).1
theorem go_tell {most mx size : Int} {l out : List Fd} {b d : List Int} {f : Fd} {a : Bool} (hn : nxtU l b = ⟨0, false, a, 0, f, d⟩) (hb : Hu.BOk b) (h0 : b ≠ []) :
    goU most ⟨b, mx, l, out, size⟩ = goU most ⟨d, mx, if a = true then evL mx (f :: l) else l, if 2000 < size + szF f then out else out ++ [f], size + szF f⟩ := by
  have s1 := qzaam (most := most) (s := ⟨b, mx, l, out, size⟩) (x := ⟨0, false, a, 0, f, d⟩) rfl rfl
  have g1 := qjj (most := most) (s := ⟨b, mx, l, out, size⟩) hb h0 (by dsimp only; rw [hn, s1])
  dsimp only at g1
  rw [hn, s1] at g1
  exact g1
theorem qzadq {most mx : Int} {l out : List Fd} {b d : List Int} {n : Int} (hn : nxtU l b = ⟨0, true, false, n, ([], []), d⟩) (hb : Hu.BOk b) (h0 : b ≠ []) (h : n ≤ most) :
    goU most ⟨b, mx, l, out, 0⟩ = goU most ⟨d, n, evL n l, out, 0⟩ := by
  have s1 := qrw (most := most) (s := ⟨b, mx, l, out, 0⟩) (x := ⟨0, true, false, n, ([], []), d⟩) rfl rfl
  dsimp only at s1
  rw [if_neg (by omega)] at s1
  have g1 := qjj (most := most) (s := ⟨b, mx, l, out, 0⟩) hb h0 (by dsimp only; rw [hn, s1])
  dsimp only at g1
  rw [hn, s1] at g1
  exact g1
theorem qyp {most mx size : Int} {l out : List Fd} {b d : List Int} {n : Int} (hn : nxtU l b = ⟨0, true, false, n, ([], []), d⟩) (h0 : b ≠ []) (h : 0 < size ∨ most < n) :
    goU most ⟨b, mx, l, out, size⟩ = (100, ⟨b, mx, l, out, size⟩) := by
  have s1 := qrw (most := most) (s := ⟨b, mx, l, out, size⟩) (x := ⟨0, true, false, n, ([], []), d⟩) rfl rfl
  dsimp only at s1
  rw [if_pos h] at s1
  have g1 := qqd (most := most) (s := ⟨b, mx, l, out, size⟩) h0 (by dsimp only; rw [hn, s1]; exact (by decide : (100 : Int) ≠ 0))
  dsimp only at g1
  rw [hn, s1] at g1
  exact g1
theorem siz_two {most mx a b : Int} {l : List Fd} (a0 : 0 ≤ a) (a1 : a < 2147483648) (b0 : 0 ≤ b) (b1 : b < 2147483648) : (a ≤ most ∧ b ≤ most → goU most ⟨sizB a ++ sizB b, mx, l, [], 0⟩ = (0, ⟨[], b, evL b (evL a l), [], 0⟩)) ∧ (¬(a ≤ most ∧ b ≤ most) → ∃ s, goU most ⟨sizB a ++ sizB b, mx, l, [], 0⟩ = (100, s)) := by
  have hn1 := qzadl (l := l) (n := a) (d := sizB b) a0 a1
  have hn2 := fun l => qzadl (l := l) (n := b) (d := []) b0 b1
  have ha : sizB a ++ sizB b ≠ [] := by intro h; exact qsf (List.append_eq_nil_iff.1 h).1
  have hb := qef (quc a0) (quc b0)
  simp only [List.append_nil] at hn2
  refine ⟨fun ⟨h1, h2⟩ => ?_, fun h => ?_⟩
  · rw [qzadq hn1 hb ha h1, qzadq (hn2 _) (quc b0) qsf h2, qlj rfl]
  · by_cases h1 : a ≤ most
    · rw [qzadq hn1 hb ha h1]
      exact ⟨_, qyp (hn2 _) qsf (.inr (by omega))⟩
    · exact ⟨_, qyp hn1 ha (.inr (by omega))⟩
theorem fld_siz {most mx a : Int} {l : List Fd} {f : Fd} (h : ilen f.1 + ilen f.2 ≤ 900) (a0 : 0 ≤ a) (a1 : a < 2147483648) : ∃ s, goU most ⟨fldB f 0 ++ sizB a, mx, l, [], 0⟩ = (100, s) := by
  have hn := nxt_fld (l := l) (w := 0) (f := f) (d := sizB a) h
  have hp := qeu f
  rw [go_tell hn (qef qzaef (quc a0)) (by intro h; exact fldB_ne (List.append_eq_nil_iff.1 h).1)]
  have hn2 := qzadl (l := if decide ((0 : Int) = 1) = true then evL mx (f :: l) else l) (n := a) (d := []) a0 a1
  rw [List.append_nil] at hn2
  exact ⟨_, qyp hn2 qsf (.inl (by omega))⟩
theorem fld_len {f : Fd} {w : Int} (h : ilen f.1 + ilen f.2 ≤ 900) : ilen (fldB f w) ≤ 1000 := by
  have h1 := qzaay (byS f.1)
  have h2 := qzaay (byS f.2)
  have h3 := qeb 0 (powP w) (upP w)
  have e1 : ilen (byS f.1) = ilen f.1 := by unfold byS ilen; rw [List.length_map]
  have e2 : ilen (byS f.2) = ilen f.2 := by unfold byS ilen; rw [List.length_map]
  unfold fldB
  rw [qar, qar]; omega
end Pa
end Cz
namespace Cz
open Go Go.RowKit Go.Proofs
namespace Pa
open Tb
theorem ugreat_f {mx : Int} {l : List Fd} {t : Bool} (ht : decide (200 < ilen l ∨ 9000 < fullL l - 32 * ilen l) = t) (hs : shortL l) (hm1 : ilen l ≤ 140737488355328) : (S0 Tryd.prog).call 47 [tabV mx l] [] (fun y _ => Sub y (.b t)) := by
  unfold tabV
  generalize hF : cellsF l = F
  obtain ⟨m, hm⟩ : ∃ m, m = ilen l := ⟨_, rfl⟩
  have h0 := qaf l
  rw [← hm] at ht h0 hm1 ⊢
  generalize hS : S0 Tryd.prog = S
  refine qac hS I.qkx ?_
  cbv
  refine qba hS 1 I.qhg (fun x : Int × Int => 0 ≤ x.1 ∧ x.1 ≤ m ∧ x.1 ≤ 201 ∧ x.2 = fullL (l.take x.1.toNat) - 32 * x.1) (fun x => [(3, .i .i64 (.y x.2)), (4, .i .i64 (.y x.1))]) (fun _ => []) (fun x => (m - x.1).toNat) (0, 0) rfl
    ⟨⟨Int.le_refl _, by omega, by omega, rfl⟩, rfl, ?_, ?_, by cbv⟩ ?_
  · cbv; all_goals exact s_sA
  · cbv; all_goals exact s_bA
  intro x
  obtain ⟨i, s⟩ := x
  intro hx
  dsimp only at hx
  cbv
  obtain ⟨k0, k1, k3, k2⟩ := hx
  have hs0 := qbq (l.take i.toNat)
  have hs1 := full_short (l := l.take i.toNat) fun f hf => hs f (List.mem_of_mem_take hf)
  have hs2 : ilen (l.take i.toNat) = i := by unfold ilen at hm ⊢; rw [List.length_take]; omega
  rw [hs2] at hs0 hs1
  refine qab hS ?_ ?_ <;> intro h <;> cbv
  · refine s_br hS ?_ ?_ <;> intro h' <;> cbv <;> simp only [← hS, Int.ofNat_eq_natCast, cq, Bool.not_eq_true', Bool.not_eq_false', decide_eq_true_eq, decide_eq_false_iff_not, beq_iff_eq, beq_eq_false_iff_ne, ne_eq] at h'
    · obtain ⟨⟨a, b⟩, hp⟩ := qek (l := l) (i := i) (by omega) k0
      have hsz := hs _ (List.mem_of_getElem? hp)
      dsimp only at hsz
      have hsn : szF (a, b) = ilen a + ilen b + 32 := rfl
      have ha := qaf a
      have hb := qaf b
      have hnx := qer hp k0
      refine qam hS rfl I.qht (by decide +kernel) ?_
      cbv
      repeat' (first
        | (refine s_st hS ?_; try cbv)
        | (refine qab hS ?_ ?_ <;> intro h <;> (try cbv) <;> try exact s_ab h)
        | (refine qai hS ?_; intro _ _; try cbv)
        | (refine qae hS ?_; try cbv)
        | (refine qau hS ?_; intro _ _; try cbv)
        | (refine qdi hS ?_; try cbv)
        | (refine And.intro rfl ?_; try cbv)
        | (refine rowF1 hS hF hp (by omega) ?_; cbv)
        | (refine rowF2 hS hF hp (by omega) ?_; cbv)
        | fail)
      rename_i s1 hs1' s2 hs2' i2 hi2
      refine ⟨(i2, s2), by dsimp only; omega, ⟨by dsimp only; omega, by dsimp only; omega, by dsimp only; omega, by dsimp only; rw [hi2, hnx]; omega⟩, rfl, ?_, ?_, by cbv⟩
      · cbv; all_goals exact s_sA
      · cbv; all_goals exact s_bA
    · have e : t = true := by rw [← ht]; exact decide_eq_true (.inl (by omega))
      repeat' (first
        | (refine s_st hS ?_; try cbv)
        | (refine qab hS ?_ ?_ <;> intro h <;> (try cbv) <;> try exact s_ab h)
        | (refine qai hS ?_; intro _ _; try cbv)
        | (refine qae hS ?_; try cbv)
        | (refine qau hS ?_; intro _ _; try cbv)
        | (refine qdi hS ?_; try cbv)
        | fail)
      all_goals
        cbv
        all_goals exact s_sA
  · rw [qcb (by omega)] at k2
    repeat' (first
      | (refine s_st hS ?_; try cbv)
      | (refine qab hS ?_ ?_ <;> intro h <;> (try cbv) <;> try exact s_ab h)
      | (refine qai hS ?_; intro _ _; try cbv)
      | (refine qae hS ?_; try cbv)
      | (refine qau hS ?_; intro _ _; try cbv)
      | (refine qdi hS ?_; try cbv)
      | fail)
    · have e : t = true := by rw [← ht]; exact decide_eq_true (.inl (by omega))
      all_goals exact s_sA
    · refine qwz ?_
      rw [← ht, ← hS]
      simp only [cq]
      exact decide_eq_decide.2 ⟨fun h => .inr (by omega), fun h => by omega⟩
theorem ufields_f {l k : List Fd} {t : Bool} (ht : decide (l = k) = t) (h1 : ilen l ≤ 100000000) (h2 : ilen k ≤ 100000000) : (S0 Tryd.prog).call 51 [.v false 2 (cellsF l) (.y (ilen l)), .v false 2 (cellsF k) (.y (ilen k))] [] (fun y _ => Sub y (.b t)) := by
  generalize hF : cellsF l = F
  generalize hG : cellsF k = G
  obtain ⟨m, hm⟩ : ∃ m, m = ilen l := ⟨_, rfl⟩
  obtain ⟨n, hn⟩ : ∃ n, n = ilen k := ⟨_, rfl⟩
  have h3 := qaf l
  have h4 := qaf k
  rw [← hm] at h1 h3 ⊢
  rw [← hn] at h2 h4 ⊢
  generalize hS : S0 Tryd.prog = S
  refine qac hS I.qjo ?_
  cbv
  refine qab hS ?_ ?_ <;> intro h <;> cbv
  · have e : t = false := by rw [← ht]; exact decide_eq_false (fun e => by subst e; omega)
    all_goals exact s_sA
  refine qba hS 0 I.qgo (fun x : Int => 0 ≤ x ∧ x ≤ m ∧ l.take x.toNat = k.take x.toNat) (fun x => [(5, .i .i64 (.y x))]) (fun _ => []) (fun x => (m - x).toNat) 0 rfl
    ⟨⟨Int.le_refl _, by omega, rfl⟩, rfl, ?_, ?_, by cbv⟩ ?_
  · cbv; all_goals exact s_sA
  · cbv; all_goals exact s_bA
  intro i hx
  cbv
  obtain ⟨k0, k1, k2⟩ := hx
  refine s_br hS ?_ ?_ <;> intro h' <;> cbv <;> simp only [← hS, Int.ofNat_eq_natCast, cq, Bool.not_eq_true', Bool.not_eq_false', decide_eq_true_eq, decide_eq_false_iff_not, beq_iff_eq, beq_eq_false_iff_ne, ne_eq] at h'
  · obtain ⟨⟨a, b⟩, hp⟩ := qek (l := l) (i := i) (by omega) k0
    obtain ⟨⟨c, d⟩, hq⟩ := qek (l := k) (i := i) (by omega) k0
    refine qam hS rfl I.qhb (by decide +kernel) ?_
    cbv
    repeat' (first
      | (refine s_st hS ?_; try cbv)
      | (refine qab hS ?_ ?_ <;> intro h <;> (try cbv) <;> try exact s_ab h)
      | (refine qai hS ?_; intro _ _; try cbv)
      | (refine qae hS ?_; try cbv)
      | (refine qau hS ?_; intro _ _; try cbv)
      | (refine qdi hS ?_; try cbv)
      | (refine And.intro rfl ?_; try cbv)
      | (refine rowF hS hF hp (by omega) ?_; cbv)
      | (refine rowF hS hG hq (by omega) ?_; cbv)
      | fail)
    · have he : (a, b) = (c, d) := by congr
      rename_i r hr
      refine ⟨r, by omega, ⟨by omega, by omega, ?_⟩, rfl, ?_, ?_, by cbv⟩
      · rw [hr]; exact qis k0 (he ▸ hp) hq k2
      · cbv; all_goals exact s_sA
      · cbv; all_goals exact s_bA
    all_goals
      have e : t = false := by rw [← ht]; exact decide_eq_false (qzacw hp hq (by intro e; cases e; simp_all))
      all_goals exact s_sA
  · have e : t = true := by rw [← ht]; exact decide_eq_true (by rwa [qcb (by omega), qcb (by omega)] at k2)
    all_goals exact s_sA
theorem qrs {S : Sy} {bl : List Blk} {K : SV → List Blk → Prop} (hS : S0 Tryd.prog = S) {x y : SV} {l k : List Fd} {t : Bool} (ht : decide (l = k) = t) (hc : FzL bl id [] [x, y] [.v false 2 (cellsF l) (.y (ilen l)), .v false 2 (cellsF k) (.y (ilen k))]) (hl : ilen l ≤ 100000000) (hk : ilen k ≤ 100000000) (hK : K (.b t) bl) :
    S.call 51 [x, y] bl K := qco hS (ufields_f ht hl hk) hc rfl rfl hK
theorem rusize_f {l : List Fd} {n : Int} (hn : n = fullL l) (h : n ≤ 1000000000000000000) : (S0 Tryd.prog).call 50 [.v false 2 (cellsF l) (.y (ilen l))] [] (fun y _ => Sub y (.i .i64 (.y n))) := by
  generalize hF : cellsF l = F
  obtain ⟨m, hm⟩ : ∃ m, m = ilen l := ⟨_, rfl⟩
  have hlen := qbq l
  have h0 := qaf l
  rw [← hm]
  generalize hS : S0 Tryd.prog = S
  refine qac hS I.qmk ?_
  cbv
  refine qba hS 0 I.qid (fun x : Int × Int => 0 ≤ x.1 ∧ x.1 ≤ m ∧ x.2 = fullL (l.take x.1.toNat)) (fun x => [(3, .i .i64 (.y x.2)), (4, .i .i64 (.y x.1))]) (fun _ => []) (fun x => (m - x.1).toNat) (0, 0) rfl
    ⟨⟨Int.le_refl _, by omega, rfl⟩, rfl, ?_, ?_, by cbv⟩ ?_
  · cbv; all_goals exact s_sA
  · cbv; all_goals exact s_bA
  intro x
  obtain ⟨i, s⟩ := x
  intro hx
  dsimp only at hx
  cbv
  obtain ⟨k0, k1, k2⟩ := hx
  have hs0 := qfg (l.take i.toNat)
  have hs1 := qde l i.toNat
  rw [← k2] at hs0 hs1
  refine qab hS ?_ ?_ <;> intro h <;> cbv
  · obtain ⟨⟨a, b⟩, hp⟩ := qek (l := l) (i := i) (by omega) k0
    have hsz := qtf hp
    have hsp := qeu (a, b)
    have hnx := qer hp k0
    rw [← k2] at hnx
    have hs2 := qde l (i + 1).toNat
    repeat' (first
      | (refine s_st hS ?_; try cbv)
      | (refine qab hS ?_ ?_ <;> intro h <;> (try cbv) <;> try exact s_ab h)
      | (refine qai hS ?_; intro _ _; try cbv)
      | (refine qae hS ?_; try cbv)
      | (refine qau hS ?_; intro _ _; try cbv)
      | (refine qdi hS ?_; try cbv)
      | (refine rowF hS hF hp (by omega) ?_; cbv)
      | (refine rsize_u hS (by omega) fun n1 hn1 => ?_; cbv)
      | fail)
    rename_i s2 hs2 i2 hi2
    refine ⟨(i2, s2), by dsimp only; omega, ⟨by dsimp only; omega, by dsimp only; omega, by dsimp only; rw [hs2, hi2, hnx]; omega⟩, rfl, ?_, ?_, by cbv⟩
    · cbv; all_goals exact s_sA
    · cbv; all_goals exact s_bA
  · refine qag ?_
    simp only [Z.v]; rw [hn, k2, qcb (by omega)]
theorem usize_f {l : List Fd} {n : Int} (hn : n = fullL l) (h : n ≤ 1000000000000000000) : (S0 Tryd.prog).call 66 [.v false 2 (cellsF l) (.y (ilen l))] [] (fun y _ => Sub y (.i .i64 (.y n))) := by
  generalize hF : cellsF l = F
  obtain ⟨m, hm⟩ : ∃ m, m = ilen l := ⟨_, rfl⟩
  have hlen := qbq l
  have h0 := qaf l
  rw [← hm]
  generalize hS : S0 Tryd.prog = S
  refine qac hS I.qvd ?_
  cbv
  refine qba hS 0 I.qoa (fun x : Int × Int => 0 ≤ x.1 ∧ x.1 ≤ m ∧ x.2 = fullL (l.take x.1.toNat)) (fun x => [(2, .i .i64 (.y x.2)), (7, .i .i64 (.y x.1))]) (fun _ => []) (fun x => (m - x.1).toNat) (0, 0) rfl
    ⟨⟨Int.le_refl _, by omega, rfl⟩, rfl, ?_, ?_, by cbv⟩ ?_
  · cbv; all_goals exact s_sA
  · cbv; all_goals exact s_bA
  intro x
  obtain ⟨i, s⟩ := x
  intro hx
  dsimp only at hx
  cbv
  obtain ⟨k0, k1, k2⟩ := hx
  have hs0 := qfg (l.take i.toNat)
  have hs1 := qde l i.toNat
  rw [← k2] at hs0 hs1
  refine qab hS ?_ ?_ <;> intro h <;> cbv
  · obtain ⟨⟨a, b⟩, hp⟩ := qek (l := l) (i := i) (by omega) k0
    have hsz := qtf hp
    have hsp := qeu (a, b)
    have hnx := qer hp k0
    rw [← k2] at hnx
    have hs2 := qde l (i + 1).toNat
    repeat' (first
      | (refine s_st hS ?_; try cbv)
      | (refine qab hS ?_ ?_ <;> intro h <;> (try cbv) <;> try exact s_ab h)
      | (refine qai hS ?_; intro _ _; try cbv)
      | (refine qae hS ?_; try cbv)
      | (refine qau hS ?_; intro _ _; try cbv)
      | (refine qdi hS ?_; try cbv)
      | (refine rowF hS hF hp (by omega) ?_; cbv)
      | (refine size_u hS (by omega) fun n1 hn1 => ?_; cbv)
      | fail)
    rename_i s2 hs2 i2 hi2
    refine ⟨(i2, s2), by dsimp only; omega, ⟨by dsimp only; omega, by dsimp only; omega, by dsimp only; rw [hs2, hi2, hnx]; omega⟩, rfl, ?_, ?_, by cbv⟩
    · cbv; all_goals exact s_sA
    · cbv; all_goals exact s_bA
  · refine qag ?_
    simp only [Z.v]; rw [hn, k2, qcb (by omega)]
section
variable {S : Sy} {bl : List Blk} {K : SV → List Blk → Prop} {cs : List SV} {mx : Int} {l : List Fd} {x : SV} {n : Int}
theorem qgb (hS : S0 Tryd.prog = S) (hc : TabC bl cs mx l) (hs : shortL l) (hm : ilen l ≤ 140737488355328) (h1 : K .tt bl) (h2 : ilen l ≤ 200 → fullL l ≤ 9000 + 32 * ilen l → K .ff bl) : S.call 47 [.ag cs] bl K := by
  by_cases h : 200 < ilen l ∨ 9000 < fullL l - 32 * ilen l
  · exact qco hS (qdr (ugreat_f (decide_eq_true h) hs hm)) hc.fz rfl rfl h1
  · exact qco hS (qdr (ugreat_f (decide_eq_false h) hs hm)) hc.fz rfl rfl (h2 (by omega) (by omega))
theorem qxj (hS : S0 Tryd.prog = S) (hc : FzL bl id [] [x] [.v false 2 (cellsF l) (.y (ilen l))]) (hn : n = fullL l) (h : n ≤ 1000000000000000000) (hK : K (.i .i64 (.y n)) bl) : S.call 50 [x] bl K :=
  qco hS (rusize_f hn h) hc rfl rfl hK
theorem usize_g (hS : S0 Tryd.prog = S) (hc : FzL bl id [] [x] [.v false 2 (cellsF l) (.y (ilen l))]) (hn : n = fullL l) (h : n ≤ 1000000000000000000) (hK : K (.i .i64 (.y n)) bl) : S.call 66 [x] bl K :=
  qco hS (usize_f hn h) hc rfl rfl hK
end
theorem bsm_f {a b : List Int} {t : Bool} (ha : Hu.BOk a) (hb : Hu.BOk b) (ht : decide (a = b) = t) : (S0 Tryd.prog).call 65 [.v false 1 (cellsB a) (.y (ilen a)), .v false 1 (cellsB b) (.y (ilen b))] [] (fun x _ => Sub x (.b t)) := by
  generalize hF : cellsB a = F
  generalize hG : cellsB b = G
  obtain ⟨m, hm⟩ : ∃ m, m = ilen a := ⟨_, rfl⟩
  obtain ⟨n, hn⟩ : ∃ n, n = ilen b := ⟨_, rfl⟩
  rw [← hm, ← hn]
  obtain ⟨x, hx⟩ : ∃ x, strB a = x := ⟨_, rfl⟩
  obtain ⟨y, hy⟩ : ∃ x, strB b = x := ⟨_, rfl⟩
  generalize hS : S0 Tryd.prog = S
  refine qac hS I.qms ?_
  cbv
  repeat' (first
    | (refine qbr hS rfl ?_; try cbv)
    | (refine s_ck hS ?_; try cbv)
    | (refine qab hS ?_ ?_ <;> intro h <;> (try cbv) <;> try exact s_ab h)
    | (refine s_ad hS ?_; intro _ _; try cbv)
    | (refine s_sb hS ?_; intro _ _; try cbv)
    | (refine qau hS ?_; intro _ _; try cbv)
    | (refine qae hS ?_; try cbv)
    | (refine s_bsx hS ha hF hm hx ?_; cbv)
    | (refine s_bsx hS hb hG hn hy ?_; cbv)
    | (refine qbs hS ?_; try cbv)
    | (refine s_lk hS ?_; try cbv)
    | (refine s_mu hS ?_; try cbv)
    | fail)
  refine qwz ?_
  subst hS
  show (x == y) = t
  rw [← ht, ← hx, ← hy]
  by_cases h : a = b
  · simp [h]
  · have : strB a ≠ strB b := fun e => h (strB_inj ha hb e)
    simp [h, this]
section
variable {S : Sy} {bl : List Blk} {K : SV → List Blk → Prop} {cs : List SV} {mx most n k m : Int} {l q l' : List Tb.Fd} {b : List Int} {x y : SV} {r : (List Tb.Fd × Bool × Tab) × Int} {F R : List SV}
theorem bsm_t (hS : S0 Tryd.prog = S) (hc : FzL bl id [] [x, y] [.v false 1 (cellsB b) (.y (ilen b)), .v false 1 (cellsB b) (.y (ilen b))]) (ha : Hu.BOk b) (hK : K .tt bl) : S.call 65 [x, y] bl K :=
  qco hS (qdr (bsm_f ha ha (decide_eq_true rfl))) hc rfl rfl hK
theorem unb_f (hr : blkU (mx, l) most b = r) (hb : Hu.BOk b) (hbl : ilen b ≤ 60000) (hl : fullL l ≤ 10000000) :
    (S0 Tryd.prog).call 49 [tabV mx l, .i .i64 (.y most), .v false 1 (cellsB b) (.y (ilen b))] [] (Tell (unV r)) := by
  subst hr
  rw [blk_go]
  split
  · rename_i h
    have h' : rightL mx l = true ∧ 0 ≤ most ∧ most ≤ 4096 := h
    have := unb_k (e := (goU most ⟨b, mx, l, [], 0⟩).1) (s := (goU most ⟨b, mx, l, [], 0⟩).2) rfl h'.1 h'.2.1 h'.2.2 hb hbl
    dsimp only
    split
    · rename_i h2; rw [if_pos h2] at this; exact this
    · rename_i h2; rw [if_neg h2] at this; exact this
  · rename_i h
    exact unb_e h hl
theorem qon {t : Bool} {e mx' : Int} {o : List Tb.Fd} (hS : S0 Tryd.prog = S) {zm : Z} (hr : blkU (mx, l) most b = ((o, t, (mx', l')), e)) (hc : TabC [] cs mx l) (hm : zm.v = most) (hx : Sub x (.v false 1 (cellsB b) (.y (ilen b)))) (hb : Hu.BOk b) (hbl : ilen b ≤ 60000) (hl : fullL l ≤ 10000000)
    (hF : cellsF o = F) (hn : n = ilen o) (hRr : cellsF l' = R) (hk : k = ilen l') (hK : K (.tp [.ag [.v false 2 F (.y n), .b t, .i .i64 (.y mx'), .v false 2 R (.y k)], .i .i64 (.y e)]) bl) :
    S.call 49 [.ag cs, .i .i64 zm, x] bl K := by
  subst hF hn hRr hk
  refine qdz hS (unb_f hr hb hbl hl) ?_ rfl hK
  match hc.sub with
  | .cons h _ => exact .cons h (.cons (qag hm) (.cons hx .nil))
theorem unb_l (hS : S0 Tryd.prog = S) (fs : List Nat) {args : List SV} {t : Bool} {e mx' : Int} {o : List Tb.Fd} (ha : FzL bl id (others fs (len bl)) args [tabV mx l, .i .i64 (.y most), .v false 1 (cellsB b) (.y (ilen b))]) (hr : blkU (mx, l) most b = ((o, t, (mx', l')), e)) (hb : Hu.BOk b) (hbl : ilen b ≤ 60000) (hl : fullL l ≤ 10000000)
    (hF : cellsF o = F) (hn : ilen o = n) (hRr : cellsF l' = R) (hk : ilen l' = k) {tv : SV} (ht : Sub (.b t) tv) (hK : K (.tp [.ag [.v true 2 F (.l n), tv, .i .i64 (.l mx'), .v true 2 R (.l k)], .i .i64 (.l e)]) (frzL fs 0 bl)) : S.call 49 args bl K :=
  qzx hS fs (unb_f hr hb hbl hl) ha rfl (y' := .tp [.ag [.v true 2 F (.l n), tv, .i .i64 (.l mx'), .v true 2 R (.l k)], .i .i64 (.l e)]) (qaw (.cons (qdn (.cons (qbe hF hn) (.cons ht (.cons (qag rfl) (.cons (qbe hRr hk) .nil))))) (.cons (qag rfl) .nil))) hK
end
end Pa
end Cz
namespace Cz
open Go Go.RowKit Go.Proofs
namespace Pa
open Tb
def upV (o : List Fd) (lg : Bool) (mx : Int) (l : List Fd) : SV := .ag [.v false 2 (cellsF o) (.y (ilen o)), .b lg, .i .i64 (.y mx), .v false 2 (cellsF l) (.y (ilen l))]
theorem usame_f {o o' l l' : List Fd} {lg lg' t : Bool} {mx mx' : Int} (ht : decide (lg = lg' ∧ o = o' ∧ mx = mx' ∧ l = l') = t) (h1 : ilen o ≤ 100000000) (h2 : ilen o' ≤ 100000000) (h3 : ilen l ≤ 100000000) (h4 : ilen l' ≤ 100000000) :
    (S0 Tryd.prog).call 67 [upV o lg mx l, upV o' lg' mx' l'] [] (fun y _ => Sub y (.b t)) := by
  unfold upV
  generalize hF : cellsF o = F
  generalize hF' : cellsF o' = F'
  generalize hG : cellsF l = G
  generalize hG' : cellsF l' = G'
  obtain ⟨m, hm⟩ : ∃ m, m = ilen o := ⟨_, rfl⟩
  obtain ⟨m', hm'⟩ : ∃ m, m = ilen o' := ⟨_, rfl⟩
  obtain ⟨n, hn⟩ : ∃ m, m = ilen l := ⟨_, rfl⟩
  obtain ⟨n', hn'⟩ : ∃ m, m = ilen l' := ⟨_, rfl⟩
  rw [← hm, ← hm', ← hn, ← hn']
  generalize hS : S0 Tryd.prog = S
  refine qac hS I.qve ?_
  cbv
  cases lg <;> cases lg' <;> cbv
  all_goals
    repeat' (first
      | (refine qbr hS rfl ?_; try cbv)
      | (refine s_ck hS ?_; try cbv)
      | (refine qab hS ?_ ?_ <;> intro h <;> (try cbv) <;> try exact s_ab h)
      | (refine s_ad hS ?_; intro _ _; try cbv)
      | (refine s_sb hS ?_; intro _ _; try cbv)
      | (refine qau hS ?_; intro _ _; try cbv)
      | (refine qae hS ?_; try cbv)
      | (refine equal_u hS (l := o) (k := o') (.cons (.sub (qbe hF.symm hm) rfl) (.cons (.sub (qbe hF'.symm hm') rfl) .nil)) h1 h2 (fun ho => ?_) (fun ho => ?_) <;> cbv)
      | (refine Tb.same_u hS (.v (z := .y mx) (n := .y n) rfl hG hn) (.v (z := .y mx') (n := .y n') rfl hG' hn') h3 h4 (fun hq hr => ?_) (fun hq => ?_) <;> cbv)
      | (refine qbs hS ?_; try cbv)
      | (refine s_lk hS ?_; try cbv)
      | (refine s_mu hS ?_; try cbv)
      | fail)
  all_goals try (refine Tb.same_u hS (mx := mx) (my := mx') (l := l) (k := l') (.v (z := .y mx) (n := .y n) rfl hG hn) (.v (z := .y mx') (n := .y n') rfl hG' hn') h3 h4 (fun hq hr => ?_) (fun hq => ?_) <;> cbv)
  all_goals first
    | (refine qlc ?_; rw [← ht]; exact decide_eq_true ⟨rfl, by assumption, by assumption, by assumption⟩)
    | (refine qcl ?_; rw [← ht]; refine decide_eq_false ?_; rintro ⟨q1, q2, q3, q4⟩; first | (cases q1; done) | (exact absurd q2 (by assumption)) | (exact (by assumption : ¬(_ ∧ _)) ⟨q3, q4⟩))
section
variable {S : Sy} {bl : List Blk} {K : SV → List Blk → Prop}
theorem usame_g (hS : S0 Tryd.prog = S) {x y : SV} {o o' l l' : List Fd} {lg lg' t : Bool} {mx mx' : Int} (ht : decide (lg = lg' ∧ o = o' ∧ mx = mx' ∧ l = l') = t) (hc : FzL bl id [] [x, y] [upV o lg mx l, upV o' lg' mx' l']) (h1 : ilen o ≤ 100000000) (h2 : ilen o' ≤ 100000000) (h3 : ilen l ≤ 100000000) (h4 : ilen l' ≤ 100000000)
    (hK : K (.b t) bl) : S.call 67 [x, y] bl K :=
  qco hS (usame_f ht h1 h2 h3 h4) hc rfl rfl hK
end
theorem qbf {bl : List Blk} {g : Nat → Nat} {ks : List (Option Nat)} {k : Nat} {lit : Bool} {st n : Z} {cap : Option Z} {F : List SV} {b : List Int} (hB : lget bl k = .r false lit st 1 F) (hk : kpOf ks k = none) (hF : FSub F (cellsB b)) (hn : n.v = ilen b) : Fz bl g ks (.sl k 1 (.l 0) n cap) (.v false 1 (cellsB b) (.y (ilen b))) := by
  refine .row (qav hB (by simp)) hk (.fsub ?_ (qad _)) (qad _) hn
  rw [show (Z.l 0).v.toNat * 1 = 0 from rfl, List.drop_zero, List.take_of_length_le]
  · exact hF
  · have h1 := hF.1
    have h2 := qas b
    unfold ilen at *
    omega
abbrev fpost : Fd := ([58, 109, 101, 116, 104, 111, 100], [80, 79, 83, 84])
theorem uwakes_f : (S0 Tryd.prog).call 48 [] [] (fun y _ => Sub y .tt) := by
  generalize hS : S0 Tryd.prog = S
  refine qac hS I.qla ?_
  cbv
  refine unb_l hS [1] (mx := 100) (l := []) (most := 100) (b := [130]) (o := [fpost]) (t := false) (e := 0) (mx' := 100) (l' := []) (.cons (qrt rfl) (.cons (.sub (qag rfl) rfl) (.cons (qbf rfl rfl (SubL.fsub (by repeat' (first | exact SubL.nil | refine SubL.cons (qag rfl) ?_))) rfl) .nil))) (by kernel_rfl) (by intro v hv; simp at hv; omega) (by decide +kernel) (by decide +kernel) rfl rfl rfl rfl (tv := .ff) (qea rfl) ?_
  cbv
  refine unb_l hS [3] (mx := 100) (l := []) (most := 100) (b := [64, 1, 97, 1, 49]) (o := [fa]) (t := false) (e := 0) (mx' := 100) (l' := [fa]) (.cons (qrt rfl) (.cons (.sub (qag rfl) rfl) (.cons (qbf rfl rfl (SubL.fsub (by repeat' (first | exact SubL.nil | refine SubL.cons (qag rfl) ?_))) rfl) .nil))) (by kernel_rfl) (by intro v hv; simp at hv; omega) (by decide +kernel) (by decide +kernel) rfl rfl rfl rfl (tv := .ff) (qea rfl) ?_
  cbv
  refine unb_l hS [5] (mx := 100) (l := []) (most := 100) (b := [128]) (o := []) (t := false) (e := 90) (mx' := 0) (l' := []) (.cons (qrt rfl) (.cons (.sub (qag rfl) rfl) (.cons (qbf rfl rfl (SubL.fsub (by repeat' (first | exact SubL.nil | refine SubL.cons (qag rfl) ?_))) rfl) .nil))) (by kernel_rfl) (by intro v hv; simp at hv; omega) (by decide +kernel) (by decide +kernel) rfl rfl rfl rfl (tv := .ff) (qea rfl) ?_
  cbv
  refine unb_l hS [7] (mx := 100) (l := []) (most := 100) (b := [130, 32]) (o := []) (t := false) (e := 100) (mx' := 0) (l' := []) (.cons (qrt rfl) (.cons (.sub (qag rfl) rfl) (.cons (qbf rfl rfl (SubL.fsub (by repeat' (first | exact SubL.nil | refine SubL.cons (qag rfl) ?_))) rfl) .nil))) (by kernel_rfl) (by intro v hv; simp at hv; omega) (by decide +kernel) (by decide +kernel) rfl rfl rfl rfl (tv := .ff) (qea rfl) ?_
  cbv
  refine unb_l hS [9] (mx := 100) (l := [fa]) (most := 100) (b := [32]) (o := []) (t := false) (e := 0) (mx' := 0) (l' := []) (.cons (qcr rfl rfl rfl) (.cons (.sub (qag rfl) rfl) (.cons (qbf rfl rfl (SubL.fsub (by repeat' (first | exact SubL.nil | refine SubL.cons (qag rfl) ?_))) rfl) .nil))) (by kernel_rfl) (by intro v hv; simp at hv; omega) (by decide +kernel) (by decide +kernel) rfl rfl rfl rfl (tv := .ff) (qea rfl) ?_
  cbv
  refine unb_l hS [11] (mx := 100) (l := []) (most := 100) (b := [63, 70]) (o := []) (t := false) (e := 100) (mx' := 0) (l' := []) (.cons (qrt rfl) (.cons (.sub (qag rfl) rfl) (.cons (qbf rfl rfl (SubL.fsub (by repeat' (first | exact SubL.nil | refine SubL.cons (qag rfl) ?_))) rfl) .nil))) (by kernel_rfl) (by intro v hv; simp at hv; omega) (by decide +kernel) (by decide +kernel) rfl rfl rfl rfl (tv := .ff) (qea rfl) ?_
  cbv
  refine idx_g hS (i := 2) (F := cellsB [130]) (n := 1) rfl (by decide) (by decide) (by kernel_rfl) (by kernel_rfl) ?_
  cbv
  refine named_g hS (i := 21) (w := 2) (b := [50]) (F := cellsB [31, 6, 1, 50]) (n := 4) rfl rfl (by decide) (by decide) (by decide) (by kernel_rfl) (by kernel_rfl) ?_
  cbv
  repeat' (first
    | (refine qbr hS rfl ?_; try cbv)
    | (refine s_ck hS ?_; try cbv)
    | (refine qab hS ?_ ?_ <;> intro h <;> (try cbv) <;> try exact s_ab h)
    | (refine s_ad hS ?_; intro _ _; try cbv)
    | (refine s_sb hS ?_; intro _ _; try cbv)
    | (refine qau hS ?_; intro _ _; try cbv)
    | (refine qae hS ?_; try cbv)
    | (refine qam hS rfl I.qhv (by decide +kernel) ?_; cbv)
    | (refine qbs hS ?_; try cbv)
    | (refine s_lk hS ?_; try cbv)
    | (refine s_mu hS ?_; try cbv)
    | fail)
  refine bsm_t hS (b := [130]) (.cons (.sub (qbe rfl rfl) rfl) (.cons (qbf rfl rfl (SubL.fsub (by repeat' (first | exact SubL.nil | refine SubL.cons (qag rfl) ?_))) rfl) .nil)) (by intro v hv; simp at hv; omega) ?_
  cbv
  repeat' (first
    | (refine qbr hS rfl ?_; try cbv)
    | (refine s_ck hS ?_; try cbv)
    | (refine qab hS ?_ ?_ <;> intro h <;> (try cbv) <;> try exact s_ab h)
    | (refine s_ad hS ?_; intro _ _; try cbv)
    | (refine s_sb hS ?_; intro _ _; try cbv)
    | (refine qau hS ?_; intro _ _; try cbv)
    | (refine qae hS ?_; try cbv)
    | (refine qbs hS ?_; try cbv)
    | (refine s_lk hS ?_; try cbv)
    | (refine s_mu hS ?_; try cbv)
    | fail)
  refine bsm_t hS (b := [31, 6, 1, 50]) (.cons (.sub (qbe rfl rfl) rfl) (.cons (qbf rfl rfl (SubL.fsub (by repeat' (first | exact SubL.nil | refine SubL.cons (qag rfl) ?_))) rfl) .nil)) (by intro v hv; simp at hv; omega) ?_
  cbv
  repeat' (first
    | (refine qbr hS rfl ?_; try cbv)
    | (refine s_ck hS ?_; try cbv)
    | (refine qab hS ?_ ?_ <;> intro h <;> (try cbv) <;> try exact s_ab h)
    | (refine s_ad hS ?_; intro _ _; try cbv)
    | (refine s_sb hS ?_; intro _ _; try cbv)
    | (refine qau hS ?_; intro _ _; try cbv)
    | (refine qae hS ?_; try cbv)
    | (refine qbs hS ?_; try cbv)
    | (refine s_lk hS ?_; try cbv)
    | (refine s_mu hS ?_; try cbv)
    | fail)
  refine usize_g hS (l := [fa]) (n := 34) (.cons (.sub (qbe rfl rfl) rfl) .nil) (by kernel_rfl) (by decide) ?_
  cbv
  repeat' (first
    | (refine qbr hS rfl ?_; try cbv)
    | (refine s_ck hS ?_; try cbv)
    | (refine qab hS ?_ ?_ <;> intro h <;> (try cbv) <;> try exact s_ab h)
    | (refine s_ad hS ?_; intro _ _; try cbv)
    | (refine s_sb hS ?_; intro _ _; try cbv)
    | (refine qau hS ?_; intro _ _; try cbv)
    | (refine qae hS ?_; try cbv)
    | (refine qbs hS ?_; try cbv)
    | (refine s_lk hS ?_; try cbv)
    | (refine s_mu hS ?_; try cbv)
    | fail)
  refine usame_g hS (o := [fpost]) (o' := [fpost]) (l := []) (l' := []) (lg := false) (lg' := false) (mx := 100) (mx' := 100) (t := true) (decide_eq_true ⟨rfl, rfl, rfl, rfl⟩) (.cons (.sub (qdn (.cons (qbe rfl rfl) (.cons (qcl rfl) (.cons (qag rfl) (.cons (qbe rfl rfl) .nil))))) rfl) (.cons (.sub (qdn (.cons (qbe rfl rfl) (.cons (qcl rfl) (.cons (qag rfl) (.cons (qbe rfl rfl) .nil))))) rfl) .nil)) (by decide) (by decide) (by decide) (by decide) ?_
  cbv
  repeat' (first
    | (refine qbr hS rfl ?_; try cbv)
    | (refine s_ck hS ?_; try cbv)
    | (refine qab hS ?_ ?_ <;> intro h <;> (try cbv) <;> try exact s_ab h)
    | (refine s_ad hS ?_; intro _ _; try cbv)
    | (refine s_sb hS ?_; intro _ _; try cbv)
    | (refine qau hS ?_; intro _ _; try cbv)
    | (refine qae hS ?_; try cbv)
    | (refine qbs hS ?_; try cbv)
    | (refine s_lk hS ?_; try cbv)
    | (refine s_mu hS ?_; try cbv)
    | fail)
  refine usame_g hS (o := [fpost]) (o' := [fa]) (l := []) (l' := [fa]) (lg := false) (lg' := false) (mx := 100) (mx' := 100) (t := false) (decide_eq_false (by rintro ⟨_, h, _⟩; exact absurd h (by decide))) (.cons (.sub (qdn (.cons (qbe rfl rfl) (.cons (qcl rfl) (.cons (qag rfl) (.cons (qbe rfl rfl) .nil))))) rfl) (.cons (.sub (qdn (.cons (qbe rfl rfl) (.cons (qcl rfl) (.cons (qag rfl) (.cons (qbe rfl rfl) .nil))))) rfl) .nil)) (by decide) (by decide) (by decide) (by decide) ?_
  cbv
  repeat' (first
    | (refine qbr hS rfl ?_; try cbv)
    | (refine s_ck hS ?_; try cbv)
    | (refine qab hS ?_ ?_ <;> intro h <;> (try cbv) <;> try exact s_ab h)
    | (refine s_ad hS ?_; intro _ _; try cbv)
    | (refine s_sb hS ?_; intro _ _; try cbv)
    | (refine qau hS ?_; intro _ _; try cbv)
    | (refine qae hS ?_; try cbv)
    | (refine qbs hS ?_; try cbv)
    | (refine s_lk hS ?_; try cbv)
    | (refine s_mu hS ?_; try cbv)
    | fail)
  exact qfd (by subst hS; rfl)
theorem qbi {S : Sy} {bl : List Blk} {K : SV → List Blk → Prop} (hS : S0 Tryd.prog = S) (hK : K .tt bl) : S.call 48 [] bl K := qcf hS uwakes_f .rfl rfl rfl hK
section
variable {S : Sy} {bl : List Blk} {K : SV → List Blk → Prop} {mx most n k : Int} {l l' : List Tb.Fd} {b : List Int} {F R : List SV}
theorem qeq (hS : S0 Tryd.prog = S) (fs : List Nat) {args : List SV} {t : Bool} {e mx' : Int} {o : List Tb.Fd} (ha : FzL bl id (others fs (len bl)) args [tabV mx l, .i .i64 (.y most), .v false 1 (cellsB b) (.y (ilen b))]) (hr : blkU (mx, l) most b = ((o, t, (mx', l')), e)) (hb : Hu.BOk b) (hbl : ilen b ≤ 60000) (hl : fullL l ≤ 10000000)
    (hF : cellsF o = F) (hn : n = ilen o) (hRr : cellsF l' = R) (hk : k = ilen l') (hK : K (.tp [.ag [.v false 2 F (.y n), .b t, .i .i64 (.y mx'), .v false 2 R (.y k)], .i .i64 (.y e)]) (frzL fs 0 bl)) : S.call 49 args bl K := by
  subst hF hn hRr hk
  exact qzx hS fs (unb_f hr hb hbl hl) ha rfl (y' := .tp [.ag [.v false 2 (cellsF o) (.y (ilen o)), .b t, .i .i64 (.y mx'), .v false 2 (cellsF l') (.y (ilen l'))], .i .i64 (.y e)]) .rfl hK
end
end Pa
end Cz
namespace Cz
open Go Go.RowKit Go.Proofs
namespace Pa
open Tb
theorem qhl {mx most : Int} {l : List Fd} {b : List Int} {s : Un} (hR : rightL mx l = true) (h0 : 0 ≤ most) (h1 : most ≤ 4096) (h : goU most ⟨b, mx, l, [], 0⟩ = (0, s)) : blkU (mx, l) most b = ((s.out, decide (2000 < s.size), (s.mx, s.l)), 0) := by
  rw [blk_go, if_pos ⟨hR, h0, h1⟩]
  dsimp only
  rw [h]
  rfl
theorem qpx {mx most e : Int} {l : List Fd} {b : List Int} {s : Un} (hR : rightL mx l = true) (h0 : 0 ≤ most) (h1 : most ≤ 4096) (h : goU most ⟨b, mx, l, [], 0⟩ = (e, s)) (he : e ≠ 0) : blkU (mx, l) most b = (([], false, (0, [])), e) := by
  rw [blk_go, if_pos ⟨hR, h0, h1⟩]
  dsimp only
  rw [h]
  dsimp only
  rw [if_pos he]
end Pa
end Cz
namespace Cz
open Go Go.RowKit Go.Proofs
namespace Pa
open Tb
theorem qxm {mx most : Int} {l : List Fd} {b : List Int} {t : Un} (hm : most ≤ 4096) (hb : Hu.BOk b) (hR : rightL mx l = true) (h : goU most ⟨b, mx, l, [], 0⟩ = (0, t)) (hl : ilen b ≤ 1000) : rightL t.mx t.l = true :=
  (qzadr (B := 17000000000000) hm b.length ⟨b, mx, l, [], 0⟩ t (Nat.le_refl _) ⟨hb, by dsimp only; omega, hR, Int.le_refl _, by dsimp only; have := qaf b; omega, Int.le_refl _, (show (0 : Int) ≤ 2000 by decide)⟩ h).right
end Pa
end Cz
namespace Cz
open Go Go.RowKit Go.Proofs
namespace Tb
theorem op_by {svs : List SV} (h : pkVs [.sl [.i .u8]] svs) : ∃ b : List Int, svs = [.v false 1 (cellsB b) (.y (ilen b))] ∧ ilen b ≤ 140737488355328 ∧ Hu.BOk b := by
  obtain ⟨x, rfl, h'⟩ := pkVs_one h
  obtain ⟨l, h1, h2, h3⟩ := pk_rows (ec := by1) (good := fun v => 0 ≤ v ∧ v < 256) (fun svs h => pk1 h) h'
  exact ⟨l, by rw [h1]; rfl, h2, h3⟩
end Tb
end Cz
