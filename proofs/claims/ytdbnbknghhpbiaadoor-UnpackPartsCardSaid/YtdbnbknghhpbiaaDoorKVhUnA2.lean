/- What the claims of this group lean on: UnA2. No condition. -/
import Derived.Test.YtdbnbknghhpbiaaDoorKV7
set_option linter.unusedSimpArgs false
set_option linter.unusedVariables false
set_option maxRecDepth 100000
set_option maxHeartbeats 4000000
namespace Cz
open Go Go.RowKit Go.Proofs
namespace Pa
open Tb
theorem up_q {mx most f : Int} {l : List Fd} {a b : List Int} {s t : Un} (hs : shortL l) (hm0 : ilen l ≤ 140737488355328) (ha : Hu.BOk a) (hb : Hu.BOk b) (hR : rightL mx l = true) (v0 : 0 ≤ most) (v1 : most ≤ 4096) (v2 : ilen a ≤ 1000) (v3 : ilen b ≤ 1000) (hgo : goU most ⟨a, mx, l, [], 0⟩ = (0, s)) (hgo2 : goU most ⟨b, s.mx, s.l, [], 0⟩ = (f, t)) (hf : f = 0) (hq0 : (32 ≤ b.getD 0 0 ∧ b.getD 0 0 < 64) ∨ 2000 < s.size ∨ 2000 < t.size) :
    (S0 Tryd.prog).call 12 [tabV mx l, .i .i64 (.y most), .v false 1 (cellsB a) (.y (ilen a)), .v false 1 (cellsB b) (.y (ilen b))] [] (fun y _ => Sub y .tt) := by
  unfold tabV
  generalize hF : cellsF l = F
  obtain ⟨m, hm⟩ : ∃ m, m = ilen l := ⟨_, rfl⟩
  generalize hA : cellsB a = A
  obtain ⟨na, hna⟩ : ∃ m, m = ilen a := ⟨_, rfl⟩
  generalize hB : cellsB b = B
  obtain ⟨nb, hnb⟩ : ∃ m, m = ilen b := ⟨_, rfl⟩
  have ha0 := qaf a
  have hb0 := qaf b
  rw [← hm, ← hna, ← hnb]
  generalize hS : S0 Tryd.prog = S
  refine qac hS I.qat ?_
  cbv
  refine qgb hS (.v (z := .y mx) (n := .y m) rfl hF hm) hs hm0 ?_ (fun g1 g2 => ?_) <;> cbv
  · refine qbi hS ?_
    cbv
    exact .rfl
  refine qcm hS (.v (z := .y mx) (n := .y m) rfl hF hm) hR (by omega) ?_
  cbv
  have hmR := qbn hR
  have hR' := of_decide_eq_true hR
  have hx := qhl hR v0 v1 hgo
  have ho0 : UnOk 17000000000000 ⟨a, mx, l, [], 0⟩ := ⟨ha, by dsimp only; omega, hR, Int.le_refl _, by dsimp only; omega, Int.le_refl _, (show (0 : Int) ≤ 2000 by decide)⟩
  have hsok := qzadr v1 _ _ _ (Nat.le_refl _) ho0 hgo
  have hso2 : fullL s.out ≤ 2000 := hsok.o2
  obtain ⟨w1, w2, w3, w4⟩ := qzabv v1 ha hb hgo ho0
  have hf2 : f ≠ 2 := by have := go_e most ⟨b, s.mx, s.l, [], 0⟩; rw [hgo2] at this; exact this
  have hlen1 := qbn w1
  have hmR1 := of_decide_eq_true w1
  obtain ⟨sb, smx, sl, sout, ssz⟩ := s
  dsimp only at hx w1 w2 w3 w4 hgo2 hlen1 hmR1 hso2
  obtain ⟨O1, hO1⟩ : ∃ r, cellsF sout = r := ⟨_, rfl⟩
  obtain ⟨n1, hn1⟩ : ∃ r, r = ilen sout := ⟨_, rfl⟩
  obtain ⟨T1, hT1⟩ : ∃ r, cellsF sl = r := ⟨_, rfl⟩
  obtain ⟨k1, hk1⟩ : ∃ r, r = ilen sl := ⟨_, rfl⟩
  obtain ⟨lx, hlx⟩ : ∃ r, decide (2000 < ssz) = r := ⟨_, rfl⟩
  rw [hlx] at hx
  have hb3 : (nb = 0 ∧ b.getD 0 0 = 0) ∨ ∃ c, b[(0 : Int).toNat]? = some c ∧ b.getD 0 0 = c ∧ 1 ≤ nb := by
    by_cases h : 1 ≤ nb
    · obtain ⟨c, hc⟩ := qek (l := b) (i := 0) (by omega) (Int.le_refl _)
      exact .inr ⟨c, hc, by rw [List.getD_eq_getElem?_getD]; rw [show (0 : Int).toNat = 0 from rfl] at hc; rw [hc]; rfl, h⟩
    · have h2 : b = [] := List.length_eq_zero_iff.1 (by unfold ilen at hnb; omega)
      exact .inl ⟨by omega, by rw [h2]; rfl⟩
  obtain ⟨tb, tmx, tl, tout, tsz⟩ := t
  obtain ⟨O2, hO2⟩ : ∃ r, cellsF tout = r := ⟨_, rfl⟩
  obtain ⟨n2, hn2⟩ : ∃ r, r = ilen tout := ⟨_, rfl⟩
  obtain ⟨T2, hT2⟩ : ∃ r, cellsF tl = r := ⟨_, rfl⟩
  obtain ⟨k2, hk2⟩ : ∃ r, r = ilen tl := ⟨_, rfl⟩
  have hAl : ilen A = na := by rw [← hA, qas, hna]
  have c1 : S.sc na 1 = S.flen (S.app [] A) := by rw [qcq hS]; subst hS; show na * 1 = ilen A; omega
  have hAB : FSub (S.app (S.app [] A) B) (cellsB (a ++ b)) := by rw [qcq hS, qcn hS hA.symm hB.symm]; exact .rfl
  have hABn : (Z.y (S.pl na nb)).v = ilen (a ++ b) := by rw [qar, ← hna, ← hnb]; subst hS; rfl
  have hab : Hu.BOk (a ++ b) := qef ha hb
  have habl : ilen (a ++ b) = ilen a + ilen b := qar _ _
  subst hf
  have hy := qhl w1 v0 v1 hgo2
  obtain ⟨ly, hly⟩ : ∃ r, decide (2000 < tsz) = r := ⟨_, rfl⟩
  rw [hly] at hy
  have hq : (32 ≤ b.getD 0 0 ∧ b.getD 0 0 < 64) ∨ lx = true ∨ ly = true := by
    rcases hq0 with h | h | h
    · exact .inl h
    · exact .inr (.inl (by rw [← hlx]; exact decide_eq_true h))
    · exact .inr (.inr (by rw [← hly]; exact decide_eq_true h))
  cases lx <;> cases ly <;> rcases hb3 with ⟨hb3, hb4⟩ | ⟨c, hc, hc0, hb3⟩
  all_goals as_aux_lemma =>
    repeat' (first
      | (refine qbr hS rfl ?_; try cbv)
      | (refine s_ck hS ?_; try cbv)
      | (refine qab hS ?_ ?_ <;> intro h <;> (try cbv) <;> try exact s_ab h)
      | (refine s_ad hS ?_; intro _ _; try cbv)
      | (refine s_sb hS ?_; intro _ _; try cbv)
      | (refine qau hS ?_; intro _ _; try cbv)
      | (refine qae hS ?_; try cbv)
      | (refine qbi hS ?_; cbv)
      | (refine qon hS hx (.v (z := .y mx) (n := .y m) rfl hF hm) rfl (qbe (n := .y na) hA.symm hna) ha (by omega) (by omega) hO1 hn1 hT1 hk1 ?_; cbv)
      | (refine qcm hS (.v (z := .y smx) (n := .y k1) rfl hT1 hk1) w1 (by omega) ?_; cbv)
      | (refine qon hS hy (.v (z := .y smx) (n := .y k1) rfl hT1 hk1) rfl (qbe (n := .y nb) hB.symm hnb) hb (by omega) (by omega) hO2 hn2 hT2 hk2 ?_; cbv)
      | (refine rowB hS hB hc rfl (by omega) ?_; cbv)
      | (refine qbs hS ?_; try cbv)
      | (refine s_lk hS ?_; try cbv)
      | (refine s_mu hS ?_; try cbv)
      | fail)
    all_goals first
      | exact .rfl
      | (exfalso; omega)
      | (exfalso; rcases hq with hq | hq | hq; (· omega); (· exact absurd hq (by simp)); exact absurd hq (by simp))
end Pa
end Cz
