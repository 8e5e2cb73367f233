/- What the claims of this group lean on: UnA3c. No condition. -/
import Derived.Test.YtdbnbknghhpbiaaDoorKV7
set_option linter.unusedSimpArgs false
set_option linter.unusedVariables false
set_option maxRecDepth 100000
set_option maxHeartbeats 4000000
namespace Cz
open Go Go.RowKit Go.Proofs
namespace Pa
open Tb
theorem up_c {mx most f : Int} {l : List Fd} {a b : List Int} {s t : Un} (hs : shortL l) (hm0 : ilen l ≤ 140737488355328) (ha : Hu.BOk a) (hb : Hu.BOk b) (hR : rightL mx l = true) (v0 : 0 ≤ most) (v1 : most ≤ 4096) (v2 : ilen a ≤ 1000) (v3 : ilen b ≤ 1000) (hgo : goU most ⟨a, mx, l, [], 0⟩ = (0, s)) (hgo2 : goU most ⟨b, s.mx, s.l, [], 0⟩ = (f, t)) (hf : f = 0) (hq0 : ¬((32 ≤ b.getD 0 0 ∧ b.getD 0 0 < 64) ∨ 2000 < s.size ∨ 2000 < t.size)) (hp : 1 ≤ ilen b ∧ 64 ≤ b.getD 0 0) :
    (S0 Tryd.prog).call 12 [tabV mx l, .i .i64 (.y most), .v false 1 (cellsB a) (.y (ilen a)), .v false 1 (cellsB b) (.y (ilen b))] [] (fun y _ => Sub y .tt) := by
  unfold tabV
  generalize hF : cellsF l = F
  obtain ⟨m, hm⟩ : ∃ m, m = ilen l := ⟨_, rfl⟩
  generalize hA : cellsB a = A
  obtain ⟨na, hna⟩ : ∃ m, m = ilen a := ⟨_, rfl⟩
  generalize hB : cellsB b = B
  obtain ⟨nb, hnb⟩ : ∃ m, m = ilen b := ⟨_, rfl⟩
  have ha0 := qaf a
  have hb0 := qaf b
  rw [← hm, ← hna, ← hnb]
  generalize hS : S0 Tryd.prog = S
  refine qac hS I.qat ?_
  cbv
  refine qgb hS (.v (z := .y mx) (n := .y m) rfl hF hm) hs hm0 ?_ (fun g1 g2 => ?_) <;> cbv
  · refine qbi hS ?_
    cbv
    exact .rfl
  refine qcm hS (.v (z := .y mx) (n := .y m) rfl hF hm) hR (by omega) ?_
  cbv
  have hmR := qbn hR
  have hR' := of_decide_eq_true hR
  have hx := qhl hR v0 v1 hgo
  have ho0 : UnOk 17000000000000 ⟨a, mx, l, [], 0⟩ := ⟨ha, by dsimp only; omega, hR, Int.le_refl _, by dsimp only; omega, Int.le_refl _, (show (0 : Int) ≤ 2000 by decide)⟩
  have hsok := qzadr v1 _ _ _ (Nat.le_refl _) ho0 hgo
  have hso2 : fullL s.out ≤ 2000 := hsok.o2
  obtain ⟨w1, w2, w3, w4⟩ := qzabv v1 ha hb hgo ho0
  have hf2 : f ≠ 2 := by have := go_e most ⟨b, s.mx, s.l, [], 0⟩; rw [hgo2] at this; exact this
  have hlen1 := qbn w1
  have hmR1 := of_decide_eq_true w1
  obtain ⟨sb, smx, sl, sout, ssz⟩ := s
  dsimp only at hx w1 w2 w3 w4 hgo2 hlen1 hmR1 hso2
  obtain ⟨O1, hO1⟩ : ∃ r, cellsF sout = r := ⟨_, rfl⟩
  obtain ⟨n1, hn1⟩ : ∃ r, r = ilen sout := ⟨_, rfl⟩
  obtain ⟨T1, hT1⟩ : ∃ r, cellsF sl = r := ⟨_, rfl⟩
  obtain ⟨k1, hk1⟩ : ∃ r, r = ilen sl := ⟨_, rfl⟩
  obtain ⟨lx, hlx⟩ : ∃ r, decide (2000 < ssz) = r := ⟨_, rfl⟩
  rw [hlx] at hx
  have hb3 : (nb = 0 ∧ b.getD 0 0 = 0) ∨ ∃ c, b[(0 : Int).toNat]? = some c ∧ b.getD 0 0 = c ∧ 1 ≤ nb := by
    by_cases h : 1 ≤ nb
    · obtain ⟨c, hc⟩ := qek (l := b) (i := 0) (by omega) (Int.le_refl _)
      exact .inr ⟨c, hc, by rw [List.getD_eq_getElem?_getD]; rw [show (0 : Int).toNat = 0 from rfl] at hc; rw [hc]; rfl, h⟩
    · have h2 : b = [] := List.length_eq_zero_iff.1 (by unfold ilen at hnb; omega)
      exact .inl ⟨by omega, by rw [h2]; rfl⟩
  obtain ⟨tb, tmx, tl, tout, tsz⟩ := t
  obtain ⟨O2, hO2⟩ : ∃ r, cellsF tout = r := ⟨_, rfl⟩
  obtain ⟨n2, hn2⟩ : ∃ r, r = ilen tout := ⟨_, rfl⟩
  obtain ⟨T2, hT2⟩ : ∃ r, cellsF tl = r := ⟨_, rfl⟩
  obtain ⟨k2, hk2⟩ : ∃ r, r = ilen tl := ⟨_, rfl⟩
  have hAl : ilen A = na := by rw [← hA, qas, hna]
  have c1 : S.sc na 1 = S.flen (S.app [] A) := by rw [qcq hS]; subst hS; show na * 1 = ilen A; omega
  have hAB : FSub (S.app (S.app [] A) B) (cellsB (a ++ b)) := by rw [qcq hS, qcn hS hA.symm hB.symm]; exact .rfl
  have hABn : (Z.y (S.pl na nb)).v = ilen (a ++ b) := by rw [qar, ← hna, ← hnb]; subst hS; rfl
  have hab : Hu.BOk (a ++ b) := qef ha hb
  have habl : ilen (a ++ b) = ilen a + ilen b := qar _ _
  subst hf
  have hy := qhl w1 v0 v1 hgo2
  obtain ⟨ly, hly⟩ : ∃ r, decide (2000 < tsz) = r := ⟨_, rfl⟩
  rw [hly] at hy
  have hq : ¬((32 ≤ b.getD 0 0 ∧ b.getD 0 0 < 64) ∨ lx = true ∨ ly = true) := by
    rintro (h | h | h)
    · exact hq0 (.inl h)
    · exact hq0 (.inr (.inl (of_decide_eq_true (hlx.trans h))))
    · exact hq0 (.inr (.inr (of_decide_eq_true (hly.trans h))))
  obtain ⟨f', t0, t', q1, q2, q3⟩ := w4 fun h => hq (.inl h)
  clear w4
  rw [hgo2] at q1
  cases q1
  have hlx0 : lx = false := by cases lx with
    | false => rfl
    | true => exact absurd (.inr (.inl rfl)) hq
  have hly0 : ly = false := by cases ly with
    | false => rfl
    | true => exact absurd (.inr (.inr rfl)) hq
  subst hlx0 hly0
  have u1 := of_decide_eq_false hlx
  have u2 := of_decide_eq_false hly
  obtain ⟨p1, p2, p3, p4, p5, p6⟩ := q3 rfl
  dsimp only at p1 p2 p3 p4 p5 p6
  have hz := qhl hR v0 v1 q2
  obtain ⟨z, hzz⟩ : ∃ z, z = t'.size := ⟨_, rfl⟩
  have hful : z = fullL (sout ++ tout) := by rw [qes, w3 (by omega), p6 (by omega), hzz, p3]
  have hto : fullL tout ≤ 2000 := by rw [p6 (by omega)]; omega
  have hlo2 := qbq tout
  have hlo1 := qbq sout
  rw [p1, p2, ← hzz] at hz
  obtain ⟨lz, hlz⟩ : ∃ r, decide (2000 < z) = r := ⟨_, rfl⟩
  rw [hlz] at hz
  have hok2 := qbn (qxm v1 hb w1 hgo2 (by omega))
  dsimp only at hok2
  have e3 : S.app (S.app [] O1) O2 = cellsF (sout ++ tout) := by rw [qcq hS, ← hO1, ← hO2, app_i hS]; simp [cellsF]
  have e4 : (Z.y (S.pl n1 n2)).v = ilen (sout ++ tout) := by rw [qar, ← hn1, ← hn2]; subst hS; rfl
  obtain ⟨O3, hO3⟩ : ∃ r, cellsF t'.out = r := ⟨_, rfl⟩
  obtain ⟨n3, hn3⟩ : ∃ r, r = ilen t'.out := ⟨_, rfl⟩
  have hO1l : ilen O1 = n1 * 2 := by rw [← hO1, hn1]; have := qce sout; unfold ilen; omega
  have c2 : S.sc n1 2 = S.flen (S.app [] O1) := by rw [qcq hS]; subst hS; show n1 * 2 = ilen O1; omega
  have hn10 : 0 ≤ n1 := hn1 ▸ qaf _
  have hn20 : 0 ≤ n2 := hn2 ▸ qaf _
  have hO2l : ilen O2 = n2 * 2 := by rw [← hO2, hn2]; have := qce tout; unfold ilen; omega
  have hR3 : ((S.app (S.app [] O1) O2).drop ((Z.l 0).v.toNat * 2)).take ((Z.y (S.pl n1 n2)).v.toNat * 2) = cellsF (sout ++ tout) := by
    rw [show (Z.l 0).v.toNat * 2 = 0 from rfl, List.drop_zero, e3, e4, List.take_of_length_le]
    have := qce (sout ++ tout)
    unfold ilen; omega
  have hlc : ilen (sout ++ tout) = ilen sout + ilen tout := qar _ _
  have hlz2 : (lz = true ∧ 2000 < z) ∨ (lz = false ∧ z ≤ 2000 ∧ t'.out = sout ++ tout) := by
    cases lz with
    | true => exact .inl ⟨rfl, of_decide_eq_true hlz⟩
    | false => have h := of_decide_eq_false hlz; exact .inr ⟨rfl, by omega, p5 (by omega)⟩
  rcases hlz2 with ⟨rfl, hzl⟩ | ⟨rfl, hzl, hto3⟩ <;> (try rw [hto3] at hO3 hn3 hz) <;> rcases hb3 with ⟨hb3, hb4⟩ | ⟨c, hc, hc0, hb3⟩ <;> (try (exfalso; omega))
  all_goals as_aux_lemma =>
    repeat' (first
      | (refine qbr hS rfl ?_; try cbv)
      | (refine s_ck hS ?_; try cbv)
      | (refine qab hS ?_ ?_ <;> intro h <;> (try cbv) <;> try exact s_ab h)
      | (refine s_ad hS ?_; intro _ _; try cbv)
      | (refine s_sb hS ?_; intro _ _; try cbv)
      | (refine qau hS ?_; intro _ _; try cbv)
      | (refine qae hS ?_; try cbv)
      | (refine qbi hS ?_; cbv)
      | (refine qon hS hx (.v (z := .y mx) (n := .y m) rfl hF hm) rfl (qbe (n := .y na) hA.symm hna) ha (by omega) (by omega) hO1 hn1 hT1 hk1 ?_; cbv)
      | (refine qcm hS (.v (z := .y smx) (n := .y k1) rfl hT1 hk1) w1 (by omega) ?_; cbv)
      | (refine qon hS hy (.v (z := .y smx) (n := .y k1) rfl hT1 hk1) rfl (qbe (n := .y nb) hB.symm hnb) hb (by omega) (by omega) hO2 hn2 hT2 hk2 ?_; cbv)
      | (refine rowB hS hB hc rfl (by omega) ?_; cbv)
      | (refine qdc hS rfl I.qbj (by decide +kernel) ?_; cbv; refine ⟨⟨⟨⟨?_, ?_⟩, ?_⟩, ?_⟩, ?_⟩ <;> cbv)
      | (refine qor hS c1 ?_; cbv)
      | (refine qor hS c2 ?_; cbv)
      | (refine qeq hS [3] (.cons (qcr rfl hF hm) (.cons (.sub (qag rfl) rfl) (.cons (qbf (n := .y (S.pl na nb)) rfl rfl hAB hABn) .nil))) hz hab (by omega) (by omega) hO3 hn3 hT2 hk2 ?_; cbv)
      | (refine qeq hS [4] (.cons (qcr rfl hF hm) (.cons (.sub (qag rfl) rfl) (.cons (qbf (n := .y (S.pl na nb)) rfl rfl hAB hABn) .nil))) hz hab (by omega) (by omega) hO3 hn3 hT2 hk2 ?_; cbv)
      | (refine qam hS rfl I.qbk (by decide +kernel) ?_; cbv)
      | (refine qxj hS (l := sout ++ tout) (.cons (qnr rfl rfl hR3 (qbo _) e4) .nil) hful (by omega) ?_; cbv)
      | (refine qxk hS (mx := tmx) (l := tl) (.v rfl hT2 hk2) (.v rfl hT2 hk2) (by omega) ?_; cbv)
      | (refine qrs hS (l := sout ++ tout) (k := sout ++ tout) (t := true) (decide_eq_true rfl) (.cons (.sub (qbe hO3.symm hn3) rfl) (.cons (qnr rfl rfl hR3 (qbo _) e4) .nil)) (by omega) (by omega) ?_; cbv)
      | (refine qbs hS ?_; try cbv)
      | (refine s_lk hS ?_; try cbv)
      | (refine s_mu hS ?_; try cbv)
      | fail)
    all_goals first
      | exact .rfl
      | (exfalso; omega)
      | (exfalso; exact hq (.inl ⟨by omega, by omega⟩))
end Pa
end Cz
