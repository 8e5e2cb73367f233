/- What the claims of this group lean on: UnC1. No condition. -/
import Derived.Test.YtdbnbknghhpbiaaDoorKV7
set_option linter.unusedSimpArgs false
set_option linter.unusedVariables false
set_option maxRecDepth 100000
set_option maxHeartbeats 4000000
namespace Cz
open Go Go.RowKit Go.Proofs
namespace Pa
open Tb
theorem siz_e {i : Int} (hi : i < 0 ∨ 2147483648 ≤ i) (l0 : -9223372036854775808 ≤ i) (u0 : i ≤ 9223372036854775807) : (S0 Tryd.prog).call 55 [.i .i64 (.y i)] [] (fun x _ => Sub x (.tp [.re (.slice none 0 0), .i .i64 (.y 2)])) := by
  generalize hS : S0 Tryd.prog = S
  refine qac hS I.qjk ?_
  cbv
  refine qac hS I.qed ?_
  cbv
  refine qcf hS (pput_e (n := i) (k := 5) (up := 32) hi l0 u0 (by decide) (by decide)) (.cons .rfl (.cons (qag rfl) (.cons (qag rfl) .nil))) rfl rfl ?_
  cbv
  exact .rfl
theorem siz_x {S : Sy} (hS : S0 Tryd.prog = S) {i : Int} (l0 : -9223372036854775808 ≤ i) (u0 : i ≤ 9223372036854775807) : ∃ (P : List Int) (F : List SV) (n e : Int), cellsB P = F ∧ n = ilen P ∧ Hu.BOk P ∧ ilen P ≤ 6 ∧ ((e = 0 ∧ (0 ≤ i ∧ i < 2147483648) ∧ P = sizB i) ∨ (e = 2 ∧ ¬(0 ≤ i ∧ i < 2147483648))) ∧ (∀ (bl : List Blk) (K : SV → List Blk → Prop), K (.tp [.v false 1 F (.y n), .i .i64 (.y e)]) bl → S.call 55 [.i .i64 (.y i)] bl K) := by
  by_cases hi : 0 ≤ i ∧ i < 2147483648
  · exact ⟨sizB i, _, _, 0, rfl, rfl, quc hi.1, (qeb i 32 32).2, .inl ⟨rfl, hi, rfl⟩, fun bl K h => qdz hS (own_t1 (siz_o hi.1 hi.2) rfl rfl) (.cons .rfl .nil) rfl h⟩
  · exact ⟨[], [], 0, 2, rfl, rfl, (by intro v hv; cases hv), by decide, .inr ⟨rfl, hi⟩, fun bl K h => qcf hS (sv := .tp [.v false 1 [] (.y 0), .i .i64 (.y 2)]) (qay (siz_e (i := i) (by omega) l0 u0) fun x _ h => ⟨x, .rfl, h.trans (qaw (.cons (qld (by decide) rfl rfl) (.cons .rfl .nil)))⟩) .rfl rfl rfl h⟩
theorem usz_no {mx most one two : Int} {l : List Fd} {a b : List UInt8} (hs : shortL l) (hm0 : ilen l ≤ 140737488355328) (hs1 : shortL [(a, b)]) (l1 : -9223372036854775808 ≤ one) (u1 : one ≤ 9223372036854775807) (l2 : -9223372036854775808 ≤ two) (u2 : two ≤ 9223372036854775807) (hle : ¬(one ≤ most ∧ two ≤ most)) :
    (S0 Tryd.prog).call 14 [tabV mx l, .i .i64 (.y most), .i .i64 (.y one), .i .i64 (.y two), .ag [.s a, .s b]] [] (fun y _ => Sub y .tt) := by
  unfold tabV
  generalize hF : cellsF l = F
  obtain ⟨m, hm⟩ : ∃ m, m = ilen l := ⟨_, rfl⟩
  have h0a := qaf a
  have h0b := qaf b
  have hsa := hs1 (a, b) (List.mem_singleton.2 rfl)
  dsimp only at hsa
  rw [← hm]
  generalize hS : S0 Tryd.prog = S
  obtain ⟨P1, F1, n1, e1, hF1, hn1, hP1, hl1, hc1, hz1⟩ := siz_x hS l1 u1
  obtain ⟨P2, F2, n2, e2, hF2, hn2, hP2, hl2, hc2, hz2⟩ := siz_x hS l2 u2
  refine qac hS I.qck ?_
  cbv
  refine qgb hS (.v (z := .y mx) (n := .y m) rfl hF hm) hs hm0 ?_ (fun g1 g2 => ?_) <;> cbv
  · refine qbi hS ?_
    cbv
    exact .rfl
  by_cases hR : rightL mx l = true
  case neg =>
    refine qcm hS (.v (z := .y mx) (n := .y m) rfl hF hm) (mx := mx) (t := false) (by simpa using hR) (by omega) ?_
    cbv
    repeat' (first
      | (refine qbr hS rfl ?_; try cbv)
      | (refine s_ck hS ?_; try cbv)
      | (refine qab hS ?_ ?_ <;> intro h <;> (try cbv) <;> try exact s_ab h)
      | (refine s_ad hS ?_; intro _ _; try cbv)
      | (refine s_sb hS ?_; intro _ _; try cbv)
      | (refine qau hS ?_; intro _ _; try cbv)
      | (refine qae hS ?_; try cbv)
      | (refine qbi hS ?_; cbv)
      | (refine qbs hS ?_; try cbv)
      | (refine s_lk hS ?_; try cbv)
      | (refine s_mu hS ?_; try cbv)
      | fail)
    exact .rfl
  refine qcm hS (.v (z := .y mx) (n := .y m) rfl hF hm) hR (by omega) ?_
  cbv
  by_cases hv : (0 ≤ most ∧ most ≤ 4096) ∧ ilen a + ilen b ≤ 900
  case neg =>
    repeat' (first
      | (refine qbr hS rfl ?_; try cbv)
      | (refine s_ck hS ?_; try cbv)
      | (refine qab hS ?_ ?_ <;> intro h <;> (try cbv) <;> try exact s_ab h)
      | (refine s_ad hS ?_; intro _ _; try cbv)
      | (refine s_sb hS ?_; intro _ _; try cbv)
      | (refine qau hS ?_; intro _ _; try cbv)
      | (refine qae hS ?_; try cbv)
      | (refine qbi hS ?_; cbv)
      | (refine qbs hS ?_; try cbv)
      | (refine s_lk hS ?_; try cbv)
      | (refine s_mu hS ?_; try cbv)
      | fail)
    all_goals first
      | exact .rfl
      | (exfalso; omega)
  obtain ⟨⟨v0, v1⟩, v2⟩ := hv
  have hmR := qbn hR
  have hR' := of_decide_eq_true hR
  by_cases hM : (0 ≤ one ∧ one < 2147483648) ∧ (0 ≤ two ∧ two < 2147483648)
  case neg =>
    repeat' (first
      | (refine qbr hS rfl ?_; try cbv)
      | (refine s_ck hS ?_; try cbv)
      | (refine qab hS ?_ ?_ <;> intro h <;> (try cbv) <;> try exact s_ab h)
      | (refine s_ad hS ?_; intro _ _; try cbv)
      | (refine s_sb hS ?_; intro _ _; try cbv)
      | (refine qau hS ?_; intro _ _; try cbv)
      | (refine qae hS ?_; try cbv)
      | (refine qbi hS ?_; cbv)
      | (refine hz1 _ _ ?_; cbv)
      | (refine hz2 _ _ ?_; cbv)
      | (refine qbs hS ?_; try cbv)
      | (refine s_lk hS ?_; try cbv)
      | (refine s_mu hS ?_; try cbv)
      | fail)
    all_goals first
      | exact .rfl
      | (exfalso; omega)
      | (exfalso; exact h (decide_eq_decide.2 ⟨fun _ => by omega, fun _ => by omega⟩))
  obtain ⟨mm1, mm2⟩ := hM
  have hP1e : e1 = 0 ∧ P1 = sizB one := by
    rcases hc1 with ⟨h1, _, h2⟩ | ⟨_, h⟩
    · exact ⟨h1, h2⟩
    · exact absurd mm1 h
  have hP2e : e2 = 0 ∧ P2 = sizB two := by
    rcases hc2 with ⟨h1, _, h2⟩ | ⟨_, h⟩
    · exact ⟨h1, h2⟩
    · exact absurd mm2 h
  obtain ⟨rfl, hp1⟩ := hP1e
  obtain ⟨rfl, hp2⟩ := hP2e
  clear hc1 hc2
  obtain ⟨s2, hg2⟩ := fld_siz (most := most) (mx := mx) (l := l) (a := one) (f := (a, b)) v2 mm1.1 mm1.2
  have hy := qpx hR v0 v1 hg2 (by decide)
  rw [← hp1] at hy
  obtain ⟨Lf, hLf⟩ : ∃ r, fldB (a, b) 0 = r := ⟨_, rfl⟩
  have hLfo : Hu.BOk Lf := hLf ▸ qzaef
  have hLfl := fld_len (w := 0) (f := (a, b)) v2
  rw [hLf] at hy hLfl
  obtain ⟨FL, hFL⟩ : ∃ r, cellsB Lf = r := ⟨_, rfl⟩
  obtain ⟨nL, hnL⟩ : ∃ r, r = ilen Lf := ⟨_, rfl⟩
  have hAB : FSub (S.app (S.app [] F1) F2) (cellsB (P1 ++ P2)) := by rw [qcq hS, qcn hS hF1.symm hF2.symm]; exact .rfl
  have hABn : (Z.y (S.pl n1 n2)).v = ilen (P1 ++ P2) := by rw [qar, ← hn1, ← hn2]; subst hS; rfl
  have hCD : FSub (S.app FL F1) (cellsB (Lf ++ P1)) := by rw [qcn hS hFL.symm hF1.symm]; exact .rfl
  have hCDn : (Z.y (S.pl nL n1)).v = ilen (Lf ++ P1) := by rw [qar, ← hnL, ← hn1]; subst hS; rfl
  have hab : Hu.BOk (P1 ++ P2) := qef hP1 hP2
  have hcd : Hu.BOk (Lf ++ P1) := qef hLfo hP1
  have hl12 : ilen (P1 ++ P2) = ilen P1 + ilen P2 := qar _ _
  have hlf1 : ilen (Lf ++ P1) = ilen Lf + ilen P1 := qar _ _
  have hF1l : ilen F1 = n1 := by rw [← hF1, qas, hn1]
  have hFLl : ilen FL = nL := by rw [← hFL, qas, hnL]
  have c1 : S.sc n1 1 = S.flen (S.app [] F1) := by rw [qcq hS]; subst hS; show n1 * 1 = ilen F1; omega
  have c2 : S.sc nL 1 = S.flen FL := by subst hS; show nL * 1 = ilen FL; omega
  have hn10 : 0 ≤ n1 := hn1 ▸ qaf _
  have hn20 : 0 ≤ n2 := hn2 ▸ qaf _
  have hnL0 : 0 ≤ nL := hnL ▸ qaf _
  obtain ⟨y1, y2⟩ := siz_two (most := most) (mx := mx) (l := l) mm1.1 mm1.2 mm2.1 mm2.2
  rw [← hp1, ← hp2] at y1 y2
  obtain ⟨s1, hg1⟩ := y2 hle
  have hx := qpx hR v0 v1 hg1 (by decide)
  repeat' (first
    | (refine qbr hS rfl ?_; try cbv)
    | (refine s_ck hS ?_; try cbv)
    | (refine qab hS ?_ ?_ <;> intro h <;> (try cbv) <;> try exact s_ab h)
    | (refine s_ad hS ?_; intro _ _; try cbv)
    | (refine s_sb hS ?_; intro _ _; try cbv)
    | (refine qau hS ?_; intro _ _; try cbv)
    | (refine qae hS ?_; try cbv)
    | (refine qbi hS ?_; cbv)
    | (refine hz1 _ _ ?_; cbv)
    | (refine hz2 _ _ ?_; cbv)
    | (refine qdc hS rfl I.qcw (by decide +kernel) ?_; cbv; refine ⟨⟨⟨⟨?_, ?_⟩, ?_⟩, ?_⟩, ?_⟩ <;> cbv)
    | (refine qdc hS rfl I.qcv (by decide +kernel) ?_; cbv; refine ⟨⟨⟨?_, ?_⟩, ?_⟩, ?_⟩ <;> cbv)
    | (refine qor hS c1 ?_; cbv)
    | (refine qor hS c2 ?_; cbv)
    | (refine own_u0 hS (F := FL) (n := nL) (fld_o (w := 0) (a := a) (b := b) (by omega)) (.cons .rfl (.cons (qag rfl) .nil)) rfl (by rw [hLf]; exact hFL) (by rw [hLf]; exact hnL) ?_; cbv)
    | (refine qeq hS [2] (.cons (qcr rfl hF hm) (.cons (.sub (qag rfl) rfl) (.cons (qbf (n := .y (S.pl n1 n2)) rfl rfl hAB hABn) .nil))) hx hab (by omega) (by omega) (F := []) (n := 0) (R := []) (k := 0) rfl rfl rfl rfl ?_; cbv)
    | (refine qeq hS [3] (.cons (qcr rfl hF hm) (.cons (.sub (qag rfl) rfl) (.cons (qbf (n := .y (S.pl n1 n2)) rfl rfl hAB hABn) .nil))) hx hab (by omega) (by omega) (F := []) (n := 0) (R := []) (k := 0) rfl rfl rfl rfl ?_; cbv)
    | (refine qeq hS [4] (.cons (qcr rfl hF hm) (.cons (.sub (qag rfl) rfl) (.cons (qbf (n := .y (S.pl n1 n2)) rfl rfl hAB hABn) .nil))) hx hab (by omega) (by omega) (F := []) (n := 0) (R := []) (k := 0) rfl rfl rfl rfl ?_; cbv)
    | (refine qeq hS [5] (.cons (qcr rfl hF hm) (.cons (.sub (qag rfl) rfl) (.cons (qbf (n := .y (S.pl n1 n2)) rfl rfl hAB hABn) .nil))) hx hab (by omega) (by omega) (F := []) (n := 0) (R := []) (k := 0) rfl rfl rfl rfl ?_; cbv)
    | (refine qeq hS [3] (.cons (qcr rfl hF hm) (.cons (.sub (qag rfl) rfl) (.cons (qbf (n := .y (S.pl nL n1)) rfl rfl hCD hCDn) .nil))) hy hcd (by omega) (by omega) (F := []) (n := 0) (R := []) (k := 0) rfl rfl rfl rfl ?_; cbv)
    | (refine qeq hS [4] (.cons (qcr rfl hF hm) (.cons (.sub (qag rfl) rfl) (.cons (qbf (n := .y (S.pl nL n1)) rfl rfl hCD hCDn) .nil))) hy hcd (by omega) (by omega) (F := []) (n := 0) (R := []) (k := 0) rfl rfl rfl rfl ?_; cbv)
    | (refine qeq hS [5] (.cons (qcr rfl hF hm) (.cons (.sub (qag rfl) rfl) (.cons (qbf (n := .y (S.pl nL n1)) rfl rfl hCD hCDn) .nil))) hy hcd (by omega) (by omega) (F := []) (n := 0) (R := []) (k := 0) rfl rfl rfl rfl ?_; cbv)
    | (refine qeq hS [6] (.cons (qcr rfl hF hm) (.cons (.sub (qag rfl) rfl) (.cons (qbf (n := .y (S.pl nL n1)) rfl rfl hCD hCDn) .nil))) hy hcd (by omega) (by omega) (F := []) (n := 0) (R := []) (k := 0) rfl rfl rfl rfl ?_; cbv)
    | (refine qeq hS [7] (.cons (qcr rfl hF hm) (.cons (.sub (qag rfl) rfl) (.cons (qbf (n := .y (S.pl nL n1)) rfl rfl hCD hCDn) .nil))) hy hcd (by omega) (by omega) (F := []) (n := 0) (R := []) (k := 0) rfl rfl rfl rfl ?_; cbv)
    | (refine qbs hS ?_; try cbv)
    | (refine s_lk hS ?_; try cbv)
    | (refine s_mu hS ?_; try cbv)
    | fail)
  all_goals first
    | exact .rfl
    | (exfalso; omega)
    | (exfalso; exact h (decide_eq_decide.2 ⟨fun _ => by omega, fun _ => by omega⟩))
    | trace_state
  all_goals sorry
end Pa
end Cz
