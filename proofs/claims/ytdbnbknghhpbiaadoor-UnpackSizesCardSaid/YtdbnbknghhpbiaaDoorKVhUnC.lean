/- What the claims of this group lean on: UnC. No condition. -/
import Derived.Test.YtdbnbknghhpbiaaDoorKV7
import Derived.Test.YtdbnbknghhpbiaaDoorKVhUnC1
set_option linter.unusedSimpArgs false
set_option linter.unusedVariables false
set_option maxRecDepth 100000
set_option maxHeartbeats 4000000
namespace Cz
open Go Go.RowKit Go.Proofs
namespace Pa
open Tb
theorem usz_f {mx most one two : Int} {l : List Fd} {a b : List UInt8} (hs : shortL l) (hm0 : ilen l ≤ 140737488355328) (hs1 : shortL [(a, b)]) (l1 : -9223372036854775808 ≤ one) (u1 : one ≤ 9223372036854775807) (l2 : -9223372036854775808 ≤ two) (u2 : two ≤ 9223372036854775807) :
    (S0 Tryd.prog).call 14 [tabV mx l, .i .i64 (.y most), .i .i64 (.y one), .i .i64 (.y two), .ag [.s a, .s b]] [] (fun y _ => Sub y .tt) := by
  by_cases hle0 : one ≤ most ∧ two ≤ most
  case neg => exact usz_no hs hm0 hs1 l1 u1 l2 u2 hle0
  unfold tabV
  generalize hF : cellsF l = F
  obtain ⟨m, hm⟩ : ∃ m, m = ilen l := ⟨_, rfl⟩
  have h0a := qaf a
  have h0b := qaf b
  have hsa := hs1 (a, b) (List.mem_singleton.2 rfl)
  dsimp only at hsa
  rw [← hm]
  generalize hS : S0 Tryd.prog = S
  obtain ⟨P1, F1, n1, e1, hF1, hn1, hP1, hl1, hc1, hz1⟩ := siz_x hS l1 u1
  obtain ⟨P2, F2, n2, e2, hF2, hn2, hP2, hl2, hc2, hz2⟩ := siz_x hS l2 u2
  refine qac hS I.qck ?_
  cbv
  refine qgb hS (.v (z := .y mx) (n := .y m) rfl hF hm) hs hm0 ?_ (fun g1 g2 => ?_) <;> cbv
  · refine qbi hS ?_
    cbv
    exact .rfl
  by_cases hR : rightL mx l = true
  case neg =>
    refine qcm hS (.v (z := .y mx) (n := .y m) rfl hF hm) (mx := mx) (t := false) (by simpa using hR) (by omega) ?_
    cbv
    repeat' (first
      | (refine qbr hS rfl ?_; try cbv)
      | (refine s_ck hS ?_; try cbv)
      | (refine qab hS ?_ ?_ <;> intro h <;> (try cbv) <;> try exact s_ab h)
      | (refine s_ad hS ?_; intro _ _; try cbv)
      | (refine s_sb hS ?_; intro _ _; try cbv)
      | (refine qau hS ?_; intro _ _; try cbv)
      | (refine qae hS ?_; try cbv)
      | (refine qbi hS ?_; cbv)
      | (refine qbs hS ?_; try cbv)
      | (refine s_lk hS ?_; try cbv)
      | (refine s_mu hS ?_; try cbv)
      | fail)
    exact .rfl
  refine qcm hS (.v (z := .y mx) (n := .y m) rfl hF hm) hR (by omega) ?_
  cbv
  by_cases hv : (0 ≤ most ∧ most ≤ 4096) ∧ ilen a + ilen b ≤ 900
  case neg =>
    repeat' (first
      | (refine qbr hS rfl ?_; try cbv)
      | (refine s_ck hS ?_; try cbv)
      | (refine qab hS ?_ ?_ <;> intro h <;> (try cbv) <;> try exact s_ab h)
      | (refine s_ad hS ?_; intro _ _; try cbv)
      | (refine s_sb hS ?_; intro _ _; try cbv)
      | (refine qau hS ?_; intro _ _; try cbv)
      | (refine qae hS ?_; try cbv)
      | (refine qbi hS ?_; cbv)
      | (refine qbs hS ?_; try cbv)
      | (refine s_lk hS ?_; try cbv)
      | (refine s_mu hS ?_; try cbv)
      | fail)
    all_goals first
      | exact .rfl
      | (exfalso; omega)
  obtain ⟨⟨v0, v1⟩, v2⟩ := hv
  have hmR := qbn hR
  have hR' := of_decide_eq_true hR
  by_cases hM : (0 ≤ one ∧ one < 2147483648) ∧ (0 ≤ two ∧ two < 2147483648)
  case neg =>
    repeat' (first
      | (refine qbr hS rfl ?_; try cbv)
      | (refine s_ck hS ?_; try cbv)
      | (refine qab hS ?_ ?_ <;> intro h <;> (try cbv) <;> try exact s_ab h)
      | (refine s_ad hS ?_; intro _ _; try cbv)
      | (refine s_sb hS ?_; intro _ _; try cbv)
      | (refine qau hS ?_; intro _ _; try cbv)
      | (refine qae hS ?_; try cbv)
      | (refine qbi hS ?_; cbv)
      | (refine hz1 _ _ ?_; cbv)
      | (refine hz2 _ _ ?_; cbv)
      | (refine qbs hS ?_; try cbv)
      | (refine s_lk hS ?_; try cbv)
      | (refine s_mu hS ?_; try cbv)
      | fail)
    all_goals first
      | exact .rfl
      | (exfalso; omega)
      | (exfalso; exact h (decide_eq_decide.2 ⟨fun _ => by omega, fun _ => by omega⟩))
  obtain ⟨mm1, mm2⟩ := hM
  have hP1e : e1 = 0 ∧ P1 = sizB one := by
    rcases hc1 with ⟨h1, _, h2⟩ | ⟨_, h⟩
    · exact ⟨h1, h2⟩
    · exact absurd mm1 h
  have hP2e : e2 = 0 ∧ P2 = sizB two := by
    rcases hc2 with ⟨h1, _, h2⟩ | ⟨_, h⟩
    · exact ⟨h1, h2⟩
    · exact absurd mm2 h
  obtain ⟨rfl, hp1⟩ := hP1e
  obtain ⟨rfl, hp2⟩ := hP2e
  clear hc1 hc2
  obtain ⟨s2, hg2⟩ := fld_siz (most := most) (mx := mx) (l := l) (a := one) (f := (a, b)) v2 mm1.1 mm1.2
  have hy := qpx hR v0 v1 hg2 (by decide)
  rw [← hp1] at hy
  obtain ⟨Lf, hLf⟩ : ∃ r, fldB (a, b) 0 = r := ⟨_, rfl⟩
  have hLfo : Hu.BOk Lf := hLf ▸ qzaef
  have hLfl := fld_len (w := 0) (f := (a, b)) v2
  rw [hLf] at hy hLfl
  obtain ⟨FL, hFL⟩ : ∃ r, cellsB Lf = r := ⟨_, rfl⟩
  obtain ⟨nL, hnL⟩ : ∃ r, r = ilen Lf := ⟨_, rfl⟩
  have hAB : FSub (S.app (S.app [] F1) F2) (cellsB (P1 ++ P2)) := by rw [qcq hS, qcn hS hF1.symm hF2.symm]; exact .rfl
  have hABn : (Z.y (S.pl n1 n2)).v = ilen (P1 ++ P2) := by rw [qar, ← hn1, ← hn2]; subst hS; rfl
  have hCD : FSub (S.app FL F1) (cellsB (Lf ++ P1)) := by rw [qcn hS hFL.symm hF1.symm]; exact .rfl
  have hCDn : (Z.y (S.pl nL n1)).v = ilen (Lf ++ P1) := by rw [qar, ← hnL, ← hn1]; subst hS; rfl
  have hab : Hu.BOk (P1 ++ P2) := qef hP1 hP2
  have hcd : Hu.BOk (Lf ++ P1) := qef hLfo hP1
  have hl12 : ilen (P1 ++ P2) = ilen P1 + ilen P2 := qar _ _
  have hlf1 : ilen (Lf ++ P1) = ilen Lf + ilen P1 := qar _ _
  have hF1l : ilen F1 = n1 := by rw [← hF1, qas, hn1]
  have hFLl : ilen FL = nL := by rw [← hFL, qas, hnL]
  have c1 : S.sc n1 1 = S.flen (S.app [] F1) := by rw [qcq hS]; subst hS; show n1 * 1 = ilen F1; omega
  have c2 : S.sc nL 1 = S.flen FL := by subst hS; show nL * 1 = ilen FL; omega
  have hn10 : 0 ≤ n1 := hn1 ▸ qaf _
  have hn20 : 0 ≤ n2 := hn2 ▸ qaf _
  have hnL0 : 0 ≤ nL := hnL ▸ qaf _
  obtain ⟨y1, y2⟩ := siz_two (most := most) (mx := mx) (l := l) mm1.1 mm1.2 mm2.1 mm2.2
  rw [← hp1, ← hp2] at y1 y2
  have hle := hle0
  have hx := qhl hR v0 v1 (y1 hle)
  dsimp only at hx
  rw [decide_eq_false (show ¬(2000 : Int) < 0 by decide)] at hx
  have hR1 : rightL one (evL one l) = true := right_ev mm1.1 (by omega)
  have hrs1 : resR (mx, l) one = ((one, evL one l), 0) := by unfold resR; rw [if_pos ⟨hR, mm1.1, by omega⟩]
  have hrs2 : resR (one, evL one l) two = ((two, evL two (evL one l)), 0) := by unfold resR; rw [if_pos ⟨hR1, mm2.1, by omega⟩]
  obtain ⟨lm, hlm⟩ : ∃ r, evL one l = r := ⟨_, rfl⟩
  rw [hlm] at hx hrs1 hrs2 hR1
  obtain ⟨lq, hlq⟩ : ∃ r, evL two lm = r := ⟨_, rfl⟩
  rw [hlq] at hx hrs2
  obtain ⟨B1, hB1⟩ : ∃ r, cellsF lm = r := ⟨_, rfl⟩
  obtain ⟨b1, hb1⟩ : ∃ r, r = ilen lm := ⟨_, rfl⟩
  obtain ⟨A2, hA2⟩ : ∃ r, cellsF lq = r := ⟨_, rfl⟩
  obtain ⟨m2, hm2⟩ : ∃ r, r = ilen lq := ⟨_, rfl⟩
  have hlmR := qbn hR1
  have hlmF := (of_decide_eq_true hR1).2.2
  have hloR := qbn (hlq ▸ right_ev mm2.1 (by omega) : rightL two lq = true)
  repeat' (first
    | (refine qbr hS rfl ?_; try cbv)
    | (refine s_ck hS ?_; try cbv)
    | (refine qab hS ?_ ?_ <;> intro h <;> (try cbv) <;> try exact s_ab h)
    | (refine s_ad hS ?_; intro _ _; try cbv)
    | (refine s_sb hS ?_; intro _ _; try cbv)
    | (refine qau hS ?_; intro _ _; try cbv)
    | (refine qae hS ?_; try cbv)
    | (refine qbi hS ?_; cbv)
    | (refine hz1 _ _ ?_; cbv)
    | (refine hz2 _ _ ?_; cbv)
    | (refine qdc hS rfl I.qcw (by decide +kernel) ?_; cbv; refine ⟨⟨⟨⟨?_, ?_⟩, ?_⟩, ?_⟩, ?_⟩ <;> cbv)
    | (refine qdc hS rfl I.qcv (by decide +kernel) ?_; cbv; refine ⟨⟨⟨?_, ?_⟩, ?_⟩, ?_⟩ <;> cbv)
    | (refine qor hS c1 ?_; cbv)
    | (refine qor hS c2 ?_; cbv)
    | (refine own_u0 hS (F := FL) (n := nL) (fld_o (w := 0) (a := a) (b := b) (by omega)) (.cons .rfl (.cons (qag rfl) .nil)) rfl (by rw [hLf]; exact hFL) (by rw [hLf]; exact hnL) ?_; cbv)
    | (refine qeq hS [2] (.cons (qcr rfl hF hm) (.cons (.sub (qag rfl) rfl) (.cons (qbf (n := .y (S.pl n1 n2)) rfl rfl hAB hABn) .nil))) hx hab (by omega) (by omega) (F := []) (n := 0) rfl rfl hA2 hm2 ?_; cbv)
    | (refine qeq hS [3] (.cons (qcr rfl hF hm) (.cons (.sub (qag rfl) rfl) (.cons (qbf (n := .y (S.pl n1 n2)) rfl rfl hAB hABn) .nil))) hx hab (by omega) (by omega) (F := []) (n := 0) rfl rfl hA2 hm2 ?_; cbv)
    | (refine qeq hS [4] (.cons (qcr rfl hF hm) (.cons (.sub (qag rfl) rfl) (.cons (qbf (n := .y (S.pl n1 n2)) rfl rfl hAB hABn) .nil))) hx hab (by omega) (by omega) (F := []) (n := 0) rfl rfl hA2 hm2 ?_; cbv)
    | (refine qeq hS [5] (.cons (qcr rfl hF hm) (.cons (.sub (qag rfl) rfl) (.cons (qbf (n := .y (S.pl n1 n2)) rfl rfl hAB hABn) .nil))) hx hab (by omega) (by omega) (F := []) (n := 0) rfl rfl hA2 hm2 ?_; cbv)
    | (refine qeq hS [3] (.cons (qcr rfl hF hm) (.cons (.sub (qag rfl) rfl) (.cons (qbf (n := .y (S.pl nL n1)) rfl rfl hCD hCDn) .nil))) hy hcd (by omega) (by omega) (F := []) (n := 0) (R := []) (k := 0) rfl rfl rfl rfl ?_; cbv)
    | (refine qeq hS [4] (.cons (qcr rfl hF hm) (.cons (.sub (qag rfl) rfl) (.cons (qbf (n := .y (S.pl nL n1)) rfl rfl hCD hCDn) .nil))) hy hcd (by omega) (by omega) (F := []) (n := 0) (R := []) (k := 0) rfl rfl rfl rfl ?_; cbv)
    | (refine qeq hS [5] (.cons (qcr rfl hF hm) (.cons (.sub (qag rfl) rfl) (.cons (qbf (n := .y (S.pl nL n1)) rfl rfl hCD hCDn) .nil))) hy hcd (by omega) (by omega) (F := []) (n := 0) (R := []) (k := 0) rfl rfl rfl rfl ?_; cbv)
    | (refine qeq hS [6] (.cons (qcr rfl hF hm) (.cons (.sub (qag rfl) rfl) (.cons (qbf (n := .y (S.pl nL n1)) rfl rfl hCD hCDn) .nil))) hy hcd (by omega) (by omega) (F := []) (n := 0) (R := []) (k := 0) rfl rfl rfl rfl ?_; cbv)
    | (refine qeq hS [7] (.cons (qcr rfl hF hm) (.cons (.sub (qag rfl) rfl) (.cons (qbf (n := .y (S.pl nL n1)) rfl rfl hCD hCDn) .nil))) hy hcd (by omega) (by omega) (F := []) (n := 0) (R := []) (k := 0) rfl rfl rfl rfl ?_; cbv)
    | (refine rres_g hS (.v (z := .y mx) (n := .y m) rfl hF hm) hrs1 hB1 hb1 (by omega) ?_; cbv)
    | (refine rres_g hS (.v (z := .y one) (n := .y b1) rfl hB1 hb1) hrs2 hA2 hm2 (by omega) ?_; cbv)
    | (refine qxk hS (mx := two) (l := lq) (.v rfl hA2 hm2) (.v rfl hA2 hm2) (by omega) ?_; cbv)
    | (refine qbs hS ?_; try cbv)
    | (refine s_lk hS ?_; try cbv)
    | (refine s_mu hS ?_; try cbv)
    | fail)
  all_goals first
    | exact .rfl
    | (exfalso; omega)
    | (exfalso; exact h (decide_eq_decide.2 ⟨fun _ => by omega, fun _ => by omega⟩))
end Pa
end Cz
