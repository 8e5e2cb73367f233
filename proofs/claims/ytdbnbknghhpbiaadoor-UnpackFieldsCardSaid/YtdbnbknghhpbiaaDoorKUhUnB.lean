/- What the claim leans on: the law of fields walked. No condition. -/
import Derived.Test.YtdbnbknghhpbiaaDoorKU7
set_option linter.unusedSimpArgs false
set_option linter.unusedVariables false
set_option maxRecDepth 100000
set_option maxHeartbeats 4000000
namespace Cz
open Go Go.RowKit Go.Proofs
namespace Pa
open Tb
theorem idx_e {i : Int} (hi : i < 0 ∨ 2147483648 ≤ i) (l0 : -9223372036854775808 ≤ i) (u0 : i ≤ 9223372036854775807) : (S0 Tryd.prog).call 53 [.i .i64 (.y i)] [] (fun x _ => Sub x (.tp [.re (.slice none 0 0), .i .i64 (.y 2)])) := by
  generalize hS : S0 Tryd.prog = S
  refine qac hS I.qgn ?_
  cbv
  refine qac hS I.qdb ?_
  cbv
  refine qbe hS (pput_e (n := i) (k := 7) (up := 128) hi l0 u0 (by decide) (by decide)) (.cons .rfl (.cons (qag rfl) (.cons (qag rfl) .nil))) rfl rfl ?_
  cbv
  exact .rfl
theorem named_e {i w : Int} {b : List UInt8} (hi : i < 0 ∨ 2147483648 ≤ i) (l0 : -9223372036854775808 ≤ i) (u0 : i ≤ 9223372036854775807) : (S0 Tryd.prog).call 54 [.i .i64 (.y i), .s b, .i .i64 (.y w)] [] (fun x _ => Sub x (.tp [.re (.slice none 0 0), .i .i64 (.y 2)])) := by
  generalize hS : S0 Tryd.prog = S
  refine qac hS I.qev ?_
  cbv
  refine of_u hS (w := w) rfl fun u k hu hk => ?_
  obtain ⟨u0', u1, k0, k1, hp⟩ := up_bd w
  rw [← hu] at u0' u1
  rw [← hk] at k0 k1 hp
  cbv
  refine qac hS I.qdb ?_
  cbv
  repeat' (first
    | (refine qbw hS rfl ?_; try cbv)
    | (refine s_ck hS ?_; try cbv)
    | (refine qab hS ?_ ?_ <;> intro h <;> (try cbv) <;> try exact s_ab h)
    | (refine s_ad hS ?_; intro _ _; try cbv)
    | (refine s_sb hS ?_; intro _ _; try cbv)
    | (refine qau hS ?_; intro _ _; try cbv)
    | (refine qae hS ?_; try cbv)
    | (refine qbe hS (pput_e (n := i) (k := k) (up := u) hi l0 u0 (by omega) (by omega)) (.cons .rfl (.cons (qag rfl) (.cons (qag rfl) .nil))) rfl rfl ?_; cbv)
    | (refine qbx hS ?_; try cbv)
    | (refine s_lk hS ?_; try cbv)
    | (refine s_mu hS ?_; try cbv)
    | fail)
  exact qas (.cons .rfl (.cons (qag rfl) .nil))
section
variable {S : Sy} {bl : List Blk} {K : SV → List Blk → Prop} {i w : Int} {b : List UInt8}
theorem idx_eg (hS : S0 Tryd.prog = S) {zi : Z} (hz : zi.v = i) (hi : i < 0 ∨ 2147483648 ≤ i) (l0 : -9223372036854775808 ≤ i) (u0 : i ≤ 9223372036854775807) (hK : K (.tp [.re (.slice none 0 0), .i .i64 (.y 2)]) bl) : S.call 53 [.i .i64 zi] bl K :=
  qbe hS (idx_e hi l0 u0) (.cons (qag hz) .nil) rfl rfl hK
theorem named_eg (hS : S0 Tryd.prog = S) {zi zw : Z} (hz : zi.v = i) (hw : zw.v = w) (hi : i < 0 ∨ 2147483648 ≤ i) (l0 : -9223372036854775808 ≤ i) (u0 : i ≤ 9223372036854775807) (hK : K (.tp [.re (.slice none 0 0), .i .i64 (.y 2)]) bl) : S.call 54 [.i .i64 zi, .s b, .i .i64 zw] bl K :=
  qbe hS (named_e (w := w) hi l0 u0) (.cons (qag hz) (.cons .rfl (.cons (qag hw) .nil))) rfl rfl hK
end
theorem ufl_f {mx w i : Int} {l : List Fd} {a b : List UInt8} (hs : shortL l) (hm0 : ilen l ≤ 140737488355328) (hs1 : shortL [(a, b)]) (l0 : -9223372036854775808 ≤ i) (u0 : i ≤ 9223372036854775807) :
    (S0 Tryd.prog).call 13 [tabV mx l, .ag [.s a, .s b], .i .i64 (.y w), .i .i64 (.y i)] [] (fun y _ => Sub y .tt) := by
  unfold tabV
  generalize hF : cellsF l = F
  obtain ⟨m, hm⟩ : ∃ m, m = ilen l := ⟨_, rfl⟩
  have h0a := qai a
  have h0b := qai b
  have hsa := hs1 (a, b) (List.mem_singleton.2 rfl)
  dsimp only at hsa
  rw [← hm]
  generalize hS : S0 Tryd.prog = S
  refine qac hS I.qcr ?_
  cbv
  refine ugreat_u hS (.v (z := .y mx) (n := .y m) rfl hF hm) hs hm0 ?_ (fun g1 g2 => ?_) <;> cbv
  · refine qme hS ?_
    cbv
    exact .rfl
  by_cases hR : rightL mx l = true
  case neg =>
    refine rright_g hS (.v (z := .y mx) (n := .y m) rfl hF hm) (mx := mx) (t := false) (by simpa using hR) (by omega) ?_
    cbv
    repeat' (first
      | (refine qbw hS rfl ?_; try cbv)
      | (refine s_ck hS ?_; try cbv)
      | (refine qab hS ?_ ?_ <;> intro h <;> (try cbv) <;> try exact s_ab h)
      | (refine s_ad hS ?_; intro _ _; try cbv)
      | (refine s_sb hS ?_; intro _ _; try cbv)
      | (refine qau hS ?_; intro _ _; try cbv)
      | (refine qae hS ?_; try cbv)
      | (refine qme hS ?_; cbv)
      | (refine qbx hS ?_; try cbv)
      | (refine s_lk hS ?_; try cbv)
      | (refine s_mu hS ?_; try cbv)
      | fail)
    exact .rfl
  refine rright_g hS (.v (z := .y mx) (n := .y m) rfl hF hm) hR (by omega) ?_
  cbv
  by_cases hv : ilen a + ilen b ≤ 900
  case neg =>
    repeat' (first
      | (refine qbw hS rfl ?_; try cbv)
      | (refine s_ck hS ?_; try cbv)
      | (refine qab hS ?_ ?_ <;> intro h <;> (try cbv) <;> try exact s_ab h)
      | (refine s_ad hS ?_; intro _ _; try cbv)
      | (refine s_sb hS ?_; intro _ _; try cbv)
      | (refine qau hS ?_; intro _ _; try cbv)
      | (refine qae hS ?_; try cbv)
      | (refine qme hS ?_; cbv)
      | (refine qbx hS ?_; try cbv)
      | (refine s_lk hS ?_; try cbv)
      | (refine s_mu hS ?_; try cbv)
      | fail)
    all_goals first
      | exact .rfl
      | (exfalso; omega)
      | trace_state
    all_goals sorry
  have hmR := qrl hR
  have hR' := of_decide_eq_true hR
  obtain ⟨v0, v1, v2⟩ := hR'
  have hx := blk_ok hR v0 v1 (fld_go (most := mx) (w := w) (f := (a, b)) hv)
  have hszf : szF (a, b) = ilen a + ilen b + 32 := rfl
  dsimp only at hx
  rw [decide_eq_false (show ¬2000 < szF (a, b) by omega)] at hx
  have had : addR (mx, l) (a, b) = ((mx, evL mx ((a, b) :: l)), 0) := by unfold addR; rw [if_pos hR]
  obtain ⟨l1, hl1⟩ : ∃ r, (if w = 1 then evL mx ((a, b) :: l) else l) = r := ⟨_, rfl⟩
  have hl1b : ilen l1 ≤ 200 := by
    have h := evL_len mx ((a, b) :: l)
    rw [qsk] at h
    rw [← hl1]; split <;> omega
  rw [hl1] at hx
  obtain ⟨A1, hA1⟩ : ∃ r, cellsF l1 = r := ⟨_, rfl⟩
  obtain ⟨m1, hm1⟩ : ∃ r, r = ilen l1 := ⟨_, rfl⟩
  obtain ⟨Lf, hLf⟩ : ∃ r, fldB (a, b) w = r := ⟨_, rfl⟩
  have hLfo : Hu.BOk Lf := hLf ▸ bok_fld
  have hLfl := fld_len (w := w) (f := (a, b)) hv
  rw [hLf] at hx hLfl
  obtain ⟨FL, hFL⟩ : ∃ r, cellsB Lf = r := ⟨_, rfl⟩
  obtain ⟨nL, hnL⟩ : ∃ r, r = ilen Lf := ⟨_, rfl⟩
  obtain ⟨⟨⟨ga, gb⟩, ge⟩, hat⟩ : ∃ r, atR l i = r := ⟨_, rfl⟩
  have hw1 : (w = 1 ∧ addR (mx, l) (a, b) = ((mx, l1), 0)) ∨ (w ≠ 1 ∧ l = l1) := by
    by_cases h : w = 1
    · rw [if_pos h] at hl1; exact .inl ⟨h, by rw [← hl1]; exact had⟩
    · rw [if_neg h] at hl1; exact .inr ⟨h, hl1⟩
  clear had
  have hFw : l = l1 → cellsF l1 = F := fun h => h ▸ hF
  have hm1w : l = l1 → m = ilen l1 := fun h => h ▸ hm
  by_cases hge : ge = 0
  case neg =>
    have hix : ∃ (P : List Int) (Fi : List SV) (ni eh k : Int) (o lk : List Fd) (tk : Bool) (mk : Int), cellsB P = Fi ∧ ni = ilen P ∧ Hu.BOk P ∧ ilen P ≤ 6 ∧ blkU (mx, l) mx P = ((o, tk, (mk, lk)), k) ∧ (eh = 0 → k = 90 ∧ ilen o = 0) ∧ (∀ (bl : List Blk) (K : SV → List Blk → Prop), K (.tp [.v false 1 Fi (.y ni), .i .i64 (.y eh)]) bl → S.call 53 [.i .i64 (.y i)] bl K) := by
      by_cases hi : 0 ≤ i ∧ i < 2147483648
      · obtain ⟨s, hgo⟩ := idx_goE (most := mx) (mx := mx) (l := l) hi.1 hi.2 (by rw [hat]; exact hge)
        exact ⟨idxB i, _, _, 0, 90, [], [], false, 0, rfl, rfl, qzade hi.1, (qcz i 128 128).2, blk_err hR v0 v1 hgo (by decide), fun _ => ⟨rfl, rfl⟩, fun bl K h => idx_g hS (i := i) rfl hi.1 hi.2 rfl rfl h⟩
      · refine ⟨[], [], 0, 2, 0, [], l, false, mx, rfl, rfl, (by intro v hv; cases hv), by decide, ?_, fun h => absurd h (by decide), fun bl K h => ?_⟩
        · have hg := qzaas (most := mx) (s := ⟨[], mx, l, [], 0⟩) rfl
          exact blk_ok hR v0 v1 hg
        · refine qbe hS (sv := .tp [.v false 1 [] (.y 0), .i .i64 (.y 2)]) (qat (idx_e (i := i) (by omega) l0 u0) fun x _ h => ⟨x, .rfl, h.trans (qas (.cons (qht (by decide) rfl rfl) (.cons .rfl .nil)))⟩) .rfl rfl rfl h
    have hnm : ∃ (Fq : List SV) (nq eq : Int), ∀ (bl : List Blk) (K : SV → List Blk → Prop), K (.tp [.v false 1 Fq (.y nq), .i .i64 (.y eq)]) bl → S.call 54 [.i .i64 (.y i), .s b, .i .i64 (.y w)] bl K := by
      by_cases hi : 0 < i ∧ i < 2147483648
      · exact ⟨_, _, 0, fun bl K h => qzacl hS (i := i) (w := w) rfl rfl hi.1 hi.2 (by omega) rfl rfl h⟩
      · refine ⟨[], 0, 2, fun bl K h => ?_⟩
        by_cases h0 : i = 0
        · subst h0
          exact qbe hS (sv := .tp [.v false 1 [] (.y 0), .i .i64 (.y 2)]) (qat named_z fun x _ h => ⟨x, .rfl, h.trans (qas (.cons (qht (by decide) rfl rfl) (.cons .rfl .nil)))⟩) .rfl rfl rfl h
        · exact qbe hS (sv := .tp [.v false 1 [] (.y 0), .i .i64 (.y 2)]) (qat (named_e (i := i) (w := w) (by omega) l0 u0) fun x _ h => ⟨x, .rfl, h.trans (qas (.cons (qht (by decide) rfl rfl) (.cons .rfl .nil)))⟩) .rfl rfl rfl h
    obtain ⟨P, Fi, ni, eh, k, o, lk, tk, mk, hFi, hni, hPo, hPl, hy, hek, hidx⟩ := hix
    obtain ⟨Fq, nq, eq, hnmd⟩ := hnm
    obtain ⟨Fo, hFo⟩ : ∃ r, cellsF o = r := ⟨_, rfl⟩
    obtain ⟨no, hno⟩ : ∃ r, r = ilen o := ⟨_, rfl⟩
    obtain ⟨Flk, hFlk⟩ : ∃ r, cellsF lk = r := ⟨_, rfl⟩
    obtain ⟨nlk, hnlk⟩ : ∃ r, r = ilen lk := ⟨_, rfl⟩
    rw [← hno] at hek
    rcases hw1 with ⟨hw, had⟩ | ⟨hw, hll⟩ <;> (try (have hFw := hFw hll; have hm1w := hm1w hll))
    all_goals
      repeat' (first
        | (refine qbw hS rfl ?_; try cbv)
        | (refine s_ck hS ?_; try cbv)
        | (refine qab hS ?_ ?_ <;> intro h <;> (try cbv) <;> try exact s_ab h)
        | (refine s_ad hS ?_; intro _ _; try cbv)
        | (refine s_sb hS ?_; intro _ _; try cbv)
        | (refine qau hS ?_; intro _ _; try cbv)
        | (refine qae hS ?_; try cbv)
        | (refine qme hS ?_; cbv)
        | (refine qer hS rfl I.qcg (by decide +kernel) ?_; cbv; refine ⟨⟨?_, ?_⟩, ?_⟩ <;> cbv)
        | (refine fld_g hS (w := w) (F := FL) (n := nL) rfl (by omega) (by rw [hLf]; exact hFL) (by rw [hLf]; exact hnL) ?_; cbv)
        | (refine unb_g hS hx (.v (z := .y mx) (n := .y m) rfl hF hm) rfl (qbc (n := .y nL) hFL.symm hnL) hLfo (by omega) (by omega) (F := [.s a, .s b]) (n := 1) rfl rfl hA1 hm1 ?_; cbv)
        | (refine radd_g hS (.v (z := .y mx) (n := .y m) rfl hF hm) had hA1 hm1 (by omega) (by omega) ?_; cbv)
        | (refine qmf hS (l := [(a, b)]) (k := [(a, b)]) (t := true) (decide_eq_true rfl) (.cons (.sub (qbc rfl rfl) rfl) (.cons (qnz (l := [(a, b)]) (m := 1) (n := .y 1) (qaq rfl (by simp)) rfl rfl rfl rfl) .nil)) (by rw [show ilen [(a, b)] = 1 from rfl]; decide) (by rw [show ilen [(a, b)] = 1 from rfl]; decide) ?_; cbv)
        | (refine qrj hS (mx := mx) (l := l1) (.v rfl hA1 hm1) (.v rfl hA1 hm1) (by omega) ?_; cbv)
        | (refine qrj hS (mx := mx) (l := l1) (.v rfl hA1 hm1) (.v rfl hFw hm1w) (by omega) ?_; cbv)
        | (refine rat_g hS (.v (z := .y mx) (n := .y m) rfl hF hm) hat l0 u0 (by omega) ?_; cbv)
        | (refine hidx _ _ ?_; cbv)
        | (refine hnmd _ _ ?_; cbv)
        | (refine unb_g hS hy (.v (z := .y mx) (n := .y m) rfl hF hm) rfl (qbc (n := .y ni) hFi.symm hni) hPo (by omega) (by omega) hFo hno hFlk hnlk ?_; cbv)
        | (refine qbx hS ?_; try cbv)
        | (refine s_lk hS ?_; try cbv)
        | (refine s_mu hS ?_; try cbv)
        | fail)
    all_goals first
      | exact .rfl
      | (exfalso; omega)
      | (rename_i h5; have h6 := hek (by omega); exfalso; omega)
      | (have h6 := hek (by omega); exfalso; omega)
      | trace_state
    all_goals sorry
  subst hge
  have hi0 : 1 ≤ i ∧ i < 2147483648 := by
    by_cases h : i < 1 ∨ ilen l ≤ i - 21
    · rw [qys h] at hat; cases hat
    · omega
  have hgb : szF (ga, gb) ≤ 4096 := by
    have h := at_len (l := l) (i := i) (m := 4096) (by omega) (by decide)
    rw [hat] at h; exact h
  obtain ⟨sg, hsg⟩ : ∃ z, z = szF (ga, gb) := ⟨_, rfl⟩
  obtain ⟨sn, hsn⟩ : ∃ z, z = szF (ga, b) := ⟨_, rfl⟩
  have hsg' : sg = ilen ga + ilen gb + 32 := hsg
  have hsn' : sn = ilen ga + ilen b + 32 := hsn
  have hga0 := qai ga
  have hgb0 := qai gb
  rw [← hsg] at hgb
  have hy := blk_ok hR v0 v1 (idx_go (most := mx) (mx := mx) (l := l) (by omega) hi0.2 hat)
  dsimp only at hy
  rw [← hsg] at hy
  obtain ⟨l4, hgo4⟩ := nm_go (most := mx) (mx := mx) (w := w) (f := (ga, b)) (by omega) hi0.2 hat rfl (by dsimp only; omega)
  have hz := blk_ok hR v0 v1 hgo4
  dsimp only at hz
  rw [← hsn] at hz
  obtain ⟨og, hog⟩ : ∃ r, (if 2000 < sg then [] else [(ga, gb)]) = r := ⟨_, rfl⟩
  obtain ⟨on, hon⟩ : ∃ r, (if 2000 < sn then [] else [(ga, b)]) = r := ⟨_, rfl⟩
  rw [hog] at hy
  rw [hon] at hz
  have hog1 : ¬2000 < sg → og = [(ga, gb)] := fun h => by rw [← hog, if_neg h]
  have hon1 : ¬2000 < sn → on = [(ga, b)] := fun h => by rw [← hon, if_neg h]
  have hogl : ilen og ≤ 1 := by
    rw [← hog]
    by_cases h : 2000 < sg
    · rw [if_pos h]; decide
    · rw [if_neg h]; exact Int.le_refl 1
  have honl : ilen on ≤ 1 := by
    rw [← hon]
    by_cases h : 2000 < sn
    · rw [if_pos h]; decide
    · rw [if_neg h]; exact Int.le_refl 1
  obtain ⟨Fog, hFog⟩ : ∃ r, cellsF og = r := ⟨_, rfl⟩
  obtain ⟨nog, hnog⟩ : ∃ r, r = ilen og := ⟨_, rfl⟩
  obtain ⟨Fon, hFon⟩ : ∃ r, cellsF on = r := ⟨_, rfl⟩
  obtain ⟨non, hnon⟩ : ∃ r, r = ilen on := ⟨_, rfl⟩
  obtain ⟨F4, hF4⟩ : ∃ r, cellsF l4 = r := ⟨_, rfl⟩
  obtain ⟨n4, hn4⟩ : ∃ r, r = ilen l4 := ⟨_, rfl⟩
  obtain ⟨t1, ht1⟩ : ∃ r, decide (2000 < sg) = r := ⟨_, rfl⟩
  obtain ⟨t2, ht2⟩ : ∃ r, decide (2000 < sn) = r := ⟨_, rfl⟩
  rw [ht1] at hy
  rw [ht2] at hz
  obtain ⟨Lq, hLq⟩ : ∃ r, nmB i b w = r := ⟨_, rfl⟩
  have hLqo : Hu.BOk Lq := hLq ▸ bok_nm (by omega)
  have hLql : ilen Lq ≤ 2000 := by
    have h1 := qcz i (powP w) (upP w)
    have h2 := qrp (byS b)
    have e1 : ilen (byS b) = ilen b := by unfold byS ilen; rw [List.length_map]
    rw [← hLq]; unfold nmB; rw [qcd]; omega
  rw [hLq] at hz
  obtain ⟨Fq, hFq⟩ : ∃ r, cellsB Lq = r := ⟨_, rfl⟩
  obtain ⟨nq, hnq⟩ : ∃ r, r = ilen Lq := ⟨_, rfl⟩
  obtain ⟨Fi, hFi⟩ : ∃ r, cellsB (idxB i) = r := ⟨_, rfl⟩
  obtain ⟨ni, hni⟩ : ∃ r, r = ilen (idxB i) := ⟨_, rfl⟩
  have hil : ilen (idxB i) ≤ 6 := (qcz i 128 128).2
  rcases hw1 with ⟨hw, had⟩ | ⟨hw, hll⟩ <;> (try (have hFw := hFw hll; have hm1w := hm1w hll))
  all_goals
    repeat' (first
      | (refine qbw hS rfl ?_; try cbv)
      | (refine s_ck hS ?_; try cbv)
      | (refine qab hS ?_ ?_ <;> intro h <;> (try cbv) <;> try exact s_ab h)
      | (refine s_ad hS ?_; intro _ _; try cbv)
      | (refine s_sb hS ?_; intro _ _; try cbv)
      | (refine qau hS ?_; intro _ _; try cbv)
      | (refine qae hS ?_; try cbv)
      | (refine qme hS ?_; cbv)
      | (refine qer hS rfl I.qcg (by decide +kernel) ?_; cbv; refine ⟨⟨?_, ?_⟩, ?_⟩ <;> cbv)
      | (refine fld_g hS (w := w) (F := FL) (n := nL) rfl (by omega) (by rw [hLf]; exact hFL) (by rw [hLf]; exact hnL) ?_; cbv)
      | (refine unb_g hS hx (.v (z := .y mx) (n := .y m) rfl hF hm) rfl (qbc (n := .y nL) hFL.symm hnL) hLfo (by omega) (by omega) (F := [.s a, .s b]) (n := 1) rfl rfl hA1 hm1 ?_; cbv)
      | (refine radd_g hS (.v (z := .y mx) (n := .y m) rfl hF hm) had hA1 hm1 (by omega) (by omega) ?_; cbv)
      | (refine qmf hS (l := [(a, b)]) (k := [(a, b)]) (t := true) (decide_eq_true rfl) (.cons (.sub (qbc rfl rfl) rfl) (.cons (qnz (l := [(a, b)]) (m := 1) (n := .y 1) (qaq rfl (by simp)) rfl rfl rfl rfl) .nil)) (by rw [show ilen [(a, b)] = 1 from rfl]; decide) (by rw [show ilen [(a, b)] = 1 from rfl]; decide) ?_; cbv)
      | (refine qrj hS (mx := mx) (l := l1) (.v rfl hA1 hm1) (.v rfl hA1 hm1) (by omega) ?_; cbv)
      | (refine qrj hS (mx := mx) (l := l1) (.v rfl hA1 hm1) (.v rfl hFw hm1w) (by omega) ?_; cbv)
      | (refine rat_g hS (.v (z := .y mx) (n := .y m) rfl hF hm) hat l0 u0 (by omega) ?_; cbv)
      | (refine idx_g hS (i := i) rfl (by omega) hi0.2 hFi hni ?_; cbv)
      | (refine qzacl hS (i := i) (w := w) (F := Fq) (n := nq) rfl rfl (by omega) hi0.2 (by omega) (by rw [hLq]; exact hFq) (by rw [hLq]; exact hnq) ?_; cbv)
      | (refine unb_g hS hy (.v (z := .y mx) (n := .y m) rfl hF hm) rfl (qbc (n := .y ni) hFi.symm hni) (qzade (by omega)) (by omega) (by omega) hFog hnog hF hm ?_; cbv)
      | (refine unb_g hS hz (.v (z := .y mx) (n := .y m) rfl hF hm) rfl (qbc (n := .y nq) hFq.symm hnq) hLqo (by omega) (by omega) hFon hnon hF4 hn4 ?_; cbv)
      | (refine rsize_g hS hsg (by omega) ?_; cbv)
      | (refine rsize_g hS hsn (by omega) ?_; cbv)
      | (refine qmf hS (l := og) (k := [(ga, gb)]) (t := true) (decide_eq_true (hog1 (by omega))) (.cons (.sub (qbc hFog.symm hnog) rfl) (.cons (qnz (l := [(ga, gb)]) (m := 1) (n := .y 1) (qaq rfl (by simp)) rfl rfl rfl rfl) .nil)) (by omega) (by rw [show ilen [(ga, gb)] = 1 from rfl]; decide) ?_; cbv)
      | (refine qmf hS (l := on) (k := [(ga, b)]) (t := true) (decide_eq_true (hon1 (by omega))) (.cons (.sub (qbc hFon.symm hnon) rfl) (.cons (qnz (l := [(ga, b)]) (m := 1) (n := .y 1) (qaq rfl (by simp)) rfl rfl rfl rfl) .nil)) (by omega) (by rw [show ilen [(ga, b)] = 1 from rfl]; decide) ?_; cbv)
      | (refine qrj hS (mx := mx) (l := l) (.v rfl hF hm) (.v rfl hF hm) (by omega) ?_; cbv)
      | (refine qbx hS ?_; try cbv)
      | (refine s_lk hS ?_; try cbv)
      | (refine s_mu hS ?_; try cbv)
      | fail)
  all_goals first
    | exact .rfl
    | (exfalso; omega)
    | trace_state
  all_goals sorry
end Pa
end Cz
