/- Taken apart by the same table a block is the same list again, and the table behind it the same one: the law PackBack returns true for every input. No condition. -/
import Derived.Test.YtdbnbknghhpbiaaDoorKT7
import Derived.LaidMore
import Derived.Lay
import Derived.SevenTiedAt
import Derived.Stop.Joined
import Derived.Test.YtdbnbknghhpbiaaDoorRows
import Derived.Test.YtdbnbknghhpbiaaDoorCards
import Derived.Test.YtdbnbknghhpbiaaDoorTie
set_option linter.unusedSimpArgs false
set_option linter.unusedVariables false
set_option maxRecDepth 100000
set_option maxHeartbeats 4000000
namespace Cz
open Go Go.RowKit Go.Proofs
namespace Pa
open Tb
theorem many_le : ∀ (q : List Tb.Fd) (n : Int), manyU q n ≤ q.length
  | [], _ => Nat.le_refl _
  | f :: q, n => by
    simp only [manyU]
    split
    · omega
    · have := many_le q (n + szF f); simp only [List.length_cons]; omega
def manyI : List Tb.Fd → Int → Int
  | [], _ => 0
  | f :: fs, n => if 2000 < n + szF f then 0 else manyI fs (n + szF f) + 1
theorem many_i : ∀ (q : List Tb.Fd) (n : Int), manyI q n = manyU q n
  | [], _ => rfl
  | f :: q, n => by
    simp only [manyI, manyU]
    split
    · rfl
    · rw [many_i q]; rfl
theorem many_drop {q : List Tb.Fd} {k n : Int} {f : Tb.Fd} (hf : q[k.toNat]? = some f) (h0 : 0 ≤ k) : manyI (q.drop k.toNat) n = if 2000 < n + szF f then 0 else manyI (q.drop (k + 1).toNat) (n + szF f) + 1 := by
  have hlt := (List.getElem?_eq_some_iff.1 hf).1
  have e : q.drop k.toNat = f :: q.drop (k + 1).toNat := by
    rw [List.drop_eq_getElem_cons hlt, show (k + 1).toNat = k.toNat + 1 by omega]
    congr 1
    exact (List.getElem?_eq_some_iff.1 hf).2
  rw [e]; rfl
theorem qsu {S : Sy} {bl : List Blk} {K : SV → List Blk → Prop} (hS : S0 Tryd.prog = S) {x y : SV} {l : List Tb.Fd} (hc : FzL bl id [] [x, y] [.v false 2 (cellsF l) (.y (ilen l)), .v false 2 (cellsF l) (.y (ilen l))]) (hl : ilen l ≤ 100000000) (hK : K .tt bl) :
    S.call 37 [x, y] bl K := qbu hS (qbi (qzaal (decide_eq_true rfl) hl hl)) hc rfl rfl hK
theorem back_f {mx most : Int} {l q : List Tb.Fd} (hs : shortL l) (hm0 : ilen l ≤ 140737488355328) (hs2 : shortL q) (hm2 : ilen q ≤ 140737488355328) :
    (S0 Tryd.prog).call 8 [tabV mx l, .v false 2 (cellsF q) (.y (ilen q)), .i .i64 (.y most)] [] (fun y _ => Sub y .tt) := by
  unfold tabV
  generalize hF : cellsF l = F
  obtain ⟨m, hm⟩ : ∃ m, m = ilen l := ⟨_, rfl⟩
  generalize hG : cellsF q = G
  obtain ⟨n, hn⟩ : ∃ m, m = ilen q := ⟨_, rfl⟩
  rw [← hm, ← hn]
  generalize hS : S0 Tryd.prog = S
  refine qaa hS I.qdv ?_
  cbv
  refine pgreat_u hS (l := l) (q := q) (.cons (tab_fz rfl hF hm) (.cons (.sub (qav hG.symm hn) rfl) .nil)) hs hm0 hs2 hm2 ?_ (fun g1 g2 g3 g4 => ?_) <;> cbv
  · refine qgq hS ?_
    cbv
    exact .rfl
  have hn0 := qah q
  by_cases hR : rightL mx l = true
  · refine qko hS (.v (z := .y mx) (n := .y m) rfl hF hm) hR (by omega) ?_
    cbv
    obtain ⟨Lb, hLb⟩ : ∃ r, blockB mx l q = r := ⟨_, rfl⟩
    obtain ⟨lb, hlb⟩ : ∃ r, blockL mx l q = r := ⟨_, rfl⟩
    obtain ⟨FB, hFB⟩ : ∃ r, cellsB Lb = r := ⟨_, rfl⟩
    obtain ⟨nb, hnb⟩ : ∃ r, r = ilen Lb := ⟨_, rfl⟩
    obtain ⟨RB, hRB⟩ : ∃ r, cellsF lb = r := ⟨_, rfl⟩
    obtain ⟨mb, hmb⟩ : ∃ r, r = ilen lb := ⟨_, rfl⟩
    obtain ⟨M, hM⟩ : ∃ M : Int, M = manyI q 0 := ⟨_, rfl⟩
    have hMi := many_i q 0
    have hM1 := many_le q 0
    have hMn : 0 ≤ M ∧ M ≤ n := by unfold ilen at hn; omega
    have hMt : (manyU q 0) = M.toNat := by omega
    obtain ⟨o, ho⟩ : ∃ r, q.take M.toNat = r := ⟨_, rfl⟩
    obtain ⟨FO, hFO⟩ : ∃ r, cellsF o = r := ⟨_, rfl⟩
    have hno : M = ilen o := by rw [← ho]; unfold ilen at hn ⊢; rw [List.length_take]; omega
    obtain ⟨lg, hlg⟩ : ∃ r, decide (manyU q 0 < q.length) = r := ⟨_, rfl⟩
    have hb1 := back_blk (q := q) hR (most := 4096) (by decide) (by decide) (by omega)
    rw [hLb, hlb, hlg, hMt, ho] at hb1
    have hLbo : Hu.BOk Lb := hLb ▸ qki mx q l
    have hbl := qkj mx q l
    rw [hLb] at hbl
    have hRl := qfu (fs := q) hR
    rw [hlb] at hRl
    have hlbl := qdi hRl
    obtain ⟨L2, hL2⟩ : ∃ r, sizB most ++ blockB most (evL most l) q = r := ⟨_, rfl⟩
    obtain ⟨l2, hl2⟩ : ∃ r, blockL most (evL most l) q = r := ⟨_, rfl⟩
    obtain ⟨F2, hF2⟩ : ∃ r, cellsB L2 = r := ⟨_, rfl⟩
    obtain ⟨n2, hn2⟩ : ∃ r, r = ilen L2 := ⟨_, rfl⟩
    obtain ⟨R2, hR2⟩ : ∃ r, cellsF l2 = r := ⟨_, rfl⟩
    obtain ⟨m2, hm2'⟩ : ∃ r, r = ilen l2 := ⟨_, rfl⟩
    have hz0 : 0 ≤ most ∧ most ≤ 4096 → blkU (mx, l) most L2 = ((o, lg, (most, l2)), 0) ∧ Hu.BOk L2 ∧ ilen L2 ≤ fullL q + 6 ∧ ilen l2 ≤ 128 := by
      intro h
      have h1 := back_siz (q := q) hR h.1 h.2 (by omega)
      rw [hL2, hl2, hlg, hMt, ho] at h1
      have h3 := qkj most q (evL most l)
      have h4 := qcu most 32 32
      refine ⟨h1, hL2 ▸ qno (bok_siz h.1) (qki _ _ _), ?_, hl2 ▸ qdi (qfu (qyr h.1 h.2))⟩
      rw [← hL2, qbf]; unfold sizB; omega
    have hqq := qmg (q := q) (m := 1000000) (by omega) (by decide)
    repeat' (first
      | (refine qbl hS rfl ?_; try cbv)
      | (refine s_ck hS ?_; try cbv)
      | (refine qad hS ?_ ?_ <;> intro h <;> (try cbv) <;> try exact s_ab h)
      | (refine s_ad hS ?_; intro _ _; try cbv)
      | (refine s_sb hS ?_; intro _ _; try cbv)
      | (refine qaq hS ?_; intro _ _; try cbv)
      | (refine qaf hS ?_; try cbv)
      | (refine qbk hS ?_; try cbv)
      | (refine s_lk hS ?_; try cbv)
      | (refine s_mu hS ?_; try cbv)
      | fail)
    refine qzafj hS (.v (z := .y mx) (n := .y m) rfl hF hm) (qav (n := .y n) hG.symm hn) hR hLb hlb hFB hnb hRB hmb (by omega) ?_
    cbv
    refine runb_g hS (zm := .l 4096) hb1 (.v (z := .y mx) (n := .y m) rfl hF hm) rfl (qav (n := .y nb) hFB.symm hnb) hLbo (by omega) (by omega) hFO hno hRB hmb ?_
    cbv
    repeat' (first
      | (refine qbl hS rfl ?_; try cbv)
      | (refine s_ck hS ?_; try cbv)
      | (refine qad hS ?_ ?_ <;> intro h <;> (try cbv) <;> try exact s_ab h)
      | (refine s_ad hS ?_; intro _ _; try cbv)
      | (refine s_sb hS ?_; intro _ _; try cbv)
      | (refine qaq hS ?_; intro _ _; try cbv)
      | (refine qaf hS ?_; try cbv)
      | (refine qbk hS ?_; try cbv)
      | (refine s_lk hS ?_; try cbv)
      | (refine s_mu hS ?_; try cbv)
      | fail)
    refine qau hS 3 I.qfs (fun x : Int × Int => 0 ≤ x.1 ∧ x.1 ≤ n ∧ x.2 = fullL (q.take x.1.toNat) ∧ x.2 ≤ 2000 ∧ M = x.1 + manyI (q.drop x.1.toNat) x.2) (fun x => [(12, .i .i64 (.y x.2)), (13, .i .i64 (.y x.1))]) (fun _ => []) (fun x => (n - x.1).toNat) (0, 0) rfl
      ⟨⟨Int.le_refl _, by omega, rfl, by decide, by rw [hM]; exact (Int.zero_add _).symm⟩, rfl, ?_, ?_, by cbv⟩ ?_
    · cbv; exact s_qA
    · cbv; exact s_qA
    intro x
    obtain ⟨k, sk⟩ := x
    intro hx
    dsimp only at hx
    cbv
    obtain ⟨k0, k1, k2, k3, k4⟩ := hx
    have hs0 := qgo (q.take k.toNat)
    rw [← k2] at hs0
    have hkn : k < n ∨ k = n := by omega
    rcases hkn with hkn | hkn
    · obtain ⟨⟨a, b⟩, hp⟩ := qfe (l := q) (i := k) (by omega) k0
      have hdr := many_drop (n := sk) hp k0
      have hnx := qfm hp k0
      rw [← k2] at hnx
      have hft := qmw hp
      obtain ⟨sz, hsz⟩ : ∃ r, r = szF (a, b) := ⟨_, rfl⟩
      have hszp := qgr (a, b)
      rw [← hsz] at hdr hnx hft hszp
      rw [hdr] at k4
      by_cases hle : 2000 < sk + sz
      · rw [if_pos hle] at k4
        clear hdr
        repeat' (first
          | (refine qbl hS rfl ?_; try cbv)
          | (refine s_ck hS ?_; try cbv)
          | (refine qad hS ?_ ?_ <;> intro h <;> (try cbv) <;> try exact s_ab h)
          | (refine s_ad hS ?_; intro _ _; try cbv)
          | (refine s_sb hS ?_; intro _ _; try cbv)
          | (refine qaq hS ?_; intro _ _; try cbv)
          | (refine qaf hS ?_; try cbv)
          | (refine rowF hS hG hp k0 ?_; cbv)
          | (refine qma hS hsz (by omega) ?_; cbv)
          | (refine qbk hS ?_; try cbv)
          | (refine s_lk hS ?_; try cbv)
          | (refine s_mu hS ?_; try cbv)
          | fail)
        have hkM : k = M := by omega
        subst hkM
        have hlg1 : lg = true := by rw [← hlg]; exact decide_eq_true (by unfold ilen at hn; omega)
        subst hlg1
        have hlT : true = decide (k < n) := (decide_eq_true (by omega)).symm
        have es : S.sub G 0 k 2 = FO := by
          subst hS
          show (G.drop ((0 : Int).toNat * 2)).take (k.toNat * 2) = FO
          rw [show (0 : Int).toNat * 2 = 0 from rfl, List.drop_zero, ← hG, qql, ho, hFO]
        refine qao hS rfl I.qdg (by decide +kernel) ?_
        cbv
        by_cases hmo : 0 ≤ most ∧ most ≤ 4096
        · obtain ⟨hb2, hL2o, hL2l, hl2l⟩ := hz0 hmo
          repeat' (first
            | (refine qbl hS rfl ?_; try cbv)
            | (refine s_ck hS ?_; try cbv)
            | (refine qad hS ?_ ?_ <;> intro h <;> (try cbv) <;> try exact s_ab h)
            | (refine s_ad hS ?_; intro _ _; try cbv)
            | (refine s_sb hS ?_; intro _ _; try cbv)
            | (refine qaq hS ?_; intro _ _; try cbv)
            | (refine qaf hS ?_; try cbv)
            | (refine qsu hS (l := o) (.cons (.sub (qav hFO.symm hno) rfl) (.cons (.sub (qav (es.trans hFO.symm) hno) rfl) .nil)) (by omega) ?_; cbv)
            | (refine qjk hS (mx := mx) (l := lb) (.v rfl hRB hmb) (.v rfl hRB hmb) (by omega) ?_; cbv)
            | (refine sized_g hS (.v (z := .y mx) (n := .y m) rfl hF hm) (qav (n := .y n) hG.symm hn) rfl hR hmo.1 hmo.2 hL2 hl2 hF2 hn2 hR2 hm2' (by omega) ?_; cbv)
            | (refine runb_g hS (zm := .y most) hb2 (.v (z := .y mx) (n := .y m) rfl hF hm) rfl (qav (n := .y n2) hF2.symm hn2) hL2o (by omega) (by omega) hFO hno hR2 hm2' ?_; cbv)
            | (refine qjk hS (mx := most) (l := l2) (.v rfl hR2 hm2') (.v rfl hR2 hm2') (by omega) ?_; cbv)
            | (refine qao hS rfl I.qdf (by decide +kernel) ?_; cbv)
            | (refine qgq hS ?_; cbv)
            | (refine qbk hS ?_; try cbv)
            | (refine s_lk hS ?_; try cbv)
            | (refine s_mu hS ?_; try cbv)
            | fail)
          all_goals first
            | exact .rfl
            | (exfalso; exact absurd hlT (by assumption))
        · repeat' (first
          | (refine qbl hS rfl ?_; try cbv)
          | (refine s_ck hS ?_; try cbv)
          | (refine qad hS ?_ ?_ <;> intro h <;> (try cbv) <;> try exact s_ab h)
          | (refine s_ad hS ?_; intro _ _; try cbv)
          | (refine s_sb hS ?_; intro _ _; try cbv)
          | (refine qaq hS ?_; intro _ _; try cbv)
          | (refine qaf hS ?_; try cbv)
          | (refine qsu hS (l := o) (.cons (.sub (qav hFO.symm hno) rfl) (.cons (.sub (qav (es.trans hFO.symm) hno) rfl) .nil)) (by omega) ?_; cbv)
          | (refine qjk hS (mx := mx) (l := lb) (.v rfl hRB hmb) (.v rfl hRB hmb) (by omega) ?_; cbv)
          | (refine qgq hS ?_; cbv)
          | (refine qbk hS ?_; try cbv)
          | (refine s_lk hS ?_; try cbv)
          | (refine s_mu hS ?_; try cbv)
          | fail)
          all_goals first
            | exact .rfl
            | (exfalso; omega)
            | (exfalso; exact absurd hlT (by assumption))
      · rw [if_neg hle] at k4
        clear hdr
        obtain ⟨M2, hM2⟩ : ∃ M2 : Int, M2 = manyI (q.drop (k + 1).toNat) (sk + sz) := ⟨_, rfl⟩
        have k5 : M = k + 1 + M2 := by rw [k4, hM2]; omega
        clear k4
        repeat' (first
          | (refine qbl hS rfl ?_; try cbv)
          | (refine s_ck hS ?_; try cbv)
          | (refine qad hS ?_ ?_ <;> intro h <;> (try cbv) <;> try exact s_ab h)
          | (refine s_ad hS ?_; intro _ _; try cbv)
          | (refine s_sb hS ?_; intro _ _; try cbv)
          | (refine qaq hS ?_; intro _ _; try cbv)
          | (refine qaf hS ?_; try cbv)
          | (refine rowF hS hG hp k0 ?_; cbv)
          | (refine qma hS hsz (by omega) ?_; cbv)
          | (refine qbk hS ?_; try cbv)
          | (refine s_lk hS ?_; try cbv)
          | (refine s_mu hS ?_; try cbv)
          | fail)
        all_goals first
          | (exfalso; omega)
          | (rename_i s2 hs2 k2 hk2
             refine ⟨(k2, s2), by dsimp only; omega, ⟨by dsimp only; omega, by dsimp only; omega, by dsimp only; rw [hk2, hnx]; omega, by dsimp only; omega, by dsimp only; rw [k5, hM2, hk2, hs2]⟩, rfl, ?_, ?_, by cbv⟩
             · cbv; exact s_qA
             · cbv; exact s_qA)
    · repeat' (first
      | (refine qbl hS rfl ?_; try cbv)
      | (refine s_ck hS ?_; try cbv)
      | (refine qad hS ?_ ?_ <;> intro h <;> (try cbv) <;> try exact s_ab h)
      | (refine s_ad hS ?_; intro _ _; try cbv)
      | (refine s_sb hS ?_; intro _ _; try cbv)
      | (refine qaq hS ?_; intro _ _; try cbv)
      | (refine qaf hS ?_; try cbv)
      | (refine qbk hS ?_; try cbv)
      | (refine s_lk hS ?_; try cbv)
      | (refine s_mu hS ?_; try cbv)
      | fail)
      all_goals first
        | (exfalso; omega)
        | skip
      have hkM : k = M := by
        rw [k4, hkn, show n.toNat = q.length by unfold ilen at hn; omega, List.drop_length]; show n = n + 0; omega
      subst hkM
      have hlg1 : lg = false := by rw [← hlg]; exact decide_eq_false (by unfold ilen at hn; omega)
      subst hlg1
      have hlT : false = decide (k < n) := (decide_eq_false (by omega)).symm
      have es : S.sub G 0 k 2 = FO := by
        subst hS
        show (G.drop ((0 : Int).toNat * 2)).take (k.toNat * 2) = FO
        rw [show (0 : Int).toNat * 2 = 0 from rfl, List.drop_zero, ← hG, qql, ho, hFO]
      refine qao hS rfl I.qdg (by decide +kernel) ?_
      cbv
      by_cases hmo : 0 ≤ most ∧ most ≤ 4096
      · obtain ⟨hb2, hL2o, hL2l, hl2l⟩ := hz0 hmo
        repeat' (first
          | (refine qbl hS rfl ?_; try cbv)
          | (refine s_ck hS ?_; try cbv)
          | (refine qad hS ?_ ?_ <;> intro h <;> (try cbv) <;> try exact s_ab h)
          | (refine s_ad hS ?_; intro _ _; try cbv)
          | (refine s_sb hS ?_; intro _ _; try cbv)
          | (refine qaq hS ?_; intro _ _; try cbv)
          | (refine qaf hS ?_; try cbv)
          | (refine qsu hS (l := o) (.cons (.sub (qav hFO.symm hno) rfl) (.cons (.sub (qav (es.trans hFO.symm) hno) rfl) .nil)) (by omega) ?_; cbv)
          | (refine qjk hS (mx := mx) (l := lb) (.v rfl hRB hmb) (.v rfl hRB hmb) (by omega) ?_; cbv)
          | (refine sized_g hS (.v (z := .y mx) (n := .y m) rfl hF hm) (qav (n := .y n) hG.symm hn) rfl hR hmo.1 hmo.2 hL2 hl2 hF2 hn2 hR2 hm2' (by omega) ?_; cbv)
          | (refine runb_g hS (zm := .y most) hb2 (.v (z := .y mx) (n := .y m) rfl hF hm) rfl (qav (n := .y n2) hF2.symm hn2) hL2o (by omega) (by omega) hFO hno hR2 hm2' ?_; cbv)
          | (refine qjk hS (mx := most) (l := l2) (.v rfl hR2 hm2') (.v rfl hR2 hm2') (by omega) ?_; cbv)
          | (refine qao hS rfl I.qdf (by decide +kernel) ?_; cbv)
          | (refine qgq hS ?_; cbv)
          | (refine qbk hS ?_; try cbv)
          | (refine s_lk hS ?_; try cbv)
          | (refine s_mu hS ?_; try cbv)
          | fail)
        all_goals first
          | exact .rfl
          | (exfalso; exact absurd hlT (by assumption))
      · repeat' (first
        | (refine qbl hS rfl ?_; try cbv)
        | (refine s_ck hS ?_; try cbv)
        | (refine qad hS ?_ ?_ <;> intro h <;> (try cbv) <;> try exact s_ab h)
        | (refine s_ad hS ?_; intro _ _; try cbv)
        | (refine s_sb hS ?_; intro _ _; try cbv)
        | (refine qaq hS ?_; intro _ _; try cbv)
        | (refine qaf hS ?_; try cbv)
        | (refine qsu hS (l := o) (.cons (.sub (qav hFO.symm hno) rfl) (.cons (.sub (qav (es.trans hFO.symm) hno) rfl) .nil)) (by omega) ?_; cbv)
        | (refine qjk hS (mx := mx) (l := lb) (.v rfl hRB hmb) (.v rfl hRB hmb) (by omega) ?_; cbv)
        | (refine qgq hS ?_; cbv)
        | (refine qbk hS ?_; try cbv)
        | (refine s_lk hS ?_; try cbv)
        | (refine s_mu hS ?_; try cbv)
        | fail)
        all_goals first
          | exact .rfl
          | (exfalso; omega)
          | (exfalso; exact absurd hlT (by assumption))
  · refine qko hS (.v (z := .y mx) (n := .y m) rfl hF hm) (mx := mx) (t := false) (by simpa using hR) (by omega) ?_
    cbv
    repeat' (first
      | (refine qbl hS rfl ?_; try cbv)
      | (refine s_ck hS ?_; try cbv)
      | (refine qad hS ?_ ?_ <;> intro h <;> (try cbv) <;> try exact s_ab h)
      | (refine s_ad hS ?_; intro _ _; try cbv)
      | (refine s_sb hS ?_; intro _ _; try cbv)
      | (refine qaq hS ?_; intro _ _; try cbv)
      | (refine qaf hS ?_; try cbv)
      | (refine qbk hS ?_; try cbv)
      | (refine s_lk hS ?_; try cbv)
      | (refine s_mu hS ?_; try cbv)
      | fail)
    refine qgq hS ?_
    cbv
    exact .rfl
end Pa
end Cz
namespace Go.Proofs.YtdbnbknghhpbiaaDoor
open Go Cz Go.ChangeShapes Go.WideShapes Go.ChangeAt Go.RowKit
theorem own : ownKnob Tryd.prog.godebug = Option.none := by kernel_rfl
theorem laidOut : laidOutB Tryd.prog = true := by kernel_rfl
theorem pk_tab : pks Tryd.prog 4 24 = some [.i .i64, .sl [.s, .s]] := by kernel_rfl
theorem pk_fds : pks Tryd.prog 4 22 = some [.sl [.s, .s]] := by kernel_rfl
theorem pk_i : pks Tryd.prog 4 3 = some [.i .i64] := by kernel_rfl
set_option maxRecDepth 100000 in
theorem qzafk (os : Os) (started : os.Started) (H : Type) (enc : TypeId × Value → H) :
    ReturnsInHanded {} Tryd.checked os 8 .any (fun w args => (Rows.packBackSpec.pre enc Tryd.prog Tryd.f8 Rows.packBackRow.domain false w args ∧ laidMetH Tryd.prog Rows.packBackRow.laid w) ∧ sizedMet enc Tryd.prog Tryd.f8 (OpenSpec.ofChange Rows.packBackSpec) false w args)
      (Rows.packBackSpec.post enc Tryd.prog Tryd.f8 false true false false) := by
  refine returnsInHanded_of_change_and (C := Tryd.checked) (X := fun w _ => laidMetH Tryd.prog Rows.packBackRow.laid w) (fun _ _ _ hh h => h.of_heap hh) own started (by kernel_rfl) Tryd.func8
    (ChangeSpec.witness_shaped (enc := enc) (C := Tryd.checked) (os := os) (X := fun w _ => laidMetH Tryd.prog Rows.packBackRow.laid w) false (World.laidAll Tryd.prog os Rows.packBackRow.laid) #[.agg #[.int .i64 0, .slice none 0 0], .slice none 0 0, .int .i64 0] 8 (World.laidAll_os _ _ _)
      (World.shaped_of_ZipB (by kernel_rfl) (by kernel_rfl)) (by kernel_rfl) (by kernel_rfl) (by kernel_rfl)
      (by rw [MakeChecks.laidMetH_plain _ _ _ (by kernel_rfl)]; exact laidMet_laidAll _ (by kernel_rfl) (by kernel_rfl))) ?_
  intro W base args ds gs before hval0 hW _ hsz _ _
  have hval : ∀ (j : Nat) t v, Tryd.f8.params[j]? = some t → args[j]? = some v → Value.okWide Tryd.prog W .any base t v := hval0
  have hW' := hW
  obtain ⟨p, q, hA0, hV, hbef, hfz, hnd⟩ := hW
  have hA : DataW.TrodAll enc Tryd.prog W 0 (fun _ => true) true Tryd.f8.params.toList args.toList ds p := hA0
  rw [Tryd.params8] at hA hval
  obtain ⟨v0, vs0, d0, ds0, p0, q0, hargs, rfl, rfl, h0, r0⟩ := trodAll_cons hA
  obtain ⟨v1, vs1, d1, ds1, p1, q1, rfl, rfl, rfl, h1, r1⟩ := trodAll_cons r0
  obtain ⟨v2, vs2, d2, ds2, p2, q2, rfl, rfl, rfl, h2, r2⟩ := trodAll_cons r1
  obtain ⟨rfl, rfl, rfl⟩ := trodAll_nil r2
  obtain rfl : args = #[v0, v1, v2] := by cases args; simp_all
  obtain ⟨rfl, rfl⟩ := trodVars_none hV
  obtain ⟨c0, rfl, _⟩ := okWide_struct Tryd.underlying24 (hval 0 24 v0 rfl rfl)
  obtain ⟨fu0, hf0⟩ := h0
  obtain ⟨c1, len1, cap1, rfl⟩ := okWide_slice Tryd.underlying22 (hval 1 22 v1 rfl rfl)
  obtain ⟨fu1, hf1⟩ := h1
  obtain ⟨c2, rfl⟩ := okWide_int Tryd.underlying3 (hval 2 3 v2 rfl rfl)
  obtain ⟨fu2, hf2⟩ := h2
  obtain ⟨s0, hk0, hd0⟩ := qgl 4 24 _ fu0 _ _ pk_tab hf0 fun n hn => of_decide_eq_true (List.all_eq_true.1 hsz n (DataW.weights_mem_each (j := 0) (by kernel_rfl) (by first | rfl | simp) n hn))
  obtain ⟨mx, l, rfl, lo_mx, hi_mx, hl_l, hs_l⟩ := Tb.op_tab hk0
  obtain ⟨s1, hk1, hd1⟩ := qgl 4 22 _ fu1 _ _ pk_fds hf1 fun n hn => of_decide_eq_true (List.all_eq_true.1 hsz n (DataW.weights_mem_each (j := 1) (by kernel_rfl) (by first | rfl | simp) n hn))
  obtain ⟨q, rfl, hl_q, hs_q⟩ := Tb.op_fds hk1
  obtain ⟨s2, hk2, hd2⟩ := qgl 4 3 _ fu2 _ _ pk_i hf2 fun n hn => of_decide_eq_true (List.all_eq_true.1 hsz n (DataW.weights_mem_each (j := 2) (by kernel_rfl) (by first | rfl | simp) n hn))
  obtain ⟨most, rfl, lo_most, hi_most⟩ := Tb.op_i hk2
  have hd' : denL (nmW W) [Tb.tabV mx l, .v false 2 (Tb.cellsF q) (.y (ilen q)), .i .i64 (.y most)] [Value.agg c0, Value.slice c1 len1 cap1, Value.int .i64 c2] := by
    simp only [denL]
    exact ⟨(by simp only [Tb.tabV, den]; exact ⟨c0, rfl, hd0⟩), qsx hd1, qsx hd2, trivial⟩
  refine (qzack I.qdv (Pa.back_f hs_l hl_l hs_q hl_q) hd').mono fun e W' ⟨he, hb⟩ => ?_
  subst he
  exact ⟨_, rfl, post_law laidOut hW' rfl (by kernel_rfl) rfl Tryd.underlying4 rfl hb⟩
theorem back_row : Rows.PackBackSaid :=
  OpenClaim.holds_of_wide 8 Tryd.f8 rfl rfl rfl rfl rfl rfl rfl ⟨rfl, rfl, rfl, rfl, rfl⟩ rfl rfl rfl rfl rfl (by kernel_rfl) Tryd.func8 (by kernel_rfl)
    (of_decide_eq_true (by kernel_rfl)) (by unfold Func.isWrapper; first | (rw [if_pos (by decide +kernel)]; kernel_rfl) | (rw [if_neg (by decide +kernel)]; exact ⟨rfl, rfl⟩))
    (fun os started H enc _ => qzafk os started H enc)
theorem back_holds : Rows.PackBackCardSaid :=
  Claim7.holds_tied_plain_at .later [] _ _ _ _ back_row (fun _ h => by cases h) (by kernel_rfl) (fun _ h => by cases h) packBack_row_tie rfl ⟨rfl, rfl⟩ (by kernel_rfl) rfl
    (fun f fn hf hfn => by
      obtain rfl : f = 8 := Option.some.inj ((show Tryd.prog.funcNamed "causey/causeylaw11.PackBack" = some 8 by kernel_rfl).symm.trans hf) |>.symm
      obtain rfl : fn = Tryd.f8 := (Option.some.inj (Tryd.func8.symm.trans hfn)).symm
      exact ⟨by kernel_rfl, fun j t ht => by
        rw [Tryd.params8] at ht
        have hm : t ∈ [24, 22, 3] := by simpa using Array.mem_of_getElem? ht
        have hall : ([24, 22, 3].all fun u => !Tryd.prog.wantsStandIn u) = true := by kernel_rfl
        exact (show Tryd.prog.wantsStandIn t = false by simpa using List.all_eq_true.1 hall t hm)⟩)
    (by kernel_rfl)
#print axioms back_holds
end Go.Proofs.YtdbnbknghhpbiaaDoor
