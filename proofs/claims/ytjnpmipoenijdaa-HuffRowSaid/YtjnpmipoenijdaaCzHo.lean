/- Huff, part O: bits laid behind bits. -/
import Derived.Test.YtjnpmipoenijdaaCzHn
namespace Cz
open Go Go.RowKit Go.Proofs
set_option linter.unusedSimpArgs false
set_option linter.unusedVariables false
set_option maxRecDepth 100000
set_option maxHeartbeats 4000000
def lenB (E : List Bool) : Int := E.length
theorem lenB_nn (E : List Bool) : 0 ≤ lenB E := by unfold lenB; omega
theorem lenB_lay (E : List Bool) : ilen (layB E) = (lenB E + 7) / 8 := by rw [layB_len]; unfold lenB; omega
theorem zero_sub : ∀ n, SubL (repS n [.i .u8 (.l 0)]) (cellsB (List.replicate n 0))
  | 0 => .nil
  | n + 1 => .cons (sub_i rfl) (zero_sub n)
theorem zero_plain : ∀ n, plains (repS n [.i .u8 (.l 0)]) = true
  | 0 => rfl
  | n + 1 => by simpa [repS, catS, plains, plainV] using zero_plain n
theorem cellsB_set {L : List Int} {q : Nat} {x : Int} : repl (cellsB L) (q * 1 + 0) [.i .u8 (.y x)] = cellsB (L.set q x) := by
  rw [cellsB_map, cellsB_map, List.map_set, Nat.mul_one, Nat.add_zero]
  simp only [repl, put_eq]
def eI (E : List Bool) (i : Int) : Int := (E.getD i.toNat false).toNat
theorem eI_bd (E : List Bool) (i : Int) : 0 ≤ eI E i ∧ eI E i ≤ 1 := by
  unfold eI
  cases E.getD i.toNat false <;> decide
/-- One round of laying. -/
theorem lay_step {E : List Bool} {N : Nat} {j q sh p u : Int} {L : List Int} (h0 : 0 ≤ j) (h1 : j < lenB E) (hN : lenB E ≤ 8 * N) (hL : L = layN N (E.take j.toNat)) (hq : q = j / 8) (hsh : sh = 7 - j % 8) (hp : 2 ^ sh.toNat = p) (hu : eI E j = u) :
    ∃ v, L[q.toNat]? = some v ∧ 0 ≤ v ∧ v < 256 ∧ 0 ≤ u * p ∧ v + u * p < 256 ∧ ∀ x, x = v + u * p → layN N (E.take (j + 1).toNat) = L.set q.toNat x := by
  have hlen : (E.take j.toNat).length = j.toNat := by unfold lenB at h1; rw [List.length_take]; omega
  have hlt : j.toNat < E.length := by unfold lenB at h1; omega
  obtain ⟨v, h2, h3, h4, h5⟩ := layN_set (N := N) (E := E.take j.toNat) (b := E.getD j.toNat false) hlen (by unfold lenB at *; omega)
  have e1 : (7 - j.toNat % 8) = sh.toNat := by omega
  rw [e1, hp] at h4 h5
  have hu' : ((E.getD j.toNat false).toNat : Int) = u := hu
  rw [hu'] at h4 h5
  have hp0 : 0 < p := by rw [← hp]; exact pow_pos' _
  have hub := eI_bd E j
  rw [hu] at hub
  have hup : 0 ≤ u * p := Int.mul_nonneg hub.1 (by omega)
  have e2 : j.toNat / 8 = q.toNat := by omega
  rw [e2] at h2 h5
  refine ⟨v, by rw [hL]; exact h2, h3, by omega, hup, h4, fun x hx => ?_⟩
  rw [hx, hL, ← h5, show (j + 1).toNat = j.toNat + 1 by omega, List.take_add_one, List.getD_eq_getElem?_getD, List.getElem?_eq_getElem hlt]
  rfl
theorem eI_left {E D : List Bool} {i : Int} (h0 : 0 ≤ i) (h : i < lenB E) : bitI (layB E) i = eI (E ++ D) i := by
  unfold lenB at h
  rw [layB_bit h0 h]
  unfold eI
  rw [List.getD_eq_getElem?_getD, List.getD_eq_getElem?_getD, List.getElem?_append_left (by omega)]
theorem eI_right {E : List Bool} {i m c : Int} (h : lenB E ≤ i) (h2 : i < lenB E + m) (hc : 0 ≤ c) : c / 2 ^ (lenB E + m - 1 - i).toNat % 2 = eI (E ++ Hu.bitsN m.toNat c.toNat) i := by
  have := code_bit (m := m) (c := c) (i := i - lenB E) (by omega) (by omega) hc
  unfold eI
  unfold lenB at *
  rw [List.getD_eq_getElem?_getD, List.getElem?_append_right (by omega), ← List.getD_eq_getElem?_getD, show i.toNat - E.length = (i - (E.length : Int)).toNat by omega, ← this]
  rw [show (m - 1 - (i - (E.length : Int))).toNat = ((E.length : Int) + m - 1 - i).toNat by omega]
theorem Lay_f {E : List Bool} {c m : Int} (hE : lenB E ≤ 100000) (hm0 : 0 ≤ m) (hm : m ≤ 30) (hc0 : 0 ≤ c) (hc : c < 2 ^ m.toNat) :
    (S0 Try.prog).call 47 [.sl 0 1 (.l 0) (.y (ilen (layB E))) none, .i .i64 (.y (lenB E)), .i .i64 (.y c), .i .i64 (.y m)] [.r true true (.l 0) 1 (cellsB (layB E))]
      (OwnR 1 1 (cellsB (layB (E ++ Hu.bitsN m.toNat c.toNat))) true [.i .i64 (.y (lenB E + m)), .i .i64 (.y 0)]) := by
  have hbe : Hu.BOk (layB E) := layN_ok _ _
  have hpl := cellsB_plain (layB E)
  have hlen := lenB_lay E
  obtain ⟨n, hn'⟩ : ∃ n, n = ilen (layB E) := ⟨_, rfl⟩
  obtain ⟨e, he⟩ : ∃ e, e = lenB E := ⟨_, rfl⟩
  have he0 := lenB_nn E
  obtain ⟨E2, hE2⟩ : ∃ E2, E2 = E ++ Hu.bitsN m.toNat c.toNat := ⟨_, rfl⟩
  have hl2 : lenB E2 = e + m := by rw [he, hE2]; unfold lenB; rw [List.length_append, Hu.bitsN_len]; omega
  have hnb : ilen (layB E) ≤ 1000000 := by omega
  have hbit1 : ∀ i, 0 ≤ i → i < e → bitI (layB E) i = eI E2 i := fun i h0 h1 => by rw [hE2]; exact eI_left h0 (by omega)
  have hbit2 : ∀ i, e ≤ i → i < e + m → c / 2 ^ (e + m - 1 - i).toNat % 2 = eI E2 i := fun i h0 h1 => by rw [hE2, he]; exact eI_right (by omega) (by omega) hc0
  rw [← hE2]
  rw [← hn'] at hlen ⊢
  rw [← he] at hlen hE he0 ⊢
  obtain ⟨p, hp⟩ : ∃ p : Int, 2 ^ m.toNat = p := ⟨_, rfl⟩
  rw [hp] at hc
  have hp0 : 0 < p := by rw [← hp]; exact pow_pos' _
  have hp1 : p ≤ 1073741824 := by have := pow_le (m := m.toNat) (n := 30) (by omega); rw [hp] at this; omega
  obtain ⟨e2, he2⟩ : ∃ e2, e2 = e + m := ⟨_, rfl⟩
  rw [← he2] at hl2 ⊢
  obtain ⟨N, hN⟩ : ∃ N, N = ((e2 + 7) / 8).toNat := ⟨_, rfl⟩
  have hlay : layB E2 = layN N E2 := by unfold layB; congr 1; unfold lenB at hl2; omega
  rw [hlay]
  generalize hP : cellsB (layN N E2) = P
  generalize hF : cellsB (layB E) = F at hpl ⊢
  generalize hS : S0 Try.prog = S
  refine call_in' hS I.fn_causeyref01_Lay ?_
  cbv
  repeat' (first
      | (refine s_eqs hS rfl ?_; try cbv)
      | (refine s_eqt hS rfl ?_ ?_; (focus (cbv; (repeat' (first | exact trivial | rfl | refine And.intro ?_ ?_ | assumption | omega | (simp only [← hS, Int.ofNat_eq_natCast, cq, decide_eq_true_eq, decide_eq_false_iff_not, beq_iff_eq, beq_eq_false_iff_ne, ne_eq]; done) | (simp only [← hS, Int.ofNat_eq_natCast, cq, decide_eq_true_eq, decide_eq_false_iff_not, beq_iff_eq, beq_eq_false_iff_ne, ne_eq]; first | assumption | omega))); done)); try cbv)
      | (refine s_eqo hS ?_; try cbv)
      | (refine s_lk hS ?_; try cbv)
      | (refine s_mu hS ?_; try cbv)
      | (refine s_chk hS (by simp only [← hS, Int.ofNat_eq_natCast, cq, decide_eq_true_eq, decide_eq_false_iff_not, beq_iff_eq, beq_eq_false_iff_ne, ne_eq]; omega) ?_; try cbv)
      | (refine s_br hS ?_ ?_ <;> intro h <;> (try cbv) <;> (try simp only [← hS, Int.ofNat_eq_natCast, cq, decide_eq_true_eq, decide_eq_false_iff_not, beq_iff_eq, beq_eq_false_iff_ne, ne_eq] at h) <;> first | (exfalso; omega) | (exact absurd trivial h) | (exact (no_tf h).elim) | (exact (no_ft h).elim) | (exact (no_both h (by with_reducible assumption)).elim) | (exact (no_both (by with_reducible assumption) h).elim) | skip)
      | (refine s_add hS ?_ (by simp only [lo]; omega) (by simp only [hi]; omega); intro _ _; try cbv)
      | (refine s_sub hS ?_ (by simp only [lo]; omega) (by simp only [hi]; omega); intro _ _; try cbv)
      | (refine s_cvi hS ?_ (by simp only [lo]; omega) (by simp only [hi]; omega); try cbv)
      | (refine s_mul hS ?_ (by simp only [lo]; omega) (by simp only [hi]; omega); intro _ _; try cbv)
      | (refine s_shll hS (c := p) (by rw [← hp]; congr 1; simp only [IntKind.bits]; omega) ?_ (by simp only [lo]; omega) (by simp only [hi]; omega); intro _ _; cbv)
      | (refine s_quo hS (by omega) (by omega) (by simp only [hi]; omega) ?_; intro _ _; cbv))
  rename_i f2 hf2 f3 hf3 f4 hf4
  have hf4N : f4.toNat = N := by rw [hN]; congr 1; omega
  refine s_mk hS rfl (by omega) (by omega) (zero_plain _) ?_
  rw [hf4N]
  obtain ⟨G0, hG0⟩ : ∃ G0, G0 = cellsB (layN N (E2.take (0 : Int).toNat)) := ⟨_, rfl⟩
  have hs0 : FSub (repS N [.i .u8 (.l 0)]) G0 := by
    rw [hG0, show E2.take (0 : Int).toNat = [] by simp, layN_zero]; exact (zero_sub N).fsub
  have hp0 : plains G0 = true := by rw [hG0]; exact cellsB_plain _
  generalize repS N [SV.i .u8 (.l 0)] = Z0 at hs0
  cbv
  refine s_loop_up hS 2 I.dead_causeyref01_Lay_0 (fun x : Int × List Int × List SV => 0 ≤ x.1 ∧ x.1 ≤ e2 ∧ x.2.1 = layN N (E2.take x.1.toNat) ∧ x.2.2 = cellsB x.2.1)
    (fun x => [(13, .i .i64 (.y x.1))]) (fun x => [(1, .r false false (.l 0) 1 x.2.2)])
    (fun x => (e2 - x.1).toNat) (0, layN N (E2.take (0 : Int).toNat), G0) rfl ⟨⟨Int.le_refl _, by dsimp only; omega, rfl, hG0⟩, rfl, ?_, ?_, ?_⟩ ?_
  · cbv; (repeat' (first | exact sub_any | exact Sub.rfl | exact SubL.nil | refine SubL.cons ?_ ?_ | exact sub_i rfl | refine sub_tp ?_ | refine sub_ag ?_ | exact sub_tt rfl | exact sub_ff rfl | exact sub_b_tt rfl | exact sub_b_ff rfl | (refine sub_i ?_; simp only [Z.v]; omega) | (refine sub_b ?_; assumption) | (refine sub_b ?_; simp only [← hS, Int.ofNat_eq_natCast, cq, decide_eq_true_eq, decide_eq_false_iff_not, beq_iff_eq, beq_eq_false_iff_ne, ne_eq]; done) | (refine sub_tt ?_; assumption) | (refine sub_ff ?_; assumption)))
  · cbv; exact ⟨.rfl, .r hs0 rfl hp0, trivial⟩
  · cbv; exact gc_c (gc_m (plains_refs hpl)) rfl
  · intro x
    obtain ⟨j, L, G⟩ := x
    intro hx
    dsimp only at hx
    cbv
    obtain ⟨g0, g1, g2, g3⟩ := hx
    refine s_br hS ?_ ?_ <;> intro h <;> cbv <;> simp only [← hS, Int.ofNat_eq_natCast, cq, decide_eq_true_eq, decide_eq_false_iff_not, beq_iff_eq, beq_eq_false_iff_ne, ne_eq] at h
    · obtain ⟨q, hq⟩ : ∃ q, q = j / 8 := ⟨_, rfl⟩
      obtain ⟨sh, hsh⟩ : ∃ sh, sh = 7 - j % 8 := ⟨_, rfl⟩
      obtain ⟨pw, hpw⟩ : ∃ pw : Int, 2 ^ sh.toNat = pw := ⟨_, rfl⟩
      obtain ⟨u, hu⟩ : ∃ u, eI E2 j = u := ⟨_, rfl⟩
      have hub := eI_bd E2 j
      rw [hu] at hub
      obtain ⟨v, k1, k2, k3, k4, k5, k6⟩ := lay_step (N := N) g0 (by omega) (by omega) g2 hq hsh hpw hu
      have b1 : j < e → bitI (layB E) j = u := fun hj => by rw [hbit1 j g0 hj, hu]
      have b2 : e ≤ j → c / 2 ^ (e + m - 1 - j).toNat % 2 = u := fun hj => by rw [hbit2 j hj (by omega), hu]
      have hgl : q < N := by omega
      have hGl : G.length = N := by rw [g3, cellsB_map, List.length_map, g2]; unfold layN; rw [Hu.packs_len]
      clear hbit1 hbit2 g2
      repeat' (first
          | (refine s_eqs hS rfl ?_; try cbv)
          | (refine s_eqt hS rfl ?_ ?_; (focus (cbv; (repeat' (first | exact trivial | rfl | refine And.intro ?_ ?_ | assumption | omega | (simp only [← hS, Int.ofNat_eq_natCast, cq, decide_eq_true_eq, decide_eq_false_iff_not, beq_iff_eq, beq_eq_false_iff_ne, ne_eq]; done) | (simp only [← hS, Int.ofNat_eq_natCast, cq, decide_eq_true_eq, decide_eq_false_iff_not, beq_iff_eq, beq_eq_false_iff_ne, ne_eq]; first | assumption | omega))); done)); try cbv)
          | (refine s_eqo hS ?_; try cbv)
          | (refine s_lk hS ?_; try cbv)
          | (refine s_mu hS ?_; try cbv)
          | (refine s_chk hS (by simp only [← hS, Int.ofNat_eq_natCast, cq, decide_eq_true_eq, decide_eq_false_iff_not, beq_iff_eq, beq_eq_false_iff_ne, ne_eq]; omega) ?_; try cbv)
          | (refine s_br hS ?_ ?_ <;> intro h <;> (try cbv) <;> (try simp only [← hS, Int.ofNat_eq_natCast, cq, decide_eq_true_eq, decide_eq_false_iff_not, beq_iff_eq, beq_eq_false_iff_ne, ne_eq] at h) <;> first | (exfalso; omega) | (exact absurd trivial h) | (exact (no_tf h).elim) | (exact (no_ft h).elim) | (exact (no_both h (by with_reducible assumption)).elim) | (exact (no_both (by with_reducible assumption) h).elim) | skip)
          | (refine s_add hS ?_ (by simp only [lo]; omega) (by simp only [hi]; omega); intro _ _; try cbv)
          | (refine s_sub hS ?_ (by simp only [lo]; omega) (by simp only [hi]; omega); intro _ _; try cbv)
          | (refine s_cvi hS ?_ (by simp only [lo]; omega) (by simp only [hi]; omega); try cbv))
      · refine Bit_u hS hbe hnb hn' hF rfl j rfl g0 (by omega) fun r hr => ?_
        obtain rfl : r = u := hr.symm.trans (b1 (by assumption))
        cbv
        repeat' (first
            | (refine s_eqs hS rfl ?_; try cbv)
            | (refine s_eqt hS rfl ?_ ?_; (focus (cbv; (repeat' (first | exact trivial | rfl | refine And.intro ?_ ?_ | assumption | omega | (simp only [← hS, Int.ofNat_eq_natCast, cq, decide_eq_true_eq, decide_eq_false_iff_not, beq_iff_eq, beq_eq_false_iff_ne, ne_eq]; done) | (simp only [← hS, Int.ofNat_eq_natCast, cq, decide_eq_true_eq, decide_eq_false_iff_not, beq_iff_eq, beq_eq_false_iff_ne, ne_eq]; first | assumption | omega))); done)); try cbv)
            | (refine s_eqo hS ?_; try cbv)
            | (refine s_lk hS ?_; try cbv)
            | (refine s_mu hS ?_; try cbv)
            | (refine s_chk hS (by simp only [← hS, Int.ofNat_eq_natCast, cq, decide_eq_true_eq, decide_eq_false_iff_not, beq_iff_eq, beq_eq_false_iff_ne, ne_eq]; omega) ?_; try cbv)
            | (refine s_br hS ?_ ?_ <;> intro h <;> (try cbv) <;> (try simp only [← hS, Int.ofNat_eq_natCast, cq, decide_eq_true_eq, decide_eq_false_iff_not, beq_iff_eq, beq_eq_false_iff_ne, ne_eq] at h) <;> first | (exfalso; omega) | (exact absurd trivial h) | (exact (no_tf h).elim) | (exact (no_ft h).elim) | (exact (no_both h (by with_reducible assumption)).elim) | (exact (no_both (by with_reducible assumption) h).elim) | skip)
            | (refine s_add hS ?_ (by simp only [lo]; omega) (by simp only [hi]; omega); intro _ _; try cbv)
            | (refine s_sub hS ?_ (by simp only [lo]; omega) (by simp only [hi]; omega); intro _ _; try cbv)
            | (refine s_cvi hS ?_ (by simp only [lo]; omega) (by simp only [hi]; omega); try cbv)
            | (refine s_quo hS (by omega) (by omega) (by simp only [hi]; omega) ?_; intro _ _; cbv)
            | (refine rowB hS g3.symm k1 (by omega) (by omega) ?_; try cbv)
            | (refine s_rem hS (by omega) ?_; intro _ _; cbv)
            | (refine s_shll hS (c := pw) (by rw [← hpw]; congr 1; simp only [IntKind.bits]; omega) ?_ (by simp only [lo]; omega) (by simp only [hi]; omega); intro _ _; cbv)
            | (refine s_wr' hS (by omega) (by omega) (Nat.le_refl 1) rfl fun F' hF' => ?_; cbv))
        rename_i x hx j2 hj2
        obtain ⟨L2, hL2⟩ : ∃ L2, L2 = L.set q.toNat x := ⟨_, rfl⟩
        obtain ⟨G2, hG2⟩ : ∃ G2, G2 = cellsB L2 := ⟨_, rfl⟩
        have hFG : F' = G2 := by
          rw [← hF', hG2, hL2, ← cellsB_set, g3]
          congr 2
          omega
        refine ⟨(j2, L2, G2), by dsimp only; omega, ⟨by dsimp only; omega, by dsimp only; omega, ?_, hG2⟩, rfl, ?_, ?_, ?_⟩
        · dsimp only; rw [hL2, hj2]; exact (k6 x (by omega)).symm
        · cbv; (repeat' (first | exact sub_any | exact Sub.rfl | exact SubL.nil | refine SubL.cons ?_ ?_ | exact sub_i rfl | refine sub_tp ?_ | refine sub_ag ?_ | exact sub_tt rfl | exact sub_ff rfl | exact sub_b_tt rfl | exact sub_b_ff rfl | (refine sub_i ?_; simp only [Z.v]; omega) | (refine sub_b ?_; assumption) | (refine sub_b ?_; simp only [← hS, Int.ofNat_eq_natCast, cq, decide_eq_true_eq, decide_eq_false_iff_not, beq_iff_eq, beq_eq_false_iff_ne, ne_eq]; done) | (refine sub_tt ?_; assumption) | (refine sub_ff ?_; assumption)))
        · cbv; refine ⟨.rfl, ?_, trivial⟩; rw [hFG]; exact .rfl
        · cbv; exact gc_c (gc_m (plains_refs hpl)) rfl
      · refine s_shr hS (by simp only [IntKind.bits]; omega) fun r hr => ?_
        have hr0 : 0 ≤ r := by rw [hr]; exact Int.ediv_nonneg (by omega) (Int.le_of_lt (pow_pos' _))
        cbv
        refine s_rem hS hr0 fun r2 hr2 => ?_
        obtain rfl : r2 = u := by
          rw [← b2 (by omega), hr2, hr]
          congr 3
          omega
        cbv
        repeat' (first
            | (refine s_eqs hS rfl ?_; try cbv)
            | (refine s_eqt hS rfl ?_ ?_; (focus (cbv; (repeat' (first | exact trivial | rfl | refine And.intro ?_ ?_ | assumption | omega | (simp only [← hS, Int.ofNat_eq_natCast, cq, decide_eq_true_eq, decide_eq_false_iff_not, beq_iff_eq, beq_eq_false_iff_ne, ne_eq]; done) | (simp only [← hS, Int.ofNat_eq_natCast, cq, decide_eq_true_eq, decide_eq_false_iff_not, beq_iff_eq, beq_eq_false_iff_ne, ne_eq]; first | assumption | omega))); done)); try cbv)
            | (refine s_eqo hS ?_; try cbv)
            | (refine s_lk hS ?_; try cbv)
            | (refine s_mu hS ?_; try cbv)
            | (refine s_chk hS (by simp only [← hS, Int.ofNat_eq_natCast, cq, decide_eq_true_eq, decide_eq_false_iff_not, beq_iff_eq, beq_eq_false_iff_ne, ne_eq]; omega) ?_; try cbv)
            | (refine s_br hS ?_ ?_ <;> intro h <;> (try cbv) <;> (try simp only [← hS, Int.ofNat_eq_natCast, cq, decide_eq_true_eq, decide_eq_false_iff_not, beq_iff_eq, beq_eq_false_iff_ne, ne_eq] at h) <;> first | (exfalso; omega) | (exact absurd trivial h) | (exact (no_tf h).elim) | (exact (no_ft h).elim) | (exact (no_both h (by with_reducible assumption)).elim) | (exact (no_both (by with_reducible assumption) h).elim) | skip)
            | (refine s_add hS ?_ (by simp only [lo]; omega) (by simp only [hi]; omega); intro _ _; try cbv)
            | (refine s_sub hS ?_ (by simp only [lo]; omega) (by simp only [hi]; omega); intro _ _; try cbv)
            | (refine s_cvi hS ?_ (by simp only [lo]; omega) (by simp only [hi]; omega); try cbv)
            | (refine s_quo hS (by omega) (by omega) (by simp only [hi]; omega) ?_; intro _ _; cbv)
            | (refine rowB hS g3.symm k1 (by omega) (by omega) ?_; try cbv)
            | (refine s_rem hS (by omega) ?_; intro _ _; cbv)
            | (refine s_shll hS (c := pw) (by rw [← hpw]; congr 1; simp only [IntKind.bits]; omega) ?_ (by simp only [lo]; omega) (by simp only [hi]; omega); intro _ _; cbv)
            | (refine s_wr' hS (by omega) (by omega) (Nat.le_refl 1) rfl fun F' hF' => ?_; cbv))
        rename_i x hx j2 hj2
        obtain ⟨L2, hL2⟩ : ∃ L2, L2 = L.set q.toNat x := ⟨_, rfl⟩
        obtain ⟨G2, hG2⟩ : ∃ G2, G2 = cellsB L2 := ⟨_, rfl⟩
        have hFG : F' = G2 := by
          rw [← hF', hG2, hL2, ← cellsB_set, g3]
          congr 2
          omega
        refine ⟨(j2, L2, G2), by dsimp only; omega, ⟨by dsimp only; omega, by dsimp only; omega, ?_, hG2⟩, rfl, ?_, ?_, ?_⟩
        · dsimp only; rw [hL2, hj2]; exact (k6 x (by omega)).symm
        · cbv; (repeat' (first | exact sub_any | exact Sub.rfl | exact SubL.nil | refine SubL.cons ?_ ?_ | exact sub_i rfl | refine sub_tp ?_ | refine sub_ag ?_ | exact sub_tt rfl | exact sub_ff rfl | exact sub_b_tt rfl | exact sub_b_ff rfl | (refine sub_i ?_; simp only [Z.v]; omega) | (refine sub_b ?_; assumption) | (refine sub_b ?_; simp only [← hS, Int.ofNat_eq_natCast, cq, decide_eq_true_eq, decide_eq_false_iff_not, beq_iff_eq, beq_eq_false_iff_ne, ne_eq]; done) | (refine sub_tt ?_; assumption) | (refine sub_ff ?_; assumption)))
        · cbv; refine ⟨.rfl, ?_, trivial⟩; rw [hFG]; exact .rfl
        · cbv; exact gc_c (gc_m (plains_refs hpl)) rfl
    · have hPG : P = G := by
        rw [g3, ← hP, g2, List.take_of_length_le]
        unfold lenB at hl2
        omega
      refine ⟨.sl 1 1 (.l 0) (.y f4) none, sub_tp (.cons .rfl (.cons (sub_i (by simp only [Z.v]; omega)) (.cons (sub_i rfl) .nil))), ?_⟩
      rw [hPG]
      exact rowIs_same g3.symm (Nat.le_refl 1) (by rw [g2, layN_len]; simp only [Z.v]; omega) rfl
end Cz
