/- Huff, part W: a text's bits are its bytes' codes, one behind the other. -/
import Derived.Test.YtjnpmipoenijdaaCzHt
namespace Cz
open Go Go.RowKit Go.Proofs
set_option linter.unusedSimpArgs false
set_option linter.unusedVariables false
set_option maxRecDepth 100000
set_option maxHeartbeats 4000000
theorem nbits_ilen (b : List Int) : bitsI b (ilen b) = Hu.nbits b := by unfold bitsI; rw [take_all (by omega)]
theorem put_ilen (b : List Int) : ilen (Hu.put b) = (bitsI b (ilen b) + 7) / 8 := by
  rw [nbits_ilen]
  have := Hu.put_len b
  unfold ilen; omega
/-- The bits of a byte's code, where they stand. -/
theorem put_bits {b : List Int} {j v : Int} (hv : b[j.toNat]? = some v) (h0 : 0 ≤ j) (hb : 0 ≤ v ∧ v < 256) : numI (Hu.put b) (bitsI b j) (clsI v) = codeI v ∧ bitsI b j + clsI v ≤ 8 * ilen (Hu.put b) := by
  have e1 : Hu.enc b = encT b j ++ (Hu.cod v.toNat ++ Hu.enc (b.drop (j.toNat + 1))) := by
    have : b = b.take j.toNat ++ (v :: b.drop (j.toNat + 1)) := by
      conv => lhs; rw [← List.take_append_drop j.toNat b]
      congr 1
      have hlt : j.toNat < b.length := (List.getElem?_eq_some_iff.1 hv).1
      rw [List.drop_eq_getElem_cons hlt]
      rw [List.getElem?_eq_getElem hlt] at hv
      cases hv; rfl
    conv => lhs; rw [this]
    unfold encT Hu.enc
    rw [List.flatMap_append, List.flatMap_cons]
  have hl : ((encT b j).length : Int) = bitsI b j := rfl
  have hlc : (Hu.cod v.toNat).length = (clsI v).toNat := by unfold Hu.cod clsI; rw [Hu.bitsN_len]; simp
  constructor
  · unfold numI
    rw [Hu.bl_put]
    unfold Hu.padded
    rw [e1, List.append_assoc, show (bitsI b j).toNat = (encT b j).length by omega, List.drop_left, List.append_assoc, ← hlc, List.take_left]
    unfold Hu.cod codeI
    rw [Hu.valB_bitsN _ _ (Hu.code_lt (by omega))]
  · have h1 := bitsI_next hv h0
    have h2 : bitsI b (j + 1) ≤ bitsI b (ilen b) := by
      rw [nbits_ilen]
      unfold Hu.nbits
      rw [e1]
      have h3 := encT_len b (j + 1)
      rw [encT_next hv h0] at h3
      simp only [List.length_append] at h3 ⊢
      omega
    have := put_ilen b
    omega
theorem row_law (b : List Int) (hb : ∀ v ∈ b, 0 ≤ v ∧ v < 256) : (S0 Try.prog).call 6 [.sl 0 1 (.l 0) (.y (ilen b)) none] [.r true false (.l 0) 1 (cellsB b)] (fun x _ => Sub x .tt) := by
  obtain ⟨n, hn'⟩ : ∃ n, n = ilen b := ⟨_, rfl⟩
  have h0n := ilen_nn b
  rw [← hn'] at h0n ⊢
  have hpl := cellsB_plain b
  generalize hF : cellsB b = F at hpl ⊢
  have hfs' : FSub F (cellsB b) := by rw [hF]; exact .rfl
  have hpn := put_ilen b
  rw [← hn'] at hpn
  have hbn := bitsI_bd (b := b) (j := n) h0n
  generalize hS : S0 Try.prog = S
  refine call_in' hS I.fn_causeylaw07_HuffRow ?_
  cbv
  refine s_br hS ?_ ?_ <;> intro h <;> cbv <;> simp only [← hS, Int.ofNat_eq_natCast, cq, Bool.not_eq_true', Bool.not_eq_false', decide_eq_true_eq, decide_eq_false_iff_not, beq_iff_eq, beq_eq_false_iff_ne, ne_eq] at h
  · refine wakes_u hS ?_
    cbv
    exact .rfl
  · refine put_u hS (b := b) hb (by omega) rfl hfs' hn' fun P N st hP hN => ?_
    obtain ⟨pb, hpb⟩ : ∃ pb, Hu.put b = pb := ⟨_, rfl⟩
    have hpok : Hu.BOk pb := hpb ▸ Hu.put_ok b
    have hbits : ∀ {j v : Int}, b[j.toNat]? = some v → 0 ≤ j → (0 ≤ v ∧ v < 256) → numI pb (bitsI b j) (clsI v) = codeI v ∧ bitsI b j + clsI v ≤ 8 * ilen pb := fun hv h0 hb => hpb ▸ put_bits hv h0 hb
    rw [hpb] at hP hN hpn
    have hPN : ilen pb ≤ 1000000 := by omega
    cbv
    refine s_loop_up hS 2 I.dead_causeylaw07_HuffRow_0 (fun x : Int × Int => 0 ≤ x.1 ∧ x.1 ≤ n ∧ x.2 = bitsI b x.1)
      (fun x => [(5, .i .i64 (.y x.1)), (4, .i .i64 (.y x.2))]) (fun x => [])
      (fun x => (n - x.1).toNat) (0, 0) rfl ⟨⟨Int.le_refl _, by dsimp only; omega, rfl⟩, rfl, ?_, ?_, ?_⟩ ?_
    · cbv; (repeat' (first | exact sub_any | exact Sub.rfl | exact SubL.nil | refine SubL.cons ?_ ?_ | exact sub_i rfl | refine sub_tp ?_ | refine sub_ag ?_ | exact sub_tt rfl | exact sub_ff rfl | exact sub_b_tt rfl | exact sub_b_ff rfl | (refine sub_i ?_; simp only [Z.v]; omega) | (refine sub_b ?_; assumption) | (refine sub_b ?_; simp only [← hS, Int.ofNat_eq_natCast, cq, Bool.not_eq_true', Bool.not_eq_false', decide_eq_true_eq, decide_eq_false_iff_not, beq_iff_eq, beq_eq_false_iff_ne, ne_eq]; done) | (refine sub_tt ?_; assumption) | (refine sub_ff ?_; assumption)))
    · cbv; (repeat' (first | exact trivial | exact SubB.rfl | refine And.intro ?_ ?_ | (exact SubB.c (by with_reducible assumption)) | (refine SubB.c ?_; (repeat' (first | exact sub_any | exact Sub.rfl | exact SubL.nil | refine SubL.cons ?_ ?_ | exact sub_i rfl | refine sub_tp ?_ | refine sub_ag ?_ | exact sub_tt rfl | exact sub_ff rfl | exact sub_b_tt rfl | exact sub_b_ff rfl | (refine sub_i ?_; simp only [Z.v]; omega) | (refine sub_b ?_; assumption) | (refine sub_b ?_; simp only [← hS, Int.ofNat_eq_natCast, cq, Bool.not_eq_true', Bool.not_eq_false', decide_eq_true_eq, decide_eq_false_iff_not, beq_iff_eq, beq_eq_false_iff_ne, ne_eq]; done) | (refine sub_tt ?_; assumption) | (refine sub_ff ?_; assumption))); done) | (refine SubB.m ?_; (repeat' (first | exact SubM.nil | refine SubM.cons ?_ ?_ ?_ | (focus ((repeat' (first | exact sub_any | exact Sub.rfl | exact SubL.nil | refine SubL.cons ?_ ?_ | exact sub_i rfl | refine sub_tp ?_ | refine sub_ag ?_ | exact sub_tt rfl | exact sub_ff rfl | exact sub_b_tt rfl | exact sub_b_ff rfl | (refine sub_i ?_; simp only [Z.v]; omega) | (refine sub_b ?_; assumption) | (refine sub_b ?_; simp only [← hS, Int.ofNat_eq_natCast, cq, Bool.not_eq_true', Bool.not_eq_false', decide_eq_true_eq, decide_eq_false_iff_not, beq_iff_eq, beq_eq_false_iff_ne, ne_eq]; done) | (refine sub_tt ?_; assumption) | (refine sub_ff ?_; assumption))); done)))); done)))
    · cbv
    · intro x
      obtain ⟨j, w⟩ := x
      intro hx
      dsimp only at hx
      cbv
      obtain ⟨g0, g1, g2⟩ := hx
      refine s_br hS ?_ ?_ <;> intro h <;> cbv <;> simp only [← hS, Int.ofNat_eq_natCast, cq, Bool.not_eq_true', Bool.not_eq_false', decide_eq_true_eq, decide_eq_false_iff_not, beq_iff_eq, beq_eq_false_iff_ne, ne_eq] at h
      · obtain ⟨v, hv⟩ := at_ex (l := b) (i := j) (by omega) (by omega)
        have hb0 := hb v (List.mem_of_getElem? hv)
        obtain ⟨m, hm⟩ : ∃ m, clsI v = m := ⟨_, rfl⟩
        obtain ⟨c, hc⟩ : ∃ c, codeI v = c := ⟨_, rfl⟩
        have hmb := clsI_bd v
        have hpbt := hbits hv g0 hb0
        have hbd := bitsI_bd (b := b) g0
        have hnx := bitsI_next hv g0
        rw [hm] at hmb hpbt hnx
        rw [hc, ← g2] at hpbt
        rw [← g2] at hbd hnx
        repeat' (first
            | (refine s_eqs hS rfl ?_; try cbv)
            | (refine s_eqt hS rfl ?_ ?_; (focus (cbv; (repeat' (first | exact trivial | rfl | refine And.intro ?_ ?_ | assumption | omega | (simp only [← hS, Int.ofNat_eq_natCast, cq, Bool.not_eq_true', Bool.not_eq_false', decide_eq_true_eq, decide_eq_false_iff_not, beq_iff_eq, beq_eq_false_iff_ne, ne_eq]; done) | (simp only [← hS, Int.ofNat_eq_natCast, cq, Bool.not_eq_true', Bool.not_eq_false', decide_eq_true_eq, decide_eq_false_iff_not, beq_iff_eq, beq_eq_false_iff_ne, ne_eq]; first | assumption | omega))); done)); try cbv)
            | (refine s_eqo hS ?_; try cbv)
            | (refine s_lk hS ?_; try cbv)
            | (refine s_mu hS ?_; try cbv)
            | (refine s_chk hS (by simp only [← hS, Int.ofNat_eq_natCast, cq, Bool.not_eq_true', Bool.not_eq_false', decide_eq_true_eq, decide_eq_false_iff_not, beq_iff_eq, beq_eq_false_iff_ne, ne_eq]; omega) ?_; try cbv)
            | (refine s_br hS ?_ ?_ <;> intro h <;> (try cbv) <;> (try simp only [← hS, Int.ofNat_eq_natCast, cq, Bool.not_eq_true', Bool.not_eq_false', decide_eq_true_eq, decide_eq_false_iff_not, beq_iff_eq, beq_eq_false_iff_ne, ne_eq] at h) <;> first | (exfalso; omega) | (exact absurd trivial h) | (exact (no_tf h).elim) | (exact (no_ft h).elim) | (exact (no_both h (by with_reducible assumption)).elim) | (exact (no_both (by with_reducible assumption) h).elim) | skip)
            | (refine s_add hS ?_ (by simp only [lo]; omega) (by simp only [hi]; omega); intro _ _; try cbv)
            | (refine s_sub hS ?_ (by simp only [lo]; omega) (by simp only [hi]; omega); intro _ _; try cbv)
            | (refine s_cvi hS ?_ (by simp only [lo]; omega) (by simp only [hi]; omega); try cbv)
            | (refine rowB hS hF hv rfl (by omega) ?_; try cbv))
        refine Code_u hS hb0.1 hb0.2 fun c' m' hc' hm' => ?_
        obtain rfl : c' = c := hc'.symm.trans hc
        obtain rfl : m' = m := hm'.symm.trans hm
        cbv
        have hm1 : 1 ≤ m' := by omega
        have hm2 : m' ≤ 30 := by omega
        refine rbits_v hS (b := pb) hpok hPN hN hP rfl w m' rfl rfl hbd.1 (by omega) ⟨hm2, by omega⟩ fun r hr => ?_
        have hrc : r = c' := hr.symm.trans hpbt.1
        cbv
        repeat' (first
            | (refine s_eqs hS rfl ?_; try cbv)
            | (refine s_eqt hS rfl ?_ ?_; (focus (cbv; (repeat' (first | exact trivial | rfl | refine And.intro ?_ ?_ | assumption | omega | (simp only [← hS, Int.ofNat_eq_natCast, cq, Bool.not_eq_true', Bool.not_eq_false', decide_eq_true_eq, decide_eq_false_iff_not, beq_iff_eq, beq_eq_false_iff_ne, ne_eq]; done) | (simp only [← hS, Int.ofNat_eq_natCast, cq, Bool.not_eq_true', Bool.not_eq_false', decide_eq_true_eq, decide_eq_false_iff_not, beq_iff_eq, beq_eq_false_iff_ne, ne_eq]; first | assumption | omega))); done)); try cbv)
            | (refine s_eqo hS ?_; try cbv)
            | (refine s_lk hS ?_; try cbv)
            | (refine s_mu hS ?_; try cbv)
            | (refine s_chk hS (by simp only [← hS, Int.ofNat_eq_natCast, cq, Bool.not_eq_true', Bool.not_eq_false', decide_eq_true_eq, decide_eq_false_iff_not, beq_iff_eq, beq_eq_false_iff_ne, ne_eq]; omega) ?_; try cbv)
            | (refine s_br hS ?_ ?_ <;> intro h <;> (try cbv) <;> (try simp only [← hS, Int.ofNat_eq_natCast, cq, Bool.not_eq_true', Bool.not_eq_false', decide_eq_true_eq, decide_eq_false_iff_not, beq_iff_eq, beq_eq_false_iff_ne, ne_eq] at h) <;> first | (exfalso; omega) | (exact absurd trivial h) | (exact (no_tf h).elim) | (exact (no_ft h).elim) | (exact (no_both h (by with_reducible assumption)).elim) | (exact (no_both (by with_reducible assumption) h).elim) | skip)
            | (refine s_add hS ?_ (by simp only [lo]; omega) (by simp only [hi]; omega); intro _ _; try cbv)
            | (refine s_sub hS ?_ (by simp only [lo]; omega) (by simp only [hi]; omega); intro _ _; try cbv)
            | (refine s_cvi hS ?_ (by simp only [lo]; omega) (by simp only [hi]; omega); try cbv))
        rename_i w2 hw2 j2 hj2
        refine ⟨(j2, w2), by dsimp only; omega, ⟨by dsimp only; omega, by dsimp only; omega, by dsimp only; rw [hj2, hnx]; omega⟩, rfl, ?_, ?_, ?_⟩
        · cbv; (repeat' (first | exact sub_any | exact Sub.rfl | exact SubL.nil | refine SubL.cons ?_ ?_ | exact sub_i rfl | refine sub_tp ?_ | refine sub_ag ?_ | exact sub_tt rfl | exact sub_ff rfl | exact sub_b_tt rfl | exact sub_b_ff rfl | (refine sub_i ?_; simp only [Z.v]; omega) | (refine sub_b ?_; assumption) | (refine sub_b ?_; simp only [← hS, Int.ofNat_eq_natCast, cq, Bool.not_eq_true', Bool.not_eq_false', decide_eq_true_eq, decide_eq_false_iff_not, beq_iff_eq, beq_eq_false_iff_ne, ne_eq]; done) | (refine sub_tt ?_; assumption) | (refine sub_ff ?_; assumption)))
        · cbv; (repeat' (first | exact trivial | exact SubB.rfl | refine And.intro ?_ ?_ | (exact SubB.c (by with_reducible assumption)) | (refine SubB.c ?_; (repeat' (first | exact sub_any | exact Sub.rfl | exact SubL.nil | refine SubL.cons ?_ ?_ | exact sub_i rfl | refine sub_tp ?_ | refine sub_ag ?_ | exact sub_tt rfl | exact sub_ff rfl | exact sub_b_tt rfl | exact sub_b_ff rfl | (refine sub_i ?_; simp only [Z.v]; omega) | (refine sub_b ?_; assumption) | (refine sub_b ?_; simp only [← hS, Int.ofNat_eq_natCast, cq, Bool.not_eq_true', Bool.not_eq_false', decide_eq_true_eq, decide_eq_false_iff_not, beq_iff_eq, beq_eq_false_iff_ne, ne_eq]; done) | (refine sub_tt ?_; assumption) | (refine sub_ff ?_; assumption))); done) | (refine SubB.m ?_; (repeat' (first | exact SubM.nil | refine SubM.cons ?_ ?_ ?_ | (focus ((repeat' (first | exact sub_any | exact Sub.rfl | exact SubL.nil | refine SubL.cons ?_ ?_ | exact sub_i rfl | refine sub_tp ?_ | refine sub_ag ?_ | exact sub_tt rfl | exact sub_ff rfl | exact sub_b_tt rfl | exact sub_b_ff rfl | (refine sub_i ?_; simp only [Z.v]; omega) | (refine sub_b ?_; assumption) | (refine sub_b ?_; simp only [← hS, Int.ofNat_eq_natCast, cq, Bool.not_eq_true', Bool.not_eq_false', decide_eq_true_eq, decide_eq_false_iff_not, beq_iff_eq, beq_eq_false_iff_ne, ne_eq]; done) | (refine sub_tt ?_; assumption) | (refine sub_ff ?_; assumption))); done)))); done)))
        · cbv
      · obtain rfl : j = n := by omega
        refine bits_u hS (b := b) hb (by omega) rfl hfs' hn' fun r hr => ?_
        have hr' : r = w := by rw [← hr, ← hn', g2]
        cbv
        repeat' (first
            | (refine s_eqs hS rfl ?_; try cbv)
            | (refine s_eqt hS rfl ?_ ?_; (focus (cbv; (repeat' (first | exact trivial | rfl | refine And.intro ?_ ?_ | assumption | omega | (simp only [← hS, Int.ofNat_eq_natCast, cq, Bool.not_eq_true', Bool.not_eq_false', decide_eq_true_eq, decide_eq_false_iff_not, beq_iff_eq, beq_eq_false_iff_ne, ne_eq]; done) | (simp only [← hS, Int.ofNat_eq_natCast, cq, Bool.not_eq_true', Bool.not_eq_false', decide_eq_true_eq, decide_eq_false_iff_not, beq_iff_eq, beq_eq_false_iff_ne, ne_eq]; first | assumption | omega))); done)); try cbv)
            | (refine s_eqo hS ?_; try cbv)
            | (refine s_lk hS ?_; try cbv)
            | (refine s_mu hS ?_; try cbv)
            | (refine s_chk hS (by simp only [← hS, Int.ofNat_eq_natCast, cq, Bool.not_eq_true', Bool.not_eq_false', decide_eq_true_eq, decide_eq_false_iff_not, beq_iff_eq, beq_eq_false_iff_ne, ne_eq]; omega) ?_; try cbv)
            | (refine s_br hS ?_ ?_ <;> intro h <;> (try cbv) <;> (try simp only [← hS, Int.ofNat_eq_natCast, cq, Bool.not_eq_true', Bool.not_eq_false', decide_eq_true_eq, decide_eq_false_iff_not, beq_iff_eq, beq_eq_false_iff_ne, ne_eq] at h) <;> first | (exfalso; omega) | (exact absurd trivial h) | (exact (no_tf h).elim) | (exact (no_ft h).elim) | (exact (no_both h (by with_reducible assumption)).elim) | (exact (no_both (by with_reducible assumption) h).elim) | skip)
            | (refine s_add hS ?_ (by simp only [lo]; omega) (by simp only [hi]; omega); intro _ _; try cbv)
            | (refine s_sub hS ?_ (by simp only [lo]; omega) (by simp only [hi]; omega); intro _ _; try cbv)
            | (refine s_cvi hS ?_ (by simp only [lo]; omega) (by simp only [hi]; omega); try cbv)
            | (refine s_mul hS ?_ (by simp only [lo]; omega) (by simp only [hi]; omega); intro _ _; cbv)
            | (refine wakes_u hS ?_; cbv))
        exact .rfl
end Cz
