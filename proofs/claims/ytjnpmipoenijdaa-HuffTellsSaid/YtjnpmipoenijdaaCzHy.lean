/- Huff, part Y: the functions tell what the document tells. -/
import Derived.Test.YtjnpmipoenijdaaCzHt
namespace Cz
open Go Go.RowKit Go.Proofs
set_option linter.unusedSimpArgs false
set_option linter.unusedVariables false
set_option maxRecDepth 100000
set_option maxHeartbeats 4000000
theorem rofw_u {S : Sy} (hS : S0 Try.prog = S) {l : List Blk} {K : SV → List Blk → Prop} {a m : Z} (hK : ∀ r b, findR a.v m.v = r → findB a.v m.v = b → K (.tp [.i .u8 (.y r), .b b]) l) :
    S.call 16 [.i .i64 a, .i .i64 m] l K :=
  use_val hS (rOf_f (a := a.v) (m := m.v) rfl rfl) (.cons (sub_i rfl) (.cons (sub_i rfl) .nil)) rfl rfl (hK _ _ rfl rfl)
theorem put_ile (b : List Int) : ilen (Hu.put b) ≤ 11 * ilen b + 7 := by
  have := Hu.put_len b
  have h2 := bitsI_bd (b := b) (j := ilen b) (ilen_nn b)
  have e : bitsI b (ilen b) = Hu.nbits b := by unfold bitsI; rw [take_all (by omega)]
  unfold ilen at *
  omega
theorem takeL_ok {d : List Int} (hd : Hu.BOk d) : Hu.BOk (takeL d) := by
  unfold takeL
  cases ht : Hu.take d with
  | some o => exact (Hu.put_take hd ht).2
  | none => intro v hv; cases hv
theorem htells_law (c code many : Int) (b d : List Int) (hc : 0 ≤ c ∧ c < 256) (hb : ∀ v ∈ b, 0 ≤ v ∧ v < 256) (hd : ∀ v ∈ d, 0 ≤ v ∧ v < 256) :
    (S0 Try.prog).call 3 [.i .u8 (.y c), .i .i64 (.y code), .i .i64 (.y many), .sl 0 1 (.l 0) (.y (ilen b)) none, .sl 1 1 (.l 0) (.y (ilen d)) none]
      [.r true false (.l 0) 1 (cellsB b), .r true false (.l 0) 1 (cellsB d)] (fun x _ => Sub x .tt) := by
  obtain ⟨n, hn'⟩ : ∃ n, n = ilen b := ⟨_, rfl⟩
  obtain ⟨m, hm'⟩ : ∃ m, m = ilen d := ⟨_, rfl⟩
  have h0n := ilen_nn b
  have h0m := ilen_nn d
  rw [← hn'] at h0n ⊢
  rw [← hm'] at h0m ⊢
  have hpl := cellsB_plain b
  have hpld := cellsB_plain d
  generalize hF : cellsB b = F at hpl ⊢
  generalize hG : cellsB d = G at hpld ⊢
  have hfs : FSub F (cellsB b) := by rw [hF]; exact .rfl
  have hgs : FSub G (cellsB d) := by rw [hG]; exact .rfl
  obtain ⟨pb, hpb⟩ : ∃ pb, Hu.put b = pb := ⟨_, rfl⟩
  have hpok : Hu.BOk pb := hpb ▸ Hu.put_ok b
  obtain ⟨L, hL⟩ : ∃ L, takeL d = L := ⟨_, rfl⟩
  have hLok : Hu.BOk L := hL ▸ takeL_ok hd
  generalize hS : S0 Try.prog = S
  refine call_in' hS I.fn_causeylaw07_HuffTells ?_
  cbv
  refine s_br hS ?_ ?_ <;> intro h <;> cbv <;> simp only [← hS, Int.ofNat_eq_natCast, cq, Bool.not_eq_true', Bool.not_eq_false', decide_eq_true_eq, decide_eq_false_iff_not, beq_iff_eq, beq_eq_false_iff_ne, ne_eq] at h
  · refine wakes_u hS ?_
    cbv
    exact .rfl
  · refine s_br hS ?_ ?_ <;> intro h <;> cbv <;> simp only [← hS, Int.ofNat_eq_natCast, cq, Bool.not_eq_true', Bool.not_eq_false', decide_eq_true_eq, decide_eq_false_iff_not, beq_iff_eq, beq_eq_false_iff_ne, ne_eq] at h
    · refine wakes_u hS ?_
      cbv
      exact .rfl
    · have hn2 : ilen b ≤ 5000 := by omega
      have hn3 : ilen b ≤ 1000000 := by omega
      have hm3 : ilen d ≤ 1000000 := by omega
      refine Code_u hS hc.1 hc.2 fun a1 m1 ha1 hm1 => ?_
      cbv
      refine rCode_u hS hc.1 hc.2 fun a2 m2 ha2 hm2 => ?_
      have ea : a2 = a1 := ha2.symm.trans ha1
      have em : m2 = m1 := hm2.symm.trans hm1
      cbv
      refine Of_u hS fun r1 b1 hr1 hb1 => ?_
      cbv
      refine rofw_u hS fun r2 b2 hr2 hb2 => ?_
      have er : r2 = r1 := hr2.symm.trans hr1
      obtain rfl : b2 = b1 := hb2.symm.trans hb1
      cbv
      refine take_u hS (b := d) hd hm3 rfl hgs hm' fun L1 F1 n1 st1 e1 hL1 hF1 hn1 he1 => ?_
      cbv
      refine rtake_u hS (b := d) hd hm3 rfl hgs hm' fun L2 F2 n2 st2 e2 hL2 hF2 hn2' he2 => ?_
      have ee : e2 = e1 := he2.symm.trans he1
      have eL1 : L = L1 := hL.symm.trans hL1
      have eL2 : L1 = L2 := hL1.symm.trans hL2
      have hL1ok : Hu.BOk L1 := eL1 ▸ hLok
      cbv
      repeat' (first
          | (refine s_eqs hS rfl ?_; try cbv)
          | (refine s_eqt hS rfl ?_ ?_; (focus (cbv; (repeat' (first | exact trivial | rfl | refine And.intro ?_ ?_ | assumption | omega | (simp only [← hS, Int.ofNat_eq_natCast, cq, Bool.not_eq_true', Bool.not_eq_false', decide_eq_true_eq, decide_eq_false_iff_not, beq_iff_eq, beq_eq_false_iff_ne, ne_eq]; done) | (simp only [← hS, Int.ofNat_eq_natCast, cq, Bool.not_eq_true', Bool.not_eq_false', decide_eq_true_eq, decide_eq_false_iff_not, beq_iff_eq, beq_eq_false_iff_ne, ne_eq]; first | assumption | omega))); done)); try cbv)
          | (refine s_eqo hS ?_; try cbv)
          | (refine s_lk hS ?_; try cbv)
          | (refine s_mu hS ?_; try cbv)
          | (refine s_chk hS (by simp only [← hS, Int.ofNat_eq_natCast, cq, Bool.not_eq_true', Bool.not_eq_false', decide_eq_true_eq, decide_eq_false_iff_not, beq_iff_eq, beq_eq_false_iff_ne, ne_eq]; omega) ?_; try cbv)
          | (refine s_br hS ?_ ?_ <;> intro h <;> (try cbv) <;> (try simp only [← hS, Int.ofNat_eq_natCast, cq, Bool.not_eq_true', Bool.not_eq_false', decide_eq_true_eq, decide_eq_false_iff_not, beq_iff_eq, beq_eq_false_iff_ne, ne_eq] at h) <;> first | (exfalso; omega) | (exact absurd trivial h) | (exact (no_tf h).elim) | (exact (no_ft h).elim) | (exact (no_both h (by with_reducible assumption)).elim) | (exact (no_both (by with_reducible assumption) h).elim) | skip)
          | (refine s_add hS ?_ (by simp only [lo]; omega) (by simp only [hi]; omega); intro _ _; try cbv)
          | (refine s_sub hS ?_ (by simp only [lo]; omega) (by simp only [hi]; omega); intro _ _; try cbv)
          | (refine s_cvi hS ?_ (by simp only [lo]; omega) (by simp only [hi]; omega); try cbv))
      refine bits_u hS (b := b) hb hn3 rfl hfs hn' fun q1 hq1 => ?_
      cbv
      refine rbitsn_u hS (b := b) hb hn3 rfl hfs hn' fun q2 hq2 => ?_
      have eq2 : q2 = q1 := hq2.symm.trans hq1
      cbv
      repeat' (first
          | (refine s_eqs hS rfl ?_; try cbv)
          | (refine s_eqt hS rfl ?_ ?_; (focus (cbv; (repeat' (first | exact trivial | rfl | refine And.intro ?_ ?_ | assumption | omega | (simp only [← hS, Int.ofNat_eq_natCast, cq, Bool.not_eq_true', Bool.not_eq_false', decide_eq_true_eq, decide_eq_false_iff_not, beq_iff_eq, beq_eq_false_iff_ne, ne_eq]; done) | (simp only [← hS, Int.ofNat_eq_natCast, cq, Bool.not_eq_true', Bool.not_eq_false', decide_eq_true_eq, decide_eq_false_iff_not, beq_iff_eq, beq_eq_false_iff_ne, ne_eq]; first | assumption | omega))); done)); try cbv)
          | (refine s_eqo hS ?_; try cbv)
          | (refine s_lk hS ?_; try cbv)
          | (refine s_mu hS ?_; try cbv)
          | (refine s_chk hS (by simp only [← hS, Int.ofNat_eq_natCast, cq, Bool.not_eq_true', Bool.not_eq_false', decide_eq_true_eq, decide_eq_false_iff_not, beq_iff_eq, beq_eq_false_iff_ne, ne_eq]; omega) ?_; try cbv)
          | (refine s_br hS ?_ ?_ <;> intro h <;> (try cbv) <;> (try simp only [← hS, Int.ofNat_eq_natCast, cq, Bool.not_eq_true', Bool.not_eq_false', decide_eq_true_eq, decide_eq_false_iff_not, beq_iff_eq, beq_eq_false_iff_ne, ne_eq] at h) <;> first | (exfalso; omega) | (exact absurd trivial h) | (exact (no_tf h).elim) | (exact (no_ft h).elim) | (exact (no_both h (by with_reducible assumption)).elim) | (exact (no_both (by with_reducible assumption) h).elim) | skip)
          | (refine s_add hS ?_ (by simp only [lo]; omega) (by simp only [hi]; omega); intro _ _; try cbv)
          | (refine s_sub hS ?_ (by simp only [lo]; omega) (by simp only [hi]; omega); intro _ _; try cbv)
          | (refine s_cvi hS ?_ (by simp only [lo]; omega) (by simp only [hi]; omega); try cbv))
      refine put_u hS (b := b) hb hn3 rfl hfs hn' fun P1 N1 s1 hP1 hN1 => ?_
      rw [hpb] at hP1 hN1
      cbv
      refine rput_u hS (b := b) hb hn2 rfl hfs hn' fun P2 N2 s2 hP2 hN2 => ?_
      rw [hpb] at hP2 hN2
      cbv
      refine same_u hS (a := pb) (b := pb) hpok rfl rfl (by rw [hP1]; exact .rfl) hN1 rfl (by rw [hP2]; exact .rfl) hN2 ?_
      cbv
      repeat' (first
          | (refine s_eqs hS rfl ?_; try cbv)
          | (refine s_eqt hS rfl ?_ ?_; (focus (cbv; (repeat' (first | exact trivial | rfl | refine And.intro ?_ ?_ | assumption | omega | (simp only [← hS, Int.ofNat_eq_natCast, cq, Bool.not_eq_true', Bool.not_eq_false', decide_eq_true_eq, decide_eq_false_iff_not, beq_iff_eq, beq_eq_false_iff_ne, ne_eq]; done) | (simp only [← hS, Int.ofNat_eq_natCast, cq, Bool.not_eq_true', Bool.not_eq_false', decide_eq_true_eq, decide_eq_false_iff_not, beq_iff_eq, beq_eq_false_iff_ne, ne_eq]; first | assumption | omega))); done)); try cbv)
          | (refine s_eqo hS ?_; try cbv)
          | (refine s_lk hS ?_; try cbv)
          | (refine s_mu hS ?_; try cbv)
          | (refine s_chk hS (by simp only [← hS, Int.ofNat_eq_natCast, cq, Bool.not_eq_true', Bool.not_eq_false', decide_eq_true_eq, decide_eq_false_iff_not, beq_iff_eq, beq_eq_false_iff_ne, ne_eq]; omega) ?_; try cbv)
          | (refine s_br hS ?_ ?_ <;> intro h <;> (try cbv) <;> (try simp only [← hS, Int.ofNat_eq_natCast, cq, Bool.not_eq_true', Bool.not_eq_false', decide_eq_true_eq, decide_eq_false_iff_not, beq_iff_eq, beq_eq_false_iff_ne, ne_eq] at h) <;> first | (exfalso; omega) | (exact absurd trivial h) | (exact (no_tf h).elim) | (exact (no_ft h).elim) | (exact (no_both h (by with_reducible assumption)).elim) | (exact (no_both (by with_reducible assumption) h).elim) | skip)
          | (refine s_add hS ?_ (by simp only [lo]; omega) (by simp only [hi]; omega); intro _ _; try cbv)
          | (refine s_sub hS ?_ (by simp only [lo]; omega) (by simp only [hi]; omega); intro _ _; try cbv)
          | (refine s_cvi hS ?_ (by simp only [lo]; omega) (by simp only [hi]; omega); try cbv))
      refine same_u hS (a := L1) (b := L2) hL1ok eL2 rfl (by rw [hF1]; exact .rfl) hn1 rfl (by rw [hF2]; exact .rfl) hn2' ?_
      cbv
      repeat' (first
          | (refine s_eqs hS rfl ?_; try cbv)
          | (refine s_eqt hS rfl ?_ ?_; (focus (cbv; (repeat' (first | exact trivial | rfl | refine And.intro ?_ ?_ | assumption | omega | (simp only [← hS, Int.ofNat_eq_natCast, cq, Bool.not_eq_true', Bool.not_eq_false', decide_eq_true_eq, decide_eq_false_iff_not, beq_iff_eq, beq_eq_false_iff_ne, ne_eq]; done) | (simp only [← hS, Int.ofNat_eq_natCast, cq, Bool.not_eq_true', Bool.not_eq_false', decide_eq_true_eq, decide_eq_false_iff_not, beq_iff_eq, beq_eq_false_iff_ne, ne_eq]; first | assumption | omega))); done)); try cbv)
          | (refine s_eqo hS ?_; try cbv)
          | (refine s_lk hS ?_; try cbv)
          | (refine s_mu hS ?_; try cbv)
          | (refine s_chk hS (by simp only [← hS, Int.ofNat_eq_natCast, cq, Bool.not_eq_true', Bool.not_eq_false', decide_eq_true_eq, decide_eq_false_iff_not, beq_iff_eq, beq_eq_false_iff_ne, ne_eq]; omega) ?_; try cbv)
          | (refine s_br hS ?_ ?_ <;> intro h <;> (try cbv) <;> (try simp only [← hS, Int.ofNat_eq_natCast, cq, Bool.not_eq_true', Bool.not_eq_false', decide_eq_true_eq, decide_eq_false_iff_not, beq_iff_eq, beq_eq_false_iff_ne, ne_eq] at h) <;> first | (exfalso; omega) | (exact absurd trivial h) | (exact (no_tf h).elim) | (exact (no_ft h).elim) | (exact (no_both h (by with_reducible assumption)).elim) | (exact (no_both (by with_reducible assumption) h).elim) | skip)
          | (refine s_add hS ?_ (by simp only [lo]; omega) (by simp only [hi]; omega); intro _ _; try cbv)
          | (refine s_sub hS ?_ (by simp only [lo]; omega) (by simp only [hi]; omega); intro _ _; try cbv)
          | (refine s_cvi hS ?_ (by simp only [lo]; omega) (by simp only [hi]; omega); try cbv))
      refine short_u hS (b := b) hb hn3 rfl hfs hn' fun t1 ht1 => ?_
      cbv
      refine rshort_u hS (b := b) hb hn3 rfl hfs hn' fun t2 ht2 => ?_
      obtain rfl : t2 = t1 := ht2.symm.trans ht1
      cbv
      repeat' (first
          | (refine s_eqs hS rfl ?_; try cbv)
          | (refine s_eqt hS rfl ?_ ?_; (focus (cbv; (repeat' (first | exact trivial | rfl | refine And.intro ?_ ?_ | assumption | omega | (simp only [← hS, Int.ofNat_eq_natCast, cq, Bool.not_eq_true', Bool.not_eq_false', decide_eq_true_eq, decide_eq_false_iff_not, beq_iff_eq, beq_eq_false_iff_ne, ne_eq]; done) | (simp only [← hS, Int.ofNat_eq_natCast, cq, Bool.not_eq_true', Bool.not_eq_false', decide_eq_true_eq, decide_eq_false_iff_not, beq_iff_eq, beq_eq_false_iff_ne, ne_eq]; first | assumption | omega))); done)); try cbv)
          | (refine s_eqo hS ?_; try cbv)
          | (refine s_lk hS ?_; try cbv)
          | (refine s_mu hS ?_; try cbv)
          | (refine s_chk hS (by simp only [← hS, Int.ofNat_eq_natCast, cq, Bool.not_eq_true', Bool.not_eq_false', decide_eq_true_eq, decide_eq_false_iff_not, beq_iff_eq, beq_eq_false_iff_ne, ne_eq]; omega) ?_; try cbv)
          | (refine s_br hS ?_ ?_ <;> intro h <;> (try cbv) <;> (try simp only [← hS, Int.ofNat_eq_natCast, cq, Bool.not_eq_true', Bool.not_eq_false', decide_eq_true_eq, decide_eq_false_iff_not, beq_iff_eq, beq_eq_false_iff_ne, ne_eq] at h) <;> first | (exfalso; omega) | (exact absurd trivial h) | (exact (no_tf h).elim) | (exact (no_ft h).elim) | (exact (no_both h (by with_reducible assumption)).elim) | (exact (no_both (by with_reducible assumption) h).elim) | skip)
          | (refine s_add hS ?_ (by simp only [lo]; omega) (by simp only [hi]; omega); intro _ _; try cbv)
          | (refine s_sub hS ?_ (by simp only [lo]; omega) (by simp only [hi]; omega); intro _ _; try cbv)
          | (refine s_cvi hS ?_ (by simp only [lo]; omega) (by simp only [hi]; omega); try cbv))
      refine wakes_u hS ?_
      cbv
      repeat' (first
          | (refine s_eqs hS rfl ?_; try cbv)
          | (refine s_eqt hS rfl ?_ ?_; (focus (cbv; (repeat' (first | exact trivial | rfl | refine And.intro ?_ ?_ | assumption | omega | (simp only [← hS, Int.ofNat_eq_natCast, cq, Bool.not_eq_true', Bool.not_eq_false', decide_eq_true_eq, decide_eq_false_iff_not, beq_iff_eq, beq_eq_false_iff_ne, ne_eq]; done) | (simp only [← hS, Int.ofNat_eq_natCast, cq, Bool.not_eq_true', Bool.not_eq_false', decide_eq_true_eq, decide_eq_false_iff_not, beq_iff_eq, beq_eq_false_iff_ne, ne_eq]; first | assumption | omega))); done)); try cbv)
          | (refine s_eqo hS ?_; try cbv)
          | (refine s_lk hS ?_; try cbv)
          | (refine s_mu hS ?_; try cbv)
          | (refine s_chk hS (by simp only [← hS, Int.ofNat_eq_natCast, cq, Bool.not_eq_true', Bool.not_eq_false', decide_eq_true_eq, decide_eq_false_iff_not, beq_iff_eq, beq_eq_false_iff_ne, ne_eq]; omega) ?_; try cbv)
          | (refine s_br hS ?_ ?_ <;> intro h <;> (try cbv) <;> (try simp only [← hS, Int.ofNat_eq_natCast, cq, Bool.not_eq_true', Bool.not_eq_false', decide_eq_true_eq, decide_eq_false_iff_not, beq_iff_eq, beq_eq_false_iff_ne, ne_eq] at h) <;> first | (exfalso; omega) | (exact absurd trivial h) | (exact (no_tf h).elim) | (exact (no_ft h).elim) | (exact (no_both h (by with_reducible assumption)).elim) | (exact (no_both (by with_reducible assumption) h).elim) | skip)
          | (refine s_add hS ?_ (by simp only [lo]; omega) (by simp only [hi]; omega); intro _ _; try cbv)
          | (refine s_sub hS ?_ (by simp only [lo]; omega) (by simp only [hi]; omega); intro _ _; try cbv)
          | (refine s_cvi hS ?_ (by simp only [lo]; omega) (by simp only [hi]; omega); try cbv))
      exact .rfl
end Cz
