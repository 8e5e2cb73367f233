/- Huff, part U: no code begins another one. -/
import Derived.Test.YtjnpmipoenijdaaCzHt
namespace Cz
open Go Go.RowKit Go.Proofs
set_option linter.unusedSimpArgs false
set_option linter.unusedVariables false
set_option maxRecDepth 100000
set_option maxHeartbeats 4000000
theorem s_min {S : Sy} {k : IntKind} {a b : Int} {K : Int → Prop} (hS : S0 Try.prog = S) (h : ∀ r, r = min a b → K r) : S.ar .min k a b K := by
  refine s_are hS _ ?_ (h _ rfl)
  show (if b < a then b else a) = _
  split <;> omega
theorem code_shift {c : Int} {k : Nat} : codeI c / 2 ^ k = ((Hu.codeOf c.toNat / 2 ^ k : Nat) : Int) := by unfold codeI; push_cast; rfl
theorem apart_one {c d : Int} {k : Nat} (hc : 0 ≤ c ∧ c < 256) (hd : 0 ≤ d ∧ d < 256) (hm : clsI c ≤ clsI d) (hk : (k : Int) = clsI d - clsI c) (h : codeI d / 2 ^ k = codeI c) : c = d := by
  have h1 : Hu.cls c.toNat ≤ Hu.cls d.toNat := by unfold clsI at hm; omega
  have := Hu.code_apart (c := c.toNat) (d := d.toNat) (by omega) (by omega) h1 (by
    rw [code_shift] at h
    unfold codeI at h
    unfold clsI at hk
    rw [show Hu.cls d.toNat - Hu.cls c.toNat = k by omega]
    omega)
  omega
theorem apart_iff {c d r s m l u v : Int} (hc : 0 ≤ c ∧ c < 256) (hd : 0 ≤ d ∧ d < 256) (hm : clsI c = m) (hl : clsI d = l) (hu : u = m - min m l) (hv : v = l - min m l) (hr : r = codeI c / 2 ^ u.toNat) (hs : s = codeI d / 2 ^ v.toNat) : (r = s) ↔ (c = d) := by
  constructor
  · intro e
    rcases Int.le_total m l with h | h
    · have e1 : u.toNat = 0 := by omega
      rw [e1] at hr
      simp only [Int.pow_zero, Int.ediv_one] at hr
      exact apart_one hc hd (by omega) (k := v.toNat) (by omega) (by omega)
    · have e1 : v.toNat = 0 := by omega
      rw [e1] at hs
      simp only [Int.pow_zero, Int.ediv_one] at hs
      exact (apart_one hd hc (by omega) (k := u.toNat) (by omega) (by omega)).symm
  · intro e
    subst e
    have : l = m := hl.symm.trans hm
    subst this
    rw [hr, hs, hu, hv]
theorem end_ne {c m u r : Int} (hc : 0 ≤ c ∧ c < 256) (hm : clsI c = m) (hu : u = 11 - m) (hr : r = 2047 / 2 ^ u.toNat) : r ≠ codeI c := by
  have hb := Hu.code_bd (c := c.toNat) (by omega)
  unfold clsI at hm
  unfold codeI
  rcases hb with ⟨e, h⟩ | ⟨e, h⟩ | ⟨e, h⟩ | ⟨e, h⟩ <;> rw [e] at hm <;> subst hm hu hr
  · rw [show ((11 : Int) - ((5 : Nat) : Int)).toNat = 6 from rfl]; omega
  · rw [show ((11 : Int) - ((6 : Nat) : Int)).toNat = 5 from rfl]; omega
  · rw [show ((11 : Int) - ((7 : Nat) : Int)).toNat = 4 from rfl]; omega
  · rw [show ((11 : Int) - ((11 : Nat) : Int)).toNat = 0 from rfl]; omega
theorem apart_law (c d : Int) (hc : 0 ≤ c ∧ c < 256) (hd : 0 ≤ d ∧ d < 256) : (S0 Try.prog).call 4 [.i .u8 (.y c), .i .u8 (.y d)] [] (fun x _ => Sub x .tt) := by
  obtain ⟨m, hm⟩ : ∃ m, clsI c = m := ⟨_, rfl⟩
  obtain ⟨l, hl⟩ : ∃ l, clsI d = l := ⟨_, rfl⟩
  obtain ⟨a, ha⟩ : ∃ a, codeI c = a := ⟨_, rfl⟩
  obtain ⟨e, he⟩ : ∃ e, codeI d = e := ⟨_, rfl⟩
  have b1 := clsI_bd c
  have b2 := clsI_bd d
  have b3 := codeI_bd hc
  have b4 := codeI_bd hd
  rw [hm] at b1 b3
  rw [hl] at b2 b4
  rw [ha] at b3
  rw [he] at b4
  obtain ⟨p, hp⟩ : ∃ p : Int, 2 ^ m.toNat = p := ⟨_, rfl⟩
  rw [hp] at b3
  have hp0 : 0 < p := by rw [← hp]; exact pow_pos' _
  have hp1 : p ≤ 2048 := by have := pow_le (m := m.toNat) (n := 11) (by omega); rw [hp] at this; omega
  have hf := find_at hc.1 hc.2 ha hm
  generalize hS : S0 Try.prog = S
  refine call_in' hS I.fn_causeylaw07_HuffApart ?_
  cbv
  refine Code_u hS hc.1 hc.2 fun a' m' ha' hm' => ?_
  obtain rfl : a' = a := ha'.symm.trans ha
  obtain rfl : m' = m := hm'.symm.trans hm
  cbv
  refine Code_u hS hd.1 hd.2 fun e' l' he' hl' => ?_
  obtain rfl : e' = e := he'.symm.trans he
  obtain rfl : l' = l := hl'.symm.trans hl
  cbv
  refine Of_u hS fun r b hr hb => ?_
  replace hr : r = c := hr.symm.trans hf.1
  replace hb : b = true := hb.symm.trans hf.2
  cbv
  repeat' (first
      | (refine s_eqs hS rfl ?_; try cbv)
      | (refine s_eqt hS rfl ?_ ?_; (focus (cbv; (repeat' (first | exact trivial | rfl | refine And.intro ?_ ?_ | assumption | omega | (simp only [← hS, Int.ofNat_eq_natCast, cq, Bool.not_eq_true', Bool.not_eq_false', decide_eq_true_eq, decide_eq_false_iff_not, beq_iff_eq, beq_eq_false_iff_ne, ne_eq]; done) | (simp only [← hS, Int.ofNat_eq_natCast, cq, Bool.not_eq_true', Bool.not_eq_false', decide_eq_true_eq, decide_eq_false_iff_not, beq_iff_eq, beq_eq_false_iff_ne, ne_eq]; first | assumption | omega))); done)); try cbv)
      | (refine s_eqo hS ?_; try cbv)
      | (refine s_lk hS ?_; try cbv)
      | (refine s_mu hS ?_; try cbv)
      | (refine s_chk hS (by simp only [← hS, Int.ofNat_eq_natCast, cq, Bool.not_eq_true', Bool.not_eq_false', decide_eq_true_eq, decide_eq_false_iff_not, beq_iff_eq, beq_eq_false_iff_ne, ne_eq]; omega) ?_; try cbv)
      | (refine s_br hS ?_ ?_ <;> intro h <;> (try cbv) <;> (try simp only [← hS, Int.ofNat_eq_natCast, cq, Bool.not_eq_true', Bool.not_eq_false', decide_eq_true_eq, decide_eq_false_iff_not, beq_iff_eq, beq_eq_false_iff_ne, ne_eq] at h) <;> first | (exfalso; omega) | (exact absurd trivial h) | (exact (no_tf h).elim) | (exact (no_ft h).elim) | (exact (no_both h (by with_reducible assumption)).elim) | (exact (no_both (by with_reducible assumption) h).elim) | skip)
      | (refine s_add hS ?_ (by simp only [lo]; omega) (by simp only [hi]; omega); intro _ _; try cbv)
      | (refine s_sub hS ?_ (by simp only [lo]; omega) (by simp only [hi]; omega); intro _ _; try cbv)
      | (refine s_cvi hS ?_ (by simp only [lo]; omega) (by simp only [hi]; omega); try cbv)
      | (refine s_shll hS (c := p) (by rw [← hp]; congr 1; simp only [IntKind.bits]; omega) ?_ (by simp only [lo]; omega) (by simp only [hi]; omega); intro _ _; cbv))
  refine s_min hS fun mn hmn => ?_
  have hmn1 : 5 ≤ mn ∧ mn ≤ m' ∧ mn ≤ l' := by omega
  cbv
  refine s_sub hS ?_ (by simp only [lo]; omega) (by simp only [hi]; omega)
  intro u hu
  cbv
  refine s_cvi hS ?_ (by simp only [lo]; omega) (by simp only [hi]; omega)
  cbv
  repeat' (first
      | (refine s_eqs hS rfl ?_; try cbv)
      | (refine s_eqt hS rfl ?_ ?_; (focus (cbv; (repeat' (first | exact trivial | rfl | refine And.intro ?_ ?_ | assumption | omega | (simp only [← hS, Int.ofNat_eq_natCast, cq, Bool.not_eq_true', Bool.not_eq_false', decide_eq_true_eq, decide_eq_false_iff_not, beq_iff_eq, beq_eq_false_iff_ne, ne_eq]; done) | (simp only [← hS, Int.ofNat_eq_natCast, cq, Bool.not_eq_true', Bool.not_eq_false', decide_eq_true_eq, decide_eq_false_iff_not, beq_iff_eq, beq_eq_false_iff_ne, ne_eq]; first | assumption | omega))); done)); try cbv)
      | (refine s_eqo hS ?_; try cbv)
      | (refine s_lk hS ?_; try cbv)
      | (refine s_mu hS ?_; try cbv)
      | (refine s_chk hS (by simp only [← hS, Int.ofNat_eq_natCast, cq, Bool.not_eq_true', Bool.not_eq_false', decide_eq_true_eq, decide_eq_false_iff_not, beq_iff_eq, beq_eq_false_iff_ne, ne_eq]; omega) ?_; try cbv)
      | (refine s_br hS ?_ ?_ <;> intro h <;> (try cbv) <;> (try simp only [← hS, Int.ofNat_eq_natCast, cq, Bool.not_eq_true', Bool.not_eq_false', decide_eq_true_eq, decide_eq_false_iff_not, beq_iff_eq, beq_eq_false_iff_ne, ne_eq] at h) <;> first | (exfalso; omega) | (exact absurd trivial h) | (exact (no_tf h).elim) | (exact (no_ft h).elim) | (exact (no_both h (by with_reducible assumption)).elim) | (exact (no_both (by with_reducible assumption) h).elim) | skip)
      | (refine s_add hS ?_ (by simp only [lo]; omega) (by simp only [hi]; omega); intro _ _; try cbv)
      | (refine s_sub hS ?_ (by simp only [lo]; omega) (by simp only [hi]; omega); intro _ _; try cbv)
      | (refine s_cvi hS ?_ (by simp only [lo]; omega) (by simp only [hi]; omega); try cbv))
  refine s_shr hS (by simp only [IntKind.bits]; omega) fun r1 hr1 => ?_
  cbv
  refine s_sub hS ?_ (by simp only [lo]; omega) (by simp only [hi]; omega)
  intro v hv
  cbv
  refine s_cvi hS ?_ (by simp only [lo]; omega) (by simp only [hi]; omega)
  cbv
  repeat' (first
      | (refine s_eqs hS rfl ?_; try cbv)
      | (refine s_eqt hS rfl ?_ ?_; (focus (cbv; (repeat' (first | exact trivial | rfl | refine And.intro ?_ ?_ | assumption | omega | (simp only [← hS, Int.ofNat_eq_natCast, cq, Bool.not_eq_true', Bool.not_eq_false', decide_eq_true_eq, decide_eq_false_iff_not, beq_iff_eq, beq_eq_false_iff_ne, ne_eq]; done) | (simp only [← hS, Int.ofNat_eq_natCast, cq, Bool.not_eq_true', Bool.not_eq_false', decide_eq_true_eq, decide_eq_false_iff_not, beq_iff_eq, beq_eq_false_iff_ne, ne_eq]; first | assumption | omega))); done)); try cbv)
      | (refine s_eqo hS ?_; try cbv)
      | (refine s_lk hS ?_; try cbv)
      | (refine s_mu hS ?_; try cbv)
      | (refine s_chk hS (by simp only [← hS, Int.ofNat_eq_natCast, cq, Bool.not_eq_true', Bool.not_eq_false', decide_eq_true_eq, decide_eq_false_iff_not, beq_iff_eq, beq_eq_false_iff_ne, ne_eq]; omega) ?_; try cbv)
      | (refine s_br hS ?_ ?_ <;> intro h <;> (try cbv) <;> (try simp only [← hS, Int.ofNat_eq_natCast, cq, Bool.not_eq_true', Bool.not_eq_false', decide_eq_true_eq, decide_eq_false_iff_not, beq_iff_eq, beq_eq_false_iff_ne, ne_eq] at h) <;> first | (exfalso; omega) | (exact absurd trivial h) | (exact (no_tf h).elim) | (exact (no_ft h).elim) | (exact (no_both h (by with_reducible assumption)).elim) | (exact (no_both (by with_reducible assumption) h).elim) | skip)
      | (refine s_add hS ?_ (by simp only [lo]; omega) (by simp only [hi]; omega); intro _ _; try cbv)
      | (refine s_sub hS ?_ (by simp only [lo]; omega) (by simp only [hi]; omega); intro _ _; try cbv)
      | (refine s_cvi hS ?_ (by simp only [lo]; omega) (by simp only [hi]; omega); try cbv))
  refine s_shr hS (by simp only [IntKind.bits]; omega) fun r2 hr2 => ?_
  cbv
  have hmn2 : mn = min m' l' := hmn
  have hiff := apart_iff (r := r1) (s := r2) (u := u) (v := v) hc hd hm hl (by rw [hu, hmn2]) (by rw [hv, hmn2]) (by rw [hr1, ha]) (by rw [hr2, he])
  refine s_eqo hS ?_
  cbv
  refine s_br hS ?_ ?_ <;> intro h <;> cbv
  · clear h
    repeat' (first
        | (refine s_eqs hS rfl ?_; try cbv)
        | (refine s_eqt hS rfl ?_ ?_; (focus (cbv; (repeat' (first | exact trivial | rfl | refine And.intro ?_ ?_ | assumption | omega | (simp only [← hS, Int.ofNat_eq_natCast, cq, Bool.not_eq_true', Bool.not_eq_false', decide_eq_true_eq, decide_eq_false_iff_not, beq_iff_eq, beq_eq_false_iff_ne, ne_eq]; done) | (simp only [← hS, Int.ofNat_eq_natCast, cq, Bool.not_eq_true', Bool.not_eq_false', decide_eq_true_eq, decide_eq_false_iff_not, beq_iff_eq, beq_eq_false_iff_ne, ne_eq]; first | assumption | omega))); done)); try cbv)
        | (refine s_eqo hS ?_; try cbv)
        | (refine s_lk hS ?_; try cbv)
        | (refine s_mu hS ?_; try cbv)
        | (refine s_chk hS (by simp only [← hS, Int.ofNat_eq_natCast, cq, Bool.not_eq_true', Bool.not_eq_false', decide_eq_true_eq, decide_eq_false_iff_not, beq_iff_eq, beq_eq_false_iff_ne, ne_eq]; omega) ?_; try cbv)
        | (refine s_br hS ?_ ?_ <;> intro h <;> (try cbv) <;> (try simp only [← hS, Int.ofNat_eq_natCast, cq, Bool.not_eq_true', Bool.not_eq_false', decide_eq_true_eq, decide_eq_false_iff_not, beq_iff_eq, beq_eq_false_iff_ne, ne_eq] at h) <;> first | (exfalso; omega) | (exact absurd trivial h) | (exact (no_tf h).elim) | (exact (no_ft h).elim) | (exact (no_both h (by with_reducible assumption)).elim) | (exact (no_both (by with_reducible assumption) h).elim) | skip)
        | (refine s_add hS ?_ (by simp only [lo]; omega) (by simp only [hi]; omega); intro _ _; try cbv)
        | (refine s_sub hS ?_ (by simp only [lo]; omega) (by simp only [hi]; omega); intro _ _; try cbv)
        | (refine s_cvi hS ?_ (by simp only [lo]; omega) (by simp only [hi]; omega); try cbv)
        | (refine s_shr hS (by simp only [IntKind.bits]; omega) ?_; intro _ _; cbv)
        | (refine wakes_u hS ?_; cbv))
    · exact .rfl
    · exfalso
      rename_i r2 hr2
      exact end_ne hc hm (by assumption) hr2 (by rw [ha]; exact h)
  · exfalso
    simp only [← hS, Int.ofNat_eq_natCast, cq, Bool.not_eq_true', Bool.not_eq_false', decide_eq_true_eq, decide_eq_false_iff_not, beq_iff_eq, beq_eq_false_iff_ne, ne_eq] at h
    apply h
    by_cases hcd : c = d
    · rw [decide_eq_true (hiff.2 hcd), decide_eq_true hcd]
    · rw [decide_eq_false (fun x => hcd (hiff.1 x)), decide_eq_false hcd]
end Cz
