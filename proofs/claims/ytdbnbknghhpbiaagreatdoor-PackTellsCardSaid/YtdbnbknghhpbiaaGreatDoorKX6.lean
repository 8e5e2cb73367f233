/- What the claims of this group lean on, part 6: our engine, the functions' simplified codes, their contracts. No condition. -/
import Derived.Test.YtdbnbknghhpbiaaGreatDoorKX5
set_option linter.unusedSimpArgs false
set_option linter.unusedVariables false
set_option maxRecDepth 100000
set_option maxHeartbeats 4000000
namespace Cz
open Go Go.RowKit Go.Proofs
theorem or128_all : ∀ n : Fin 256, IntKind.u8.wrap ((BitVec.ofInt 8 (n.val : Int) ||| BitVec.ofInt 8 128).toNat : Int) = ((n.val % 128 + 128 : Nat) : Int) := by decide +kernel
theorem s_or128 {S : Sy} {a : Int} {K : Int → Prop} (hS : S0 Tryz.prog = S) (h0 : 0 ≤ a) (h1 : a < 256) (h : ∀ r, r = a % 128 + 128 → K r) : S.ar .or .u8 a 128 K := by
  refine qrs hS _ rfl (h _ ?_)
  have := or128_all ⟨a.toNat, by omega⟩
  simp only [Int.toNat_of_nonneg h0] at this
  rw [show arS .or .u8 a 128 = IntKind.u8.wrap ((BitVec.ofInt 8 a ||| BitVec.ofInt 8 128).toNat : Int) from rfl, this]
  omega
theorem andn_nat (w m u : Nat) (hm : m ≤ w) (hu : u < 2 ^ w) : u &&& (2 ^ w - 1 - (2 ^ m - 1)) = u - u % 2 ^ m := by
  have hp : 2 ^ m ≤ 2 ^ w := Nat.pow_le_pow_right (by omega) hm
  apply Nat.eq_of_testBit_eq
  intro i
  have e1 : 2 ^ w - 1 - (2 ^ m - 1) = 2 ^ m * (2 ^ (w - m) - 1) := by
    rw [Nat.mul_sub, ← Nat.pow_add, show m + (w - m) = w by omega]
    have := Nat.two_pow_pos m
    omega
  have e2 : u - u % 2 ^ m = 2 ^ m * (u / 2 ^ m) := by have := Nat.div_add_mod u (2 ^ m); omega
  rw [e1, e2, Nat.testBit_and, Nat.testBit_two_pow_mul, Nat.testBit_two_pow_mul, Nat.testBit_two_pow_sub_one]
  by_cases h : m ≤ i
  · simp only [h, decide_true, Bool.true_and]
    rw [Nat.testBit_div_two_pow, show i - m + m = i by omega]
    by_cases h2 : i - m < w - m
    · simp [h2]
    · have : u.testBit i = false := Nat.testBit_lt_two_pow (Nat.lt_of_lt_of_le hu (Nat.pow_le_pow_right (by omega) (by omega)))
      simp [this]
  · simp [h]
def sept : Nat → Int → List Int
  | 0, _ => []
  | f + 1, q => if q < 128 then [q] else (q % 128 + 128) :: sept f (q / 128)
def putI (n p up : Int) : List Int := if n < p - 1 then [up - up % p + n] else (up - up % p + (p - 1)) :: sept 5 (n - (p - 1))
theorem s_andn {S : Sy} {a b p : Int} {m : Nat} {K : Int → Prop} (hS : S0 Tryz.prog = S) (hp : (2 : Int) ^ m = p) (hm : m ≤ 8) (hb : b = p - 1) (h0 : 0 ≤ a) (h1 : a < 256) (h : ∀ r, r = a - a % p → K r) : S.ar .andn .u8 a b K := by
  subst hp hb
  refine qrs hS _ ?_ (h _ rfl)
  show IntKind.u8.wrap ((BitVec.ofInt 8 a &&& ~~~ BitVec.ofInt 8 ((2 : Int) ^ m - 1)).toNat : Int) = _
  have hle := qhp (m := m) (n := 8) hm
  have hpos := qcv m
  have e1 : ((2 : Int) ^ m - 1).toNat = 2 ^ m - 1 := by have := qdn m; omega
  rw [BitVec.toNat_and, BitVec.toNat_not, qcx, qcx, Int.emod_eq_of_lt h0 (by omega), Int.emod_eq_of_lt (a := (2 : Int) ^ m - 1) (by omega) (by omega), e1, andn_nat 8 m _ hm (by omega)]
  have h2 := Int.emod_nonneg a (b := (2 : Int) ^ m) (by omega)
  have h3 : ((a.toNat - a.toNat % 2 ^ m : Nat) : Int) = a - a % 2 ^ m := by
    have h4 := Nat.mod_le a.toNat (2 ^ m)
    have h5 : ((a.toNat % 2 ^ m : Nat) : Int) = a % 2 ^ m := by rw [Int.natCast_emod, Int.toNat_of_nonneg h0, qdn]
    omega
  rw [h3]
  have h6 : a % 2 ^ m ≤ a := by
    have := Int.mul_ediv_add_emod a (2 ^ m)
    have h7 : 0 ≤ (2 : Int) ^ m * (a / 2 ^ m) := Int.mul_nonneg (by omega) (Int.ediv_nonneg h0 (by omega))
    omega
  exact qfw (by simp only [lo]; omega) (by simp only [Cz.hi]; omega)
def septOk (f : Nat) (q : Int) : Prop := 1 ≤ f ∧ 0 ≤ q ∧ q < 128 ^ f
theorem sept_end {f : Nat} {q : Int} (h : septOk f q) (h1 : q < 128) : sept f q = [q] := by
  obtain ⟨f', rfl⟩ : ∃ f', f = f' + 1 := ⟨f - 1, by have := h.1; omega⟩
  rw [sept, if_pos h1]
theorem qzo {f : Nat} {q : Int} (h : septOk f q) (h1 : ¬q < 128) : sept f q = (q % 128 + 128) :: sept (f - 1) (q / 128) ∧ septOk (f - 1) (q / 128) ∧ 2 ≤ f := by
  obtain ⟨h2, h3, h4⟩ := h
  have hf : 2 ≤ f := by
    rcases Nat.lt_or_ge f 2 with h5 | h5
    · have : f = 1 := by omega
      subst this
      simp at h4; omega
    · exact h5
  obtain ⟨f', rfl⟩ : ∃ f', f = f' + 1 := ⟨f - 1, by omega⟩
  simp only [Nat.add_sub_cancel]
  refine ⟨by rw [sept, if_neg h1], ⟨by omega, by omega, ?_⟩, hf⟩
  rw [Int.pow_succ] at h4
  exact Int.ediv_lt_of_lt_mul (by decide) h4
theorem pput_f {n k up p : Int} (hn0 : 0 ≤ n) (hn1 : n < 2147483648) (hk1 : 1 ≤ k) (hk8 : k ≤ 8) (hp : 2 ^ k.toNat = p) (hu0 : 0 ≤ up) (hu1 : up < 256) :
    (S0 Tryz.prog).call 76 [.i .i64 (.y n), .i .i64 (.y k), .i .u8 (.y up)] [] (OwnR 0 1 (cellsB (putI n p up)) true [.i .i64 (.y 0)]) := by
  have hp0 : 2 ≤ p := by have := qhp (m := 1) (n := k.toNat) (by omega); rw [hp] at this; omega
  have hp1 : p ≤ 256 := by have := qhp (m := k.toNat) (n := 8) (by omega); rw [hp] at this; omega
  obtain ⟨w, hw⟩ : ∃ w, w = up % p := ⟨_, rfl⟩
  have hwb : 0 ≤ w ∧ w < p := by rw [hw]; exact ⟨Int.emod_nonneg _ (by omega), Int.emod_lt_of_pos _ (by omega)⟩
  have hw2 : w ≤ up := by
    rw [hw]
    have := Int.mul_ediv_add_emod up p
    have h7 : 0 ≤ p * (up / p) := Int.mul_nonneg (by omega) (Int.ediv_nonneg hu0 (by omega))
    omega
  obtain ⟨fi, hfi⟩ : ∃ fi, fi = up - w := ⟨_, rfl⟩
  have hfp : fi % p = 0 := by
    rw [hfi, hw]
    have := Int.mul_ediv_add_emod up p
    rw [show up - up % p = p * (up / p) by omega]
    exact Int.mul_emod_right _ _
  have hfb : fi + p ≤ 256 := by
    have h8 : ∃ c : Int, 256 = p * c := by
      refine ⟨2 ^ (8 - k.toNat), ?_⟩
      rw [← hp, ← Int.pow_add, show k.toNat + (8 - k.toNat) = 8 by omega]; rfl
    obtain ⟨c, hc⟩ := h8
    have h9 : fi = p * (up / p) := by
      have := Int.mul_ediv_add_emod up p
      omega
    have h10 : up / p < c := by
      rw [Int.ediv_lt_iff_lt_mul (by omega), Int.mul_comm]
      omega
    have h11 : p * (up / p + 1) ≤ p * c := Int.mul_le_mul_of_nonneg_left (by omega) (by omega)
    rw [Int.mul_add] at h11
    omega
  have hput : putI n p up = if n < p - 1 then [fi + n] else (fi + (p - 1)) :: sept 5 (n - (p - 1)) := by unfold putI; rw [← hw, ← hfi]
  generalize hL : putI n p up = L at hput
  generalize hP : cellsB L = P
  generalize hS : S0 Tryz.prog = S
  refine qab hS I.qxz ?_
  cbv
  repeat' (first
    | (refine s_st hS ?_; try cbv)
    | (refine qac hS ?_ ?_ <;> intro h <;> (try cbv) <;> try exact s_ab h)
    | (refine qah hS ?_; intro _ _; try cbv)
    | (refine qad hS ?_; try cbv)
    | (refine qab hS I.qtb ?_; cbv)
    | (refine qzp hS (c := 2147483648) rfl ?_; intro _ _; cbv)
    | (refine qmd hS (c := p) (by rw [← hp]; congr 1; simp only [IntKind.bits]; omega) ?_ (by simp only [lo]; omega) (by simp only [hi]; omega); intro _ _; cbv)
    | (refine s_andn hS hp (by omega) (by omega) hu0 hu1 ?_; intro _ _; cbv))
  · rename_i m1 hm1 m0 hm0 f1 hf1
    obtain rfl : f1 = fi := by omega
    refine s_orl hS hp (by omega) hfp (by omega) (by omega) (by simp only [hi]; omega) fun r hr => ?_
    cbv
    rw [if_pos (by omega)] at hput
    refine ⟨_, qbs (.cons .rfl (.cons (qak rfl) .nil)), qrw (L := L) ?_ hP (Nat.zero_le _) ?_ rfl⟩
    · rw [hput, ← hr]; rfl
    · rw [hput]; rfl
  · rename_i m1 hm1 m0 hm0 f1 hf1
    obtain rfl : f1 = fi := by omega
    refine s_orl hS hp (by omega) hfp (by omega) (by omega) (by simp only [hi]; omega) fun r hr => ?_
    cbv
    rw [if_neg (by omega)] at hput
    repeat' (first
      | (refine s_st hS ?_; try cbv)
      | (refine qac hS ?_ ?_ <;> intro h <;> (try cbv) <;> try exact s_ab h)
      | (refine qah hS ?_; intro _ _; try cbv)
      | (refine qad hS ?_; try cbv)
      | (refine qab hS I.qor ?_; cbv)
      | (refine qkk hS I.qlf ?_; cbv))
    rename_i q0 hq0
    have hok0 : septOk 5 q0 := ⟨by decide, by omega, by show q0 < 34359738368; omega⟩
    have hL0 : L = [r] ++ sept 5 q0 := by rw [hput, hr, hq0, show m0 = p - 1 by omega]; rfl
    clear hput
    refine qax hS 6 I.qgr (fun x : Nat × Int × Int × Int × List Int × List SV => septOk x.1 x.2.1 ∧ 0 ≤ x.2.1 ∧ x.2.1 < 2147483648 ∧ L = x.2.2.2.2.1 ++ sept x.1 x.2.1 ∧ x.2.2.1 = ilen x.2.2.2.2.1 ∧ x.2.2.1 + x.1 ≤ 6 ∧ x.2.2.2.2.2 = cellsB x.2.2.2.2.1)
      (fun _ => []) (fun x => [(0, .c [.sl 2 1 (.l 0) (.y x.2.2.1) none]), (2, .r false false (.y x.2.2.2.1) 1 x.2.2.2.2.2), (3, .c [.i .u32 (.y x.2.1)])])
      (fun x => x.1) (5, q0, 1, 0, [r], [.i .u8 (.y r)]) rfl ⟨⟨hok0, by dsimp only; omega, by dsimp only; omega, hL0, rfl, by show (1 : Int) + ((5 : Nat) : Int) ≤ 6; decide, rfl⟩, rfl, ?_, ?_, ?_⟩ ?_
    · cbv; all_goals exact s_sA
    · cbv
      refine ⟨.c (.cons (qef rfl rfl) .nil), .rfl, .r .rfl rfl rfl, .rfl, .rfl, .rfl, trivial⟩
    · cbv
    · intro x
      obtain ⟨f, q, ln, st, B, G⟩ := x
      intro hx
      dsimp only at hx
      cbv
      obtain ⟨g0, g1, g2, g3, g4, g5, g6⟩ := hx
      have hG : ilen G = ln := by rw [g6, qao, g4]
      have hl0 := qag B
      have hln : ln ≤ 6 := by have : ln + (f : Int) ≤ 6 := g5; omega
      refine qzp hS (c := 128) rfl fun q1 hq1 => ?_
      cbv
      refine qac hS ?_ ?_ <;> intro h <;> cbv
      · obtain ⟨k1, k2, k3⟩ := qzo g0 (by omega)
        refine s_cv8 hS fun y hy => ?_
        cbv
        refine s_or128 hS (by omega) (by omega) fun y2 hy2 => ?_
        cbv
        refine qmc hS rfl rfl ?_
        cbv
        refine qkd hS (by rw [hG]; omega) ?_
        cbv
        repeat' (first
          | (refine s_st hS ?_; try cbv)
          | (refine qac hS ?_ ?_ <;> intro h <;> (try cbv) <;> try exact s_ab h)
          | (refine qah hS ?_; intro _ _; try cbv)
          | (refine qad hS ?_; try cbv)
          | (refine qzp hS (c := 128) rfl ?_; intro _ _; cbv))
        rename_i ln2' q2 hq2
        obtain ⟨ln2, h_ln2⟩ : ∃ ln2, ln2 = ln + 1 := ⟨_, rfl⟩
        obtain ⟨st2, h_st2⟩ : ∃ st2, st2 = S.flen G := ⟨_, rfl⟩
        obtain ⟨G2, h_G2⟩ : ∃ G2, G2 = cellsB (B ++ [y2]) := ⟨_, rfl⟩
        have g5' : ln + (f : Int) ≤ 6 := g5
        have k3' : 2 ≤ f := k3
        have k4 : f - 1 < f := by omega
        have k5 : ln2 + ((f - 1 : Nat) : Int) ≤ 6 := by rw [h_ln2]; omega
        have k6 : 0 ≤ q2 ∧ q2 < 2147483648 := by omega
        refine ⟨(f - 1, q2, ln2, st2, B ++ [y2], G2), k4, ⟨by dsimp only; rw [hq2]; exact k2, k6.1, k6.2, ?_, ?_, k5, h_G2⟩, rfl, ?_, ?_, ?_⟩
        · dsimp only; rw [g3, k1, hq2, show q % 128 + 128 = y2 by omega]; simp
        · dsimp only; rw [h_ln2, g4, qzaai]
        · cbv; all_goals exact s_sA
        · cbv
          refine ⟨.c (.cons (qef rfl (by simp only [Z.v, ← hS, Int.ofNat_eq_natCast, cq, Bool.not_eq_true', Bool.not_eq_false', decide_eq_true_eq, decide_eq_false_iff_not, beq_iff_eq, beq_eq_false_iff_ne, ne_eq]; omega)) .nil), .rfl, qwn hS g6.symm h_G2.symm rfl h_st2.symm, .rfl, .rfl, .rfl, trivial⟩
        · cbv
      · have k1 := sept_end g0 (by omega)
        refine s_cv8 hS fun y hy => ?_
        cbv
        refine qmc hS rfl rfl ?_
        cbv
        refine qkd hS (by rw [hG]; omega) ?_
        cbv
        repeat' (first
          | (refine s_st hS ?_; try cbv)
          | (refine qac hS ?_ ?_ <;> intro h <;> (try cbv) <;> try exact s_ab h)
          | (refine qah hS ?_; intro _ _; try cbv)
          | (refine qad hS ?_; try cbv))
        refine ⟨_, qbs (.cons .rfl (.cons (qak rfl) .nil)), qrx hS g6.symm hP (show L = B ++ [y] by rw [g3, k1, show y = q by omega]) (Nat.zero_le _) (by simp only [Z.v, ← hS, Int.ofNat_eq_natCast, cq, Bool.not_eq_true', Bool.not_eq_false', decide_eq_true_eq, decide_eq_false_iff_not, beq_iff_eq, beq_eq_false_iff_ne, ne_eq]; omega) rfl⟩
end Cz
namespace Cz
open Go Go.RowKit Go.Proofs
theorem up_pre {k up p : Int} (hk1 : 1 ≤ k) (hk8 : k ≤ 8) (hp : 2 ^ k.toNat = p) (hu0 : 0 ≤ up) (hu1 : up < 256) :
    ∃ fi, fi = up - up % p ∧ up / p * p = fi ∧ 2 ≤ p ∧ p ≤ 256 ∧ 0 ≤ fi ∧ fi ≤ up ∧ fi + p ≤ 256 ∧ 0 ≤ up / p ∧ up / p ≤ 128 := by
  have hp0 : 2 ≤ p := by have := qhp (m := 1) (n := k.toNat) (by omega); rw [hp] at this; omega
  have hp1 : p ≤ 256 := by have := qhp (m := k.toNat) (n := 8) (by omega); rw [hp] at this; omega
  have h9 := Int.mul_ediv_add_emod up p
  have h7 : 0 ≤ p * (up / p) := Int.mul_nonneg (by omega) (Int.ediv_nonneg hu0 (by omega))
  have h6 : 0 ≤ up / p := Int.ediv_nonneg hu0 (by omega)
  have hm := Int.emod_nonneg up (show p ≠ 0 by omega)
  have h8 : ∃ c : Int, 256 = p * c := by
    refine ⟨2 ^ (8 - k.toNat), ?_⟩
    rw [← hp, ← Int.pow_add, show k.toNat + (8 - k.toNat) = 8 by omega]; rfl
  obtain ⟨c, hc⟩ := h8
  have h10 : up / p < c := by
    rw [Int.ediv_lt_iff_lt_mul (by omega), Int.mul_comm]
    omega
  have h11 : p * (up / p + 1) ≤ p * c := Int.mul_le_mul_of_nonneg_left (by omega) (by omega)
  have h12 : 2 * (up / p) ≤ p * (up / p) := Int.mul_le_mul_of_nonneg_right (by omega) h6
  rw [Int.mul_add] at h11
  rw [Int.mul_comm] at h9
  rw [Int.mul_comm p (up / p)] at h7 h11 h12
  exact ⟨_, rfl, by omega, hp0, hp1, by omega, by omega, by omega, h6, by omega⟩
theorem rpput_f {n k up p : Int} (hn0 : 0 ≤ n) (hn1 : n < 2147483648) (hk1 : 1 ≤ k) (hk8 : k ≤ 8) (hp : 2 ^ k.toNat = p) (hu0 : 0 ≤ up) (hu1 : up < 256) :
    (S0 Tryz.prog).call 52 [.i .i64 (.y n), .i .i64 (.y k), .i .u8 (.y up)] [] (OwnR 0 1 (cellsB (putI n p up)) true [.i .i64 (.y 0)]) := by
  obtain ⟨fi, hfi, hfq, hp0, hp1, hf0, hf1, hf2, hq0, hq1⟩ := up_pre hk1 hk8 hp hu0 hu1
  have hput : putI n p up = if n < p - 1 then [fi + n] else (fi + (p - 1)) :: sept 5 (n - (p - 1)) := by unfold putI; rw [← hfi]
  generalize hL : putI n p up = L at hput
  generalize hP : cellsB L = P
  obtain ⟨uq, huq⟩ : ∃ uq, up / p = uq := ⟨_, rfl⟩
  rw [huq] at hfq hq0 hq1
  generalize hS : S0 Tryz.prog = S
  refine qab hS I.qne ?_
  cbv
  repeat' (first
    | (refine s_st hS ?_; try cbv)
    | (refine qac hS ?_ ?_ <;> intro h <;> (try cbv) <;> try exact s_ab h)
    | (refine qah hS ?_; intro _ _; try cbv)
    | (refine qad hS ?_; try cbv)
    | (refine qab hS I.qnd ?_; cbv)
    | (refine qab hS I.qlo ?_; cbv)
    | (refine qmd hS (c := p) (by rw [← hp]; congr 1; simp only [IntKind.bits]; omega) ?_ (by simp only [lo]; omega) (by simp only [hi]; omega); intro _ _; cbv))
  rename_i r1 hr1 m0 hm0 p1 hp1'
  obtain rfl : p1 = p := by omega
  refine qzq hS hu0 (by omega) (by simp only [hi]; omega) fun q' hq' => ?_
  obtain rfl : q' = uq := hq'.trans huq
  cbv
  repeat' (first
    | (refine s_st hS ?_; try cbv)
    | (refine qac hS ?_ ?_ <;> intro h <;> (try cbv) <;> try exact s_ab h)
    | (refine qah hS ?_; intro _ _; try cbv)
    | (refine qad hS ?_; try cbv))
  rename_i p2 hp2'
  obtain rfl : p2 = p1 := by omega
  refine s_mul hS (fun f1 hf1' => ?_) (by rw [hfq]; simp only [lo]; omega) (by rw [hfq]; simp only [hi]; omega)
  obtain rfl : f1 = fi := hf1'.trans hfq
  cbv
  repeat' (first
    | (refine s_st hS ?_; try cbv)
    | (refine qac hS ?_ ?_ <;> intro h <;> (try cbv) <;> try exact s_ab h)
    | (refine qah hS ?_; intro _ _; try cbv)
    | (refine qad hS ?_; try cbv))
  · rename_i v hv
    rw [if_pos (by omega)] at hput
    refine ⟨_, qbs (.cons .rfl (.cons (qak rfl) .nil)), qrw (L := L) ?_ hP (Nat.zero_le _) ?_ rfl⟩
    · rw [hput, ← hv]; rfl
    · rw [hput]; rfl
  · rename_i v hv q0 hq0'
    rw [if_neg (by omega)] at hput
    have hok0 : septOk 5 q0 := ⟨by decide, by omega, by show q0 < 34359738368; omega⟩
    have hL0 : L = [v] ++ sept 5 q0 := by rw [hput, hv, hq0', show m0 = p2 - 1 by omega]; rfl
    clear hput
    refine qax hS 1 I.qhh (fun x : Nat × Int × Int × Int × List Int × List SV => septOk x.1 x.2.1 ∧ 0 ≤ x.2.1 ∧ x.2.1 < 2147483648 ∧ L = x.2.2.2.2.1 ++ sept x.1 x.2.1 ∧ x.2.2.1 = ilen x.2.2.2.2.1 ∧ x.2.2.1 + x.1 ≤ 6 ∧ x.2.2.2.2.2 = cellsB x.2.2.2.2.1)
      (fun x => [(0, .i .i64 (.y x.2.1)), (10, .sl 0 1 (.l 0) (.y x.2.2.1) none)]) (fun x => [(0, .r false false (.y x.2.2.2.1) 1 x.2.2.2.2.2)])
      (fun x => x.1) (5, q0, 1, 0, [v], [.i .u8 (.y v)]) rfl ⟨⟨hok0, by dsimp only; omega, by dsimp only; omega, hL0, rfl, by show (1 : Int) + ((5 : Nat) : Int) ≤ 6; decide, rfl⟩, rfl, ?_, ?_, ?_⟩ ?_
    · cbv; (repeat' (first | exact qef rfl rfl | exact qev | exact Sub.rfl | exact SubL.nil | refine SubL.cons ?_ ?_ | exact qak rfl))
    · cbv
      exact ⟨.r .rfl rfl rfl, trivial⟩
    · cbv
    · intro x
      obtain ⟨f, q, ln, st, B, G⟩ := x
      intro hx
      dsimp only at hx
      cbv
      obtain ⟨g0, g1, g2, g3, g4, g5, g6⟩ := hx
      have hG : ilen G = ln := by rw [g6, qao, g4]
      have hl0 := qag B
      have hln : ln ≤ 6 := by have : ln + (f : Int) ≤ 6 := g5; omega
      refine qac hS ?_ ?_ <;> intro h <;> cbv
      · obtain ⟨k1, k2, k3⟩ := qzo g0 (by omega)
        refine s_rem hS (by omega) fun y hy => ?_
        cbv
        repeat' (first
          | (refine s_st hS ?_; try cbv)
          | (refine qac hS ?_ ?_ <;> intro h <;> (try cbv) <;> try exact s_ab h)
          | (refine qah hS ?_; intro _ _; try cbv)
          | (refine qad hS ?_; try cbv)
          | (refine qkd hS (by rw [hG]; omega) ?_; cbv))
        rename_i y2 hy2
        refine qzq hS g1 (by decide) (by simp only [hi]; omega) fun q2 hq2 => ?_
        cbv
        obtain ⟨ln2, h_ln2⟩ : ∃ ln2, ln2 = ln + 1 := ⟨_, rfl⟩
        obtain ⟨st2, h_st2⟩ : ∃ st2, st2 = S.flen G := ⟨_, rfl⟩
        obtain ⟨G2, h_G2⟩ : ∃ G2, G2 = cellsB (B ++ [y2]) := ⟨_, rfl⟩
        have g5' : ln + (f : Int) ≤ 6 := g5
        have k3' : 2 ≤ f := k3
        have k4 : f - 1 < f := by omega
        have k5 : ln2 + ((f - 1 : Nat) : Int) ≤ 6 := by rw [h_ln2]; omega
        have k6 : 0 ≤ q2 ∧ q2 < 2147483648 := by omega
        refine ⟨(f - 1, q2, ln2, st2, B ++ [y2], G2), k4, ⟨by dsimp only; rw [hq2]; exact k2, k6.1, k6.2, ?_, ?_, k5, h_G2⟩, rfl, ?_, ?_, ?_⟩
        · dsimp only; rw [g3, k1, hq2, show q % 128 + 128 = y2 by omega]; simp
        · dsimp only; rw [h_ln2, g4, qzaai]
        · cbv; (repeat' (first | exact qef rfl (by simp only [Z.v, ← hS, Int.ofNat_eq_natCast, cq, Bool.not_eq_true', Bool.not_eq_false', decide_eq_true_eq, decide_eq_false_iff_not, beq_iff_eq, beq_eq_false_iff_ne, ne_eq]; omega) | exact qev | exact Sub.rfl | exact SubL.nil | refine SubL.cons ?_ ?_ | exact qak rfl))
        · cbv
          exact ⟨qwn hS g6.symm h_G2.symm rfl h_st2.symm, trivial⟩
        · cbv
      · have k1 := sept_end g0 (by omega)
        refine s_cv8 hS fun y hy => ?_
        cbv
        refine qkd hS (by rw [hG]; omega) ?_
        cbv
        repeat' (first
          | (refine s_st hS ?_; try cbv)
          | (refine qac hS ?_ ?_ <;> intro h <;> (try cbv) <;> try exact s_ab h)
          | (refine qah hS ?_; intro _ _; try cbv)
          | (refine qad hS ?_; try cbv))
        refine ⟨_, qbs (.cons .rfl (.cons (qak rfl) .nil)), qrx hS g6.symm hP (show L = B ++ [y] by rw [g3, k1, show y = q by omega]) (Nat.zero_le _) (by simp only [Z.v, ← hS, Int.ofNat_eq_natCast, cq, Bool.not_eq_true', Bool.not_eq_false', decide_eq_true_eq, decide_eq_false_iff_not, beq_iff_eq, beq_eq_false_iff_ne, ne_eq]; omega) rfl⟩
end Cz
namespace Cz
open Go Go.RowKit Go.Proofs
def byS (x : List UInt8) : List Int := x.map fun c => (c.toNat : Int)
theorem qty (x : List UInt8) : Hu.BOk (byS x) := by
  intro v hv
  unfold byS at hv
  rw [List.mem_map] at hv
  obtain ⟨c, _, rfl⟩ := hv
  have := c.toNat_lt
  omega
theorem qct (x : List UInt8) : ilen (byS x) = ilen x := by unfold byS ilen; rw [List.length_map]
theorem sb_eq {S : Sy} (hS : S0 Tryz.prog = S) (x : List UInt8) : S.sb x = cellsB (byS x) := by
  subst hS
  rw [qed]
  unfold byS
  rw [List.map_map]; rfl
theorem qnz {S : Sy} (hS : S0 Tryz.prog = S) (x : List UInt8) : S.slen x = ilen (byS x) := by rw [qct, ← hS]; rfl
theorem byS_strB {b : List Int} (h : Hu.BOk b) : byS (strB b) = b := by
  unfold strB byS
  rw [List.map_map]
  conv => rhs; rw [← List.map_id b]
  apply List.map_congr_left
  intro v hv
  have := h v hv
  simp; omega
section
variable {S : Sy} {l : List Blk} {K : SV → List Blk → Prop} {zn zk zu : Z} {n k up : Int}
theorem qsa (hS : S0 Tryz.prog = S) (n k up p : Int) (h1 : zn.v = n) (h2 : zk.v = k) (h3 : zu.v = up) (hn0 : 0 ≤ n) (hn1 : n < 2147483648) (hk1 : 1 ≤ k) (hk8 : k ≤ 8) (hp : 2 ^ k.toNat = p) (hu0 : 0 ≤ up) (hu1 : up < 256)
    (hK : ∀ F2 n2 st, cellsB (putI n p up) = F2 → n2 = ilen (putI n p up) → K (.tp [.sl (len l) 1 (.l 0) (.y n2) none, .i .i64 (.y 0)]) (snoc l (.r false false (.y st) 1 F2))) :
    S.call 76 [.i .i64 zn, .i .i64 zk, .i .u8 zu] l K := by
  subst h1 h2 h3
  exact qfy hS id (pput_f hn0 hn1 hk1 hk8 hp hu0 hu1) (.cons (qak rfl) (.cons (qak rfl) (.cons (qak rfl) .nil))) rfl trivial (by omega) (qae _) rfl (qdp _) fun st => hK _ _ st rfl rfl
theorem qkj (hS : S0 Tryz.prog = S) (n k up p : Int) (h1 : zn.v = n) (h2 : zk.v = k) (h3 : zu.v = up) (hn0 : 0 ≤ n) (hn1 : n < 2147483648) (hk1 : 1 ≤ k) (hk8 : k ≤ 8) (hp : 2 ^ k.toNat = p) (hu0 : 0 ≤ up) (hu1 : up < 256)
    (hK : ∀ F2 n2 st, cellsB (putI n p up) = F2 → n2 = ilen (putI n p up) → K (.tp [.sl (len l) 1 (.l 0) (.y n2) none, .i .i64 (.y 0)]) (snoc l (.r false false (.y st) 1 F2))) :
    S.call 52 [.i .i64 zn, .i .i64 zk, .i .u8 zu] l K := by
  subst h1 h2 h3
  exact qfy hS id (rpput_f hn0 hn1 hk1 hk8 hp hu0 hu1) (.cons (qak rfl) (.cons (qak rfl) (.cons (qak rfl) .nil))) rfl trivial (by omega) (qae _) rfl (qdp _) fun st => hK _ _ st rfl rfl
end
theorem sept_len : ∀ (f : Nat) (q : Int), ilen (sept f q) ≤ f
  | 0, q => by simp [sept, ilen]
  | f + 1, q => by
    rw [sept]
    split
    · unfold ilen; simp; omega
    · have := sept_len f (q / 128)
      unfold ilen at this ⊢
      simp only [List.length_cons]; omega
theorem qbx (n p up : Int) : 1 ≤ ilen (putI n p up) ∧ ilen (putI n p up) ≤ 6 := by
  unfold putI
  split
  · exact ⟨Int.le_refl _, by unfold ilen; simp⟩
  · have := sept_len 5 (n - (p - 1))
    have h0 := qag (sept 5 (n - (p - 1)))
    unfold ilen at this h0 ⊢
    simp only [List.length_cons]; omega
theorem qba {α : Type} (a b : List α) : ilen (a ++ b) = ilen a + ilen b := by unfold ilen; simp
theorem qnv {S : Sy} (hS : S0 Tryz.prog = S) {L : List Int} {F : List SV} {n : Int} (hF : cellsB L = F) (hn : n = ilen L) : S.sub F 0 n 1 = F := by
  subst hS hF hn
  show ((cellsB L).drop (0 * 1)).take ((ilen L).toNat * 1) = _
  have := qao L
  unfold ilen at *
  rw [List.take_of_length_le (by simp; omega)]; simp
theorem qbr {S : Sy} (hS : S0 Tryz.prog = S) {A B : List Int} {F G : List SV} (hF : F = cellsB A) (hG : G = cellsB B) : S.app F G = cellsB (A ++ B) := by
  subst hS hF hG
  rw [app_eq]; unfold cellsB; rw [List.flatMap_append]
theorem qhr {P X : List SV} {L : List Int} {q : Z} {k : Nat} {lit : Bool} {st : Z} {l' : List Blk} {n0 : Nat} (hX : X = cellsB L) (hP : cellsB L = P) (hk : n0 ≤ k) (hq : q.v = ilen L) (hB : l'[k]? = some (.r false lit st 1 X)) :
    OwnR n0 1 P false [] (.sl k 1 (.l 0) q none) l' := ⟨_, .rfl, qrw hX hP hk hq hB⟩
theorem put_ib (b : List Int) : ilen (Hu.put b) ≤ 2 * ilen b + 1 := by
  have h0 := qag b
  have h1 := Hu.qoe b
  have h2 := (qeu (b := b) (j := ilen b) h0).2
  have h3 : bitsI b (ilen b) = Hu.nbits b := by unfold bitsI; rw [qca (by omega)]
  unfold ilen at *
  omega
def plainT (b : List Int) : List Int := putI (ilen b) 128 0 ++ b
def packT (b : List Int) : List Int := putI (ilen (Hu.put b)) 128 128 ++ Hu.put b
def bestT (b : List Int) : List Int := if shortB b then packT b else plainT b
theorem tall0_f {x : List UInt8} (hx : ilen x ≤ 1000000) :
    (S0 Tryz.prog).call 83 [.s x, .fn (.func 99) [] []] [] (OwnR 0 1 (cellsB (plainT (byS x))) false []) := by
  generalize hP : cellsB (plainT (byS x)) = P
  have h0 := qag (byS x)
  have hxb := qct x
  generalize hS : S0 Tryz.prog = S
  have hsl := qnz hS x
  refine qab hS I.qsy ?_
  cbv
  repeat' (first
    | (refine s_st hS ?_; try cbv)
    | (refine qac hS ?_ ?_ <;> intro h <;> (try cbv) <;> try exact s_ab h)
    | (refine qah hS ?_; intro _ _; try cbv)
    | (refine qad hS ?_; try cbv)
    | (refine qab hS I.qpv ?_; cbv)
    | (refine qkk hS I.qkh ?_; cbv)
    | (refine qab hS I.qsx ?_; cbv))
  refine qsa hS (ilen (byS x)) 7 0 128 hsl rfl rfl h0 (by omega) (by decide) (by decide) rfl (by decide) (by decide) fun F2 n2 st hF2 hn2 => ?_
  have hpl := qbx (ilen (byS x)) 128 0
  rw [← hn2] at hpl
  have e1 : S.sub F2 0 n2 1 = F2 := qnv hS hF2 hn2
  have e2 : S.sub (S.sb x) 0 (S.slen x) 1 = cellsB (byS x) := by rw [sb_eq hS, hsl]; exact qnv hS rfl rfl
  have hfl : ilen (S.sub F2 0 n2 1) = n2 * 1 := by rw [e1, ← hF2, qao, hn2]; omega
  cbv
  repeat' (first
    | (refine s_st hS ?_; try cbv)
    | (refine qac hS ?_ ?_ <;> intro h <;> (try cbv) <;> try exact s_ab h)
    | (refine qah hS ?_; intro _ _; try cbv)
    | (refine qad hS ?_; try cbv)
    | (refine qmc hS rfl rfl ?_; cbv)
    | (refine qkd hS hfl ?_; cbv)
    | (refine s_stk hS ?_; try cbv))
  · refine qhr (qbr hS (e1.trans hF2.symm) e2) hP (Nat.zero_le _) ?_ rfl
    rw [qba, ← hn2, qct]
    simp only [Z.v, ← hS, Int.ofNat_eq_natCast, cr, Bool.not_eq_true', Bool.not_eq_false', decide_eq_true_eq, decide_eq_false_iff_not, beq_iff_eq, beq_eq_false_iff_ne, ne_eq]
theorem tall1_f {x : List UInt8} (hx : ilen x ≤ 1000000) :
    (S0 Tryz.prog).call 83 [.s x, .fn (.func 101) [] []] [] (OwnR 0 1 (cellsB (packT (byS x))) false []) := by
  generalize hP : cellsB (packT (byS x)) = P
  have h0 := qag (byS x)
  have hxb := qct x
  generalize hS : S0 Tryz.prog = S
  have hsl := qnz hS x
  refine qab hS I.qsy ?_
  cbv
  repeat' (first
    | (refine s_st hS ?_; try cbv)
    | (refine qac hS ?_ ?_ <;> intro h <;> (try cbv) <;> try exact s_ab h)
    | (refine qah hS ?_; intro _ _; try cbv)
    | (refine qad hS ?_; try cbv)
    | (refine qab hS I.qpv ?_; cbv)
    | (refine qkk hS I.qkh ?_; cbv)
    | (refine qab hS I.qqj ?_; cbv))
  have hsb := sb_eq hS x
  have hsf : FSub (S.sb x) (cellsB (byS x)) := by rw [hsb]; exact .rfl
  have hpb : ilen (Hu.put (byS x)) ≤ 2000001 := by
    have h1 := put_ib (byS x)
    omega
  have hp0 := qag (Hu.put (byS x))
  refine put_u hS (b := byS x) (qty x) (by omega) rfl hsf hsl fun F1 n1 st1 hF1 hn1 => ?_
  cbv
  refine qsa hS (ilen (Hu.put (byS x))) 7 128 128 hn1 rfl rfl hp0 (by omega) (by decide) (by decide) rfl (by decide) (by decide) fun F2 n2 st hF2 hn2 => ?_
  have hpl := qbx (ilen (Hu.put (byS x))) 128 128
  rw [← hn2] at hpl
  have e1 : S.sub F2 0 n2 1 = F2 := qnv hS hF2 hn2
  have e2 : S.sub F1 0 n1 1 = F1 := qnv hS hF1 hn1
  have hfl : ilen (S.sub F2 0 n2 1) = n2 * 1 := by rw [e1, ← hF2, qao, hn2]; omega
  cbv
  repeat' (first
    | (refine s_st hS ?_; try cbv)
    | (refine qac hS ?_ ?_ <;> intro h <;> (try cbv) <;> try exact s_ab h)
    | (refine qah hS ?_; intro _ _; try cbv)
    | (refine qad hS ?_; try cbv)
    | (refine qmc hS rfl rfl ?_; cbv)
    | (refine qkd hS hfl ?_; cbv)
    | (refine s_stk hS ?_; try cbv))
  · refine qhr (qbr hS (e1.trans hF2.symm) (e2.trans hF1.symm)) hP (Nat.zero_le _) ?_ rfl
    rw [qba, ← hn2, ← hn1]
    simp only [Z.v, ← hS, Int.ofNat_eq_natCast, cr, Bool.not_eq_true', Bool.not_eq_false', decide_eq_true_eq, decide_eq_false_iff_not, beq_iff_eq, beq_eq_false_iff_ne, ne_eq]
theorem rtplain_f {x : List UInt8} (hx : ilen x ≤ 1000000) :
    (S0 Tryz.prog).call 86 [.s x] [] (OwnR 0 1 (cellsB (plainT (byS x))) false []) := by
  generalize hP : cellsB (plainT (byS x)) = P
  have h0 := qag (byS x)
  have hxb := qct x
  generalize hS : S0 Tryz.prog = S
  have hsl := qnz hS x
  have hsb := sb_eq hS x
  have hsf : FSub (S.sb x) (cellsB (byS x)) := by rw [hsb]; exact .rfl
  refine qab hS I.qjv ?_
  cbv
  refine qkj hS (ilen (byS x)) 7 0 128 hsl rfl rfl h0 (by omega) (by decide) (by decide) rfl (by decide) (by decide) fun F2 n2 st hF2 hn2 => ?_
  have hpl := qbx (ilen (byS x)) 128 0
  rw [← hn2] at hpl
  have hfl : ilen F2 = n2 * 1 := by rw [← hF2, qao, hn2]; omega
  cbv
  repeat' (first
    | (refine s_st hS ?_; try cbv)
    | (refine qac hS ?_ ?_ <;> intro h <;> (try cbv) <;> try exact s_ab h)
    | (refine qah hS ?_; intro _ _; try cbv)
    | (refine qad hS ?_; try cbv)
    | (refine qkd hS hfl ?_; cbv)
    | (refine s_stk hS ?_; try cbv))
  · refine qhr (qbr hS hF2.symm hsb) hP (Nat.zero_le _) ?_ rfl
    rw [qba, ← hn2, qct]
    simp only [Z.v, ← hS, Int.ofNat_eq_natCast, cr, Bool.not_eq_true', Bool.not_eq_false', decide_eq_true_eq, decide_eq_false_iff_not, beq_iff_eq, beq_eq_false_iff_ne, ne_eq]
theorem rtbits_f {x : List UInt8} (hx : ilen x ≤ 5000) :
    (S0 Tryz.prog).call 85 [.s x] [] (OwnR 0 1 (cellsB (packT (byS x))) false []) := by
  generalize hP : cellsB (packT (byS x)) = P
  have h0 := qag (byS x)
  have hxb := qct x
  generalize hS : S0 Tryz.prog = S
  have hsl := qnz hS x
  have hsb := sb_eq hS x
  have hsf : FSub (S.sb x) (cellsB (byS x)) := by rw [hsb]; exact .rfl
  have hpb : ilen (Hu.put (byS x)) ≤ 2000001 := by
    have h1 := put_ib (byS x)
    omega
  have hp0 := qag (Hu.put (byS x))
  refine qab hS I.qlk ?_
  cbv
  refine rput_u hS (b := byS x) (qty x) (by omega) rfl hsf hsl fun F1 n1 st1 hF1 hn1 => ?_
  cbv
  refine qkj hS (ilen (Hu.put (byS x))) 7 128 128 hn1 rfl rfl hp0 (by omega) (by decide) (by decide) rfl (by decide) (by decide) fun F2 n2 st hF2 hn2 => ?_
  have hpl := qbx (ilen (Hu.put (byS x))) 128 128
  rw [← hn2] at hpl
  have e2 : S.sub F1 0 n1 1 = F1 := qnv hS hF1 hn1
  have hfl : ilen F2 = n2 * 1 := by rw [← hF2, qao, hn2]; omega
  cbv
  repeat' (first
    | (refine s_st hS ?_; try cbv)
    | (refine qac hS ?_ ?_ <;> intro h <;> (try cbv) <;> try exact s_ab h)
    | (refine qah hS ?_; intro _ _; try cbv)
    | (refine qad hS ?_; try cbv)
    | (refine qkd hS hfl ?_; cbv)
    | (refine s_stk hS ?_; try cbv))
  · refine qhr (qbr hS hF2.symm (e2.trans hF1.symm)) hP (Nat.zero_le _) ?_ rfl
    rw [qba, ← hn2, ← hn1]
    simp only [Z.v, ← hS, Int.ofNat_eq_natCast, cr, Bool.not_eq_true', Bool.not_eq_false', decide_eq_true_eq, decide_eq_false_iff_not, beq_iff_eq, beq_eq_false_iff_ne, ne_eq]
end Cz
namespace Cz
open Go Go.RowKit Go.Proofs
section
variable {S : Sy} {l : List Blk} {K : SV → List Blk → Prop} {x : List UInt8}
theorem tall0_u (hS : S0 Tryz.prog = S) (hx : ilen x ≤ 1000000)
    (hK : ∀ F2 n2 st, cellsB (plainT (byS x)) = F2 → n2 = ilen (plainT (byS x)) → K (.sl (len l) 1 (.l 0) (.y n2) none) (snoc l (.r false false (.y st) 1 F2))) : S.call 83 [.s x, .fn (.func 99) [] []] l K :=
  qfy hS id (tall0_f hx) (.cons .rfl (.cons .rfl .nil)) rfl trivial (by omega) (qae _) rfl (qdp _) fun st => hK _ _ st rfl rfl
theorem tall1_u (hS : S0 Tryz.prog = S) (hx : ilen x ≤ 1000000)
    (hK : ∀ F2 n2 st, cellsB (packT (byS x)) = F2 → n2 = ilen (packT (byS x)) → K (.sl (len l) 1 (.l 0) (.y n2) none) (snoc l (.r false false (.y st) 1 F2))) : S.call 83 [.s x, .fn (.func 101) [] []] l K :=
  qfy hS id (tall1_f hx) (.cons .rfl (.cons .rfl .nil)) rfl trivial (by omega) (qae _) rfl (qdp _) fun st => hK _ _ st rfl rfl
theorem rtplain_u (hS : S0 Tryz.prog = S) (hx : ilen x ≤ 1000000)
    (hK : ∀ F2 n2 st, cellsB (plainT (byS x)) = F2 → n2 = ilen (plainT (byS x)) → K (.sl (len l) 1 (.l 0) (.y n2) none) (snoc l (.r false false (.y st) 1 F2))) : S.call 86 [.s x] l K :=
  qfy hS id (rtplain_f hx) (.cons .rfl .nil) rfl trivial (by omega) (qae _) rfl (qdp _) fun st => hK _ _ st rfl rfl
theorem rtbits_u (hS : S0 Tryz.prog = S) (hx : ilen x ≤ 5000)
    (hK : ∀ F2 n2 st, cellsB (packT (byS x)) = F2 → n2 = ilen (packT (byS x)) → K (.sl (len l) 1 (.l 0) (.y n2) none) (snoc l (.r false false (.y st) 1 F2))) : S.call 85 [.s x] l K :=
  qfy hS id (rtbits_f hx) (.cons .rfl .nil) rfl trivial (by omega) (qae _) rfl (qdp _) fun st => hK _ _ st rfl rfl
end
theorem tbest_f {x : List UInt8} (hx : ilen x ≤ 1000000) :
    (S0 Tryz.prog).call 54 [.s x] [] (OwnR 0 1 (cellsB (bestT (byS x))) false []) := by
  have hL : bestT (byS x) = if shortB (byS x) then packT (byS x) else plainT (byS x) := rfl
  generalize bestT (byS x) = L at hL ⊢
  generalize hP : cellsB L = P
  have hxb := qct x
  generalize hS : S0 Tryz.prog = S
  have hsl := qnz hS x
  have hsb := sb_eq hS x
  have hsf : FSub (S.sb x) (cellsB (byS x)) := by rw [hsb]; exact .rfl
  refine qab hS I.qzaar ?_
  cbv
  refine qab hS I.qxv ?_
  cbv
  refine short_u hS (b := byS x) (qty x) (by omega) rfl hsf hsl fun t ht => ?_
  rw [ht] at hL
  cbv
  refine s_br hS ?_ ?_ <;> intro h <;> cbv
  · rw [h] at hL
    refine qab hS I.quw ?_
    cbv
    refine tall1_u hS hx fun F2 n2 st hF2 hn2 => ?_
    cbv
    exact qhr (L := L) (by rw [hL]; exact hF2.symm) hP (Nat.zero_le _) (by rw [hL]; exact hn2) rfl
  · rw [h] at hL
    refine tall0_u hS hx fun F2 n2 st hF2 hn2 => ?_
    cbv
    exact qhr (L := L) (by rw [hL]; exact hF2.symm) hP (Nat.zero_le _) (by rw [hL]; exact hn2) rfl
theorem rtbest_f {x : List UInt8} (hx : ilen x ≤ 5000) :
    (S0 Tryz.prog).call 56 [.s x] [] (OwnR 0 1 (cellsB (bestT (byS x))) false []) := by
  have hL : bestT (byS x) = if shortB (byS x) then packT (byS x) else plainT (byS x) := rfl
  generalize bestT (byS x) = L at hL ⊢
  generalize hP : cellsB L = P
  have hxb := qct x
  generalize hS : S0 Tryz.prog = S
  have hsl := qnz hS x
  have hsb := sb_eq hS x
  have hsf : FSub (S.sb x) (cellsB (byS x)) := by rw [hsb]; exact .rfl
  refine qab hS I.qll ?_
  cbv
  refine rshort_u hS (b := byS x) (qty x) (by omega) rfl hsf hsl fun t ht => ?_
  rw [ht] at hL
  cbv
  refine s_br hS ?_ ?_ <;> intro h <;> cbv
  · rw [h] at hL
    refine rtbits_u hS hx fun F2 n2 st hF2 hn2 => ?_
    cbv
    exact qhr (L := L) (by rw [hL]; exact hF2.symm) hP (Nat.zero_le _) (by rw [hL]; exact hn2) rfl
  · rw [h] at hL
    refine rtplain_u hS (by omega) fun F2 n2 st hF2 hn2 => ?_
    cbv
    exact qhr (L := L) (by rw [hL]; exact hF2.symm) hP (Nat.zero_le _) (by rw [hL]; exact hn2) rfl
end Cz
namespace Cz
open Go Go.RowKit Go.Proofs
theorem s_bsx {S : Sy} (hS : S0 Tryz.prog = S) {l : List Int} {F : List SV} {n : Int} {x : List UInt8} {K : List UInt8 → Prop} (hb : Hu.BOk l) (hF : cellsB l = F) (hn : n = ilen l) (hx : strB l = x) (h : K x) : S.bs F 0 n K := s_bs hS hb hF hn (hx ▸ h)
theorem v_take3 : takeL [49, 141] = [97, 97, 97] ∧ takeE [49, 141] = 0 := by
  have := Hu.take_put [97, 97, 97] (bok1 (by decide))
  rw [show Hu.put [97, 97, 97] = [49, 141] by decide +kernel] at this
  unfold takeL takeE; rw [this]; exact ⟨rfl, rfl⟩
theorem v_take4 : takeE [255] = 70 := by
  have h1 : Hu.bl [255] = List.replicate 8 true := by decide +kernel
  have : Hu.take [255] = none := by
    unfold Hu.take
    rw [h1, Hu.dec_none (Hu.sym_ones 8)]
    simp
  unfold takeE; rw [this]; rfl
theorem v1 : tTake [130, 49, 141, 9] = ([97, 97, 97], [9], 0) := by
  unfold tTake
  rw [show preE [130, 49, 141, 9] 128 = 0 by decide +kernel, show preN [130, 49, 141, 9] 128 = 2 by decide +kernel, show preR [130, 49, 141, 9] 128 = [49, 141, 9] by decide +kernel,
    show part [49, 141, 9] 0 2 = [49, 141] by decide +kernel, v_take3.1, v_take3.2]
  decide +kernel
theorem v2 : tTake [2, 97] = ([], [], 10) := by decide +kernel
theorem v3 : tTake [129, 255] = ([], [], 70) := by
  unfold tTake
  rw [show preE [129, 255] 128 = 0 by decide +kernel, show preN [129, 255] 128 = 1 by decide +kernel, show preR [129, 255] 128 = [255] by decide +kernel,
    show part [255] 0 1 = [255] by decide +kernel, v_take4]
  decide +kernel
theorem qof {n p up : Int} (h0 : 0 ≤ n) (hp : 2 ≤ p) (hp1 : p ≤ 256) (hu : 0 ≤ up - up % p) (hu1 : up - up % p + p ≤ 256) : Hu.BOk (putI n p up) := by
  have hs : ∀ (f : Nat) (q : Int), 0 ≤ q → Hu.BOk (sept f q) := by
    intro f
    induction f with
    | zero => intro q _ v hv; cases hv
    | succ f ih =>
      intro q hq v hv
      rw [sept] at hv
      split at hv
      · rw [List.mem_singleton] at hv; omega
      · rcases List.mem_cons.1 hv with h | h
        · omega
        · exact ih _ (by omega) v h
  intro v hv
  unfold putI at hv
  split at hv
  · rw [List.mem_singleton] at hv; omega
  · rcases List.mem_cons.1 hv with h | h
    · omega
    · exact hs _ _ (by omega) v h
theorem plainT_ok {b : List Int} (hb : Hu.BOk b) : Hu.BOk (plainT b) := by
  intro v hv
  rcases List.mem_append.1 hv with h | h
  · exact qof (qag b) (by decide) (by decide) (by decide) (by decide) v h
  · exact hb v h
theorem packT_ok (b : List Int) : Hu.BOk (packT b) := by
  intro v hv
  rcases List.mem_append.1 hv with h | h
  · exact qof (qag _) (by decide) (by decide) (by decide) (by decide) v h
  · exact Hu.put_ok b v h
theorem qyt {b : List Int} (hb : Hu.BOk b) : Hu.BOk (bestT b) := by
  unfold bestT
  split
  · exact packT_ok b
  · exact plainT_ok hb
end Cz
namespace Cz
open Go Go.RowKit Go.Proofs
end Cz
namespace Cz
open Go Go.RowKit Go.Proofs
end Cz
namespace Cz
open Go Go.RowKit Go.Proofs
theorem qua {a b : List Int} (ha : Hu.BOk a) (hb : Hu.BOk b) : Hu.BOk (a ++ b) := fun v hv => (List.mem_append.1 hv).elim (ha v) (hb v)
end Cz
namespace Cz
open Go Go.RowKit Go.Proofs
namespace Tb
abbrev Fd := List UInt8 × List UInt8
def stL : List Fd :=
   [([58, 109, 101, 116, 104, 111, 100], [71, 69, 84]),
    ([58, 109, 101, 116, 104, 111, 100], [80, 79, 83, 84]),
    ([58, 112, 97, 116, 104], [47]),
    ([58, 115, 99, 104, 101, 109, 101], [104, 116, 116, 112]),
    ([58, 115, 99, 104, 101, 109, 101], [104, 116, 116, 112, 115]),
    ([58, 115, 116, 97, 116, 117, 115], [50, 48, 48]),
    ([58, 115, 116, 97, 116, 117, 115], [50, 48, 52]),
    ([58, 115, 116, 97, 116, 117, 115], [52, 48, 52]),
    ([58, 115, 116, 97, 116, 117, 115], [53, 48, 48]),
    ([97, 99, 99, 101, 112, 116], []),
    ([99, 111, 110, 116, 101, 110, 116, 45, 108, 101, 110, 103, 116, 104], []),
    ([99, 111, 110, 116, 101, 110, 116, 45, 116, 121, 112, 101], []),
    ([99, 111, 111, 107, 105, 101], []),
    ([100, 97, 116, 101], []),
    ([104, 111, 115, 116], []),
    ([108, 111, 99, 97, 116, 105, 111, 110], []),
    ([112, 114, 105, 111, 114, 105, 116, 121], []),
    ([112, 114, 105, 111, 114, 105, 116, 121], [117, 61, 49]),
    ([115, 101, 114, 118, 101, 114], []),
    ([117, 115, 101, 114, 45, 97, 103, 101, 110, 116], [])]
def lineL : List (List UInt8) :=
   [[58, 109, 101, 116, 104, 111, 100, 32, 71, 69, 84],
    [58, 109, 101, 116, 104, 111, 100, 32, 80, 79, 83, 84],
    [58, 112, 97, 116, 104, 32, 47],
    [58, 115, 99, 104, 101, 109, 101, 32, 104, 116, 116, 112],
    [58, 115, 99, 104, 101, 109, 101, 32, 104, 116, 116, 112, 115],
    [58, 115, 116, 97, 116, 117, 115, 32, 50, 48, 48],
    [58, 115, 116, 97, 116, 117, 115, 32, 50, 48, 52],
    [58, 115, 116, 97, 116, 117, 115, 32, 52, 48, 52],
    [58, 115, 116, 97, 116, 117, 115, 32, 53, 48, 48],
    [97, 99, 99, 101, 112, 116],
    [99, 111, 110, 116, 101, 110, 116, 45, 108, 101, 110, 103, 116, 104],
    [99, 111, 110, 116, 101, 110, 116, 45, 116, 121, 112, 101],
    [99, 111, 111, 107, 105, 101],
    [100, 97, 116, 101],
    [104, 111, 115, 116],
    [108, 111, 99, 97, 116, 105, 111, 110],
    [112, 114, 105, 111, 114, 105, 116, 121],
    [112, 114, 105, 111, 114, 105, 116, 121, 32, 117, 61, 49],
    [115, 101, 114, 118, 101, 114],
    [117, 115, 101, 114, 45, 97, 103, 101, 110, 116]]
def joinT : List (List UInt8) → List UInt8
  | [] => []
  | [x] => x
  | x :: y :: r => x ++ 10 :: joinT (y :: r)
def remT (j : Nat) : List UInt8 := joinT (lineL.drop j)
def szF (f : Fd) : Int := ilen f.1 + ilen f.2 + 32
theorem qnu (f : Fd) : 32 ≤ szF f := by have := qag f.1; have := qag f.2; unfold szF; omega
def fullL : List Fd → Int
  | [] => 0
  | f :: r => szF f + fullL r
theorem qgn : ∀ l : List Fd, 0 ≤ fullL l
  | [] => by simp [fullL]
  | f :: r => by have := qnu f; have := qgn r; simp only [fullL]; omega
theorem qst : ∀ l m : List Fd, fullL (l ++ m) = fullL l + fullL m
  | [], m => by simp [fullL]
  | f :: r, m => by simp only [List.cons_append, fullL, qst r m]; omega
theorem qby : ∀ l : List Fd, 32 * ilen l ≤ fullL l
  | [] => by simp [fullL, ilen]
  | f :: r => by have := qnu f; have := qby r; simp only [fullL, ilen, List.length_cons] at *; omega
theorem qfq {l : List Fd} {i : Int} {f : Fd} (h : l[i.toNat]? = some f) (h0 : 0 ≤ i) : fullL (l.take (i + 1).toNat) = fullL (l.take i.toNat) + szF f := by
  rw [qdd h h0, qst]; simp [fullL]
theorem qdh (l : List Fd) (n : Nat) : fullL (l.take n) ≤ fullL l := by
  conv => rhs; rw [← List.take_append_drop n l]
  rw [qst]
  have := qgn (l.drop n); omega
theorem qxt {l : List Fd} {i : Nat} {f : Fd} (h : l[i]? = some f) : szF f ≤ fullL l := by
  have h1 := qdh l (i + 1)
  have h2 := qfq (i := i) (by simpa using h) (by omega)
  have h3 := qgn (l.take i)
  rw [show ((i : Int) + 1).toNat = i + 1 by omega] at h2
  simp only [Int.toNat_natCast] at h2
  omega
def rightL (mx : Int) (l : List Fd) : Bool := decide (0 ≤ mx ∧ mx ≤ 4096 ∧ fullL l ≤ mx)
def evN (mx : Int) (l : List Fd) : Nat → Nat
  | 0 => 0
  | n + 1 => if fullL (l.take (n + 1)) ≤ mx then n + 1 else evN mx l n
def evL (mx : Int) (l : List Fd) : List Fd := l.take (evN mx l l.length)
theorem evN_le (mx : Int) (l : List Fd) : ∀ n, evN mx l n ≤ n
  | 0 => Nat.le_refl _
  | n + 1 => by
    simp only [evN]
    split
    · exact Nat.le_refl _
    · exact Nat.le_succ_of_le (evN_le mx l n)
theorem qyg {mx : Int} {l : List Fd} {n : Nat} (h : fullL (l.take n) ≤ mx) : evN mx l n = n := by
  cases n with
  | zero => rfl
  | succ n => rw [evN, if_pos h]
theorem evN_next {mx : Int} {l : List Fd} {n : Nat} (h : ¬fullL (l.take (n + 1)) ≤ mx) : evN mx l (n + 1) = evN mx l n := by rw [evN, if_neg h]
theorem evN_full {mx : Int} {l : List Fd} (h0 : 0 ≤ mx) : ∀ n, fullL (l.take (evN mx l n)) ≤ mx
  | 0 => by simpa [evN, fullL] using h0
  | n + 1 => by
    by_cases h : fullL (l.take (n + 1)) ≤ mx
    · rw [qyg h]; exact h
    · rw [evN_next h]; exact evN_full h0 n
theorem qzaay {mx : Int} {l : List Fd} (h0 : 0 ≤ mx) : fullL (evL mx l) ≤ mx := evN_full h0 _
theorem qyi {mx : Int} {l : List Fd} (h : fullL l ≤ mx) : evL mx l = l := by
  unfold evL
  rw [qyg (by rw [List.take_length]; exact h), List.take_length]
abbrev Tab := Int × List Fd
def newR (most : Int) : Tab × Int := if most < 0 ∨ 4096 < most then ((0, []), 2) else ((most, []), 0)
def addR (t : Tab) (f : Fd) : Tab × Int := if rightL t.1 t.2 then ((t.1, evL t.1 (f :: t.2)), 0) else ((0, []), 2)
def resR (t : Tab) (most : Int) : Tab × Int := if rightL t.1 t.2 = true ∧ 0 ≤ most ∧ most ≤ 4096 then ((most, evL most t.2), 0) else ((0, []), 2)
def allF (l : List Fd) : List Fd := stL ++ l
def atR (l : List Fd) (i : Int) : Fd × Int := if i < 1 then (([], []), 90) else match (allF l)[(i - 1).toNat]? with
  | some f => (f, 0)
  | none => (([], []), 90)
def fstI (p : Fd → Bool) : List Fd → Int → Int
  | [], _ => 0
  | x :: r, i => if p x then i else fstI p r (i + 1)
def findR (l : List Fd) (f : Fd) : Int × Bool :=
  if fstI (fun x => x == f) (allF l) 1 ≠ 0 then (fstI (fun x => x == f) (allF l) 1, true) else (fstI (fun x => x.1 == f.1) (allF l) 1, false)
theorem qfz : stL.length = 20 := rfl
theorem line_facts : ∀ j : Fin 20, idxI (remT j.val) 10 = (if j.val < 19 then ilen (lineL.getD j.val []) else -1) ∧
    (remT j.val).take (lineL.getD j.val []).length = lineL.getD j.val [] ∧ (j.val < 19 → (remT j.val).drop ((lineL.getD j.val []).length + 1) = remT (j.val + 1)) ∧ (j.val = 19 → remT j.val = lineL.getD j.val []) ∧
    (if idxI (lineL.getD j.val []) 32 < 0 then stL.getD j.val ([], []) = (lineL.getD j.val [], []) else
      stL.getD j.val ([], []) = ((lineL.getD j.val []).take (idxI (lineL.getD j.val []) 32).toNat, (lineL.getD j.val []).drop ((idxI (lineL.getD j.val []) 32).toNat + 1))) ∧ ilen (lineL.getD j.val []) ≤ 20 ∧ ilen (remT j.val) ≤ 300 ∧ idxI (lineL.getD j.val []) 32 < ilen (lineL.getD j.val []) := by
  decide +kernel
end Tb
end Cz
namespace Cz
open Go Go.RowKit Go.Proofs
namespace Tb
def fdE (f : Fd) : List SV := [.s f.1, .s f.2]
def cellsF (l : List Fd) : List SV := l.flatMap fdE
theorem qdc (l : List Fd) : plains (cellsF l) = true := qkl (fun _ => rfl) l
theorem qiw (l : List Fd) : (cellsF l).length = l.length * 2 := qyd (enc := fdE) (fun _ => rfl) l
def tabV (mx : Int) (l : List Fd) : SV := .ag [.i .i64 (.y mx), .v false 2 (cellsF l) (.y (ilen l))]
theorem cells_take (l : List Fd) (n : Nat) : (cellsF l).take (n * 2) = cellsF (l.take n) := by
  induction l generalizing n with
  | nil => simp [cellsF]
  | cons f l ih =>
    cases n with
    | zero => simp [cellsF]
    | succ n =>
      have := ih n
      simp only [cellsF, List.flatMap_cons, fdE, List.take_succ_cons] at this ⊢
      rw [show (n + 1) * 2 = n * 2 + 1 + 1 by omega]
      simp only [List.cons_append, List.nil_append, List.take_succ_cons]
      rw [this]
theorem qzabw {l' : List Blk} {g : Nat → Nat} {ks : List (Option Nat)} {k : Nat} {len : Z} {cap : Option Z} {lit : Bool} {st : Z} {F : List SV} {lit' : Bool} {n : Z} {l : List Fd} {m : Nat} (hB : l'[k]? = some (.r false lit st 2 F)) (hk : kpOf ks k = none)
    (hF : F = cellsF l) (hm : len.v = m) (hn : len.v = n.v) : Fz l' g ks (.sl k 2 (.l 0) len cap) (.v lit' 2 (cellsF (l.take m)) n) := by
  refine fz_row hB hk ?_ (qdc _) hn
  rw [hF, show (Z.l 0).v.toNat * 2 = 0 from rfl, List.drop_zero, show len.v.toNat = m by omega, cells_take]
inductive TabC (bl : List Blk) : List SV → Int → List Fd → Prop where
  | v {z n : Z} {lit : Bool} {F : List SV} {mx : Int} {l : List Fd} (hz : z.v = mx) (hF : cellsF l = F) (hn : n.v = ilen l) : TabC bl [.i .i64 z, .v lit 2 F n] mx l
  | nil {z : Z} {mx : Int} (hz : z.v = mx) : TabC bl [.i .i64 z, .re (.slice none 0 0)] mx []
  | row {z n st : Z} {k : Nat} {lit : Bool} {cap : Option Z} {F : List SV} {mx : Int} {l l0 : List Fd} (hz : z.v = mx) (hB : lget bl k = .r false lit st 2 F) (hF : cellsF l0 = F) (hl : l = l0.take n.v.toNat) (hn : n.v = ilen l) : TabC bl [.i .i64 z, .sl k 2 (.l 0) n cap] mx l
theorem TabC.fz {bl : List Blk} {cs : List SV} {mx : Int} {l : List Fd} (h : TabC bl cs mx l) {g : Nat → Nat} : FzL bl g [] [.ag cs] [tabV mx l] := by
  cases h with
  | v hz hF hn => exact .cons (.ag (.cons (.sub (qak hz) rfl) (.cons (.sub (qck hF.symm hn) rfl) .nil))) .nil
  | nil hz => exact .cons (.ag (.cons (.sub (qak hz) rfl) (.cons (.sub (qvh (by decide) rfl rfl) rfl) .nil))) .nil
  | @row z n st k lit cap F mx l l0 hz hB hF hl hn =>
    subst hl
    refine .cons (.ag (.cons (.sub (qak hz) rfl) (.cons (qzabw (qap hB (by simp)) rfl hF.symm ?_ hn) .nil))) .nil
    have := qag (l0.take n.v.toNat)
    omega
theorem TabC.sub {cs : List SV} {mx : Int} {l : List Fd} (h : TabC [] cs mx l) : SubL [.ag cs] [tabV mx l] := by
  cases h with
  | v hz hF hn => exact .cons (qfe (.cons (qak hz) (.cons (qck hF.symm hn) .nil))) .nil
  | nil hz => exact .cons (qfe (.cons (qak hz) (.cons (qvh (by decide) rfl rfl) .nil))) .nil
  | row hz hB hF hl hn => simp [lget] at hB
theorem rowF {S : Sy} (hS : S0 Tryz.prog = S) {l : List Fd} {F : List SV} (hF : cellsF l = F) {q : Int} {a b : List UInt8} {K : SV → Prop} (hv : l[q.toNat]? = some (a, b)) (h0 : 0 ≤ q) (h : K (.ag [.s a, .s b])) : S.rd F q 2 0 2 true K :=
  s_rowp hS (enc := fdE) hF hv (fun _ => rfl) h0 (Nat.le_refl _) rfl h
theorem rowF1 {S : Sy} (hS : S0 Tryz.prog = S) {l : List Fd} {F : List SV} (hF : cellsF l = F) {q : Int} {a b : List UInt8} {K : SV → Prop} (hv : l[q.toNat]? = some (a, b)) (h0 : 0 ≤ q) (h : K (.s a)) : S.rd F q 2 0 1 false K :=
  s_rowp hS (enc := fdE) hF hv (fun _ => rfl) h0 (by decide) rfl h
theorem rowF2 {S : Sy} (hS : S0 Tryz.prog = S) {l : List Fd} {F : List SV} (hF : cellsF l = F) {q : Int} {a b : List UInt8} {K : SV → Prop} (hv : l[q.toNat]? = some (a, b)) (h0 : 0 ≤ q) (h : K (.s b)) : S.rd F q 2 1 1 false K :=
  s_rowp hS (enc := fdE) hF hv (fun _ => rfl) h0 (by decide) rfl h
theorem size_f {a b : List UInt8} {n : Int} (hn : n = szF (a, b)) (h : n ≤ 1000000000000000000) : (S0 Tryz.prog).call 38 [.ag [.s a, .s b]] [] (fun y _ => Sub y (.i .i64 (.y n))) := by
  generalize hS : S0 Tryz.prog = S
  have g1 := qag a
  have g2 := qag b
  have hn' : n = ilen a + ilen b + 32 := hn
  refine qab hS I.qxw ?_
  cbv
  repeat' (first
    | (refine s_st hS ?_; try cbv)
    | (refine qac hS ?_ ?_ <;> intro h <;> (try cbv) <;> try exact s_ab h)
    | (refine qah hS ?_; intro _ _; try cbv)
    | (refine qad hS ?_; try cbv)
    | (refine qan hS ?_; intro _ _; try cbv)
    | (refine qbj hS ?_; try cbv)
    | fail)
  refine qak ?_
  simp only [Z.v]; omega
theorem rsize_f {a b : List UInt8} {n : Int} (hn : n = szF (a, b)) (h : n ≤ 1000000000000000000) : (S0 Tryz.prog).call 58 [.ag [.s a, .s b]] [] (fun y _ => Sub y (.i .i64 (.y n))) := by
  generalize hS : S0 Tryz.prog = S
  have g1 := qag a
  have g2 := qag b
  have hn' : n = ilen a + ilen b + 32 := hn
  refine qab hS I.qlg ?_
  cbv
  repeat' (first
    | (refine s_st hS ?_; try cbv)
    | (refine qac hS ?_ ?_ <;> intro h <;> (try cbv) <;> try exact s_ab h)
    | (refine qah hS ?_; intro _ _; try cbv)
    | (refine qad hS ?_; try cbv)
    | (refine qan hS ?_; intro _ _; try cbv)
    | (refine qbj hS ?_; try cbv)
    | fail)
  refine qak ?_
  simp only [Z.v]; omega
section
variable {S : Sy} {bl : List Blk} {K : SV → List Blk → Prop}
theorem size_u (hS : S0 Tryz.prog = S) {a b : List UInt8} (h : szF (a, b) ≤ 1000000000000000000) (hK : ∀ n, n = szF (a, b) → K (.i .i64 (.y n)) bl) : S.call 38 [.ag [.s a, .s b]] bl K :=
  qbc hS (size_f rfl h) .rfl rfl rfl (hK _ rfl)
theorem rsize_u (hS : S0 Tryz.prog = S) {a b : List UInt8} (h : szF (a, b) ≤ 1000000000000000000) (hK : ∀ n, n = szF (a, b) → K (.i .i64 (.y n)) bl) : S.call 58 [.ag [.s a, .s b]] bl K :=
  qbc hS (rsize_f rfl h) .rfl rfl rfl (hK _ rfl)
end
theorem full_f {mx : Int} {l : List Fd} {n : Int} (hn : n = fullL l) (h : n ≤ 100000000) : (S0 Tryz.prog).call 69 [tabV mx l] [] (fun y _ => Sub y (.i .i64 (.y n))) := by
  generalize hF : cellsF l = F
  obtain ⟨m, hm⟩ : ∃ m, m = ilen l := ⟨_, rfl⟩
  have hlen := qby l
  have h0 := qag l
  unfold tabV
  rw [hF, ← hm]
  generalize hS : S0 Tryz.prog = S
  refine qab hS I.qxx ?_
  cbv
  refine qax hS 1 I.qpa (fun x : Int × Int => 0 ≤ x.1 ∧ x.1 ≤ m ∧ x.2 = fullL (l.take x.1.toNat)) (fun x => [(2, .i .i64 (.y x.2)), (8, .i .i64 (.y x.1))]) (fun _ => []) (fun x => (m - x.1).toNat) (0, 0) rfl
    ⟨⟨Int.le_refl _, by omega, rfl⟩, rfl, ?_, ?_, by cbv⟩ ?_
  · cbv; all_goals exact s_sA
  · cbv; all_goals exact s_bA
  intro x
  obtain ⟨i, s⟩ := x
  intro hx
  dsimp only at hx
  cbv
  obtain ⟨k0, k1, k2⟩ := hx
  have hs0 := qgn (l.take i.toNat)
  have hs1 := qdh l i.toNat
  rw [← k2] at hs0 hs1
  refine qac hS ?_ ?_ <;> intro h <;> cbv
  · obtain ⟨⟨a, b⟩, hp⟩ := qka (l := l) (i := i) (by omega) k0
    have hsz := qxt hp
    have hsp := qnu (a, b)
    have hnx := qfq hp k0
    rw [← k2] at hnx
    have hs2 := qdh l (i + 1).toNat
    repeat' (first
      | (refine s_st hS ?_; try cbv)
      | (refine qac hS ?_ ?_ <;> intro h <;> (try cbv) <;> try exact s_ab h)
      | (refine qah hS ?_; intro _ _; try cbv)
      | (refine qad hS ?_; try cbv)
      | (refine qan hS ?_; intro _ _; try cbv)
      | (refine qbj hS ?_; try cbv)
      | (refine rowF hS hF hp (by omega) ?_; cbv)
      | (refine size_u hS (by omega) fun n1 hn1 => ?_; cbv)
      | fail)
    rename_i s2 hs2 i2 hi2
    refine ⟨(i2, s2), by dsimp only; omega, ⟨by dsimp only; omega, by dsimp only; omega, by dsimp only; rw [hs2, hi2, hnx]; omega⟩, rfl, ?_, ?_, by cbv⟩
    · cbv; all_goals exact s_sA
    · cbv; all_goals exact s_bA
  · refine qak ?_
    simp only [Z.v]; rw [hn, k2, qca (by omega)]
theorem rfull_f {mx : Int} {l : List Fd} {n : Int} (hn : n = fullL l) (h : n ≤ 100000000) : (S0 Tryz.prog).call 65 [tabV mx l] [] (fun y _ => Sub y (.i .i64 (.y n))) := by
  generalize hF : cellsF l = F
  obtain ⟨m, hm⟩ : ∃ m, m = ilen l := ⟨_, rfl⟩
  have hlen := qby l
  have h0 := qag l
  unfold tabV
  rw [hF, ← hm]
  generalize hS : S0 Tryz.prog = S
  refine qab hS I.qli ?_
  cbv
  refine qax hS 1 I.qgs (fun x : Int × Int => 0 ≤ x.1 ∧ x.1 ≤ m ∧ x.2 = fullL (l.take x.1.toNat)) (fun x => [(3, .i .i64 (.y x.2)), (4, .i .i64 (.y x.1))]) (fun _ => []) (fun x => (m - x.1).toNat) (0, 0) rfl
    ⟨⟨Int.le_refl _, by omega, rfl⟩, rfl, ?_, ?_, by cbv⟩ ?_
  · cbv; all_goals exact s_sA
  · cbv; all_goals exact s_bA
  intro x
  obtain ⟨i, s⟩ := x
  intro hx
  dsimp only at hx
  cbv
  obtain ⟨k0, k1, k2⟩ := hx
  have hs0 := qgn (l.take i.toNat)
  have hs1 := qdh l i.toNat
  rw [← k2] at hs0 hs1
  refine qac hS ?_ ?_ <;> intro h <;> cbv
  · obtain ⟨⟨a, b⟩, hp⟩ := qka (l := l) (i := i) (by omega) k0
    have hsz := qxt hp
    have hsp := qnu (a, b)
    have hnx := qfq hp k0
    rw [← k2] at hnx
    have hs2 := qdh l (i + 1).toNat
    repeat' (first
      | (refine s_st hS ?_; try cbv)
      | (refine qac hS ?_ ?_ <;> intro h <;> (try cbv) <;> try exact s_ab h)
      | (refine qah hS ?_; intro _ _; try cbv)
      | (refine qad hS ?_; try cbv)
      | (refine qan hS ?_; intro _ _; try cbv)
      | (refine qbj hS ?_; try cbv)
      | (refine rowF hS hF hp (by omega) ?_; cbv)
      | (refine rsize_u hS (by omega) fun n1 hn1 => ?_; cbv)
      | fail)
    rename_i s2 hs2 i2 hi2
    refine ⟨(i2, s2), by dsimp only; omega, ⟨by dsimp only; omega, by dsimp only; omega, by dsimp only; rw [hs2, hi2, hnx]; omega⟩, rfl, ?_, ?_, by cbv⟩
    · cbv; all_goals exact s_sA
    · cbv; all_goals exact s_bA
  · refine qak ?_
    simp only [Z.v]; rw [hn, k2, qca (by omega)]
section
variable {S : Sy} {bl : List Blk} {K : SV → List Blk → Prop} {cs : List SV} {mx : Int} {l : List Fd}
theorem full_u (hS : S0 Tryz.prog = S) (hc : TabC bl cs mx l) (h : fullL l ≤ 100000000) (hK : ∀ n, n = fullL l → K (.i .i64 (.y n)) bl) : S.call 69 [.ag cs] bl K :=
  qcl hS (full_f rfl h) hc.fz rfl rfl (hK _ rfl)
theorem rfull_u (hS : S0 Tryz.prog = S) (hc : TabC bl cs mx l) (h : fullL l ≤ 100000000) (hK : ∀ n, n = fullL l → K (.i .i64 (.y n)) bl) : S.call 65 [.ag cs] bl K :=
  qcl hS (rfull_f rfl h) hc.fz rfl rfl (hK _ rfl)
end
theorem right_f {mx : Int} {l : List Fd} {t : Bool} (ht : rightL mx l = t) (hb : fullL l ≤ 100000000) : (S0 Tryz.prog).call 47 [tabV mx l] [] (fun y _ => Sub y (.b t)) := by
  generalize hF : cellsF l = F
  obtain ⟨m, hm⟩ : ∃ m, m = ilen l := ⟨_, rfl⟩
  unfold tabV
  rw [hF, ← hm]
  generalize hS : S0 Tryz.prog = S
  refine qab hS I.quy ?_
  cbv
  refine qal hS rfl I.qoi (by decide +kernel) ?_
  cbv
  repeat' (first
    | (refine s_st hS ?_; try cbv)
    | (refine qac hS ?_ ?_ <;> intro h <;> (try cbv) <;> try exact s_ab h)
    | (refine qah hS ?_; intro _ _; try cbv)
    | (refine qad hS ?_; try cbv)
    | (refine qan hS ?_; intro _ _; try cbv)
    | (refine qbj hS ?_; try cbv)
    | (refine And.intro rfl ?_; try cbv)
    | (refine full_u hS (.v rfl hF hm) hb fun n1 hn1 => ?_; cbv)
    | fail)
  all_goals first | refine qrn ?_ | refine qpq ?_ | refine qvi ?_
  all_goals (rw [← ht]; simp only [← hS, Int.ofNat_eq_natCast, cr, rightL, decide_eq_true_eq, decide_eq_false_iff_not, decide_eq_decide] at *; omega)
theorem rright_f {mx : Int} {l : List Fd} {t : Bool} (ht : rightL mx l = t) (hb : fullL l ≤ 100000000) : (S0 Tryz.prog).call 40 [tabV mx l] [] (fun y _ => Sub y (.b t)) := by
  generalize hF : cellsF l = F
  obtain ⟨m, hm⟩ : ∃ m, m = ilen l := ⟨_, rfl⟩
  unfold tabV
  rw [hF, ← hm]
  generalize hS : S0 Tryz.prog = S
  refine qab hS I.qjt ?_
  cbv
  refine qal hS rfl I.qgi (by decide +kernel) ?_
  cbv
  repeat' (first
    | (refine s_st hS ?_; try cbv)
    | (refine qac hS ?_ ?_ <;> intro h <;> (try cbv) <;> try exact s_ab h)
    | (refine qah hS ?_; intro _ _; try cbv)
    | (refine qad hS ?_; try cbv)
    | (refine qan hS ?_; intro _ _; try cbv)
    | (refine qbj hS ?_; try cbv)
    | (refine And.intro rfl ?_; try cbv)
    | (refine rfull_u hS (.v rfl hF hm) hb fun n1 hn1 => ?_; cbv)
    | fail)
  all_goals first | refine qrn ?_ | refine qpq ?_ | refine qvi ?_
  all_goals (rw [← ht]; simp only [← hS, Int.ofNat_eq_natCast, cr, rightL, decide_eq_true_eq, decide_eq_false_iff_not, decide_eq_decide] at *; omega)
section
variable {S : Sy} {bl : List Blk} {K : SV → List Blk → Prop} {cs : List SV} {mx : Int} {l : List Fd}
theorem right_u (hS : S0 Tryz.prog = S) (hc : TabC bl cs mx l) (h : fullL l ≤ 100000000) (h1 : rightL mx l = true → K .tt bl) (h2 : rightL mx l = false → K .ff bl) : S.call 47 [.ag cs] bl K := by
  refine qcl hS (qcb (right_f rfl h)) hc.fz rfl (by cases rightL mx l <;> rfl) ?_
  cases hr : rightL mx l
  · exact h2 hr
  · exact h1 hr
theorem rright_u (hS : S0 Tryz.prog = S) (hc : TabC bl cs mx l) (h : fullL l ≤ 100000000) (h1 : rightL mx l = true → K .tt bl) (h2 : rightL mx l = false → K .ff bl) : S.call 40 [.ag cs] bl K := by
  refine qcl hS (qcb (rright_f rfl h)) hc.fz rfl (by cases rightL mx l <;> rfl) ?_
  cases hr : rightL mx l
  · exact h2 hr
  · exact h1 hr
end
theorem tabS {cs : List SV} {mx e : Int} {l : List Fd} {z : Z} (hc : TabC [] cs mx l) (he : z.v = e) : Sub (.tp [.ag cs, .i .i64 z]) (.tp [tabV mx l, .i .i64 (.y e)]) := by
  match hc.sub with
  | .cons h1 _ => exact qbs (.cons h1 (.cons (qak he) .nil))
theorem qdm {bl : List Blk} {cs : List SV} {mx e n : Int} {l : List Fd} {F : List SV} {z : Z} (hF : cellsF l = F) (hn : n = ilen l) (he : z.v = e) (hc : TabC bl cs mx l) : Tell (.tp [.ag [.i .i64 (.y mx), .v false 2 F (.y n)], .i .i64 (.y e)]) (.tp [.ag cs, .i .i64 z]) bl := by
  subst hF hn
  exact fun g => match hc.fz (g := g) with
    | .cons h1 _ => .tp (.cons h1 (.cons (.sub (qak he) rfl) .nil))
    | .fsub h hp => by simp [tabV, plains, plainV] at hp
theorem tell_ag {bl : List Blk} {cs : List SV} {mx n : Int} {l : List Fd} {F : List SV} (hF : cellsF l = F) (hn : n = ilen l) (hc : TabC bl cs mx l) : Tell (.ag [.i .i64 (.y mx), .v false 2 F (.y n)]) (.ag cs) bl := by
  subst hF hn
  exact fun g => match hc.fz (g := g) with
    | .cons h1 _ => h1
    | .fsub h hp => by simp [tabV, plains, plainV] at hp
theorem new_f {most mx e : Int} {l : List Fd} (hr : newR most = ((mx, l), e)) : (S0 Tryz.prog).call 61 [.i .i64 (.y most)] [] (fun y _ => Sub y (.tp [tabV mx l, .i .i64 (.y e)])) := by
  unfold newR at hr
  generalize hS : S0 Tryz.prog = S
  refine qab hS I.qzaas ?_
  cbv
  repeat' (first
    | (refine s_st hS ?_; try cbv)
    | (refine qac hS ?_ ?_ <;> intro h <;> (try cbv) <;> try exact s_ab h)
    | (refine qah hS ?_; intro _ _; try cbv)
    | (refine qad hS ?_; try cbv)
    | (refine qan hS ?_; intro _ _; try cbv)
    | (refine qbj hS ?_; try cbv)
    | fail)
  all_goals first
    | (rw [if_pos (by omega)] at hr; cases hr; exact tabS (.nil rfl) rfl)
    | (rw [if_neg (by omega)] at hr; cases hr; exact tabS (.nil rfl) rfl)
section
variable {S : Sy} {bl : List Blk} {K : SV → List Blk → Prop}
theorem new_u (hS : S0 Tryz.prog = S) {most : Z} (h1 : most.v < 0 ∨ 4096 < most.v → K (.tp [.ag [.i .i64 (.y 0), .v false 2 [] (.y 0)], .i .i64 (.l 2)]) bl) (h2 : 0 ≤ most.v → most.v ≤ 4096 → K (.tp [.ag [.i .i64 (.y most.v), .v false 2 [] (.y 0)], .i .i64 (.l 0)]) bl) :
    S.call 61 [.i .i64 most] bl K := by
  by_cases h : most.v < 0 ∨ 4096 < most.v
  · exact qbc hS (sv := .tp [.ag [.i .i64 (.y 0), .v false 2 [] (.y 0)], .i .i64 (.l 2)]) (qbf (new_f (most := most.v) (by unfold newR; rw [if_pos h])) fun x _ hx => ⟨x, .rfl, hx.trans (qbs (.cons .rfl (.cons (qak rfl) .nil)))⟩) (.cons (qak rfl) .nil) rfl rfl (h1 h)
  · exact qbc hS (sv := .tp [.ag [.i .i64 (.y most.v), .v false 2 [] (.y 0)], .i .i64 (.l 0)]) (qbf (new_f (most := most.v) (by unfold newR; rw [if_neg h])) fun x _ hx => ⟨x, .rfl, hx.trans (qbs (.cons .rfl (.cons (qak rfl) .nil)))⟩) (.cons (qak rfl) .nil) rfl rfl (h2 (by omega) (by omega))
end
theorem first2 : ∀ i, i < 2 → ([some 0, some 1] : List (Option Nat))[i]? = some (some i)
  | 0, _ => rfl
  | 1, _ => rfl
  | n + 2, h => by omega
theorem ev_pos {mx k : Int} {l : List Fd} (h0 : 0 ≤ mx) (h : mx < fullL (l.take k.toNat)) : 1 ≤ k := by
  rcases Int.lt_or_le k 1 with h1 | h1
  · rw [show k.toNat = 0 by omega] at h
    simp [fullL] at h
    omega
  · exact h1
theorem ev_end {mx k m e : Int} {l : List Fd} (hm : m = ilen l) (he : e = ilen (evL mx l)) (k0 : 0 ≤ k) (k1 : k ≤ m) (kev : evN mx l m.toNat = evN mx l k.toNat) (h : ¬mx < fullL (l.take k.toNat)) : k = e := by
  have h1 : evN mx l k.toNat = k.toNat := qyg (by omega)
  have h2 : m.toNat = l.length := by rw [hm]; unfold ilen; omega
  rw [he]
  unfold evL
  rw [← h2, kev, h1]
  unfold ilen at *
  rw [List.length_take]
  omega
theorem qzacm {mx k r : Int} {l : List Fd} {m : Int} (hr : r = k - 1) (k1 : 1 ≤ k) (kev : evN mx l m.toNat = evN mx l k.toNat) (h : mx < fullL (l.take k.toNat)) : evN mx l m.toNat = evN mx l r.toNat := by
  rw [kev, show k.toNat = r.toNat + 1 by omega]
  exact evN_next (by rw [show r.toNat + 1 = k.toNat by omega]; omega)
theorem evict_f {mx : Int} {l : List Fd} {F : List SV} {st : Int} (hF : cellsF l = F) (h0 : 0 ≤ mx) (hb : fullL l ≤ 100000000) :
    (S0 Tryz.prog).call 63 [.p 0 0] [.c [.i .i64 (.y mx), .sl 1 2 (.l 0) (.y (ilen l)) none], .r false false (.y st) 2 F]
      (PostB 2 (fun _ g => [.c [.i .i64 (.y mx), .sl (g 1) 2 (.l 0) (.y (ilen (evL mx l))) none], .r false false (.y st) 2 F]) (fun _ => .any)) := by
  obtain ⟨m, hm⟩ : ∃ m, m = ilen l := ⟨_, rfl⟩
  obtain ⟨e, he⟩ : ∃ e, e = ilen (evL mx l) := ⟨_, rfl⟩
  have hm0 := qag l
  have hlen := qby l
  have hpl := qdc l
  rw [hF] at hpl
  rw [← hm, ← he]
  generalize hS : S0 Tryz.prog = S
  have fin : ∀ k : Int, k = e → PostB 2 (fun _ g => [.c [.i .i64 (.y mx), .sl (g 1) 2 (.l 0) (.y e) none], .r false false (.y st) 2 F]) (fun _ => .any) (.tp []) [.c [.i .i64 (.y mx), .sl 1 2 (.l 0) (.y k) none], .r false false (.y st) 2 F] := by
    rintro k rfl
    exact ⟨[some 0, some 1], fun _ => 0, first2, fun g => ⟨⟨⟨_, rfl, rfl, .c (.cons (.sub .rfl rfl) (.cons (.keep (i := 1) rfl rfl rfl) .nil))⟩, rfl, ⟨_, rfl, rfl, .r .rfl hpl rfl⟩, rfl, trivial⟩, .sub qev rfl⟩⟩
  refine qab hS I.qux ?_
  cbv
  refine full_u hS (.row rfl rfl hF (l := l) (by simp [Z.v, hm, ilen]) (by simp [Z.v, hm])) hb fun f hf0 => ?_
  cbv
  have hf : f = fullL (l.take m.toNat) := by rw [hf0, qca (by omega)]
  repeat' (first
    | (refine s_st hS ?_; try cbv)
    | (refine qac hS ?_ ?_ <;> intro h <;> (try cbv) <;> try exact s_ab h)
    | (refine qah hS ?_; intro _ _; try cbv)
    | (refine qad hS ?_; try cbv)
    | (refine qan hS ?_; intro _ _; try cbv)
    | (refine qbj hS ?_; try cbv)
    | fail)
  · have k1 := ev_pos h0 (hf ▸ h)
    rename_i r hr
    obtain ⟨⟨a, b⟩, hp⟩ := qka (l := l) (i := r) (by omega) (by omega)
    have hnx := qfq hp (by omega)
    rw [show r + 1 = m by omega, ← hf] at hnx
    have hn0 := qgn (l.take r.toNat)
    have hsp := qnu (a, b)
    repeat' (first
      | (refine s_st hS ?_; try cbv)
      | (refine qac hS ?_ ?_ <;> intro h <;> (try cbv) <;> try exact s_ab h)
      | (refine qah hS ?_; intro _ _; try cbv)
      | (refine qad hS ?_; try cbv)
      | (refine qan hS ?_; intro _ _; try cbv)
      | (refine qbj hS ?_; try cbv)
      | (refine rowF hS hF hp (by omega) ?_; cbv)
      | (refine size_u hS (by omega) fun n1 hn1 => ?_; cbv)
      | fail)
    rename_i f2 hf2
    refine s_jump_up hS 2 [1, 3, 4, 5, 6, 7, 8, 9, 10, 11, 12, 13, 14, 15, 16, 17, 18, 19, 20, 21, 22, 23, 24, 25, 26, 27, 28, 29, 30, 31, 32, 33, 34, 35, 36, 37, 38]
      (fun x : Int × Int => 0 ≤ x.1 ∧ x.1 ≤ m ∧ x.2 = fullL (l.take x.1.toNat) ∧ evN mx l m.toNat = evN mx l x.1.toNat)
      (fun x => [(2, .i .i64 (.y x.2))]) (fun x => [(0, .c [.i .i64 (.y mx), .sl 1 2 (.l 0) (.y x.1) none])]) (fun x => x.1.toNat) (r, f2) rfl rfl
      ⟨⟨by dsimp only; omega, by dsimp only; omega, by dsimp only; omega, qzacm hr k1 rfl (hf ▸ h)⟩, rfl, ?_, ?_, by cbv⟩ ?_
    · cbv; all_goals exact s_sA
    · cbv; all_goals exact s_bA
    intro x
    obtain ⟨k, g⟩ := x
    intro hx
    dsimp only at hx
    cbv
    obtain ⟨j0, j1, j2, j3⟩ := hx
    repeat' (first
      | (refine s_st hS ?_; try cbv)
      | (refine qac hS ?_ ?_ <;> intro h <;> (try cbv) <;> try exact s_ab h)
      | (refine qah hS ?_; intro _ _; try cbv)
      | (refine qad hS ?_; try cbv)
      | (refine qan hS ?_; intro _ _; try cbv)
      | (refine qbj hS ?_; try cbv)
      | fail)
    · have k1 := ev_pos h0 (j2 ▸ h)
      rename_i r2 hr2
      obtain ⟨⟨a2, b2⟩, hp2⟩ := qka (l := l) (i := r2) (by omega) (by omega)
      have hnx2 := qfq hp2 (by omega)
      rw [show r2 + 1 = k by omega, ← j2] at hnx2
      have hn02 := qgn (l.take r2.toNat)
      have hsp2 := qnu (a2, b2)
      have hgf := qdh l k.toNat
      rw [← j2] at hgf
      repeat' (first
        | (refine s_st hS ?_; try cbv)
        | (refine qac hS ?_ ?_ <;> intro h <;> (try cbv) <;> try exact s_ab h)
        | (refine qah hS ?_; intro _ _; try cbv)
        | (refine qad hS ?_; try cbv)
        | (refine qan hS ?_; intro _ _; try cbv)
        | (refine qbj hS ?_; try cbv)
        | (refine rowF hS hF hp2 (by omega) ?_; cbv)
        | (refine size_u hS (by omega) fun n2 hn2 => ?_; cbv)
        | fail)
      rename_i f3 hf3
      refine ⟨(r2, f3), by dsimp only; omega, ⟨by dsimp only; omega, by dsimp only; omega, by dsimp only; omega, qzacm hr2 k1 j3 (j2 ▸ h)⟩, rfl, ?_, ?_, by cbv⟩
      · cbv; all_goals exact s_sA
      · cbv; all_goals exact s_bA
    · exact fin _ (ev_end hm he j0 j1 j3 (by rw [← j2]; exact h))
  · exact fin _ (ev_end hm he (by omega) (by omega) rfl (by rw [← hf]; exact h))
section
variable {S : Sy} {bl : List Blk} {K : SV → List Blk → Prop}
theorem evict_u (hS : S0 Tryz.prog = S) {p k : Nat} {z n : Z} {mx : Int} {l : List Fd} {lit : Bool} {st : Z} {F : List SV} (hF : cellsF l = F) (h0 : 0 ≤ mx) (hb : fullL l ≤ 100000000)
    (hK : ∀ e, e = ilen (evL mx l) → K .any (lset (lset bl p (.c [.i .i64 (.y mx), .sl k 2 (.l 0) (.y e) none])) k (.r false false (.y st.v) 2 F)))
    (hp : lget bl p = .c [.i .i64 z, .sl k 2 (.l 0) n none] := by rfl) (hk : lget bl k = .r false lit st 2 F := by rfl) (hne : nodupN [p, k] = true := by rfl) (hz : z.v = mx := by rfl) (hn : n.v = ilen l := by first | assumption | (simp only [Z.v]; omega)) : S.call 63 [.p p 0] bl K := by
  refine use_box hS [p, k] (evict_f (st := st.v) hF h0 hb) rfl hne .rfl ⟨?_, ?_, trivial⟩ rfl fun sts => hK _ rfl
  · simp only [fOf, hp]
    exact .c (.cons (qak hz) (.cons (qef rfl (by simpa [Z.v] using hn)) .nil)) rfl
  · simp only [fOf, hk]
    exact .r .rfl (hF ▸ qdc l) rfl
end
end Tb
end Cz
namespace Cz
open Go Go.RowKit Go.Proofs
namespace Tb
theorem clone_f {l : List Fd} {F : List SV} {n : Int} (hF : cellsF l = F) (hn : n = ilen l) (hb : n ≤ 100000000) : (S0 Tryz.prog).call 62 [.v false 2 F (.y n)] [] (Kept [(2, F)] (fun m => .sl m 2 (.l 0) (.y n) none)) := by
  have hpl : plains F = true := hF ▸ qdc l
  have hlen : (ilen F : Int) = n * 2 := by rw [← hF, hn]; have := qiw l; unfold ilen; omega
  have h0 := qag l
  generalize hS : S0 Tryz.prog = S
  refine qab hS I.qen ?_
  cbv
  refine s_nil hS (fun h => ?_) ?_
  · cbv
    have : F = [] := by rw [← hF, List.eq_nil_of_length_eq_zero (l := l) (by unfold ilen at hn; omega)]; rfl
    exact ⟨[none], ⟨this, trivial⟩, fun m => .nilk (i := 0) rfl rfl h⟩
  · cbv
    repeat' (first
      | (refine s_st hS ?_; try cbv)
      | (refine qac hS ?_ ?_ <;> intro h <;> (try cbv) <;> try exact s_ab h)
      | (refine qah hS ?_; intro _ _; try cbv)
      | (refine qad hS ?_; try cbv)
      | (refine qan hS ?_; intro _ _; try cbv)
      | (refine qbj hS ?_; try cbv)
      | fail)
    refine ⟨[some 0], ⟨⟨_, _, _, rfl, ?_⟩, rfl, trivial⟩, fun m => .keep (i := 0) rfl rfl ?_⟩
    · subst hS; exact .rfl
    · rfl
section
variable {S : Sy} {bl : List Blk} {K : SV → List Blk → Prop}
theorem clone_u (hS : S0 Tryz.prog = S) {x : SV} {l : List Fd} {n : Int} {F : List SV} (hx : SubL [x] [.v false 2 F (.y n)]) (hF : cellsF l = F) (hn : n = ilen l) (hb : n ≤ 100000000)
    (hK : ∀ st, K (.sl (len bl) 2 (.l 0) (.y n) none) (snoc bl (.r false false (.y st) 2 F))) : S.call 62 [x] bl K :=
  use_kept hS (clone_f hF hn hb) hx rfl ⟨⟨by decide, hF ▸ qdc l⟩, trivial⟩ fun sts => hK _
end
theorem qyh (mx : Int) (l : List Fd) : evL mx l = l.take (ilen (evL mx l)).toNat := by
  have := evN_le mx l l.length
  have h : (ilen (evL mx l)).toNat = evN mx l l.length := by unfold ilen evL; rw [List.length_take]; omega
  rw [h]; rfl
def tabE (mx : Int) (l : List Fd) (e : Int) : SV := .tp [tabV mx l, .i .i64 (.y e)]
theorem res_f {mx most mx' e : Int} {l l' : List Fd} (hr : resR (mx, l) most = ((mx', l'), e)) (hb : fullL l ≤ 100000000) :
    (S0 Tryz.prog).call 35 [tabV mx l, .i .i64 (.y most)] [] (Tell (tabE mx' l' e)) := by
  generalize hF : cellsF l = F
  obtain ⟨m, hm⟩ : ∃ m, m = ilen l := ⟨_, rfl⟩
  have hlen := qby l
  have hm0 := qag l
  unfold tabE tabV
  generalize hF' : cellsF l' = F'
  obtain ⟨m', hm'⟩ : ∃ m, m = ilen l' := ⟨_, rfl⟩
  rw [hF, ← hm, ← hm']
  unfold resR at hr
  dsimp only at hr
  generalize hS : S0 Tryz.prog = S
  refine qab hS I.qta ?_
  cbv
  refine new_u hS (fun h1 => ?_) (fun h1 h2 => ?_) <;> cbv <;> dsimp only [Z.v] at *
  · rw [if_neg (by intro h; omega)] at hr
    cases hr
    exact qdm hF' hm' rfl (.nil rfl)
  · refine right_u hS (.v rfl hF hm) hb (fun h3 => ?_) (fun h3 => ?_) <;> cbv <;> dsimp only [Z.v] at *
    · rw [if_pos ⟨h3, h1, h2⟩] at hr
      refine clone_u hS .rfl hF hm (by omega) fun st => ?_
      cbv
      refine evict_u hS (mx := most) hF h1 hb fun n1 hn1 => ?_
      cbv
      cases hr
      refine qdm hF' hm' rfl (.row rfl rfl hF ?_ hn1)
      dsimp only [Z.v]
      rw [hn1]; exact qyh _ _
    · rw [if_neg (by intro h; rw [h.1] at h3; cases h3)] at hr
      cases hr
      exact qdm hF' hm' rfl (.nil rfl)
theorem add_f {mx mx' e : Int} {l l' : List Fd} {a b : List UInt8} (hr : addR (mx, l) (a, b) = ((mx', l'), e)) (hb : fullL l ≤ 10000000) (hs : szF (a, b) ≤ 10000000) :
    (S0 Tryz.prog).call 39 [tabV mx l, .ag [.s a, .s b]] [] (Tell (tabE mx' l' e)) := by
  generalize hF : cellsF l = F
  obtain ⟨m, hm⟩ : ∃ m, m = ilen l := ⟨_, rfl⟩
  have hlen := qby l
  have hm0 := qag l
  have hfl : ilen F = m * 2 := by rw [← hF, hm]; have := qiw l; unfold ilen; omega
  unfold tabE tabV
  generalize hF' : cellsF l' = F'
  obtain ⟨m', hm'⟩ : ∃ m, m = ilen l' := ⟨_, rfl⟩
  rw [hF, ← hm, ← hm']
  unfold addR at hr
  dsimp only at hr
  generalize hS : S0 Tryz.prog = S
  refine qab hS I.qzaat ?_
  cbv
  refine right_u hS (.v rfl hF hm) (by omega) (fun h3 => ?_) (fun h3 => ?_) <;> cbv <;> dsimp only [Z.v] at *
  · have hmx : 0 ≤ mx := by unfold rightL at h3; have := of_decide_eq_true h3; omega
    rw [if_pos h3] at hr
    repeat' (first
      | (refine s_st hS ?_; try cbv)
      | (refine qac hS ?_ ?_ <;> intro h <;> (try cbv) <;> try exact s_ab h)
      | (refine qah hS ?_; intro _ _; try cbv)
      | (refine qad hS ?_; try cbv)
      | (refine qan hS ?_; intro _ _; try cbv)
      | (refine qbj hS ?_; try cbv)
      | fail)
    have e1 : S.app [.s a, .s b] F = cellsF ((a, b) :: l) := by subst hS; rw [← hF]; rfl
    have e2 : S.pl 1 m = ilen ((a, b) :: l) := by subst hS; rw [hm]; simp only [pl_eq]; simp [ilen]; omega
    have e3 : fullL ((a, b) :: l) = szF (a, b) + fullL l := rfl
    refine evict_u hS (mx := mx) (l := (a, b) :: l) e1.symm hmx (by omega) fun n1 hn1 => ?_
    cbv
    cases hr
    refine qdm hF' hm' rfl (.row rfl rfl e1.symm ?_ hn1)
    dsimp only [Z.v]
    rw [hn1]; exact qyh _ _
  · rw [if_neg (by rw [h3]; simp)] at hr
    cases hr
    exact qdm hF' hm' rfl (.nil rfl)
theorem qzaax {mx : Int} {l : List Fd} (h0 : 0 ≤ mx) (hb : fullL l ≤ 10000000) : (S0 Tryz.prog).call 67 [tabV mx l] [] (Tell (tabV mx (evL mx l))) := by
  generalize hF : cellsF l = F
  obtain ⟨m, hm⟩ : ∃ m, m = ilen l := ⟨_, rfl⟩
  obtain ⟨e, he⟩ : ∃ e, e = ilen (evL mx l) := ⟨_, rfl⟩
  have hlen := qby l
  have hm0 := qag l
  have hpl := qdc l
  have hfl : ilen F = m * 2 := by rw [← hF, hm]; have := qiw l; unfold ilen; omega
  unfold tabV
  generalize hF' : cellsF (evL mx l) = F'
  rw [hF, ← hm, ← he]
  rw [hF] at hpl
  generalize hS : S0 Tryz.prog = S
  refine qab hS I.qhe ?_
  cbv
  repeat' (first
    | (refine s_st hS ?_; try cbv)
    | (refine qac hS ?_ ?_ <;> intro h <;> (try cbv) <;> try exact s_ab h)
    | (refine qah hS ?_; intro _ _; try cbv)
    | (refine qad hS ?_; try cbv)
    | (refine qan hS ?_; intro _ _; try cbv)
    | (refine qbj hS ?_; try cbv)
    | fail)
  have e1 : S.app [] F = F := by subst hS; rfl
  refine qax hS 3 I.qeo (fun x : Int => 0 ≤ x ∧ x ≤ m ∧ evN mx l m.toNat = evN mx l x.toNat) (fun _ => []) (fun x => [(0, .c [.i .i64 (.y mx), .sl 2 2 (.l 0) (.y x) none]), (2, .r false false (.y (S.flen [])) 2 F)]) (fun x => x.toNat) m rfl
    ⟨⟨by omega, by omega, rfl⟩, rfl, ?_, ?_, by cbv⟩ ?_
  · cbv; all_goals exact s_sA
  · cbv
    exact ⟨.rfl, .rfl, .r (by subst hS; exact .rfl) rfl hpl, trivial⟩
  intro k hk
  cbv
  obtain ⟨k0, k1, k2⟩ := hk
  have hft := qdh l k.toNat
  refine qal hS rfl I.qew (by decide +kernel) ?_
  cbv
  repeat' (first
    | (refine s_st hS ?_; try cbv)
    | (refine qac hS ?_ ?_ <;> intro h <;> (try cbv) <;> try exact s_ab h)
    | (refine qah hS ?_; intro _ _; try cbv)
    | (refine qad hS ?_; try cbv)
    | (refine qan hS ?_; intro _ _; try cbv)
    | (refine qbj hS ?_; try cbv)
    | (refine And.intro rfl ?_; try cbv)
    | (refine rfull_u hS (mx := mx) (l := l.take k.toNat) (.row rfl rfl hF rfl (by simp only [Z.v, ilen, List.length_take]; unfold ilen at hm; omega)) (by omega) fun f hf => ?_; cbv)
    | fail)
  · have kp := ev_pos h0 (hf ▸ h)
    rename_i r hr
    repeat' (first
      | (refine s_st hS ?_; try cbv)
      | (refine qac hS ?_ ?_ <;> intro h <;> (try cbv) <;> try exact s_ab h)
      | (refine qah hS ?_; intro _ _; try cbv)
      | (refine qad hS ?_; try cbv)
      | (refine qan hS ?_; intro _ _; try cbv)
      | (refine qbj hS ?_; try cbv)
      | fail)
    refine ⟨r, by omega, ⟨by omega, by omega, qzacm hr kp k2 (hf ▸ h)⟩, rfl, ?_, ?_, by cbv⟩
    · cbv; all_goals exact s_sA
    · cbv; all_goals exact s_bA
  · have hke : k = e := ev_end hm he k0 k1 k2 (hf ▸ h)
    refine tell_ag hF' he (.row rfl rfl hF ?_ (by dsimp only [Z.v]; rw [hke, he]))
    dsimp only [Z.v]
    rw [hke, he]; exact qyh _ _
section
variable {S : Sy} {bl : List Blk} {K : SV → List Blk → Prop} {cs : List SV} {mx : Int} {l : List Fd}
theorem evicted_u (hS : S0 Tryz.prog = S) (hc : TabC [] cs mx l) (h0 : 0 ≤ mx) (hb : fullL l ≤ 10000000) (hK : ∀ F n, cellsF (evL mx l) = F → n = ilen (evL mx l) → K (.ag [.i .i64 (.y mx), .v false 2 F (.y n)]) bl) :
    S.call 67 [.ag cs] bl K :=
  qbd hS (qzaax h0 hb) hc.sub rfl (hK _ _ rfl rfl)
theorem evicted_r (hS : S0 Tryz.prog = S) {z n st : Z} {k : Nat} {lit : Bool} {cap : Option Z} {F : List SV} (hz : z.v = mx) (hF : cellsF l = F) (hn : n.v = ilen l) (h0 : 0 ≤ mx) (hb : fullL l ≤ 10000000)
    (hK : ∀ F n, cellsF (evL mx l) = F → n = ilen (evL mx l) → K (.ag [.i .i64 (.y mx), .v false 2 F (.y n)]) (frzL [k] 0 bl)) (hB : lget bl k = .r false lit st 2 F := by rfl) (hk : kpOf (others [k] (len bl)) k = none := by rfl) :
    S.call 67 [.ag [.i .i64 z, .sl k 2 (.l 0) n cap]] bl K := by
  refine use_frz hS [k] (rows := []) (y := fun _ => tabV mx (evL mx l)) (qbf (qzaax (l := l) h0 hb) fun x l' h => ⟨x, .rfl, [], trivial, fun m => h _⟩) ?_ rfl trivial (fun _ => hK _ _ rfl rfl)
  refine .cons (.ag (.cons (.sub (qak hz) rfl) (.cons ?_ .nil))) .nil
  have := qzabw (l' := bl) (g := id) (cap := cap) (lit' := false) (len := n) (n := .y (ilen l)) (m := l.length) (qap hB (by simp)) hk hF.symm hn hn
  rwa [List.take_length] at this
end
theorem rres_f {mx most mx' e : Int} {l l' : List Fd} (hr : resR (mx, l) most = ((mx', l'), e)) (hb : fullL l ≤ 10000000) :
    (S0 Tryz.prog).call 42 [tabV mx l, .i .i64 (.y most)] [] (Tell (tabE mx' l' e)) := by
  generalize hF : cellsF l = F
  obtain ⟨m, hm⟩ : ∃ m, m = ilen l := ⟨_, rfl⟩
  have hlen := qby l
  have hm0 := qag l
  unfold tabE tabV
  generalize hF' : cellsF l' = F'
  obtain ⟨m', hm'⟩ : ∃ m, m = ilen l' := ⟨_, rfl⟩
  rw [hF, ← hm, ← hm']
  unfold resR at hr
  dsimp only at hr
  generalize hS : S0 Tryz.prog = S
  refine qab hS I.qie ?_
  cbv
  refine rright_u hS (.v rfl hF hm) (by omega) (fun h3 => ?_) (fun h3 => ?_) <;> cbv <;> dsimp only [Z.v] at *
  · repeat' (first
    | (refine s_st hS ?_; try cbv)
    | (refine qac hS ?_ ?_ <;> intro h <;> (try cbv) <;> try exact s_ab h)
    | (refine qah hS ?_; intro _ _; try cbv)
    | (refine qad hS ?_; try cbv)
    | (refine qan hS ?_; intro _ _; try cbv)
    | (refine qbj hS ?_; try cbv)
    | (refine evicted_u hS (mx := most) (l := l) (.v rfl hF hm) (by omega) hb fun F1 n1 hF1 hn1 => ?_; cbv)
    | fail)
    all_goals first
      | (rw [if_pos ⟨h3, by omega, by omega⟩] at hr; cases hr; exact qdm hF' hm' rfl (.v rfl hF1 hn1))
      | (rw [if_neg (by intro h; omega)] at hr; cases hr; exact qdm hF' hm' rfl (.nil rfl))
  · rw [if_neg (by intro h; rw [h.1] at h3; cases h3)] at hr
    repeat' (first
      | (refine s_st hS ?_; try cbv)
      | (refine qac hS ?_ ?_ <;> intro h <;> (try cbv) <;> try exact s_ab h)
      | (refine qah hS ?_; intro _ _; try cbv)
      | (refine qad hS ?_; try cbv)
      | (refine qan hS ?_; intro _ _; try cbv)
      | (refine qbj hS ?_; try cbv)
      | fail)
    cases hr; exact qdm hF' hm' rfl (.nil rfl)
theorem radd_f {mx mx' e : Int} {l l' : List Fd} {a b : List UInt8} (hr : addR (mx, l) (a, b) = ((mx', l'), e)) (hb : fullL l ≤ 1000000) (hs : szF (a, b) ≤ 1000000) :
    (S0 Tryz.prog).call 44 [tabV mx l, .ag [.s a, .s b]] [] (Tell (tabE mx' l' e)) := by
  generalize hF : cellsF l = F
  obtain ⟨m, hm⟩ : ∃ m, m = ilen l := ⟨_, rfl⟩
  have hlen := qby l
  have hm0 := qag l
  have hfl : ilen F = m * 2 := by rw [← hF, hm]; have := qiw l; unfold ilen; omega
  unfold tabE tabV
  generalize hF' : cellsF l' = F'
  obtain ⟨m', hm'⟩ : ∃ m, m = ilen l' := ⟨_, rfl⟩
  rw [hF, ← hm, ← hm']
  unfold addR at hr
  dsimp only at hr
  generalize hS : S0 Tryz.prog = S
  refine qab hS I.qnb ?_
  cbv
  refine rright_u hS (.v rfl hF hm) (by omega) (fun h3 => ?_) (fun h3 => ?_) <;> cbv <;> dsimp only [Z.v] at *
  · have hmx : 0 ≤ mx := by unfold rightL at h3; have := of_decide_eq_true h3; omega
    rw [if_pos h3] at hr
    repeat' (first
      | (refine s_st hS ?_; try cbv)
      | (refine qac hS ?_ ?_ <;> intro h <;> (try cbv) <;> try exact s_ab h)
      | (refine qah hS ?_; intro _ _; try cbv)
      | (refine qad hS ?_; try cbv)
      | (refine qan hS ?_; intro _ _; try cbv)
      | (refine qbj hS ?_; try cbv)
      | fail)
    have e1 : S.app [.s a, .s b] F = cellsF ((a, b) :: l) := by subst hS; rw [← hF]; rfl
    have e2 : S.pl 1 m = ilen ((a, b) :: l) := by subst hS; rw [hm]; simp only [pl_eq]; simp [ilen]; omega
    have e3 : fullL ((a, b) :: l) = szF (a, b) + fullL l := rfl
    refine evicted_r hS (mx := mx) (l := (a, b) :: l) rfl e1.symm e2 hmx (by omega) fun F1 n1 hF1 hn1 => ?_
    cbv
    cases hr
    exact qdm hF' hm' rfl (.v rfl hF1 hn1)
  · rw [if_neg (by rw [h3]; simp)] at hr
    repeat' (first
      | (refine s_st hS ?_; try cbv)
      | (refine qac hS ?_ ?_ <;> intro h <;> (try cbv) <;> try exact s_ab h)
      | (refine qah hS ?_; intro _ _; try cbv)
      | (refine qad hS ?_; try cbv)
      | (refine qan hS ?_; intro _ _; try cbv)
      | (refine qbj hS ?_; try cbv)
      | fail)
    cases hr
    exact qdm hF' hm' rfl (.nil rfl)
end Tb
end Cz
namespace Cz
open Go Go.RowKit Go.Proofs
namespace Tb
theorem eqFd {S : Sy} (hS : S0 Tryz.prog = S) {a b c d : List UInt8} {k1 k2 : Unit → Prop} (h1 : (a, b) = (c, d) → k1 ()) (h2 : (a, b) ≠ (c, d) → k2 ()) : S.eqv ⟨true, [.ks, .ks]⟩ (.ag [.s a, .s b]) (.ag [.s c, .s d]) k1 k2 := by
  refine qbg hS ?_
  cbv
  refine s_br hS (fun h => ?_) (fun h => ?_) <;> cbv <;> simp only [← hS, Int.ofNat_eq_natCast, cq, Bool.not_eq_true', Bool.not_eq_false', decide_eq_true_eq, decide_eq_false_iff_not, beq_iff_eq, beq_eq_false_iff_ne, ne_eq] at h
  · refine s_br hS (fun h' => ?_) (fun h' => ?_) <;> cbv <;> simp only [← hS, Int.ofNat_eq_natCast, cq, Bool.not_eq_true', Bool.not_eq_false', decide_eq_true_eq, decide_eq_false_iff_not, beq_iff_eq, beq_eq_false_iff_ne, ne_eq] at h'
    · exact h1 (by rw [h, h'])
    · exact h2 (by intro e; cases e; exact h' rfl)
  · exact h2 (by intro e; cases e; exact h rfl)
theorem take_ne {l k : List Fd} {i : Int} {x y : Fd} (hx : l[i.toNat]? = some x) (hy : k[i.toNat]? = some y) (h : x ≠ y) : ¬l = k := by
  intro e; subst e; rw [hx] at hy; cases hy; exact h rfl
theorem qzj {l k : List Fd} {i : Int} {x : Fd} (h0 : 0 ≤ i) (hx : l[i.toNat]? = some x) (hy : k[i.toNat]? = some x) (h : l.take i.toNat = k.take i.toNat) : l.take (i + 1).toNat = k.take (i + 1).toNat := by
  rw [qdd hx h0, qdd hy h0, h]
theorem fields_f {l k : List Fd} {t : Bool} (ht : decide (l = k) = t) (h1 : ilen l ≤ 100000000) (h2 : ilen k ≤ 100000000) : (S0 Tryz.prog).call 45 [.v false 2 (cellsF l) (.y (ilen l)), .v false 2 (cellsF k) (.y (ilen k))] [] (fun y _ => Sub y (.b t)) := by
  generalize hF : cellsF l = F
  generalize hG : cellsF k = G
  obtain ⟨m, hm⟩ : ∃ m, m = ilen l := ⟨_, rfl⟩
  obtain ⟨n, hn⟩ : ∃ n, n = ilen k := ⟨_, rfl⟩
  have h3 := qag l
  have h4 := qag k
  rw [← hm] at h1 h3 ⊢
  rw [← hn] at h2 h4 ⊢
  generalize hS : S0 Tryz.prog = S
  refine qab hS I.qif ?_
  cbv
  refine qac hS ?_ ?_ <;> intro h <;> cbv
  · have e : t = false := by rw [← ht]; exact decide_eq_false (fun e => by subst e; omega)
    all_goals exact s_sA
  refine qax hS 0 I.qfb (fun x : Int => 0 ≤ x ∧ x ≤ m ∧ l.take x.toNat = k.take x.toNat) (fun x => [(5, .i .i64 (.y x))]) (fun _ => []) (fun x => (m - x).toNat) 0 rfl
    ⟨⟨Int.le_refl _, by omega, rfl⟩, rfl, ?_, ?_, by cbv⟩ ?_
  · cbv; all_goals exact s_sA
  · cbv; all_goals exact s_bA
  intro i hx
  cbv
  obtain ⟨k0, k1, k2⟩ := hx
  refine s_br hS ?_ ?_ <;> intro h' <;> cbv <;> simp only [← hS, Int.ofNat_eq_natCast, cq, Bool.not_eq_true', Bool.not_eq_false', decide_eq_true_eq, decide_eq_false_iff_not, beq_iff_eq, beq_eq_false_iff_ne, ne_eq] at h'
  · obtain ⟨⟨a, b⟩, hp⟩ := qka (l := l) (i := i) (by omega) k0
    obtain ⟨⟨c, d⟩, hq⟩ := qka (l := k) (i := i) (by omega) k0
    refine qal hS rfl I.qfk (by decide +kernel) ?_
    cbv
    repeat' (first
      | (refine s_st hS ?_; try cbv)
      | (refine qac hS ?_ ?_ <;> intro h <;> (try cbv) <;> try exact s_ab h)
      | (refine qah hS ?_; intro _ _; try cbv)
      | (refine qad hS ?_; try cbv)
      | (refine qan hS ?_; intro _ _; try cbv)
      | (refine qbj hS ?_; try cbv)
      | (refine And.intro rfl ?_; try cbv)
      | (refine rowF hS hF hp (by omega) ?_; cbv)
      | (refine rowF hS hG hq (by omega) ?_; cbv)
      | fail)
    · have he : (a, b) = (c, d) := by congr
      rename_i r hr
      refine ⟨r, by omega, ⟨by omega, by omega, ?_⟩, rfl, ?_, ?_, by cbv⟩
      · rw [hr]; exact qzj k0 (he ▸ hp) hq k2
      · cbv; all_goals exact s_sA
      · cbv; all_goals exact s_bA
    all_goals
      have e : t = false := by rw [← ht]; exact decide_eq_false (take_ne hp hq (by intro e; cases e; simp_all))
      all_goals exact s_sA
  · have e : t = true := by rw [← ht]; exact decide_eq_true (by rwa [qca (by omega), qca (by omega)] at k2)
    all_goals exact s_sA
section
variable {S : Sy} {bl : List Blk} {K : SV → List Blk → Prop}
theorem fields_u (hS : S0 Tryz.prog = S) {x y : SV} {l k : List Fd} (hc : FzL bl id [] [x, y] [.v false 2 (cellsF l) (.y (ilen l)), .v false 2 (cellsF k) (.y (ilen k))]) (hl : ilen l ≤ 100000000) (hk : ilen k ≤ 100000000) (h1 : l = k → K .tt bl) (h2 : l ≠ k → K .ff bl) :
    S.call 45 [x, y] bl K := by
  by_cases h : l = k
  · exact qcl hS (qcb (fields_f (decide_eq_true h) hl hk)) hc rfl rfl (h1 h)
  · exact qcl hS (qcb (fields_f (decide_eq_false h) hl hk)) hc rfl rfl (h2 h)
end
end Tb
end Cz
namespace Cz
open Go Go.RowKit Go.Proofs
namespace Tb
theorem rsame_f {mx my : Int} {l k : List Fd} {t : Bool} (ht : decide (mx = my ∧ l = k) = t) (h1 : ilen l ≤ 100000000) (h2 : ilen k ≤ 100000000) : (S0 Tryz.prog).call 11 [tabV mx l, tabV my k] [] (fun y _ => Sub y (.b t)) := by
  unfold tabV
  generalize hF : cellsF l = F
  generalize hG : cellsF k = G
  obtain ⟨m, hm⟩ : ∃ m, m = ilen l := ⟨_, rfl⟩
  obtain ⟨n, hn⟩ : ∃ n, n = ilen k := ⟨_, rfl⟩
  rw [← hm, ← hn]
  generalize hS : S0 Tryz.prog = S
  refine qab hS I.qlh ?_
  cbv
  refine qac hS ?_ ?_ <;> intro h <;> cbv
  · refine fields_u hS (l := l) (k := k) (.cons (.sub (qck hF.symm hm) rfl) (.cons (.sub (qck hG.symm hn) rfl) .nil)) h1 h2 (fun he => ?_) (fun he => ?_) <;> cbv
    · have e : t = true := by rw [← ht]; exact decide_eq_true ⟨h, he⟩
      all_goals exact s_sA
    · have e : t = false := by rw [← ht]; exact decide_eq_false fun e => he e.2
      all_goals exact s_sA
  · have e : t = false := by rw [← ht]; exact decide_eq_false fun e => h e.1
    all_goals exact s_sA
def greatL (l : List Fd) : Bool := decide (140 < ilen l ∨ 5000 < fullL l - 32 * ilen l)
def shortL (l : List Fd) : Prop := ∀ f, f ∈ l → ilen f.1 ≤ 140737488355328 ∧ ilen f.2 ≤ 140737488355328
theorem full_short {l : List Fd} (h : shortL l) : fullL l ≤ 281474976710688 * ilen l := by
  induction l with
  | nil => simp [fullL, ilen]
  | cons f l ih =>
    have h1 := h f (List.mem_cons_self ..)
    have h2 := ih fun g hg => h g (List.mem_cons_of_mem _ hg)
    simp only [fullL, szF, ilen, List.length_cons] at *
    omega
theorem qss {l : List Fd} {t : Bool} (ht : greatL l = t) (hs : shortL l) (hm1 : ilen l ≤ 140737488355328) : (S0 Tryz.prog).call 6 [.v false 2 (cellsF l) (.y (ilen l))] [] (fun y _ => Sub y (.b t)) := by
  generalize hF : cellsF l = F
  obtain ⟨m, hm⟩ : ∃ m, m = ilen l := ⟨_, rfl⟩
  have h0 := qag l
  unfold greatL at ht
  rw [← hm] at ht h0 hm1 ⊢
  generalize hS : S0 Tryz.prog = S
  refine qab hS I.qju ?_
  cbv
  refine qax hS 0 I.qfs (fun x : Int × Int => 0 ≤ x.1 ∧ x.1 ≤ m ∧ x.1 ≤ 141 ∧ x.2 = fullL (l.take x.1.toNat) - 32 * x.1) (fun x => [(3, .i .i64 (.y x.2)), (4, .i .i64 (.y x.1))]) (fun _ => []) (fun x => (m - x.1).toNat) (0, 0) rfl
    ⟨⟨Int.le_refl _, by omega, by omega, rfl⟩, rfl, ?_, ?_, by cbv⟩ ?_
  · cbv; all_goals exact s_sA
  · cbv; all_goals exact s_bA
  intro x
  obtain ⟨i, s⟩ := x
  intro hx
  dsimp only at hx
  cbv
  obtain ⟨k0, k1, k3, k2⟩ := hx
  have hs0 := qby (l.take i.toNat)
  have hs1 := full_short (l := l.take i.toNat) fun f hf => hs f (List.mem_of_mem_take hf)
  have hs2 : ilen (l.take i.toNat) = i := by unfold ilen at hm ⊢; rw [List.length_take]; omega
  rw [hs2] at hs0 hs1
  refine qac hS ?_ ?_ <;> intro h <;> cbv
  · refine s_br hS ?_ ?_ <;> intro h' <;> cbv <;> simp only [← hS, Int.ofNat_eq_natCast, cq, Bool.not_eq_true', Bool.not_eq_false', decide_eq_true_eq, decide_eq_false_iff_not, beq_iff_eq, beq_eq_false_iff_ne, ne_eq] at h'
    · obtain ⟨⟨a, b⟩, hp⟩ := qka (l := l) (i := i) (by omega) k0
      have hsz := hs _ (List.mem_of_getElem? hp)
      dsimp only at hsz
      have hsn : szF (a, b) = ilen a + ilen b + 32 := rfl
      have ha := qag a
      have hb := qag b
      have hnx := qfq hp k0
      refine qal hS rfl I.qgj (by decide +kernel) ?_
      cbv
      repeat' (first
        | (refine s_st hS ?_; try cbv)
        | (refine qac hS ?_ ?_ <;> intro h <;> (try cbv) <;> try exact s_ab h)
        | (refine qah hS ?_; intro _ _; try cbv)
        | (refine qad hS ?_; try cbv)
        | (refine qan hS ?_; intro _ _; try cbv)
        | (refine qbj hS ?_; try cbv)
        | (refine And.intro rfl ?_; try cbv)
        | (refine rowF1 hS hF hp (by omega) ?_; cbv)
        | (refine rowF2 hS hF hp (by omega) ?_; cbv)
        | fail)
      rename_i s1 hs1' s2 hs2' i2 hi2
      refine ⟨(i2, s2), by dsimp only; omega, ⟨by dsimp only; omega, by dsimp only; omega, by dsimp only; omega, by dsimp only; rw [hi2, hnx]; omega⟩, rfl, ?_, ?_, by cbv⟩
      · cbv; all_goals exact s_sA
      · cbv; all_goals exact s_bA
    · have e : t = true := by rw [← ht]; exact decide_eq_true (.inl (by omega))
      repeat' (first
        | (refine s_st hS ?_; try cbv)
        | (refine qac hS ?_ ?_ <;> intro h <;> (try cbv) <;> try exact s_ab h)
        | (refine qah hS ?_; intro _ _; try cbv)
        | (refine qad hS ?_; try cbv)
        | (refine qan hS ?_; intro _ _; try cbv)
        | (refine qbj hS ?_; try cbv)
        | fail)
      all_goals
        cbv
        all_goals exact s_sA
  · rw [qca (by omega)] at k2
    repeat' (first
      | (refine s_st hS ?_; try cbv)
      | (refine qac hS ?_ ?_ <;> intro h <;> (try cbv) <;> try exact s_ab h)
      | (refine qah hS ?_; intro _ _; try cbv)
      | (refine qad hS ?_; try cbv)
      | (refine qan hS ?_; intro _ _; try cbv)
      | (refine qbj hS ?_; try cbv)
      | fail)
    · have e : t = true := by rw [← ht]; exact decide_eq_true (.inl (by omega))
      all_goals exact s_sA
    · refine qrn ?_
      rw [← ht, ← hS]
      simp only [cq]
      exact decide_eq_decide.2 ⟨fun h => .inr (by omega), fun h => by omega⟩
section
variable {S : Sy} {bl : List Blk} {K : SV → List Blk → Prop} {cs : List SV} {mx my : Int} {l k : List Fd}
theorem qzach (hS : S0 Tryz.prog = S) {x : SV} (hc : FzL bl id [] [x] [.v false 2 (cellsF l) (.y (ilen l))]) (hs : shortL l) (hm : ilen l ≤ 140737488355328) (h1 : 140 < ilen l ∨ 5000 < fullL l - 32 * ilen l → K .tt bl) (h2 : ilen l ≤ 140 → fullL l ≤ 5000 + 32 * ilen l → K .ff bl) :
    S.call 6 [x] bl K := by
  cases h : greatL l with
  | true => exact qcl hS (qcb (qss h hs hm)) hc rfl rfl (h1 (of_decide_eq_true h))
  | false =>
    have := of_decide_eq_false h
    exact qcl hS (qcb (qss h hs hm)) hc rfl rfl (h2 (by omega) (by omega))
theorem fz_two {bl : List Blk} {g : Nat → Nat} {x y a b : SV} (hx : FzL bl g [] [x] [a]) (hy : FzL bl g [] [y] [b]) (ha : plainV a = false) (hb : plainV b = false) : FzL bl g [] [x, y] [a, b] := by
  cases hx with
  | cons h1 _ => cases hy with
    | cons h2 _ => exact .cons h1 (.cons h2 .nil)
    | fsub h hp => simp [plains, hb] at hp
  | fsub h hp => simp [plains, ha] at hp
end
end Tb
end Cz
namespace Cz
open Go Go.RowKit Go.Proofs
namespace Tb
def statR (i : Int) : Fd × Bool := if 1 ≤ i ∧ i ≤ 20 then (stL.getD (i - 1).toNat ([], []), true) else (([], []), false)
theorem qzabq {i : Int} (h1 : 1 ≤ i) (h2 : i ≤ 20) : ∃ a b, stL[(i - 1).toNat]? = some (a, b) ∧ statR i = ((a, b), true) := by
  have h : (i - 1).toNat < stL.length := by rw [qfz]; omega
  refine ⟨(stL[(i - 1).toNat]).1, (stL[(i - 1).toNat]).2, List.getElem?_eq_getElem h, ?_⟩
  unfold statR
  rw [if_pos ⟨h1, h2⟩, List.getD_eq_getElem?_getD, List.getElem?_eq_getElem h]; rfl
theorem at_stat {l : List Fd} {i : Int} {a b : List UInt8} (h : statR i = ((a, b), true)) : atR l i = ((a, b), 0) := by
  by_cases hi : 1 ≤ i ∧ i ≤ 20
  · obtain ⟨c, d, hp, hq⟩ := qzabq hi.1 hi.2
    rw [hq] at h; cases h
    unfold atR allF
    rw [if_neg (by omega), List.getElem?_append_left (by rw [qfz]; omega), hp]
  · unfold statR at h; rw [if_neg hi] at h; cases h
theorem stat_no {i : Int} {a b : List UInt8} (h : statR i = ((a, b), false)) : ¬(1 ≤ i ∧ i ≤ 20) := by
  intro hi
  obtain ⟨c, d, hp, hq⟩ := qzabq hi.1 hi.2
  rw [hq] at h; cases h
theorem at_row {l : List Fd} {i : Int} (hi : 21 ≤ i) {a b : List UInt8} (hp : l[(i - 21).toNat]? = some (a, b)) : atR l i = ((a, b), 0) := by
  unfold atR allF
  rw [if_neg (by omega), List.getElem?_append_right (by rw [qfz]; omega), qfz, show (i - 1).toNat - 20 = (i - 21).toNat by omega, hp]
theorem at_none {l : List Fd} {i : Int} (hi : i < 1 ∨ ilen l ≤ i - 21) : atR l i = (([], []), 90) := by
  unfold atR
  split
  · rfl
  · unfold allF
    unfold ilen at hi
    rw [List.getElem?_eq_none (by rw [List.length_append, qfz]; omega)]
theorem rstat_f {i : Int} {a b : List UInt8} {t : Bool} (hr : statR i = ((a, b), t)) (hl : -9223372036854775808 ≤ i) : (S0 Tryz.prog).call 91 [.i .i64 (.y i)] [] (fun y _ => Sub y (.tp [.ag [.s a, .s b], .b t])) := by
  generalize hS : S0 Tryz.prog = S
  refine qab hS I.qid ?_
  cbv
  refine qac hS ?_ ?_ <;> intro h <;> cbv
  · unfold statR at hr
    rw [if_neg (by omega)] at hr
    cases hr
    repeat' (first
      | (refine s_st hS ?_; try cbv)
      | (refine qac hS ?_ ?_ <;> intro h <;> (try cbv) <;> try exact s_ab h)
      | (refine qah hS ?_; intro _ _; try cbv)
      | (refine qad hS ?_; try cbv)
      | (refine qan hS ?_; intro _ _; try cbv)
      | (refine qbj hS ?_; try cbv)
      | fail)
    all_goals exact s_sA
  · refine s_br hS ?_ ?_ <;> intro h' <;> cbv <;> simp only [← hS, Int.ofNat_eq_natCast, cq, Bool.not_eq_true', Bool.not_eq_false', decide_eq_true_eq, decide_eq_false_iff_not, beq_iff_eq, beq_eq_false_iff_ne, ne_eq] at h'
    · unfold statR at hr
      rw [if_neg (by omega)] at hr
      cases hr
      repeat' (first
        | (refine s_st hS ?_; try cbv)
        | (refine qac hS ?_ ?_ <;> intro h <;> (try cbv) <;> try exact s_ab h)
        | (refine qah hS ?_; intro _ _; try cbv)
        | (refine qad hS ?_; try cbv)
        | (refine qan hS ?_; intro _ _; try cbv)
        | (refine qbj hS ?_; try cbv)
        | fail)
      all_goals exact s_sA
    · obtain ⟨c, d, hp, hq⟩ := qzabq (i := i) (by omega) (by omega)
      rw [hq] at hr
      cases hr
      repeat' (first
        | (refine s_st hS ?_; try cbv)
        | (refine qac hS ?_ ?_ <;> intro h <;> (try cbv) <;> try exact s_ab h)
        | (refine qah hS ?_; intro _ _; try cbv)
        | (refine qad hS ?_; try cbv)
        | (refine qan hS ?_; intro _ _; try cbv)
        | (refine qbj hS ?_; try cbv)
        | fail)
      rename_i r hr
      refine rowF hS (l := stL) rfl (hr ▸ hp) (by omega) ?_
      cbv
      repeat' (first
        | (refine s_st hS ?_; try cbv)
        | (refine qac hS ?_ ?_ <;> intro h <;> (try cbv) <;> try exact s_ab h)
        | (refine qah hS ?_; intro _ _; try cbv)
        | (refine qad hS ?_; try cbv)
        | (refine qan hS ?_; intro _ _; try cbv)
        | (refine qbj hS ?_; try cbv)
        | fail)
      all_goals exact s_sA
theorem rstat_u {S : Sy} {bl : List Blk} {K : SV → List Blk → Prop} (hS : S0 Tryz.prog = S) {z : Z} (hl : -9223372036854775808 ≤ z.v) (h1 : ∀ a b, statR z.v = ((a, b), true) → K (.tp [.ag [.s a, .s b], .tt]) bl) (h2 : statR z.v = (([], []), false) → K (.tp [.ag [.s [], .s []], .ff]) bl) :
    S.call 91 [.i .i64 z] bl K := by
  cases hr : statR z.v with
  | mk f t => cases f with
    | mk a b => cases t with
      | true => exact qbc hS (qcb (rstat_f hr hl)) (.cons (qak rfl) .nil) rfl rfl (h1 a b hr)
      | false =>
        have := stat_no hr
        unfold statR at hr
        rw [if_neg this] at hr
        cases hr
        exact qbc hS (qcb (rstat_f (a := []) (b := []) (t := false) (by unfold statR; rw [if_neg this]) hl)) (.cons (qak rfl) .nil) rfl rfl (h2 (by unfold statR; rw [if_neg this]))
theorem rat_f {mx i e : Int} {l : List Fd} {a b : List UInt8} (hr : atR l i = ((a, b), e)) (hl : -9223372036854775808 ≤ i) (hu : i ≤ 9223372036854775807) (hm : ilen l ≤ 100000000) : (S0 Tryz.prog).call 66 [tabV mx l, .i .i64 (.y i)] [] (fun y _ => Sub y (.tp [.ag [.s a, .s b], .i .i64 (.y e)])) := by
  unfold tabV
  generalize hF : cellsF l = F
  obtain ⟨m, hm'⟩ : ∃ m, m = ilen l := ⟨_, rfl⟩
  have h0 := qag l
  rw [← hm'] at h0 hm ⊢
  generalize hS : S0 Tryz.prog = S
  refine qab hS I.qos ?_
  cbv
  refine rstat_u hS hl (fun c d h => ?_) (fun h => ?_) <;> dsimp only [Z.v] at h <;> cbv
  · rw [at_stat h] at hr
    cases hr
    all_goals exact s_sA
  · have hn := stat_no h
    refine qac hS ?_ ?_ <;> intro h1 <;> cbv
    · rw [at_none (.inl (by omega))] at hr
      cases hr
      all_goals exact s_sA
    · repeat' (first
      | (refine s_st hS ?_; try cbv)
      | (refine qac hS ?_ ?_ <;> intro h <;> (try cbv) <;> try exact s_ab h)
      | (refine qah hS ?_; intro _ _; try cbv)
      | (refine qad hS ?_; try cbv)
      | (refine qan hS ?_; intro _ _; try cbv)
      | (refine qbj hS ?_; try cbv)
      | fail)
      · rename_i r hr'
        rw [at_none (.inr (by omega))] at hr
        cases hr
        all_goals exact s_sA
      · rename_i r hr'
        obtain ⟨⟨c, d⟩, hp⟩ := qka (l := l) (i := i - 21) (by omega) (by omega)
        rw [at_row (by omega) hp] at hr
        cases hr
        repeat' (first
          | (refine s_st hS ?_; try cbv)
          | (refine qac hS ?_ ?_ <;> intro h <;> (try cbv) <;> try exact s_ab h)
          | (refine qah hS ?_; intro _ _; try cbv)
          | (refine qad hS ?_; try cbv)
          | (refine qan hS ?_; intro _ _; try cbv)
          | (refine qbj hS ?_; try cbv)
          | fail)
        rename_i q hq
        refine rowF hS hF (show l[r.toNat]? = some (a, b) by rw [hr']; exact hp) (by omega) ?_
        cbv
        repeat' (first
          | (refine s_st hS ?_; try cbv)
          | (refine qac hS ?_ ?_ <;> intro h <;> (try cbv) <;> try exact s_ab h)
          | (refine qah hS ?_; intro _ _; try cbv)
          | (refine qad hS ?_; try cbv)
          | (refine qan hS ?_; intro _ _; try cbv)
          | (refine qbj hS ?_; try cbv)
          | fail)
        all_goals exact s_sA
theorem TabC.fzi {bl : List Blk} {cs : List SV} {mx : Int} {l : List Fd} (h : TabC bl cs mx l) {g : Nat → Nat} {x y : SV} (hx : Sub x y) (hr : refsB (fun _ => false) x = true) : FzL bl g [] [.ag cs, x] [tabV mx l, y] := by
  have h1 := h.fz (g := g)
  cases h1 with
  | cons h1 _ => exact .cons h1 (.cons (.sub hx hr) .nil)
  | fsub h hp => simp [tabV, plains, plainV] at hp
theorem rat_u {S : Sy} {bl : List Blk} {K : SV → List Blk → Prop} {cs : List SV} {mx : Int} {l : List Fd} (hS : S0 Tryz.prog = S) {z : Z} (hc : TabC bl cs mx l) (hl : -9223372036854775808 ≤ z.v) (hu : z.v ≤ 9223372036854775807) (hm : ilen l ≤ 100000000)
    (hK : ∀ a b e, atR l z.v = ((a, b), e) → K (.tp [.ag [.s a, .s b], .i .i64 (.l e)]) bl) : S.call 66 [.ag cs, .i .i64 z] bl K := by
  cases hr : atR l z.v with
  | mk f e => cases f with
    | mk a b => exact qcl hS (qcb (rat_f hr hl hu hm)) (hc.fzi (qak rfl) rfl) rfl rfl (hK a b e hr)
end Tb
end Cz
namespace Cz
open Go Go.RowKit Go.Proofs
namespace Tb
theorem bidx_u {S : Sy} (hS : S0 Tryz.prog = S) {l : List Blk} {K : SV → List Blk → Prop} {x : List UInt8} {z : Z} {T : Int} (hT : idxI x z.v = T) (h : K (.i .i64 (.y T)) l) : S.call 128 [.s x, .i .u8 z] l K := by
  refine qbc hS (sv := .i .i64 (.y T)) (args' := [.s x, .i .u8 (.y z.v)]) ?_ (.cons .rfl (.cons (qak rfl) .nil)) rfl rfl h
  generalize hS : S0 Tryz.prog = S
  refine qab hS I.qda ?_
  cbv
  refine qbc hS (idx_f x z.v) .rfl rfl rfl ?_
  rw [hT]
  cbv
  exact .rfl
theorem lidx_f (x : List UInt8) (c : UInt8) (hx : ilen x ≤ 140737488355328) : (S0 Tryz.prog).call 119 [.s x, .s [c]] [] (fun y _ => Sub y (.i .i64 (.y (idxI x c.toNat)))) := by
  generalize hT : idxI x c.toNat = T
  generalize hS : S0 Tryz.prog = S
  have h2 : S.sat [c] 0 = c.toNat := by subst hS; rfl
  refine qab hS I.qjo ?_
  cbv
  refine qac hS ?_ ?_ <;> intro h <;> cbv
  · exfalso; simp at h
  refine qac hS ?_ ?_ <;> intro h <;> cbv
  · refine qak ?_
    rw [← h] at hT
    simp [idxI] at hT
    exact hT
  refine qac hS ?_ ?_ <;> intro h <;> cbv
  · repeat' (first
    | (refine s_st hS ?_; try cbv)
    | (refine qac hS ?_ ?_ <;> intro h <;> (try cbv) <;> try exact s_ab h)
    | (refine qah hS ?_; intro _ _; try cbv)
    | (refine qad hS ?_; try cbv)
    | (refine qan hS ?_; intro _ _; try cbv)
    | (refine qbj hS ?_; try cbv)
    | fail)
    refine bidx_u hS (T := T) (by rw [← hT]; exact congrArg (idxI x) h2) ?_
    cbv
    all_goals exact s_sA
  · exfalso; simp at h
theorem lidx_u {S : Sy} (hS : S0 Tryz.prog = S) {l : List Blk} {K : SV → List Blk → Prop} {x : List UInt8} {c : UInt8} {T : Int} (hx : ilen x ≤ 140737488355328) (hT : idxI x c.toNat = T) (h : K (.i .i64 (.y T)) l) : S.call 119 [.s x, .s [c]] l K := by
  subst hT
  exact qbc hS (lidx_f x c hx) .rfl rfl rfl h
theorem sidx_u {S : Sy} (hS : S0 Tryz.prog = S) {l : List Blk} {K : SV → List Blk → Prop} {x : List UInt8} {c : UInt8} {T : Int} (hx : ilen x ≤ 140737488355328) (hT : idxI x c.toNat = T) (h : K (.i .i64 (.y T)) l) : S.call 118 [.s x, .s [c]] l K := by
  refine qbc hS (sv := .i .i64 (.y T)) (args' := [.s x, .s [c]]) ?_ .rfl rfl rfl h
  generalize hS : S0 Tryz.prog = S
  refine qab hS I.qqk ?_
  cbv
  refine lidx_u hS hx hT ?_
  cbv
  exact .rfl
def cutR (x : List UInt8) : Fd := if idxI x 32 < 0 then (x, []) else (x.take (idxI x 32).toNat, x.drop ((idxI x 32).toNat + 1))
theorem cut_f (x : List UInt8) {a b : List UInt8} (hr : cutR x = (a, b)) (hx : ilen x ≤ 140737488355328) (hi : idxI x 32 < ilen x) : ∃ t : Bool, (S0 Tryz.prog).call 90 [.s x, .s [32]] [] (fun y _ => Sub y (.tp [.s a, .s b, .b t])) := by
  obtain ⟨T, hT⟩ : ∃ T, idxI x 32 = T := ⟨_, rfl⟩
  unfold cutR at hr
  rw [hT] at hr hi
  obtain ⟨t, ht⟩ : ∃ t, t = decide (0 ≤ T) := ⟨_, rfl⟩
  refine ⟨t, ?_⟩
  generalize hS : S0 Tryz.prog = S
  refine qab hS I.quz ?_
  cbv
  refine qab hS I.qmw ?_
  cbv
  refine lidx_u hS (c := 32) hx hT ?_
  cbv
  refine qac hS ?_ ?_ <;> intro h <;> cbv
  · rw [if_neg (by omega)] at hr
    have hc : ilen ([32] : List UInt8) = 1 := rfl
    have hc2 : (([32] : List UInt8).length : Int) = 1 := rfl
    have hx' : ilen x = x.length := rfl
    refine qal hS rfl I.qhs (by decide +kernel) ?_
    cbv
    repeat' (first
      | (refine s_st hS ?_; try cbv)
      | (refine qac hS ?_ ?_ <;> intro h <;> (try cbv) <;> try exact s_ab h)
      | (refine qah hS ?_; intro _ _; try cbv)
      | (refine qad hS ?_; try cbv)
      | (refine qan hS ?_; intro _ _; try cbv)
      | (refine qbj hS ?_; try cbv)
      | (refine And.intro rfl ?_; try cbv)
      | fail)
    cases hr
    rename_i r hr
    have e : t = true := by rw [ht]; exact decide_eq_true h
    have e1 : S.ssub x 0 T = x.take T.toNat := by subst hS; rfl
    have e2 : S.ssub x r (S.slen x) = x.drop (T.toNat + 1) := by
      rw [hr, hc]
      subst hS
      show (x.take x.length).drop (T + 1).toNat = _
      rw [List.take_length, show (T + 1).toNat = T.toNat + 1 by omega]
    rw [← e1, ← e2]
    all_goals exact s_sA
  · rw [if_pos (by omega)] at hr
    cases hr
    have e : t = false := by rw [ht]; exact decide_eq_false h
    all_goals exact s_sA
theorem cut_u {S : Sy} (hS : S0 Tryz.prog = S) {l : List Blk} {K : SV → List Blk → Prop} {x a b : List UInt8} (hr : cutR x = (a, b)) (hx : ilen x ≤ 140737488355328) (hi : idxI x 32 < ilen x) (h : ∀ t, K (.tp [.s a, .s b, .b t]) l) : S.call 90 [.s x, .s [32]] l K := by
  obtain ⟨t, ht⟩ := cut_f x hr hx hi
  exact qbc hS ht .rfl rfl rfl (h t)
theorem line_at {j : Int} (h0 : 0 ≤ j) (h1 : j < 19) : ∃ (L a b : List UInt8), idxI (remT j.toNat) 10 = ilen L ∧ (remT j.toNat).take L.length = L ∧ (remT j.toNat).drop (L.length + 1) = remT (j + 1).toNat ∧ cutR L = (a, b) ∧ stL[j.toNat]? = some (a, b) ∧ ilen L ≤ 20 ∧ ilen (remT j.toNat) ≤ 300 ∧ idxI L 32 < ilen L ∧ ilen L < ilen (remT j.toNat) := by
  have h := line_facts ⟨j.toNat, by omega⟩
  dsimp only at h
  obtain ⟨e1, e2, e3, e4, e5, e6, e7, e8⟩ := h
  have hj : j.toNat < 19 := by omega
  rw [if_pos hj] at e1
  have hs : j.toNat < stL.length := by rw [qfz]; omega
  have hst : stL[j.toNat]? = some (stL.getD j.toNat ([], [])) := by rw [List.getD_eq_getElem?_getD, List.getElem?_eq_getElem hs]; rfl
  have hL : ilen (lineL.getD j.toNat []) < ilen (remT j.toNat) := by
    have := e3 hj
    have hd := congrArg List.length e2
    rw [List.length_take] at hd
    rcases Nat.lt_or_ge (lineL.getD j.toNat []).length (remT j.toNat).length with h | h
    · unfold ilen; omega
    · exfalso
      rw [List.drop_eq_nil_of_le (by omega)] at this
      have h2 : ∀ k : Fin 20, remT k.val ≠ [] := by decide +kernel
      exact h2 ⟨j.toNat + 1, by omega⟩ this.symm
  refine ⟨lineL.getD j.toNat [], (stL.getD j.toNat ([], [])).1, (stL.getD j.toNat ([], [])).2, e1, e2, ?_, ?_, hst, e6, e7, e8, hL⟩
  · rw [e3 hj]; congr 1; omega
  · unfold cutR
    by_cases h : idxI (lineL.getD j.toNat []) 32 < 0
    · rw [if_pos h] at e5 ⊢; rw [e5]
    · rw [if_neg h] at e5 ⊢; rw [e5]
theorem all_st {l : List Fd} {j : Int} {f : Fd} (h : stL[j.toNat]? = some f) : (allF l)[j.toNat]? = some f := by
  unfold allF
  have := (List.getElem?_eq_some_iff.1 h).1
  rw [List.getElem?_append_left this, h]
theorem all_row {l : List Fd} {j k : Int} (h0 : 0 ≤ j) (hk : k = j + 20) {f : Fd} (h : l[j.toNat]? = some f) : (allF l)[k.toNat]? = some f := by
  unfold allF
  rw [List.getElem?_append_right (by rw [qfz]; omega), qfz, show k.toNat - 20 = j.toNat by omega, h]
end Tb
end Cz
namespace Cz
open Go Go.RowKit Go.Proofs
section
variable {α : Type} [DecidableEq α]
def mapE (enc : α → SV) (ms : List (α × Int)) : List (SV × SV) := ms.map fun p => (enc p.1, .i .i64 (.y p.2))
def mget : List (α × Int) → α → Int
  | [], _ => 0
  | (k, v) :: r, a => if a = k then v else mget r a
theorem mget_app (a b : α) (n : Int) : ∀ ms : List (α × Int), (∀ p, p ∈ ms → 1 ≤ p.2) → mget (ms ++ [(b, n)]) a = if mget ms a ≠ 0 then mget ms a else if a = b then n else 0
  | [], _ => by simp [mget]
  | (k, v) :: r, hv => by
    simp only [List.cons_append, mget]
    split
    · have := hv (k, v) (List.mem_cons_self ..)
      dsimp only at this
      rw [if_pos (by omega)]
    · exact mget_app a b n r fun p hp => hv p (List.mem_cons_of_mem _ hp)
theorem lk_g {P : Program} {S : Sy} {sig : Sg} {enc : α → SV} {zero : SV} {K : SV → Bool → Prop} {a : α} (hS : S0 P = S) (heq : ∀ (b : α) (k1 k2 : Unit → Prop), (a = b → k1 ()) → (a ≠ b → k2 ()) → veq S sig (enc a) (enc b) k1 k2)
    {ms : List (α × Int)} {E : List (SV × SV)} (hE : mapE enc ms = E) (h1 : mget ms a ≠ 0 → K (.i .i64 (.y (mget ms a))) true) (h2 : mget ms a = 0 → K zero false) (hv : ∀ p, p ∈ ms → 1 ≤ p.2) : S.lk sig (enc a) K zero E := by
  refine s_lk hS ?_
  subst hE
  induction ms with
  | nil => exact h2 rfl
  | cons p r ih =>
    obtain ⟨k, v⟩ := p
    simp only [mapE, List.map_cons, vlook]
    have h0 := hv (k, v) (List.mem_cons_self ..)
    dsimp only at h0
    refine heq k _ _ (fun e => ?_) (fun e => ?_)
    · simp only [mget, if_pos e] at h1
      exact h1 (by omega)
    · simp only [mget, if_neg e] at h1 h2
      exact ih h1 h2 fun p hp => hv p (List.mem_cons_of_mem _ hp)
theorem mu_g {P : Program} {S : Sy} {sig : Sg} {enc : α → SV} {K : List (SV × SV) → Prop} {a : α} {z : Z} (hS : S0 P = S) (heq : ∀ (b : α) (k1 k2 : Unit → Prop), (a = b → k1 ()) → (a ≠ b → k2 ()) → veq S sig (enc a) (enc b) k1 k2)
    {ms : List (α × Int)} {E : List (SV × SV)} (hE : mapE enc ms = E) (h0 : mget ms a = 0) (hv : ∀ p, p ∈ ms → 1 ≤ p.2) (h : ∀ E', E ++ [(enc a, .i .i64 z)] = E' → K E') : S.mu sig (enc a) (.i .i64 z) K [] E := by
  refine s_mu hS ?_
  have key : ∀ (r : List (α × Int)) (acc : List (SV × SV)), (∀ p, p ∈ r → 1 ≤ p.2) → mget r a = 0 → acc ++ mapE enc r = E → vmupd S sig (enc a) (.i .i64 z) K acc (mapE enc r) := by
    intro r
    induction r with
    | nil => intro acc _ _ he; simp only [mapE, List.map_nil, List.append_nil, vmupd] at he ⊢; exact h _ (by rw [he])
    | cons p r ih =>
      intro acc hv h0 he
      obtain ⟨k, v⟩ := p
      have h1 := hv (k, v) (List.mem_cons_self ..)
      dsimp only at h1
      simp only [mget] at h0
      have hk : a ≠ k := by intro e; rw [if_pos e] at h0; omega
      rw [if_neg hk] at h0
      simp only [mapE, List.map_cons, vmupd]
      exact heq k _ _ (fun e => absurd e hk) fun _ => ih _ (fun p hp => hv p (List.mem_cons_of_mem _ hp)) h0 (by rw [← he]; simp [mapE])
  have := key ms [] hv h0 (by simpa using hE)
  rwa [hE] at this
end
namespace Tb
theorem qrf (p : Fd → Bool) : ∀ (l r : List Fd) (k : Int), 1 ≤ k → fstI p (l ++ r) k = if fstI p l k ≠ 0 then fstI p l k else fstI p r (k + l.length)
  | [], r, k, _ => by simp [fstI]
  | x :: l, r, k, hk => by
    simp only [List.cons_append, fstI]
    split
    · rw [if_pos (by omega)]
    · rw [qrf p l r (k + 1) (by omega)]
      simp only [List.length_cons]
      rw [show k + 1 + (l.length : Int) = k + ((l.length + 1 : Nat) : Int) by omega]
theorem qxu {p : Fd → Bool} {L : List Fd} {j : Int} {x : Fd} (hx : L[j.toNat]? = some x) (h0 : 0 ≤ j) : fstI p (L.take (j + 1).toNat) 1 = if fstI p (L.take j.toNat) 1 ≠ 0 then fstI p (L.take j.toNat) 1 else if p x then j + 1 else 0 := by
  have hl := (List.getElem?_eq_some_iff.1 hx).1
  rw [qdd hx h0, qrf _ _ _ _ (Int.le_refl _)]
  simp only [fstI, List.length_take]
  rw [show (1 : Int) + ((min j.toNat L.length : Nat) : Int) = j + 1 by omega]
theorem fst_here {p : Fd → Bool} {L : List Fd} {j : Int} {x : Fd} (hx : L[j.toNat]? = some x) (h0 : 0 ≤ j) (hz : fstI p (L.take j.toNat) 1 = 0) (hp : p x = true) : fstI p L 1 = j + 1 := by
  have h := qxu (p := p) hx h0
  rw [if_neg (by omega), if_pos hp] at h
  conv => lhs; rw [← List.take_append_drop (j + 1).toNat L]
  rw [qrf _ _ _ _ (Int.le_refl _), h, if_pos (by omega)]
theorem qsu (p : Fd → Bool) : ∀ (l : List Fd) (k : Int), 1 ≤ k → 0 ≤ fstI p l k ∧ fstI p l k ≤ k + l.length - 1 ∧ (fstI p l k ≠ 0 → k ≤ fstI p l k)
  | [], k, hk => by simp [fstI]; omega
  | x :: l, k, hk => by
    simp only [fstI, List.length_cons]
    split
    · omega
    · have := qsu p l (k + 1) (by omega)
      omega
theorem qrk (l : List Fd) : ilen (allF l) = 20 + ilen l := by
  unfold ilen allF
  rw [List.length_append, qfz]; omega
theorem at_all {l : List Fd} {i : Int} (h0 : 1 ≤ i) (h1 : i ≤ 20 + ilen l) : ∃ a b, (allF l)[(i - 1).toNat]? = some (a, b) ∧ atR l i = ((a, b), 0) := by
  have := qrk l
  have hi : (i - 1).toNat < (allF l).length := by unfold ilen at *; omega
  refine ⟨((allF l)[(i - 1).toNat]).1, ((allF l)[(i - 1).toNat]).2, List.getElem?_eq_getElem hi, ?_⟩
  unfold atR
  rw [if_neg (by omega), List.getElem?_eq_getElem hi]
theorem rfind_f {mx n : Int} {l : List Fd} {a b : List UInt8} {t : Bool} (hr : findR l (a, b) = (n, t)) (hm : ilen l ≤ 100000000) : (S0 Tryz.prog).call 41 [tabV mx l, .ag [.s a, .s b]] [] (fun y _ => Sub y (.tp [.i .i64 (.y n), .b t])) := by
  unfold tabV
  generalize hF : cellsF l = F
  obtain ⟨m, hm'⟩ : ∃ m, m = ilen l := ⟨_, rfl⟩
  have h0 := qag l
  have hal := qrk l
  unfold findR at hr
  generalize hw : (fun x : Fd => x == (a, b)) = w at hr
  generalize hv : (fun x : Fd => x.1 == (a, b).1) = v at hr
  rw [← hm'] at h0 hm ⊢
  generalize hS : S0 Tryz.prog = S
  refine qab hS I.qlj ?_
  cbv
  refine qax hS 2 I.qgt (fun x : Int × Int => 1 ≤ x.1 ∧ x.1 ≤ m + 21 ∧ fstI w ((allF l).take (x.1 - 1).toNat) 1 = 0 ∧ x.2 = fstI v ((allF l).take (x.1 - 1).toNat) 1) (fun x => [(6, .i .i64 (.y x.2)), (7, .i .i64 (.y x.1))]) (fun _ => []) (fun x => (m + 21 - x.1).toNat) (1, 0) rfl
    ⟨⟨Int.le_refl _, by dsimp only; omega, rfl, rfl⟩, rfl, ?_, ?_, by cbv⟩ ?_
  · cbv; all_goals exact s_sA
  · cbv; all_goals exact s_bA
  intro x
  obtain ⟨i, u⟩ := x
  intro hx
  dsimp only at hx
  cbv
  obtain ⟨k0, k1, k2, k3⟩ := hx
  refine qah hS ?_
  intro q hq
  cbv
  refine qac hS ?_ ?_ <;> intro h <;> cbv
  · obtain ⟨c, d, hp, hat⟩ := at_all (l := l) (i := i) k0 (by omega)
    have hnw := qxu (p := w) hp (by omega)
    have hnv := qxu (p := v) hp (by omega)
    rw [if_neg (by omega)] at hnw
    have hwx : w (c, d) = decide ((c, d) = (a, b)) := by rw [← hw, Bool.eq_iff_iff]; simp
    have hvx : v (c, d) = decide (c = a) := by rw [← hv, Bool.eq_iff_iff]; simp
    rw [hwx, show i - 1 + 1 = i by omega] at hnw
    rw [hvx, ← k3, show i - 1 + 1 = i by omega] at hnv
    refine rat_u hS (.v rfl hF hm') (by dsimp only [Z.v]; omega) (by dsimp only [Z.v]; omega) (by omega) fun c' d' e' he => ?_
    cbv
    dsimp only [Z.v] at he
    rw [hat] at he
    cases he
    refine eqFd hS (fun hab => ?_) (fun hab => ?_) <;> cbv
    · rw [fst_here hp (by omega) k2 (by rw [hwx]; exact decide_eq_true hab), show i - 1 + 1 = i by omega, if_pos (by omega)] at hr
      cases hr
      all_goals exact s_sA
    · rw [if_neg (by rw [decide_eq_true_eq]; exact hab)] at hnw
      refine qac hS ?_ ?_ <;> intro h1 <;> cbv
      · rw [if_pos (decide_eq_true h1)] at hnv
        refine qac hS ?_ ?_ <;> intro h2 <;> cbv
        · rw [if_neg (by omega)] at hnv
          repeat' (first
            | (refine s_st hS ?_; try cbv)
            | (refine qac hS ?_ ?_ <;> intro h <;> (try cbv) <;> try exact s_ab h)
            | (refine qah hS ?_; intro _ _; try cbv)
            | (refine qad hS ?_; try cbv)
            | (refine qan hS ?_; intro _ _; try cbv)
            | (refine qbj hS ?_; try cbv)
            | fail)
          rename_i r hr'
          refine ⟨(r, i), by dsimp only; omega, ⟨by dsimp only; omega, by dsimp only; omega, by dsimp only; rw [hr', show i + 1 - 1 = i by omega]; exact hnw, by dsimp only; rw [hr', show i + 1 - 1 = i by omega, hnv]⟩, rfl, ?_, ?_, by cbv⟩
          · cbv; all_goals exact s_sA
          · cbv; all_goals exact s_bA
        · rw [if_pos (by omega)] at hnv
          repeat' (first
            | (refine s_st hS ?_; try cbv)
            | (refine qac hS ?_ ?_ <;> intro h <;> (try cbv) <;> try exact s_ab h)
            | (refine qah hS ?_; intro _ _; try cbv)
            | (refine qad hS ?_; try cbv)
            | (refine qan hS ?_; intro _ _; try cbv)
            | (refine qbj hS ?_; try cbv)
            | fail)
          rename_i r hr'
          refine ⟨(r, u), by dsimp only; omega, ⟨by dsimp only; omega, by dsimp only; omega, by dsimp only; rw [hr', show i + 1 - 1 = i by omega]; exact hnw, by dsimp only; rw [hr', show i + 1 - 1 = i by omega, hnv]⟩, rfl, ?_, ?_, by cbv⟩
          · cbv; all_goals exact s_sA
          · cbv; all_goals exact s_bA
      · rw [if_neg (c := (decide (c = a)) = true) (by rw [decide_eq_true_eq]; exact h1)] at hnv
        repeat' (first
          | (refine s_st hS ?_; try cbv)
          | (refine qac hS ?_ ?_ <;> intro h <;> (try cbv) <;> try exact s_ab h)
          | (refine qah hS ?_; intro _ _; try cbv)
          | (refine qad hS ?_; try cbv)
          | (refine qan hS ?_; intro _ _; try cbv)
          | (refine qbj hS ?_; try cbv)
          | fail)
        rename_i r hr'
        refine ⟨(r, u), by dsimp only; omega, ⟨by dsimp only; omega, by dsimp only; omega, by dsimp only; rw [hr', show i + 1 - 1 = i by omega]; exact hnw, by dsimp only; rw [hr', show i + 1 - 1 = i by omega, hnv]; split <;> omega⟩, rfl, ?_, ?_, by cbv⟩
        · cbv; all_goals exact s_sA
        · cbv; all_goals exact s_bA
  · have hta : (allF l).take (i - 1).toNat = allF l := qca (by omega)
    rw [hta] at k2 k3
    rw [if_neg (by omega), ← k3] at hr
    cases hr
    all_goals exact s_sA
end Tb
end Cz
namespace Cz
open Go Go.RowKit Go.Proofs
namespace Tb
theorem eqF' {S : Sy} (hS : S0 Tryz.prog = S) (x y : Fd) (k1 k2 : Unit → Prop) (h1 : x = y → k1 ()) (h2 : x ≠ y → k2 ()) : veq S ⟨true, [.ks, .ks]⟩ (.ag [.s x.1, .s x.2]) (.ag [.s y.1, .s y.2]) k1 k2 := by
  obtain ⟨a, b⟩ := x
  obtain ⟨c, d⟩ := y
  cbv
  refine s_br hS (fun h => ?_) (fun h => ?_) <;> cbv <;> simp only [← hS, Int.ofNat_eq_natCast, cq, Bool.not_eq_true', Bool.not_eq_false', decide_eq_true_eq, decide_eq_false_iff_not, beq_iff_eq, beq_eq_false_iff_ne, ne_eq] at h
  · refine s_br hS (fun h' => ?_) (fun h' => ?_) <;> cbv <;> simp only [← hS, Int.ofNat_eq_natCast, cq, Bool.not_eq_true', Bool.not_eq_false', decide_eq_true_eq, decide_eq_false_iff_not, beq_iff_eq, beq_eq_false_iff_ne, ne_eq] at h'
    · exact h1 (by rw [h, h'])
    · exact h2 (by intro e; cases e; exact h' rfl)
  · exact h2 (by intro e; cases e; exact h rfl)
theorem eqN' {S : Sy} (hS : S0 Tryz.prog = S) (x y : List UInt8) (k1 k2 : Unit → Prop) (h1 : x = y → k1 ()) (h2 : x ≠ y → k2 ()) : veq S ⟨false, [.ks]⟩ (.s x) (.s y) k1 k2 := by
  cbv
  refine s_br hS (fun h => ?_) (fun h => ?_) <;> cbv <;> simp only [← hS, Int.ofNat_eq_natCast, cq, Bool.not_eq_true', Bool.not_eq_false', decide_eq_true_eq, decide_eq_false_iff_not, beq_iff_eq, beq_eq_false_iff_ne, ne_eq] at h
  · exact h1 h
  · exact h2 h
def encF (x : Fd) : SV := .ag [.s x.1, .s x.2]
def MapG {α : Type} [DecidableEq α] (enc : α → SV) (key : Fd → α) (E : List (SV × SV)) (L : List Fd) : Prop :=
  ∃ ms : List (α × Int), mapE enc ms = E ∧ (∀ p, p ∈ ms → 1 ≤ p.2) ∧ ∀ k, mget ms k = fstI (fun x => decide (key x = k)) L 1
section
variable {α : Type} [DecidableEq α] {enc : α → SV} {key : Fd → α} {E : List (SV × SV)} {L : List Fd}
theorem fst_snoc (p : Fd → Bool) (L : List Fd) (x : Fd) : fstI p (L ++ [x]) 1 = if fstI p L 1 ≠ 0 then fstI p L 1 else if p x then 1 + L.length else 0 := by
  rw [qrf p L [x] 1 (Int.le_refl _)]
  simp only [fstI]
theorem MapG.keep (h : MapG enc key E L) {x : Fd} (hx : fstI (fun y => decide (key y = key x)) L 1 ≠ 0) : MapG enc key E (L ++ [x]) := by
  obtain ⟨ms, h1, h2, h3⟩ := h
  refine ⟨ms, h1, h2, fun k => ?_⟩
  rw [h3, fst_snoc]
  split
  · rfl
  · rename_i h0
    split
    · rename_i hk
      exact absurd (by rw [← of_decide_eq_true hk] at h0; omega) hx
    · omega
theorem MapG.put (h : MapG enc key E L) {x : Fd} (hx : fstI (fun y => decide (key y = key x)) L 1 = 0) : MapG enc key (E ++ [(enc (key x), .i .i64 (.y (1 + L.length)))]) (L ++ [x]) := by
  obtain ⟨ms, h1, h2, h3⟩ := h
  refine ⟨ms ++ [(key x, (1 + L.length : Int))], ?_, ?_, fun k => ?_⟩
  · rw [← h1]; simp [mapE]
  · intro p hp
    rcases List.mem_append.1 hp with hp | hp
    · exact h2 p hp
    · rw [List.mem_singleton.1 hp]; dsimp only; omega
  · rw [mget_app _ _ _ _ h2, h3, fst_snoc]
    simp only [decide_eq_true_eq]
    split
    · rfl
    · split
      · rename_i e; rw [if_pos e.symm]
      · rename_i e; rw [if_neg fun e' => e e'.symm]
theorem MapG.nil : MapG enc key [] [] := ⟨[], rfl, fun _ h => by simp at h, fun _ => rfl⟩
theorem lkG {S : Sy} {sig : Sg} {zero : SV} {K : SV → Bool → Prop} (hS : S0 Tryz.prog = S) (heq : ∀ (a b : α) (k1 k2 : Unit → Prop), (a = b → k1 ()) → (a ≠ b → k2 ()) → veq S sig (enc a) (enc b) k1 k2) (h : MapG enc key E L) {a : α} {n : Int} (hn : n = fstI (fun x => decide (key x = a)) L 1)
    (h1 : n ≠ 0 → K (.i .i64 (.y n)) true) (h2 : n = 0 → K zero false) : S.lk sig (enc a) K zero E := by
  obtain ⟨ms, hE, hv, hm⟩ := h
  rw [← hm] at hn
  subst hn
  exact lk_g (enc := enc) (a := a) hS (heq a) hE h1 h2 hv
theorem muG {S : Sy} {sig : Sg} {K : List (SV × SV) → Prop} (hS : S0 Tryz.prog = S) (heq : ∀ (a b : α) (k1 k2 : Unit → Prop), (a = b → k1 ()) → (a ≠ b → k2 ()) → veq S sig (enc a) (enc b) k1 k2) (h : MapG enc key E L) {x : Fd} {n : Int} (h0 : fstI (fun y => decide (key y = key x)) L 1 = 0) (hz : n = 1 + L.length)
    (hK : ∀ E', MapG enc key E' (L ++ [x]) → K E') : S.mu sig (enc (key x)) (.i .i64 (.y n)) K [] E := by
  have h' := h.put h0
  obtain ⟨ms, hE, hv, hm⟩ := h
  refine mu_g (enc := enc) (a := key x) hS (heq (key x)) hE (by rw [hm]; exact h0) hv fun E' hE' => hK E' ?_
  rw [← hE', hz]; exact h'
end
section
variable {S : Sy} {E : List (SV × SV)} {L : List Fd} {a b : List UInt8} {n : Int}
theorem lkF (hS : S0 Tryz.prog = S) (h : MapG encF id E L) (hn : n = fstI (fun x => decide (id x = (a, b))) L 1) {zero : SV} {K : SV → Bool → Prop} (h1 : n ≠ 0 → K (.i .i64 (.y n)) true) (h2 : n = 0 → K zero false) :
    S.lk ⟨true, [.ks, .ks]⟩ (.ag [.s a, .s b]) K zero E := lkG (enc := encF) (a := (a, b)) hS (eqF' hS) h hn h1 h2
theorem lkN (hS : S0 Tryz.prog = S) (h : MapG SV.s Prod.fst E L) (hn : n = fstI (fun x => decide (x.1 = a)) L 1) {zero : SV} {K : SV → Bool → Prop} (h1 : n ≠ 0 → K (.i .i64 (.y n)) true) (h2 : n = 0 → K zero false) :
    S.lk ⟨false, [.ks]⟩ (.s a) K zero E := lkG (enc := SV.s) (a := a) hS (eqN' hS) h hn h1 h2
theorem muF (hS : S0 Tryz.prog = S) (h : MapG encF id E L) (h0 : fstI (fun x => decide (id x = (a, b))) L 1 = 0) (hz : n = 1 + L.length) {K : List (SV × SV) → Prop} (hK : ∀ E', MapG encF id E' (L ++ [(a, b)]) → K E') :
    S.mu ⟨true, [.ks, .ks]⟩ (.ag [.s a, .s b]) (.i .i64 (.y n)) K [] E := muG (enc := encF) (key := id) (x := (a, b)) hS (eqF' hS) h h0 hz hK
theorem muN (hS : S0 Tryz.prog = S) (h : MapG SV.s Prod.fst E L) (h0 : fstI (fun x => decide (x.1 = a)) L 1 = 0) (hz : n = 1 + L.length) {K : List (SV × SV) → Prop} (hK : ∀ E', MapG SV.s Prod.fst E' (L ++ [(a, b)]) → K E') :
    S.mu ⟨false, [.ks]⟩ (.s a) (.i .i64 (.y n)) K [] E := muG (enc := SV.s) (key := Prod.fst) (x := (a, b)) hS (eqN' hS) h h0 hz hK
end
section
variable {E : List (SV × SV)} {L : List Fd}
theorem MapG.gcF (h : MapG encF id E L) (m : Nat) : gcM m E = true := by
  obtain ⟨ms, h1, -, -⟩ := h
  subst h1
  induction ms with
  | nil => rfl
  | cons p r ih => exact ih
theorem MapG.gcN (h : MapG SV.s Prod.fst E L) (m : Nat) : gcM m E = true := by
  obtain ⟨ms, h1, -, -⟩ := h
  subst h1
  induction ms with
  | nil => rfl
  | cons p r ih => exact ih
end
theorem line_last2 {j : Int} (h1 : j = 19) (l : List Fd) : ∃ (a b : List UInt8), idxI (remT j.toNat) 10 = -1 ∧ cutR (remT j.toNat) = (a, b) ∧ stL[j.toNat]? = some (a, b) ∧ ilen (remT j.toNat) ≤ 300 ∧ idxI (remT j.toNat) 32 < ilen (remT j.toNat) ∧
    fstI (fun x => decide (id x = (a, b))) ((allF l).take j.toNat) 1 = 0 ∧ fstI (fun x => decide (x.1 = a)) ((allF l).take j.toNat) 1 = 0 := by
  subst h1
  unfold allF
  rw [List.take_append_of_le_length (by decide)]
  exact ⟨[117, 115, 101, 114, 45, 97, 103, 101, 110, 116], [], by decide +kernel⟩
theorem find_f {mx n : Int} {l : List Fd} {a b : List UInt8} {t : Bool} (hr : findR l (a, b) = (n, t)) (hm : ilen l ≤ 100000000) : (S0 Tryz.prog).call 36 [tabV mx l, .ag [.s a, .s b]] [] (fun y _ => Sub y (.tp [.i .i64 (.y n), .b t])) := by
  unfold tabV
  generalize hF : cellsF l = F
  obtain ⟨m, hm'⟩ : ∃ m, m = ilen l := ⟨_, rfl⟩
  have h0 := qag l
  unfold findR at hr
  rw [← hm'] at h0 hm ⊢
  generalize hS : S0 Tryz.prog = S
  refine qab hS I.qxy ?_
  cbv
  refine qab hS I.qsz ?_
  cbv
  refine qkk hS I.qoq ?_
  cbv
  refine qab hS I.qle ?_
  cbv
  refine qab hS I.qld ?_
  cbv
  refine qkk hS I.qib ?_
  cbv
  refine qac hS ?_ ?_ <;> intro h <;> cbv
  · exfalso; simp at h
  have hc : ilen ([10] : List UInt8) = 1 := rfl
  have hc2 : (([10] : List UInt8).length : Int) = 1 := rfl
  refine qax hS 16 I.qfa (fun x : Int × List UInt8 × List (SV × SV) × List (SV × SV) => 0 ≤ x.1 ∧ x.1 ≤ 19 ∧ x.2.1 = remT x.1.toNat ∧ MapG encF id x.2.2.1 ((allF l).take x.1.toNat) ∧ MapG SV.s Prod.fst x.2.2.2 ((allF l).take x.1.toNat)) (fun _ => [])
    (fun x => [(2, .m x.2.2.1), (3, .m x.2.2.2), (10, .c [.i .i64 (.y x.1)]), (11, .c [.s x.2.1])]) (fun x => (19 - x.1).toNat) (0, remT 0, [], []) rfl
    ⟨⟨Int.le_refl _, by dsimp only; omega, rfl, .nil, .nil⟩, rfl, ?_, ?_, by cbv⟩ ?_
  · cbv; all_goals exact s_sA
  · cbv; all_goals exact s_bA
  intro x
  obtain ⟨j, s, E1, E2⟩ := x
  intro hx
  dsimp only at hx
  cbv
  obtain ⟨k0, k1, k3, g1, g2⟩ := hx
  have hjj : j < 19 ∨ 19 ≤ j := by omega
  rcases hjj with hj | hj
  · obtain ⟨L, c, d, f1, f2, f3, f4, f5, f6, f7, f8, f9⟩ := line_at k0 hj
    rw [← k3] at f1 f2 f3 f7 f9
    have hall := all_st (l := l) f5
    have htn := qdd hall k0
    have hlt : ((allF l).take j.toNat).length = j.toNat := by rw [List.length_take]; have := (List.getElem?_eq_some_iff.1 hall).1; omega
    refine sidx_u hS (c := 10) (by omega) f1 ?_
    generalize hn : ilen L = n1 at *
    have hn0 : 0 ≤ n1 := hn ▸ qag L
    cbv
    repeat' (first
      | (refine s_st hS ?_; try cbv)
      | (refine qac hS ?_ ?_ <;> intro h <;> (try cbv) <;> try exact s_ab h)
      | (refine qah hS ?_; intro _ _; try cbv)
      | (refine qad hS ?_; try cbv)
      | (refine qan hS ?_; intro _ _; try cbv)
      | (refine qbj hS ?_; try cbv)
      | (refine qmc hS rfl rfl ?_; cbv)
      | fail)
    rename_i r1 hr1 j1 hj1
    have e1 : S.ssub s 0 r1 = L := by
      subst hS
      show (s.take r1.toNat).drop 0 = L
      rw [List.drop_zero, show r1.toNat = L.length by unfold ilen at hn; omega, f2]
    refine cut_u hS (x := S.ssub s 0 r1) (a := c) (b := d) (by rw [e1]; exact f4) (by rw [e1]; omega) (by rw [e1, hn]; exact f8) fun t => ?_
    generalize hT : (allF l).take j.toNat = T at *
    cbv
    refine qmc hS rfl rfl ?_
    cbv
    obtain ⟨nf, hnf⟩ : ∃ nf, nf = fstI (fun x => decide (id x = (c, d))) T 1 := ⟨_, rfl⟩
    obtain ⟨nn, hnn⟩ : ∃ nn, nn = fstI (fun x => decide (x.1 = c)) T 1 := ⟨_, rfl⟩
    refine lkF hS g1 hnf (fun q => ?_) (fun q => ?_) <;> cbv
    · have g1' := g1.keep (x := (c, d)) (fun e => q (hnf.trans e))
      refine lkN hS g2 hnn (fun q2 => ?_) (fun q2 => ?_) <;> cbv
      · have g2' := g2.keep (x := (c, d)) (fun e => q2 (hnn.trans e))
        repeat' (first
          | (refine s_st hS ?_; try cbv)
          | (refine qac hS ?_ ?_ <;> intro h <;> (try cbv) <;> try exact s_ab h)
          | (refine qah hS ?_; intro _ _; try cbv)
          | (refine qad hS ?_; try cbv)
          | (refine qan hS ?_; intro _ _; try cbv)
          | (refine qbj hS ?_; try cbv)
          | fail)
        rename_i r2 hr2
        refine ⟨(j1, S.ssub s r2 (S.slen s), E1, E2), by dsimp only; omega, ⟨by dsimp only; omega, by dsimp only; omega, ?_, by dsimp only; rw [hj1, htn]; exact g1', by dsimp only; rw [hj1, htn]; exact g2'⟩, rfl, ?_, ?_, by cbv; (have ga := MapG.gcF g1' 16; have gb := MapG.gcN g2' 16; cbv at ga gb; first | rw [ga, gb] | (rw [ga]; rw [gb]))⟩
        · dsimp only
          rw [hj1, ← f3]
          subst hS
          show (s.take s.length).drop r2.toNat = _
          rw [List.take_length, show r2.toNat = L.length + 1 by unfold ilen at hn; omega]
        · cbv; all_goals exact s_sA
        · cbv; all_goals exact s_bA
      · refine muN (b := d) hS g2 (hnn.symm.trans q2) (show j1 = 1 + (T.length : Int) by omega) fun E2' g2' => ?_
        cbv
        repeat' (first
          | (refine s_st hS ?_; try cbv)
          | (refine qac hS ?_ ?_ <;> intro h <;> (try cbv) <;> try exact s_ab h)
          | (refine qah hS ?_; intro _ _; try cbv)
          | (refine qad hS ?_; try cbv)
          | (refine qan hS ?_; intro _ _; try cbv)
          | (refine qbj hS ?_; try cbv)
          | fail)
        rename_i r2 hr2
        refine ⟨(j1, S.ssub s r2 (S.slen s), E1, E2'), by dsimp only; omega, ⟨by dsimp only; omega, by dsimp only; omega, ?_, by dsimp only; rw [hj1, htn]; exact g1', by dsimp only; rw [hj1, htn]; exact g2'⟩, rfl, ?_, ?_, by cbv; (have ga := MapG.gcF g1' 16; have gb := MapG.gcN g2' 16; cbv at ga gb; first | rw [ga, gb] | (rw [ga]; rw [gb]))⟩
        · dsimp only
          rw [hj1, ← f3]
          subst hS
          show (s.take s.length).drop r2.toNat = _
          rw [List.take_length, show r2.toNat = L.length + 1 by unfold ilen at hn; omega]
        · cbv; all_goals exact s_sA
        · cbv; all_goals exact s_bA
    · refine muF hS g1 (hnf.symm.trans q) (show j1 = 1 + (T.length : Int) by omega) fun E1' g1' => ?_
      cbv
      refine lkN hS g2 hnn (fun q2 => ?_) (fun q2 => ?_) <;> cbv
      · have g2' := g2.keep (x := (c, d)) (fun e => q2 (hnn.trans e))
        repeat' (first
          | (refine s_st hS ?_; try cbv)
          | (refine qac hS ?_ ?_ <;> intro h <;> (try cbv) <;> try exact s_ab h)
          | (refine qah hS ?_; intro _ _; try cbv)
          | (refine qad hS ?_; try cbv)
          | (refine qan hS ?_; intro _ _; try cbv)
          | (refine qbj hS ?_; try cbv)
          | fail)
        rename_i r2 hr2
        refine ⟨(j1, S.ssub s r2 (S.slen s), E1', E2), by dsimp only; omega, ⟨by dsimp only; omega, by dsimp only; omega, ?_, by dsimp only; rw [hj1, htn]; exact g1', by dsimp only; rw [hj1, htn]; exact g2'⟩, rfl, ?_, ?_, by cbv; (have ga := MapG.gcF g1' 16; have gb := MapG.gcN g2' 16; cbv at ga gb; first | rw [ga, gb] | (rw [ga]; rw [gb]))⟩
        · dsimp only
          rw [hj1, ← f3]
          subst hS
          show (s.take s.length).drop r2.toNat = _
          rw [List.take_length, show r2.toNat = L.length + 1 by unfold ilen at hn; omega]
        · cbv; all_goals exact s_sA
        · cbv; all_goals exact s_bA
      · refine muN (b := d) hS g2 (hnn.symm.trans q2) (show j1 = 1 + (T.length : Int) by omega) fun E2' g2' => ?_
        cbv
        repeat' (first
          | (refine s_st hS ?_; try cbv)
          | (refine qac hS ?_ ?_ <;> intro h <;> (try cbv) <;> try exact s_ab h)
          | (refine qah hS ?_; intro _ _; try cbv)
          | (refine qad hS ?_; try cbv)
          | (refine qan hS ?_; intro _ _; try cbv)
          | (refine qbj hS ?_; try cbv)
          | fail)
        rename_i r2 hr2
        refine ⟨(j1, S.ssub s r2 (S.slen s), E1', E2'), by dsimp only; omega, ⟨by dsimp only; omega, by dsimp only; omega, ?_, by dsimp only; rw [hj1, htn]; exact g1', by dsimp only; rw [hj1, htn]; exact g2'⟩, rfl, ?_, ?_, by cbv; (have ga := MapG.gcF g1' 16; have gb := MapG.gcN g2' 16; cbv at ga gb; first | rw [ga, gb] | (rw [ga]; rw [gb]))⟩
        · dsimp only
          rw [hj1, ← f3]
          subst hS
          show (s.take s.length).drop r2.toNat = _
          rw [List.take_length, show r2.toNat = L.length + 1 by unfold ilen at hn; omega]
        · cbv; all_goals exact s_sA
        · cbv; all_goals exact s_bA
  · obtain ⟨c, d, f1, f4, f5, f7, f8, f9, f10⟩ := line_last2 (j := j) (by omega) l
    rw [← k3] at f1 f4 f7 f8
    have hall := all_st (l := l) f5
    have htn := qdd hall k0
    have hlt : ((allF l).take j.toNat).length = j.toNat := by rw [List.length_take]; have := (List.getElem?_eq_some_iff.1 hall).1; omega
    generalize hT : (allF l).take j.toNat = T at *
    refine sidx_u hS (c := 10) (by omega) f1 ?_
    cbv
    refine s_br hS ?_ ?_ <;> intro h' <;> cbv <;> simp only [← hS, Int.ofNat_eq_natCast, cq, Bool.not_eq_true', Bool.not_eq_false', decide_eq_true_eq, decide_eq_false_iff_not, beq_iff_eq, beq_eq_false_iff_ne, ne_eq] at h'
    · repeat' (first
      | (refine s_st hS ?_; try cbv)
      | (refine qac hS ?_ ?_ <;> intro h <;> (try cbv) <;> try exact s_ab h)
      | (refine qah hS ?_; intro _ _; try cbv)
      | (refine qad hS ?_; try cbv)
      | (refine qan hS ?_; intro _ _; try cbv)
      | (refine qbj hS ?_; try cbv)
      | (refine qmc hS rfl rfl ?_; cbv)
      | fail)
      rename_i j1 hj1
      refine cut_u hS (a := c) (b := d) f4 (by omega) f8 fun t => ?_
      cbv
      refine qmc hS rfl rfl ?_
      cbv
      obtain ⟨nzf9, hnzf9⟩ : ∃ nz, nz = (0 : Int) := ⟨_, rfl⟩
      refine lkF hS g1 (hnzf9.trans f9.symm) (fun q => ?_) (fun _ => ?_) <;> cbv
      · exact absurd hnzf9 q
      refine muF hS g1 f9 (show j1 = 1 + (T.length : Int) by omega) fun E1' g1' => ?_
      cbv
      obtain ⟨nzf10, hnzf10⟩ : ∃ nz, nz = (0 : Int) := ⟨_, rfl⟩
      refine lkN hS g2 (hnzf10.trans f10.symm) (fun q => ?_) (fun _ => ?_) <;> cbv
      · exact absurd hnzf10 q
      refine muN (b := d) hS g2 f10 (show j1 = 1 + (T.length : Int) by omega) fun E2' g2' => ?_
      cbv
      repeat' (first
        | (refine s_st hS ?_; try cbv)
        | (refine qac hS ?_ ?_ <;> intro h <;> (try cbv) <;> try exact s_ab h)
        | (refine qah hS ?_; intro _ _; try cbv)
        | (refine qad hS ?_; try cbv)
        | (refine qan hS ?_; intro _ _; try cbv)
        | (refine qbj hS ?_; try cbv)
        | fail)
      rw [← htn] at g1' g2'
      clear g1 g2 htn hlt hall
      refine qax hS 17 I.qij (fun x : Int × Int × List (SV × SV) × List (SV × SV) => 0 ≤ x.1 ∧ x.1 ≤ m ∧ x.2.1 = x.1 + 20 ∧ MapG encF id x.2.2.1 ((allF l).take x.2.1.toNat) ∧ MapG SV.s Prod.fst x.2.2.2 ((allF l).take x.2.1.toNat)) (fun x => [(29, .i .i64 (.y x.1))]) (fun x => [(2, .m x.2.2.1), (3, .m x.2.2.2), (10, .c [.i .i64 (.y x.2.1)])]) (fun x => (m - x.1).toNat) (0, j1, E1', E2') rfl
        ⟨⟨Int.le_refl _, by dsimp only; omega, by dsimp only; omega, by dsimp only; rw [hj1]; exact g1', by dsimp only; rw [hj1]; exact g2'⟩, rfl, ?_, ?_, by cbv; (have ga := MapG.gcF g1' 17; have gb := MapG.gcN g2' 17; cbv at ga gb; first | rw [ga, gb] | (rw [ga]; rw [gb]))⟩ ?_
      · cbv; all_goals exact s_sA
      · cbv; all_goals exact s_bA
      clear g1' g2'
      intro x
      obtain ⟨q, u, E1, E2⟩ := x
      intro hx
      dsimp only at hx
      cbv
      obtain ⟨q0, q1, q2, g1, g2⟩ := hx
      refine qac hS ?_ ?_ <;> intro h <;> cbv
      · obtain ⟨⟨c, d⟩, hp⟩ := qka (l := l) (i := q) (by omega) q0
        have hall := all_row q0 q2 hp
        have htn := qdd hall (by omega)
        have hlt : ((allF l).take u.toNat).length = u.toNat := by rw [List.length_take]; have := (List.getElem?_eq_some_iff.1 hall).1; omega
        generalize hT' : (allF l).take u.toNat = T at *
        repeat' (first
          | (refine s_st hS ?_; try cbv)
          | (refine qac hS ?_ ?_ <;> intro h <;> (try cbv) <;> try exact s_ab h)
          | (refine qah hS ?_; intro _ _; try cbv)
          | (refine qad hS ?_; try cbv)
          | (refine qan hS ?_; intro _ _; try cbv)
          | (refine qbj hS ?_; try cbv)
          | (refine rowF hS hF hp (by omega) ?_; cbv)
          | fail)
        rename_i u1 hu1
        refine qmc hS rfl rfl ?_
        cbv
        obtain ⟨nf, hnf⟩ : ∃ nf, nf = fstI (fun x => decide (id x = (c, d))) T 1 := ⟨_, rfl⟩
        obtain ⟨nn, hnn⟩ : ∃ nn, nn = fstI (fun x => decide (x.1 = c)) T 1 := ⟨_, rfl⟩
        refine lkF hS g1 hnf (fun q => ?_) (fun q => ?_) <;> cbv
        · have g1' := g1.keep (x := (c, d)) (fun e => q (hnf.trans e))
          refine lkN hS g2 hnn (fun q2 => ?_) (fun q2 => ?_) <;> cbv
          · have g2' := g2.keep (x := (c, d)) (fun e => q2 (hnn.trans e))
            repeat' (first
              | (refine s_st hS ?_; try cbv)
              | (refine qac hS ?_ ?_ <;> intro h <;> (try cbv) <;> try exact s_ab h)
              | (refine qah hS ?_; intro _ _; try cbv)
              | (refine qad hS ?_; try cbv)
              | (refine qan hS ?_; intro _ _; try cbv)
              | (refine qbj hS ?_; try cbv)
              | fail)
            rename_i q4 hq4
            refine ⟨(q4, u1, E1, E2), by dsimp only; omega, ⟨by dsimp only; omega, by dsimp only; omega, by dsimp only; omega, by dsimp only; rw [hu1, htn]; exact g1', by dsimp only; rw [hu1, htn]; exact g2'⟩, rfl, ?_, ?_, by cbv; (have ga := MapG.gcF g1' 17; have gb := MapG.gcN g2' 17; cbv at ga gb; first | rw [ga, gb] | (rw [ga]; rw [gb]))⟩
            · cbv; all_goals exact s_sA
            · cbv; all_goals exact s_bA
          · refine muN (b := d) hS g2 (hnn.symm.trans q2) (show u1 = 1 + (T.length : Int) by omega) fun E2' g2' => ?_
            cbv
            repeat' (first
              | (refine s_st hS ?_; try cbv)
              | (refine qac hS ?_ ?_ <;> intro h <;> (try cbv) <;> try exact s_ab h)
              | (refine qah hS ?_; intro _ _; try cbv)
              | (refine qad hS ?_; try cbv)
              | (refine qan hS ?_; intro _ _; try cbv)
              | (refine qbj hS ?_; try cbv)
              | fail)
            rename_i q4 hq4
            refine ⟨(q4, u1, E1, E2'), by dsimp only; omega, ⟨by dsimp only; omega, by dsimp only; omega, by dsimp only; omega, by dsimp only; rw [hu1, htn]; exact g1', by dsimp only; rw [hu1, htn]; exact g2'⟩, rfl, ?_, ?_, by cbv; (have ga := MapG.gcF g1' 17; have gb := MapG.gcN g2' 17; cbv at ga gb; first | rw [ga, gb] | (rw [ga]; rw [gb]))⟩
            · cbv; all_goals exact s_sA
            · cbv; all_goals exact s_bA
        · refine muF hS g1 (hnf.symm.trans q) (show u1 = 1 + (T.length : Int) by omega) fun E1' g1' => ?_
          cbv
          refine lkN hS g2 hnn (fun q2 => ?_) (fun q2 => ?_) <;> cbv
          · have g2' := g2.keep (x := (c, d)) (fun e => q2 (hnn.trans e))
            repeat' (first
              | (refine s_st hS ?_; try cbv)
              | (refine qac hS ?_ ?_ <;> intro h <;> (try cbv) <;> try exact s_ab h)
              | (refine qah hS ?_; intro _ _; try cbv)
              | (refine qad hS ?_; try cbv)
              | (refine qan hS ?_; intro _ _; try cbv)
              | (refine qbj hS ?_; try cbv)
              | fail)
            rename_i q4 hq4
            refine ⟨(q4, u1, E1', E2), by dsimp only; omega, ⟨by dsimp only; omega, by dsimp only; omega, by dsimp only; omega, by dsimp only; rw [hu1, htn]; exact g1', by dsimp only; rw [hu1, htn]; exact g2'⟩, rfl, ?_, ?_, by cbv; (have ga := MapG.gcF g1' 17; have gb := MapG.gcN g2' 17; cbv at ga gb; first | rw [ga, gb] | (rw [ga]; rw [gb]))⟩
            · cbv; all_goals exact s_sA
            · cbv; all_goals exact s_bA
          · refine muN (b := d) hS g2 (hnn.symm.trans q2) (show u1 = 1 + (T.length : Int) by omega) fun E2' g2' => ?_
            cbv
            repeat' (first
              | (refine s_st hS ?_; try cbv)
              | (refine qac hS ?_ ?_ <;> intro h <;> (try cbv) <;> try exact s_ab h)
              | (refine qah hS ?_; intro _ _; try cbv)
              | (refine qad hS ?_; try cbv)
              | (refine qan hS ?_; intro _ _; try cbv)
              | (refine qbj hS ?_; try cbv)
              | fail)
            rename_i q4 hq4
            refine ⟨(q4, u1, E1', E2'), by dsimp only; omega, ⟨by dsimp only; omega, by dsimp only; omega, by dsimp only; omega, by dsimp only; rw [hu1, htn]; exact g1', by dsimp only; rw [hu1, htn]; exact g2'⟩, rfl, ?_, ?_, by cbv; (have ga := MapG.gcF g1' 17; have gb := MapG.gcN g2' 17; cbv at ga gb; first | rw [ga, gb] | (rw [ga]; rw [gb]))⟩
            · cbv; all_goals exact s_sA
            · cbv; all_goals exact s_bA
      · have hta : (allF l).take u.toNat = allF l := qca (by rw [qrk]; omega)
        rw [hta] at g1 g2
        have b1 : (fun x : Fd => x == (a, b)) = fun x => decide (id x = (a, b)) := by funext x; rw [Bool.eq_iff_iff]; simp
        have b2 : (fun x : Fd => x.1 == (a, b).1) = fun x => decide (x.1 = a) := by funext x; rw [Bool.eq_iff_iff]; simp
        rw [b1, b2] at hr
        obtain ⟨nf, hnf⟩ : ∃ nf, nf = fstI (fun x => decide (id x = (a, b))) (allF l) 1 := ⟨_, rfl⟩
        obtain ⟨nn, hnn⟩ : ∃ nn, nn = fstI (fun x => decide (x.1 = a)) (allF l) 1 := ⟨_, rfl⟩
        rw [← hnf, ← hnn] at hr
        refine lkF hS g1 hnf (fun q => ?_) (fun q => ?_) <;> cbv
        · rw [if_pos q] at hr
          cases hr
          repeat' (first
            | (refine s_st hS ?_; try cbv)
            | (refine qac hS ?_ ?_ <;> intro h <;> (try cbv) <;> try exact s_ab h)
            | (refine qah hS ?_; intro _ _; try cbv)
            | (refine qad hS ?_; try cbv)
            | (refine qan hS ?_; intro _ _; try cbv)
            | (refine qbj hS ?_; try cbv)
            | fail)
          all_goals exact s_sA
        · rw [if_neg (fun h => h q)] at hr
          refine lkN hS g2 hnn (fun q => ?_) (fun q => ?_) <;> cbv
          · cases hr
            repeat' (first
              | (refine s_st hS ?_; try cbv)
              | (refine qac hS ?_ ?_ <;> intro h <;> (try cbv) <;> try exact s_ab h)
              | (refine qah hS ?_; intro _ _; try cbv)
              | (refine qad hS ?_; try cbv)
              | (refine qan hS ?_; intro _ _; try cbv)
              | (refine qbj hS ?_; try cbv)
              | fail)
            all_goals exact s_sA
          · cases hr
            repeat' (first
              | (refine s_st hS ?_; try cbv)
              | (refine qac hS ?_ ?_ <;> intro h <;> (try cbv) <;> try exact s_ab h)
              | (refine qah hS ?_; intro _ _; try cbv)
              | (refine qad hS ?_; try cbv)
              | (refine qan hS ?_; intro _ _; try cbv)
              | (refine qbj hS ?_; try cbv)
              | fail)
            all_goals exact s_sA
    · omega
end Tb
end Cz
namespace Cz
open Go Go.RowKit Go.Proofs
namespace Tb
section
variable {S : Sy} {bl : List Blk} {K : SV → List Blk → Prop} {cs : List SV} {mx mx' e n : Int} {l l' : List Fd} {F : List SV} {a b : List UInt8}
theorem qin (hS : S0 Tryz.prog = S) {g : FuncId} {args args' : List SV} {y y' : SV} (hF : (S0 Tryz.prog).call g args' [] (Tell y)) (ha : SubL args args') (hr : refsBL (fun _ => false) args' = true) (hy : Sub y y') (hK : K y' bl) : S.call g args bl K := by
  subst hS
  exact qbf (qbd rfl hF ha hr (K := fun x l' => x = y ∧ l' = bl) ⟨rfl, rfl⟩) fun x l' h => ⟨y', h.1 ▸ hy, h.2 ▸ hK⟩
end
abbrev fa : Fd := ([97], [49])
theorem qwx {mx : Int} {l : List Fd} (h0 : 0 ≤ mx) (h1 : mx ≤ 4096) : rightL mx (evL mx l) = true := decide_eq_true ⟨h0, h1, qzaay h0⟩
end Tb
end Cz
namespace Cz
open Go Go.RowKit Go.Proofs
namespace Tb
section
variable {S : Sy} {bl : List Blk} {K : SV → List Blk → Prop} {cs : List SV} {mx mx' e n : Int} {l l' : List Fd} {F : List SV} {a b : List UInt8}
theorem tabE_g (hF : cellsF l' = F) (hn : n = ilen l') : Sub (tabE mx' l' e) (.tp [.ag [.i .i64 (.y mx'), .v false 2 F (.y n)], .i .i64 (.y e)]) := by
  subst hF hn; exact .rfl
theorem add_g (hS : S0 Tryz.prog = S) (hc : TabC [] cs mx l) (hr : addR (mx, l) (a, b) = ((mx', l'), e)) (hF : cellsF l' = F) (hn : n = ilen l') (hb : fullL l ≤ 10000000) (hs : szF (a, b) ≤ 10000000)
    (hK : K (.tp [.ag [.i .i64 (.y mx'), .v false 2 F (.y n)], .i .i64 (.y e)]) bl) : S.call 39 [.ag cs, .ag [.s a, .s b]] bl K := by
  refine qin hS (add_f hr hb hs) ?_ rfl (tabE_g hF hn) hK
  match hc.sub with
  | .cons h _ => exact .cons h .rfl
theorem radd_g (hS : S0 Tryz.prog = S) (hc : TabC [] cs mx l) (hr : addR (mx, l) (a, b) = ((mx', l'), e)) (hF : cellsF l' = F) (hn : n = ilen l') (hb : fullL l ≤ 1000000) (hs : szF (a, b) ≤ 1000000)
    (hK : K (.tp [.ag [.i .i64 (.y mx'), .v false 2 F (.y n)], .i .i64 (.y e)]) bl) : S.call 44 [.ag cs, .ag [.s a, .s b]] bl K := by
  refine qin hS (radd_f hr hb hs) ?_ rfl (tabE_g hF hn) hK
  match hc.sub with
  | .cons h _ => exact .cons h .rfl
theorem res_g (hS : S0 Tryz.prog = S) (hc : TabC [] cs mx l) {most : Z} (hr : resR (mx, l) most.v = ((mx', l'), e)) (hF : cellsF l' = F) (hn : n = ilen l') (hb : fullL l ≤ 10000000)
    (hK : K (.tp [.ag [.i .i64 (.y mx'), .v false 2 F (.y n)], .i .i64 (.y e)]) bl) : S.call 35 [.ag cs, .i .i64 most] bl K := by
  refine qin hS (res_f hr (by omega)) ?_ rfl (tabE_g hF hn) hK
  match hc.sub with
  | .cons h _ => exact .cons h (.cons (qak rfl) .nil)
theorem qpt (hS : S0 Tryz.prog = S) (hc : TabC [] cs mx l) {most : Z} (hr : resR (mx, l) most.v = ((mx', l'), e)) (hF : cellsF l' = F) (hn : n = ilen l') (hb : fullL l ≤ 10000000)
    (hK : K (.tp [.ag [.i .i64 (.y mx'), .v false 2 F (.y n)], .i .i64 (.y e)]) bl) : S.call 42 [.ag cs, .i .i64 most] bl K := by
  refine qin hS (rres_f hr hb) ?_ rfl (tabE_g hF hn) hK
  match hc.sub with
  | .cons h _ => exact .cons h (.cons (qak rfl) .nil)
theorem find_g (hS : S0 Tryz.prog = S) {t : Bool} (hc : TabC bl cs mx l) (hr : findR l (a, b) = (n, t)) (hm : ilen l ≤ 100000000) (hK : K (.tp [.i .i64 (.y n), .b t]) bl) : S.call 36 [.ag cs, .ag [.s a, .s b]] bl K :=
  qcl hS (find_f hr hm) (hc.fzi .rfl rfl) rfl rfl hK
theorem rfind_g (hS : S0 Tryz.prog = S) {t : Bool} (hc : TabC bl cs mx l) (hr : findR l (a, b) = (n, t)) (hm : ilen l ≤ 100000000) (hK : K (.tp [.i .i64 (.y n), .b t]) bl) : S.call 41 [.ag cs, .ag [.s a, .s b]] bl K :=
  qcl hS (rfind_f hr hm) (hc.fzi .rfl rfl) rfl rfl hK
theorem qra (hS : S0 Tryz.prog = S) (hc : TabC bl cs mx l) {t : Bool} (ht : rightL mx l = t) (h : fullL l ≤ 100000000) (hK : K (.b t) bl) : S.call 40 [.ag cs] bl K :=
  qcl hS (rright_f ht h) hc.fz rfl rfl hK
theorem size_g (hS : S0 Tryz.prog = S) (hn : n = szF (a, b)) (h : n ≤ 1000000000000000000) (hK : K (.i .i64 (.y n)) bl) : S.call 38 [.ag [.s a, .s b]] bl K :=
  qbc hS (size_f hn h) .rfl rfl rfl hK
theorem rsize_g (hS : S0 Tryz.prog = S) (hn : n = szF (a, b)) (h : n ≤ 1000000000000000000) (hK : K (.i .i64 (.y n)) bl) : S.call 58 [.ag [.s a, .s b]] bl K :=
  qbc hS (rsize_f hn h) .rfl rfl rfl hK
theorem qwv (hS : S0 Tryz.prog = S) {cs' : List SV} (hc : TabC bl cs mx l) (hc' : TabC bl cs' mx l) (hl : ilen l ≤ 100000000) (hK : K .tt bl) : S.call 11 [.ag cs, .ag cs'] bl K :=
  qcl hS (qcb (rsame_f (decide_eq_true ⟨rfl, rfl⟩) hl hl)) (fz_two hc.fz hc'.fz rfl rfl) rfl rfl hK
end
end Tb
end Cz
namespace Cz
open Go Go.RowKit
def Ctx (C : SV → SV) : Prop := ∀ (ρ : Nms) (s : SV) (v : Value), den ρ (C s) v → ∃ u, den ρ s u ∧ ∀ (ρ' : Nms) (s' : SV), ρ'.fz = ρ.fz → den ρ' s' u → den ρ' (C s') v
section
variable {P : Program} {l : List Blk}
theorem call_one {C : SV → SV} (hC : Ctx C) {sz : Nat} {F : List SV} {n : Int} {g : FuncId} {args : List SV}
    (hF : (S0 P).call g args [] (fun x l' => ∃ (j : Nat) (lit : Bool) (st z : Z) (F' : List SV), x = C (.sl j sz (.l 0) z none) ∧ l'[j]? = some (.r false lit st sz F') ∧ plains F' = true ∧ F'.take (z.v.toNat * sz) = F ∧ z.v = n)) :
    (S0 P).call g args [] (fun x l' => ∃ (j : Nat) (z : Z), x = C (.sl j sz (.l 0) z none) ∧ l'[j]? = some (.r false false (.l 0) sz F) ∧ z.v = n) := by
  intro N W0 ρ W vals hR hd
  refine NextR.mono ?_ (hF N W0 ρ W vals hR hd)
  rintro v W' ⟨ρ', x, l', ⟨j, lit, st, z, F', rfl, hB, hp, hFF, hz⟩, hle, hll, hR', hdv⟩
  obtain ⟨u, hu, hback⟩ := hC _ _ _ hdv
  have hj := (List.getElem?_eq_some_iff.1 hB).1
  obtain ⟨hsz, hvs, _, hown⟩ := hR'.blk j _ hB
  obtain ⟨cur, _, _, hown2, _, _⟩ := hown rfl
  simp only [den] at hu
  obtain ⟨h0, h1, vw, hvw, hin, hs⟩ := hu
  have e0 : (Z.l 0).v.toNat = 0 := rfl
  rw [e0] at hs hin
  rw [Nat.zero_add] at hin
  -- the slice's own view
  have key : ∃ vw0 : View, vw0.n = F.length ∧ vw0.n ≤ vw0.cap * sz ∧ (∀ a, vw0.base = some a → vw.base = some a) ∧ ViewOk W' ρ' F vw0 ∧ OwnOk N W' vw0 (vw0.cap * sz) ∧ (0 + z.v.toNat) * sz ≤ vw0.n ∧ SlVal vw0 sz 0 z.v.toNat (Option.map Z.v none) u := by
    have empty : z.v.toNat = 0 → (∃ a', u = .slice a' 0 0) → ∃ vw0 : View, vw0.n = F.length ∧ vw0.n ≤ vw0.cap * sz ∧ (∀ a, vw0.base = some a → vw.base = some a) ∧ ViewOk W' ρ' F vw0 ∧ OwnOk N W' vw0 (vw0.cap * sz) ∧ (0 + z.v.toNat) * sz ≤ vw0.n ∧ SlVal vw0 sz 0 z.v.toNat (Option.map Z.v none) u := by
      intro hz0 ha
      have hF0 : F = [] := by rw [← hFF, hz0]; simp
      subst hF0
      exact ⟨⟨none, 0, 0⟩, rfl, Nat.zero_le _, (fun a h => by cases h), ⟨Nat.zero_le _, fun _ => ⟨rfl, rfl⟩, fun q x hq _ => by simp at hq⟩, (fun a h => by cases h), by rw [hz0]; simp, ⟨rfl, hz0, ha⟩⟩
    have hv := hvs vw hvw
    unfold SlVal at hs
    cases hb : vw.base with
    | none =>
      rw [hb] at hs
      rw [← hb] at *
      exact empty hs.2.1 hs.2.2
    | some a =>
      rw [hb] at hs
      rcases hs with ⟨c, e, hc, hc2, hc3⟩ | ⟨h2, h3, _⟩
      · have hlen : F.length = z.v.toNat * sz := by rw [← hFF, List.length_take]; have := hv.1; omega
        refine ⟨⟨some a, z.v.toNat * sz, c⟩, hlen.symm, Nat.mul_le_mul_right _ hc, fun b h => by rw [← h], ⟨by rw [hlen]; exact Nat.le_refl _, fun h => by (cases h), fun q x hq hx => ?_⟩, ?_, by rw [Nat.zero_add]; exact Nat.le_refl _, ?_⟩
        · have hq' : q < z.v.toNat * sz := hq
          have : F'[q]? = some x := by rw [← hFF, List.getElem?_take_of_lt hq'] at hx; exact hx
          obtain ⟨a', w, g1, g2, g3⟩ := hv.2.2 q x (by omega) this
          rw [hb] at g1
          exact ⟨a', w, g1, g2, g3⟩
        · have hc4 : c = vw.cap := by have h5 : 0 + c = vw.cap := hc3; omega
          intro b hb'
          have := hown2 vw hvw b (by rw [hb]; exact hb')
          rw [hc4]; exact this
        · unfold SlVal
          refine .inl ⟨c, e, hc, by rw [Nat.zero_add]; exact Nat.le_refl _, ?_⟩
          simp only [Option.map_none, Nat.zero_add]
      · exact hb ▸ empty h2 h3
  obtain ⟨vw0, k1, k2, k3, k4, k5, k6, k7⟩ := key
  let ρ2 : Nms := ⟨fun k => if k = j then [vw0] else ρ' k, ρ'.fz, ρ'.q⟩
  have hj2 : ρ2 j = [vw0] := by simp [ρ2]
  have ho2 : ∀ k, k ≠ j → ρ2 k = ρ' k := fun k hk => by simp [ρ2, hk]
  have hpF : plains F = true := by rw [← hFF]; exact qmk fun x hx => qbw hp x (List.mem_of_mem_take hx)
  have hat : ∀ (k : Nat) (B : Blk), ((List.replicate l'.length Blk.dead).set j (.r false false (.l 0) sz F))[k]? = some B → B.wr = true → k = j ∧ B = .r false false (.l 0) sz F := by
    intro k B hk hw
    by_cases e : k = j
    · subst e
      rw [List.getElem?_set_self (by simpa using hj)] at hk
      exact ⟨rfl, (Option.some.inj hk).symm⟩
    · rw [List.getElem?_set_ne (fun h => e h.symm), List.getElem?_replicate] at hk
      split at hk
      · cases hk; cases hw
      · cases hk
  refine ⟨ρ2, C (.sl j sz (.l 0) z none), (List.replicate l'.length Blk.dead).set j (.r false false (.l 0) sz F), ⟨j, z, rfl, ?_, hz⟩, ⟨fun k hk => absurd hk (Nat.not_lt_zero k), hle.fz, hle.fq, hle.q⟩, by simp, ⟨hR'.below, hR'.le, ?_, ?_, ?_, ?_, ?_, hR'.qN, hR'.fin, ?_⟩, ?_⟩
  · rw [List.getElem?_set_self (by simpa using hj)]
  · intro k hk
    simp only [List.length_set, List.length_replicate] at hk
    rw [ho2 k (by omega)]; exact hR'.out k hk
  · intro k vw' a hv ha
    by_cases e : k = j
    · subst e
      rw [hj2, List.mem_singleton] at hv; subst hv
      exact hR'.ids k vw a hvw (k3 a ha)
    · rw [ho2 k e] at hv; exact hR'.ids k vw' a hv ha
  · intro k B hk
    by_cases e : k = j
    · subst e
      rw [List.getElem?_set_self (by simpa using hj)] at hk
      simp only [Option.some.injEq] at hk; subst hk
      refine ⟨hsz, fun vw' hv => ?_, fun _ x hx => qbw hpF x hx, fun _ => ⟨vw0, by rw [hj2]; simp, k1, fun vw' hv => ?_, k2, fun vw' hv => ?_⟩⟩
      · rw [hj2, List.mem_singleton] at hv; subst hv
        exact ViewOk.plain (ρ := ρ') ρ2 (fun _ _ _ h => h) hpF k4
      · rw [hj2, List.mem_singleton] at hv; subst hv; exact k5
      · rw [hj2, List.mem_singleton] at hv; subst hv; exact .inl ⟨rfl, rfl⟩
    · rw [List.getElem?_set_ne (fun h => e h.symm), List.getElem?_replicate] at hk
      split at hk
      · cases hk; trivial
      · cases hk
  · intro k k' B vw1 vw2 a a' hB' hw hne hv hv' ha ha'
    obtain ⟨rfl, _⟩ := hat k B hB' hw
    rw [hj2, List.mem_singleton] at hv; subst hv
    rw [ho2 k' (fun e => hne e.symm)] at hv'
    exact hR'.sep k k' _ vw vw2 a a' hB rfl hne hvw hv' (k3 a ha) ha'
  · intro k B vw1 a hB' hw hv ha
    obtain ⟨rfl, _⟩ := hat k B hB' hw
    rw [hj2, List.mem_singleton] at hv; subst hv
    exact hR'.own k _ vw a hB rfl hvw (k3 a ha)
  · intro k B vw1 a hB' hw hv ha o
    obtain ⟨rfl, _⟩ := hat k B hB' hw
    rw [hj2, List.mem_singleton] at hv; subst hv
    exact hR'.fsep k _ vw a hB rfl hvw (k3 a ha) o
  · refine hback ρ2 _ rfl ?_
    simp only [den]
    exact ⟨h0, h1, vw0, by rw [hj2]; simp, by rw [e0]; exact k6, by rw [e0]; exact k7⟩
end
section
variable {P : Program} {l : List Blk}
theorem use_one {S : Sy} (hS : S0 P = S) {C : SV → SV} (hC : Ctx C) (hCz : ∀ (l' : List Blk) (j m : Nat) (z z' : Z) (sz : Nat), z.v = z'.v → Fz l' (fun i => m + i) [some j] (C (.sl j sz (.l 0) z none)) (C (.sl m sz (.l 0) z' none))) {sz : Nat} {F : List SV} {n : Int} {g : FuncId} {args args' : List SV} {K : SV → List Blk → Prop}
    (hF : (S0 P).call g args' [] (fun x l' => ∃ (j : Nat) (lit : Bool) (st z : Z) (F' : List SV), x = C (.sl j sz (.l 0) z none) ∧ l'[j]? = some (.r false lit st sz F') ∧ plains F' = true ∧ F'.take (z.v.toNat * sz) = F ∧ z.v = n)) (ha : SubL args args')
    (hr : refsBL (fun _ => false) args' = true) (hsz : 0 < sz) (hp : plains F = true) (hK : K (C (.sl (len l) sz (.l 0) (.y n) none)) (snoc l (.r false false (.y 0) sz F))) : S.call g args l K := by
  subst hS
  refine qnr ha (qwh (Z := fun sts => sts 0 = 0) (rows := [(sz, F)]) (y := fun m => C (.sl m sz (.l 0) (.y n) none)) (qbf (call_one hC hF) fun x l' h => ⟨x, .rfl, ?_⟩) hr ⟨⟨hsz, hp⟩, trivial⟩ fun sts hz => ?_)
  · obtain ⟨j, z, rfl, hj, hz⟩ := h
    refine ⟨[some j], ⟨⟨_, _, _, hj, .rfl⟩, rfl, trivial⟩, fun m => hCz l' j m z (.y n) sz hz, ?_⟩
    simp only [stsOf, List.getElem?_cons_zero, hj]
    rfl
  · have : rowBs sts [(sz, F)] 0 = [.r false false (.y 0) sz F] := by simp only [rowBs, hz]
    rw [this]
    rw [qbt, qcc] at hK
    exact hK
end
end Cz
namespace Cz
open Go Go.RowKit Go.Proofs
namespace Pa
def upP (w : Int) : Int := if w = 1 then 64 else if w = 2 then 16 else 0
def bitP (w : Int) : Int := if w = 1 then 6 else 4
def powP (w : Int) : Int := if w = 1 then 64 else 16
theorem of_f {w u k : Int} (hu : u = upP w) (hk : k = bitP w) : (S0 Tryz.prog).call 53 [.i .i64 (.y w)] [] (fun y _ => Sub y (.ag [.i .i64 (.y u), .i .i64 (.y k)])) := by
  generalize hS : S0 Tryz.prog = S
  refine qab hS I.qzaaq ?_
  cbv
  refine qab hS I.quv ?_
  cbv
  refine qzabt hS rfl I.qny (by decide +kernel) ?_
  cbv
  refine ⟨?_, ?_⟩ <;> cbv
  all_goals
    repeat' (first
      | (refine qbi hS rfl ?_; try cbv)
      | (refine s_ck hS ?_; try cbv)
      | (refine qac hS ?_ ?_ <;> intro h <;> (try cbv) <;> try exact s_ab h)
      | (refine s_ad hS ?_; intro _ _; try cbv)
      | (refine s_sb hS ?_; intro _ _; try cbv)
      | (refine qan hS ?_; intro _ _; try cbv)
      | (refine qad hS ?_; try cbv)
      | (refine qbg hS ?_; try cbv)
      | (refine s_lk hS ?_; try cbv)
      | (refine s_mu hS ?_; try cbv)
      | fail)
    all_goals exact qfe (.cons (qak (by simp only [Z.v]; rw [hu]; unfold upP; split <;> (try split) <;> omega)) (.cons (qak (by simp only [Z.v]; rw [hk]; unfold bitP; split <;> omega)) .nil))
theorem of_u {S : Sy} {bl : List Blk} {K : SV → List Blk → Prop} (hS : S0 Tryz.prog = S) {z : Z} {w : Int} (hz : z.v = w) (hK : ∀ u k, u = upP w → k = bitP w → K (.ag [.i .i64 (.y u), .i .i64 (.y k)]) bl) : S.call 53 [.i .i64 z] bl K :=
  qbc hS (of_f (w := w) rfl rfl) (.cons (qak hz) .nil) rfl rfl (hK _ _ rfl rfl)
theorem repS_len (z : List SV) : ∀ n, (repS n z).length = n * z.length
  | 0 => by simp [repS]
  | n + 1 => by rw [repS, qgw, List.length_append, repS_len z n, Nat.add_mul]; omega
theorem qob {z : List SV} (h : plains z = true) : ∀ n, plains (repS n z) = true
  | 0 => rfl
  | n + 1 => by rw [repS, qgw]; exact qge h (qob h n)
theorem s_mkg {S : Sy} {zero : List SV} {n c : Int} {K : List SV → Prop} (hS : S0 Tryz.prog = S) (hc : n = c) (h0 : 0 ≤ n) (h1 : n ≤ 65536) (hz : plains zero = true) (h : ∀ F, F.length = n.toNat * zero.length → plains F = true → K F) : S.mkr zero n c K :=
  s_mk hS hc h0 h1 (qob hz _) (h _ (repS_len _ _) (qob hz _))
theorem grow_f {n : Int} (h0 : 0 < n) (h1 : n ≤ 65536) : (S0 Tryz.prog).call 87 [.re (.slice none 0 0), .i .i64 (.y n)] [] (fun x l' => ∃ (j : Nat) (lit : Bool) (st z : Z) (F' : List SV), x = (.sl j 1 (.l 0) z none) ∧ l'[j]? = some (.r false lit st 1 F') ∧ plains F' = true ∧ F'.take (z.v.toNat * 1) = [] ∧ z.v = 0) := by
  generalize hS : S0 Tryz.prog = S
  refine qab hS I.qej ?_
  cbv
  repeat' (first
    | (refine qbi hS rfl ?_; try cbv)
    | (refine s_ck hS ?_; try cbv)
    | (refine qac hS ?_ ?_ <;> intro h <;> (try cbv) <;> try exact s_ab h)
    | (refine s_ad hS ?_; intro _ _; try cbv)
    | (refine s_sb hS ?_; intro _ _; try cbv)
    | (refine qan hS ?_; intro _ _; try cbv)
    | (refine qad hS ?_; try cbv)
    | (refine s_mkg hS rfl (by omega) (by omega) rfl fun F hF hp => ?_; cbv)
    | (refine qbg hS ?_; try cbv)
    | (refine s_lk hS ?_; try cbv)
    | (refine s_mu hS ?_; try cbv)
    | fail)
  exact ⟨0, false, .l 0, .l 0, F, rfl, rfl, hp, rfl, rfl⟩
theorem grow_u {S : Sy} {bl : List Blk} {K : SV → List Blk → Prop} (hS : S0 Tryz.prog = S) {z : Z} (h0 : 0 < z.v) (h1 : z.v ≤ 65536) (hK : K (.sl (len bl) 1 (.l 0) (.y 0) none) (snoc bl (.r false false (.y 0) 1 []))) : S.call 87 [.re (.slice none 0 0), .i .i64 z] bl K :=
  use_one hS (C := fun s => s) (fun ρ s v d => ⟨v, d, fun _ _ _ d' => d'⟩) (fun l' j m z z' sz h => .keep (i := 0) rfl rfl h) (grow_f h0 h1) (.cons .rfl (.cons (qak rfl) .nil)) rfl (by decide) rfl hK
theorem tell_own {g : FuncId} {args : List SV} {F : List SV} {n : Int} (hF : (S0 Tryz.prog).call g args [] (OwnR 0 1 F false [])) (hpl : plains F = true) (hn : n * 1 = F.length) : (S0 Tryz.prog).call g args [] (Tell (.v false 1 F (.y n))) := by
  refine qbf hF fun x l' ⟨y, hs, hr⟩ => ⟨y, hs, ?_⟩
  rcases hr with ⟨rfl, rfl⟩ | ⟨k, m, lit, st, F', _, rfl, hB, hsub, hp, hm⟩
  · exact fun g => .nil (by decide) (by simp only [Z.v]; simpa using hn)
  · have hmn : m.v = n := by omega
    have hl : F'.length = F.length := hsub.1
    have e : (F'.drop ((Z.l 0).v.toNat * 1)).take (m.v.toNat * 1) = F' := by
      rw [show (Z.l 0).v.toNat * 1 = 0 from rfl, List.drop_zero, List.take_of_length_le (by omega)]
    exact fun g => .row hB rfl (.fsub (by rw [e]; exact hsub) hpl) hpl hmn
end Pa
end Cz
namespace Cz
open Go Go.RowKit Go.Proofs
namespace Pa
open Tb
abbrev Fd := Tb.Fd
theorem up_bd (w : Int) : 0 ≤ upP w ∧ upP w ≤ 64 ∧ 4 ≤ bitP w ∧ bitP w ≤ 6 ∧ 2 ^ (bitP w).toNat = powP w := by
  unfold upP bitP powP
  split
  · exact ⟨by decide, by decide, by decide, by decide, rfl⟩
  · split <;> exact ⟨by decide, by decide, by decide, by decide, rfl⟩
def nmB (i : Int) (b : List UInt8) (w : Int) : List Int := putI i (powP w) (upP w) ++ bestT (byS b)
def fldB (f : Fd) (w : Int) : List Int := putI 0 (powP w) (upP w) ++ bestT (byS f.1) ++ bestT (byS f.2)
def idxB (i : Int) : List Int := putI i 128 128
def sizB (n : Int) : List Int := putI n 32 32
def ckN : List UInt8 := [99, 111, 111, 107, 105, 101]
def wayP (mx : Int) (f : Fd) : Int := if f.1 = ckN then 2 else if szF f ≤ mx then 1 else 3
def ownB (i : Int) (f : Fd) (w : Int) : List Int := if 0 < i then nmB i f.2 w else fldB f w
def fieldB (mx : Int) (l : List Fd) (f : Fd) : List Int := if (Tb.findR l f).2 = true then idxB (Tb.findR l f).1 else ownB (Tb.findR l f).1 f (wayP mx f)
def addP (mx : Int) (l : List Fd) (f : Fd) : Bool := decide ((Tb.findR l f).2 = false ∧ wayP mx f = 1)
def fieldL (mx : Int) (l : List Fd) (f : Fd) : List Fd := if addP mx l f = true then evL mx (f :: l) else l
def blockB (mx : Int) : List Fd → List Fd → List Int
  | _, [] => []
  | l, f :: fs => fieldB mx l f ++ blockB mx (fieldL mx l f) fs
def blockL (mx : Int) : List Fd → List Fd → List Fd
  | l, [] => l
  | l, f :: fs => blockL mx (fieldL mx l f) fs
theorem qye (l : List Fd) (f : Fd) : 0 ≤ (Tb.findR l f).1 ∧ (Tb.findR l f).1 ≤ 20 + ilen l := by
  have hal := qrk l
  have r1 := qsu (fun x => x == f) (allF l) 1 (Int.le_refl _)
  have r2 := qsu (fun x => x.1 == f.1) (allF l) 1 (Int.le_refl _)
  unfold ilen at hal
  unfold Tb.findR
  split
  · exact ⟨r1.1, by unfold ilen; dsimp only; omega⟩
  · exact ⟨r2.1, by unfold ilen; dsimp only; omega⟩
theorem bok_way {i w : Int} (h0 : 0 ≤ i) : Hu.BOk (putI i (powP w) (upP w)) := by
  unfold powP upP
  split
  · exact qof h0 (by decide) (by decide) (by decide) (by decide)
  · split <;> exact qof h0 (by decide) (by decide) (by decide) (by decide)
theorem bok_nm {i w : Int} {b : List UInt8} (h0 : 0 ≤ i) : Hu.BOk (nmB i b w) := qua (bok_way h0) (qyt (qty _))
theorem bok_fld {w : Int} {f : Fd} : Hu.BOk (fldB f w) := qua (qua (bok_way (by decide)) (qyt (qty _))) (qyt (qty _))
theorem bok_idx {i : Int} (h0 : 0 ≤ i) : Hu.BOk (idxB i) := qof h0 (by decide) (by decide) (by decide) (by decide)
theorem bok_siz {i : Int} (h0 : 0 ≤ i) : Hu.BOk (sizB i) := qof h0 (by decide) (by decide) (by decide) (by decide)
theorem qzabe (mx : Int) (l : List Fd) (f : Fd) : Hu.BOk (fieldB mx l f) := by
  have hr := qye l f
  unfold fieldB ownB
  split
  · exact bok_idx hr.1
  · split
    · exact bok_nm hr.1
    · exact bok_fld
theorem qtz (mx : Int) : ∀ (fs l : List Fd), Hu.BOk (blockB mx l fs)
  | [], _ => fun v hv => by simp [blockB] at hv
  | f :: fs, l => qua (qzabe mx l f) (qtz mx fs _)
theorem qpx {mx : Int} {l : List Fd} {f : Fd} (h : rightL mx l = true) : rightL mx (fieldL mx l f) = true := by
  unfold fieldL
  have h' := of_decide_eq_true h
  split
  · exact decide_eq_true ⟨h'.1, h'.2.1, qzaay h'.1⟩
  · exact h
theorem qde {mx : Int} {l : List Fd} (h : rightL mx l = true) : ilen l ≤ 128 := by
  have h' := of_decide_eq_true h
  have := qby l
  omega
theorem qzabf (mx : Int) : ∀ (A B l : List Fd), blockB mx l (A ++ B) = blockB mx l A ++ blockB mx (blockL mx l A) B ∧ blockL mx l (A ++ B) = blockL mx (blockL mx l A) B
  | [], B, l => ⟨rfl, rfl⟩
  | f :: A, B, l => by
    obtain ⟨h1, h2⟩ := qzabf mx A B (fieldL mx l f)
    simp only [List.cons_append, blockB, blockL]
    exact ⟨by rw [h1, List.append_assoc], h2⟩
theorem qek {mx : Int} : ∀ {fs l : List Fd}, rightL mx l = true → rightL mx (blockL mx l fs) = true
  | [], l, h => h
  | f :: fs, l, h => by simp only [blockL]; exact qek (qpx h)
theorem qzw (b : List Int) : ilen (bestT b) ≤ ilen b + 6 := by
  have h0 := qag b
  unfold bestT
  split
  · rename_i h
    unfold shortB at h
    have h := of_decide_eq_true h
    unfold packT
    have h1 := qbx (ilen (Hu.put b)) 128 128
    have h2 := Hu.qoe b
    have h3 : bitsI b (ilen b) = Hu.nbits b := by unfold bitsI; rw [qca (by omega)]
    have h4 := qag (Hu.put b)
    rw [qba]
    unfold ilen at *
    omega
  · unfold plainT
    have h1 := qbx (ilen b) 128 0
    rw [qba]
    omega
theorem qtf (mx : Int) (l : List Fd) (f : Fd) : ilen (fieldB mx l f) ≤ szF f := by
  have h1 := qzw (byS f.1)
  have h2 := qzw (byS f.2)
  have a1 := qag f.1
  have a2 := qag f.2
  rw [qct] at h1 h2
  unfold fieldB ownB nmB fldB idxB szF
  split
  · have := qbx (Tb.findR l f).1 128 128; omega
  · split
    · have := qbx (Tb.findR l f).1 (powP (wayP mx f)) (upP (wayP mx f)); rw [qba]; omega
    · have := qbx 0 (powP (wayP mx f)) (upP (wayP mx f)); rw [qba, qba]; omega
theorem qim (mx : Int) : ∀ (fs l : List Fd), ilen (blockB mx l fs) ≤ fullL fs
  | [], l => Int.le_refl _
  | f :: fs, l => by
    have h1 := qtf mx l f
    have h2 := qim mx fs (fieldL mx l f)
    simp only [blockB, fullL]
    rw [qba]; omega
theorem qwi {mx : Int} {l fs : List Fd} {i : Int} {f : Fd} (hf : fs[i.toNat]? = some f) (h0 : 0 ≤ i) :
    blockB mx l (fs.take (i + 1).toNat) = blockB mx l (fs.take i.toNat) ++ fieldB mx (blockL mx l (fs.take i.toNat)) f ∧ blockL mx l (fs.take (i + 1).toNat) = fieldL mx (blockL mx l (fs.take i.toNat)) f := by
  have e : fs.take (i + 1).toNat = fs.take i.toNat ++ [f] := by rw [show (i + 1).toNat = i.toNat + 1 by omega, List.take_add_one, hf]; rfl
  rw [e]
  obtain ⟨h1, h2⟩ := qzabf mx (fs.take i.toNat) [f] l
  rw [h1, h2]
  simp only [blockB, blockL, List.append_nil]
  exact ⟨trivial, trivial⟩
end Pa
end Cz
namespace Cz
open Go Go.RowKit Go.Proofs
namespace Pa
theorem qrj {l' : List Blk} {k : Nat} {lit : Bool} {st z : Z} {F : List SV} {L : List Int} {n : Int} (hB : l'[k]? = some (.r false lit st 1 F)) (hF : cellsB L = F) (hz : z.v = ilen L) (hn : n = ilen L) (g : Nat → Nat) : Fz l' g [] (.sl k 1 (.l 0) z none) (.v false 1 (cellsB L) (.y n)) := by
  subst hF hn
  refine .row hB rfl (.fsub ?_ (qae L)) (qae L) hz
  rw [show (Z.l 0).v.toNat * 1 = 0 from rfl, List.drop_zero, List.take_of_length_le]
  · exact .rfl
  · have := qao L
    unfold ilen at *
    omega
theorem best_t {x : List UInt8} (hx : ilen x ≤ 1000000) : (S0 Tryz.prog).call 54 [.s x] [] (Tell (.v false 1 (cellsB (bestT (byS x))) (.y (ilen (bestT (byS x)))))) := tell_own (tbest_f hx) (qae _) (qdp _)
theorem qiy (b : List Int) : 1 ≤ ilen (bestT b) ∧ ilen (bestT b) ≤ ilen b + 6 := by
  have h0 := qag b
  unfold bestT
  split
  · rename_i h
    unfold shortB at h
    have h := of_decide_eq_true h
    unfold packT
    have h1 := qbx (ilen (Hu.put b)) 128 128
    have h2 := Hu.qoe b
    have h3 : bitsI b (ilen b) = Hu.nbits b := by unfold bitsI; rw [qca (by omega)]
    have h4 := qag (Hu.put b)
    rw [qba]
    unfold ilen at *
    omega
  · unfold plainT
    have h1 := qbx (ilen b) 128 0
    rw [qba]
    omega
section
variable {S : Sy} {bl : List Blk} {K : SV → List Blk → Prop}
theorem best_g (hS : S0 Tryz.prog = S) {x : List UInt8} {F : List SV} {n : Int} (hx : ilen x ≤ 1000000) (hF : cellsB (bestT (byS x)) = F) (hn : n = ilen (bestT (byS x))) (hK : K (.v false 1 F (.y n)) bl) : S.call 54 [.s x] bl K := by
  subst hF hn
  exact qbd hS (best_t hx) (.cons .rfl .nil) rfl hK
end
def C0 (s : SV) : SV := s
def C1 (e : Int) (s : SV) : SV := .tp [s, .i .i64 (.y e)]
theorem c1_ctx (e : Int) : Ctx (C1 e) := by
  intro ρ s v d
  unfold C1 at d
  simp only [den] at d
  obtain ⟨vs, rfl, d⟩ := d
  obtain ⟨vs⟩ := vs
  match vs, d with
  | [], d => simp [denL] at d
  | [_], d => simp [denL] at d
  | _ :: _ :: _ :: _, d => simp [denL] at d
  | [x, y], d =>
    simp only [denL, den] at d
    obtain ⟨dx, rfl, _⟩ := d
    refine ⟨x, dx, fun ρ' s' _ d' => ?_⟩
    unfold C1
    simp only [den]
    refine ⟨_, rfl, ?_⟩
    simp only [denL, den]
    exact ⟨d', trivial, trivial⟩
def OwnB (C : SV → SV) (L : List Int) (x : SV) (l' : List Blk) : Prop := ∃ (j : Nat) (lit : Bool) (st z : Z) (F' : List SV), Sub x (C (.sl j 1 (.l 0) z none)) ∧ l'[j]? = some (.r false lit st 1 F') ∧ plains F' = true ∧ F'.take (z.v.toNat * 1) = cellsB L ∧ z.v = ilen L
theorem qeg {C : SV → SV} {L : List Int} {l' : List Blk} {j : Nat} {lit : Bool} {st z : Z} {F : List SV} {x : SV} (hx : Sub x (C (.sl j 1 (.l 0) z none))) (hB : l'[j]? = some (.r false lit st 1 F)) (hF : F = cellsB L) (hz : z.v = ilen L) : OwnB C L x l' := by
  refine ⟨j, lit, st, z, F, hx, hB, hF ▸ qae L, ?_, hz⟩
  rw [hF, List.take_of_length_le]
  have := qao L
  unfold ilen at *
  omega
theorem fz_own {L : List Int} {l' : List Blk} {j : Nat} {lit : Bool} {st z : Z} {F' : List SV} (hB : l'[j]? = some (.r false lit st 1 F')) (h : F'.take (z.v.toNat * 1) = cellsB L) (hz : z.v = ilen L) (g : Nat → Nat) : Fz l' g [] (.sl j 1 (.l 0) z none) (.v false 1 (cellsB L) (.y (ilen L))) := by
  refine .row hB rfl (.fsub ?_ (qae L)) (qae L) hz
  rw [show (Z.l 0).v.toNat * 1 = 0 from rfl, List.drop_zero, h]
  exact .rfl
theorem own_eq {C : SV → SV} {g : FuncId} {args : List SV} {L : List Int} (h : (S0 Tryz.prog).call g args [] (OwnB C L)) :
    (S0 Tryz.prog).call g args [] (fun x l' => ∃ (j : Nat) (lit : Bool) (st z : Z) (F' : List SV), x = C (.sl j 1 (.l 0) z none) ∧ l'[j]? = some (.r false lit st 1 F') ∧ plains F' = true ∧ F'.take (z.v.toNat * 1) = cellsB L ∧ z.v = ilen L) :=
  qbf h fun x l' ⟨j, lit, st, z, F', hs, hB, h0, h1, h2⟩ => ⟨_, hs, j, lit, st, z, F', rfl, hB, h0, h1, h2⟩
theorem own_t0 {g : FuncId} {args : List SV} {L : List Int} {F : List SV} {n : Int} (h : (S0 Tryz.prog).call g args [] (OwnB C0 L)) (hF : cellsB L = F) (hn : n = ilen L) : (S0 Tryz.prog).call g args [] (Tell (.v false 1 F (.y n))) := by
  subst hF hn
  refine qbf h fun x l' h => ?_
  obtain ⟨j, lit, st, z, F', hs, hB, _, h1, h2⟩ := h
  refine ⟨_, hs, ?_⟩
  exact fun g => fz_own hB h1 h2 g
theorem own_t1 {g : FuncId} {args : List SV} {L : List Int} {F : List SV} {n e : Int} (h : (S0 Tryz.prog).call g args [] (OwnB (C1 e) L)) (hF : cellsB L = F) (hn : n = ilen L) : (S0 Tryz.prog).call g args [] (Tell (.tp [.v false 1 F (.y n), .i .i64 (.y e)])) := by
  subst hF hn
  refine qbf h fun x l' h => ?_
  obtain ⟨j, lit, st, z, F', hs, hB, _, h1, h2⟩ := h
  refine ⟨_, hs, ?_⟩
  exact fun g => .tp (.cons (fz_own hB h1 h2 g) (.cons (.sub .rfl rfl) .nil))
section
variable {S : Sy} {bl : List Blk} {K : SV → List Blk → Prop} {g : FuncId} {args args' : List SV} {L : List Int} {F : List SV} {n e : Int}
theorem own_u1 (hS : S0 Tryz.prog = S) (h : (S0 Tryz.prog).call g args' [] (OwnB (C1 e) L)) (ha : SubL args args') (hr : refsBL (fun _ => false) args' = true) (hF : cellsB L = F) (hn : n = ilen L)
    (hK : K (.tp [.sl (len bl) 1 (.l 0) (.y n) none, .i .i64 (.y e)]) (snoc bl (.r false false (.y 0) 1 F))) : S.call g args bl K := by
  subst hF hn
  exact use_one hS (c1_ctx e) (fun l' j m z z' sz h => .tp (.cons (.keep (i := 0) rfl rfl h) (.cons (.sub .rfl rfl) .nil))) (own_eq h) ha hr (by decide) (qae _) hK
end
theorem idx_o {i : Int} (h0 : 0 ≤ i) (h1 : i < 2147483648) : (S0 Tryz.prog).call 23 [.i .i64 (.y i)] [] (OwnB (C1 0) (idxB i)) := by
  obtain ⟨L, hL⟩ : ∃ L, idxB i = L := ⟨_, rfl⟩
  rw [hL]
  generalize hS : S0 Tryz.prog = S
  refine qab hS I.qop ?_
  cbv
  refine qab hS I.qdi ?_
  cbv
  repeat' (first
    | (refine qbi hS rfl ?_; try cbv)
    | (refine s_ck hS ?_; try cbv)
    | (refine qac hS ?_ ?_ <;> intro h <;> (try cbv) <;> try exact s_ab h)
    | (refine s_ad hS ?_; intro _ _; try cbv)
    | (refine s_sb hS ?_; intro _ _; try cbv)
    | (refine qan hS ?_; intro _ _; try cbv)
    | (refine qad hS ?_; try cbv)
    | (refine qsa hS i 7 128 128 rfl rfl rfl h0 h1 (by decide) (by decide) rfl (by decide) (by decide) fun F2 n2 st hF2 hn2 => ?_; cbv)
    | (refine qbg hS ?_; try cbv)
    | (refine s_lk hS ?_; try cbv)
    | (refine s_mu hS ?_; try cbv)
    | fail)
  exact qeg (z := .y n2) .rfl rfl (hL ▸ hF2.symm) (hL ▸ hn2)
theorem siz_o {i : Int} (h0 : 0 ≤ i) (h1 : i < 2147483648) : (S0 Tryz.prog).call 25 [.i .i64 (.y i)] [] (OwnB (C1 0) (sizB i)) := by
  obtain ⟨L, hL⟩ : ∃ L, sizB i = L := ⟨_, rfl⟩
  rw [hL]
  generalize hS : S0 Tryz.prog = S
  refine qab hS I.qsv ?_
  cbv
  refine qab hS I.qdi ?_
  cbv
  repeat' (first
    | (refine qbi hS rfl ?_; try cbv)
    | (refine s_ck hS ?_; try cbv)
    | (refine qac hS ?_ ?_ <;> intro h <;> (try cbv) <;> try exact s_ab h)
    | (refine s_ad hS ?_; intro _ _; try cbv)
    | (refine s_sb hS ?_; intro _ _; try cbv)
    | (refine qan hS ?_; intro _ _; try cbv)
    | (refine qad hS ?_; try cbv)
    | (refine qsa hS i 5 32 32 rfl rfl rfl h0 h1 (by decide) (by decide) rfl (by decide) (by decide) fun F2 n2 st hF2 hn2 => ?_; cbv)
    | (refine qbg hS ?_; try cbv)
    | (refine s_lk hS ?_; try cbv)
    | (refine s_mu hS ?_; try cbv)
    | fail)
  exact qeg (z := .y n2) .rfl rfl (hL ▸ hF2.symm) (hL ▸ hn2)
theorem named_o {i w : Int} {b : List UInt8} (h0 : 0 < i) (h1 : i < 2147483648) (hb : ilen b ≤ 1000000) :
    (S0 Tryz.prog).call 27 [.i .i64 (.y i), .s b, .i .i64 (.y w)] [] (OwnB (C1 0) (nmB i b w)) := by
  obtain ⟨L, hL⟩ : ∃ L, nmB i b w = L := ⟨_, rfl⟩
  rw [hL]
  obtain ⟨B, hB⟩ : ∃ B, cellsB (bestT (byS b)) = B := ⟨_, rfl⟩
  obtain ⟨m, hm⟩ : ∃ m, m = ilen (bestT (byS b)) := ⟨_, rfl⟩
  have hm1 := qiy (byS b)
  rw [← hm, qct] at hm1
  generalize hS : S0 Tryz.prog = S
  refine qab hS I.qia ?_
  cbv
  refine of_u hS (w := w) rfl fun u k hu hk => ?_
  obtain ⟨u0, u1, k0, k1, hp⟩ := up_bd w
  rw [← hu] at u0 u1
  rw [← hk] at k0 k1 hp
  cbv
  refine qab hS I.qdi ?_
  cbv
  repeat' (first
    | (refine qbi hS rfl ?_; try cbv)
    | (refine s_ck hS ?_; try cbv)
    | (refine qac hS ?_ ?_ <;> intro h <;> (try cbv) <;> try exact s_ab h)
    | (refine s_ad hS ?_; intro _ _; try cbv)
    | (refine s_sb hS ?_; intro _ _; try cbv)
    | (refine qan hS ?_; intro _ _; try cbv)
    | (refine qad hS ?_; try cbv)
    | (refine qsa hS i k u (powP w) rfl rfl rfl (by omega) h1 (by omega) (by omega) hp (by omega) (by omega) fun F2 n2 st hF2 hn2 => ?_; cbv)
    | (refine qbg hS ?_; try cbv)
    | (refine s_lk hS ?_; try cbv)
    | (refine s_mu hS ?_; try cbv)
    | fail)
  have hpl := qbx i (powP w) u
  rw [← hn2] at hpl
  have hfl : ilen F2 = n2 := by rw [← hF2, qao, hn2]
  refine best_g hS hb hB hm ?_
  cbv
  repeat' (first
    | (refine qbi hS rfl ?_; try cbv)
    | (refine s_ck hS ?_; try cbv)
    | (refine qac hS ?_ ?_ <;> intro h <;> (try cbv) <;> try exact s_ab h)
    | (refine s_ad hS ?_; intro _ _; try cbv)
    | (refine s_sb hS ?_; intro _ _; try cbv)
    | (refine qan hS ?_; intro _ _; try cbv)
    | (refine qad hS ?_; try cbv)
    | (refine qbg hS ?_; try cbv)
    | (refine s_lk hS ?_; try cbv)
    | (refine s_mu hS ?_; try cbv)
    | fail)
  have e1 : S.app F2 B = cellsB L := by rw [← hL]; unfold nmB; rw [← hu]; exact qbr hS hF2.symm hB.symm
  have e2 : S.pl n2 m = ilen L := by rw [← hL]; unfold nmB; rw [← hu, qba, ← hn2, ← hm]; subst hS; rfl
  exact qeg (z := .y (S.pl n2 m)) (qbs (.cons .rfl (.cons (qak rfl) .nil))) rfl e1 e2
theorem s_ckA {S : Sy} {a b : Int} {k : Unit → Prop} (hS : S0 Tryz.prog = S) (e : a = b) (h : k ()) : S.chk (S.cmp .eq a b) k := qwt hS (by subst hS; rw [cmp_eq]; exact decide_eq_true e) h
theorem fld_o {w : Int} {a b : List UInt8} (hab : ilen a + ilen b ≤ 60000) :
    (S0 Tryz.prog).call 30 [.ag [.s a, .s b], .i .i64 (.y w)] [] (OwnB C0 (fldB (a, b) w)) := by
  obtain ⟨L, hL⟩ : ∃ L, fldB (a, b) w = L := ⟨_, rfl⟩
  rw [hL]
  have h0a := qag a
  have h0b := qag b
  have ha : ilen a ≤ 1000000 := by omega
  have hb : ilen b ≤ 1000000 := by omega
  obtain ⟨A, hA⟩ : ∃ B, cellsB (bestT (byS a)) = B := ⟨_, rfl⟩
  obtain ⟨ma, hma⟩ : ∃ m, m = ilen (bestT (byS a)) := ⟨_, rfl⟩
  have hm0 := qiy (byS a)
  rw [← hma, qct] at hm0
  obtain ⟨B, hB⟩ : ∃ B, cellsB (bestT (byS b)) = B := ⟨_, rfl⟩
  obtain ⟨m, hm⟩ : ∃ m, m = ilen (bestT (byS b)) := ⟨_, rfl⟩
  have hm1 := qiy (byS b)
  rw [← hm, qct] at hm1
  generalize hS : S0 Tryz.prog = S
  refine qab hS I.qsw ?_
  cbv
  refine of_u hS (w := w) rfl fun u k hu hk => ?_
  obtain ⟨u0, u1, k0, k1, hp⟩ := up_bd w
  rw [← hu] at u0 u1
  rw [← hk] at k0 k1 hp
  cbv
  refine qab hS I.qdi ?_
  cbv
  repeat' (first
    | (refine qbi hS rfl ?_; try cbv)
    | (refine s_ck hS ?_; try cbv)
    | (refine qac hS ?_ ?_ <;> intro h <;> (try cbv) <;> try exact s_ab h)
    | (refine s_ad hS ?_; intro _ _; try cbv)
    | (refine s_sb hS ?_; intro _ _; try cbv)
    | (refine qan hS ?_; intro _ _; try cbv)
    | (refine qad hS ?_; try cbv)
    | (refine qsa hS 0 k u (powP w) rfl rfl rfl (by omega) (by omega) (by omega) (by omega) hp (by omega) (by omega) fun F2 n2 st hF2 hn2 => ?_; cbv)
    | (refine qbg hS ?_; try cbv)
    | (refine s_lk hS ?_; try cbv)
    | (refine s_mu hS ?_; try cbv)
    | fail)
  have hpl := qbx 0 (powP w) u
  rw [← hn2] at hpl
  have hfl : ilen F2 = n2 := by rw [← hF2, qao, hn2]
  have hal : ilen A = ma := by rw [← hA, qao, hma]
  have hbl : ilen B = m := by rw [← hB, qao, hm]
  have hs1 : S.app [] (S.sub F2 0 n2 1) = F2 := by rw [qnv hS hF2 hn2, app_nil hS]
  have c1 : S.sc (S.pl 0 n2) 1 = S.flen (S.app [] (S.sub F2 0 n2 1)) := by rw [hs1]; subst hS; show (0 + n2) * 1 = ilen F2; omega
  have c2 : S.sc (S.pl (S.pl 0 n2) ma) 1 = S.flen (S.app (S.app [] (S.sub F2 0 n2 1)) A) := by rw [hs1]; subst hS; show (0 + n2 + ma) * 1 = ilen (F2 ++ A); rw [qba]; omega
  refine qal hS rfl I.qml (by decide +kernel) ?_
  cbv
  refine best_g hS ha hA hma ?_
  cbv
  refine best_g hS hb hB hm ?_
  cbv
  repeat' (first
    | (refine qbi hS rfl ?_; try cbv)
    | (refine s_ck hS ?_; try cbv)
    | (refine qac hS ?_ ?_ <;> intro h <;> (try cbv) <;> try exact s_ab h)
    | (refine s_ad hS ?_; intro _ _; try cbv)
    | (refine s_sb hS ?_; intro _ _; try cbv)
    | (refine qan hS ?_; intro _ _; try cbv)
    | (refine qad hS ?_; try cbv)
    | (refine qbg hS ?_; try cbv)
    | (refine s_lk hS ?_; try cbv)
    | (refine s_mu hS ?_; try cbv)
    | fail)
  refine qab hS I.qdu ?_
  cbv
  repeat' (first
    | (refine qbi hS rfl ?_; try cbv)
    | (refine s_ck hS ?_; try cbv)
    | (refine qac hS ?_ ?_ <;> intro h <;> (try cbv) <;> try exact s_ab h)
    | (refine s_ad hS ?_; intro _ _; try cbv)
    | (refine s_sb hS ?_; intro _ _; try cbv)
    | (refine qan hS ?_; intro _ _; try cbv)
    | (refine qad hS ?_; try cbv)
    | (refine s_ckA hS c1 ?_; cbv)
    | (refine s_ckA hS c2 ?_; cbv)
    | (refine qaz hS ?_; cbv)
    | (refine grow_u hS (by simp only [Z.v]; omega) (by simp only [Z.v]; omega) ?_; cbv)
    | (refine qbg hS ?_; try cbv)
    | (refine s_lk hS ?_; try cbv)
    | (refine s_mu hS ?_; try cbv)
    | fail)
  have e1 : S.app (S.app (S.app [] (S.sub F2 0 n2 1)) A) B = cellsB L := by
    rw [← hL]; rw [hs1, qbr hS hF2.symm hA.symm, qbr hS rfl hB.symm]; unfold fldB; rw [← hu]
  have e2 : S.pl (S.pl (S.pl 0 n2) ma) m = ilen L := by
    rw [← hL]; unfold fldB; rw [← hu, qba, qba, ← hn2, ← hm, ← hma]; subst hS; show 0 + n2 + ma + m = _; omega
  exact qeg (z := .y (S.pl (S.pl (S.pl 0 n2) ma) m)) .rfl rfl e1 e2
end Pa
end Cz
namespace Cz
open Go Go.RowKit Go.Proofs
namespace Pa
theorem rbest_t {x : List UInt8} (hx : ilen x ≤ 5000) : (S0 Tryz.prog).call 56 [.s x] [] (Tell (.v false 1 (cellsB (bestT (byS x))) (.y (ilen (bestT (byS x)))))) := tell_own (rtbest_f hx) (qae _) (qdp _)
section
variable {S : Sy} {bl : List Blk} {K : SV → List Blk → Prop}
theorem qzaby (hS : S0 Tryz.prog = S) {x : List UInt8} {F : List SV} {n : Int} (hx : ilen x ≤ 5000) (hF : cellsB (bestT (byS x)) = F) (hn : n = ilen (bestT (byS x))) (hK : K (.v false 1 F (.y n)) bl) : S.call 56 [.s x] bl K := by
  subst hF hn
  exact qbd hS (rbest_t hx) (.cons .rfl .nil) rfl hK
end
theorem zidx_o {i : Int} (h0 : 0 ≤ i) (h1 : i < 2147483648) : (S0 Tryz.prog).call 24 [.i .i64 (.y i)] [] (OwnB (C1 0) (idxB i)) := by
  obtain ⟨L, hL⟩ : ∃ L, idxB i = L := ⟨_, rfl⟩
  rw [hL]
  generalize hS : S0 Tryz.prog = S
  refine qab hS I.qhd ?_
  cbv
  repeat' (first
    | (refine qbi hS rfl ?_; try cbv)
    | (refine s_ck hS ?_; try cbv)
    | (refine qac hS ?_ ?_ <;> intro h <;> (try cbv) <;> try exact s_ab h)
    | (refine s_ad hS ?_; intro _ _; try cbv)
    | (refine s_sb hS ?_; intro _ _; try cbv)
    | (refine qan hS ?_; intro _ _; try cbv)
    | (refine qad hS ?_; try cbv)
    | (refine qkj hS i 7 128 128 rfl rfl rfl h0 h1 (by decide) (by decide) rfl (by decide) (by decide) fun F2 n2 st hF2 hn2 => ?_; cbv)
    | (refine qbg hS ?_; try cbv)
    | (refine s_lk hS ?_; try cbv)
    | (refine s_mu hS ?_; try cbv)
    | fail)
  exact qeg (z := .y n2) .rfl rfl (hL ▸ hF2.symm) (hL ▸ hn2)
theorem zsiz_o {i : Int} (h0 : 0 ≤ i) (h1 : i < 2147483648) : (S0 Tryz.prog).call 26 [.i .i64 (.y i)] [] (OwnB (C1 0) (sizB i)) := by
  obtain ⟨L, hL⟩ : ∃ L, sizB i = L := ⟨_, rfl⟩
  rw [hL]
  generalize hS : S0 Tryz.prog = S
  refine qab hS I.qjq ?_
  cbv
  repeat' (first
    | (refine qbi hS rfl ?_; try cbv)
    | (refine s_ck hS ?_; try cbv)
    | (refine qac hS ?_ ?_ <;> intro h <;> (try cbv) <;> try exact s_ab h)
    | (refine s_ad hS ?_; intro _ _; try cbv)
    | (refine s_sb hS ?_; intro _ _; try cbv)
    | (refine qan hS ?_; intro _ _; try cbv)
    | (refine qad hS ?_; try cbv)
    | (refine qkj hS i 5 32 32 rfl rfl rfl h0 h1 (by decide) (by decide) rfl (by decide) (by decide) fun F2 n2 st hF2 hn2 => ?_; cbv)
    | (refine qbg hS ?_; try cbv)
    | (refine s_lk hS ?_; try cbv)
    | (refine s_mu hS ?_; try cbv)
    | fail)
  exact qeg (z := .y n2) .rfl rfl (hL ▸ hF2.symm) (hL ▸ hn2)
theorem first_o {i w : Int} (h0 : 0 ≤ i) (h1 : i < 2147483648) : (S0 Tryz.prog).call 55 [.i .i64 (.y i), .i .i64 (.y w)] [] (OwnB (C1 0) (putI i (powP w) (upP w))) := by
  obtain ⟨L, hL⟩ : ∃ L, putI i (powP w) (upP w) = L := ⟨_, rfl⟩
  rw [hL]
  have hw : (w = 1 ∧ powP w = 64 ∧ upP w = 64) ∨ (w = 2 ∧ powP w = 16 ∧ upP w = 16) ∨ (w ≠ 1 ∧ w ≠ 2 ∧ powP w = 16 ∧ upP w = 0) := by
    unfold powP upP
    by_cases a1 : w = 1
    · exact .inl ⟨a1, by simp [a1], by simp [a1]⟩
    by_cases a2 : w = 2
    · exact .inr (.inl ⟨a2, by simp [a1], by simp [a1, a2]⟩)
    exact .inr (.inr ⟨a1, a2, by simp [a1], by simp [a1, a2]⟩)
  generalize hS : S0 Tryz.prog = S
  rcases hw with ⟨e0, e1, e2⟩ | ⟨e0, e1, e2⟩ | ⟨e0, e3, e1, e2⟩
  · rw [e1, e2] at hL
    refine qab hS I.qcs ?_
    cbv
    repeat' (first
      | (refine qbi hS rfl ?_; try cbv)
      | (refine s_ck hS ?_; try cbv)
      | (refine qac hS ?_ ?_ <;> intro h <;> (try cbv) <;> try exact s_ab h)
      | (refine s_ad hS ?_; intro _ _; try cbv)
      | (refine s_sb hS ?_; intro _ _; try cbv)
      | (refine qan hS ?_; intro _ _; try cbv)
      | (refine qad hS ?_; try cbv)
      | (refine qkj hS i 6 64 64 rfl rfl rfl h0 h1 (by decide) (by decide) rfl (by decide) (by decide) fun F2 n2 st hF2 hn2 => ?_; cbv)
      | (refine qbg hS ?_; try cbv)
      | (refine s_lk hS ?_; try cbv)
      | (refine s_mu hS ?_; try cbv)
      | fail)
    exact qeg (z := .y n2) .rfl rfl (hL ▸ hF2.symm) (hL ▸ hn2)
  · rw [e1, e2] at hL
    refine qab hS I.qcs ?_
    cbv
    repeat' (first
      | (refine qbi hS rfl ?_; try cbv)
      | (refine s_ck hS ?_; try cbv)
      | (refine qac hS ?_ ?_ <;> intro h <;> (try cbv) <;> try exact s_ab h)
      | (refine s_ad hS ?_; intro _ _; try cbv)
      | (refine s_sb hS ?_; intro _ _; try cbv)
      | (refine qan hS ?_; intro _ _; try cbv)
      | (refine qad hS ?_; try cbv)
      | (refine qkj hS i 4 16 16 rfl rfl rfl h0 h1 (by decide) (by decide) rfl (by decide) (by decide) fun F2 n2 st hF2 hn2 => ?_; cbv)
      | (refine qbg hS ?_; try cbv)
      | (refine s_lk hS ?_; try cbv)
      | (refine s_mu hS ?_; try cbv)
      | fail)
    exact qeg (z := .y n2) .rfl rfl (hL ▸ hF2.symm) (hL ▸ hn2)
  · rw [e1, e2] at hL
    refine qab hS I.qcs ?_
    cbv
    repeat' (first
      | (refine qbi hS rfl ?_; try cbv)
      | (refine s_ck hS ?_; try cbv)
      | (refine qac hS ?_ ?_ <;> intro h <;> (try cbv) <;> try exact s_ab h)
      | (refine s_ad hS ?_; intro _ _; try cbv)
      | (refine s_sb hS ?_; intro _ _; try cbv)
      | (refine qan hS ?_; intro _ _; try cbv)
      | (refine qad hS ?_; try cbv)
      | (refine qkj hS i 4 0 16 rfl rfl rfl h0 h1 (by decide) (by decide) rfl (by decide) (by decide) fun F2 n2 st hF2 hn2 => ?_; cbv)
      | (refine qbg hS ?_; try cbv)
      | (refine s_lk hS ?_; try cbv)
      | (refine s_mu hS ?_; try cbv)
      | fail)
    exact qeg (z := .y n2) .rfl rfl (hL ▸ hF2.symm) (hL ▸ hn2)
theorem znm_o {i w : Int} {b : List UInt8} (h0 : 0 < i) (h1 : i < 2147483648) (hb : ilen b ≤ 5000) :
    (S0 Tryz.prog).call 28 [.i .i64 (.y i), .s b, .i .i64 (.y w)] [] (OwnB (C1 0) (nmB i b w)) := by
  obtain ⟨L, hL⟩ : ∃ L, nmB i b w = L := ⟨_, rfl⟩
  rw [hL]
  obtain ⟨B, hB⟩ : ∃ B, cellsB (bestT (byS b)) = B := ⟨_, rfl⟩
  obtain ⟨m, hm⟩ : ∃ m, m = ilen (bestT (byS b)) := ⟨_, rfl⟩
  have hm1 := qiy (byS b)
  rw [← hm, qct] at hm1
  obtain ⟨A, hA⟩ : ∃ B, cellsB (putI i (powP w) (upP w)) = B := ⟨_, rfl⟩
  obtain ⟨k, hk⟩ : ∃ m, m = ilen (putI i (powP w) (upP w)) := ⟨_, rfl⟩
  have hkl := qbx i (powP w) (upP w)
  rw [← hk] at hkl
  have hfl : ilen A = k := by rw [← hA, qao, hk]
  generalize hS : S0 Tryz.prog = S
  refine qab hS I.qjr ?_
  cbv
  repeat' (first
    | (refine qbi hS rfl ?_; try cbv)
    | (refine s_ck hS ?_; try cbv)
    | (refine qac hS ?_ ?_ <;> intro h <;> (try cbv) <;> try exact s_ab h)
    | (refine s_ad hS ?_; intro _ _; try cbv)
    | (refine s_sb hS ?_; intro _ _; try cbv)
    | (refine qan hS ?_; intro _ _; try cbv)
    | (refine qad hS ?_; try cbv)
    | (refine own_u1 hS (first_o (i := i) (w := w) (by omega) h1) (.cons (qak rfl) (.cons (qak rfl) .nil)) rfl hA hk ?_; cbv)
    | (refine qzaby hS hb hB hm ?_; cbv)
    | (refine qbg hS ?_; try cbv)
    | (refine s_lk hS ?_; try cbv)
    | (refine s_mu hS ?_; try cbv)
    | fail)
  have e1 : S.app A B = cellsB L := by rw [← hL]; unfold nmB; exact qbr hS hA.symm hB.symm
  have e2 : S.pl k m = ilen L := by rw [← hL]; unfold nmB; rw [qba, ← hk, ← hm]; subst hS; rfl
  exact qeg (z := .y (S.pl k m)) (qbs (.cons .rfl (.cons (qak rfl) .nil))) rfl e1 e2
theorem zfl_o {w : Int} {a b : List UInt8} (ha : ilen a ≤ 5000) (hb : ilen b ≤ 5000) :
    (S0 Tryz.prog).call 31 [.ag [.s a, .s b], .i .i64 (.y w)] [] (OwnB C0 (fldB (a, b) w)) := by
  obtain ⟨L, hL⟩ : ∃ L, fldB (a, b) w = L := ⟨_, rfl⟩
  rw [hL]
  obtain ⟨B, hB⟩ : ∃ B, cellsB (bestT (byS b)) = B := ⟨_, rfl⟩
  obtain ⟨m, hm⟩ : ∃ m, m = ilen (bestT (byS b)) := ⟨_, rfl⟩
  have hm1 := qiy (byS b)
  rw [← hm, qct] at hm1
  obtain ⟨D, hD⟩ : ∃ B, cellsB (bestT (byS a)) = B := ⟨_, rfl⟩
  obtain ⟨q, hq⟩ : ∃ m, m = ilen (bestT (byS a)) := ⟨_, rfl⟩
  have hq1 := qiy (byS a)
  rw [← hq, qct] at hq1
  obtain ⟨A, hA⟩ : ∃ B, cellsB (putI 0 (powP w) (upP w)) = B := ⟨_, rfl⟩
  obtain ⟨k, hk⟩ : ∃ m, m = ilen (putI 0 (powP w) (upP w)) := ⟨_, rfl⟩
  have hkl := qbx 0 (powP w) (upP w)
  rw [← hk] at hkl
  have hfl : ilen A = k := by rw [← hA, qao, hk]
  have hdl : ilen D = q := by rw [← hD, qao, hq]
  generalize hS : S0 Tryz.prog = S
  have hal : ilen (S.app A D) = S.pl k q := by rw [qbr hS hA.symm hD.symm, qao, qba, ← hk, ← hq]; subst hS; rfl
  have c1 : S.sc (S.pl k q) 1 = S.flen (S.app A D) := by subst hS; show (S0 _).pl k q * 1 = ilen _; rw [hal]; omega
  refine qab hS I.qjs ?_
  cbv
  repeat' (first
    | (refine qbi hS rfl ?_; try cbv)
    | (refine s_ck hS ?_; try cbv)
    | (refine qac hS ?_ ?_ <;> intro h <;> (try cbv) <;> try exact s_ab h)
    | (refine s_ad hS ?_; intro _ _; try cbv)
    | (refine s_sb hS ?_; intro _ _; try cbv)
    | (refine qan hS ?_; intro _ _; try cbv)
    | (refine qad hS ?_; try cbv)
    | (refine own_u1 hS (first_o (i := 0) (w := w) (by omega) (by omega)) (.cons (qak rfl) (.cons (qak rfl) .nil)) rfl hA hk ?_; cbv)
    | (refine qzaby hS ha hD hq ?_; cbv)
    | (refine qzaby hS hb hB hm ?_; cbv)
    | (refine s_ckA hS c1 ?_; cbv)
    | (refine qal hS rfl I.qgh (by decide +kernel) ?_; cbv)
    | (refine qbg hS ?_; try cbv)
    | (refine s_lk hS ?_; try cbv)
    | (refine s_mu hS ?_; try cbv)
    | fail)
  have e1 : S.app (S.app A D) B = cellsB L := by rw [← hL, qbr hS hA.symm hD.symm, qbr hS rfl hB.symm]; rfl
  have e2 : S.pl (S.pl k q) m = ilen L := by rw [← hL]; unfold fldB; rw [qba, qba, ← hk, ← hm, ← hq]; subst hS; rfl
  exact qeg (z := .y (S.pl (S.pl k q) m)) .rfl rfl e1 e2
section
variable {S : Sy} {bl : List Blk} {K : SV → List Blk → Prop} {L : List Int} {F : List SV} {n i w : Int} {a b : List UInt8}
theorem zidx_g (hS : S0 Tryz.prog = S) {zi : Z} (hi : zi.v = i) (h0 : 0 ≤ i) (h1 : i < 2147483648) (hF : cellsB (idxB i) = F) (hn : n = ilen (idxB i)) (hK : K (.tp [.v false 1 F (.y n), .i .i64 (.y 0)]) bl) : S.call 24 [.i .i64 zi] bl K :=
  qbd hS (own_t1 (zidx_o h0 h1) hF hn) (.cons (qak hi) .nil) rfl hK
theorem znm_g (hS : S0 Tryz.prog = S) {zi zw : Z} (hi : zi.v = i) (hw : zw.v = w) (h0 : 0 < i) (h1 : i < 2147483648) (hb : ilen b ≤ 5000) (hF : cellsB (nmB i b w) = F) (hn : n = ilen (nmB i b w)) (hK : K (.tp [.v false 1 F (.y n), .i .i64 (.y 0)]) bl) :
    S.call 28 [.i .i64 zi, .s b, .i .i64 zw] bl K :=
  qbd hS (own_t1 (znm_o h0 h1 hb) hF hn) (.cons (qak hi) (.cons .rfl (.cons (qak hw) .nil))) rfl hK
theorem zfl_g (hS : S0 Tryz.prog = S) {zw : Z} (hw : zw.v = w) (ha : ilen a ≤ 5000) (hb : ilen b ≤ 5000) (hF : cellsB (fldB (a, b) w) = F) (hn : n = ilen (fldB (a, b) w)) (hK : K (.v false 1 F (.y n)) bl) : S.call 31 [.ag [.s a, .s b], .i .i64 zw] bl K :=
  qbd hS (own_t0 (zfl_o ha hb) hF hn) (.cons .rfl (.cons (qak hw) .nil)) rfl hK
end
end Pa
end Cz
namespace Cz
open Go Go.RowKit Go.Proofs
namespace Pa
open Tb
theorem qws {a b : List UInt8} {t : Bool} (ht : decide (a = ckN) = t) : (S0 Tryz.prog).call 16 [.ag [.s a, .s b]] [] (fun y _ => Sub y (.b t)) := by
  generalize hS : S0 Tryz.prog = S
  refine qab hS I.qvb ?_
  cbv
  repeat' (first
    | (refine qbi hS rfl ?_; try cbv)
    | (refine s_ck hS ?_; try cbv)
    | (refine qac hS ?_ ?_ <;> intro h <;> (try cbv) <;> try exact s_ab h)
    | (refine s_ad hS ?_; intro _ _; try cbv)
    | (refine s_sb hS ?_; intro _ _; try cbv)
    | (refine qan hS ?_; intro _ _; try cbv)
    | (refine qad hS ?_; try cbv)
    | (refine qbg hS ?_; try cbv)
    | (refine s_lk hS ?_; try cbv)
    | (refine s_mu hS ?_; try cbv)
    | fail)
  refine qrn ?_
  subst hS
  rw [← ht]
  show (a == ckN) = decide (a = ckN)
  by_cases h : a = ckN <;> simp [h]
theorem named_z {w : Int} {b : List UInt8} : (S0 Tryz.prog).call 27 [.i .i64 (.y 0), .s b, .i .i64 (.y w)] [] (fun y _ => Sub y (.tp [.re (.slice none 0 0), .i .i64 (.y 2)])) := by
  generalize hS : S0 Tryz.prog = S
  refine qab hS I.qia ?_
  cbv
  refine of_u hS (w := w) rfl fun u k hu hk => ?_
  obtain ⟨u0, u1, k0, k1, hp⟩ := up_bd w
  rw [← hu] at u0 u1
  rw [← hk] at k0 k1 hp
  cbv
  refine qab hS I.qdi ?_
  cbv
  repeat' (first
    | (refine qbi hS rfl ?_; try cbv)
    | (refine s_ck hS ?_; try cbv)
    | (refine qac hS ?_ ?_ <;> intro h <;> (try cbv) <;> try exact s_ab h)
    | (refine s_ad hS ?_; intro _ _; try cbv)
    | (refine s_sb hS ?_; intro _ _; try cbv)
    | (refine qan hS ?_; intro _ _; try cbv)
    | (refine qad hS ?_; try cbv)
    | (refine qsa hS 0 k u (powP w) rfl rfl rfl (by omega) (by omega) (by omega) (by omega) hp (by omega) (by omega) fun F2 n2 st hF2 hn2 => ?_; cbv)
    | (refine qbg hS ?_; try cbv)
    | (refine s_lk hS ?_; try cbv)
    | (refine s_mu hS ?_; try cbv)
    | fail)
  exact qbs (.cons .rfl (.cons (qak rfl) .nil))
section
variable {S : Sy} {bl : List Blk} {K : SV → List Blk → Prop} {L : List Int} {F : List SV} {n i w : Int} {a b : List UInt8}
theorem qgc (hS : S0 Tryz.prog = S) {t : Bool} (ht : decide (a = ckN) = t) (hK : K (.b t) bl) : S.call 16 [.ag [.s a, .s b]] bl K := qbc hS (qws ht) .rfl rfl rfl hK
theorem qgl (hS : S0 Tryz.prog = S) {zi zw : Z} (hi : zi.v = i) (hw : zw.v = w) (h0 : 0 < i) (h1 : i < 2147483648) (hb : ilen b ≤ 1000000) (hF : cellsB (nmB i b w) = F) (hn : n = ilen (nmB i b w)) (hK : K (.tp [.v false 1 F (.y n), .i .i64 (.y 0)]) bl) :
    S.call 27 [.i .i64 zi, .s b, .i .i64 zw] bl K :=
  qbd hS (own_t1 (named_o h0 h1 hb) hF hn) (.cons (qak hi) (.cons .rfl (.cons (qak hw) .nil))) rfl hK
theorem qzacc (hS : S0 Tryz.prog = S) {zi zw : Z} (hi : zi.v = 0) (hK : K (.tp [.re (.slice none 0 0), .i .i64 (.y 2)]) bl) : S.call 27 [.i .i64 zi, .s b, .i .i64 zw] bl K :=
  qbc hS (named_z (w := zw.v)) (.cons (qak hi) (.cons .rfl (.cons (qak rfl) .nil))) rfl rfl hK
theorem qyc (hS : S0 Tryz.prog = S) {zw : Z} (hw : zw.v = w) (hab : ilen a + ilen b ≤ 60000) (hF : cellsB (fldB (a, b) w) = F) (hn : n = ilen (fldB (a, b) w)) (hK : K (.v false 1 F (.y n)) bl) : S.call 30 [.ag [.s a, .s b], .i .i64 zw] bl K :=
  qbd hS (own_t0 (fld_o hab) hF hn) (.cons .rfl (.cons (qak hw) .nil)) rfl hK
theorem idx_g (hS : S0 Tryz.prog = S) {zi : Z} (hi : zi.v = i) (h0 : 0 ≤ i) (h1 : i < 2147483648) (hF : cellsB (idxB i) = F) (hn : n = ilen (idxB i)) (hK : K (.tp [.v false 1 F (.y n), .i .i64 (.y 0)]) bl) : S.call 23 [.i .i64 zi] bl K :=
  qbd hS (own_t1 (idx_o h0 h1) hF hn) (.cons (qak hi) .nil) rfl hK
end
theorem field_f {mx : Int} {l l' : List Tb.Fd} {a b : List UInt8} {L : List Int} {F R : List SV} {n m : Int} (hR : rightL mx l = true) (hL : fieldB mx l (a, b) = L) (hl : fieldL mx l (a, b) = l') (hF : cellsB L = F) (hn : n = ilen L) (hRr : cellsF l' = R) (hm : m = ilen l')
    (hab : ilen a + ilen b ≤ 60000) :
    (S0 Tryz.prog).call 8 [tabV mx l, .ag [.s a, .s b]] [] (Tell (.tp [.v false 1 F (.y n), .ag [.i .i64 (.y mx), .v false 2 R (.y m)], .i .i64 (.y 0)])) := by
  have hl0 := qde hR
  have hR' := of_decide_eq_true hR
  have h0a := qag a
  have h0b := qag b
  unfold tabV
  generalize hG : cellsF l = G
  obtain ⟨k, hk⟩ : ∃ k, k = ilen l := ⟨_, rfl⟩
  obtain ⟨sz, hsz⟩ : ∃ r, r = szF (a, b) := ⟨_, rfl⟩
  have hsz' : sz = ilen a + ilen b + 32 := hsz
  have hres : resR (mx, l) mx = ((mx, l), 0) := by unfold resR; rw [if_pos ⟨hR, hR'.1, hR'.2.1⟩]; dsimp only; rw [qyi hR'.2.2]
  have hadd : addR (mx, l) (a, b) = ((mx, evL mx ((a, b) :: l)), 0) := by unfold addR; rw [if_pos hR]
  have hrg := qye l (a, b)
  unfold fieldL addP at hl
  unfold fieldB ownB at hL
  unfold wayP at hL hl
  rw [← hsz] at hL hl
  obtain ⟨⟨fi, ft⟩, hfi⟩ : ∃ r, Tb.findR l (a, b) = r := ⟨_, rfl⟩
  rw [hfi] at hL hl hrg
  dsimp only at hL hl hrg
  rw [← hk]
  generalize hS : S0 Tryz.prog = S
  refine qab hS I.qmy ?_
  cbv
  refine res_g hS (.v (z := .y mx) (n := .y k) rfl hG hk) hres hG hk (by omega) ?_
  cbv
  repeat' (first
    | (refine qbi hS rfl ?_; try cbv)
    | (refine s_ck hS ?_; try cbv)
    | (refine qac hS ?_ ?_ <;> intro h <;> (try cbv) <;> try exact s_ab h)
    | (refine s_ad hS ?_; intro _ _; try cbv)
    | (refine s_sb hS ?_; intro _ _; try cbv)
    | (refine qan hS ?_; intro _ _; try cbv)
    | (refine qad hS ?_; try cbv)
    | (refine qbg hS ?_; try cbv)
    | (refine s_lk hS ?_; try cbv)
    | (refine s_mu hS ?_; try cbv)
    | fail)
  refine find_g hS (.v (z := .y mx) (n := .y k) rfl hG hk) hfi (by omega) ?_
  cbv
  cases ft with
  | true =>
    cbv
    simp only [if_true] at hL hl
    simp at hl
    subst hl hL
    repeat' (first
      | (refine qbi hS rfl ?_; try cbv)
      | (refine s_ck hS ?_; try cbv)
      | (refine qac hS ?_ ?_ <;> intro h <;> (try cbv) <;> try exact s_ab h)
      | (refine s_ad hS ?_; intro _ _; try cbv)
      | (refine s_sb hS ?_; intro _ _; try cbv)
      | (refine qan hS ?_; intro _ _; try cbv)
      | (refine qad hS ?_; try cbv)
      | (refine idx_g hS (i := fi) rfl hrg.1 (by omega) hF hn ?_; cbv)
      | (refine qal hS rfl I.qbb (by decide +kernel) ?_; cbv)
      | (refine qal hS rfl I.qbo (by decide +kernel) ?_; cbv)
      | (refine qal hS rfl I.qbn (by decide +kernel) ?_; cbv)
      | (refine qal hS rfl I.qbm (by decide +kernel) ?_; cbv)
      | (refine qal hS rfl I.qbl (by decide +kernel) ?_; cbv)
      | (refine qal hS rfl I.qbk (by decide +kernel) ?_; cbv)
      | (refine qbg hS ?_; try cbv)
      | (refine s_lk hS ?_; try cbv)
      | (refine s_mu hS ?_; try cbv)
      | fail)
    exact fun g => .sub (qbs (.cons .rfl (.cons (qfe (.cons .rfl (.cons (qck (hG.symm.trans hRr) (hk.trans hm.symm)) .nil))) (.cons (qak rfl) .nil)))) rfl
  | false =>
    cbv
    rw [if_neg (by simp)] at hL
    by_cases hc : a = ckN
    · rw [if_pos hc] at hL hl
      rw [if_neg (by simp)] at hl
      subst hl
      by_cases hp : 0 < fi
      · rw [if_pos hp] at hL
        subst hL
        repeat' (first
          | (refine qbi hS rfl ?_; try cbv)
          | (refine s_ck hS ?_; try cbv)
          | (refine qac hS ?_ ?_ <;> intro h <;> (try cbv) <;> try exact s_ab h)
          | (refine s_ad hS ?_; intro _ _; try cbv)
          | (refine s_sb hS ?_; intro _ _; try cbv)
          | (refine qan hS ?_; intro _ _; try cbv)
          | (refine qad hS ?_; try cbv)
          | (refine qgc hS (t := true) (decide_eq_true hc) ?_; cbv)
          | (refine qgl hS (i := fi) (w := 2) rfl rfl hp (by omega) (by omega) hF hn ?_; cbv)
          | (refine qgl hS (i := fi) (w := 3) rfl rfl hp (by omega) (by omega) hF hn ?_; cbv)
          | (refine qgl hS (i := fi) (w := 1) rfl rfl hp (by omega) (by omega) hF hn ?_; cbv)
          | (refine qal hS rfl I.qbb (by decide +kernel) ?_; cbv)
          | (refine qal hS rfl I.qbo (by decide +kernel) ?_; cbv)
          | (refine qal hS rfl I.qbn (by decide +kernel) ?_; cbv)
          | (refine qal hS rfl I.qbm (by decide +kernel) ?_; cbv)
          | (refine qal hS rfl I.qbl (by decide +kernel) ?_; cbv)
          | (refine qal hS rfl I.qbk (by decide +kernel) ?_; cbv)
          | (refine qab hS I.qce ?_; cbv)
          | (refine qbg hS ?_; try cbv)
          | (refine s_lk hS ?_; try cbv)
          | (refine s_mu hS ?_; try cbv)
          | fail)
        exact fun g => .sub (qbs (.cons .rfl (.cons (qfe (.cons .rfl (.cons (qck (hG.symm.trans hRr) (hk.trans hm.symm)) .nil))) (.cons (qak rfl) .nil)))) rfl
      · rw [if_neg hp] at hL
        subst hL
        have hp0 : fi = 0 := by omega
        repeat' (first
          | (refine qbi hS rfl ?_; try cbv)
          | (refine s_ck hS ?_; try cbv)
          | (refine qac hS ?_ ?_ <;> intro h <;> (try cbv) <;> try exact s_ab h)
          | (refine s_ad hS ?_; intro _ _; try cbv)
          | (refine s_sb hS ?_; intro _ _; try cbv)
          | (refine qan hS ?_; intro _ _; try cbv)
          | (refine qad hS ?_; try cbv)
          | (refine qgc hS (t := true) (decide_eq_true hc) ?_; cbv)
          | (refine qyc hS (w := 2) rfl hab hF hn ?_; cbv)
          | (refine qyc hS (w := 3) rfl hab hF hn ?_; cbv)
          | (refine qyc hS (w := 1) rfl hab hF hn ?_; cbv)
          | (refine qal hS rfl I.qbb (by decide +kernel) ?_; cbv)
          | (refine qal hS rfl I.qbo (by decide +kernel) ?_; cbv)
          | (refine qal hS rfl I.qbn (by decide +kernel) ?_; cbv)
          | (refine qal hS rfl I.qbm (by decide +kernel) ?_; cbv)
          | (refine qal hS rfl I.qbl (by decide +kernel) ?_; cbv)
          | (refine qal hS rfl I.qbk (by decide +kernel) ?_; cbv)
          | (refine qzacc hS hp0 ?_; cbv)
          | (refine qab hS I.qce ?_; cbv)
          | (refine qbg hS ?_; try cbv)
          | (refine s_lk hS ?_; try cbv)
          | (refine s_mu hS ?_; try cbv)
          | fail)
        exact fun g => .sub (qbs (.cons .rfl (.cons (qfe (.cons .rfl (.cons (qck (hG.symm.trans hRr) (hk.trans hm.symm)) .nil))) (.cons (qak rfl) .nil)))) rfl
    · rw [if_neg hc] at hL hl
      by_cases hs : sz ≤ mx
      · rw [if_pos hs] at hL hl
        rw [if_pos (by simp)] at hl
        subst hl
        by_cases hp : 0 < fi
        · rw [if_pos hp] at hL
          subst hL
          repeat' (first
            | (refine qbi hS rfl ?_; try cbv)
            | (refine s_ck hS ?_; try cbv)
            | (refine qac hS ?_ ?_ <;> intro h <;> (try cbv) <;> try exact s_ab h)
            | (refine s_ad hS ?_; intro _ _; try cbv)
            | (refine s_sb hS ?_; intro _ _; try cbv)
            | (refine qan hS ?_; intro _ _; try cbv)
            | (refine qad hS ?_; try cbv)
            | (refine qgc hS (t := false) (decide_eq_false hc) ?_; cbv)
            | (refine qgl hS (i := fi) (w := 2) rfl rfl hp (by omega) (by omega) hF hn ?_; cbv)
            | (refine qgl hS (i := fi) (w := 3) rfl rfl hp (by omega) (by omega) hF hn ?_; cbv)
            | (refine qgl hS (i := fi) (w := 1) rfl rfl hp (by omega) (by omega) hF hn ?_; cbv)
            | (refine qal hS rfl I.qbb (by decide +kernel) ?_; cbv)
            | (refine qal hS rfl I.qbo (by decide +kernel) ?_; cbv)
            | (refine qal hS rfl I.qbn (by decide +kernel) ?_; cbv)
            | (refine qal hS rfl I.qbm (by decide +kernel) ?_; cbv)
            | (refine qal hS rfl I.qbl (by decide +kernel) ?_; cbv)
            | (refine qal hS rfl I.qbk (by decide +kernel) ?_; cbv)
            | (refine qab hS I.qce ?_; cbv)
            | (refine size_g hS hsz (by omega) ?_; cbv)
            | (refine add_g hS (.v (z := .y mx) (n := .y k) rfl hG hk) hadd hRr hm (by omega) (by omega) ?_; cbv)
            | (refine qbg hS ?_; try cbv)
            | (refine s_lk hS ?_; try cbv)
            | (refine s_mu hS ?_; try cbv)
            | fail)
          exact fun g => .sub (qbs (.cons .rfl (.cons .rfl (.cons (qak rfl) .nil)))) rfl
        · rw [if_neg hp] at hL
          subst hL
          have hp0 : fi = 0 := by omega
          repeat' (first
            | (refine qbi hS rfl ?_; try cbv)
            | (refine s_ck hS ?_; try cbv)
            | (refine qac hS ?_ ?_ <;> intro h <;> (try cbv) <;> try exact s_ab h)
            | (refine s_ad hS ?_; intro _ _; try cbv)
            | (refine s_sb hS ?_; intro _ _; try cbv)
            | (refine qan hS ?_; intro _ _; try cbv)
            | (refine qad hS ?_; try cbv)
            | (refine qgc hS (t := false) (decide_eq_false hc) ?_; cbv)
            | (refine qyc hS (w := 2) rfl hab hF hn ?_; cbv)
            | (refine qyc hS (w := 3) rfl hab hF hn ?_; cbv)
            | (refine qyc hS (w := 1) rfl hab hF hn ?_; cbv)
            | (refine qal hS rfl I.qbb (by decide +kernel) ?_; cbv)
            | (refine qal hS rfl I.qbo (by decide +kernel) ?_; cbv)
            | (refine qal hS rfl I.qbn (by decide +kernel) ?_; cbv)
            | (refine qal hS rfl I.qbm (by decide +kernel) ?_; cbv)
            | (refine qal hS rfl I.qbl (by decide +kernel) ?_; cbv)
            | (refine qal hS rfl I.qbk (by decide +kernel) ?_; cbv)
            | (refine qzacc hS hp0 ?_; cbv)
            | (refine qab hS I.qce ?_; cbv)
            | (refine size_g hS hsz (by omega) ?_; cbv)
            | (refine add_g hS (.v (z := .y mx) (n := .y k) rfl hG hk) hadd hRr hm (by omega) (by omega) ?_; cbv)
            | (refine qbg hS ?_; try cbv)
            | (refine s_lk hS ?_; try cbv)
            | (refine s_mu hS ?_; try cbv)
            | fail)
          exact fun g => .sub (qbs (.cons .rfl (.cons .rfl (.cons (qak rfl) .nil)))) rfl
      · rw [if_neg hs] at hL hl
        rw [if_neg (by simp)] at hl
        subst hl
        by_cases hp : 0 < fi
        · rw [if_pos hp] at hL
          subst hL
          repeat' (first
            | (refine qbi hS rfl ?_; try cbv)
            | (refine s_ck hS ?_; try cbv)
            | (refine qac hS ?_ ?_ <;> intro h <;> (try cbv) <;> try exact s_ab h)
            | (refine s_ad hS ?_; intro _ _; try cbv)
            | (refine s_sb hS ?_; intro _ _; try cbv)
            | (refine qan hS ?_; intro _ _; try cbv)
            | (refine qad hS ?_; try cbv)
            | (refine qgc hS (t := false) (decide_eq_false hc) ?_; cbv)
            | (refine qgl hS (i := fi) (w := 2) rfl rfl hp (by omega) (by omega) hF hn ?_; cbv)
            | (refine qgl hS (i := fi) (w := 3) rfl rfl hp (by omega) (by omega) hF hn ?_; cbv)
            | (refine qgl hS (i := fi) (w := 1) rfl rfl hp (by omega) (by omega) hF hn ?_; cbv)
            | (refine qal hS rfl I.qbb (by decide +kernel) ?_; cbv)
            | (refine qal hS rfl I.qbo (by decide +kernel) ?_; cbv)
            | (refine qal hS rfl I.qbn (by decide +kernel) ?_; cbv)
            | (refine qal hS rfl I.qbm (by decide +kernel) ?_; cbv)
            | (refine qal hS rfl I.qbl (by decide +kernel) ?_; cbv)
            | (refine qal hS rfl I.qbk (by decide +kernel) ?_; cbv)
            | (refine qab hS I.qce ?_; cbv)
            | (refine size_g hS hsz (by omega) ?_; cbv)
            | (refine qbg hS ?_; try cbv)
            | (refine s_lk hS ?_; try cbv)
            | (refine s_mu hS ?_; try cbv)
            | fail)
          exact fun g => .sub (qbs (.cons .rfl (.cons (qfe (.cons .rfl (.cons (qck (hG.symm.trans hRr) (hk.trans hm.symm)) .nil))) (.cons (qak rfl) .nil)))) rfl
        · rw [if_neg hp] at hL
          subst hL
          have hp0 : fi = 0 := by omega
          repeat' (first
            | (refine qbi hS rfl ?_; try cbv)
            | (refine s_ck hS ?_; try cbv)
            | (refine qac hS ?_ ?_ <;> intro h <;> (try cbv) <;> try exact s_ab h)
            | (refine s_ad hS ?_; intro _ _; try cbv)
            | (refine s_sb hS ?_; intro _ _; try cbv)
            | (refine qan hS ?_; intro _ _; try cbv)
            | (refine qad hS ?_; try cbv)
            | (refine qgc hS (t := false) (decide_eq_false hc) ?_; cbv)
            | (refine qyc hS (w := 2) rfl hab hF hn ?_; cbv)
            | (refine qyc hS (w := 3) rfl hab hF hn ?_; cbv)
            | (refine qyc hS (w := 1) rfl hab hF hn ?_; cbv)
            | (refine qal hS rfl I.qbb (by decide +kernel) ?_; cbv)
            | (refine qal hS rfl I.qbo (by decide +kernel) ?_; cbv)
            | (refine qal hS rfl I.qbn (by decide +kernel) ?_; cbv)
            | (refine qal hS rfl I.qbm (by decide +kernel) ?_; cbv)
            | (refine qal hS rfl I.qbl (by decide +kernel) ?_; cbv)
            | (refine qal hS rfl I.qbk (by decide +kernel) ?_; cbv)
            | (refine qzacc hS hp0 ?_; cbv)
            | (refine qab hS I.qce ?_; cbv)
            | (refine size_g hS hsz (by omega) ?_; cbv)
            | (refine qbg hS ?_; try cbv)
            | (refine s_lk hS ?_; try cbv)
            | (refine s_mu hS ?_; try cbv)
            | fail)
          exact fun g => .sub (qbs (.cons .rfl (.cons (qfe (.cons .rfl (.cons (qck (hG.symm.trans hRr) (hk.trans hm.symm)) .nil))) (.cons (qak rfl) .nil)))) rfl
end Pa
end Cz
namespace Cz
open Go Go.RowKit
section
variable {P : Program} {l : List Blk}
theorem Rel.reblk {N : Nat → Prop} {W0 W : World} {ρ : Nms} (hR : Rel P N W0 ρ l W) {k : Nat} {cs cs' : List SV} (hB : l[k]? = some (.c cs)) (hlen : cs'.length = cs.length)
    (hd : ∀ (q : Nat) (x' : SV), cs'[q]? = some x' → ∃ x, cs[q]? = some x ∧ ∀ v, den ρ x v → den ρ x' v) : Rel P N W0 ρ (l.set k (.c cs')) W := by
  have hk := (List.getElem?_eq_some_iff.1 hB).1
  have hat : ∀ (j : Nat) (B : Blk), (l.set k (.c cs'))[j]? = some B → B.wr = true → ∃ B0, l[j]? = some B0 ∧ B0.wr = true := by
    intro j B h hw
    by_cases e : j = k
    · subst e; exact ⟨_, hB, rfl⟩
    · rw [List.getElem?_set_ne (fun h => e h.symm)] at h; exact ⟨B, h, hw⟩
  refine ⟨hR.below, hR.le, fun j hj => hR.out j (by simpa using hj), hR.ids, fun j B h => ?_, fun j j' B vw vw' a a' h hw hne hv hv' ha ha' => ?_, fun j B vw a h hw hv ha => ?_, hR.qN, hR.fin, fun j B vw a h hw hv ha => ?_⟩
  · by_cases e : j = k
    · subst e
      rw [List.getElem?_set_self hk] at h
      simp only [Option.some.injEq] at h; subst h
      obtain ⟨b, h1, h2, h3⟩ := hR.blk j _ hB
      refine ⟨b, by rw [h1, hlen], ?_, by rw [hlen]; exact h3⟩
      refine ⟨by rw [hlen]; exact h2.1, fun hb => by (cases hb), fun q x' hq hx' => ?_⟩
      obtain ⟨x, hx, hdx⟩ := hd q x' hx'
      obtain ⟨a, v, g1, g2, g3⟩ := h2.2.2 q x (by simpa [hlen] using hq) hx
      exact ⟨a, v, g1, g2, hdx v g3⟩
    · rw [List.getElem?_set_ne (fun h => e h.symm)] at h
      exact hR.blk j B h
  · obtain ⟨B0, g1, g2⟩ := hat j B h hw
    exact hR.sep j j' B0 vw vw' a a' g1 g2 hne hv hv' ha ha'
  · obtain ⟨B0, g1, g2⟩ := hat j B h hw
    exact hR.own j B0 vw a g1 g2 hv ha
  · obtain ⟨B0, g1, g2⟩ := hat j B h hw
    exact hR.fsep j B0 vw a g1 g2 hv ha
theorem qzabs {S : Sy} (hS : S0 P = S) (k q sz : Nat) {cs : List SV} {cx : Cx} {b : IR} {K : VK} {e : Env} (hsz : 0 < sz) (hB : lget l k = .c cs) (hq : nth cs q = .re (.slice none 0 0))
    (h : S.loop cx b e (snoc (lset l k (.c (put cs q (nilRow l sz)))) (.r false true (.l 0) sz [])) K) : S.loop cx b e l K := by
  subst hS
  have hB' := qap hB (by simp)
  have hk := (List.getElem?_eq_some_iff.1 hB').1
  rw [qcc, qbu] at h
  intro c kl hc N W0 ρ rr a W hs hr hm
  have hle : Le l.length ρ (upd ρ l.length [⟨none, 0, 0⟩]) := qgm (Nat.le_refl _)
  have hE : EnvOk (upd ρ l.length [⟨none, 0, 0⟩]) e.vs a.tmps := hs.env.le hle hs.rel.out
  have hM : MkOk (upd ρ l.length [⟨none, 0, 0⟩]) e.mks a.defers := MkOk.le hle hs.rel.out _ _ hs.mks
  have hG := hs.rel.ghost false hsz
  have hR := hG.reblk (k := k) (cs := cs) (cs' := put cs q (nilRow l sz)) (by rw [List.getElem?_append_left hk]; exact hB') (by rw [qci, List.length_set]) (by
    intro j x' hx'
    by_cases hj : j = q
    · subst hj
      have hlt : j < cs.length := by have := (List.getElem?_eq_some_iff.1 hx').1; rw [qci, List.length_set] at this; exact this
      rw [qci, List.getElem?_set_self hlt] at hx'
      simp only [Option.some.injEq] at hx'; subst hx'
      refine ⟨_, List.getElem?_eq_getElem hlt, fun v hd => ?_⟩
      have : cs[j] = .re (.slice none 0 0) := by rw [qcz, List.getD_eq_getElem?_getD, List.getElem?_eq_getElem hlt] at hq; exact hq
      rw [this] at hd
      simp only [den] at hd
      rw [hd.1]; exact qoy (by rw [qaj]; simp)
    · rw [qci, List.getElem?_set_ne (fun e => hj e.symm)] at hx'
      exact ⟨x', hx', fun _ h => h⟩)
  rw [List.set_append_left _ _ hk] at hR
  exact Wp.mono (h c kl hc N W0 _ rr a W ⟨hR, hE, hM⟩ (hr.le (qgm hm)) (by simp; omega)) fun _ _ _ q => q.le (qgm hm)
end
theorem s_qA {p : Prop} (h : p := by repeat' (first | exact trivial | exact SubB.rfl | exact Sub.rfl | refine And.intro ?_ ?_ | (exact SubB.c (by with_reducible assumption)) | refine SubB.c ?_ | exact SubB.r .rfl rfl rfl | exact SubB.r .rfl rfl (by assumption) | exact SubM.nil | refine SubM.cons ?_ ?_ ?_ | refine SubB.m ?_ | exact qev | exact SubL.nil | refine SubL.cons ?_ ?_ | exact qak rfl | refine qbs ?_ | refine qfe ?_ | exact qef rfl rfl | exact qck rfl rfl | exact qpq rfl | exact qvi rfl | exact qwm rfl | exact sub_b_ff rfl | (refine qak ?_; simp only [Z.v]; omega) | (refine qrn ?_; assumption) | (refine qpq ?_; assumption) | (refine qvi ?_; assumption))) : p := h
end Cz
namespace Cz
open Go Go.RowKit Go.Proofs
namespace Pa
open Tb
section
variable {S : Sy} {bl : List Blk} {K : SV → List Blk → Prop}
theorem field_g (hS : S0 Tryz.prog = S) {cs : List SV} {mx : Int} {l l' : List Tb.Fd} {a b : List UInt8} {L : List Int} {F R : List SV} {n m : Int} (hc : TabC [] cs mx l) (hR : rightL mx l = true) (hL : fieldB mx l (a, b) = L) (hl : fieldL mx l (a, b) = l') (hF : cellsB L = F) (hn : n = ilen L) (hRr : cellsF l' = R) (hm : m = ilen l')
    (hab : ilen a + ilen b ≤ 60000) (hK : K (.tp [.v false 1 F (.y n), .ag [.i .i64 (.y mx), .v false 2 R (.y m)], .i .i64 (.y 0)]) bl) : S.call 8 [.ag cs, .ag [.s a, .s b]] bl K := by
  refine qbd hS (field_f hR hL hl hF hn hRr hm hab) ?_ rfl hK
  match hc.sub with
  | .cons h _ => exact .cons h .rfl
end
theorem block_f {mx : Int} {l l' fs : List Tb.Fd} {L : List Int} {F R : List SV} {n m : Int} (hR : rightL mx l = true) (hL : blockB mx l fs = L) (hl : blockL mx l fs = l') (hF : cellsB L = F) (hn : n = ilen L) (hRr : cellsF l' = R) (hm : m = ilen l')
    (hfs : fullL fs ≤ 60000) :
    (S0 Tryz.prog).call 12 [tabV mx l, .v false 2 (cellsF fs) (.y (ilen fs))] [] (Tell (.tp [.v false 1 F (.y n), .ag [.i .i64 (.y mx), .v false 2 R (.y m)], .i .i64 (.y 0)])) := by
  have hl0 := qde hR
  have hR' := of_decide_eq_true hR
  unfold tabV
  generalize hG : cellsF l = G
  obtain ⟨k, hk⟩ : ∃ k, k = ilen l := ⟨_, rfl⟩
  generalize hH : cellsF fs = H
  obtain ⟨q, hq⟩ : ∃ k, k = ilen fs := ⟨_, rfl⟩
  have hres : resR (mx, l) mx = ((mx, l), 0) := by unfold resR; rw [if_pos ⟨hR, hR'.1, hR'.2.1⟩]; dsimp only; rw [qyi hR'.2.2]
  rw [← hk, ← hq]
  generalize hS : S0 Tryz.prog = S
  refine qab hS I.qmz ?_
  cbv
  refine res_g hS (.v (z := .y mx) (n := .y k) rfl hG hk) hres hG hk (by omega) ?_
  cbv
  repeat' (first
    | (refine qbi hS rfl ?_; try cbv)
    | (refine s_ck hS ?_; try cbv)
    | (refine qac hS ?_ ?_ <;> intro h <;> (try cbv) <;> try exact s_ab h)
    | (refine s_ad hS ?_; intro _ _; try cbv)
    | (refine s_sb hS ?_; intro _ _; try cbv)
    | (refine qan hS ?_; intro _ _; try cbv)
    | (refine qad hS ?_; try cbv)
    | (refine qab hS I.qva ?_; cbv)
    | (refine qkk hS I.qql ?_; cbv)
    | (refine qbg hS ?_; try cbv)
    | (refine s_lk hS ?_; try cbv)
    | (refine s_mu hS ?_; try cbv)
    | fail)
  refine qzabs hS 1 0 1 (by decide) rfl rfl ?_
  cbv
  refine qax hS 8 I.qjz (fun x : Int × Int × List SV × Int × List SV × Int => 0 ≤ x.1 ∧ x.1 ≤ q ∧ ∃ Lb lt, blockB mx l (fs.take x.1.toNat) = Lb ∧ blockL mx l (fs.take x.1.toNat) = lt ∧ cellsB Lb = x.2.2.1 ∧ x.2.2.2.1 = ilen Lb ∧ cellsF lt = x.2.2.2.2.1 ∧ x.2.2.2.2.2 = ilen lt)
    (fun x => [(9, .i .i64 (.y x.1))])
    (fun x => [(1, .c [.sl 7 1 (.l 0) (.y x.2.2.2.1) none]), (2, .c [.i .i64 (.y mx), .v false 2 x.2.2.2.2.1 (.y x.2.2.2.2.2)]), (3, .c [.i .i64 (.y mx), .v false 2 x.2.2.2.2.1 (.y x.2.2.2.2.2)]), (7, .r false false (.y x.2.1) 1 x.2.2.1)])
    (fun x => (q - x.1).toNat) (0, 0, [], 0, G, k) rfl
    ⟨⟨Int.le_refl _, by dsimp only; rw [hq]; exact qag _, [], l, rfl, rfl, rfl, rfl, hG, hk⟩, rfl, ?_, ?_, by cbv⟩ ?_
  · cbv; exact s_qA
  · cbv; exact s_qA
  intro x
  obtain ⟨i, st, B, bn, T, tn⟩ := x
  intro hx
  dsimp only at hx
  cbv
  obtain ⟨k0, k1, Lb, lt, f1, f2, f3, f4, f5, f6⟩ := hx
  refine qac hS ?_ ?_ <;> intro h <;> cbv
  · obtain ⟨⟨a, b⟩, hp⟩ := qka (l := fs) (i := i) (by omega) k0
    have hRt : rightL mx lt = true := f2 ▸ qek hR
    have hsz := qxt hp
    have hsz' : szF (a, b) = ilen a + ilen b + 32 := rfl
    have h0a := qag a
    have h0b := qag b
    obtain ⟨Lf, hLf⟩ : ∃ L, fieldB mx lt (a, b) = L := ⟨_, rfl⟩
    obtain ⟨lf, hlf⟩ : ∃ L, fieldL mx lt (a, b) = L := ⟨_, rfl⟩
    obtain ⟨Ff, hFf⟩ : ∃ F, cellsB Lf = F := ⟨_, rfl⟩
    obtain ⟨nf, hnf⟩ : ∃ n, n = ilen Lf := ⟨_, rfl⟩
    obtain ⟨Rf, hRf⟩ : ∃ F, cellsF lf = F := ⟨_, rfl⟩
    obtain ⟨mf, hmf⟩ : ∃ n, n = ilen lf := ⟨_, rfl⟩
    obtain ⟨nx1, nx2⟩ := qwi (mx := mx) (l := l) hp k0
    rw [f1, f2, hLf] at nx1
    rw [f2, hlf] at nx2
    have hfl := qtf mx lt (a, b)
    rw [hLf, ← hnf] at hfl
    have hbl := qim mx (fs.take i.toNat) l
    have hft := qdh fs i.toNat
    rw [f1, ← f4] at hbl
    have hnf0 : 0 ≤ nf := hnf ▸ qag _
    have hbn0 : 0 ≤ bn := f4 ▸ qag _
    have hfn := qby fs
    have hBl : ilen B = bn := by rw [← f3, qao, f4]
    repeat' (first
      | (refine qbi hS rfl ?_; try cbv)
      | (refine s_ck hS ?_; try cbv)
      | (refine qac hS ?_ ?_ <;> intro h <;> (try cbv) <;> try exact s_ab h)
      | (refine s_ad hS ?_; intro _ _; try cbv)
      | (refine s_sb hS ?_; intro _ _; try cbv)
      | (refine qan hS ?_; intro _ _; try cbv)
      | (refine qad hS ?_; try cbv)
      | (refine rowF hS hH hp k0 ?_; cbv)
      | (refine field_g hS (.v (z := .y mx) (n := .y tn) rfl f5 f6) hRt hLf hlf hFf hnf hRf hmf (by omega) ?_; cbv)
      | (refine qmc hS rfl rfl ?_; cbv)
      | (refine qal hS rfl I.qgz (by decide +kernel) ?_; cbv)
      | (refine qal hS rfl I.qqf (by decide +kernel) ?_; cbv)
      | (refine qbg hS ?_; try cbv)
      | (refine s_lk hS ?_; try cbv)
      | (refine s_mu hS ?_; try cbv)
      | fail)
    rename_i i2 hi2
    have e1 : S.app B Ff = cellsB (Lb ++ Lf) := qbr hS f3.symm hFf.symm
    have e2 : S.pl bn nf = ilen (Lb ++ Lf) := by rw [qba, ← f4, ← hnf]; subst hS; rfl
    refine ⟨(i2, S.flen B, S.app B Ff, S.pl bn nf, Rf, mf), by dsimp only; omega, ⟨by dsimp only; omega, by dsimp only; omega, Lb ++ Lf, lf, by dsimp only; rw [hi2]; exact nx1, by dsimp only; rw [hi2]; exact nx2, e1.symm, e2, hRf, hmf⟩, rfl, ?_, ?_, by cbv⟩
    · cbv; exact s_qA
    · cbv; exact s_qA
  · refine qal hS rfl I.qqe (by decide +kernel) ?_
    cbv
    have hft : fs.take i.toNat = fs := qca (by omega)
    rw [hft] at f1 f2
    have e1 : cellsB L = F := hF
    rw [← hL, f1] at e1 hn
    rw [← hl, f2] at hRr hm
    subst e1 hRr
    exact fun g => .tp (.cons (qrj (z := .y bn) rfl f3 f4 hn g) (.cons (.ag (.cons (.sub .rfl rfl) (.cons (.sub (qck f5.symm (f6.trans hm.symm)) rfl) .nil))) (.cons (.sub (qak rfl) rfl) .nil)))
section
variable {S : Sy} {bl : List Blk} {K : SV → List Blk → Prop}
theorem block_g (hS : S0 Tryz.prog = S) {cs : List SV} {x : SV} {mx : Int} {l l' fs : List Tb.Fd} {L : List Int} {F R : List SV} {n m : Int} (hc : TabC [] cs mx l) (hx : Sub x (.v false 2 (cellsF fs) (.y (ilen fs)))) (hR : rightL mx l = true) (hL : blockB mx l fs = L) (hl : blockL mx l fs = l') (hF : cellsB L = F) (hn : n = ilen L) (hRr : cellsF l' = R) (hm : m = ilen l')
    (hfs : fullL fs ≤ 60000) (hK : K (.tp [.v false 1 F (.y n), .ag [.i .i64 (.y mx), .v false 2 R (.y m)], .i .i64 (.y 0)]) bl) : S.call 12 [.ag cs, x] bl K := by
  refine qbd hS (block_f hR hL hl hF hn hRr hm hfs) ?_ rfl hK
  match hc.sub with
  | .cons h _ => exact .cons h (.cons hx .nil)
end
theorem sized_f {mx most : Int} {l l' fs : List Tb.Fd} {L : List Int} {F R : List SV} {n m : Int} (hR : rightL mx l = true) (h0 : 0 ≤ most) (h1 : most ≤ 4096) (hL : sizB most ++ blockB most (evL most l) fs = L) (hl : blockL most (evL most l) fs = l') (hF : cellsB L = F) (hn : n = ilen L) (hRr : cellsF l' = R) (hm : m = ilen l')
    (hfs : fullL fs ≤ 60000) :
    (S0 Tryz.prog).call 14 [tabV mx l, .i .i64 (.y most), .v false 2 (cellsF fs) (.y (ilen fs))] [] (Tell (.tp [.v false 1 F (.y n), .ag [.i .i64 (.y most), .v false 2 R (.y m)], .i .i64 (.y 0)])) := by
  have hl0 := qde hR
  have hR' := of_decide_eq_true hR
  unfold tabV
  generalize hG : cellsF l = G
  obtain ⟨k, hk⟩ : ∃ k, k = ilen l := ⟨_, rfl⟩
  obtain ⟨lr, hlr⟩ : ∃ r, evL most l = r := ⟨_, rfl⟩
  obtain ⟨rF, hrF⟩ : ∃ r, cellsF lr = r := ⟨_, rfl⟩
  obtain ⟨rn, hrn⟩ : ∃ r, r = ilen lr := ⟨_, rfl⟩
  have hres : resR (mx, l) most = ((most, lr), 0) := by unfold resR; rw [if_pos ⟨hR, h0, h1⟩, hlr]
  have hRr2 : rightL most lr = true := hlr ▸ qwx h0 h1
  rw [hlr] at hL hl
  obtain ⟨Lb, hLb⟩ : ∃ L, blockB most lr fs = L := ⟨_, rfl⟩
  obtain ⟨Fb, hFb⟩ : ∃ F, cellsB Lb = F := ⟨_, rfl⟩
  obtain ⟨nb, hnb⟩ : ∃ n, n = ilen Lb := ⟨_, rfl⟩
  have hbl := qim most fs lr
  rw [hLb] at hL
  rw [hLb, ← hnb] at hbl
  obtain ⟨Fz, hFz⟩ : ∃ F, cellsB (sizB most) = F := ⟨_, rfl⟩
  obtain ⟨nz, hnz⟩ : ∃ n, n = ilen (sizB most) := ⟨_, rfl⟩
  have hzl := qbx most 32 32
  have hzl2 : nz = ilen (putI most 32 32) := hnz
  have hFl : ilen Fz = nz := by rw [← hFz, qao, hnz]
  rw [← hzl2] at hzl
  generalize hH : cellsF fs = H
  obtain ⟨q, hq⟩ : ∃ k, k = ilen fs := ⟨_, rfl⟩
  rw [← hk, ← hq]
  generalize hS : S0 Tryz.prog = S
  refine qab hS I.qmx ?_
  cbv
  refine res_g hS (.v (z := .y mx) (n := .y k) rfl hG hk) hres hrF hrn (by omega) ?_
  cbv
  repeat' (first
    | (refine qbi hS rfl ?_; try cbv)
    | (refine s_ck hS ?_; try cbv)
    | (refine qac hS ?_ ?_ <;> intro h <;> (try cbv) <;> try exact s_ab h)
    | (refine s_ad hS ?_; intro _ _; try cbv)
    | (refine s_sb hS ?_; intro _ _; try cbv)
    | (refine qan hS ?_; intro _ _; try cbv)
    | (refine qad hS ?_; try cbv)
    | (refine own_u1 hS (siz_o h0 (by omega)) (.cons (qak rfl) .nil) rfl hFz hnz ?_; cbv)
    | (refine block_g hS (.v (z := .y most) (n := .y rn) rfl hrF hrn) (qck hH.symm hq) hRr2 hLb hl hFb hnb hRr hm hfs ?_; cbv)
    | (refine qal hS rfl I.qgy (by decide +kernel) ?_; cbv)
    | (refine qal hS rfl I.qqd (by decide +kernel) ?_; cbv)
    | (refine qbg hS ?_; try cbv)
    | (refine s_lk hS ?_; try cbv)
    | (refine s_mu hS ?_; try cbv)
    | fail)
  have e1 : S.app Fz Fb = cellsB L := by rw [qbr hS hFz.symm hFb.symm, hL]
  have e2 : S.pl nz nb = ilen L := by rw [← hL, qba, ← hnz, ← hnb]; subst hS; rfl
  subst hF
  exact fun g => .tp (.cons (qrj (z := .y (S.pl nz nb)) rfl e1.symm e2 hn g) (.cons (.sub .rfl rfl) (.cons (.sub (qak rfl) rfl) .nil)))
section
variable {S : Sy} {bl : List Blk} {K : SV → List Blk → Prop}
theorem sized_g (hS : S0 Tryz.prog = S) {cs : List SV} {x : SV} {zm : Z} {mx most : Int} {l l' fs : List Tb.Fd} {L : List Int} {F R : List SV} {n m : Int} (hc : TabC [] cs mx l) (hx : Sub x (.v false 2 (cellsF fs) (.y (ilen fs)))) (hz : zm.v = most) (hR : rightL mx l = true) (h0 : 0 ≤ most) (h1 : most ≤ 4096) (hL : sizB most ++ blockB most (evL most l) fs = L) (hl : blockL most (evL most l) fs = l') (hF : cellsB L = F) (hn : n = ilen L) (hRr : cellsF l' = R) (hm : m = ilen l')
    (hfs : fullL fs ≤ 60000) (hK : K (.tp [.v false 1 F (.y n), .ag [.i .i64 (.y most), .v false 2 R (.y m)], .i .i64 (.y 0)]) bl) : S.call 14 [.ag cs, .i .i64 zm, x] bl K := by
  refine qbd hS (sized_f hR h0 h1 hL hl hF hn hRr hm hfs) ?_ rfl hK
  match hc.sub with
  | .cons h _ => exact .cons h (.cons (qak hz) (.cons hx .nil))
end
def errP : SV := .tp [.v false 1 [] (.y 0), .ag [.i .i64 (.y 0), .v false 2 [] (.y 0)], .i .i64 (.y 2)]
theorem qwa {x : SV} {l' : List Blk} (h : Sub x (.tp [.re (.slice none 0 0), .ag [.i .i64 (.l 0), .re (.slice none 0 0)], .i .i64 (.l 2)]) ∨ Sub x (.tp [.re (.slice none 0 0), .ag [.i .i64 (.y 0), .v false 2 [] (.y 0)], .i .i64 (.l 2)])) (hr : refsB (fun _ => false) x = true) : Tell errP x l' := by
  refine fun g => .sub ?_ hr
  rcases h with h | h
  · exact h.trans (qbs (.cons (qvh (by decide) rfl rfl) (.cons (qfe (.cons (qak rfl) (.cons (qvh (by decide) rfl rfl) .nil))) (.cons (qak rfl) .nil))))
  · exact h.trans (qbs (.cons (qvh (by decide) rfl rfl) (.cons .rfl (.cons (qak rfl) .nil))))
theorem field_e {mx : Int} {l : List Tb.Fd} {a b : List UInt8} (hR : rightL mx l = false) (hb : fullL l ≤ 10000000) : (S0 Tryz.prog).call 8 [tabV mx l, .ag [.s a, .s b]] [] (Tell errP) := by
  unfold tabV
  generalize hG : cellsF l = G
  obtain ⟨k, hk⟩ : ∃ k, k = ilen l := ⟨_, rfl⟩
  have hres : resR (mx, l) mx = ((0, []), 2) := by unfold resR; rw [if_neg (by rw [hR]; simp)]
  rw [← hk]
  generalize hS : S0 Tryz.prog = S
  refine qab hS I.qmy ?_
  cbv
  refine res_g hS (.v (z := .y mx) (n := .y k) rfl hG hk) hres rfl rfl (by omega) ?_
  cbv
  repeat' (first
    | (refine qbi hS rfl ?_; try cbv)
    | (refine s_ck hS ?_; try cbv)
    | (refine qac hS ?_ ?_ <;> intro h <;> (try cbv) <;> try exact s_ab h)
    | (refine s_ad hS ?_; intro _ _; try cbv)
    | (refine s_sb hS ?_; intro _ _; try cbv)
    | (refine qan hS ?_; intro _ _; try cbv)
    | (refine qad hS ?_; try cbv)
    | (refine qal hS rfl I.qbb (by decide +kernel) ?_; cbv)
    | (refine qbg hS ?_; try cbv)
    | (refine s_lk hS ?_; try cbv)
    | (refine s_mu hS ?_; try cbv)
    | fail)
  exact qwa (.inr .rfl) rfl
theorem block_e {mx : Int} {l fs : List Tb.Fd} (hR : rightL mx l = false) (hb : fullL l ≤ 10000000) : (S0 Tryz.prog).call 12 [tabV mx l, .v false 2 (cellsF fs) (.y (ilen fs))] [] (Tell errP) := by
  unfold tabV
  generalize hG : cellsF l = G
  obtain ⟨k, hk⟩ : ∃ k, k = ilen l := ⟨_, rfl⟩
  have hres : resR (mx, l) mx = ((0, []), 2) := by unfold resR; rw [if_neg (by rw [hR]; simp)]
  rw [← hk]
  generalize hH : cellsF fs = H
  obtain ⟨q, hq⟩ : ∃ k, k = ilen fs := ⟨_, rfl⟩
  rw [← hq]
  generalize hS : S0 Tryz.prog = S
  refine qab hS I.qmz ?_
  cbv
  refine res_g hS (.v (z := .y mx) (n := .y k) rfl hG hk) hres rfl rfl (by omega) ?_
  cbv
  repeat' (first
    | (refine qbi hS rfl ?_; try cbv)
    | (refine s_ck hS ?_; try cbv)
    | (refine qac hS ?_ ?_ <;> intro h <;> (try cbv) <;> try exact s_ab h)
    | (refine s_ad hS ?_; intro _ _; try cbv)
    | (refine s_sb hS ?_; intro _ _; try cbv)
    | (refine qan hS ?_; intro _ _; try cbv)
    | (refine qad hS ?_; try cbv)
    | (refine qal hS rfl I.qgz (by decide +kernel) ?_; cbv)
    | (refine qbg hS ?_; try cbv)
    | (refine s_lk hS ?_; try cbv)
    | (refine s_mu hS ?_; try cbv)
    | fail)
  exact qwa (.inr .rfl) rfl
theorem sized_e {mx most : Int} {l fs : List Tb.Fd} (hR : rightL mx l = false ∨ most < 0 ∨ 4096 < most) (hb : fullL l ≤ 10000000) : (S0 Tryz.prog).call 14 [tabV mx l, .i .i64 (.y most), .v false 2 (cellsF fs) (.y (ilen fs))] [] (Tell errP) := by
  unfold tabV
  generalize hG : cellsF l = G
  obtain ⟨k, hk⟩ : ∃ k, k = ilen l := ⟨_, rfl⟩
  have hres : resR (mx, l) most = ((0, []), 2) := by
    unfold resR; rw [if_neg]
    rintro ⟨h1, h2, h3⟩
    rcases hR with h | h | h
    · rw [h] at h1; cases h1
    · omega
    · omega
  rw [← hk]
  generalize hH : cellsF fs = H
  obtain ⟨q, hq⟩ : ∃ k, k = ilen fs := ⟨_, rfl⟩
  rw [← hq]
  generalize hS : S0 Tryz.prog = S
  refine qab hS I.qmx ?_
  cbv
  refine res_g hS (.v (z := .y mx) (n := .y k) rfl hG hk) hres rfl rfl (by omega) ?_
  cbv
  repeat' (first
    | (refine qbi hS rfl ?_; try cbv)
    | (refine s_ck hS ?_; try cbv)
    | (refine qac hS ?_ ?_ <;> intro h <;> (try cbv) <;> try exact s_ab h)
    | (refine s_ad hS ?_; intro _ _; try cbv)
    | (refine s_sb hS ?_; intro _ _; try cbv)
    | (refine qan hS ?_; intro _ _; try cbv)
    | (refine qad hS ?_; try cbv)
    | (refine qal hS rfl I.qgy (by decide +kernel) ?_; cbv)
    | (refine qbg hS ?_; try cbv)
    | (refine s_lk hS ?_; try cbv)
    | (refine s_mu hS ?_; try cbv)
    | fail)
  exact qwa (.inr .rfl) rfl
end Pa
end Cz
namespace Cz
open Go Go.RowKit Go.Proofs
namespace Pa
open Tb
theorem full_bd : ∀ {fs : List Tb.Fd} {i : Nat} {a b : List UInt8}, fullL fs ≤ 5000 + 32 * ilen fs → fs[i]? = some (a, b) → ilen a + ilen b ≤ 5000
  | [], _, _, _, _, h => by simp at h
  | f :: fs, i, a, b, hfs, h => by
    have e : fullL (f :: fs) = szF f + fullL fs := rfl
    have e2 : szF f = ilen f.1 + ilen f.2 + 32 := rfl
    have h3 := qby fs
    rw [qsq] at hfs
    cases i with
    | zero =>
      simp only [List.getElem?_cons_zero, Option.some.injEq] at h
      subst h
      dsimp only at e2
      omega
    | succ i =>
      simp only [List.getElem?_cons_succ] at h
      have h0 := qag f.1
      have h1 := qag f.2
      exact full_bd (by omega) h
theorem zsec_f {a b : List UInt8} {t : Bool} (ht : decide (a = ckN) = t) : (S0 Tryz.prog).call 17 [.ag [.s a, .s b]] [] (fun y _ => Sub y (.b t)) := by
  generalize hS : S0 Tryz.prog = S
  refine qab hS I.qic ?_
  cbv
  repeat' (first
    | (refine qbi hS rfl ?_; try cbv)
    | (refine s_ck hS ?_; try cbv)
    | (refine qac hS ?_ ?_ <;> intro h <;> (try cbv) <;> try exact s_ab h)
    | (refine s_ad hS ?_; intro _ _; try cbv)
    | (refine s_sb hS ?_; intro _ _; try cbv)
    | (refine qan hS ?_; intro _ _; try cbv)
    | (refine qad hS ?_; try cbv)
    | (refine qbg hS ?_; try cbv)
    | (refine s_lk hS ?_; try cbv)
    | (refine s_mu hS ?_; try cbv)
    | fail)
  refine qrn ?_
  subst hS
  rw [← ht]
  show (a == ckN) = decide (a = ckN)
  by_cases h : a = ckN <;> simp [h]
section
variable {S : Sy} {bl : List Blk} {K : SV → List Blk → Prop}
theorem zsec_g (hS : S0 Tryz.prog = S) {a b : List UInt8} {t : Bool} (ht : decide (a = ckN) = t) (hK : K (.b t) bl) : S.call 17 [.ag [.s a, .s b]] bl K := qbc hS (zsec_f ht) .rfl rfl rfl hK
end
theorem zway_f {mx w : Int} {l : List Tb.Fd} {a b : List UInt8} (hw : wayP mx (a, b) = w) (ha : szF (a, b) ≤ 1000000) : (S0 Tryz.prog).call 43 [tabV mx l, .ag [.s a, .s b]] [] (fun y _ => Sub y (.i .i64 (.y w))) := by
  unfold tabV
  obtain ⟨sz, hsz⟩ : ∃ r, r = szF (a, b) := ⟨_, rfl⟩
  generalize cellsF l = G
  generalize ilen l = k
  unfold wayP at hw
  rw [← hsz] at hw
  generalize hS : S0 Tryz.prog = S
  refine qab hS I.qna ?_
  cbv
  by_cases hc : a = ckN
  · rw [if_pos hc] at hw
    repeat' (first
      | (refine qbi hS rfl ?_; try cbv)
      | (refine s_ck hS ?_; try cbv)
      | (refine qac hS ?_ ?_ <;> intro h <;> (try cbv) <;> try exact s_ab h)
      | (refine s_ad hS ?_; intro _ _; try cbv)
      | (refine s_sb hS ?_; intro _ _; try cbv)
      | (refine qan hS ?_; intro _ _; try cbv)
      | (refine qad hS ?_; try cbv)
      | (refine zsec_g hS (t := true) (decide_eq_true hc) ?_; cbv)
      | (refine qbg hS ?_; try cbv)
      | (refine s_lk hS ?_; try cbv)
      | (refine s_mu hS ?_; try cbv)
      | fail)
    (refine qak ?_; exact hw)
  · rw [if_neg hc] at hw
    by_cases h1 : sz ≤ mx
    · rw [if_pos h1] at hw
      repeat' (first
        | (refine qbi hS rfl ?_; try cbv)
        | (refine s_ck hS ?_; try cbv)
        | (refine qac hS ?_ ?_ <;> intro h <;> (try cbv) <;> try exact s_ab h)
        | (refine s_ad hS ?_; intro _ _; try cbv)
        | (refine s_sb hS ?_; intro _ _; try cbv)
        | (refine qan hS ?_; intro _ _; try cbv)
        | (refine qad hS ?_; try cbv)
        | (refine zsec_g hS (t := false) (decide_eq_false hc) ?_; cbv)
        | (refine rsize_g hS hsz (by omega) ?_; cbv)
        | (refine qal hS rfl I.qdq (by decide +kernel) ?_; cbv)
        | (refine qbg hS ?_; try cbv)
        | (refine s_lk hS ?_; try cbv)
        | (refine s_mu hS ?_; try cbv)
        | fail)
      (refine qak ?_; exact hw)
    · rw [if_neg h1] at hw
      repeat' (first
        | (refine qbi hS rfl ?_; try cbv)
        | (refine s_ck hS ?_; try cbv)
        | (refine qac hS ?_ ?_ <;> intro h <;> (try cbv) <;> try exact s_ab h)
        | (refine s_ad hS ?_; intro _ _; try cbv)
        | (refine s_sb hS ?_; intro _ _; try cbv)
        | (refine qan hS ?_; intro _ _; try cbv)
        | (refine qad hS ?_; try cbv)
        | (refine zsec_g hS (t := false) (decide_eq_false hc) ?_; cbv)
        | (refine rsize_g hS hsz (by omega) ?_; cbv)
        | (refine qal hS rfl I.qdq (by decide +kernel) ?_; cbv)
        | (refine qbg hS ?_; try cbv)
        | (refine s_lk hS ?_; try cbv)
        | (refine s_mu hS ?_; try cbv)
        | fail)
      (refine qak ?_; exact hw)
section
variable {S : Sy} {bl : List Blk} {K : SV → List Blk → Prop}
theorem zway_g (hS : S0 Tryz.prog = S) {mx w : Int} {cs : List SV} {l : List Tb.Fd} {a b : List UInt8} (hc : TabC [] cs mx l) (hw : wayP mx (a, b) = w) (ha : szF (a, b) ≤ 1000000) (hK : K (.i .i64 (.y w)) bl) : S.call 43 [.ag cs, .ag [.s a, .s b]] bl K := by
  refine qbc hS (zway_f (l := l) hw ha) ?_ rfl rfl hK
  match hc.sub with
  | .cons h _ => exact .cons h .rfl
end
theorem zfield_f {mx : Int} {l l' : List Tb.Fd} {a b : List UInt8} {L : List Int} {F R : List SV} {n m : Int} (hR : rightL mx l = true) (hL : fieldB mx l (a, b) = L) (hl : fieldL mx l (a, b) = l') (hF : cellsB L = F) (hn : n = ilen L) (hRr : cellsF l' = R) (hm : m = ilen l')
    (ha : ilen a ≤ 5000) (hb : ilen b ≤ 5000) :
    (S0 Tryz.prog).call 9 [tabV mx l, .ag [.s a, .s b]] [] (Tell (.tp [.v false 1 F (.y n), .ag [.i .i64 (.y mx), .v false 2 R (.y m)], .i .i64 (.y 0)])) := by
  have hl0 := qde hR
  have hR' := of_decide_eq_true hR
  have h0a := qag a
  have h0b := qag b
  unfold tabV
  generalize hG : cellsF l = G
  obtain ⟨k, hk⟩ : ∃ k, k = ilen l := ⟨_, rfl⟩
  have hsz' : szF (a, b) = ilen a + ilen b + 32 := rfl
  have hres : resR (mx, l) mx = ((mx, l), 0) := by unfold resR; rw [if_pos ⟨hR, hR'.1, hR'.2.1⟩]; dsimp only; rw [qyi hR'.2.2]
  have hadd : addR (mx, l) (a, b) = ((mx, evL mx ((a, b) :: l)), 0) := by unfold addR; rw [if_pos hR]
  have hrg := qye l (a, b)
  unfold fieldL addP at hl
  unfold fieldB ownB at hL
  obtain ⟨w, hw⟩ : ∃ w, wayP mx (a, b) = w := ⟨_, rfl⟩
  rw [hw] at hL hl
  obtain ⟨⟨fi, ft⟩, hfi⟩ : ∃ r, Tb.findR l (a, b) = r := ⟨_, rfl⟩
  rw [hfi] at hL hl hrg
  dsimp only at hL hl hrg
  rw [← hk]
  generalize hS : S0 Tryz.prog = S
  refine qab hS I.qdx ?_
  cbv
  refine qra hS (.v (z := .y mx) (n := .y k) rfl hG hk) hR (by omega) ?_
  cbv
  repeat' (first
    | (refine qbi hS rfl ?_; try cbv)
    | (refine s_ck hS ?_; try cbv)
    | (refine qac hS ?_ ?_ <;> intro h <;> (try cbv) <;> try exact s_ab h)
    | (refine s_ad hS ?_; intro _ _; try cbv)
    | (refine s_sb hS ?_; intro _ _; try cbv)
    | (refine qan hS ?_; intro _ _; try cbv)
    | (refine qad hS ?_; try cbv)
    | (refine qal hS rfl I.qaw (by decide +kernel) ?_; cbv)
    | (refine qal hS rfl I.qav (by decide +kernel) ?_; cbv)
    | (refine qbg hS ?_; try cbv)
    | (refine s_lk hS ?_; try cbv)
    | (refine s_mu hS ?_; try cbv)
    | fail)
  refine rfind_g hS (.v (z := .y mx) (n := .y k) rfl hG hk) hfi (by omega) ?_
  cbv
  cases ft with
  | true =>
    cbv
    simp only [if_true] at hL hl
    simp at hl
    subst hl hL
    repeat' (first
      | (refine qbi hS rfl ?_; try cbv)
      | (refine s_ck hS ?_; try cbv)
      | (refine qac hS ?_ ?_ <;> intro h <;> (try cbv) <;> try exact s_ab h)
      | (refine s_ad hS ?_; intro _ _; try cbv)
      | (refine s_sb hS ?_; intro _ _; try cbv)
      | (refine qan hS ?_; intro _ _; try cbv)
      | (refine qad hS ?_; try cbv)
      | (refine zidx_g hS (i := fi) rfl hrg.1 (by omega) hF hn ?_; cbv)
      | (refine qpt hS (.v (z := .y mx) (n := .y k) rfl hG hk) hres hRr hm (by omega) ?_; cbv)
      | (refine qal hS rfl I.qaw (by decide +kernel) ?_; cbv)
      | (refine qal hS rfl I.qav (by decide +kernel) ?_; cbv)
      | (refine qbg hS ?_; try cbv)
      | (refine s_lk hS ?_; try cbv)
      | (refine s_mu hS ?_; try cbv)
      | fail)
    exact fun g => .sub (qbs (.cons .rfl (.cons .rfl (.cons (qak rfl) .nil)))) rfl
  | false =>
    cbv
    rw [if_neg (by simp)] at hL
    obtain ⟨F0, hF0⟩ : ∃ B, cellsB (fldB (a, b) w) = B := ⟨_, rfl⟩
    obtain ⟨n0, hn0⟩ : ∃ n, n = ilen (fldB (a, b) w) := ⟨_, rfl⟩
    by_cases hp : 0 < fi
    · rw [if_pos hp] at hL
      subst hL
      by_cases hw1 : w = 1
      · simp only [hw1, and_self, decide_true, if_true] at hl
        subst hl
        repeat' (first
          | (refine qbi hS rfl ?_; try cbv)
          | (refine s_ck hS ?_; try cbv)
          | (refine qac hS ?_ ?_ <;> intro h <;> (try cbv) <;> try exact s_ab h)
          | (refine s_ad hS ?_; intro _ _; try cbv)
          | (refine s_sb hS ?_; intro _ _; try cbv)
          | (refine qan hS ?_; intro _ _; try cbv)
          | (refine qad hS ?_; try cbv)
          | (refine zway_g hS (.v (z := .y mx) (n := .y k) rfl hG hk) hw (by omega) ?_; cbv)
          | (refine zfl_g hS (w := w) rfl ha hb hF0 hn0 ?_; cbv)
          | (refine znm_g hS (i := fi) (w := w) rfl rfl hp (by omega) hb hF hn ?_; cbv)
          | (refine qpt hS (.v (z := .y mx) (n := .y k) rfl hG hk) hres hG hk (by omega) ?_; cbv)
          | (refine radd_g hS (.v (z := .y mx) (n := .y k) rfl hG hk) hadd hRr hm (by omega) (by omega) ?_; cbv)
          | (refine qal hS rfl I.qaw (by decide +kernel) ?_; cbv)
          | (refine qal hS rfl I.qav (by decide +kernel) ?_; cbv)
          | (refine qbg hS ?_; try cbv)
          | (refine s_lk hS ?_; try cbv)
          | (refine s_mu hS ?_; try cbv)
          | fail)
        exact fun g => .sub (qbs (.cons .rfl (.cons .rfl (.cons (qak rfl) .nil)))) rfl
      · simp only [hw1, and_false, decide_false, Bool.false_eq_true, if_false] at hl
        subst hl
        repeat' (first
          | (refine qbi hS rfl ?_; try cbv)
          | (refine s_ck hS ?_; try cbv)
          | (refine qac hS ?_ ?_ <;> intro h <;> (try cbv) <;> try exact s_ab h)
          | (refine s_ad hS ?_; intro _ _; try cbv)
          | (refine s_sb hS ?_; intro _ _; try cbv)
          | (refine qan hS ?_; intro _ _; try cbv)
          | (refine qad hS ?_; try cbv)
          | (refine zway_g hS (.v (z := .y mx) (n := .y k) rfl hG hk) hw (by omega) ?_; cbv)
          | (refine zfl_g hS (w := w) rfl ha hb hF0 hn0 ?_; cbv)
          | (refine znm_g hS (i := fi) (w := w) rfl rfl hp (by omega) hb hF hn ?_; cbv)
          | (refine qpt hS (.v (z := .y mx) (n := .y k) rfl hG hk) hres hRr hm (by omega) ?_; cbv)
          | (refine radd_g hS (.v (z := .y mx) (n := .y k) rfl hG hk) hadd hRr hm (by omega) (by omega) ?_; cbv)
          | (refine qal hS rfl I.qaw (by decide +kernel) ?_; cbv)
          | (refine qal hS rfl I.qav (by decide +kernel) ?_; cbv)
          | (refine qbg hS ?_; try cbv)
          | (refine s_lk hS ?_; try cbv)
          | (refine s_mu hS ?_; try cbv)
          | fail)
        exact fun g => .sub (qbs (.cons .rfl (.cons .rfl (.cons (qak rfl) .nil)))) rfl
    · rw [if_neg hp] at hL
      have hF1 : F0 = F := by rw [← hF0, ← hF, ← hL]
      have hn1 : n0 = n := by rw [hn0, hn, ← hL]
      by_cases hw1 : w = 1
      · simp only [hw1, and_self, decide_true, if_true] at hl
        subst hl
        repeat' (first
          | (refine qbi hS rfl ?_; try cbv)
          | (refine s_ck hS ?_; try cbv)
          | (refine qac hS ?_ ?_ <;> intro h <;> (try cbv) <;> try exact s_ab h)
          | (refine s_ad hS ?_; intro _ _; try cbv)
          | (refine s_sb hS ?_; intro _ _; try cbv)
          | (refine qan hS ?_; intro _ _; try cbv)
          | (refine qad hS ?_; try cbv)
          | (refine zway_g hS (.v (z := .y mx) (n := .y k) rfl hG hk) hw (by omega) ?_; cbv)
          | (refine zfl_g hS (w := w) rfl ha hb hF0 hn0 ?_; cbv)
          | (refine qpt hS (.v (z := .y mx) (n := .y k) rfl hG hk) hres hG hk (by omega) ?_; cbv)
          | (refine radd_g hS (.v (z := .y mx) (n := .y k) rfl hG hk) hadd hRr hm (by omega) (by omega) ?_; cbv)
          | (refine qal hS rfl I.qaw (by decide +kernel) ?_; cbv)
          | (refine qal hS rfl I.qav (by decide +kernel) ?_; cbv)
          | (refine qbg hS ?_; try cbv)
          | (refine s_lk hS ?_; try cbv)
          | (refine s_mu hS ?_; try cbv)
          | fail)
        exact fun g => .sub (qbs (.cons (qck hF1 hn1) (.cons .rfl (.cons (qak rfl) .nil)))) rfl
      · simp only [hw1, and_false, decide_false, Bool.false_eq_true, if_false] at hl
        subst hl
        repeat' (first
          | (refine qbi hS rfl ?_; try cbv)
          | (refine s_ck hS ?_; try cbv)
          | (refine qac hS ?_ ?_ <;> intro h <;> (try cbv) <;> try exact s_ab h)
          | (refine s_ad hS ?_; intro _ _; try cbv)
          | (refine s_sb hS ?_; intro _ _; try cbv)
          | (refine qan hS ?_; intro _ _; try cbv)
          | (refine qad hS ?_; try cbv)
          | (refine zway_g hS (.v (z := .y mx) (n := .y k) rfl hG hk) hw (by omega) ?_; cbv)
          | (refine zfl_g hS (w := w) rfl ha hb hF0 hn0 ?_; cbv)
          | (refine qpt hS (.v (z := .y mx) (n := .y k) rfl hG hk) hres hRr hm (by omega) ?_; cbv)
          | (refine radd_g hS (.v (z := .y mx) (n := .y k) rfl hG hk) hadd hRr hm (by omega) (by omega) ?_; cbv)
          | (refine qal hS rfl I.qaw (by decide +kernel) ?_; cbv)
          | (refine qal hS rfl I.qav (by decide +kernel) ?_; cbv)
          | (refine qbg hS ?_; try cbv)
          | (refine s_lk hS ?_; try cbv)
          | (refine s_mu hS ?_; try cbv)
          | fail)
        exact fun g => .sub (qbs (.cons (qck hF1 hn1) (.cons .rfl (.cons (qak rfl) .nil)))) rfl
section
variable {S : Sy} {bl : List Blk} {K : SV → List Blk → Prop}
theorem zfield_g (hS : S0 Tryz.prog = S) {cs : List SV} {mx : Int} {l l' : List Tb.Fd} {a b : List UInt8} {L : List Int} {F R : List SV} {n m : Int} (hc : TabC [] cs mx l) (hR : rightL mx l = true) (hL : fieldB mx l (a, b) = L) (hl : fieldL mx l (a, b) = l') (hF : cellsB L = F) (hn : n = ilen L) (hRr : cellsF l' = R) (hm : m = ilen l')
    (ha : ilen a ≤ 5000) (hb : ilen b ≤ 5000) (hK : K (.tp [.v false 1 F (.y n), .ag [.i .i64 (.y mx), .v false 2 R (.y m)], .i .i64 (.y 0)]) bl) : S.call 9 [.ag cs, .ag [.s a, .s b]] bl K := by
  refine qbd hS (zfield_f hR hL hl hF hn hRr hm ha hb) ?_ rfl hK
  match hc.sub with
  | .cons h _ => exact .cons h .rfl
end
theorem zfield_e {mx : Int} {l : List Tb.Fd} {a b : List UInt8} (hR : rightL mx l = false) (hb : fullL l ≤ 10000000) : (S0 Tryz.prog).call 9 [tabV mx l, .ag [.s a, .s b]] [] (Tell errP) := by
  unfold tabV
  generalize hG : cellsF l = G
  obtain ⟨k, hk⟩ : ∃ k, k = ilen l := ⟨_, rfl⟩
  rw [← hk]
  generalize hS : S0 Tryz.prog = S
  refine qab hS I.qdx ?_
  cbv
  refine qra hS (.v (z := .y mx) (n := .y k) rfl hG hk) hR (by omega) ?_
  cbv
  repeat' (first
    | (refine qbi hS rfl ?_; try cbv)
    | (refine s_ck hS ?_; try cbv)
    | (refine qac hS ?_ ?_ <;> intro h <;> (try cbv) <;> try exact s_ab h)
    | (refine s_ad hS ?_; intro _ _; try cbv)
    | (refine s_sb hS ?_; intro _ _; try cbv)
    | (refine qan hS ?_; intro _ _; try cbv)
    | (refine qad hS ?_; try cbv)
    | (refine qbg hS ?_; try cbv)
    | (refine s_lk hS ?_; try cbv)
    | (refine s_mu hS ?_; try cbv)
    | fail)
  exact qwa (.inl .rfl) rfl
theorem zblock_e {mx : Int} {l fs : List Tb.Fd} (hR : rightL mx l = false) (hb : fullL l ≤ 10000000) : (S0 Tryz.prog).call 13 [tabV mx l, .v false 2 (cellsF fs) (.y (ilen fs))] [] (Tell errP) := by
  unfold tabV
  generalize hG : cellsF l = G
  obtain ⟨k, hk⟩ : ∃ k, k = ilen l := ⟨_, rfl⟩
  rw [← hk]
  generalize cellsF fs = H
  generalize ilen fs = q
  generalize hS : S0 Tryz.prog = S
  refine qab hS I.qdy ?_
  cbv
  refine qra hS (.v (z := .y mx) (n := .y k) rfl hG hk) hR (by omega) ?_
  cbv
  repeat' (first
    | (refine qbi hS rfl ?_; try cbv)
    | (refine s_ck hS ?_; try cbv)
    | (refine qac hS ?_ ?_ <;> intro h <;> (try cbv) <;> try exact s_ab h)
    | (refine s_ad hS ?_; intro _ _; try cbv)
    | (refine s_sb hS ?_; intro _ _; try cbv)
    | (refine qan hS ?_; intro _ _; try cbv)
    | (refine qad hS ?_; try cbv)
    | (refine qbg hS ?_; try cbv)
    | (refine s_lk hS ?_; try cbv)
    | (refine s_mu hS ?_; try cbv)
    | fail)
  exact qwa (.inl .rfl) rfl
theorem zsized_e {mx most : Int} {l fs : List Tb.Fd} (hR : rightL mx l = false ∨ most < 0 ∨ 4096 < most) (hb : fullL l ≤ 10000000) : (S0 Tryz.prog).call 15 [tabV mx l, .i .i64 (.y most), .v false 2 (cellsF fs) (.y (ilen fs))] [] (Tell errP) := by
  unfold tabV
  generalize hG : cellsF l = G
  obtain ⟨k, hk⟩ : ∃ k, k = ilen l := ⟨_, rfl⟩
  have hres : resR (mx, l) most = ((0, []), 2) := by
    unfold resR; rw [if_neg]
    rintro ⟨h1, h2, h3⟩
    rcases hR with h | h | h
    · rw [h] at h1; cases h1
    · omega
    · omega
  rw [← hk]
  generalize cellsF fs = H
  generalize ilen fs = q
  generalize hS : S0 Tryz.prog = S
  refine qab hS I.qdw ?_
  cbv
  refine qpt hS (.v (z := .y mx) (n := .y k) rfl hG hk) hres rfl rfl (by omega) ?_
  cbv
  repeat' (first
    | (refine qbi hS rfl ?_; try cbv)
    | (refine s_ck hS ?_; try cbv)
    | (refine qac hS ?_ ?_ <;> intro h <;> (try cbv) <;> try exact s_ab h)
    | (refine s_ad hS ?_; intro _ _; try cbv)
    | (refine s_sb hS ?_; intro _ _; try cbv)
    | (refine qan hS ?_; intro _ _; try cbv)
    | (refine qad hS ?_; try cbv)
    | (refine qbg hS ?_; try cbv)
    | (refine s_lk hS ?_; try cbv)
    | (refine s_mu hS ?_; try cbv)
    | fail)
  exact qwa (.inl .rfl) rfl
theorem zblock_f {mx : Int} {l l' fs : List Tb.Fd} {L : List Int} {F R : List SV} {n m : Int} (hR : rightL mx l = true) (hL : blockB mx l fs = L) (hl : blockL mx l fs = l') (hF : cellsB L = F) (hn : n = ilen L) (hRr : cellsF l' = R) (hm : m = ilen l')
    (hfs : fullL fs ≤ 5000 + 32 * ilen fs) (h40 : ilen fs ≤ 40) :
    (S0 Tryz.prog).call 13 [tabV mx l, .v false 2 (cellsF fs) (.y (ilen fs))] [] (Tell (.tp [.v false 1 F (.y n), .ag [.i .i64 (.y mx), .v false 2 R (.y m)], .i .i64 (.y 0)])) := by
  have hl0 := qde hR
  have hR' := of_decide_eq_true hR
  unfold tabV
  generalize hG : cellsF l = G
  obtain ⟨k, hk⟩ : ∃ k, k = ilen l := ⟨_, rfl⟩
  generalize hH : cellsF fs = H
  obtain ⟨q, hq⟩ : ∃ k, k = ilen fs := ⟨_, rfl⟩
  have hres : resR (mx, l) mx = ((mx, l), 0) := by unfold resR; rw [if_pos ⟨hR, hR'.1, hR'.2.1⟩]; dsimp only; rw [qyi hR'.2.2]
  rw [← hk, ← hq]
  generalize hS : S0 Tryz.prog = S
  refine qab hS I.qdy ?_
  cbv
  refine qra hS (.v (z := .y mx) (n := .y k) rfl hG hk) hR (by omega) ?_
  cbv
  repeat' (first
    | (refine qbi hS rfl ?_; try cbv)
    | (refine s_ck hS ?_; try cbv)
    | (refine qac hS ?_ ?_ <;> intro h <;> (try cbv) <;> try exact s_ab h)
    | (refine s_ad hS ?_; intro _ _; try cbv)
    | (refine s_sb hS ?_; intro _ _; try cbv)
    | (refine qan hS ?_; intro _ _; try cbv)
    | (refine qad hS ?_; try cbv)
    | (refine qbg hS ?_; try cbv)
    | (refine s_lk hS ?_; try cbv)
    | (refine s_mu hS ?_; try cbv)
    | fail)
  refine qpt hS (.v (z := .y mx) (n := .y k) rfl hG hk) hres hG hk (by omega) ?_
  cbv
  repeat' (first
    | (refine qbi hS rfl ?_; try cbv)
    | (refine s_ck hS ?_; try cbv)
    | (refine qac hS ?_ ?_ <;> intro h <;> (try cbv) <;> try exact s_ab h)
    | (refine s_ad hS ?_; intro _ _; try cbv)
    | (refine s_sb hS ?_; intro _ _; try cbv)
    | (refine qan hS ?_; intro _ _; try cbv)
    | (refine qad hS ?_; try cbv)
    | (refine qbg hS ?_; try cbv)
    | (refine s_lk hS ?_; try cbv)
    | (refine s_mu hS ?_; try cbv)
    | fail)
  refine qoa hS 9 1 (by decide) rfl ?_
  cbv
  refine qax hS 4 I.qfr (fun x : Int × Int × List SV × Int × List SV × Int => 0 ≤ x.1 ∧ x.1 ≤ q ∧ ∃ Lb lt, blockB mx l (fs.take x.1.toNat) = Lb ∧ blockL mx l (fs.take x.1.toNat) = lt ∧ cellsB Lb = x.2.2.1 ∧ x.2.2.2.1 = ilen Lb ∧ cellsF lt = x.2.2.2.2.1 ∧ x.2.2.2.2.2 = ilen lt)
    (fun x => [(9, .sl 3 1 (.l 0) (.y x.2.2.2.1) none), (10, .i .i64 (.y x.1))])
    (fun x => [(2, .c [.i .i64 (.y mx), .v false 2 x.2.2.2.2.1 (.y x.2.2.2.2.2)]), (3, .r false false (.y x.2.1) 1 x.2.2.1)])
    (fun x => (q - x.1).toNat) (0, 0, [], 0, G, k) rfl
    ⟨⟨Int.le_refl _, by dsimp only; rw [hq]; exact qag _, [], l, rfl, rfl, rfl, rfl, hG, hk⟩, rfl, ?_, ?_, by cbv⟩ ?_
  · cbv; exact s_qA
  · cbv; exact s_qA
  intro x
  obtain ⟨i, st, B, bn, T, tn⟩ := x
  intro hx
  dsimp only at hx
  cbv
  obtain ⟨k0, k1, Lb, lt, f1, f2, f3, f4, f5, f6⟩ := hx
  refine qac hS ?_ ?_ <;> intro h <;> cbv
  · obtain ⟨⟨a, b⟩, hp⟩ := qka (l := fs) (i := i) (by omega) k0
    have hRt : rightL mx lt = true := f2 ▸ qek hR
    have hsz := qxt hp
    have hsz' : szF (a, b) = ilen a + ilen b + 32 := rfl
    have h0a := qag a
    have h0b := qag b
    have hbd := full_bd hfs hp
    obtain ⟨Lf, hLf⟩ : ∃ L, fieldB mx lt (a, b) = L := ⟨_, rfl⟩
    obtain ⟨lf, hlf⟩ : ∃ L, fieldL mx lt (a, b) = L := ⟨_, rfl⟩
    obtain ⟨Ff, hFf⟩ : ∃ F, cellsB Lf = F := ⟨_, rfl⟩
    obtain ⟨nf, hnf⟩ : ∃ n, n = ilen Lf := ⟨_, rfl⟩
    obtain ⟨Rf, hRf⟩ : ∃ F, cellsF lf = F := ⟨_, rfl⟩
    obtain ⟨mf, hmf⟩ : ∃ n, n = ilen lf := ⟨_, rfl⟩
    obtain ⟨nx1, nx2⟩ := qwi (mx := mx) (l := l) hp k0
    rw [f1, f2, hLf] at nx1
    rw [f2, hlf] at nx2
    have hfl := qtf mx lt (a, b)
    rw [hLf, ← hnf] at hfl
    have hbl := qim mx (fs.take i.toNat) l
    have hft := qdh fs i.toNat
    rw [f1, ← f4] at hbl
    have hnf0 : 0 ≤ nf := hnf ▸ qag _
    have hbn0 : 0 ≤ bn := f4 ▸ qag _
    have hfn := qby fs
    have hBl : ilen B = bn := by rw [← f3, qao, f4]
    repeat' (first
      | (refine qbi hS rfl ?_; try cbv)
      | (refine s_ck hS ?_; try cbv)
      | (refine qac hS ?_ ?_ <;> intro h <;> (try cbv) <;> try exact s_ab h)
      | (refine s_ad hS ?_; intro _ _; try cbv)
      | (refine s_sb hS ?_; intro _ _; try cbv)
      | (refine qan hS ?_; intro _ _; try cbv)
      | (refine qad hS ?_; try cbv)
      | (refine rowF hS hH hp k0 ?_; cbv)
      | (refine zfield_g hS (.v (z := .y mx) (n := .y tn) rfl f5 f6) hRt hLf hlf hFf hnf hRf hmf (by omega) (by omega) ?_; cbv)
      | (refine qzabt hS rfl I.qga (by decide +kernel) ?_; cbv; refine ⟨?_, ?_⟩ <;> cbv)
      | (refine qbg hS ?_; try cbv)
      | (refine s_lk hS ?_; try cbv)
      | (refine s_mu hS ?_; try cbv)
      | fail)
    all_goals
      rename_i i2 hi2
      have e1 : S.app B Ff = cellsB (Lb ++ Lf) := qbr hS f3.symm hFf.symm
      have e2 : S.pl bn nf = ilen (Lb ++ Lf) := by rw [qba, ← f4, ← hnf]; subst hS; rfl
      refine ⟨(i2, S.flen B, S.app B Ff, S.pl bn nf, Rf, mf), by dsimp only; omega, ⟨by dsimp only; omega, by dsimp only; omega, Lb ++ Lf, lf, by dsimp only; rw [hi2]; exact nx1, by dsimp only; rw [hi2]; exact nx2, e1.symm, e2, hRf, hmf⟩, rfl, ?_, ?_, by cbv⟩
      · cbv; exact s_qA
      · cbv; exact s_qA
  · refine qal hS rfl I.qgg (by decide +kernel) ?_
    cbv
    have hft : fs.take i.toNat = fs := qca (by omega)
    rw [hft] at f1 f2
    have e1 : cellsB L = F := hF
    rw [← hL, f1] at e1 hn
    rw [← hl, f2] at hRr hm
    subst e1 hRr
    exact fun g => .tp (.cons (qrj (z := .y bn) rfl f3 f4 hn g) (.cons (.ag (.cons (.sub .rfl rfl) (.cons (.sub (qck f5.symm (f6.trans hm.symm)) rfl) .nil))) (.cons (.sub (qak rfl) rfl) .nil)))
section
variable {S : Sy} {bl : List Blk} {K : SV → List Blk → Prop}
theorem zblock_g (hS : S0 Tryz.prog = S) {cs : List SV} {x : SV} {mx : Int} {l l' fs : List Tb.Fd} {L : List Int} {F R : List SV} {n m : Int} (hc : TabC [] cs mx l) (hx : Sub x (.v false 2 (cellsF fs) (.y (ilen fs)))) (hR : rightL mx l = true) (hL : blockB mx l fs = L) (hl : blockL mx l fs = l') (hF : cellsB L = F) (hn : n = ilen L) (hRr : cellsF l' = R) (hm : m = ilen l')
    (hfs : fullL fs ≤ 5000 + 32 * ilen fs) (h40 : ilen fs ≤ 40) (hK : K (.tp [.v false 1 F (.y n), .ag [.i .i64 (.y mx), .v false 2 R (.y m)], .i .i64 (.y 0)]) bl) : S.call 13 [.ag cs, x] bl K := by
  refine qbd hS (zblock_f hR hL hl hF hn hRr hm hfs h40) ?_ rfl hK
  match hc.sub with
  | .cons h _ => exact .cons h (.cons hx .nil)
end
theorem zsized_f {mx most : Int} {l l' fs : List Tb.Fd} {L : List Int} {F R : List SV} {n m : Int} (hR : rightL mx l = true) (h0 : 0 ≤ most) (h1 : most ≤ 4096) (hL : sizB most ++ blockB most (evL most l) fs = L) (hl : blockL most (evL most l) fs = l') (hF : cellsB L = F) (hn : n = ilen L) (hRr : cellsF l' = R) (hm : m = ilen l')
    (hfs : fullL fs ≤ 5000 + 32 * ilen fs) (h40 : ilen fs ≤ 40) :
    (S0 Tryz.prog).call 15 [tabV mx l, .i .i64 (.y most), .v false 2 (cellsF fs) (.y (ilen fs))] [] (Tell (.tp [.v false 1 F (.y n), .ag [.i .i64 (.y most), .v false 2 R (.y m)], .i .i64 (.y 0)])) := by
  have hl0 := qde hR
  have hR' := of_decide_eq_true hR
  unfold tabV
  generalize hG : cellsF l = G
  obtain ⟨k, hk⟩ : ∃ k, k = ilen l := ⟨_, rfl⟩
  obtain ⟨lr, hlr⟩ : ∃ r, evL most l = r := ⟨_, rfl⟩
  obtain ⟨rF, hrF⟩ : ∃ r, cellsF lr = r := ⟨_, rfl⟩
  obtain ⟨rn, hrn⟩ : ∃ r, r = ilen lr := ⟨_, rfl⟩
  have hres : resR (mx, l) most = ((most, lr), 0) := by unfold resR; rw [if_pos ⟨hR, h0, h1⟩, hlr]
  have hRr2 : rightL most lr = true := hlr ▸ qwx h0 h1
  rw [hlr] at hL hl
  obtain ⟨Lb, hLb⟩ : ∃ L, blockB most lr fs = L := ⟨_, rfl⟩
  obtain ⟨Fb, hFb⟩ : ∃ F, cellsB Lb = F := ⟨_, rfl⟩
  obtain ⟨nb, hnb⟩ : ∃ n, n = ilen Lb := ⟨_, rfl⟩
  have hbl := qim most fs lr
  rw [hLb] at hL
  rw [hLb, ← hnb] at hbl
  obtain ⟨Fz, hFz⟩ : ∃ F, cellsB (sizB most) = F := ⟨_, rfl⟩
  obtain ⟨nz, hnz⟩ : ∃ n, n = ilen (sizB most) := ⟨_, rfl⟩
  have hzl := qbx most 32 32
  have hzl2 : nz = ilen (putI most 32 32) := hnz
  have hFl : ilen Fz = nz := by rw [← hFz, qao, hnz]
  rw [← hzl2] at hzl
  generalize hH : cellsF fs = H
  obtain ⟨q, hq⟩ : ∃ k, k = ilen fs := ⟨_, rfl⟩
  rw [← hk, ← hq]
  generalize hS : S0 Tryz.prog = S
  refine qab hS I.qdw ?_
  cbv
  refine qpt hS (.v (z := .y mx) (n := .y k) rfl hG hk) hres hrF hrn (by omega) ?_
  cbv
  repeat' (first
    | (refine qbi hS rfl ?_; try cbv)
    | (refine s_ck hS ?_; try cbv)
    | (refine qac hS ?_ ?_ <;> intro h <;> (try cbv) <;> try exact s_ab h)
    | (refine s_ad hS ?_; intro _ _; try cbv)
    | (refine s_sb hS ?_; intro _ _; try cbv)
    | (refine qan hS ?_; intro _ _; try cbv)
    | (refine qad hS ?_; try cbv)
    | (refine own_u1 hS (zsiz_o h0 (by omega)) (.cons (qak rfl) .nil) rfl hFz hnz ?_; cbv)
    | (refine zblock_g hS (.v (z := .y most) (n := .y rn) rfl hrF hrn) (qck hH.symm hq) hRr2 hLb hl hFb hnb hRr hm hfs h40 ?_; cbv)
    | (refine qal hS rfl I.qgf (by decide +kernel) ?_; cbv)
    | (refine qbg hS ?_; try cbv)
    | (refine s_lk hS ?_; try cbv)
    | (refine s_mu hS ?_; try cbv)
    | fail)
  have e1 : S.app Fz Fb = cellsB L := by rw [qbr hS hFz.symm hFb.symm, hL]
  have e2 : S.pl nz nb = ilen L := by rw [← hL, qba, ← hnz, ← hnb]; subst hS; rfl
  subst hF
  exact fun g => .tp (.cons (qrj (z := .y (S.pl nz nb)) rfl e1.symm e2 hn g) (.cons (.sub .rfl rfl) (.cons (.sub (qak rfl) rfl) .nil)))
section
variable {S : Sy} {bl : List Blk} {K : SV → List Blk → Prop}
theorem zsized_g (hS : S0 Tryz.prog = S) {cs : List SV} {x : SV} {zm : Z} {mx most : Int} {l l' fs : List Tb.Fd} {L : List Int} {F R : List SV} {n m : Int} (hc : TabC [] cs mx l) (hx : Sub x (.v false 2 (cellsF fs) (.y (ilen fs)))) (hz : zm.v = most) (hR : rightL mx l = true) (h0 : 0 ≤ most) (h1 : most ≤ 4096) (hL : sizB most ++ blockB most (evL most l) fs = L) (hl : blockL most (evL most l) fs = l') (hF : cellsB L = F) (hn : n = ilen L) (hRr : cellsF l' = R) (hm : m = ilen l')
    (hfs : fullL fs ≤ 5000 + 32 * ilen fs) (h40 : ilen fs ≤ 40) (hK : K (.tp [.v false 1 F (.y n), .ag [.i .i64 (.y most), .v false 2 R (.y m)], .i .i64 (.y 0)]) bl) : S.call 15 [.ag cs, .i .i64 zm, x] bl K := by
  refine qbd hS (zsized_f hR h0 h1 hL hl hF hn hRr hm hfs h40) ?_ rfl hK
  match hc.sub with
  | .cons h _ => exact .cons h (.cons (qak hz) (.cons hx .nil))
end
end Pa
end Cz
namespace Cz
open Go Go.RowKit Go.Proofs
namespace Pa
open Tb
theorem strB_inj {a b : List Int} (ha : Hu.BOk a) (hb : Hu.BOk b) (h : strB a = strB b) : a = b := by rw [← byS_strB ha, ← byS_strB hb, h]
theorem rsm_f {a b : List Int} {t : Bool} (ha : Hu.BOk a) (hb : Hu.BOk b) (ht : decide (a = b) = t) : (S0 Tryz.prog).call 10 [.v false 1 (cellsB a) (.y (ilen a)), .v false 1 (cellsB b) (.y (ilen b))] [] (fun x _ => Sub x (.b t)) := by
  generalize hF : cellsB a = F
  generalize hG : cellsB b = G
  obtain ⟨m, hm⟩ : ∃ m, m = ilen a := ⟨_, rfl⟩
  obtain ⟨n, hn⟩ : ∃ n, n = ilen b := ⟨_, rfl⟩
  rw [← hm, ← hn]
  obtain ⟨x, hx⟩ : ∃ x, strB a = x := ⟨_, rfl⟩
  obtain ⟨y, hy⟩ : ∃ x, strB b = x := ⟨_, rfl⟩
  generalize hS : S0 Tryz.prog = S
  refine qab hS I.qlp ?_
  cbv
  repeat' (first
    | (refine qbi hS rfl ?_; try cbv)
    | (refine s_ck hS ?_; try cbv)
    | (refine qac hS ?_ ?_ <;> intro h <;> (try cbv) <;> try exact s_ab h)
    | (refine s_ad hS ?_; intro _ _; try cbv)
    | (refine s_sb hS ?_; intro _ _; try cbv)
    | (refine qan hS ?_; intro _ _; try cbv)
    | (refine qad hS ?_; try cbv)
    | (refine s_bsx hS ha hF hm hx ?_; cbv)
    | (refine s_bsx hS hb hG hn hy ?_; cbv)
    | (refine qbg hS ?_; try cbv)
    | (refine s_lk hS ?_; try cbv)
    | (refine s_mu hS ?_; try cbv)
    | fail)
  refine qrn ?_
  subst hS
  show (x == y) = t
  rw [← ht, ← hx, ← hy]
  by_cases h : a = b
  · simp [h]
  · have : strB a ≠ strB b := fun e => h (strB_inj ha hb e)
    simp [h, this]
section
variable {S : Sy} {bl : List Blk} {K : SV → List Blk → Prop}
theorem rsm_u (hS : S0 Tryz.prog = S) {x y : SV} {a b : List Int} (hc : FzL bl id [] [x, y] [.v false 1 (cellsB a) (.y (ilen a)), .v false 1 (cellsB b) (.y (ilen b))]) (ha : Hu.BOk a) (hb : Hu.BOk b) (h1 : a = b → K .tt bl) (h2 : a ≠ b → K .ff bl) : S.call 10 [x, y] bl K := by
  by_cases h : a = b
  · exact qcl hS (qcb (rsm_f ha hb (decide_eq_true h))) hc rfl rfl (h1 h)
  · exact qcl hS (qcb (rsm_f ha hb (decide_eq_false h))) hc rfl rfl (h2 h)
theorem rsm_t (hS : S0 Tryz.prog = S) {x y : SV} {a : List Int} (hc : FzL bl id [] [x, y] [.v false 1 (cellsB a) (.y (ilen a)), .v false 1 (cellsB a) (.y (ilen a))]) (ha : Hu.BOk a) (hK : K .tt bl) : S.call 10 [x, y] bl K :=
  rsm_u hS hc ha ha (fun _ => hK) (fun h => absurd rfl h)
inductive ByC (bl : List Blk) : SV → List Int → Prop where
  | v {n : Z} {lit : Bool} {F : List SV} {b : List Int} (hF : cellsB b = F) (hn : n.v = ilen b) : ByC bl (.v lit 1 F n) b
  | nil : ByC bl (.re (.slice none 0 0)) []
  | row {n st : Z} {k : Nat} {lit : Bool} {cap : Option Z} {F : List SV} {b : List Int} (hB : lget bl k = .r false lit st 1 F) (hF : FSub F (cellsB b)) (hn : n.v = ilen b) : ByC bl (.sl k 1 (.l 0) n cap) b
theorem ByC.fz {x : SV} {b : List Int} (h : ByC bl x b) {g : Nat → Nat} : Fz bl g [] x (.v false 1 (cellsB b) (.y (ilen b))) := by
  cases h with
  | v hF hn => exact .sub (qck hF.symm hn) rfl
  | nil => exact .nil (by decide) rfl
  | @row n st k lit cap F b hB hF hn =>
    refine .row (qap hB (by simp)) rfl (.fsub ?_ (qae _)) (qae _) hn
    rw [show (Z.l 0).v.toNat * 1 = 0 from rfl, List.drop_zero, List.take_of_length_le]
    · exact hF
    · have h1 := hF.1
      have h2 := qao b
      unfold ilen at *
      omega
theorem ByC.two {x y : SV} {a b : List Int} (h : ByC bl x a) (h' : ByC bl y b) {g : Nat → Nat} : FzL bl g [] [x, y] [.v false 1 (cellsB a) (.y (ilen a)), .v false 1 (cellsB b) (.y (ilen b))] := .cons h.fz (.cons h'.fz .nil)
end
section
variable {S : Sy} {bl : List Blk} {K : SV → List Blk → Prop}
theorem qly (hS : S0 Tryz.prog = S) (fs : List Nat) {g : FuncId} {args args' : List SV} {y y' : SV} (hF : (S0 Tryz.prog).call g args' [] (Tell y)) (ha : FzL bl id (others fs (len bl)) args args') (hr : refsBL (fun _ => false) args' = true) (hy : Sub y y') (hK : K y' (frzL fs 0 bl)) : S.call g args bl K := by
  subst hS
  exact qbf (use_frz rfl fs (rows := []) (y := fun _ => y) (qbf hF fun x l' h => ⟨x, .rfl, [], trivial, fun m => h _⟩) ha hr trivial (K := fun x l' => x = y ∧ l' = frzL fs 0 bl) (fun _ => ⟨rfl, rfl⟩)) fun x l' h => ⟨y', h.1 ▸ hy, h.2 ▸ hK⟩
variable {mx n m : Int} {l l' q : List Tb.Fd} {a b : List UInt8} {L : List Int} {F R : List SV} {args : List SV}
theorem pv_l (hF : cellsB L = F) (hn : ilen L = n) (hRr : cellsF l' = R) (hm : ilen l' = m) : Sub (.tp [.v false 1 (cellsB L) (.y (ilen L)), .ag [.i .i64 (.y mx), .v false 2 (cellsF l') (.y (ilen l'))], .i .i64 (.y 0)]) (.tp [.v true 1 F (.l n), .ag [.i .i64 (.l mx), .v true 2 R (.l m)], .i .i64 (.l 0)]) :=
  qbs (.cons (qck hF hn) (.cons (qfe (.cons (qak rfl) (.cons (qck hRr hm) .nil))) (.cons (qak rfl) .nil)))
theorem block_l (hS : S0 Tryz.prog = S) (fs : List Nat) (ha : FzL bl id (others fs (len bl)) args [tabV mx l, .v false 2 (cellsF q) (.y (ilen q))]) (hR : rightL mx l = true) (hL : blockB mx l q = L) (hl : blockL mx l q = l') (hF : cellsB L = F) (hn : ilen L = n) (hRr : cellsF l' = R) (hm : ilen l' = m)
    (hq : fullL q ≤ 60000) (hK : K (.tp [.v true 1 F (.l n), .ag [.i .i64 (.l mx), .v true 2 R (.l m)], .i .i64 (.l 0)]) (frzL fs 0 bl)) : S.call 12 args bl K :=
  qly hS fs (block_f hR hL hl rfl rfl rfl rfl hq) ha rfl (pv_l hF hn hRr hm) hK
theorem block_el (hS : S0 Tryz.prog = S) (fs : List Nat) (ha : FzL bl id (others fs (len bl)) args [tabV mx l, .v false 2 (cellsF q) (.y (ilen q))]) (hR : rightL mx l = false) (hb : fullL l ≤ 10000000) (hK : K (.tp [.v true 1 [] (.l 0), .ag [.i .i64 (.l 0), .v true 2 [] (.l 0)], .i .i64 (.l 2)]) (frzL fs 0 bl)) : S.call 12 args bl K :=
  qly hS fs (block_e hR hb) ha rfl (y' := .tp [.v true 1 [] (.l 0), .ag [.i .i64 (.l 0), .v true 2 [] (.l 0)], .i .i64 (.l 2)]) (qbs (.cons (qck rfl rfl) (.cons (qfe (.cons (qak rfl) (.cons (qck rfl rfl) .nil))) (.cons (qak rfl) .nil)))) hK
theorem field_l (hS : S0 Tryz.prog = S) (fs : List Nat) (ha : FzL bl id (others fs (len bl)) args [tabV mx l, .ag [.s a, .s b]]) (hR : rightL mx l = true) (hL : fieldB mx l (a, b) = L) (hl : fieldL mx l (a, b) = l') (hF : cellsB L = F) (hn : ilen L = n) (hRr : cellsF l' = R) (hm : ilen l' = m)
    (hab : ilen a + ilen b ≤ 60000) (hK : K (.tp [.v true 1 F (.l n), .ag [.i .i64 (.l mx), .v true 2 R (.l m)], .i .i64 (.l 0)]) (frzL fs 0 bl)) : S.call 8 args bl K :=
  qly hS fs (field_f hR hL hl rfl rfl rfl rfl hab) ha rfl (pv_l hF hn hRr hm) hK
theorem sized_l (hS : S0 Tryz.prog = S) (fs : List Nat) {most : Int} (ha : FzL bl id (others fs (len bl)) args [tabV mx l, .i .i64 (.y most), .v false 2 (cellsF q) (.y (ilen q))]) (hR : rightL mx l = true) (h0 : 0 ≤ most) (h1 : most ≤ 4096) (hL : sizB most ++ blockB most (evL most l) q = L) (hl : blockL most (evL most l) q = l') (hF : cellsB L = F) (hn : ilen L = n) (hRr : cellsF l' = R) (hm : ilen l' = m)
    (hq : fullL q ≤ 60000) (hK : K (.tp [.v true 1 F (.l n), .ag [.i .i64 (.l most), .v true 2 R (.l m)], .i .i64 (.l 0)]) (frzL fs 0 bl)) : S.call 14 args bl K :=
  qly hS fs (sized_f hR h0 h1 hL hl rfl rfl rfl rfl hq) ha rfl (pv_l hF hn hRr hm) hK
end
abbrev fget : Tb.Fd := ([58, 109, 101, 116, 104, 111, 100], [71, 69, 84])
theorem tab_fz {bl : List Blk} {g : Nat → Nat} {ks : List (Option Nat)} {z n : Z} {lit : Bool} {F : List SV} {mx : Int} {l : List Tb.Fd} (hz : z.v = mx) (hF : cellsF l = F) (hn : n.v = ilen l) : Fz bl g ks (.ag [.i .i64 z, .v lit 2 F n]) (tabV mx l) :=
  .ag (.cons (.sub (qak hz) rfl) (.cons (.sub (qck hF.symm hn) rfl) .nil))
theorem qzabo {bl : List Blk} {g : Nat → Nat} {ks : List (Option Nat)} {z : Z} {mx : Int} (hz : z.v = mx) : Fz bl g ks (.ag [.i .i64 z, .re (.slice none 0 0)]) (tabV mx []) :=
  .ag (.cons (.sub (qak hz) rfl) (.cons (.sub (qvh (by decide) rfl rfl) rfl) .nil))
theorem wakes_f : (S0 Tryz.prog).call 7 [] [] (fun y _ => Sub y .tt) := by
  generalize hS : S0 Tryz.prog = S
  refine qab hS I.qjx ?_
  cbv
  refine block_l hS [2] (mx := 100) (l := []) (q := [fget, fa, fa]) (L := [129, 64, 1, 97, 1, 49, 149]) (l' := [fa]) (.cons (qzabo rfl) (.cons (fz_row (qap rfl (by simp)) rfl rfl rfl rfl) .nil)) (by decide +kernel) (by decide +kernel) (by decide +kernel) rfl rfl rfl rfl (by decide +kernel) ?_
  cbv
  refine field_l hS [] (mx := 100) (l := []) (a := ckN) (b := [49]) (L := [29, 1, 49]) (l' := []) (.cons (qzabo rfl) (.cons (.sub .rfl rfl) .nil)) (by decide +kernel) (by decide +kernel) (by decide +kernel) rfl rfl rfl rfl (by decide +kernel) ?_
  cbv
  refine block_el hS [] (mx := -1) (l := []) (q := []) (.cons (qzabo rfl) (.cons (.nil (by decide) rfl) .nil)) (by decide +kernel) (by decide +kernel) ?_
  cbv
  refine sized_l hS [6] (mx := 100) (l := [fa]) (most := 0) (q := [fa]) (L := [32, 0, 1, 97, 1, 49]) (l' := []) (.cons (tab_fz rfl rfl rfl) (.cons (.sub (qak rfl) rfl) (.cons (fz_row (qap rfl (by simp)) rfl rfl rfl rfl) .nil))) (by decide +kernel) (by decide) (by decide) (by decide +kernel) (by decide +kernel) rfl rfl rfl rfl (by decide +kernel) ?_
  cbv
  refine rsm_t hS (a := [129, 64, 1, 97, 1, 49, 149]) (ByC.two (.v (b := [129, 64, 1, 97, 1, 49, 149]) rfl rfl) (.row (b := [129, 64, 1, 97, 1, 49, 149]) rfl ?_ rfl)) (by intro v hv; simp at hv; omega) ?_
  · exact SubL.fsub (by repeat' (first | exact SubL.nil | refine SubL.cons (qak rfl) ?_))
  cbv
  refine qwv hS (mx := 100) (l := [fa]) (.v rfl rfl rfl) (.row (l0 := [fa]) rfl rfl rfl rfl rfl) (by decide) ?_
  cbv
  refine rsm_t hS (a := [29, 1, 49]) (ByC.two (.v (b := [29, 1, 49]) rfl rfl) (.row (b := [29, 1, 49]) rfl ?_ rfl)) (by intro v hv; simp at hv; omega) ?_
  · exact SubL.fsub (by repeat' (first | exact SubL.nil | refine SubL.cons (qak rfl) ?_))
  cbv
  refine rsm_t hS (a := [32, 0, 1, 97, 1, 49]) (ByC.two (.v (b := [32, 0, 1, 97, 1, 49]) rfl rfl) (.row (b := [32, 0, 1, 97, 1, 49]) rfl ?_ rfl)) (by intro v hv; simp at hv; omega) ?_
  · exact SubL.fsub (by repeat' (first | exact SubL.nil | refine SubL.cons (qak rfl) ?_))
  cbv
  refine qbc hS (qcb (qws (a := ckN) (b := []) (decide_eq_true rfl))) .rfl rfl rfl ?_
  cbv
  refine qbc hS (qcb (qws (a := [97]) (b := [49]) (t := false) (by decide))) .rfl rfl rfl ?_
  cbv
  exact .rfl
theorem qzabh {S : Sy} {bl : List Blk} {K : SV → List Blk → Prop} (hS : S0 Tryz.prog = S) (hK : K .tt bl) : S.call 7 [] bl K := qbc hS wakes_f .rfl rfl rfl hK
theorem qss {mx : Int} {l q : List Tb.Fd} {t : Bool} (ht : decide ((140 < ilen l ∨ 5000 < fullL l - 32 * ilen l) ∨ (140 < ilen q ∨ 5000 < fullL q - 32 * ilen q) ∨ 40 < ilen q) = t) (hs : shortL l) (hm0 : ilen l ≤ 140737488355328) (hs2 : shortL q) (hm2 : ilen q ≤ 140737488355328) :
    (S0 Tryz.prog).call 5 [tabV mx l, .v false 2 (cellsF q) (.y (ilen q))] [] (fun y _ => Sub y (.b t)) := by
  unfold tabV
  generalize hF : cellsF l = F
  obtain ⟨m, hm⟩ : ∃ m, m = ilen l := ⟨_, rfl⟩
  generalize hG : cellsF q = G
  obtain ⟨n, hn⟩ : ∃ m, m = ilen q := ⟨_, rfl⟩
  rw [← hm, ← hn]
  generalize hS : S0 Tryz.prog = S
  refine qab hS I.qjy ?_
  cbv
  refine qzach hS (l := l) (.cons (.sub (qck hF.symm hm) rfl) .nil) hs hm0 (fun hg => ?_) (fun hg1 hg2 => ?_) <;> cbv
  · refine qpq ?_
    rw [← ht]; exact decide_eq_true (.inl hg)
  refine qzach hS (l := q) (.cons (.sub (qck hG.symm hn) rfl) .nil) hs2 hm2 (fun hg => ?_) (fun hg3 hg4 => ?_) <;> cbv
  · refine qpq ?_
    rw [← ht]; exact decide_eq_true (.inr (.inl hg))
  repeat' (first
    | (refine qbi hS rfl ?_; try cbv)
    | (refine s_ck hS ?_; try cbv)
    | (refine qac hS ?_ ?_ <;> intro h <;> (try cbv) <;> try exact s_ab h)
    | (refine s_ad hS ?_; intro _ _; try cbv)
    | (refine s_sb hS ?_; intro _ _; try cbv)
    | (refine qan hS ?_; intro _ _; try cbv)
    | (refine qad hS ?_; try cbv)
    | (refine qbg hS ?_; try cbv)
    | (refine s_lk hS ?_; try cbv)
    | (refine s_mu hS ?_; try cbv)
    | fail)
  refine qrn ?_
  subst hS
  show decide (40 < n) = t
  rw [← ht]
  exact decide_eq_decide.2 ⟨fun h => .inr (.inr (hn ▸ h)), fun h => by omega⟩
section
variable {S : Sy} {bl : List Blk} {K : SV → List Blk → Prop} {cs : List SV} {mx : Int} {l q : List Tb.Fd} {x : SV}
theorem pgreat_u (hS : S0 Tryz.prog = S) (hc : FzL bl id [] [.ag cs, x] [tabV mx l, .v false 2 (cellsF q) (.y (ilen q))]) (hs : shortL l) (hm0 : ilen l ≤ 140737488355328) (hs2 : shortL q) (hm2 : ilen q ≤ 140737488355328)
    (h1 : K .tt bl) (h2 : ilen l ≤ 140 → fullL l ≤ 5000 + 32 * ilen l → ilen q ≤ 40 → fullL q ≤ 5000 + 32 * ilen q → K .ff bl) : S.call 5 [.ag cs, x] bl K := by
  by_cases h : (140 < ilen l ∨ 5000 < fullL l - 32 * ilen l) ∨ (140 < ilen q ∨ 5000 < fullL q - 32 * ilen q) ∨ 40 < ilen q
  · exact qcl hS (qcb (qss (decide_eq_true h) hs hm0 hs2 hm2)) hc rfl rfl h1
  · exact qcl hS (qcb (qss (decide_eq_false h) hs hm0 hs2 hm2)) hc rfl rfl (h2 (by omega) (by omega) (by omega) (by omega))
end
end Pa
end Cz
namespace Cz
open Go Go.RowKit Go.Proofs
namespace Tb
theorem op_i {svs : List SV} (h : pkVs [.i .i64] svs) : ∃ n, svs = [.i .i64 (.y n)] ∧ -9223372036854775808 ≤ n ∧ n ≤ 9223372036854775807 := by
  obtain ⟨x, rfl, h'⟩ := pkVs_one h
  simp only [pkV] at h'
  obtain ⟨n, rfl, h1, h2⟩ := h'
  exact ⟨n, rfl, h1, h2⟩
theorem op_fd' {svs : List SV} (h : pkVs [.s, .s] svs) : ∃ f : Fd, svs = fdE f ∧ ilen f.1 ≤ 140737488355328 ∧ ilen f.2 ≤ 140737488355328 := by
  match svs, h with
  | [], h => simp [pkVs] at h
  | [_], h => simp [pkVs] at h
  | _ :: _ :: _ :: _, h => simp [pkVs] at h
  | [x, y], h =>
    simp only [pkVs, pkV] at h
    obtain ⟨⟨a, rfl, ha⟩, ⟨b, rfl, hb⟩, _⟩ := h
    exact ⟨(a, b), rfl, ha, hb⟩
theorem op_fd {svs : List SV} (h : pkVs [.s, .s] svs) : ∃ a b, svs = [.s a, .s b] ∧ shortL [(a, b)] := by
  obtain ⟨f, rfl, h1, h2⟩ := op_fd' h
  exact ⟨f.1, f.2, rfl, fun g hg => by rw [List.mem_singleton.1 hg]; exact ⟨h1, h2⟩⟩
theorem op_fds' {x : SV} (h : pkV (.sl [.s, .s]) x) : ∃ l : List Fd, x = .v false 2 (cellsF l) (.y (ilen l)) ∧ ilen l ≤ 140737488355328 ∧ shortL l := by
  obtain ⟨l, h1, h2, h3⟩ := pk_rows (ec := fdE) (good := fun f => ilen f.1 ≤ 140737488355328 ∧ ilen f.2 ≤ 140737488355328) (fun svs h => op_fd' h) h
  exact ⟨l, h1, h2, h3⟩
theorem op_fds {svs : List SV} (h : pkVs [.sl [.s, .s]] svs) : ∃ l : List Fd, svs = [.v false 2 (cellsF l) (.y (ilen l))] ∧ ilen l ≤ 140737488355328 ∧ shortL l := by
  obtain ⟨x, rfl, h'⟩ := pkVs_one h
  obtain ⟨l, rfl, h1, h2⟩ := op_fds' h'
  exact ⟨l, rfl, h1, h2⟩
theorem op_tab {svs : List SV} (h : pkVs [.i .i64, .sl [.s, .s]] svs) : ∃ mx l, svs = [.i .i64 (.y mx), .v false 2 (cellsF l) (.y (ilen l))] ∧ -9223372036854775808 ≤ mx ∧ mx ≤ 9223372036854775807 ∧ ilen l ≤ 140737488355328 ∧ shortL l := by
  match svs, h with
  | [], h => simp [pkVs] at h
  | [_], h => simp [pkVs] at h
  | _ :: _ :: _ :: _, h => simp [pkVs] at h
  | [x, y], h =>
    simp only [pkVs] at h
    obtain ⟨h1, h2, _⟩ := h
    simp only [pkV] at h1
    obtain ⟨n, rfl, h3, h4⟩ := h1
    obtain ⟨l, rfl, h5, h6⟩ := op_fds' h2
    exact ⟨n, l, rfl, h3, h4, h5, h6⟩
end Tb
end Cz
