/- Text, part F: numbers in septets, put. -/
import Derived.Test.YtjnpmipoenijdaaT1
namespace Cz
open Go Go.RowKit Go.Proofs
set_option linter.unusedSimpArgs false
set_option linter.unusedVariables false
set_option maxRecDepth 100000
set_option maxHeartbeats 4000000
theorem or128_all : ∀ n : Fin 256, IntKind.u8.wrap ((BitVec.ofInt 8 (n.val : Int) ||| BitVec.ofInt 8 128).toNat : Int) = ((n.val % 128 + 128 : Nat) : Int) := by decide +kernel
theorem s_or128 {S : Sy} {a : Int} {K : Int → Prop} (hS : S0 Try.prog = S) (h0 : 0 ≤ a) (h1 : a < 256) (h : ∀ r, r = a % 128 + 128 → K r) : S.ar .or .u8 a 128 K := by
  refine s_are hS _ rfl (h _ ?_)
  have := or128_all ⟨a.toNat, by omega⟩
  simp only [Int.toNat_of_nonneg h0] at this
  rw [show arS .or .u8 a 128 = IntKind.u8.wrap ((BitVec.ofInt 8 a ||| BitVec.ofInt 8 128).toNat : Int) from rfl, this]
  omega
theorem andn_nat (w m u : Nat) (hm : m ≤ w) (hu : u < 2 ^ w) : u &&& (2 ^ w - 1 - (2 ^ m - 1)) = u - u % 2 ^ m := by
  have hp : 2 ^ m ≤ 2 ^ w := Nat.pow_le_pow_right (by omega) hm
  apply Nat.eq_of_testBit_eq
  intro i
  have e1 : 2 ^ w - 1 - (2 ^ m - 1) = 2 ^ m * (2 ^ (w - m) - 1) := by
    rw [Nat.mul_sub, ← Nat.pow_add, show m + (w - m) = w by omega]
    have := Nat.two_pow_pos m
    omega
  have e2 : u - u % 2 ^ m = 2 ^ m * (u / 2 ^ m) := by have := Nat.div_add_mod u (2 ^ m); omega
  rw [e1, e2, Nat.testBit_and, Nat.testBit_two_pow_mul, Nat.testBit_two_pow_mul, Nat.testBit_two_pow_sub_one]
  by_cases h : m ≤ i
  · simp only [h, decide_true, Bool.true_and]
    rw [Nat.testBit_div_two_pow, show i - m + m = i by omega]
    by_cases h2 : i - m < w - m
    · simp [h2]
    · have : u.testBit i = false := Nat.testBit_lt_two_pow (Nat.lt_of_lt_of_le hu (Nat.pow_le_pow_right (by omega) (by omega)))
      simp [this]
  · simp [h]
/-- The septets of a number. -/
def sept : Nat → Int → List Int
  | 0, _ => []
  | f + 1, q => if q < 128 then [q] else (q % 128 + 128) :: sept f (q / 128)
/-- A number by so many bits, put; p: 2 to these. -/
def putI (n p up : Int) : List Int := if n < p - 1 then [up - up % p + n] else (up - up % p + (p - 1)) :: sept 5 (n - (p - 1))
theorem s_andn {S : Sy} {a b p : Int} {m : Nat} {K : Int → Prop} (hS : S0 Try.prog = S) (hp : (2 : Int) ^ m = p) (hm : m ≤ 8) (hb : b = p - 1) (h0 : 0 ≤ a) (h1 : a < 256) (h : ∀ r, r = a - a % p → K r) : S.ar .andn .u8 a b K := by
  subst hp hb
  refine s_are hS _ ?_ (h _ rfl)
  show IntKind.u8.wrap ((BitVec.ofInt 8 a &&& ~~~ BitVec.ofInt 8 ((2 : Int) ^ m - 1)).toNat : Int) = _
  have hle := pow_le (m := m) (n := 8) hm
  have hpos := pow_pos' m
  have e1 : ((2 : Int) ^ m - 1).toNat = 2 ^ m - 1 := by have := pow_cast m; omega
  rw [BitVec.toNat_and, BitVec.toNat_not, toNat_ofInt', toNat_ofInt', Int.emod_eq_of_lt h0 (by omega), Int.emod_eq_of_lt (a := (2 : Int) ^ m - 1) (by omega) (by omega), e1, andn_nat 8 m _ hm (by omega)]
  have h2 := Int.emod_nonneg a (b := (2 : Int) ^ m) (by omega)
  have h3 : ((a.toNat - a.toNat % 2 ^ m : Nat) : Int) = a - a % 2 ^ m := by
    have h4 := Nat.mod_le a.toNat (2 ^ m)
    have h5 : ((a.toNat % 2 ^ m : Nat) : Int) = a % 2 ^ m := by rw [Int.natCast_emod, Int.toNat_of_nonneg h0, pow_cast]
    omega
  rw [h3]
  have h6 : a % 2 ^ m ≤ a := by
    have := Int.mul_ediv_add_emod a (2 ^ m)
    have h7 : 0 ≤ (2 : Int) ^ m * (a / 2 ^ m) := Int.mul_nonneg (by omega) (Int.ediv_nonneg h0 (by omega))
    omega
  exact wrap_id (by simp only [lo]; omega) (by simp only [Cz.hi]; omega)
def septOk (f : Nat) (q : Int) : Prop := 1 ≤ f ∧ 0 ≤ q ∧ q < 128 ^ f
theorem sept_end {f : Nat} {q : Int} (h : septOk f q) (h1 : q < 128) : sept f q = [q] := by
  obtain ⟨f', rfl⟩ : ∃ f', f = f' + 1 := ⟨f - 1, by have := h.1; omega⟩
  rw [sept, if_pos h1]
theorem sept_step {f : Nat} {q : Int} (h : septOk f q) (h1 : ¬q < 128) : sept f q = (q % 128 + 128) :: sept (f - 1) (q / 128) ∧ septOk (f - 1) (q / 128) ∧ 2 ≤ f := by
  obtain ⟨h2, h3, h4⟩ := h
  have hf : 2 ≤ f := by
    rcases Nat.lt_or_ge f 2 with h5 | h5
    · have : f = 1 := by omega
      subst this
      simp at h4; omega
    · exact h5
  obtain ⟨f', rfl⟩ : ∃ f', f = f' + 1 := ⟨f - 1, by omega⟩
  simp only [Nat.add_sub_cancel]
  refine ⟨by rw [sept, if_neg h1], ⟨by omega, by omega, ?_⟩, hf⟩
  rw [Int.pow_succ] at h4
  exact Int.ediv_lt_of_lt_mul (by decide) h4
theorem pput_f {n k up p : Int} (hn0 : 0 ≤ n) (hn1 : n < 2147483648) (hk1 : 1 ≤ k) (hk8 : k ≤ 8) (hp : 2 ^ k.toNat = p) (hu0 : 0 ≤ up) (hu1 : up < 256) :
    (S0 Try.prog).call 67 [.i .i64 (.y n), .i .i64 (.y k), .i .u8 (.y up)] [] (OwnR 0 1 (cellsB (putI n p up)) true [.i .i64 (.y 0)]) := by
  have hp0 : 2 ≤ p := by have := pow_le (m := 1) (n := k.toNat) (by omega); rw [hp] at this; omega
  have hp1 : p ≤ 256 := by have := pow_le (m := k.toNat) (n := 8) (by omega); rw [hp] at this; omega
  obtain ⟨w, hw⟩ : ∃ w, w = up % p := ⟨_, rfl⟩
  have hwb : 0 ≤ w ∧ w < p := by rw [hw]; exact ⟨Int.emod_nonneg _ (by omega), Int.emod_lt_of_pos _ (by omega)⟩
  have hw2 : w ≤ up := by
    rw [hw]
    have := Int.mul_ediv_add_emod up p
    have h7 : 0 ≤ p * (up / p) := Int.mul_nonneg (by omega) (Int.ediv_nonneg hu0 (by omega))
    omega
  obtain ⟨fi, hfi⟩ : ∃ fi, fi = up - w := ⟨_, rfl⟩
  have hfp : fi % p = 0 := by
    rw [hfi, hw]
    have := Int.mul_ediv_add_emod up p
    rw [show up - up % p = p * (up / p) by omega]
    exact Int.mul_emod_right _ _
  have hfb : fi + p ≤ 256 := by
    have h8 : ∃ c : Int, 256 = p * c := by
      refine ⟨2 ^ (8 - k.toNat), ?_⟩
      rw [← hp, ← Int.pow_add, show k.toNat + (8 - k.toNat) = 8 by omega]; rfl
    obtain ⟨c, hc⟩ := h8
    have h9 : fi = p * (up / p) := by
      have := Int.mul_ediv_add_emod up p
      omega
    have h10 : up / p < c := by
      rw [Int.ediv_lt_iff_lt_mul (by omega), Int.mul_comm]
      omega
    have h11 : p * (up / p + 1) ≤ p * c := Int.mul_le_mul_of_nonneg_left (by omega) (by omega)
    rw [Int.mul_add] at h11
    omega
  have hput : putI n p up = if n < p - 1 then [fi + n] else (fi + (p - 1)) :: sept 5 (n - (p - 1)) := by unfold putI; rw [← hw, ← hfi]
  generalize hL : putI n p up = L at hput
  generalize hP : cellsB L = P
  generalize hS : S0 Try.prog = S
  refine call_in' hS I.fn_prefix_Put ?_
  cbv
  repeat' (first
    | (refine s_st hS ?_; try cbv)
    | (refine s_sbr hS ?_ ?_ <;> intro h <;> (try cbv) <;> try exact s_ab h)
    | (refine s_sta hS ?_; intro _ _; try cbv)
    | (refine s_stc hS ?_; try cbv)
    | (refine call_in' hS I.fn_prefix_right ?_; cbv)
    | (refine s_shrl hS (c := 2147483648) rfl ?_; intro _ _; cbv)
    | (refine s_shll hS (c := p) (by rw [← hp]; congr 1; simp only [IntKind.bits]; omega) ?_ (by simp only [lo]; omega) (by simp only [hi]; omega); intro _ _; cbv)
    | (refine s_andn hS hp (by omega) (by omega) hu0 hu1 ?_; intro _ _; cbv))
  · rename_i m1 hm1 m0 hm0 f1 hf1
    obtain rfl : f1 = fi := by omega
    refine s_orl hS hp (by omega) hfp (by omega) (by omega) (by simp only [hi]; omega) fun r hr => ?_
    cbv
    rw [if_pos (by omega)] at hput
    refine ⟨_, sub_tp (.cons .rfl (.cons (sub_i rfl) .nil)), rowIs_val (L := L) ?_ hP (Nat.zero_le _) ?_ rfl⟩
    · rw [hput, ← hr]; rfl
    · rw [hput]; rfl
  · rename_i m1 hm1 m0 hm0 f1 hf1
    obtain rfl : f1 = fi := by omega
    refine s_orl hS hp (by omega) hfp (by omega) (by omega) (by simp only [hi]; omega) fun r hr => ?_
    cbv
    rw [if_neg (by omega)] at hput
    repeat' (first
      | (refine s_st hS ?_; try cbv)
      | (refine s_sbr hS ?_ ?_ <;> intro h <;> (try cbv) <;> try exact s_ab h)
      | (refine s_sta hS ?_; intro _ _; try cbv)
      | (refine s_stc hS ?_; try cbv)
      | (refine call_in' hS I.fn_prefix_septets ?_; cbv)
      | (refine rfc_in' hS I.fn_prefix_septets_1 ?_; cbv))
    rename_i q0 hq0
    have hok0 : septOk 5 q0 := ⟨by decide, by omega, by show q0 < 34359738368; omega⟩
    have hL0 : L = [r] ++ sept 5 q0 := by rw [hput, hr, hq0, show m0 = p - 1 by omega]; rfl
    clear hput
    refine s_loop_up hS 6 I.dead_prefix_septets_1_0 (fun x : Nat × Int × Int × Int × List Int × List SV => septOk x.1 x.2.1 ∧ 0 ≤ x.2.1 ∧ x.2.1 < 2147483648 ∧ L = x.2.2.2.2.1 ++ sept x.1 x.2.1 ∧ x.2.2.1 = ilen x.2.2.2.2.1 ∧ x.2.2.1 + x.1 ≤ 6 ∧ x.2.2.2.2.2 = cellsB x.2.2.2.2.1)
      (fun _ => []) (fun x => [(0, .c [.sl 2 1 (.l 0) (.y x.2.2.1) none]), (2, .r false false (.y x.2.2.2.1) 1 x.2.2.2.2.2), (3, .c [.i .u32 (.y x.2.1)])])
      (fun x => x.1) (5, q0, 1, 0, [r], [.i .u8 (.y r)]) rfl ⟨⟨hok0, by dsimp only; omega, by dsimp only; omega, hL0, rfl, by show (1 : Int) + ((5 : Nat) : Int) ≤ 6; decide, rfl⟩, rfl, ?_, ?_, ?_⟩ ?_
    · cbv; all_goals exact s_sA
    · cbv
      refine ⟨.c (.cons (sub_sl rfl rfl) .nil), .rfl, .r .rfl rfl rfl, .rfl, .rfl, .rfl, trivial⟩
    · cbv
    · intro x
      obtain ⟨f, q, ln, st, B, G⟩ := x
      intro hx
      dsimp only at hx
      cbv
      obtain ⟨g0, g1, g2, g3, g4, g5, g6⟩ := hx
      have hG : ilen G = ln := by rw [g6, cellsB_len, g4]
      have hl0 := ilen_nn B
      have hln : ln ≤ 6 := by have : ln + (f : Int) ≤ 6 := g5; omega
      refine s_shrl hS (c := 128) rfl fun q1 hq1 => ?_
      cbv
      refine s_sbr hS ?_ ?_ <;> intro h <;> cbv
      · obtain ⟨k1, k2, k3⟩ := sept_step g0 (by omega)
        refine s_cv8 hS fun y hy => ?_
        cbv
        refine s_or128 hS (by omega) (by omega) fun y2 hy2 => ?_
        cbv
        refine s_yld hS rfl rfl ?_
        cbv
        refine s_flen hS (by rw [hG]; omega) ?_
        cbv
        repeat' (first
          | (refine s_st hS ?_; try cbv)
          | (refine s_sbr hS ?_ ?_ <;> intro h <;> (try cbv) <;> try exact s_ab h)
          | (refine s_sta hS ?_; intro _ _; try cbv)
          | (refine s_stc hS ?_; try cbv)
          | (refine s_shrl hS (c := 128) rfl ?_; intro _ _; cbv))
        rename_i ln2' q2 hq2
        obtain ⟨ln2, h_ln2⟩ : ∃ ln2, ln2 = ln + 1 := ⟨_, rfl⟩
        obtain ⟨st2, h_st2⟩ : ∃ st2, st2 = S.flen G := ⟨_, rfl⟩
        obtain ⟨G2, h_G2⟩ : ∃ G2, G2 = cellsB (B ++ [y2]) := ⟨_, rfl⟩
        have g5' : ln + (f : Int) ≤ 6 := g5
        have k3' : 2 ≤ f := k3
        have k4 : f - 1 < f := by omega
        have k5 : ln2 + ((f - 1 : Nat) : Int) ≤ 6 := by rw [h_ln2]; omega
        have k6 : 0 ≤ q2 ∧ q2 < 2147483648 := by omega
        refine ⟨(f - 1, q2, ln2, st2, B ++ [y2], G2), k4, ⟨by dsimp only; rw [hq2]; exact k2, k6.1, k6.2, ?_, ?_, k5, h_G2⟩, rfl, ?_, ?_, ?_⟩
        · dsimp only; rw [g3, k1, hq2, show q % 128 + 128 = y2 by omega]; simp
        · dsimp only; rw [h_ln2, g4, ilen_snoc]
        · cbv; all_goals exact s_sA
        · cbv
          refine ⟨.c (.cons (sub_sl rfl (by simp only [Z.v, ← hS, Int.ofNat_eq_natCast, cq, Bool.not_eq_true', Bool.not_eq_false', decide_eq_true_eq, decide_eq_false_iff_not, beq_iff_eq, beq_eq_false_iff_ne, ne_eq]; omega)) .nil), .rfl, subB_app hS g6.symm h_G2.symm rfl h_st2.symm, .rfl, .rfl, .rfl, trivial⟩
        · cbv
      · have k1 := sept_end g0 (by omega)
        refine s_cv8 hS fun y hy => ?_
        cbv
        refine s_yld hS rfl rfl ?_
        cbv
        refine s_flen hS (by rw [hG]; omega) ?_
        cbv
        repeat' (first
          | (refine s_st hS ?_; try cbv)
          | (refine s_sbr hS ?_ ?_ <;> intro h <;> (try cbv) <;> try exact s_ab h)
          | (refine s_sta hS ?_; intro _ _; try cbv)
          | (refine s_stc hS ?_; try cbv))
        refine ⟨_, sub_tp (.cons .rfl (.cons (sub_i rfl) .nil)), rowIs_app hS g6.symm hP (show L = B ++ [y] by rw [g3, k1, show y = q by omega]) (Nat.zero_le _) (by simp only [Z.v, ← hS, Int.ofNat_eq_natCast, cq, Bool.not_eq_true', Bool.not_eq_false', decide_eq_true_eq, decide_eq_false_iff_not, beq_iff_eq, beq_eq_false_iff_ne, ne_eq]; omega) rfl⟩
end Cz
/- Text, part G: numbers in septets, put by the document. -/
namespace Cz
open Go Go.RowKit Go.Proofs
set_option linter.unusedSimpArgs false
set_option linter.unusedVariables false
set_option maxRecDepth 100000
set_option maxHeartbeats 4000000
theorem up_pre {k up p : Int} (hk1 : 1 ≤ k) (hk8 : k ≤ 8) (hp : 2 ^ k.toNat = p) (hu0 : 0 ≤ up) (hu1 : up < 256) :
    ∃ fi, fi = up - up % p ∧ up / p * p = fi ∧ 2 ≤ p ∧ p ≤ 256 ∧ 0 ≤ fi ∧ fi ≤ up ∧ fi + p ≤ 256 ∧ 0 ≤ up / p ∧ up / p ≤ 128 := by
  have hp0 : 2 ≤ p := by have := pow_le (m := 1) (n := k.toNat) (by omega); rw [hp] at this; omega
  have hp1 : p ≤ 256 := by have := pow_le (m := k.toNat) (n := 8) (by omega); rw [hp] at this; omega
  have h9 := Int.mul_ediv_add_emod up p
  have h7 : 0 ≤ p * (up / p) := Int.mul_nonneg (by omega) (Int.ediv_nonneg hu0 (by omega))
  have h6 : 0 ≤ up / p := Int.ediv_nonneg hu0 (by omega)
  have hm := Int.emod_nonneg up (show p ≠ 0 by omega)
  have h8 : ∃ c : Int, 256 = p * c := by
    refine ⟨2 ^ (8 - k.toNat), ?_⟩
    rw [← hp, ← Int.pow_add, show k.toNat + (8 - k.toNat) = 8 by omega]; rfl
  obtain ⟨c, hc⟩ := h8
  have h10 : up / p < c := by
    rw [Int.ediv_lt_iff_lt_mul (by omega), Int.mul_comm]
    omega
  have h11 : p * (up / p + 1) ≤ p * c := Int.mul_le_mul_of_nonneg_left (by omega) (by omega)
  have h12 : 2 * (up / p) ≤ p * (up / p) := Int.mul_le_mul_of_nonneg_right (by omega) h6
  rw [Int.mul_add] at h11
  rw [Int.mul_comm] at h9
  rw [Int.mul_comm p (up / p)] at h7 h11 h12
  exact ⟨_, rfl, by omega, hp0, hp1, by omega, by omega, by omega, h6, by omega⟩
theorem rpput_f {n k up p : Int} (hn0 : 0 ≤ n) (hn1 : n < 2147483648) (hk1 : 1 ≤ k) (hk8 : k ≤ 8) (hp : 2 ^ k.toNat = p) (hu0 : 0 ≤ up) (hu1 : up < 256) :
    (S0 Try.prog).call 53 [.i .i64 (.y n), .i .i64 (.y k), .i .u8 (.y up)] [] (OwnR 0 1 (cellsB (putI n p up)) true [.i .i64 (.y 0)]) := by
  obtain ⟨fi, hfi, hfq, hp0, hp1, hf0, hf1, hf2, hq0, hq1⟩ := up_pre hk1 hk8 hp hu0 hu1
  have hput : putI n p up = if n < p - 1 then [fi + n] else (fi + (p - 1)) :: sept 5 (n - (p - 1)) := by unfold putI; rw [← hfi]
  generalize hL : putI n p up = L at hput
  generalize hP : cellsB L = P
  obtain ⟨uq, huq⟩ : ∃ uq, up / p = uq := ⟨_, rfl⟩
  rw [huq] at hfq hq0 hq1
  generalize hS : S0 Try.prog = S
  refine call_in' hS I.fn_causeyref06_Put ?_
  cbv
  repeat' (first
    | (refine s_st hS ?_; try cbv)
    | (refine s_sbr hS ?_ ?_ <;> intro h <;> (try cbv) <;> try exact s_ab h)
    | (refine s_sta hS ?_; intro _ _; try cbv)
    | (refine s_stc hS ?_; try cbv)
    | (refine call_in' hS I.fn_causeyref06_may ?_; cbv)
    | (refine call_in' hS I.fn_causeyref06_most ?_; cbv)
    | (refine s_shll hS (c := p) (by rw [← hp]; congr 1; simp only [IntKind.bits]; omega) ?_ (by simp only [lo]; omega) (by simp only [hi]; omega); intro _ _; cbv))
  rename_i r1 hr1 m0 hm0 p1 hp1'
  obtain rfl : p1 = p := by omega
  refine s_quo hS hu0 (by omega) (by simp only [hi]; omega) fun q' hq' => ?_
  obtain rfl : q' = uq := hq'.trans huq
  cbv
  repeat' (first
    | (refine s_st hS ?_; try cbv)
    | (refine s_sbr hS ?_ ?_ <;> intro h <;> (try cbv) <;> try exact s_ab h)
    | (refine s_sta hS ?_; intro _ _; try cbv)
    | (refine s_stc hS ?_; try cbv))
  rename_i p2 hp2'
  obtain rfl : p2 = p1 := by omega
  refine s_mul hS (fun f1 hf1' => ?_) (by rw [hfq]; simp only [lo]; omega) (by rw [hfq]; simp only [hi]; omega)
  obtain rfl : f1 = fi := hf1'.trans hfq
  cbv
  repeat' (first
    | (refine s_st hS ?_; try cbv)
    | (refine s_sbr hS ?_ ?_ <;> intro h <;> (try cbv) <;> try exact s_ab h)
    | (refine s_sta hS ?_; intro _ _; try cbv)
    | (refine s_stc hS ?_; try cbv))
  · rename_i v hv
    rw [if_pos (by omega)] at hput
    refine ⟨_, sub_tp (.cons .rfl (.cons (sub_i rfl) .nil)), rowIs_val (L := L) ?_ hP (Nat.zero_le _) ?_ rfl⟩
    · rw [hput, ← hv]; rfl
    · rw [hput]; rfl
  · rename_i v hv q0 hq0'
    rw [if_neg (by omega)] at hput
    have hok0 : septOk 5 q0 := ⟨by decide, by omega, by show q0 < 34359738368; omega⟩
    have hL0 : L = [v] ++ sept 5 q0 := by rw [hput, hv, hq0', show m0 = p2 - 1 by omega]; rfl
    clear hput
    refine s_loop_up hS 1 I.dead_causeyref06_Put_0 (fun x : Nat × Int × Int × Int × List Int × List SV => septOk x.1 x.2.1 ∧ 0 ≤ x.2.1 ∧ x.2.1 < 2147483648 ∧ L = x.2.2.2.2.1 ++ sept x.1 x.2.1 ∧ x.2.2.1 = ilen x.2.2.2.2.1 ∧ x.2.2.1 + x.1 ≤ 6 ∧ x.2.2.2.2.2 = cellsB x.2.2.2.2.1)
      (fun x => [(0, .i .i64 (.y x.2.1)), (10, .sl 0 1 (.l 0) (.y x.2.2.1) none)]) (fun x => [(0, .r false false (.y x.2.2.2.1) 1 x.2.2.2.2.2)])
      (fun x => x.1) (5, q0, 1, 0, [v], [.i .u8 (.y v)]) rfl ⟨⟨hok0, by dsimp only; omega, by dsimp only; omega, hL0, rfl, by show (1 : Int) + ((5 : Nat) : Int) ≤ 6; decide, rfl⟩, rfl, ?_, ?_, ?_⟩ ?_
    · cbv; (repeat' (first | exact sub_sl rfl rfl | exact sub_any | exact Sub.rfl | exact SubL.nil | refine SubL.cons ?_ ?_ | exact sub_i rfl))
    · cbv
      exact ⟨.r .rfl rfl rfl, trivial⟩
    · cbv
    · intro x
      obtain ⟨f, q, ln, st, B, G⟩ := x
      intro hx
      dsimp only at hx
      cbv
      obtain ⟨g0, g1, g2, g3, g4, g5, g6⟩ := hx
      have hG : ilen G = ln := by rw [g6, cellsB_len, g4]
      have hl0 := ilen_nn B
      have hln : ln ≤ 6 := by have : ln + (f : Int) ≤ 6 := g5; omega
      refine s_sbr hS ?_ ?_ <;> intro h <;> cbv
      · obtain ⟨k1, k2, k3⟩ := sept_step g0 (by omega)
        refine s_rem hS (by omega) fun y hy => ?_
        cbv
        repeat' (first
          | (refine s_st hS ?_; try cbv)
          | (refine s_sbr hS ?_ ?_ <;> intro h <;> (try cbv) <;> try exact s_ab h)
          | (refine s_sta hS ?_; intro _ _; try cbv)
          | (refine s_stc hS ?_; try cbv)
          | (refine s_flen hS (by rw [hG]; omega) ?_; cbv))
        rename_i y2 hy2
        refine s_quo hS g1 (by decide) (by simp only [hi]; omega) fun q2 hq2 => ?_
        cbv
        obtain ⟨ln2, h_ln2⟩ : ∃ ln2, ln2 = ln + 1 := ⟨_, rfl⟩
        obtain ⟨st2, h_st2⟩ : ∃ st2, st2 = S.flen G := ⟨_, rfl⟩
        obtain ⟨G2, h_G2⟩ : ∃ G2, G2 = cellsB (B ++ [y2]) := ⟨_, rfl⟩
        have g5' : ln + (f : Int) ≤ 6 := g5
        have k3' : 2 ≤ f := k3
        have k4 : f - 1 < f := by omega
        have k5 : ln2 + ((f - 1 : Nat) : Int) ≤ 6 := by rw [h_ln2]; omega
        have k6 : 0 ≤ q2 ∧ q2 < 2147483648 := by omega
        refine ⟨(f - 1, q2, ln2, st2, B ++ [y2], G2), k4, ⟨by dsimp only; rw [hq2]; exact k2, k6.1, k6.2, ?_, ?_, k5, h_G2⟩, rfl, ?_, ?_, ?_⟩
        · dsimp only; rw [g3, k1, hq2, show q % 128 + 128 = y2 by omega]; simp
        · dsimp only; rw [h_ln2, g4, ilen_snoc]
        · cbv; (repeat' (first | exact sub_sl rfl (by simp only [Z.v, ← hS, Int.ofNat_eq_natCast, cq, Bool.not_eq_true', Bool.not_eq_false', decide_eq_true_eq, decide_eq_false_iff_not, beq_iff_eq, beq_eq_false_iff_ne, ne_eq]; omega) | exact sub_any | exact Sub.rfl | exact SubL.nil | refine SubL.cons ?_ ?_ | exact sub_i rfl))
        · cbv
          exact ⟨subB_app hS g6.symm h_G2.symm rfl h_st2.symm, trivial⟩
        · cbv
      · have k1 := sept_end g0 (by omega)
        refine s_cv8 hS fun y hy => ?_
        cbv
        refine s_flen hS (by rw [hG]; omega) ?_
        cbv
        repeat' (first
          | (refine s_st hS ?_; try cbv)
          | (refine s_sbr hS ?_ ?_ <;> intro h <;> (try cbv) <;> try exact s_ab h)
          | (refine s_sta hS ?_; intro _ _; try cbv)
          | (refine s_stc hS ?_; try cbv))
        refine ⟨_, sub_tp (.cons .rfl (.cons (sub_i rfl) .nil)), rowIs_app hS g6.symm hP (show L = B ++ [y] by rw [g3, k1, show y = q by omega]) (Nat.zero_le _) (by simp only [Z.v, ← hS, Int.ofNat_eq_natCast, cq, Bool.not_eq_true', Bool.not_eq_false', decide_eq_true_eq, decide_eq_false_iff_not, beq_iff_eq, beq_eq_false_iff_ne, ne_eq]; omega) rfl⟩
end Cz
/- Text, part H: texts' bytes. -/
namespace Cz
open Go Go.RowKit Go.Proofs
set_option linter.unusedSimpArgs false
set_option linter.unusedVariables false
set_option maxRecDepth 100000
set_option maxHeartbeats 4000000
/-- A text's bytes. -/
def byS (x : List UInt8) : List Int := x.map fun c => (c.toNat : Int)
theorem byS_ok (x : List UInt8) : Hu.BOk (byS x) := by
  intro v hv
  unfold byS at hv
  rw [List.mem_map] at hv
  obtain ⟨c, _, rfl⟩ := hv
  have := c.toNat_lt
  omega
theorem byS_len (x : List UInt8) : ilen (byS x) = ilen x := by unfold byS ilen; rw [List.length_map]
theorem sb_eq {S : Sy} (hS : S0 Try.prog = S) (x : List UInt8) : S.sb x = cellsB (byS x) := by
  subst hS
  rw [cellsB_map]
  unfold byS
  rw [List.map_map]; rfl
theorem slen_by {S : Sy} (hS : S0 Try.prog = S) (x : List UInt8) : S.slen x = ilen (byS x) := by rw [byS_len, ← hS]; rfl
theorem strB_byS (x : List UInt8) : strB (byS x) = x := by
  unfold strB byS
  rw [List.map_map]
  conv => rhs; rw [← List.map_id x]
  apply List.map_congr_left
  intro c _
  simp
theorem byS_strB {b : List Int} (h : Hu.BOk b) : byS (strB b) = b := by
  unfold strB byS
  rw [List.map_map]
  conv => rhs; rw [← List.map_id b]
  apply List.map_congr_left
  intro v hv
  have := h v hv
  simp; omega
section
variable {S : Sy} {l : List Blk} {K : SV → List Blk → Prop} {zn zk zu : Z} {n k up : Int}
theorem pput_u (hS : S0 Try.prog = S) (n k up p : Int) (h1 : zn.v = n) (h2 : zk.v = k) (h3 : zu.v = up) (hn0 : 0 ≤ n) (hn1 : n < 2147483648) (hk1 : 1 ≤ k) (hk8 : k ≤ 8) (hp : 2 ^ k.toNat = p) (hu0 : 0 ≤ up) (hu1 : up < 256)
    (hK : ∀ F2 n2 st, cellsB (putI n p up) = F2 → n2 = ilen (putI n p up) → K (.tp [.sl (len l) 1 (.l 0) (.y n2) none, .i .i64 (.y 0)]) (snoc l (.r false false (.y st) 1 F2))) :
    S.call 67 [.i .i64 zn, .i .i64 zk, .i .u8 zu] l K := by
  subst h1 h2 h3
  exact use_own hS id (pput_f hn0 hn1 hk1 hk8 hp hu0 hu1) (.cons (sub_i rfl) (.cons (sub_i rfl) (.cons (sub_i rfl) .nil))) rfl trivial (by omega) (cellsB_plain _) rfl (cellsB_n _) fun st => hK _ _ st rfl rfl
theorem rpput_u (hS : S0 Try.prog = S) (n k up p : Int) (h1 : zn.v = n) (h2 : zk.v = k) (h3 : zu.v = up) (hn0 : 0 ≤ n) (hn1 : n < 2147483648) (hk1 : 1 ≤ k) (hk8 : k ≤ 8) (hp : 2 ^ k.toNat = p) (hu0 : 0 ≤ up) (hu1 : up < 256)
    (hK : ∀ F2 n2 st, cellsB (putI n p up) = F2 → n2 = ilen (putI n p up) → K (.tp [.sl (len l) 1 (.l 0) (.y n2) none, .i .i64 (.y 0)]) (snoc l (.r false false (.y st) 1 F2))) :
    S.call 53 [.i .i64 zn, .i .i64 zk, .i .u8 zu] l K := by
  subst h1 h2 h3
  exact use_own hS id (rpput_f hn0 hn1 hk1 hk8 hp hu0 hu1) (.cons (sub_i rfl) (.cons (sub_i rfl) (.cons (sub_i rfl) .nil))) rfl trivial (by omega) (cellsB_plain _) rfl (cellsB_n _) fun st => hK _ _ st rfl rfl
end
theorem sept_len : ∀ (f : Nat) (q : Int), ilen (sept f q) ≤ f
  | 0, q => by simp [sept, ilen]
  | f + 1, q => by
    rw [sept]
    split
    · unfold ilen; simp; omega
    · have := sept_len f (q / 128)
      unfold ilen at this ⊢
      simp only [List.length_cons]; omega
theorem putI_len (n p up : Int) : 1 ≤ ilen (putI n p up) ∧ ilen (putI n p up) ≤ 6 := by
  unfold putI
  split
  · exact ⟨Int.le_refl _, by unfold ilen; simp⟩
  · have := sept_len 5 (n - (p - 1))
    have h0 := ilen_nn (sept 5 (n - (p - 1)))
    unfold ilen at this h0 ⊢
    simp only [List.length_cons]; omega
theorem ilen_app {α : Type} (a b : List α) : ilen (a ++ b) = ilen a + ilen b := by unfold ilen; simp
theorem sub_all {S : Sy} (hS : S0 Try.prog = S) {L : List Int} {F : List SV} {n : Int} (hF : cellsB L = F) (hn : n = ilen L) : S.sub F 0 n 1 = F := by
  subst hS hF hn
  show ((cellsB L).drop (0 * 1)).take ((ilen L).toNat * 1) = _
  have := cellsB_len L
  unfold ilen at *
  rw [List.take_of_length_le (by simp; omega)]; simp
theorem app_cells {S : Sy} (hS : S0 Try.prog = S) {A B : List Int} {F G : List SV} (hF : F = cellsB A) (hG : G = cellsB B) : S.app F G = cellsB (A ++ B) := by
  subst hS hF hG
  rw [app_eq]; unfold cellsB; rw [List.flatMap_append]
theorem own_val {P X : List SV} {L : List Int} {q : Z} {k : Nat} {lit : Bool} {st : Z} {l' : List Blk} {n0 : Nat} (hX : X = cellsB L) (hP : cellsB L = P) (hk : n0 ≤ k) (hq : q.v = ilen L) (hB : l'[k]? = some (.r false lit st 1 X)) :
    OwnR n0 1 P false [] (.sl k 1 (.l 0) q none) l' := ⟨_, .rfl, rowIs_val hX hP hk hq hB⟩
theorem put_ib (b : List Int) : ilen (Hu.put b) ≤ 2 * ilen b + 1 := by
  have h0 := ilen_nn b
  have h1 := Hu.put_len b
  have h2 := (bitsI_bd (b := b) (j := ilen b) h0).2
  have h3 : bitsI b (ilen b) = Hu.nbits b := by unfold bitsI; rw [take_all (by omega)]
  unfold ilen at *
  omega
def plainT (b : List Int) : List Int := putI (ilen b) 128 0 ++ b
def packT (b : List Int) : List Int := putI (ilen (Hu.put b)) 128 128 ++ Hu.put b
def bestT (b : List Int) : List Int := if shortB b then packT b else plainT b
theorem tall0_f {x : List UInt8} (hx : ilen x ≤ 1000000) :
    (S0 Try.prog).call 51 [.s x, .fn (.func 60) [] []] [] (OwnR 0 1 (cellsB (plainT (byS x))) false []) := by
  generalize hP : cellsB (plainT (byS x)) = P
  have h0 := ilen_nn (byS x)
  have hxb := byS_len x
  generalize hS : S0 Try.prog = S
  have hsl := slen_by hS x
  refine call_in' hS I.fn_text_all ?_
  cbv
  repeat' (first
    | (refine s_st hS ?_; try cbv)
    | (refine s_sbr hS ?_ ?_ <;> intro h <;> (try cbv) <;> try exact s_ab h)
    | (refine s_sta hS ?_; intro _ _; try cbv)
    | (refine s_stc hS ?_; try cbv)
    | (refine call_in' hS I.fn_text_told ?_; cbv)
    | (refine rfc_in' hS I.fn_text_told_1 ?_; cbv)
    | (refine call_in' hS I.fn_text_plain_1 ?_; cbv))
  refine pput_u hS (ilen (byS x)) 7 0 128 hsl rfl rfl h0 (by omega) (by decide) (by decide) rfl (by decide) (by decide) fun F2 n2 st hF2 hn2 => ?_
  have hpl := putI_len (ilen (byS x)) 128 0
  rw [← hn2] at hpl
  have e1 : S.sub F2 0 n2 1 = F2 := sub_all hS hF2 hn2
  have e2 : S.sub (S.sb x) 0 (S.slen x) 1 = cellsB (byS x) := by rw [sb_eq hS, hsl]; exact sub_all hS rfl rfl
  have hfl : ilen (S.sub F2 0 n2 1) = n2 * 1 := by rw [e1, ← hF2, cellsB_len, hn2]; omega
  cbv
  repeat' (first
    | (refine s_st hS ?_; try cbv)
    | (refine s_sbr hS ?_ ?_ <;> intro h <;> (try cbv) <;> try exact s_ab h)
    | (refine s_sta hS ?_; intro _ _; try cbv)
    | (refine s_stc hS ?_; try cbv)
    | (refine s_yld hS rfl rfl ?_; cbv)
    | (refine s_flen hS hfl ?_; cbv)
    | (refine s_stk hS ?_; try cbv))
  · refine own_val (app_cells hS (e1.trans hF2.symm) e2) hP (Nat.zero_le _) ?_ rfl
    rw [ilen_app, ← hn2, byS_len]
    simp only [Z.v, ← hS, Int.ofNat_eq_natCast, cr, Bool.not_eq_true', Bool.not_eq_false', decide_eq_true_eq, decide_eq_false_iff_not, beq_iff_eq, beq_eq_false_iff_ne, ne_eq]
theorem tall1_f {x : List UInt8} (hx : ilen x ≤ 1000000) :
    (S0 Try.prog).call 51 [.s x, .fn (.func 62) [] []] [] (OwnR 0 1 (cellsB (packT (byS x))) false []) := by
  generalize hP : cellsB (packT (byS x)) = P
  have h0 := ilen_nn (byS x)
  have hxb := byS_len x
  generalize hS : S0 Try.prog = S
  have hsl := slen_by hS x
  refine call_in' hS I.fn_text_all ?_
  cbv
  repeat' (first
    | (refine s_st hS ?_; try cbv)
    | (refine s_sbr hS ?_ ?_ <;> intro h <;> (try cbv) <;> try exact s_ab h)
    | (refine s_sta hS ?_; intro _ _; try cbv)
    | (refine s_stc hS ?_; try cbv)
    | (refine call_in' hS I.fn_text_told ?_; cbv)
    | (refine rfc_in' hS I.fn_text_told_1 ?_; cbv)
    | (refine call_in' hS I.fn_text_packed_1 ?_; cbv))
  have hsb := sb_eq hS x
  have hsf : FSub (S.sb x) (cellsB (byS x)) := by rw [hsb]; exact .rfl
  have hpb : ilen (Hu.put (byS x)) ≤ 2000001 := by
    have h1 := put_ib (byS x)
    omega
  have hp0 := ilen_nn (Hu.put (byS x))
  refine put_u hS (b := byS x) (byS_ok x) (by omega) rfl hsf hsl fun F1 n1 st1 hF1 hn1 => ?_
  cbv
  refine pput_u hS (ilen (Hu.put (byS x))) 7 128 128 hn1 rfl rfl hp0 (by omega) (by decide) (by decide) rfl (by decide) (by decide) fun F2 n2 st hF2 hn2 => ?_
  have hpl := putI_len (ilen (Hu.put (byS x))) 128 128
  rw [← hn2] at hpl
  have e1 : S.sub F2 0 n2 1 = F2 := sub_all hS hF2 hn2
  have e2 : S.sub F1 0 n1 1 = F1 := sub_all hS hF1 hn1
  have hfl : ilen (S.sub F2 0 n2 1) = n2 * 1 := by rw [e1, ← hF2, cellsB_len, hn2]; omega
  cbv
  repeat' (first
    | (refine s_st hS ?_; try cbv)
    | (refine s_sbr hS ?_ ?_ <;> intro h <;> (try cbv) <;> try exact s_ab h)
    | (refine s_sta hS ?_; intro _ _; try cbv)
    | (refine s_stc hS ?_; try cbv)
    | (refine s_yld hS rfl rfl ?_; cbv)
    | (refine s_flen hS hfl ?_; cbv)
    | (refine s_stk hS ?_; try cbv))
  · refine own_val (app_cells hS (e1.trans hF2.symm) (e2.trans hF1.symm)) hP (Nat.zero_le _) ?_ rfl
    rw [ilen_app, ← hn2, ← hn1]
    simp only [Z.v, ← hS, Int.ofNat_eq_natCast, cr, Bool.not_eq_true', Bool.not_eq_false', decide_eq_true_eq, decide_eq_false_iff_not, beq_iff_eq, beq_eq_false_iff_ne, ne_eq]
theorem rtplain_f {x : List UInt8} (hx : ilen x ≤ 1000000) :
    (S0 Try.prog).call 33 [.s x] [] (OwnR 0 1 (cellsB (plainT (byS x))) false []) := by
  generalize hP : cellsB (plainT (byS x)) = P
  have h0 := ilen_nn (byS x)
  have hxb := byS_len x
  generalize hS : S0 Try.prog = S
  have hsl := slen_by hS x
  have hsb := sb_eq hS x
  have hsf : FSub (S.sb x) (cellsB (byS x)) := by rw [hsb]; exact .rfl
  refine call_in' hS I.fn_causeyref08_Plain ?_
  cbv
  refine rpput_u hS (ilen (byS x)) 7 0 128 hsl rfl rfl h0 (by omega) (by decide) (by decide) rfl (by decide) (by decide) fun F2 n2 st hF2 hn2 => ?_
  have hpl := putI_len (ilen (byS x)) 128 0
  rw [← hn2] at hpl
  have hfl : ilen F2 = n2 * 1 := by rw [← hF2, cellsB_len, hn2]; omega
  cbv
  repeat' (first
    | (refine s_st hS ?_; try cbv)
    | (refine s_sbr hS ?_ ?_ <;> intro h <;> (try cbv) <;> try exact s_ab h)
    | (refine s_sta hS ?_; intro _ _; try cbv)
    | (refine s_stc hS ?_; try cbv)
    | (refine s_flen hS hfl ?_; cbv)
    | (refine s_stk hS ?_; try cbv))
  · refine own_val (app_cells hS hF2.symm hsb) hP (Nat.zero_le _) ?_ rfl
    rw [ilen_app, ← hn2, byS_len]
    simp only [Z.v, ← hS, Int.ofNat_eq_natCast, cr, Bool.not_eq_true', Bool.not_eq_false', decide_eq_true_eq, decide_eq_false_iff_not, beq_iff_eq, beq_eq_false_iff_ne, ne_eq]
theorem rtbits_f {x : List UInt8} (hx : ilen x ≤ 5000) :
    (S0 Try.prog).call 35 [.s x] [] (OwnR 0 1 (cellsB (packT (byS x))) false []) := by
  generalize hP : cellsB (packT (byS x)) = P
  have h0 := ilen_nn (byS x)
  have hxb := byS_len x
  generalize hS : S0 Try.prog = S
  have hsl := slen_by hS x
  have hsb := sb_eq hS x
  have hsf : FSub (S.sb x) (cellsB (byS x)) := by rw [hsb]; exact .rfl
  have hpb : ilen (Hu.put (byS x)) ≤ 2000001 := by
    have h1 := put_ib (byS x)
    omega
  have hp0 := ilen_nn (Hu.put (byS x))
  refine call_in' hS I.fn_causeyref08_Bits ?_
  cbv
  refine rput_u hS (b := byS x) (byS_ok x) (by omega) rfl hsf hsl fun F1 n1 st1 hF1 hn1 => ?_
  cbv
  refine rpput_u hS (ilen (Hu.put (byS x))) 7 128 128 hn1 rfl rfl hp0 (by omega) (by decide) (by decide) rfl (by decide) (by decide) fun F2 n2 st hF2 hn2 => ?_
  have hpl := putI_len (ilen (Hu.put (byS x))) 128 128
  rw [← hn2] at hpl
  have e2 : S.sub F1 0 n1 1 = F1 := sub_all hS hF1 hn1
  have hfl : ilen F2 = n2 * 1 := by rw [← hF2, cellsB_len, hn2]; omega
  cbv
  repeat' (first
    | (refine s_st hS ?_; try cbv)
    | (refine s_sbr hS ?_ ?_ <;> intro h <;> (try cbv) <;> try exact s_ab h)
    | (refine s_sta hS ?_; intro _ _; try cbv)
    | (refine s_stc hS ?_; try cbv)
    | (refine s_flen hS hfl ?_; cbv)
    | (refine s_stk hS ?_; try cbv))
  · refine own_val (app_cells hS hF2.symm (e2.trans hF1.symm)) hP (Nat.zero_le _) ?_ rfl
    rw [ilen_app, ← hn2, ← hn1]
    simp only [Z.v, ← hS, Int.ofNat_eq_natCast, cr, Bool.not_eq_true', Bool.not_eq_false', decide_eq_true_eq, decide_eq_false_iff_not, beq_iff_eq, beq_eq_false_iff_ne, ne_eq]
end Cz
/- Text, part I: the best bytes; sizes; used in any heap. -/
namespace Cz
open Go Go.RowKit Go.Proofs
set_option linter.unusedSimpArgs false
set_option linter.unusedVariables false
set_option maxRecDepth 100000
set_option maxHeartbeats 4000000
section
variable {S : Sy} {l : List Blk} {K : SV → List Blk → Prop} {x : List UInt8}
theorem tall0_u (hS : S0 Try.prog = S) (hx : ilen x ≤ 1000000)
    (hK : ∀ F2 n2 st, cellsB (plainT (byS x)) = F2 → n2 = ilen (plainT (byS x)) → K (.sl (len l) 1 (.l 0) (.y n2) none) (snoc l (.r false false (.y st) 1 F2))) : S.call 51 [.s x, .fn (.func 60) [] []] l K :=
  use_own hS id (tall0_f hx) (.cons .rfl (.cons .rfl .nil)) rfl trivial (by omega) (cellsB_plain _) rfl (cellsB_n _) fun st => hK _ _ st rfl rfl
theorem tall1_u (hS : S0 Try.prog = S) (hx : ilen x ≤ 1000000)
    (hK : ∀ F2 n2 st, cellsB (packT (byS x)) = F2 → n2 = ilen (packT (byS x)) → K (.sl (len l) 1 (.l 0) (.y n2) none) (snoc l (.r false false (.y st) 1 F2))) : S.call 51 [.s x, .fn (.func 62) [] []] l K :=
  use_own hS id (tall1_f hx) (.cons .rfl (.cons .rfl .nil)) rfl trivial (by omega) (cellsB_plain _) rfl (cellsB_n _) fun st => hK _ _ st rfl rfl
theorem rtplain_u (hS : S0 Try.prog = S) (hx : ilen x ≤ 1000000)
    (hK : ∀ F2 n2 st, cellsB (plainT (byS x)) = F2 → n2 = ilen (plainT (byS x)) → K (.sl (len l) 1 (.l 0) (.y n2) none) (snoc l (.r false false (.y st) 1 F2))) : S.call 33 [.s x] l K :=
  use_own hS id (rtplain_f hx) (.cons .rfl .nil) rfl trivial (by omega) (cellsB_plain _) rfl (cellsB_n _) fun st => hK _ _ st rfl rfl
theorem rtbits_u (hS : S0 Try.prog = S) (hx : ilen x ≤ 5000)
    (hK : ∀ F2 n2 st, cellsB (packT (byS x)) = F2 → n2 = ilen (packT (byS x)) → K (.sl (len l) 1 (.l 0) (.y n2) none) (snoc l (.r false false (.y st) 1 F2))) : S.call 35 [.s x] l K :=
  use_own hS id (rtbits_f hx) (.cons .rfl .nil) rfl trivial (by omega) (cellsB_plain _) rfl (cellsB_n _) fun st => hK _ _ st rfl rfl
end
theorem tplain_f {x : List UInt8} (hx : ilen x ≤ 1000000) :
    (S0 Try.prog).call 32 [.s x] [] (OwnR 0 1 (cellsB (plainT (byS x))) false []) := by
  generalize hP : cellsB (plainT (byS x)) = P
  generalize hS : S0 Try.prog = S
  refine call_in' hS I.fn_text_Plain ?_
  cbv
  refine call_in' hS I.fn_text_plain ?_
  cbv
  refine tall0_u hS hx fun F2 n2 st hF2 hn2 => ?_
  cbv
  exact own_val hF2.symm hP (Nat.zero_le _) hn2 rfl
theorem tbits_f {x : List UInt8} (hx : ilen x ≤ 1000000) :
    (S0 Try.prog).call 34 [.s x] [] (OwnR 0 1 (cellsB (packT (byS x))) false []) := by
  generalize hP : cellsB (packT (byS x)) = P
  generalize hS : S0 Try.prog = S
  refine call_in' hS I.fn_text_Bits ?_
  cbv
  refine call_in' hS I.fn_text_packed ?_
  cbv
  refine tall1_u hS hx fun F2 n2 st hF2 hn2 => ?_
  cbv
  exact own_val hF2.symm hP (Nat.zero_le _) hn2 rfl
theorem tbest_f {x : List UInt8} (hx : ilen x ≤ 1000000) :
    (S0 Try.prog).call 36 [.s x] [] (OwnR 0 1 (cellsB (bestT (byS x))) false []) := by
  have hL : bestT (byS x) = if shortB (byS x) then packT (byS x) else plainT (byS x) := rfl
  generalize bestT (byS x) = L at hL ⊢
  generalize hP : cellsB L = P
  have hxb := byS_len x
  generalize hS : S0 Try.prog = S
  have hsl := slen_by hS x
  have hsb := sb_eq hS x
  have hsf : FSub (S.sb x) (cellsB (byS x)) := by rw [hsb]; exact .rfl
  refine call_in' hS I.fn_text_Best ?_
  cbv
  refine call_in' hS I.fn_text_plain ?_
  cbv
  refine short_u hS (b := byS x) (byS_ok x) (by omega) rfl hsf hsl fun t ht => ?_
  rw [ht] at hL
  cbv
  refine s_br hS ?_ ?_ <;> intro h <;> cbv
  · rw [h] at hL
    refine call_in' hS I.fn_text_packed ?_
    cbv
    refine tall1_u hS hx fun F2 n2 st hF2 hn2 => ?_
    cbv
    exact own_val (L := L) (by rw [hL]; exact hF2.symm) hP (Nat.zero_le _) (by rw [hL]; exact hn2) rfl
  · rw [h] at hL
    refine tall0_u hS hx fun F2 n2 st hF2 hn2 => ?_
    cbv
    exact own_val (L := L) (by rw [hL]; exact hF2.symm) hP (Nat.zero_le _) (by rw [hL]; exact hn2) rfl
theorem rtbest_f {x : List UInt8} (hx : ilen x ≤ 5000) :
    (S0 Try.prog).call 37 [.s x] [] (OwnR 0 1 (cellsB (bestT (byS x))) false []) := by
  have hL : bestT (byS x) = if shortB (byS x) then packT (byS x) else plainT (byS x) := rfl
  generalize bestT (byS x) = L at hL ⊢
  generalize hP : cellsB L = P
  have hxb := byS_len x
  generalize hS : S0 Try.prog = S
  have hsl := slen_by hS x
  have hsb := sb_eq hS x
  have hsf : FSub (S.sb x) (cellsB (byS x)) := by rw [hsb]; exact .rfl
  refine call_in' hS I.fn_causeyref08_Best ?_
  cbv
  refine rshort_u hS (b := byS x) (byS_ok x) (by omega) rfl hsf hsl fun t ht => ?_
  rw [ht] at hL
  cbv
  refine s_br hS ?_ ?_ <;> intro h <;> cbv
  · rw [h] at hL
    refine rtbits_u hS hx fun F2 n2 st hF2 hn2 => ?_
    cbv
    exact own_val (L := L) (by rw [hL]; exact hF2.symm) hP (Nat.zero_le _) (by rw [hL]; exact hn2) rfl
  · rw [h] at hL
    refine rtplain_u hS (by omega) fun F2 n2 st hF2 hn2 => ?_
    cbv
    exact own_val (L := L) (by rw [hL]; exact hF2.symm) hP (Nat.zero_le _) (by rw [hL]; exact hn2) rfl
section
variable {S : Sy} {l : List Blk} {K : SV → List Blk → Prop} {x : List UInt8}
theorem tplain_u (hS : S0 Try.prog = S) (hx : ilen x ≤ 1000000)
    (hK : ∀ F2 n2 st, cellsB (plainT (byS x)) = F2 → n2 = ilen (plainT (byS x)) → K (.sl (len l) 1 (.l 0) (.y n2) none) (snoc l (.r false false (.y st) 1 F2))) : S.call 32 [.s x] l K :=
  use_own hS id (tplain_f hx) (.cons .rfl .nil) rfl trivial (by omega) (cellsB_plain _) rfl (cellsB_n _) fun st => hK _ _ st rfl rfl
theorem tbits_u (hS : S0 Try.prog = S) (hx : ilen x ≤ 1000000)
    (hK : ∀ F2 n2 st, cellsB (packT (byS x)) = F2 → n2 = ilen (packT (byS x)) → K (.sl (len l) 1 (.l 0) (.y n2) none) (snoc l (.r false false (.y st) 1 F2))) : S.call 34 [.s x] l K :=
  use_own hS id (tbits_f hx) (.cons .rfl .nil) rfl trivial (by omega) (cellsB_plain _) rfl (cellsB_n _) fun st => hK _ _ st rfl rfl
theorem tbest_u (hS : S0 Try.prog = S) (hx : ilen x ≤ 1000000)
    (hK : ∀ F2 n2 st, cellsB (bestT (byS x)) = F2 → n2 = ilen (bestT (byS x)) → K (.sl (len l) 1 (.l 0) (.y n2) none) (snoc l (.r false false (.y st) 1 F2))) : S.call 36 [.s x] l K :=
  use_own hS id (tbest_f hx) (.cons .rfl .nil) rfl trivial (by omega) (cellsB_plain _) rfl (cellsB_n _) fun st => hK _ _ st rfl rfl
theorem rtbest_u (hS : S0 Try.prog = S) (hx : ilen x ≤ 5000)
    (hK : ∀ F2 n2 st, cellsB (bestT (byS x)) = F2 → n2 = ilen (bestT (byS x)) → K (.sl (len l) 1 (.l 0) (.y n2) none) (snoc l (.r false false (.y st) 1 F2))) : S.call 37 [.s x] l K :=
  use_own hS id (rtbest_f hx) (.cons .rfl .nil) rfl trivial (by omega) (cellsB_plain _) rfl (cellsB_n _) fun st => hK _ _ st rfl rfl
end
theorem tsize_f {x : List UInt8} (hx : ilen x ≤ 1000000) :
    (S0 Try.prog).call 38 [.s x] [] (fun y _ => Sub y (.i .i64 (.y (ilen (bestT (byS x)))))) := by
  obtain ⟨N, hN⟩ : ∃ N, N = ilen (bestT (byS x)) := ⟨_, rfl⟩
  rw [← hN]
  generalize hS : S0 Try.prog = S
  refine call_in' hS I.fn_text_Size ?_
  cbv
  refine tbest_u hS hx fun F2 n2 st hF2 hn2 => ?_
  cbv
  exact sub_i (hn2.trans hN.symm)
theorem rtsize_f {x : List UInt8} (hx : ilen x ≤ 5000) :
    (S0 Try.prog).call 39 [.s x] [] (fun y _ => Sub y (.i .i64 (.y (ilen (bestT (byS x)))))) := by
  obtain ⟨N, hN⟩ : ∃ N, N = ilen (bestT (byS x)) := ⟨_, rfl⟩
  rw [← hN]
  generalize hS : S0 Try.prog = S
  refine call_in' hS I.fn_causeyref08_Size ?_
  cbv
  refine rtbest_u hS hx fun F2 n2 st hF2 hn2 => ?_
  cbv
  exact sub_i (hn2.trans hN.symm)
section
variable {S : Sy} {l : List Blk} {K : SV → List Blk → Prop} {x : List UInt8}
theorem tsize_u (hS : S0 Try.prog = S) (hx : ilen x ≤ 1000000) (hK : ∀ n, n = ilen (bestT (byS x)) → K (.i .i64 (.y n)) l) : S.call 38 [.s x] l K :=
  use_val hS (tsize_f hx) (.cons .rfl .nil) rfl rfl (hK _ rfl)
theorem rtsize_u (hS : S0 Try.prog = S) (hx : ilen x ≤ 5000) (hK : ∀ n, n = ilen (bestT (byS x)) → K (.i .i64 (.y n)) l) : S.call 39 [.s x] l K :=
  use_val hS (rtsize_f hx) (.cons .rfl .nil) rfl rfl (hK _ rfl)
end
end Cz
/- Text, part J: texts taken, used in any heap; what the document says of some texts. -/
namespace Cz
open Go Go.RowKit Go.Proofs
set_option linter.unusedSimpArgs false
set_option linter.unusedVariables false
set_option maxRecDepth 100000
set_option maxHeartbeats 4000000
theorem s_scmp {S : Sy} (hS : S0 Try.prog = S) (x : List UInt8) : S.scmp .eq x x = true := by subst hS; rw [scmp_eq]; exact beq_self_eq_true x
theorem s_bsx {S : Sy} (hS : S0 Try.prog = S) {l : List Int} {F : List SV} {n : Int} {x : List UInt8} {K : List UInt8 → Prop} (hb : Hu.BOk l) (hF : cellsB l = F) (hn : n = ilen l) (hx : strB l = x) (h : K x) : S.bs F 0 n K := s_bs hS hb hF hn (hx ▸ h)
/-- Two rows that are read, of which less is said. -/
theorem call_soft2 {P : Program} {g : FuncId} {args : List SV} {F G : List SV} {sz sz' : Nat} {K : SV → List Blk → Prop} (hp : plains F = true) (hq : plains G = true) (h : (S0 P).call g args [.r true false (.l 0) sz F, .r true false (.l 0) sz' G] K) : (S0 P).call g args [.r true true (.l 0) sz F, .r true true (.l 0) sz' G] K := by
  intro N W0 ρ W vals hR hd
  exact h N W0 ρ W vals (hR.sub rfl fun k B' hB => by
    match k with
    | 0 => simp only [List.getElem?_cons_zero, Option.some.injEq] at hB; subst hB; exact ⟨_, rfl, .r .rfl rfl hp⟩
    | 1 => simp only [List.getElem?_cons_succ, List.getElem?_cons_zero, Option.some.injEq] at hB; subst hB; exact ⟨_, rfl, .r .rfl rfl hq⟩
    | k + 2 => simp at hB) hd
theorem same8_f {a : List Int} (ha : Hu.BOk a) :
    (S0 Try.prog).call 31 [.sl 0 1 (.l 0) (.y (ilen a)) none, .sl 1 1 (.l 0) (.y (ilen a)) none] [.r true true (.l 0) 1 (cellsB a), .r true true (.l 0) 1 (cellsB a)] (fun x _ => Sub x .tt) := by
  have hp := cellsB_plain a
  generalize hF : cellsB a = F at hp ⊢
  obtain ⟨n, hn⟩ : ∃ n, n = ilen a := ⟨_, rfl⟩
  obtain ⟨x, hx⟩ : ∃ x, strB a = x := ⟨_, rfl⟩
  rw [← hn]
  refine call_soft2 hp hp ?_
  generalize hS : S0 Try.prog = S
  have hc := s_scmp hS x
  refine call_in' hS I.fn_causeylaw08_same ?_
  cbv
  refine s_bsx hS ha hF hn hx ?_
  cbv
  refine s_bsx hS ha hF hn hx ?_
  cbv
  exact sub_b_tt hc
theorem same8_u {S : Sy} {a b : List Int} {F G : List SV} {k k' : Nat} {ro lit ro' lit' : Bool} {st st' zn zm : Z} {l : List Blk} {K : SV → List Blk → Prop} (hS : S0 Try.prog = S) (ha : Hu.BOk a) (hab : a = b) (hrow : lget l k = .r ro lit st 1 F) (hs : FSub F (cellsB a)) (hz : zn.v = ilen a)
    (hrow' : lget l k' = .r ro' lit' st' 1 G) (hs' : FSub G (cellsB b)) (hz' : zm.v = ilen b) (hK : K .tt l) : S.call 31 [.sl k 1 (.l 0) zn none, .sl k' 1 (.l 0) zm none] l K := by
  subst hab
  exact use_read hS (fun j => if j = 0 then k else k') (same8_f ha) (.cons (sub_sl rfl hz) (.cons (sub_sl rfl hz') .nil)) rfl
    ⟨⟨_, _, _, _, _, _, _, _, rfl, cellsB_plain _, hrow, hs⟩, ⟨_, _, _, _, _, _, _, _, rfl, cellsB_plain _, hrow', hs'⟩, trivial⟩ rfl hK
section
variable {S : Sy} {b : List Int} {F : List SV} {k : Nat} {ro lit : Bool} {st zn : Z} {l : List Blk} {K : SV → List Blk → Prop}
theorem ttake_u (hS : S0 Try.prog = S) (hb : Hu.BOk b) (hn : ilen b ≤ 1000000) (hrow : lget l k = .r ro lit st 1 F) (hs : FSub F (cellsB b)) (hz : zn.v = ilen b)
    (hK : ∀ x R e F2 n2 st, strB (tS b) = x → tR b = R → tE b = e → cellsB R = F2 → n2 = ilen R → K (.tp [.s x, .sl (len l) 1 (.l 0) (.y n2) none, .i .i64 (.y e)]) (snoc l (.r false false (.y st) 1 F2))) :
    S.call 29 [.sl k 1 (.l 0) zn none] l K :=
  use_ownP hS (fun _ => k) (ttake_f hb hn) (.cons (sub_sl rfl hz) .nil) rfl ⟨⟨_, _, _, _, _, _, _, _, rfl, cellsB_plain _, hrow, hs⟩, trivial⟩ (by omega) (cellsB_plain _) rfl rfl (cellsB_n _) fun st => hK _ _ _ _ _ st rfl rfl rfl rfl rfl
theorem rttake_u (hS : S0 Try.prog = S) (hb : Hu.BOk b) (hn : ilen b ≤ 1000000) (hrow : lget l k = .r ro lit st 1 F) (hs : FSub F (cellsB b)) (hz : zn.v = ilen b)
    (hK : ∀ x R e F2 n2 st, strB (tS b) = x → tR b = R → tE b = e → cellsB R = F2 → n2 = ilen R → K (.tp [.s x, .sl (len l) 1 (.l 0) (.y n2) none, .i .i64 (.y e)]) (snoc l (.r false false (.y st) 1 F2))) :
    S.call 30 [.sl k 1 (.l 0) zn none] l K :=
  use_ownP hS (fun _ => k) (rttake_f hb hn) (.cons (sub_sl rfl hz) .nil) rfl ⟨⟨_, _, _, _, _, _, _, _, rfl, cellsB_plain _, hrow, hs⟩, trivial⟩ (by omega) (cellsB_plain _) rfl rfl (cellsB_n _) fun st => hK _ _ _ _ _ st rfl rfl rfl rfl rfl
/-- No bytes: nil. -/
theorem ttake_nil_u (hS : S0 Try.prog = S) (hK : ∀ x R e F2 n2 st, strB (tS []) = x → tR [] = R → tE [] = e → cellsB R = F2 → n2 = ilen R → K (.tp [.s x, .sl (len (snoc l (.r true true (.l 0) 1 []))) 1 (.l 0) (.y n2) none, .i .i64 (.y e)]) (snoc (snoc l (.r true true (.l 0) 1 [])) (.r false false (.y st) 1 F2))) :
    S.call 29 [.re (.slice none 0 0)] l K := by
  have hg : lget (snoc l (.r true true (.l 0) 1 [])) (len l) = .r true true (.l 0) 1 [] := by
    rw [lget_eq, snoc_eq, len_eq, List.getD_eq_getElem?_getD, List.getElem?_append_right (Nat.le_refl _), Nat.sub_self]; rfl
  have h := ttake_u (b := []) (K := K) (l := snoc l (.r true true (.l 0) 1 [])) (k := len l) (zn := .l 0) (F := []) rfl (by intro v hv; cases hv) (by decide) hg .rfl rfl hK
  subst hS
  exact call_ghost (sz := 1) (by omega) (fun ρ vs hρ hd => by
    match vs, hd with
    | [v], hd =>
      simp only [denL, den] at hd ⊢
      obtain ⟨⟨rfl, _⟩, _⟩ := hd
      have := den_nilRow (l := l) (sz := 1) (ρ := ρ) (by rw [← len_eq, hρ]; simp)
      simpa [nilRow, den, Z.v] using this) rfl h
theorem ttake_k (hS : S0 Try.prog = S) (t R : List Int) (e : Int) (x : List UInt8) (ht : tTake b = (t, R, e)) (hx : strB t = x) (hb : Hu.BOk b) (hn : ilen b ≤ 1000000) (hrow : lget l k = .r ro lit st 1 F) (hs : FSub F (cellsB b)) (hz : zn.v = ilen b)
    (hK : ∀ F2 n2 st, cellsB R = F2 → n2 = ilen R → K (.tp [.s x, .sl (len l) 1 (.l 0) (.y n2) none, .i .i64 (.y e)]) (snoc l (.r false false (.y st) 1 F2))) :
    S.call 29 [.sl k 1 (.l 0) zn none] l K := by
  refine ttake_u hS hb hn hrow hs hz fun x' R' e' F2 n2 st h1 h2 h3 h4 h5 => ?_
  have e1 : x' = x := by rw [← h1, ← hx]; unfold tS; rw [ht]
  have e2 : R' = R := by rw [← h2]; unfold tR; rw [ht]
  have e3 : e' = e := by rw [← h3]; unfold tE; rw [ht]
  subst e1 e2 e3
  exact hK F2 n2 st h4 h5
end
theorem v_take3 : takeL [49, 141] = [97, 97, 97] ∧ takeE [49, 141] = 0 := by
  have := Hu.take_put [97, 97, 97] (bok1 (by decide))
  rw [show Hu.put [97, 97, 97] = [49, 141] by decide +kernel] at this
  unfold takeL takeE; rw [this]; exact ⟨rfl, rfl⟩
theorem v_take4 : takeE [255] = 70 := by
  have h1 : Hu.bl [255] = List.replicate 8 true := by decide +kernel
  have : Hu.take [255] = none := by
    unfold Hu.take
    rw [h1, Hu.dec_none (Hu.sym_ones 8)]
    simp
  unfold takeE; rw [this]; rfl
theorem v1 : tTake [130, 49, 141, 9] = ([97, 97, 97], [9], 0) := by
  unfold tTake
  rw [show preE [130, 49, 141, 9] 128 = 0 by decide +kernel, show preN [130, 49, 141, 9] 128 = 2 by decide +kernel, show preR [130, 49, 141, 9] 128 = [49, 141, 9] by decide +kernel,
    show part [49, 141, 9] 0 2 = [49, 141] by decide +kernel, v_take3.1, v_take3.2]
  decide +kernel
theorem v2 : tTake [2, 97] = ([], [], 10) := by decide +kernel
theorem v3 : tTake [129, 255] = ([], [], 70) := by
  unfold tTake
  rw [show preE [129, 255] 128 = 0 by decide +kernel, show preN [129, 255] 128 = 1 by decide +kernel, show preR [129, 255] 128 = [255] by decide +kernel,
    show part [255] 0 1 = [255] by decide +kernel, v_take4]
  decide +kernel
theorem v4 : tTake [0] = ([], [], 0) := by decide +kernel
theorem v5 : tTake [] = ([], [], 10) := by decide +kernel
theorem v6 : plainT (byS [97]) = [1, 97] := by decide +kernel
theorem v7 : packT (byS [97]) = [129, 55] := by decide +kernel
theorem v8 : bestT (byS [97]) = [1, 97] := by decide +kernel
theorem v9 : bestT (byS [97, 97, 97]) = [130, 49, 141] := by decide +kernel
theorem putI_ok {n p up : Int} (h0 : 0 ≤ n) (hp : 2 ≤ p) (hp1 : p ≤ 256) (hu : 0 ≤ up - up % p) (hu1 : up - up % p + p ≤ 256) : Hu.BOk (putI n p up) := by
  have hs : ∀ (f : Nat) (q : Int), 0 ≤ q → Hu.BOk (sept f q) := by
    intro f
    induction f with
    | zero => intro q _ v hv; cases hv
    | succ f ih =>
      intro q hq v hv
      rw [sept] at hv
      split at hv
      · rw [List.mem_singleton] at hv; omega
      · rcases List.mem_cons.1 hv with h | h
        · omega
        · exact ih _ (by omega) v h
  intro v hv
  unfold putI at hv
  split at hv
  · rw [List.mem_singleton] at hv; omega
  · rcases List.mem_cons.1 hv with h | h
    · omega
    · exact hs _ _ (by omega) v h
theorem plainT_ok {b : List Int} (hb : Hu.BOk b) : Hu.BOk (plainT b) := by
  intro v hv
  rcases List.mem_append.1 hv with h | h
  · exact putI_ok (ilen_nn b) (by decide) (by decide) (by decide) (by decide) v h
  · exact hb v h
theorem packT_ok (b : List Int) : Hu.BOk (packT b) := by
  intro v hv
  rcases List.mem_append.1 hv with h | h
  · exact putI_ok (ilen_nn _) (by decide) (by decide) (by decide) (by decide) v h
  · exact Hu.put_ok b v h
theorem bestT_ok {b : List Int} (hb : Hu.BOk b) : Hu.BOk (bestT b) := by
  unfold bestT
  split
  · exact packT_ok b
  · exact plainT_ok hb
theorem wakes8_f : (S0 Try.prog).call 28 [] [] (fun x _ => Sub x .tt) := by
  generalize hS : S0 Try.prog = S
  refine call_in' hS I.fn_causeylaw08_wakes ?_
  cbv
  refine ttake_k hS (b := [130, 49, 141, 9]) [97, 97, 97] [9] 0 [97, 97, 97] v1 rfl (bok1 (by decide)) (by decide) rfl (fs4 130 49 141 9) rfl fun F1 n1 st1 hF1 hn1 => ?_
  cbv
  refine ttake_k hS (b := [2, 97]) [] [] 10 [] v2 rfl (bok1 (by decide)) (by decide) rfl (fs2 2 97) rfl fun F2 n2 st2 hF2 hn2 => ?_
  cbv
  refine ttake_nil_u hS fun x3 R3 e3 F3 n3 st3 hx3 hR3 he3 hF3 hn3 => ?_
  replace he3 : e3 = 10 := by rw [← he3]; unfold tE; rw [v5]
  clear hx3 hR3
  cbv
  refine ttake_k hS (b := [129, 255]) [] [] 70 [] v3 rfl (bok1 (by decide)) (by decide) rfl (fs2 129 255) rfl fun F4 n4 st4 hF4 hn4 => ?_
  cbv
  refine ttake_k hS (b := [0]) [] [] 0 [] v4 rfl (bok1 (by decide)) (by decide) rfl (fs1 0) rfl fun F5 n5 st5 hF5 hn5 => ?_
  cbv
  refine tplain_u hS (x := [97]) (by decide) fun F6 n6 st6 hF6 hn6 => ?_
  rw [v6] at hF6 hn6
  cbv
  refine same8_u hS (a := [1, 97]) (b := [1, 97]) (bok1 (by decide)) rfl rfl (hF6 ▸ .rfl) hn6 rfl (fs2 1 97) rfl ?_
  cbv
  repeat' (first
    | (refine s_st hS ?_; try cbv)
    | (refine s_sbr hS ?_ ?_ <;> intro h <;> (try cbv) <;> try exact s_ab h)
    | (refine s_sta hS ?_; intro _ _; try cbv)
    | (refine s_stc hS ?_; try cbv))
  refine tbits_u hS (x := [97]) (by decide) fun F7 n7 st7 hF7 hn7 => ?_
  rw [v7] at hF7 hn7
  cbv
  refine same8_u hS (a := [129, 55]) (b := [129, 55]) (bok1 (by decide)) rfl rfl (hF7 ▸ .rfl) hn7 rfl (fs2 129 55) rfl ?_
  cbv
  repeat' (first
    | (refine s_st hS ?_; try cbv)
    | (refine s_sbr hS ?_ ?_ <;> intro h <;> (try cbv) <;> try exact s_ab h)
    | (refine s_sta hS ?_; intro _ _; try cbv)
    | (refine s_stc hS ?_; try cbv))
  refine tbest_u hS (x := [97]) (by decide) fun F8 n8 st8 hF8 hn8 => ?_
  rw [v8] at hF8 hn8
  cbv
  refine same8_u hS (a := [1, 97]) (b := [1, 97]) (bok1 (by decide)) rfl rfl (hF8 ▸ .rfl) hn8 rfl (fs2 1 97) rfl ?_
  cbv
  repeat' (first
    | (refine s_st hS ?_; try cbv)
    | (refine s_sbr hS ?_ ?_ <;> intro h <;> (try cbv) <;> try exact s_ab h)
    | (refine s_sta hS ?_; intro _ _; try cbv)
    | (refine s_stc hS ?_; try cbv))
  refine tbest_u hS (x := [97, 97, 97]) (by decide) fun F9 n9 st9 hF9 hn9 => ?_
  rw [v9] at hF9 hn9
  cbv
  refine same8_u hS (a := [130, 49, 141]) (b := [130, 49, 141]) (bok1 (by decide)) rfl rfl (hF9 ▸ .rfl) hn9 rfl (fs3 130 49 141) rfl ?_
  cbv
  repeat' (first
    | (refine s_st hS ?_; try cbv)
    | (refine s_sbr hS ?_ ?_ <;> intro h <;> (try cbv) <;> try exact s_ab h)
    | (refine s_sta hS ?_; intro _ _; try cbv)
    | (refine s_stc hS ?_; try cbv))
  refine same8_u hS (a := [9]) (b := [9]) (bok1 (by decide)) rfl rfl (hF1 ▸ .rfl) hn1 rfl (fs1 9) rfl ?_
  cbv
  repeat' (first
    | (refine s_st hS ?_; try cbv)
    | (refine s_sbr hS ?_ ?_ <;> intro h <;> (try cbv) <;> try exact s_ab h)
    | (refine s_sta hS ?_; intro _ _; try cbv)
    | (refine s_stc hS ?_; try cbv))
  refine tsize_u hS (x := [97, 97, 97]) (by decide) fun m hm => ?_
  rw [v9] at hm
  replace hm : m = 3 := hm
  cbv
  repeat' (first
    | (refine s_st hS ?_; try cbv)
    | (refine s_sbr hS ?_ ?_ <;> intro h <;> (try cbv) <;> try exact s_ab h)
    | (refine s_sta hS ?_; intro _ _; try cbv)
    | (refine s_stc hS ?_; try cbv))
  exact sub_b_tt (by simp only [← hS, Int.ofNat_eq_natCast, cq, Bool.not_eq_true', Bool.not_eq_false', decide_eq_true_eq, decide_eq_false_iff_not, beq_iff_eq, beq_eq_false_iff_ne, ne_eq]; exact hm)
theorem wakes8_u {S : Sy} (hS : S0 Try.prog = S) {l : List Blk} {K : SV → List Blk → Prop} (hK : K .tt l) : S.call 28 [] l K :=
  use_val hS wakes8_f .nil rfl rfl hK
end Cz
/- Text, part K: the functions tell what the document tells. -/
namespace Cz
open Go Go.RowKit Go.Proofs
set_option linter.unusedSimpArgs false
set_option linter.unusedVariables false
set_option maxRecDepth 100000
set_option maxHeartbeats 4000000
theorem tT_ok {b : List Int} (hb : Hu.BOk b) : Hu.BOk (tS b) ∧ Hu.BOk (tR b) ∧ ilen (tR b) ≤ ilen b := by
  have h0 := ilen_nn b
  have hN := preN_nn (p := 128) hb (by decide)
  have hd : ∀ k, ilen ((preR b 128).drop k) ≤ ilen b := by
    intro k
    have := preR_len (b := b) (p := 128)
    unfold ilen at *
    rw [List.length_drop]; omega
  unfold tS tR tTake
  split
  · exact ⟨fun v hv => by (cases hv), fun v hv => by (cases hv), h0⟩
  · split
    · exact ⟨fun v hv => by (cases hv), fun v hv => by (cases hv), h0⟩
    · split
      · exact ⟨bok_part (bok_preR hb), bok_drop (bok_preR hb) _, hd _⟩
      · split
        · exact ⟨takeL_bok (bok_part (bok_preR hb)), bok_drop (bok_preR hb) _, hd _⟩
        · exact ⟨fun v hv => by (cases hv), fun v hv => by (cases hv), h0⟩
theorem tR_ok {b : List Int} (hb : Hu.BOk b) : Hu.BOk (tR b) := (tT_ok hb).2.1
theorem ttells_law (x : List UInt8) (b : List Int) (hb : ∀ v ∈ b, 0 ≤ v ∧ v < 256) :
    (S0 Try.prog).call 8 [.s x, .sl 0 1 (.l 0) (.y (ilen b)) none] [.r true false (.l 0) 1 (cellsB b)] (fun x _ => Sub x .tt) := by
  obtain ⟨n, hn'⟩ : ∃ n, n = ilen b := ⟨_, rfl⟩
  have h0n := ilen_nn b
  rw [← hn'] at h0n ⊢
  have hpl := cellsB_plain b
  generalize hF : cellsB b = F at hpl ⊢
  have hfs : FSub F (cellsB b) := by rw [hF]; exact .rfl
  have hp := plainT_ok (byS_ok x)
  have hq := packT_ok (byS x)
  have hr := bestT_ok (byS_ok x)
  generalize hS : S0 Try.prog = S
  refine call_in' hS I.fn_causeylaw08_TextTells ?_
  cbv
  refine s_sbrr hS ?_ ?_ <;> intro h <;> cbv
  · refine wakes8_u hS ?_
    cbv
    exact .rfl
  · refine s_sbrr hS ?_ ?_ <;> intro h <;> cbv
    · refine wakes8_u hS ?_
      cbv
      exact .rfl
    · refine ttake_u hS (b := b) hb (by omega) rfl hfs hn' fun x1 R1 e1 F1 n1 st1 hx1 hR1 he1 hF1 hn1 => ?_
      cbv
      refine rttake_u hS (b := b) hb (by omega) rfl hfs hn' fun x2 R2 e2 F2 n2 st2 hx2 hR2 he2 hF2 hn2 => ?_
      obtain rfl : x2 = x1 := hx2.symm.trans hx1
      obtain rfl : e2 = e1 := he2.symm.trans he1
      have hRok : Hu.BOk R1 := by rw [← hR1]; exact tR_ok hb
      cbv
      refine tplain_u hS (by omega) fun F3 n3 st3 hF3 hn3 => ?_
      cbv
      refine rtplain_u hS (by omega) fun F4 n4 st4 hF4 hn4 => ?_
      cbv
      refine same8_u hS hp rfl rfl (hF3 ▸ .rfl) hn3 rfl (hF4 ▸ .rfl) hn4 ?_
      cbv
      refine tbits_u hS (by omega) fun F5 n5 st5 hF5 hn5 => ?_
      cbv
      refine rtbits_u hS (by omega) fun F6 n6 st6 hF6 hn6 => ?_
      cbv
      refine same8_u hS hq rfl rfl (hF5 ▸ .rfl) hn5 rfl (hF6 ▸ .rfl) hn6 ?_
      cbv
      refine tbest_u hS (by omega) fun F7 n7 st7 hF7 hn7 => ?_
      cbv
      refine rtbest_u hS (by omega) fun F8 n8 st8 hF8 hn8 => ?_
      cbv
      refine same8_u hS hr rfl rfl (hF7 ▸ .rfl) hn7 rfl (hF8 ▸ .rfl) hn8 ?_
      cbv
      refine tsize_u hS (by omega) fun m hm => ?_
      cbv
      refine rtsize_u hS (by omega) fun m2 hm2 => ?_
      cbv
      repeat' (first
        | (refine s_st hS ?_; try cbv)
        | (refine s_sbr hS ?_ ?_ <;> intro h <;> (try cbv) <;> try exact s_ab h)
        | (refine s_sta hS ?_; intro _ _; try cbv)
        | (refine s_stc hS ?_; try cbv))
      obtain rfl : R2 = R1 := hR2.symm.trans hR1
      refine same8_u hS hRok rfl rfl (hF1 ▸ .rfl) hn1 rfl (hF2 ▸ .rfl) hn2 ?_
      cbv
      repeat' (first
        | (refine s_st hS ?_; try cbv)
        | (refine s_sbr hS ?_ ?_ <;> intro h <;> (try cbv) <;> try exact s_ab h)
        | (refine s_sta hS ?_; intro _ _; try cbv)
        | (refine s_stc hS ?_; try cbv)
        | (refine wakes8_u hS ?_; cbv))
      exact .rfl
end Cz
