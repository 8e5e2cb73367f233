/- The engine, part Ar: what bits' operations come to. No condition. -/
import Derived.Test.YtjnpmipoenijdaaCzZ2
namespace Cz
open Go Go.RowKit
set_option linter.unusedSimpArgs false
set_option linter.unusedVariables false
section
variable {P : Program}
theorem toNat_ofInt' {w : Nat} {a : Int} : (BitVec.ofInt w a).toNat = (a % (2 : Int) ^ w).toNat := by
  rw [BitVec.toNat_ofInt]; norm_cast
theorem and_mask {w m : Nat} {a : Int} (hm : m ≤ w) : ((BitVec.ofInt w a &&& BitVec.ofInt w ((2 : Int) ^ m - 1)).toNat : Int) = a % 2 ^ m := by
  have h1 : (2 : Int) ^ m ≤ 2 ^ w := by exact_mod_cast Nat.pow_le_pow_right (by omega : 0 < 2) hm
  have h0 : (0 : Int) < 2 ^ m := by exact_mod_cast Nat.two_pow_pos m
  have hd : (2 : Int) ^ m ∣ 2 ^ w := by exact_mod_cast Nat.pow_dvd_pow 2 hm
  rw [BitVec.toNat_and, toNat_ofInt', toNat_ofInt', Int.emod_eq_of_lt (a := (2 : Int) ^ m - 1) (by omega) (by omega)]
  have h2 : ((2 : Int) ^ m - 1).toNat = 2 ^ m - 1 := by
    have : ((2 ^ m : Nat) : Int) = (2 : Int) ^ m := by norm_cast
    omega
  rw [h2, Nat.and_two_pow_sub_one_eq_mod]
  have h3 : (0 : Int) ≤ a % 2 ^ w := Int.emod_nonneg _ (by have := h0; omega)
  rw [Int.natCast_emod, Int.toNat_of_nonneg h3]
  have : ((2 ^ m : Nat) : Int) = (2 : Int) ^ m := by norm_cast
  rw [this, Int.emod_emod_of_dvd _ hd]
theorem lo_bits (k : IntKind) : lo k ≤ 0 := by cases k <;> decide
theorem hi_bits (k : IntKind) : (2 : Int) ^ (k.bits - 1) - 1 ≤ hi k := by cases k <;> decide
theorem pow_le {m n : Nat} (h : m ≤ n) : (2 : Int) ^ m ≤ 2 ^ n := by exact_mod_cast Nat.pow_le_pow_right (by omega : 0 < 2) h
theorem pow_pos' (m : Nat) : (0 : Int) < 2 ^ m := by exact_mod_cast Nat.two_pow_pos m
/-- The last bits of a number. -/
theorem s_andl {S : Sy} {k : IntKind} {a b c : Int} {m : Nat} {K : Int → Prop} (hS : S0 P = S) (hb : b = c - 1 ∧ (2 : Int) ^ m = c ∧ m + 1 ≤ k.bits) (h : ∀ r, r = a % c → K r) : S.ar .and k a b K := by
  obtain ⟨rfl, rfl, hm⟩ := hb
  refine s_are hS _ ?_ (h _ rfl)
  show k.wrap _ = _
  rw [and_mask (by omega)]
  have h1 := Int.emod_nonneg a (b := (2 : Int) ^ m) (by have := pow_pos' m; omega)
  have h2 := Int.emod_lt_of_pos a (pow_pos' m)
  have h3 := lo_bits k
  have h4 := hi_bits k
  have h5 := pow_le (m := m) (n := k.bits - 1) (by omega)
  exact wrap_id (by omega) (by omega)
theorem s_shrl {S : Sy} {k : IntKind} {a b c : Int} {K : Int → Prop} (hS : S0 P = S) (hc : (2 : Int) ^ (min b.toNat k.bits) = c) (h : ∀ r, r = a / c → K r) : S.ar .shr k a b K := by
  subst hc
  refine s_are hS _ ?_ (h _ rfl)
  show a.fdiv _ = _
  exact Int.fdiv_eq_ediv_of_nonneg _ (by have := pow_pos' (min b.toNat k.bits); omega)
theorem s_shr {S : Sy} {k : IntKind} {a b : Int} {K : Int → Prop} (hS : S0 P = S) (hb : b.toNat ≤ k.bits) (h : ∀ r, r = a / 2 ^ b.toNat → K r) : S.ar .shr k a b K :=
  s_shrl hS rfl (by rw [Nat.min_eq_left hb]; exact h)
theorem s_shll {S : Sy} {k : IntKind} {a b c : Int} {K : Int → Prop} (hS : S0 P = S) (hc : (2 : Int) ^ (min b.toNat k.bits) = c) (h : ∀ r, r = a * c → K r) (h1 : lo k ≤ a * c) (h2 : a * c ≤ hi k) : S.ar .shl k a b K := by
  subst hc
  exact s_are hS _ (wrap_id h1 h2) (h _ rfl)
theorem or_low {a b m : Nat} (ha : a % 2 ^ m = 0) (hb : b < 2 ^ m) : a ||| b = a + b := by
  have h := Nat.two_pow_add_eq_or_of_lt hb (a / 2 ^ m)
  have e : 2 ^ m * (a / 2 ^ m) = a := by have := Nat.div_add_mod a (2 ^ m); omega
  rw [e] at h
  exact h.symm
/-- Bits put under bits. -/
theorem s_orl {S : Sy} {k : IntKind} {a b c : Int} {m : Nat} {K : Int → Prop} (hS : S0 P = S) (hc : (2 : Int) ^ m = c) (h0 : 0 ≤ a) (h1 : a % c = 0) (h2 : 0 ≤ b) (h3 : b < c) (h4 : a + b ≤ hi k) (h : ∀ r, r = a + b → K r) : S.ar .or k a b K := by
  subst hc
  refine s_are hS _ ?_ (h _ rfl)
  show k.wrap _ = _
  have hw : (a + b) < (2 : Int) ^ k.bits := by
    have : hi k < 2 ^ k.bits := by cases k <;> decide
    omega
  have hor : ((BitVec.ofInt k.bits a ||| BitVec.ofInt k.bits b).toNat : Int) = a + b := by
    rw [BitVec.toNat_or, toNat_ofInt', toNat_ofInt', Int.emod_eq_of_lt h0 (by omega), Int.emod_eq_of_lt h2 (by omega), or_low (m := m)]
    · omega
    · have : ((a.toNat % 2 ^ m : Nat) : Int) = 0 := by
        rw [Int.natCast_emod, Int.toNat_of_nonneg h0]; push_cast; exact h1
      omega
    · have : ((2 ^ m : Nat) : Int) = (2 : Int) ^ m := by norm_cast
      omega
  rw [hor]
  exact wrap_id (by have := lo_bits k; omega) h4
end
end Cz
