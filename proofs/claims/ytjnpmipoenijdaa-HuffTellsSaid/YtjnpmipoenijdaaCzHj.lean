/- Huff, part J: a text taken out of bits: plain; what octet.Bits tells, used. -/
import Derived.Test.YtjnpmipoenijdaaCzHi
namespace Cz
open Go Go.RowKit Go.Proofs
set_option linter.unusedSimpArgs false
set_option linter.unusedVariables false
set_option maxRecDepth 100000
set_option maxHeartbeats 4000000
def dropI (b : List Int) (i : Int) : List Bool := (Hu.bl b).drop i.toNat
def at1I (b : List Int) (i m : Int) : Option Nat := if okI b i m then findO (numI b i m) m else none
def decI (b : List Int) (i : Int) : List Int × List Bool := Hu.dec (dropI b i)
theorem dropI_len {b : List Int} {i : Int} (h0 : 0 ≤ i) (h : i ≤ 8 * ilen b) : ((dropI b i).length : Int) = 8 * ilen b - i := by
  unfold dropI ilen at *
  rw [List.length_drop, Hu.bl_len]; omega
theorem dropI_drop {b : List Int} {i : Int} (h0 : 0 ≤ i) (m : Nat) : (dropI b i).drop m = dropI b (i + m) := by
  unfold dropI; rw [List.drop_drop, show (i + m).toNat = i.toNat + m by omega]
theorem at1I_eq {b : List Int} {i : Int} (h0 : 0 ≤ i) (m : Nat) (hm : 0 < m := by omega) : Hu.at1 (dropI b i) m = at1I b i m := by
  unfold at1I Hu.at1 okI
  have e : (m ≤ (dropI b i).length) ↔ ((decide (0 ≤ i) && decide (i + m ≤ 8 * ilen b)) = true) := by
    unfold dropI ilen
    rw [List.length_drop, Hu.bl_len, Bool.and_eq_true, decide_eq_true_eq, decide_eq_true_eq]
    constructor
    · intro h; constructor <;> omega
    · intro h; omega
  by_cases h : m ≤ (dropI b i).length
  · rw [if_pos h, if_pos (e.1 h)]
    unfold findO numI dropI
    rw [if_pos ⟨by omega, by omega⟩]
    simp
  · rw [if_neg h, if_neg (fun h' => h (e.2 h'))]
theorem at1I_ok {b : List Int} {i m : Int} {c : Nat} (h : at1I b i m = some c) : okI b i m = true := by
  unfold at1I at h
  split at h
  · assumption
  · cases h
theorem dec_5 {b : List Int} {i : Int} (h0 : 0 ≤ i) {c : Nat} (h : at1I b i 5 = some c) : decI b i = ((c : Int) :: (decI b (i + 5)).1, (decI b (i + 5)).2) := by
  unfold decI
  rw [Hu.dec_some (c := c) (m := 5) (by unfold Hu.sym; rw [at1I_eq h0 5]; simp [h]), dropI_drop h0]; rfl
theorem dec_6 {b : List Int} {i : Int} (h0 : 0 ≤ i) {c : Nat} (h5 : at1I b i 5 = none) (h : at1I b i 6 = some c) : decI b i = ((c : Int) :: (decI b (i + 6)).1, (decI b (i + 6)).2) := by
  unfold decI
  rw [Hu.dec_some (c := c) (m := 6) (by unfold Hu.sym; rw [at1I_eq h0 5, at1I_eq h0 6]; simp [h, h5]), dropI_drop h0]; rfl
theorem dec_7 {b : List Int} {i : Int} (h0 : 0 ≤ i) {c : Nat} (h5 : at1I b i 5 = none) (h6 : at1I b i 6 = none) (h : at1I b i 7 = some c) : decI b i = ((c : Int) :: (decI b (i + 7)).1, (decI b (i + 7)).2) := by
  unfold decI
  rw [Hu.dec_some (c := c) (m := 7) (by unfold Hu.sym; rw [at1I_eq h0 5, at1I_eq h0 6, at1I_eq h0 7]; simp [h, h5, h6]), dropI_drop h0]; rfl
theorem dec_11 {b : List Int} {i : Int} (h0 : 0 ≤ i) {c : Nat} (h5 : at1I b i 5 = none) (h6 : at1I b i 6 = none) (h7 : at1I b i 7 = none) (h : at1I b i 11 = some c) : decI b i = ((c : Int) :: (decI b (i + 11)).1, (decI b (i + 11)).2) := by
  unfold decI
  rw [Hu.dec_some (c := c) (m := 11) (by unfold Hu.sym; rw [at1I_eq h0 5, at1I_eq h0 6, at1I_eq h0 7, at1I_eq h0 11]; simp [h, h5, h6, h7]), dropI_drop h0]; rfl
theorem dec_no {b : List Int} {i : Int} (h0 : 0 ≤ i) (h5 : at1I b i 5 = none) (h6 : at1I b i 6 = none) (h7 : at1I b i 7 = none) (h : at1I b i 11 = none) : decI b i = ([], dropI b i) := by
  unfold decI
  exact Hu.dec_none (by unfold Hu.sym; rw [at1I_eq h0 5, at1I_eq h0 6, at1I_eq h0 7, at1I_eq h0 11]; simp [h, h5, h6, h7])
theorem at1I_f {b : List Int} {i m : Int} (h : okI b i m = false) : at1I b i m = none := by unfold at1I; rw [h]; rfl
theorem at1I_t {b : List Int} {i m r : Int} (h : okI b i m = true) (hr : numI b i m = r) : at1I b i m = findO r m := by unfold at1I; rw [h, hr]; rfl
theorem okI_less {b : List Int} {i m k : Int} (h : okI b i m = false) (h0 : 0 ≤ i) (hk : m ≤ k) : okI b i k = false := by
  unfold okI at h ⊢
  simp only [Bool.and_eq_false_iff, decide_eq_false_iff_not] at h ⊢
  omega
/-- What is taken of bytes; 0, or ErrHuff. -/
def takeL (b : List Int) : List Int := (Hu.take b).getD []
def takeE (b : List Int) : Int := if (Hu.take b).isSome then 0 else 70
theorem take_big {b L : List Int} {i : Int} (h0 : 0 ≤ i) (h : i ≤ 8 * ilen b) (hd : Hu.dec (Hu.bl b) = (L, dropI b i)) (h7 : 7 < 8 * ilen b - i) : takeL b = [] ∧ takeE b = 70 := by
  have : Hu.take b = none := by
    unfold Hu.take
    simp only [hd]
    rw [if_neg]
    have := dropI_len h0 h
    omega
  unfold takeL takeE
  rw [this]; exact ⟨rfl, rfl⟩
theorem numI_all {b : List Int} {i k : Int} (h0 : 0 ≤ i) (h : i ≤ 8 * ilen b) (hk : k = 8 * ilen b - i) : numI b i k = Hu.valB (dropI b i) := by
  unfold numI
  have := dropI_len h0 h
  rw [show ((Hu.bl b).drop i.toNat).take k.toNat = dropI b i by unfold dropI at *; exact List.take_of_length_le (by omega)]
theorem take_end {b L : List Int} {i k : Int} (h0 : 0 ≤ i) (h : i ≤ 8 * ilen b) (hd : Hu.dec (Hu.bl b) = (L, dropI b i)) (hk : k = 8 * ilen b - i) (h7 : k ≤ 7) :
    (numI b i k = 2 ^ k.toNat - 1 → takeL b = L ∧ takeE b = 0) ∧ (numI b i k ≠ 2 ^ k.toNat - 1 → takeL b = [] ∧ takeE b = 70) := by
  have hl := dropI_len h0 h
  rw [numI_all h0 h hk]
  have e : ((Hu.valB (dropI b i) : Int) = 2 ^ k.toNat - 1) ↔ dropI b i = List.replicate (dropI b i).length true := by
    have h1 := Hu.valB_ones (dropI b i).length
    have hp := Nat.two_pow_pos (dropI b i).length
    rw [show k.toNat = (dropI b i).length by omega, ← pow_cast]
    constructor
    · intro e
      refine Hu.valB_inj (by simp) ?_
      rw [h1]; omega
    · intro e
      rw [e, h1]
      simp only [List.length_replicate]
      omega
  unfold takeL takeE Hu.take
  simp only [hd]
  constructor
  · intro h1
    rw [if_pos ⟨by omega, e.1 h1⟩]; exact ⟨rfl, rfl⟩
  · intro h1
    rw [if_neg (fun h2 => h1 (e.2 h2.2))]; exact ⟨rfl, rfl⟩
/-- octet.Bits, used. -/
theorem octet_u {S : Sy} (hS : S0 Try.prog = S) {b : List Int} {F : List SV} {n : Int} {zi z : Z} {k : Nat} {ro lit : Bool} {st : Z} {l : List Blk} {K : SV → List Blk → Prop} (hb : Hu.BOk b) (hn : ilen b ≤ 1000000) (hn' : n = ilen b) (hF : cellsB b = F)
    (hrow : lget l k = .r ro lit st 1 F) (i m : Int) (hi : zi.v = i) (hm : z.v = m) (hz1 : 1 ≤ m) (hz2 : m ≤ 30) (h1 : okI b i m = true → ∀ r, numI b i m = r → K (.tp [.i .i64 (.y r), .tt]) l) (h2 : okI b i m = false → ∀ r, K (.tp [.i .i64 (.y r), .ff]) l) :
    S.call 45 [.sl k 1 (.l 0) (.y n) none, .i .i64 zi, .i .i64 z] l K := by
  subst hn' hF hi hm
  have hB : oBitsB b zi.v z.v = okI b zi.v z.v := by unfold oBitsB; rw [if_neg (by omega), if_neg (by omega)]
  have hf := oBits_f (b := b) (i := zi.v) (k := z.v) hb hn rfl rfl
  cases ht : okI b zi.v z.v with
  | true =>
    refine use_read hS (fun _ => k) (sv := .tp [.i .i64 (.y (numI b zi.v z.v)), .tt]) (call_post hf fun x l' hx => ⟨x, .rfl, hx.trans (sub_tp (.cons (sub_i ?_) (.cons (sub_b_tt ?_) .nil)))⟩) (.cons .rfl (.cons (sub_i rfl) (.cons (sub_i rfl) .nil))) rfl ⟨⟨_, _, _, _, _, _, _, _, rfl, cellsB_plain b, hrow, .rfl⟩, trivial⟩ rfl (h1 ht _ rfl)
    · unfold oBitsR; rw [hB, ht]; rfl
    · rw [hB, ht]
  | false =>
    refine use_read hS (fun _ => k) (sv := .tp [.i .i64 (.y (oBitsR b zi.v z.v)), .ff]) (call_post hf fun x l' hx => ⟨x, .rfl, hx.trans (sub_tp (.cons .rfl (.cons (sub_b_ff ?_) .nil)))⟩) (.cons .rfl (.cons (sub_i rfl) (.cons (sub_i rfl) .nil))) rfl ⟨⟨_, _, _, _, _, _, _, _, rfl, cellsB_plain b, hrow, .rfl⟩, trivial⟩ rfl (h2 ht _)
    rw [hB, ht]
end Cz
