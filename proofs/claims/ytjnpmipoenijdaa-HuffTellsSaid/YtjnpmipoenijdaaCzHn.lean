/- Huff, part N: bits laid behind bits, plain. -/
import Derived.Test.YtjnpmipoenijdaaCzHm
namespace Cz
open Go Go.RowKit Go.Proofs
set_option linter.unusedSimpArgs false
set_option linter.unusedVariables false
set_option maxRecDepth 100000
set_option maxHeartbeats 4000000
/-- So many bytes of these bits, noughts behind them. -/
def layN (N : Nat) (E : List Bool) : List Int := Hu.packs N (E ++ List.replicate (8 * N - E.length) false)
/-- Bytes of these bits. -/
def layB (E : List Bool) : List Int := layN ((E.length + 7) / 8) E
theorem layN_len (N : Nat) (E : List Bool) : ilen (layN N E) = N := by unfold layN ilen; rw [Hu.packs_len]
theorem layN_ok (N : Nat) (E : List Bool) : Hu.BOk (layN N E) := Hu.packs_ok _ _
theorem layB_len (E : List Bool) : ilen (layB E) = ((E.length + 7) / 8 : Nat) := layN_len _ _
theorem packs_get : ∀ (N : Nat) (X : List Bool) (j : Nat), j < N → (Hu.packs N X)[j]? = some ((Hu.valB ((X.drop (8 * j)).take 8) : Nat) : Int)
  | 0, _, _, h => by omega
  | N + 1, X, 0, _ => by simp [Hu.packs]
  | N + 1, X, j + 1, h => by
    simp only [Hu.packs, List.getElem?_cons_succ]
    rw [packs_get N _ j (by omega), List.drop_drop, show 8 + 8 * j = 8 * (j + 1) by omega]
theorem valB_set : ∀ (Y : List Bool) (q : Nat) (b : Bool), q < Y.length → Y[q]? = some false → Hu.valB (Y.set q b) = Hu.valB Y + b.toNat * 2 ^ (Y.length - 1 - q)
  | [], q, _, h, _ => by simp at h
  | y :: Y, 0, b, _, hf => by
    simp only [List.getElem?_cons_zero, Option.some.injEq] at hf; subst hf
    simp only [List.set_cons_zero, Hu.valB_cons, List.length_cons]
    simp
    omega
  | y :: Y, q + 1, b, h, hf => by
    simp only [List.getElem?_cons_succ] at hf
    simp only [List.length_cons] at h
    simp only [List.set_cons_succ, Hu.valB_cons, List.length_cons, List.length_set]
    rw [valB_set Y q b (by omega) hf, show Y.length + 1 - 1 - (q + 1) = Y.length - 1 - q by omega]
    omega
/-- One bit more: one byte more. -/
theorem layN_set {N k : Nat} {E : List Bool} {b : Bool} (hk : E.length = k) (h : k < 8 * N) :
    ∃ v, (layN N E)[k / 8]? = some v ∧ 0 ≤ v ∧ v + b.toNat * 2 ^ (7 - k % 8) < 256 ∧ layN N (E ++ [b]) = (layN N E).set (k / 8) (v + b.toNat * 2 ^ (7 - k % 8)) := by
  have hX : E ++ [b] ++ List.replicate (8 * N - (E ++ [b]).length) false = (E ++ List.replicate (8 * N - E.length) false).set k b := by
    rw [List.set_append_right _ _ (by omega), hk, Nat.sub_self, show 8 * N - k = (8 * N - (k + 1)) + 1 by omega, List.replicate_succ, List.set_cons_zero]
    simp [hk]
  have hl : (E ++ List.replicate (8 * N - E.length) false).length = 8 * N := by simp; omega
  have hf : (E ++ List.replicate (8 * N - E.length) false)[k]? = some false := by
    rw [List.getElem?_append_right (by omega), hk, Nat.sub_self, List.getElem?_replicate, if_pos (by omega)]
  generalize hXe : E ++ List.replicate (8 * N - E.length) false = X at hX hl hf
  have hY : ((X.drop (8 * (k / 8))).take 8).length = 8 := by rw [List.length_take, List.length_drop]; omega
  have hq : ((X.drop (8 * (k / 8))).take 8)[k % 8]? = some false := by
    rw [List.getElem?_take_of_lt (by omega), List.getElem?_drop, show 8 * (k / 8) + k % 8 = k by omega]; exact hf
  have hset : ((X.set k b).drop (8 * (k / 8))).take 8 = ((X.drop (8 * (k / 8))).take 8).set (k % 8) b := by
    rw [List.drop_set, if_neg (by omega), List.take_set, show k - 8 * (k / 8) = k % 8 by omega]
  have hv := valB_set _ (k % 8) b (by rw [hY]; omega) hq
  rw [hY] at hv
  have hlt := Hu.valB_lt (((X.drop (8 * (k / 8))).take 8).set (k % 8) b)
  rw [List.length_set, hY, hv] at hlt
  refine ⟨(Hu.valB ((X.drop (8 * (k / 8))).take 8) : Nat), ?_, by omega, ?_, ?_⟩
  · unfold layN; rw [hXe]; exact packs_get N X _ (by omega)
  · rw [← pow_cast]
    have : ((b.toNat * 2 ^ (7 - k % 8) : Nat) : Int) = (b.toNat : Int) * ((2 ^ (7 - k % 8) : Nat) : Int) := by push_cast; rfl
    rw [← this]
    have e : 8 - 1 - k % 8 = 7 - k % 8 := by omega
    rw [e] at hlt
    omega
  · unfold layN
    rw [hX, hXe]
    apply List.ext_getElem?
    intro j
    rcases Nat.lt_or_ge j N with hj | hj
    · rw [packs_get N _ j hj]
      by_cases hjk : j = k / 8
      · subst hjk
        rw [List.getElem?_set_self (by rw [Hu.packs_len]; omega), hset, hv, ← pow_cast]
        have e : 8 - 1 - k % 8 = 7 - k % 8 := by omega
        rw [e]
        push_cast
        rfl
      · rw [List.getElem?_set_ne (fun e => hjk e.symm), packs_get N _ j hj]
        congr 3
        rw [List.drop_set]
        split
        · rfl
        · rw [List.take_set]
          rename_i h1
          rw [List.set_eq_of_length_le]
          rw [List.length_take, List.length_drop]
          omega
    · rw [List.getElem?_eq_none (by rw [Hu.packs_len]; omega), List.getElem?_eq_none (by rw [List.length_set, Hu.packs_len]; omega)]
theorem layN_zero (N : Nat) : layN N [] = List.replicate N 0 := by
  unfold layN
  simp only [List.nil_append, List.length_nil, Nat.sub_zero]
  apply List.ext_getElem?
  intro j
  rcases Nat.lt_or_ge j N with hj | hj
  · rw [packs_get N _ j hj, List.getElem?_replicate, if_pos hj]
    congr 1
    rw [List.drop_replicate, List.take_replicate]
    have : ∀ m, Hu.valB (List.replicate m false) = 0 := by
      intro m
      induction m with
      | zero => rfl
      | succ m ih => rw [List.replicate_succ, Hu.valB_cons, ih]; simp
    rw [this]; rfl
  · rw [List.getElem?_eq_none (by rw [Hu.packs_len]; omega), List.getElem?_eq_none (by simp; omega)]
/-- A bit of bytes of bits. -/
theorem layB_bit {E : List Bool} {i : Int} (h0 : 0 ≤ i) (h : i < E.length) : bitI (layB E) i = ((E.getD i.toNat false).toNat : Nat) := by
  unfold bitI layB layN
  rw [Hu.bl_packs _ _ (by simp; omega), List.getD_eq_getElem?_getD, List.getElem?_append_left (by omega), ← List.getD_eq_getElem?_getD]
/-- A bit of a code. -/
theorem code_bit {m c i : Int} (h0 : 0 ≤ i) (h : i < m) (hc : 0 ≤ c) : c / 2 ^ (m - 1 - i).toNat % 2 = (((Hu.bitsN m.toNat c.toNat).getD i.toNat false).toNat : Nat) := by
  rw [List.getD_eq_getElem?_getD, bitsN_get (by omega), show m.toNat - 1 - i.toNat = (m - 1 - i).toNat by omega, Option.getD_some]
  have e2 : c / 2 ^ (m - 1 - i).toNat % 2 = ((c.toNat / 2 ^ (m - 1 - i).toNat % 2 : Nat) : Int) := by
    push_cast
    rw [Int.toNat_of_nonneg hc]
  rw [e2]
  have : c.toNat / 2 ^ (m - 1 - i).toNat % 2 = 0 ∨ c.toNat / 2 ^ (m - 1 - i).toNat % 2 = 1 := by omega
  rcases this with h | h <;> simp [h]
end Cz
