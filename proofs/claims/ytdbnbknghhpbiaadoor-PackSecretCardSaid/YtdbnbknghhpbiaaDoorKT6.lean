/- What the claims of this group lean on, part 6: our engine, the functions' simplified codes, their contracts. No condition. -/
import Derived.Test.YtdbnbknghhpbiaaDoorKT5
set_option linter.unusedSimpArgs false
set_option linter.unusedVariables false
set_option maxRecDepth 100000
set_option maxHeartbeats 4000000
namespace Cz
open Go Go.RowKit Go.Proofs
def satI (x : List UInt8) (i : Int) : Int := (x.getD i.toNat 0).toNat
theorem sat_eq {P : Program} {x : List UInt8} {i : Int} : (S0 P).sat x i = satI x i := rfl
theorem qzaei {x : List UInt8} {i : Nat} {c : Int} (h0 : 0 ≤ c) (h : c < 256) : satI x i = c ↔ (x.getD i 0 == c.toNat.toUInt8) = true := by
  unfold satI
  rw [Int.toNat_natCast, beq_iff_eq]
  constructor
  · intro e
    apply UInt8.toNat_inj.1
    rw [UInt8.toNat_ofNat', ← e, Int.toNat_natCast]
    have := (x.getD i 0).toNat_lt
    omega
  · intro e
    rw [e]
    simp only [Nat.toUInt8, UInt8.toNat_ofNat']
    omega
theorem idx_found {x : List UInt8} {c j : Int} (h0 : 0 ≤ c) (h : c < 256) (hj0 : 0 ≤ j) (hj : j < ilen x) (hn : ∀ i : Nat, (i : Int) < j → satI x i ≠ c) (he : satI x j = c) : idxI x c = j := by
  unfold idxI
  have : (List.range x.length).find? (fun i => x.getD i 0 == c.toNat.toUInt8) = some j.toNat := by
    rw [List.find?_range_eq_some]
    have he' : (x.getD j.toNat 0 == c.toNat.toUInt8) = true := (qzaei h0 h).1 (by rw [Int.toNat_of_nonneg hj0]; exact he)
    refine ⟨he', by simp only [List.mem_range]; unfold ilen at hj; omega, ?_⟩
    intro i hi
    have h1 := hn i (by omega)
    rw [Ne, qzaei h0 h] at h1
    simpa using h1
  rw [this]
  show ((j.toNat : Nat) : Int) = j
  omega
theorem idx_none {x : List UInt8} {c : Int} (h0 : 0 ≤ c) (h : c < 256) (hn : ∀ i : Nat, (i : Int) < ilen x → satI x i ≠ c) : idxI x c = -1 := by
  unfold idxI
  have : (List.range x.length).find? (fun i => x.getD i 0 == c.toNat.toUInt8) = none := by
    rw [List.find?_eq_none]
    intro i hi
    simp only [List.mem_range] at hi
    have h1 := hn i (by unfold ilen; omega)
    rw [Ne, qzaei h0 h] at h1
    exact h1
  rw [this]
theorem nc (n : Nat) : NatCast.natCast n = (n : Int) := rfl
theorem place_f {x : List UInt8} {c r : Int} (hx : ilen x ≤ 1000) (h0 : 0 ≤ c) (hc : c < 256) (hr : idxI x c = r) : (S0 Tryd.prog).call 137 [.s x, .i .u8 (.y c)] [] (fun y _ => Sub y (.i .i64 (.y r))) := by
  have hnx : (S0 Tryd.prog).slen x = ilen x := rfl
  rw [slen_eq] at hnx
  have hx0 := qah x
  generalize hS : S0 Tryd.prog = S
  refine qaa hS I.qlm ?_
  cbv
  refine qau hS 0 I.qhn (fun j : Int => 0 ≤ j ∧ j ≤ ilen x ∧ ∀ i : Nat, (i : Int) < j → satI x i ≠ c)
    (fun j => [(5, .i .i64 (.y j))]) (fun _ => []) (fun j => (ilen x - j).toNat) 0 rfl ⟨⟨Int.le_refl _, by omega, fun i hi => by omega⟩, rfl, ?_, ?_, by cbv⟩ ?_
  · cbv; all_goals exact s_sA
  · cbv; all_goals exact s_bA
  intro j hj
  cbv
  obtain ⟨g0, g1, g2'⟩ := hj
  have g2 : ∀ i : Nat, (i : Int) < j → satI x i ≠ c := g2'
  repeat' (first
    | (refine s_st hS ?_; try cbv)
    | (refine qad hS ?_ ?_ <;> intro h <;> (try cbv) <;> try exact s_ab h)
    | (refine qal hS ?_; intro _ _; try cbv)
    | (refine qaf hS ?_; try cbv))
  · refine qan ?_
    rw [sat_eq] at h
    simp only [Z.v]
    rw [← hr]; exact (idx_found h0 hc g0 (by omega) g2 h).symm
  · rw [sat_eq] at h
    rename_i j2 hj2
    have g3 : ∀ i : Nat, (i : Int) < j2 → satI x i ≠ c := by
      intro i hi
      rcases Int.lt_or_le i j with hl | hl
      · exact g2 i hl
      · have e : (i : Int) = j := by omega
        rw [e]; exact h
    refine ⟨j2, by omega, ⟨by omega, by omega, g3⟩, rfl, ?_, ?_, by cbv⟩
    · cbv; all_goals exact s_sA
    · cbv; all_goals exact s_bA
  · refine qan ?_
    simp only [Z.v]
    have g2 : ∀ i : Nat, (i : Int) < j → satI x i ≠ c := g2'
    simp only [nc] at *
    rw [← hr]; exact (idx_none h0 hc fun i hi => g2 i (by omega)).symm
theorem qds {S : Sy} (hS : S0 Tryd.prog = S) {l : List Blk} {K : SV → List Blk → Prop} {x : List UInt8} {c : Z} (hx : ilen x ≤ 1000) (h0 : 0 ≤ c.v) (h : c.v < 256) (hK : ∀ r, idxI x c.v = r → K (.i .i64 (.y r)) l) :
    S.call 137 [.s x, .i .u8 c] l K :=
  qbm hS (place_f (c := c.v) hx h0 h rfl) (.cons .rfl (.cons (qan rfl) .nil)) rfl rfl (hK _ rfl)
def w18 : List UInt8 := [45, 47, 48, 49, 50, 51, 97, 99, 101, 105, 110, 111, 114, 115, 116, 117, 46, 52, 53, 54, 55, 56, 57, 58, 98, 100, 102, 103, 104, 108, 109, 112, 65, 66, 67, 68, 69, 70, 71, 72, 106, 107, 113, 118, 119, 120, 121, 122]
theorem w18_all : (List.range 256).all (fun n => has w18 n == !(Hu.cls n == 11)) = true := by decide +kernel
theorem w18_at {c : Int} (h0 : 0 ≤ c) (h : c < 256) : (Hu.cls c.toNat = 11 ∧ idxI w18 c < 0) ∨ (Hu.cls c.toNat ≠ 11 ∧ 0 ≤ idxI w18 c) := by
  obtain ⟨n, rfl⟩ : ∃ n : Nat, c = n := ⟨c.toNat, by omega⟩
  have h1 := List.all_eq_true.1 w18_all n (by simp; omega)
  simp only [Int.toNat_natCast] at *
  by_cases e : Hu.cls n = 11
  · exact .inl ⟨e, qgu (by simpa [e] using h1)⟩
  · exact .inr ⟨e, qsr (by rw [beq_iff_eq] at h1; rw [h1]; simp [e])⟩
theorem idx_all : (List.range 256).all (fun n => (!(Hu.cls n == 5) || (idxI w5 n == (Hu.codeOf n : Int))) && ((!(Hu.cls n == 6) || (32 + idxI w6 n == (Hu.codeOf n : Int))) && (!(Hu.cls n == 7) || (96 + idxI w7 n == (Hu.codeOf n : Int))))) = true := by decide +kernel
theorem idx_code {c : Int} (h0 : 0 ≤ c) (h : c < 256) : (Hu.cls c.toNat = 5 → idxI w5 c = codeI c) ∧ (Hu.cls c.toNat = 6 → 32 + idxI w6 c = codeI c) ∧ (Hu.cls c.toNat = 7 → 96 + idxI w7 c = codeI c) := by
  obtain ⟨n, rfl⟩ : ∃ n : Nat, c = n := ⟨c.toNat, by omega⟩
  have h1 := List.all_eq_true.1 idx_all n (by simp; omega)
  simp only [Bool.and_eq_true, Bool.or_eq_true, Bool.not_eq_true', beq_eq_false_iff_ne, beq_iff_eq] at h1
  unfold codeI
  simp only [Int.toNat_natCast] at *
  exact ⟨fun e => h1.1.resolve_left (by simp [e]), fun e => h1.2.1.resolve_left (by simp [e]), fun e => h1.2.2.resolve_left (by simp [e])⟩
theorem others_f {c r : Int} (h0 : 0 ≤ c) (hc : c < 256) (hr : cntI 11 c = r) : (S0 Tryd.prog).call 138 [.i .u8 (.y c)] [] (fun y _ => Sub y (.i .i64 (.y r))) := by
  generalize hS : S0 Tryd.prog = S
  refine qaa hS I.qkd ?_
  cbv
  refine qau hS 0 I.qgx (fun x : Int × Int => 0 ≤ x.1 ∧ x.1 ≤ c ∧ x.2 = cntI 11 x.1)
    (fun x => [(4, .i .i64 (.y x.1)), (3, .i .i64 (.y x.2))]) (fun _ => []) (fun x => (c - x.1).toNat) (0, 0) rfl ⟨⟨Int.le_refl _, by dsimp only; omega, rfl⟩, rfl, ?_, ?_, by cbv⟩ ?_
  · cbv; all_goals exact s_sA
  · cbv; all_goals exact s_bA
  intro x
  obtain ⟨j, w⟩ := x
  intro hx
  dsimp only at hx
  cbv
  obtain ⟨g0, g1, g2⟩ := hx
  have hw : 0 ≤ w ∧ w ≤ j := by rw [g2]; exact qvn g0
  refine s_cvi hS ?_ (by simp only [lo]; omega) (by simp only [hi]; omega)
  cbv
  refine qad hS ?_ ?_ <;> intro h <;> cbv
  · repeat' (first
    | (refine s_st hS ?_; try cbv)
    | (refine qad hS ?_ ?_ <;> intro h <;> (try cbv) <;> try exact s_ab h)
    | (refine qal hS ?_; intro _ _; try cbv)
    | (refine qaf hS ?_; try cbv))
    rcases w18_at g0 (by omega) with ⟨e, hq⟩ | ⟨e, hq⟩
    · refine qds hS (by decide) g0 (by simp only [Z.v]; omega) fun r18 h18 => ?_
      replace h18 : r18 < 0 := by rw [← h18]; exact hq
      cbv
      repeat' (first
        | (refine s_st hS ?_; try cbv)
        | (refine qad hS ?_ ?_ <;> intro h <;> (try cbv) <;> try exact s_ab h)
        | (refine qal hS ?_; intro _ _; try cbv)
        | (refine qaf hS ?_; try cbv))
      rename_i w2 hw2 j2 hj2
      have n11 := qbt (m := 11) g0
      rw [if_pos e, ← hj2] at n11
      have g2 : w = cntI 11 j := g2
      refine ⟨(j2, w2), by dsimp only; omega, ⟨by dsimp only; omega, by dsimp only; omega, by dsimp only; omega⟩, rfl, ?_, ?_, by cbv⟩
      · cbv; all_goals exact s_sA
      · cbv; all_goals exact s_bA
    · refine qds hS (by decide) g0 (by simp only [Z.v]; omega) fun r18 h18 => ?_
      replace h18 : 0 ≤ r18 := by rw [← h18]; exact hq
      cbv
      repeat' (first
        | (refine s_st hS ?_; try cbv)
        | (refine qad hS ?_ ?_ <;> intro h <;> (try cbv) <;> try exact s_ab h)
        | (refine qal hS ?_; intro _ _; try cbv)
        | (refine qaf hS ?_; try cbv))
      rename_i j2 hj2
      have n11 := qbt (m := 11) g0
      rw [if_neg e, ← hj2] at n11
      have g2 : w = cntI 11 j := g2
      refine ⟨(j2, w), by dsimp only; omega, ⟨by dsimp only; omega, by dsimp only; omega, by dsimp only; omega⟩, rfl, ?_, ?_, by cbv⟩
      · cbv; all_goals exact s_sA
      · cbv; all_goals exact s_bA
  · refine qan ?_
    simp only [Z.v]
    rw [← hr, g2, show j = c by omega]
theorem others_u {S : Sy} (hS : S0 Tryd.prog = S) {l : List Blk} {K : SV → List Blk → Prop} {c : Z} (h0 : 0 ≤ c.v) (h : c.v < 256) (hK : ∀ r, cntI 11 c.v = r → K (.i .i64 (.y r)) l) :
    S.call 138 [.i .u8 c] l K :=
  qbm hS (others_f (c := c.v) h0 h rfl) (.cons (qan rfl) .nil) rfl rfl (hK _ rfl)
theorem rCode_f {c a m : Int} (h0 : 0 ≤ c) (hc : c < 256) (ha : codeI c = a) (hm : clsI c = m) : (S0 Tryd.prog).call 135 [.i .u8 (.y c)] [] (fun x _ => Sub x (.tp [.i .i64 (.y a), .i .i64 (.y m)])) := by
  obtain ⟨x5, x6, x7⟩ := idx_code h0 hc
  have cb := codeI_bd ⟨h0, hc⟩
  rw [ha] at x5 x6 x7 cb
  generalize hS : S0 Tryd.prog = S
  refine qaa hS I.qnf ?_
  cbv
  rcases idx_at h0 hc with ⟨e, i5, i6, i7⟩ | ⟨e, i5, i6, i7⟩ | ⟨e, i5, i6, i7⟩ | ⟨e, i5, i6, i7⟩
  · have x5 := x5 e
    have em : m = 5 := by rw [← hm]; unfold clsI; rw [e]; rfl
    refine qds hS (by decide) h0 hc fun r h => ?_
    replace h : r = idxI w5 c := h.symm
    cbv
    repeat' (first
      | (refine s_st hS ?_; try cbv)
      | (refine qad hS ?_ ?_ <;> intro h <;> (try cbv) <;> try exact s_ab h)
      | (refine qal hS ?_; intro _ _; try cbv)
      | (refine qaf hS ?_; try cbv))
    refine qds hS (by decide) h0 hc fun s h => ?_
    replace h : s = idxI w5 c := h.symm
    cbv
    all_goals exact s_sA
  · have x6 := x6 e
    have em : m = 6 := by rw [← hm]; unfold clsI; rw [e]; rfl
    refine qds hS (by decide) h0 hc fun r h => ?_
    replace h : r = idxI w5 c := h.symm
    cbv
    repeat' (first
      | (refine s_st hS ?_; try cbv)
      | (refine qad hS ?_ ?_ <;> intro h <;> (try cbv) <;> try exact s_ab h)
      | (refine qal hS ?_; intro _ _; try cbv)
      | (refine qaf hS ?_; try cbv))
    refine qds hS (by decide) h0 hc fun r h => ?_
    replace h : r = idxI w6 c := h.symm
    cbv
    repeat' (first
      | (refine s_st hS ?_; try cbv)
      | (refine qad hS ?_ ?_ <;> intro h <;> (try cbv) <;> try exact s_ab h)
      | (refine qal hS ?_; intro _ _; try cbv)
      | (refine qaf hS ?_; try cbv))
    refine qds hS (by decide) h0 hc fun s h => ?_
    replace h : s = idxI w6 c := h.symm
    cbv
    repeat' (first
      | (refine s_st hS ?_; try cbv)
      | (refine qad hS ?_ ?_ <;> intro h <;> (try cbv) <;> try exact s_ab h)
      | (refine qal hS ?_; intro _ _; try cbv)
      | (refine qaf hS ?_; try cbv))
    all_goals exact s_sA
  · have x7 := x7 e
    have em : m = 7 := by rw [← hm]; unfold clsI; rw [e]; rfl
    refine qds hS (by decide) h0 hc fun r h => ?_
    replace h : r = idxI w5 c := h.symm
    cbv
    repeat' (first
      | (refine s_st hS ?_; try cbv)
      | (refine qad hS ?_ ?_ <;> intro h <;> (try cbv) <;> try exact s_ab h)
      | (refine qal hS ?_; intro _ _; try cbv)
      | (refine qaf hS ?_; try cbv))
    refine qds hS (by decide) h0 hc fun r h => ?_
    replace h : r = idxI w6 c := h.symm
    cbv
    repeat' (first
      | (refine s_st hS ?_; try cbv)
      | (refine qad hS ?_ ?_ <;> intro h <;> (try cbv) <;> try exact s_ab h)
      | (refine qal hS ?_; intro _ _; try cbv)
      | (refine qaf hS ?_; try cbv))
    refine qds hS (by decide) h0 hc fun r h => ?_
    replace h : r = idxI w7 c := h.symm
    cbv
    repeat' (first
      | (refine s_st hS ?_; try cbv)
      | (refine qad hS ?_ ?_ <;> intro h <;> (try cbv) <;> try exact s_ab h)
      | (refine qal hS ?_; intro _ _; try cbv)
      | (refine qaf hS ?_; try cbv))
    refine qds hS (by decide) h0 hc fun s h => ?_
    replace h : s = idxI w7 c := h.symm
    cbv
    repeat' (first
      | (refine s_st hS ?_; try cbv)
      | (refine qad hS ?_ ?_ <;> intro h <;> (try cbv) <;> try exact s_ab h)
      | (refine qal hS ?_; intro _ _; try cbv)
      | (refine qaf hS ?_; try cbv))
    all_goals exact s_sA
  · have x11 : a = 1792 + cntI 11 c := by rw [← ha, codeI_eq e]; rfl
    have em : m = 11 := by rw [← hm]; unfold clsI; rw [e]; rfl
    refine qds hS (by decide) h0 hc fun r h => ?_
    replace h : r = idxI w5 c := h.symm
    cbv
    repeat' (first
      | (refine s_st hS ?_; try cbv)
      | (refine qad hS ?_ ?_ <;> intro h <;> (try cbv) <;> try exact s_ab h)
      | (refine qal hS ?_; intro _ _; try cbv)
      | (refine qaf hS ?_; try cbv))
    refine qds hS (by decide) h0 hc fun r h => ?_
    replace h : r = idxI w6 c := h.symm
    cbv
    repeat' (first
      | (refine s_st hS ?_; try cbv)
      | (refine qad hS ?_ ?_ <;> intro h <;> (try cbv) <;> try exact s_ab h)
      | (refine qal hS ?_; intro _ _; try cbv)
      | (refine qaf hS ?_; try cbv))
    refine qds hS (by decide) h0 hc fun r h => ?_
    replace h : r = idxI w7 c := h.symm
    cbv
    repeat' (first
      | (refine s_st hS ?_; try cbv)
      | (refine qad hS ?_ ?_ <;> intro h <;> (try cbv) <;> try exact s_ab h)
      | (refine qal hS ?_; intro _ _; try cbv)
      | (refine qaf hS ?_; try cbv))
    refine others_u hS h0 hc fun s h => ?_
    replace h : s = cntI 11 c := h.symm
    cbv
    repeat' (first
      | (refine s_st hS ?_; try cbv)
      | (refine qad hS ?_ ?_ <;> intro h <;> (try cbv) <;> try exact s_ab h)
      | (refine qal hS ?_; intro _ _; try cbv)
      | (refine qaf hS ?_; try cbv))
    all_goals exact s_sA
theorem rCode_u {S : Sy} (hS : S0 Tryd.prog = S) {l : List Blk} {K : SV → List Blk → Prop} {c : Z} (h0 : 0 ≤ c.v) (h : c.v < 256) (hK : ∀ a m, codeI c.v = a → clsI c.v = m → K (.tp [.i .i64 (.y a), .i .i64 (.y m)]) l) :
    S.call 135 [.i .u8 c] l K :=
  qbm hS (rCode_f (c := c.v) h0 h rfl rfl) (.cons (qan rfl) .nil) rfl rfl (hK _ _ rfl rfl)
theorem find_at {a m i : Int} (h0 : 0 ≤ i) (h : i < 256) (h1 : codeI i = a) (h2 : clsI i = m) : findR a m = i ∧ findB a m = true := by
  have : findO a m = some i.toNat := by
    unfold findO codeI clsI at *
    rw [← h1, ← h2, if_pos ⟨by omega, by omega⟩]
    simp only [Int.toNat_natCast]
    exact Hu.qzadk (by omega)
  unfold findR findB
  rw [this]
  refine ⟨?_, rfl⟩
  show ((i.toNat : Nat) : Int) = i
  omega
theorem find_not {a m : Int} (h : ∀ i : Int, 0 ≤ i → i < 256 → ¬(codeI i = a ∧ clsI i = m)) : findR a m = 0 ∧ findB a m = false := by
  have : findO a m = none := by
    cases hf : findO a m with
    | none => rfl
    | some c => obtain ⟨h1, h2, h3⟩ := qqe hf; exact absurd ⟨h2, h3⟩ (h c (by omega) (by omega))
  unfold findR findB
  rw [this]; exact ⟨rfl, rfl⟩
theorem rOf_f {a m r : Int} {b : Bool} (hr : findR a m = r) (hb : findB a m = b) : (S0 Tryd.prog).call 132 [.i .i64 (.y a), .i .i64 (.y m)] [] (fun x _ => Sub x (.tp [.i .u8 (.y r), .b b])) := by
  generalize hS : S0 Tryd.prog = S
  refine qaa hS I.qqd ?_
  cbv
  refine qau hS 0 I.qkg (fun j : Int => 0 ≤ j ∧ j ≤ 256 ∧ ∀ i : Int, 0 ≤ i → i < j → ¬(codeI i = a ∧ clsI i = m))
    (fun j => [(6, .i .i64 (.y j))]) (fun _ => []) (fun j => (256 - j).toNat) 0 rfl ⟨⟨Int.le_refl _, by omega, fun i h h' => by omega⟩, rfl, ?_, ?_, by cbv⟩ ?_
  · cbv; all_goals exact s_sA
  · cbv; all_goals exact s_bA
  intro j hj
  cbv
  obtain ⟨g0, g1, g2⟩ := hj
  refine qad hS ?_ ?_ <;> intro h <;> cbv
  · repeat' (first
    | (refine s_st hS ?_; try cbv)
    | (refine qad hS ?_ ?_ <;> intro h <;> (try cbv) <;> try exact s_ab h)
    | (refine qal hS ?_; intro _ _; try cbv)
    | (refine qaf hS ?_; try cbv)
    | (refine rCode_u hS g0 (by simp only [Z.v]; omega) fun x y hx hy => ?_; cbv))
    · rename_i e1 e2
      have hf := find_at (a := a) (m := m) g0 (by assumption) (hx.trans (by assumption)) (hy.trans (by assumption))
      have e1 : r = j := by rw [← hr, hf.1]
      have e2 : b = true := by rw [← hb, hf.2]
      all_goals exact s_sA
    · rename_i e1 j2 hj2
      refine ⟨j2, by omega, ⟨by omega, by omega, fun i h0 h1 => ?_⟩, rfl, ?_, ?_, by cbv⟩
      · rcases Int.lt_or_le i j with hl | hl
        · exact g2 i h0 hl
        · obtain rfl : i = j := by omega
          rintro ⟨e3, e4⟩
          exact absurd (hy.symm.trans e4) (by assumption)
      · cbv; all_goals exact s_sA
      · cbv; all_goals exact s_bA
    · rename_i j2 hj2
      refine ⟨j2, by omega, ⟨by omega, by omega, fun i h0 h1 => ?_⟩, rfl, ?_, ?_, by cbv⟩
      · rcases Int.lt_or_le i j with hl | hl
        · exact g2 i h0 hl
        · obtain rfl : i = j := by omega
          rintro ⟨e3, e4⟩
          exact absurd (hx.symm.trans e3) (by assumption)
      · cbv; all_goals exact s_sA
      · cbv; all_goals exact s_bA
  · have := find_not (a := a) (m := m) fun i h0 h1 => g2 i h0 (by omega)
    have e1 : r = 0 := by rw [← hr, this.1]
    have e2 : b = false := by rw [← hb, this.2]
    all_goals exact s_sA
end Cz
namespace Cz
open Go Go.RowKit Go.Proofs
theorem s_quo {S : Sy} {k : IntKind} {a b : Int} {K : Int → Prop} (hS : S0 Tryd.prog = S) (h0 : 0 ≤ a) (hb : 0 < b) (h1 : a ≤ Cz.hi k) (h : ∀ r, r = a / b → K r) : S.ar .quo k a b K := by
  refine qtn hS _ ?_ (h _ rfl)
  show k.wrap (a.tdiv b) = _
  rw [Int.tdiv_eq_ediv_of_nonneg h0]
  have h2 := Int.ediv_nonneg h0 (by omega : 0 ≤ b)
  have h3 := Int.ediv_le_self b h0
  exact qhu (by have := qzi k; omega) (by omega)
theorem s_rem {S : Sy} {k : IntKind} {a b : Int} {K : Int → Prop} (hS : S0 Tryd.prog = S) (h0 : 0 ≤ a) (h : ∀ r, r = a % b → K r) : S.ar .rem k a b K := by
  refine qtn hS _ ?_ (h _ rfl)
  show a.tmod b = _
  exact Int.tmod_eq_emod_of_nonneg h0
def shortB (b : List Int) : Bool := decide ((bitsI b (ilen b) + 7) / 8 < ilen b)
theorem Shorter_f {b : List Int} {t : Bool} (hb : Hu.BOk b) (hn : ilen b ≤ 1000000) (ht : shortB b = t) :
    (S0 Tryd.prog).call 89 [.sl 0 1 (.l 0) (.y (ilen b)) none] [.r true true (.l 0) 1 (cellsB b)] (fun x _ => Sub x (.b t)) := by
  have hB := Bits_f hb hn rfl
  obtain ⟨r, hr⟩ : ∃ r, bitsI b (ilen b) = r := ⟨_, rfl⟩
  have hrb := qpc (b := b) (qah b)
  obtain ⟨n, hn'⟩ : ∃ n, ilen b = n := ⟨_, rfl⟩
  have h0n := qah b
  have ht' : t = decide ((r + 7) / 8 < n) := by rw [← ht, ← hr, ← hn']; rfl
  rw [hr] at hrb hB
  rw [hn'] at hn h0n hrb hB ⊢
  have hpl := qai b
  generalize hF : cellsB b = F at hpl hB ⊢
  generalize hS : S0 Tryd.prog = S
  refine qaa hS I.qvd ?_
  cbv
  refine qhw hS id hB .rfl rfl ⟨⟨true, .l 0, 1, F, true, true, .l 0, F, rfl, hpl, rfl, .rfl⟩, trivial⟩ rfl ?_
  cbv
  repeat' (first
    | (refine s_st hS ?_; try cbv)
    | (refine qad hS ?_ ?_ <;> intro h <;> (try cbv) <;> try exact s_ab h)
    | (refine qal hS ?_; intro _ _; try cbv)
    | (refine qaf hS ?_; try cbv)
    | (refine qzaby hS (c := 8) rfl ?_; intro _ _; cbv))
  rename_i e
  refine qrg ?_
  simp only [← hS, Int.ofNat_eq_natCast, cq, Bool.not_eq_true', Bool.not_eq_false', decide_eq_true_eq, decide_eq_false_iff_not, beq_iff_eq, beq_eq_false_iff_ne, ne_eq]
  rw [ht']
  congr 2
  omega
def shrI (v k : Int) : Int := v / 2 ^ k.toNat
def bitB (b : List Int) (i : Int) : Bool := okI b i 1
def bitR (b : List Int) (i : Int) : Int := if bitB b i then bitI b i else 0
theorem Bit_f {b : List Int} {i r : Int} {t : Bool} (hb : Hu.BOk b) (hn : ilen b ≤ 1000000) (hi64 : i ≤ 9223372036854775807) (hr : bitR b i = r) (ht : bitB b i = t) :
    (S0 Tryd.prog).call 133 [.sl 0 1 (.l 0) (.y (ilen b)) none, .i .i64 (.y i)] [.r true true (.l 0) 1 (cellsB b)] (fun x _ => Sub x (.tp [.i .i64 (.y r), .b t])) := by
  obtain ⟨n, hn'⟩ : ∃ n, n = ilen b := ⟨_, rfl⟩
  have h0n := qah b
  rw [← hn'] at hn h0n ⊢
  have hpl := qai b
  generalize hF : cellsB b = F at hpl ⊢
  generalize hS : S0 Tryd.prog = S
  refine qaa hS I.qoo ?_
  cbv
  repeat' (first
    | (refine s_st hS ?_; try cbv)
    | (refine qad hS ?_ ?_ <;> intro h <;> (try cbv) <;> try exact s_ab h)
    | (refine qal hS ?_; intro _ _; try cbv)
    | (refine qaf hS ?_; try cbv)
    | (refine s_quo hS (by omega) (by omega) (by simp only [hi]; omega) ?_; intro _ _; cbv))
  · have e2 : t = false := by rw [← ht]; exact okI_f (.inl h)
    have e1 : r = 0 := by rw [← hr]; unfold bitR; rw [ht, e2]; rfl
    all_goals exact s_sA
  · have e2 : t = false := by rw [← ht]; exact okI_f (.inr (by omega))
    have e1 : r = 0 := by rw [← hr]; unfold bitR; rw [ht, e2]; rfl
    all_goals exact s_sA
  · have e2 : t = true := by rw [← ht]; exact okI_t (by omega) (by omega)
    have e1 : r = bitI b i := by rw [← hr]; unfold bitR; rw [ht, e2]; rfl
    rename_i q1 hq1 q hq
    obtain ⟨v, hv⟩ := qfe (l := b) (i := q) (by omega) (by omega)
    have hb0 := hb v (List.mem_of_getElem? hv)
    repeat' (first
      | (refine s_st hS ?_; try cbv)
      | (refine qad hS ?_ ?_ <;> intro h <;> (try cbv) <;> try exact s_ab h)
      | (refine qal hS ?_; intro _ _; try cbv)
      | (refine qaf hS ?_; try cbv)
      | (refine rowB hS hF hv rfl (by omega) ?_; try cbv))
    obtain ⟨sh, hsh⟩ : ∃ sh, sh = 7 - i % 8 := ⟨_, rfl⟩
    refine qau hS 1 I.qje (fun x : Int × Int => 0 ≤ x.1 ∧ x.1 ≤ sh ∧ x.2 = shrI v x.1)
      (fun x => [(7, .i .i64 (.y x.1)), (6, .i .i64 (.y x.2))]) (fun x => [])
      (fun x => (sh - x.1).toNat) (0, v) rfl ⟨⟨Int.le_refl _, by dsimp only; omega, by simp [shrI]⟩, rfl, ?_, ?_, ?_⟩ ?_
    · cbv; all_goals exact s_sA
    · cbv; all_goals exact s_bA
    · cbv; exact gc_c (gc_m (qax hpl)) rfl
    · intro x
      obtain ⟨k, w⟩ := x
      intro hx
      dsimp only at hx
      cbv
      obtain ⟨g0, g1, g2⟩ := hx
      unfold shrI at g2
      have hw : 0 ≤ w ∧ w < 256 := by
        rw [g2]
        have h1 := Int.ediv_nonneg hb0.1 (by have := qde k.toNat; omega : (0 : Int) ≤ 2 ^ k.toNat)
        have h2 := Int.ediv_le_self ((2 : Int) ^ k.toNat) hb0.1
        omega
      have hw2 : w / 2 = shrI v (k + 1) := by
        unfold shrI
        rw [g2, Int.ediv_ediv_of_nonneg (by have := qde k.toNat; omega), show (k + 1).toNat = k.toNat + 1 by omega, Int.pow_succ]
      have hend : k = sh → bitI b i = w % 2 := fun e => bit_of hv hb (by omega) hq (j := k) (by omega) (by rw [g2])
      clear g2
      repeat' (first
        | (refine s_st hS ?_; try cbv)
        | (refine qad hS ?_ ?_ <;> intro h <;> (try cbv) <;> try exact s_ab h)
        | (refine qal hS ?_; intro _ _; try cbv)
        | (refine qaf hS ?_; try cbv)
        | (refine s_rem hS (by omega) ?_; intro _ _; cbv)
        | (refine s_quo hS (by omega) (by omega) (by simp only [hi]; omega) ?_; intro _ _; cbv))
      · rename_i w2 hw2' k2 hk2
        refine ⟨(k2, w2), by dsimp only; omega, ⟨by dsimp only; omega, by dsimp only; omega, ?_⟩, rfl, ?_, ?_, ?_⟩
        · dsimp only; rw [hw2', hk2]; exact hw2
        · cbv; all_goals exact s_sA
        · cbv; all_goals exact s_bA
        · cbv; exact gc_c (gc_m (qax hpl)) rfl
      · have := hend (by omega)
        all_goals exact s_sA
theorem Bit_u {S : Sy} (hS : S0 Tryd.prog = S) {b : List Int} {F : List SV} {n : Int} {zi : Z} {k : Nat} {ro lit : Bool} {st : Z} {l : List Blk} {K : SV → List Blk → Prop} (hb : Hu.BOk b) (hn : ilen b ≤ 1000000) (hn' : n = ilen b) (hF : cellsB b = F)
    (hrow : lget l k = .r ro lit st 1 F) (i : Int) (hzi : zi.v = i) (h0 : 0 ≤ i) (h8 : i < 8 * n) (h1 : ∀ r, bitI b i = r → K (.tp [.i .i64 (.y r), .tt]) l) :
    S.call 133 [.sl k 1 (.l 0) (.y n) none, .i .i64 zi] l K := by
  subst hn' hF hzi
  have hB : bitB b zi.v = true := okI_t h0 (by omega)
  have hf := Bit_f (b := b) (i := zi.v) hb hn (by omega) rfl rfl
  refine qhw hS (fun _ => k) (sv := .tp [.i .i64 (.y (bitI b zi.v)), .tt]) (qay hf fun x l' hx => ⟨x, .rfl, hx.trans (qbj (.cons (qan ?_) (.cons (qkl hB) .nil)))⟩) (.cons .rfl (.cons (qan rfl) .nil)) rfl ⟨⟨_, _, _, _, _, _, _, _, rfl, qai b, hrow, .rfl⟩, trivial⟩ rfl (h1 _ rfl)
  unfold bitR; rw [hB]; rfl
theorem rBitsO_f {b : List Int} {i k r : Int} {t : Bool} (hb : Hu.BOk b) (hn : ilen b ≤ 1000000) (hr : oBitsR b i k = r) (ht : oBitsB b i k = t) :
    (S0 Tryd.prog).call 127 [.sl 0 1 (.l 0) (.y (ilen b)) none, .i .i64 (.y i), .i .i64 (.y k)] [.r true true (.l 0) 1 (cellsB b)] (fun x _ => Sub x (.tp [.i .i64 (.y r), .b t])) := by
  obtain ⟨n, hn'⟩ : ∃ n, n = ilen b := ⟨_, rfl⟩
  have hnb := hn
  have h0n := qah b
  have hyes : 0 ≤ k → k ≤ 30 → 0 ≤ i → i + k ≤ 8 * n → t = true ∧ r = numI b i k := by
    intro h1 h2 h3 h4
    have e2 : t = true := by
      rw [← ht]; unfold oBitsB
      split
      · simp; omega
      · rw [if_neg (by omega)]; exact okI_t h3 (by omega)
    exact ⟨e2, by rw [← hr]; unfold oBitsR; rw [ht, e2]; rfl⟩
  have hno : (k < 0 ∨ 30 < k ∨ i < 0 ∨ 8 * n < i + k ∨ 8 * n < i) → t = false ∧ r = 0 := by
    intro h1
    have e2 : t = false := by
      rw [← ht]; unfold oBitsB
      split
      · rename_i hk; simp; omega
      · split
        · rfl
        · exact okI_f (by omega)
    exact ⟨e2, by rw [← hr]; unfold oBitsR; rw [ht, e2]; rfl⟩
  rw [← hn'] at hn h0n ⊢
  have hpl := qai b
  generalize hF : cellsB b = F at hpl ⊢
  generalize hS : S0 Tryd.prog = S
  refine qaa hS I.qni ?_
  cbv
  repeat' (first
    | (refine s_st hS ?_; try cbv)
    | (refine qad hS ?_ ?_ <;> intro h <;> (try cbv) <;> try exact s_ab h)
    | (refine qal hS ?_; intro _ _; try cbv)
    | (refine qaf hS ?_; try cbv)
    | (refine s_mul hS ?_ (by simp only [lo]; omega) (by simp only [hi]; omega); intro _ _; try cbv))
  · obtain ⟨e2, e1⟩ := hno (by omega); all_goals exact s_sA
  · obtain ⟨e2, e1⟩ := hno (by omega); all_goals exact s_sA
  · obtain ⟨e2, e1⟩ := hno (by omega); all_goals exact s_sA
  · obtain ⟨e2, e1⟩ := hno (by omega); all_goals exact s_sA
  · obtain ⟨e2, e1⟩ := hno (by omega); all_goals exact s_sA
  · obtain ⟨e2, e1⟩ := hyes (by omega) (by omega) (by omega) (by omega)
    refine qau hS 1 I.qit (fun x : Int × Int => 0 ≤ x.1 ∧ x.1 ≤ k ∧ x.2 = numI b i x.1)
      (fun x => [(9, .i .i64 (.y x.1)), (8, .i .i64 (.y x.2))]) (fun x => [])
      (fun x => (k - x.1).toNat) (0, 0) rfl ⟨⟨Int.le_refl _, by dsimp only; omega, by simp [numI_zero]⟩, rfl, ?_, ?_, ?_⟩ ?_
    · cbv; all_goals exact s_sA
    · cbv; all_goals exact s_bA
    · cbv; exact gc_c (gc_m (qax hpl)) rfl
    · intro x
      obtain ⟨j, w⟩ := x
      intro hx
      dsimp only at hx
      cbv
      obtain ⟨g0, g1, g2⟩ := hx
      have hw : 0 ≤ w ∧ w < 1073741824 := by rw [g2]; exact numI_bd (by omega)
      repeat' (first
        | (refine s_st hS ?_; try cbv)
        | (refine qad hS ?_ ?_ <;> intro h <;> (try cbv) <;> try exact s_ab h)
        | (refine qal hS ?_; intro _ _; try cbv)
        | (refine qaf hS ?_; try cbv)
        | (refine Bit_u hS hb hnb hn' hF rfl (i + j) (by simp only [Z.v]; omega) (by omega) (by omega) fun u hu => ?_; have hu1 := bitI_bd b (i + j); rw [hu] at hu1; cbv)
        | (refine s_mul hS ?_ (by simp only [lo]; omega) (by simp only [hi]; omega); intro _ _; try cbv))
      · rename_i w1 hw1 w2 hw2 j2 hj2
        have hnx := numI_next (b := b) (i := i) (k := j) (by omega) g0 (by omega)
        refine ⟨(j2, w2), by dsimp only; omega, ⟨by dsimp only; omega, by dsimp only; omega, ?_⟩, rfl, ?_, ?_, ?_⟩
        · dsimp only; rw [hj2, hnx, hu, ← g2]; omega
        · cbv; all_goals exact s_sA
        · cbv; all_goals exact s_bA
        · cbv; exact gc_c (gc_m (qax hpl)) rfl
      · have e3 : w = r := by rw [e1, g2, show j = k by omega]
        all_goals exact s_sA
def strB (l : List Int) : List UInt8 := l.map fun v => v.toNat.toUInt8
theorem s_bs {S : Sy} (hS : S0 Tryd.prog = S) {l : List Int} {F : List SV} {n : Int} {K : List UInt8 → Prop} (hb : Hu.BOk l) (hF : cellsB l = F) (hn : n = ilen l) (h : K (strB l)) : S.bs F 0 n K := by
  subst hS hF hn
  refine ⟨Int.le_refl _, qah l, strB l, ⟨by simp [strB, ilen], ?_⟩, h⟩
  intro q c hc
  unfold strB at hc
  rw [List.getElem?_map, Option.map_eq_some_iff] at hc
  obtain ⟨v, hv, rfl⟩ := hc
  refine ⟨.y v, ?_, ?_⟩
  · rw [show (0 : Int).toNat + q = q by simp]; exact qxx hv
  · have := hb v (List.mem_of_getElem? hv)
    simp only [Z.v, Nat.toUInt8, UInt8.toNat_ofNat']
    omega
end Cz
namespace Cz
open Go Go.RowKit Go.Proofs
end Cz
namespace Cz
open Go Go.RowKit Go.Proofs
theorem qyx {S : Sy} (hS : S0 Tryd.prog = S) {b : List Int} {F : List SV} {n : Int} {zi z : Z} {k : Nat} {ro lit : Bool} {st : Z} {l : List Blk} {K : SV → List Blk → Prop} (hb : Hu.BOk b) (hn : ilen b ≤ 1000000) (hn' : n = ilen b) (hF : cellsB b = F)
    (hrow : lget l k = .r ro lit st 1 F) (i m : Int) (hi : zi.v = i) (hm : z.v = m) (hz1 : 1 ≤ m) (hz2 : m ≤ 30) (h1 : okI b i m = true → ∀ r, numI b i m = r → K (.tp [.i .i64 (.y r), .tt]) l) (h2 : okI b i m = false → ∀ r, K (.tp [.i .i64 (.y r), .ff]) l) :
    S.call 127 [.sl k 1 (.l 0) (.y n) none, .i .i64 zi, .i .i64 z] l K := by
  subst hn' hF hi hm
  have hB : oBitsB b zi.v z.v = okI b zi.v z.v := by unfold oBitsB; rw [if_neg (by omega), if_neg (by omega)]
  have hf := rBitsO_f (b := b) (i := zi.v) (k := z.v) hb hn rfl rfl
  cases ht : okI b zi.v z.v with
  | true =>
    refine qhw hS (fun _ => k) (sv := .tp [.i .i64 (.y (numI b zi.v z.v)), .tt]) (qay hf fun x l' hx => ⟨x, .rfl, hx.trans (qbj (.cons (qan ?_) (.cons (qkl ?_) .nil)))⟩) (.cons .rfl (.cons (qan rfl) (.cons (qan rfl) .nil))) rfl ⟨⟨_, _, _, _, _, _, _, _, rfl, qai b, hrow, .rfl⟩, trivial⟩ rfl (h1 ht _ rfl)
    · unfold oBitsR; rw [hB, ht]; rfl
    · rw [hB, ht]
  | false =>
    refine qhw hS (fun _ => k) (sv := .tp [.i .i64 (.y (oBitsR b zi.v z.v)), .ff]) (qay hf fun x l' hx => ⟨x, .rfl, hx.trans (qbj (.cons .rfl (.cons (qsi ?_) .nil)))⟩) (.cons .rfl (.cons (qan rfl) (.cons (qan rfl) .nil))) rfl ⟨⟨_, _, _, _, _, _, _, _, rfl, qai b, hrow, .rfl⟩, trivial⟩ rfl (h2 ht _)
    rw [hB, ht]
theorem rbits_v {S : Sy} (hS : S0 Tryd.prog = S) {b : List Int} {F : List SV} {n : Int} {zi z : Z} {k : Nat} {ro lit : Bool} {st : Z} {l : List Blk} {K : SV → List Blk → Prop} (hb : Hu.BOk b) (hn : ilen b ≤ 1000000) (hn' : n = ilen b) (hF : cellsB b = F)
    (hrow : lget l k = .r ro lit st 1 F) (i m : Int) (h0 : zi.v = i) (hm : z.v = m) (hi0 : 0 ≤ i) (hz1 : 0 ≤ m) (hz2 : m ≤ 30 ∧ i + m ≤ 8 * n) (h1 : ∀ r, numI b i m = r → K (.tp [.i .i64 (.y r), .tt]) l) :
    S.call 127 [.sl k 1 (.l 0) (.y n) none, .i .i64 zi, .i .i64 z] l K := by
  subst hn' hF h0 hm
  have hB : oBitsB b zi.v z.v = true := by
    unfold oBitsB okI
    by_cases hz : z.v = 0
    · rw [if_pos hz]; simp; omega
    · rw [if_neg hz, if_neg (by omega)]; simp; omega
  have hf := rBitsO_f (b := b) (i := zi.v) (k := z.v) hb hn rfl rfl
  refine qhw hS (fun _ => k) (sv := .tp [.i .i64 (.y (numI b zi.v z.v)), .tt]) (qay hf fun x l' hx => ⟨x, .rfl, hx.trans (qbj (.cons (qan ?_) (.cons (qkl hB) .nil)))⟩) (.cons .rfl (.cons (qan rfl) (.cons (qan rfl) .nil))) rfl ⟨⟨_, _, _, _, _, _, _, _, rfl, qai b, hrow, .rfl⟩, trivial⟩ rfl (h1 _ rfl)
  unfold oBitsR; rw [hB]; rfl
theorem rof_u {S : Sy} (hS : S0 Tryd.prog = S) {l : List Blk} {K : SV → List Blk → Prop} {za zm : Z} (a m : Int) (ha : za.v = a) (hm : zm.v = m) (h1 : ∀ c : Int, findO a m = some c.toNat → 0 ≤ c → c < 256 → K (.tp [.i .u8 (.y c), .tt]) l)
    (h2 : findO a m = none → ∀ c, K (.tp [.i .u8 (.y c), .ff]) l) : S.call 132 [.i .i64 za, .i .i64 zm] l K := by
  subst ha hm
  have hf := rOf_f (a := za.v) (m := zm.v) rfl rfl
  cases h : findO za.v zm.v with
  | some c =>
    obtain ⟨hc, _, _⟩ := qqe h
    refine qbm hS (sv := .tp [.i .u8 (.y c), .tt]) (qay hf fun x l' hx => ⟨x, .rfl, hx.trans (qbj (.cons (qan ?_) (.cons (qkl ?_) .nil)))⟩) (.cons (qan rfl) (.cons (qan rfl) .nil)) rfl rfl (h1 c (by simpa using h) (by omega) (by omega))
    · unfold findR; rw [h]
    · unfold findB; rw [h]; rfl
  | none =>
    refine qbm hS (sv := .tp [.i .u8 (.y (findR za.v zm.v)), .ff]) (qay hf fun x l' hx => ⟨x, .rfl, hx.trans (qbj (.cons .rfl (.cons (qsi ?_) .nil)))⟩) (.cons (qan rfl) (.cons (qan rfl) .nil)) rfl rfl (h2 h _)
    unfold findB; rw [h]; rfl
def nextR (b : List Int) (i : Int) : Int × Int := match at1I b i 5 with
  | some c => (c, 5)
  | none => match at1I b i 6 with
    | some c => (c, 6)
    | none => match at1I b i 7 with
      | some c => (c, 7)
      | none => match at1I b i 11 with
        | some c => (c, 11)
        | none => (0, 0)
theorem next_some {b : List Int} {i c m : Int} (h0 : 0 ≤ i) (h : nextR b i = (c, m)) (hm : m ≠ 0) : 0 ≤ c ∧ c < 256 ∧ 5 ≤ m ∧ m ≤ 11 ∧ i + m ≤ 8 * ilen b ∧ decI b i = (c :: (decI b (i + m)).1, (decI b (i + m)).2) := by
  unfold nextR at h
  have hc : ∀ {q : Int} {d : Nat}, at1I b i q = some d → d < 256 := fun {q d} h => by
    unfold at1I at h
    split at h
    · exact (qqe h).1
    · cases h
  cases h5 : at1I b i 5 with
  | some d => rw [h5] at h; cases h; have := hc h5; exact ⟨by omega, by omega, by omega, by omega, okI_le (qzabc h5), dec_5 h0 h5⟩
  | none =>
    rw [h5] at h
    cases h6 : at1I b i 6 with
    | some d => rw [h6] at h; cases h; have := hc h6; exact ⟨by omega, by omega, by omega, by omega, okI_le (qzabc h6), dec_6 h0 h5 h6⟩
    | none =>
      rw [h6] at h
      cases h7 : at1I b i 7 with
      | some d => rw [h7] at h; cases h; have := hc h7; exact ⟨by omega, by omega, by omega, by omega, okI_le (qzabc h7), dec_7 h0 h5 h6 h7⟩
      | none =>
        rw [h7] at h
        cases h11 : at1I b i 11 with
        | some d => rw [h11] at h; cases h; have := hc h11; exact ⟨by omega, by omega, by omega, by omega, okI_le (qzabc h11), dec_11 h0 h5 h6 h7 h11⟩
        | none => rw [h11] at h; cases h; exact absurd rfl hm
theorem next_none {b : List Int} {i c : Int} (h0 : 0 ≤ i) (h : nextR b i = (c, 0)) : decI b i = ([], dropI b i) := by
  unfold nextR at h
  cases h5 : at1I b i 5 with
  | some d => rw [h5] at h; cases h
  | none =>
    rw [h5] at h
    cases h6 : at1I b i 6 with
    | some d => rw [h6] at h; cases h
    | none =>
      rw [h6] at h
      cases h7 : at1I b i 7 with
      | some d => rw [h7] at h; cases h
      | none =>
        rw [h7] at h
        cases h11 : at1I b i 11 with
        | some d => rw [h11] at h; cases h
        | none => exact dec_no h0 h5 h6 h7 h11
theorem next_f {b : List Int} {i c m : Int} (hb : Hu.BOk b) (hnb : ilen b ≤ 1000000) (h0 : 0 ≤ i) (hr : nextR b i = (c, m)) :
    (S0 Tryd.prog).call 126 [.sl 0 1 (.l 0) (.y (ilen b)) none, .i .i64 (.y i)] [.r true true (.l 0) 1 (cellsB b)] (fun x _ => Sub x (.tp [.i .u8 (.y c), .i .i64 (.y m)])) := by
  obtain ⟨n, hn'⟩ : ∃ n, n = ilen b := ⟨_, rfl⟩
  have h0n := qah b
  rw [← hn'] at h0n ⊢
  unfold nextR at hr
  have hpl := qai b
  generalize hF : cellsB b = F at hpl ⊢
  generalize hS : S0 Tryd.prog = S
  refine qaa hS I.qnd ?_
  cbv
  refine qbb hS ?_
  cbv
  refine qyx hS hb hnb hn' hF rfl i 5 rfl rfl (by decide) (by decide) (fun hok r hr1 => ?_) (fun hok r => ?_)
  · cbv
    refine rof_u hS r 5 rfl rfl (fun d hd d0 d1 => ?_) (fun hd d => ?_)
    · have a5 : at1I b i 5 = some d.toNat := by rw [qrf hok hr1]; exact hd
      simp only [a5] at hr
      have hrc : c = d := by have := congrArg Prod.fst hr; simp only [Int.toNat_of_nonneg d0] at this; exact this.symm
      have hrm := congrArg Prod.snd hr
      simp only at hrm
      clear hr hok hr1 hd
      cbv
      repeat' (first
        | (refine s_st hS ?_; try cbv)
        | (refine qad hS ?_ ?_ <;> intro h <;> (try cbv) <;> try exact s_ab h)
        | (refine qal hS ?_; intro _ _; try cbv)
        | (refine qaf hS ?_; try cbv)
        | (refine qao hS rfl I.qci (by decide +kernel) ?_; cbv)
        | (refine And.intro rfl ?_; try cbv))
      exact qbj (.cons (qan (by simp only [Z.v]; omega)) (.cons (qan (by simp only [Z.v]; omega)) .nil))
    · have a5 : at1I b i 5 = none := by rw [qrf hok hr1]; exact hd
      cbv
      refine qbb hS ?_
      cbv
      refine qyx hS hb hnb hn' hF rfl i 6 rfl rfl (by decide) (by decide) (fun hok r hr1 => ?_) (fun hok r => ?_)
      · cbv
        refine rof_u hS r 6 rfl rfl (fun d hd d0 d1 => ?_) (fun hd d => ?_)
        · have a6 : at1I b i 6 = some d.toNat := by rw [qrf hok hr1]; exact hd
          simp only [a5, a6] at hr
          have hrc : c = d := by have := congrArg Prod.fst hr; simp only [Int.toNat_of_nonneg d0] at this; exact this.symm
          have hrm := congrArg Prod.snd hr
          simp only at hrm
          clear hr hok hr1 hd
          cbv
          repeat' (first
            | (refine s_st hS ?_; try cbv)
            | (refine qad hS ?_ ?_ <;> intro h <;> (try cbv) <;> try exact s_ab h)
            | (refine qal hS ?_; intro _ _; try cbv)
            | (refine qaf hS ?_; try cbv)
            | (refine qao hS rfl I.qci (by decide +kernel) ?_; cbv)
            | (refine And.intro rfl ?_; try cbv))
          exact qbj (.cons (qan (by simp only [Z.v]; omega)) (.cons (qan (by simp only [Z.v]; omega)) .nil))
        · have a6 : at1I b i 6 = none := by rw [qrf hok hr1]; exact hd
          cbv
          refine qbb hS ?_
          cbv
          refine qyx hS hb hnb hn' hF rfl i 7 rfl rfl (by decide) (by decide) (fun hok r hr1 => ?_) (fun hok r => ?_)
          · cbv
            refine rof_u hS r 7 rfl rfl (fun d hd d0 d1 => ?_) (fun hd d => ?_)
            · have a7 : at1I b i 7 = some d.toNat := by rw [qrf hok hr1]; exact hd
              simp only [a5, a6, a7] at hr
              have hrc : c = d := by have := congrArg Prod.fst hr; simp only [Int.toNat_of_nonneg d0] at this; exact this.symm
              have hrm := congrArg Prod.snd hr
              simp only at hrm
              clear hr hok hr1 hd
              cbv
              repeat' (first
                | (refine s_st hS ?_; try cbv)
                | (refine qad hS ?_ ?_ <;> intro h <;> (try cbv) <;> try exact s_ab h)
                | (refine qal hS ?_; intro _ _; try cbv)
                | (refine qaf hS ?_; try cbv)
                | (refine qao hS rfl I.qci (by decide +kernel) ?_; cbv)
                | (refine And.intro rfl ?_; try cbv))
              exact qbj (.cons (qan (by simp only [Z.v]; omega)) (.cons (qan (by simp only [Z.v]; omega)) .nil))
            · have a7 : at1I b i 7 = none := by rw [qrf hok hr1]; exact hd
              cbv
              refine qbb hS ?_
              cbv
              refine qyx hS hb hnb hn' hF rfl i 11 rfl rfl (by decide) (by decide) (fun hok r hr1 => ?_) (fun hok r => ?_)
              · cbv
                refine rof_u hS r 11 rfl rfl (fun d hd d0 d1 => ?_) (fun hd d => ?_)
                · have a11 : at1I b i 11 = some d.toNat := by rw [qrf hok hr1]; exact hd
                  simp only [a5, a6, a7, a11] at hr
                  have hrc : c = d := by have := congrArg Prod.fst hr; simp only [Int.toNat_of_nonneg d0] at this; exact this.symm
                  have hrm := congrArg Prod.snd hr
                  simp only at hrm
                  clear hr hok hr1 hd
                  cbv
                  repeat' (first
                    | (refine s_st hS ?_; try cbv)
                    | (refine qad hS ?_ ?_ <;> intro h <;> (try cbv) <;> try exact s_ab h)
                    | (refine qal hS ?_; intro _ _; try cbv)
                    | (refine qaf hS ?_; try cbv)
                    | (refine qao hS rfl I.qci (by decide +kernel) ?_; cbv)
                    | (refine And.intro rfl ?_; try cbv))
                  exact qbj (.cons (qan (by simp only [Z.v]; omega)) (.cons (qan (by simp only [Z.v]; omega)) .nil))
                · have a11 : at1I b i 11 = none := by rw [qrf hok hr1]; exact hd
                  cbv
                  refine qbb hS ?_
                  cbv
                  simp only [a5, a6, a7, a11] at hr
                  cases hr
                  exact qbj (.cons (qan rfl) (.cons (qan rfl) .nil))
              · cbv
                have a11 : at1I b i 11 = none := qly (qed hok (by omega) (by omega))
                simp only [a5, a6, a7, a11] at hr
                cases hr
                exact qbj (.cons (qan rfl) (.cons (qan rfl) .nil))
          · cbv
            have a7 : at1I b i 7 = none := qly (qed hok (by omega) (by omega))
            have a11 : at1I b i 11 = none := qly (qed hok (by omega) (by omega))
            simp only [a5, a6, a7, a11] at hr
            cases hr
            exact qbj (.cons (qan rfl) (.cons (qan rfl) .nil))
      · cbv
        have a6 : at1I b i 6 = none := qly (qed hok (by omega) (by omega))
        have a7 : at1I b i 7 = none := qly (qed hok (by omega) (by omega))
        have a11 : at1I b i 11 = none := qly (qed hok (by omega) (by omega))
        simp only [a5, a6, a7, a11] at hr
        cases hr
        exact qbj (.cons (qan rfl) (.cons (qan rfl) .nil))
  · cbv
    have a5 : at1I b i 5 = none := qly (qed hok (by omega) (by omega))
    have a6 : at1I b i 6 = none := qly (qed hok (by omega) (by omega))
    have a7 : at1I b i 7 = none := qly (qed hok (by omega) (by omega))
    have a11 : at1I b i 11 = none := qly (qed hok (by omega) (by omega))
    simp only [a5, a6, a7, a11] at hr
    cases hr
    exact qbj (.cons (qan rfl) (.cons (qan rfl) .nil))
end Cz
namespace Cz
open Go Go.RowKit Go.Proofs
end Cz
namespace Cz
open Go Go.RowKit Go.Proofs
end Cz
namespace Cz
open Go Go.RowKit Go.Proofs
theorem next_u {S : Sy} (hS : S0 Tryd.prog = S) {b : List Int} {F : List SV} {n : Int} {zi : Z} {k : Nat} {ro lit : Bool} {st : Z} {l : List Blk} {K : SV → List Blk → Prop} (hb : Hu.BOk b) (hn : ilen b ≤ 1000000) (hn' : n = ilen b) (hF : cellsB b = F)
    (hrow : lget l k = .r ro lit st 1 F) (i : Int) (hi : zi.v = i) (h0 : 0 ≤ i) (h1 : ∀ c m, nextR b i = (c, m) → K (.tp [.i .u8 (.y c), .i .i64 (.y m)]) l) :
    S.call 126 [.sl k 1 (.l 0) (.y n) none, .i .i64 zi] l K := by
  subst hn' hF hi
  exact qhw hS (fun _ => k) (next_f (b := b) (i := zi.v) hb hn h0 rfl) (.cons .rfl (.cons (qan rfl) .nil)) rfl ⟨⟨_, _, _, _, _, _, _, _, rfl, qai b, hrow, .rfl⟩, trivial⟩ rfl (h1 _ _ rfl)
theorem rend_some {P G : List SV} {L : List Int} {E : Int} {z st : Z} {lit : Bool} {l' : List Blk} (hP : P = cellsB L) (hE : E = 0) (hG : cellsB L = G) (hz : z.v = ilen L) (hB : l'[1]? = some (.r false lit st 1 G)) :
    OwnR 1 1 P true [.i .i64 (.y E)] (.tp [.sl 1 1 (.l 0) z none, .i .i64 (.l 0)]) l' := by
  refine ⟨_, qbj (.cons .rfl (.cons (qan hE.symm) .nil)), ?_⟩
  rw [hP, hG]
  exact qph hG (by omega) hz hB
theorem rtake_f {b : List Int} (hb : Hu.BOk b) (hn : ilen b ≤ 1000000) :
    (S0 Tryd.prog).call 120 [.sl 0 1 (.l 0) (.y (ilen b)) none] [.r true true (.l 0) 1 (cellsB b)] (OwnR 1 1 (cellsB (takeL b)) true [.i .i64 (.y (takeE b))]) := by
  obtain ⟨n, hn'⟩ : ∃ n, n = ilen b := ⟨_, rfl⟩
  have h0n := qah b
  have hnb := hn
  rw [← hn'] at hn h0n ⊢
  have hpl := qai b
  generalize hF : cellsB b = F at hpl ⊢
  generalize hP : cellsB (takeL b) = P
  generalize hE : takeE b = E
  generalize hS : S0 Tryd.prog = S
  refine qaa hS I.qne ?_
  cbv
  refine qxa hS 4 1 (by omega) rfl ?_
  cbv
  refine qau hS 2 I.qir (fun x : Int × Int × Int × List Int × List SV => 0 ≤ x.1 ∧ x.1 ≤ 8 * n ∧ x.2.1 = ilen x.2.2.2.1 ∧ x.2.1 ≤ x.1 ∧ x.2.2.2.2 = cellsB x.2.2.2.1 ∧ Hu.dec (Hu.bl b) = (x.2.2.2.1 ++ (decI b x.1).1, (decI b x.1).2))
    (fun x => [(4, .sl 1 1 (.l 0) (.y x.2.1) none), (5, .i .i64 (.y x.1))]) (fun x => [(1, .r false false (.y x.2.2.1) 1 x.2.2.2.2)])
    (fun x => (8 * n - x.1).toNat) (0, 0, 0, [], []) rfl ⟨⟨Int.le_refl _, by dsimp only; omega, rfl, Int.le_refl _, rfl, by dsimp only; rw [dec_at0]; rfl⟩, rfl, ?_, ?_, ?_⟩ ?_
  · cbv; (repeat' (first | exact qdy | exact Sub.rfl | exact SubL.nil | refine SubL.cons ?_ ?_ | exact qan rfl | exact qez rfl rfl))
  · cbv; exact ⟨.rfl, .r .rfl rfl rfl, trivial⟩
  · cbv; exact gc_c (gc_m (qax hpl)) rfl
  intro x
  obtain ⟨i, q, st, L, G⟩ := x
  intro hx
  dsimp only at hx
  cbv
  obtain ⟨h0, h1, hq, hqi, hG0, hdec⟩ := hx
  have hG : ilen G = ilen L := by rw [hG0, qbc]
  refine next_u hS hb hnb hn' hF rfl i rfl h0 fun c m hcm => ?_
  cbv
  refine qad hS ?_ ?_ <;> intro h <;> cbv
  · have hno : decI b i = ([], dropI b i) := next_none h0 (c := c) (by rw [hcm, h])
    have hD : Hu.dec (Hu.bl b) = (L, dropI b i) := by rw [hdec, hno]; simp
    obtain ⟨k, hk⟩ : ∃ k, k = 8 * ilen b - i := ⟨_, rfl⟩
    repeat' (first
      | (refine s_st hS ?_; try cbv)
      | (refine qad hS ?_ ?_ <;> intro h <;> (try cbv) <;> try exact s_ab h)
      | (refine qal hS ?_; intro _ _; try cbv)
      | (refine qaf hS ?_; try cbv)
      | (refine s_mul hS ?_ (by simp only [lo]; omega) (by simp only [hi]; omega); intro _ _; cbv)
      | (refine rbits_v hS hb hnb hn' hF rfl i k (by simp only [Z.v]) (by simp only [Z.v]; omega) (by omega) (by omega) (by omega) (fun r hr => ?_); cbv)
      | (refine s_shlv hS k (by omega) (by omega) (by omega) (by decide) (fun p hp hp1 hp2 => ?_); cbv))
    · have hb7 := take_big (i := i) (by omega) (by omega) hD (by omega)
      exact end_none (hP.symm.trans (by rw [hb7.1]; rfl)) (hE.symm.trans hb7.2)
    · have hne : r ≠ p - 1 := by first | omega | (simp at h; omega)
      have hte := (take_end (i := i) (by omega) (by omega) hD hk (by omega)).2 (by rw [hr, ← hp]; exact hne)
      exact end_none (hP.symm.trans (by rw [hte.1]; rfl)) (hE.symm.trans hte.2)
    · have heq : r = p - 1 := by first | omega | (simp at h; omega)
      have hte := (take_end (i := i) (by omega) (by omega) hD hk (by omega)).1 (by rw [hr, ← hp]; exact heq)
      exact rend_some (hP.symm.trans (by rw [hte.1])) (hE.symm.trans hte.2) hG0.symm hq rfl
  · obtain ⟨c0, c1, m5, m11, hle, hs⟩ := next_some h0 hcm h
    repeat' (first
      | (refine s_st hS ?_; try cbv)
      | (refine qad hS ?_ ?_ <;> intro h <;> (try cbv) <;> try exact s_ab h)
      | (refine qal hS ?_; intro _ _; try cbv)
      | (refine qaf hS ?_; try cbv)
      | (refine qji hS (by rw [hG, ← hq]; omega) ?_; cbv))
    rename_i i2 hi2
    obtain ⟨q2, h_q2⟩ : ∃ q2, q2 = q + 1 := ⟨_, rfl⟩
    obtain ⟨st2, h_st2⟩ : ∃ st2, st2 = S.flen G := ⟨_, rfl⟩
    obtain ⟨G2, h_G2⟩ : ∃ G2, G2 = cellsB (L ++ [c]) := ⟨_, rfl⟩
    refine ⟨(i2, q2, st2, L ++ [c], G2), by dsimp only; omega, ⟨by dsimp only; omega, by dsimp only; omega, ?_, by dsimp only; omega, h_G2, ?_⟩, rfl, ?_, ?_, ?_⟩
    · dsimp only; rw [h_q2, hq, qur]
    · dsimp only; rw [hdec, hs, hi2]; simp
    · cbv; (repeat' (first | exact qdy | exact Sub.rfl | exact SubL.nil | refine SubL.cons ?_ ?_ | exact qan rfl | (refine qez rfl ?_; simp only [Z.v, ← hS, Int.ofNat_eq_natCast, cq, Bool.not_eq_true', Bool.not_eq_false', decide_eq_true_eq, decide_eq_false_iff_not, beq_iff_eq, beq_eq_false_iff_ne, ne_eq]; omega)))
    · cbv; exact ⟨.rfl, qsj hS hG0.symm h_G2.symm rfl h_st2.symm, trivial⟩
    · cbv; exact gc_c (gc_m (qax hpl)) rfl
end Cz
namespace Cz
open Go Go.RowKit Go.Proofs
theorem qef (L : List Int) : ilen L * ((1 : Nat) : Int) = (cellsB L).length := by
  have := qbc L
  unfold ilen at this ⊢
  rw [this]; simp
section
variable {S : Sy} {b : List Int} {F : List SV} {k : Nat} {ro lit : Bool} {st zn : Z} {l : List Blk} {K : SV → List Blk → Prop}
theorem put_u (hS : S0 Tryd.prog = S) (hb : Hu.BOk b) (hn : ilen b ≤ 1000000) (hrow : lget l k = .r ro lit st 1 F) (hs : FSub F (cellsB b)) (hz : zn.v = ilen b)
    (hK : ∀ F2 n2 st, cellsB (Hu.put b) = F2 → n2 = ilen (Hu.put b) → K (.sl (len l) 1 (.l 0) (.y n2) none) (snoc l (.r false false (.y st) 1 F2))) : S.call 103 [.sl k 1 (.l 0) zn none] l K :=
  qtd hS (fun _ => k) (put_f hb hn) (.cons (qez rfl hz) .nil) rfl ⟨⟨_, _, _, _, _, _, _, _, rfl, qai _, hrow, hs⟩, trivial⟩ (by omega) (qai _) rfl (qef _) fun st => hK _ _ st rfl rfl
theorem short_u (hS : S0 Tryd.prog = S) (hb : Hu.BOk b) (hn : ilen b ≤ 1000000) (hrow : lget l k = .r ro lit st 1 F) (hs : FSub F (cellsB b)) (hz : zn.v = ilen b)
    (hK : ∀ t, shortB b = t → K (.b t) l) : S.call 89 [.sl k 1 (.l 0) zn none] l K :=
  qhw hS (fun _ => k) (Shorter_f hb hn rfl) (.cons (qez rfl hz) .nil) rfl ⟨⟨_, _, _, _, _, _, _, _, rfl, qai _, hrow, hs⟩, trivial⟩ rfl (hK _ rfl)
end
theorem bok1 {l : List Int} (h : l.all (fun v => decide (0 ≤ v) && decide (v < 256)) = true) : Hu.BOk l := by
  intro v hv
  have := List.all_eq_true.1 h v hv
  simpa using this
end Cz
namespace Cz
open Go Go.RowKit Go.Proofs
def part (b : List Int) (o n : Int) : List Int := (b.drop o.toNat).take n.toNat
theorem sub_part {S : Sy} (hS : S0 Tryd.prog = S) {b : List Int} {F : List SV} {o n : Int} (hF : cellsB b = F) : S.app [] (S.sub F o n 1) = cellsB (part b o n) := by
  subst hS hF
  show [] ++ ((cellsB b).drop (o.toNat * 1)).take (n.toNat * 1) = _
  simp only [List.nil_append, Nat.mul_one, part, qhr, List.map_take, List.map_drop]
theorem qsp {b : List Int} {o n : Int} (h0 : 0 ≤ o) (h1 : 0 ≤ n) (h2 : o + n ≤ ilen b) : ilen (part b o n) = n := by
  unfold part ilen at *
  rw [List.length_take, List.length_drop]; omega
theorem qzads {P : Program} {g : FuncId} {args : List SV} {F : List SV} {sz : Nat} {K : SV → List Blk → Prop} (hp : plains F = true) (h : (S0 P).call g args [.r true false (.l 0) sz F] K) : (S0 P).call g args [.r true true (.l 0) sz F] K := by
  intro N W0 ρ W vals hR hd
  exact h N W0 ρ W vals (hR.sub rfl fun k B' hB => by
    cases k with
    | zero => simp only [List.getElem?_cons_zero, Option.some.injEq] at hB; subst hB; exact ⟨_, rfl, .r .rfl rfl hp⟩
    | succ k => simp at hB) hd
theorem qjl {n0 k : Nat} {L : List Int} {X P : List SV} {lit : Bool} {st nn : Z} {l' : List Blk} (hX : X = cellsB L) (hP : cellsB L = P) (hk : n0 ≤ k) (hn : nn.v = ilen L) (hB : l'[k]? = some (.r false lit st 1 X)) : RowIs n0 1 P (.sl k 1 (.l 0) nn none) l' := by
  rw [hX, hP] at hB
  exact qph hP hk hn hB
def pgo (b : List Int) : Nat → Int → Int → Int × Int × Int
  | 0, _, _ => (0, 0, 60)
  | f + 1, at', n => match b[at'.toNat]? with
    | none => (0, 0, 10)
    | some v =>
      if 5 < at' ∨ 2147483648 ≤ n + v % 128 * 2 ^ (7 * (at' - 1)).toNat then (0, 0, 60)
      else if v < 128 then (n + v % 128 * 2 ^ (7 * (at' - 1)).toNat, at' + 1, 0)
      else pgo b f (at' + 1) (n + v % 128 * 2 ^ (7 * (at' - 1)).toNat)
def preI (b : List Int) (p : Int) : Int × Int × Int := match b with
  | [] => (0, 0, 10)
  | v :: _ => if v % p < p - 1 then (v % p, 1, 0) else pgo b 6 1 (p - 1)
def preN (b : List Int) (p : Int) : Int := (preI b p).1
def preE (b : List Int) (p : Int) : Int := (preI b p).2.2
def preR (b : List Int) (p : Int) : List Int := if preE b p = 0 then b.drop (preI b p).2.1.toNat else []
theorem pgo_none {b : List Int} {f : Nat} {a n : Int} (h0 : 0 ≤ a) (h : ilen b ≤ a) : pgo b (f + 1) a n = (0, 0, 10) := by
  rw [pgo, List.getElem?_eq_none (by unfold ilen at h; omega)]
theorem pgo_long {b : List Int} {f : Nat} {a n v s : Int} (hv : b[a.toNat]? = some v) (hs : s = v % 128 * 2 ^ (7 * (a - 1)).toNat) (h : 5 < a ∨ 2147483648 ≤ n + s) : pgo b (f + 1) a n = (0, 0, 60) := by
  rw [pgo, hv]; simp only [← hs]; rw [if_pos h]
theorem pgo_end {b : List Int} {f : Nat} {a n v s : Int} (hv : b[a.toNat]? = some v) (hs : s = v % 128 * 2 ^ (7 * (a - 1)).toNat) (h : ¬(5 < a ∨ 2147483648 ≤ n + s)) (h2 : v < 128) : pgo b (f + 1) a n = (n + s, a + 1, 0) := by
  rw [pgo, hv]; simp only [← hs]; rw [if_neg h, if_pos h2]
theorem pgo_more {b : List Int} {f : Nat} {a n v s : Int} (hv : b[a.toNat]? = some v) (hs : s = v % 128 * 2 ^ (7 * (a - 1)).toNat) (h : ¬(5 < a ∨ 2147483648 ≤ n + s)) (h2 : ¬v < 128) : pgo b (f + 1) a n = pgo b f (a + 1) (n + s) := by
  rw [pgo, hv]; simp only [← hs]; rw [if_neg h, if_neg h2]
end Cz
namespace Cz
open Go Go.RowKit Go.Proofs
theorem qsq {P : List SV} {N E e : Int} {l' : List Blk} (hP : P = []) (hN : N = 0) (hE : E = e) : OwnP 1 1 P [.i .i64 (.y N)] [.i .i64 (.y E)] (.tp [.i .i64 (.l 0), .re (.slice none 0 0), .i .i64 (.l e)]) l' :=
  ⟨_, qbj (.cons (qan hN.symm) (.cons .rfl (.cons (qan hE.symm) .nil))), .inl ⟨rfl, hP⟩⟩
theorem qzacf {b : List Int} {o n : Int} (h0 : 0 ≤ o) (h : ilen b ≤ o + n) : part b o n = b.drop o.toNat := by
  unfold part; exact List.take_of_length_le (by rw [List.length_drop]; unfold ilen at h; omega)
end Cz
namespace Cz
open Go Go.RowKit Go.Proofs
theorem rptake_f {b : List Int} {k p : Int} (hb : Hu.BOk b) (hnb : ilen b ≤ 1000000) (hk1 : 1 ≤ k) (hk8 : k ≤ 8) (hp : 2 ^ k.toNat = p) :
    (S0 Tryd.prog).call 94 [.sl 0 1 (.l 0) (.y (ilen b)) none, .i .i64 (.y k)] [.r true true (.l 0) 1 (cellsB b)] (OwnP 1 1 (cellsB (preR b p)) [.i .i64 (.y (preN b p))] [.i .i64 (.y (preE b p))]) := by
  obtain ⟨n, hn'⟩ : ∃ n, n = ilen b := ⟨_, rfl⟩
  have h0n := qah b
  have hn := hnb
  rw [← hn'] at h0n hn ⊢
  have hp0 : 2 ≤ p := by have := qgj (m := 1) (n := k.toNat) (by omega); rw [hp] at this; omega
  have hp1 : p ≤ 256 := by have := qgj (m := k.toNat) (n := 8) (by omega); rw [hp] at this; omega
  have hpl := qai b
  obtain ⟨J0, hJ⟩ : ∃ J0, J0 = preI b p := ⟨_, rfl⟩
  obtain ⟨N, hN⟩ : ∃ N, N = preN b p := ⟨_, rfl⟩
  obtain ⟨E, hE⟩ : ∃ E, E = preE b p := ⟨_, rfl⟩
  obtain ⟨R, hR⟩ : ∃ R, R = preR b p := ⟨_, rfl⟩
  rw [← hN, ← hE, ← hR]
  have herr : ∀ e, e ≠ 0 → J0 = (0, 0, e) → cellsB R = [] ∧ N = 0 ∧ E = e := by
    intro e he h
    rw [hJ] at h
    unfold preR at hR
    have h2 : preE b p = e := by unfold preE; rw [h]
    rw [h2, if_neg he] at hR
    exact ⟨by rw [hR]; rfl, by rw [hN]; unfold preN; rw [h], hE.trans h2⟩
  have hok : ∀ n' a, 0 ≤ a → J0 = (n', a, 0) → R = b.drop a.toNat ∧ N = n' ∧ E = 0 := by
    intro n' a _ h
    rw [hJ] at h
    unfold preR at hR
    have h2 : preE b p = 0 := by unfold preE; rw [h]
    rw [h2, if_pos rfl, h] at hR
    exact ⟨hR, by rw [hN]; unfold preN; rw [h], hE.trans h2⟩
  have hJ0 : n = 0 → J0 = (0, 0, 10) := by
    intro h
    have : b = [] := List.length_eq_zero_iff.1 (by unfold ilen at hn'; omega)
    rw [hJ, this]; rfl
  have hJ1 : ∀ v, b[(0 : Int).toNat]? = some v → (v % p < p - 1 → J0 = (v % p, 1, 0)) ∧ (¬v % p < p - 1 → J0 = pgo b 6 1 (p - 1)) := by
    intro v hv
    rw [hJ]
    cases b with
    | nil => simp at hv
    | cons w b =>
      simp at hv; subst hv
      unfold preI
      exact ⟨fun h => by simp only [if_pos h], fun h => by simp only [if_neg h]⟩
  clear hN hE hR hJ
  generalize hF : cellsB b = F at hpl ⊢
  have hfs : FSub F (cellsB b) := by rw [hF]; exact .rfl
  generalize hP : cellsB R = P at herr ⊢
  refine qzads hpl ?_
  generalize hS : S0 Tryd.prog = S
  refine qaa hS I.qng ?_
  cbv
  repeat' (first
    | (refine s_st hS ?_; try cbv)
    | (refine qad hS ?_ ?_ <;> intro h <;> (try cbv) <;> try exact s_ab h)
    | (refine qal hS ?_; intro _ _; try cbv)
    | (refine qaf hS ?_; try cbv)
    | (refine qaa hS I.qfq ?_; cbv)
    | (refine qqw hS (c := p) (by rw [← hp]; congr 1; simp only [IntKind.bits]; omega) ?_ (by simp only [lo]; omega) (by simp only [hi]; omega); intro _ _; cbv))
  · obtain ⟨g1, g2, g3⟩ := herr 10 (by decide) (hJ0 h)
    exact qsq g1 g2 g3
  · rename_i e1 he1 m0 hm0
    have hm1 : m0 = p - 1 := by omega
    obtain ⟨v, hv⟩ := qfe (l := b) (i := 0) (by omega) (Int.le_refl 0)
    have hb0 := hb v (List.mem_of_getElem? hv)
    obtain ⟨j1, j2⟩ := hJ1 v hv
    clear hJ1
    obtain ⟨w, hw⟩ : ∃ w, w = v % p := ⟨_, rfl⟩
    have hwb : 0 ≤ w ∧ w < p := by rw [hw]; exact ⟨Int.emod_nonneg _ (by omega), Int.emod_lt_of_pos _ (by omega)⟩
    rw [← hw] at j1 j2
    refine rowB hS hF hv rfl (Int.le_refl 0) ?_
    cbv
    refine s_cvi hS ?_ (by simp only [lo]; omega) (by simp only [hi]; omega)
    cbv
    refine s_add hS (fun p' hp' => ?_) (by simp only [lo]; omega) (by simp only [hi]; omega)
    have hpp : p' = p := by omega
    cbv
    repeat' (first
      | (refine s_st hS ?_; try cbv)
      | (refine qad hS ?_ ?_ <;> intro h <;> (try cbv) <;> try exact s_ab h)
      | (refine qal hS ?_; intro _ _; try cbv)
      | (refine qaf hS ?_; try cbv))
    refine s_rem hS (by omega) fun w' hw' => ?_
    obtain rfl : w' = w := by rw [hw', hpp, hw]
    cbv
    obtain ⟨t, ht⟩ : ∃ t, decide (w' = m0) = t := ⟨_, rfl⟩
    have ht1 : t = true → J0 = pgo b 6 1 (p - 1) := fun h => j2 (by rw [← ht] at h; simp only [decide_eq_true_eq] at h; omega)
    have ht2 : t = false → J0 = (w', 1, 0) := fun h => j1 (by rw [← ht] at h; simp only [decide_eq_false_iff_not] at h; omega)
    have ht3 : t = true → w' = p - 1 := fun h => by rw [← ht] at h; simp only [decide_eq_true_eq] at h; omega
    refine qau hS 1 I.qis (fun x : Int × Int × Bool × Int => 1 ≤ x.1 ∧ x.1 ≤ n ∧ 0 ≤ x.2.1 ∧ x.2.1 < 2147483648 ∧ (x.2.2.1 = true → x.1 ≤ 6 ∧ x.2.2.2 = 7 * (x.1 - 1) ∧ J0 = pgo b (7 - x.1).toNat x.1 x.2.1) ∧ (x.2.2.1 = false → J0 = (x.2.1, x.1, 0)))
      (fun x => [(9, .i .i64 (.y x.1)), (8, .i .i64 (.y x.2.1)), (10, .b x.2.2.1), (11, .i .i64 (.y x.2.2.2))]) (fun x => [])
      (fun x => if x.2.2.1 then (8 - x.1).toNat else 0) (1, w', t, 0) rfl ⟨⟨Int.le_refl _, by dsimp only; omega, hwb.1, by dsimp only; omega, fun h => ⟨by dsimp only; omega, by dsimp only; omega, by dsimp only; rw [ht1 h, ht3 h]; rfl⟩, ht2⟩, rfl, ?_, ?_, ?_⟩ ?_
    · cbv; (repeat' (first | exact qdy | exact Sub.rfl | exact SubL.nil | refine SubL.cons ?_ ?_ | exact qan rfl | (refine qrg ?_; simp only [← hS, Int.ofNat_eq_natCast, cq, Bool.not_eq_true', Bool.not_eq_false', decide_eq_true_eq, decide_eq_false_iff_not, beq_iff_eq, beq_eq_false_iff_ne, ne_eq]; assumption)))
    · cbv; all_goals exact s_bA
    · cbv
    · intro x
      obtain ⟨a, u, tt, sf⟩ := x
      intro hx
      dsimp only at hx
      cbv
      obtain ⟨g0, g1, g2, g3, gt, gf⟩ := hx
      refine s_br hS ?_ ?_ <;> intro h <;> cbv
      · obtain ⟨g5, g6, g4'⟩ := gt h
        clear gt gf
        have g4 : J0 = pgo b ((6 - a).toNat + 1) a u := by rw [show (6 - a).toNat + 1 = (7 - a).toNat by omega]; exact g4'
        clear g4'
        refine qad hS ?_ ?_ <;> intro h <;> cbv
        · obtain ⟨k1, k2, k3⟩ := herr 10 (by decide) (g4.trans (pgo_none (by omega) (by omega)))
          exact qsq k1 k2 k3
        · obtain ⟨y, hy⟩ := qfe (l := b) (i := a) (by omega) (by omega)
          have hy0 := hb y (List.mem_of_getElem? hy)
          obtain ⟨q, hq⟩ : ∃ q : Int, 2 ^ (7 * (a - 1)).toNat = q := ⟨_, rfl⟩
          have hq0 : 0 < q := by rw [← hq]; exact qde _
          have hq1 : q ≤ 34359738368 := by have := qgj (m := (7 * (a - 1)).toNat) (n := 35) (by omega); rw [hq] at this; omega
          obtain ⟨z, hz⟩ : ∃ z, z = y % 128 := ⟨_, rfl⟩
          obtain ⟨s, hs⟩ : ∃ s, s = z * q := ⟨_, rfl⟩
          have hs0 : 0 ≤ s := by rw [hs]; exact Int.mul_nonneg (by omega) (by omega)
          have hs1 : s ≤ 127 * 34359738368 := by
            rw [hs]
            have h1 : z * q ≤ 127 * q := Int.mul_le_mul_of_nonneg_right (by omega) (by omega)
            omega
          have hs' : s = y % 128 * 2 ^ (7 * (a - 1)).toNat := by rw [hs, hz, hq]
          have c1 : (5 < a ∨ 2147483648 ≤ u + s) → J0 = (0, 0, 60) := fun h => g4.trans (pgo_long hy hs' h)
          have c2 : ¬(5 < a ∨ 2147483648 ≤ u + s) → y < 128 → J0 = (u + s, a + 1, 0) := fun h h2 => g4.trans (pgo_end hy hs' h h2)
          have c3 : ¬(5 < a ∨ 2147483648 ≤ u + s) → ¬y < 128 → J0 = pgo b (6 - a).toNat (a + 1) (u + s) := fun h h2 => g4.trans (pgo_more hy hs' h h2)
          clear g4 hs'
          repeat' (first
            | (refine s_st hS ?_; try cbv)
            | (refine qad hS ?_ ?_ <;> intro h <;> (try cbv) <;> try exact s_ab h)
            | (refine qal hS ?_; intro _ _; try cbv)
            | (refine qaf hS ?_; try cbv)
            | (refine rowB hS hF hy rfl (by omega) ?_; try cbv)
            | (refine s_rem hS (by omega) ?_; intro _ _; cbv))
          rename_i z' hz'
          obtain rfl : z' = z := hz'.trans hz.symm
          refine qqw hS (c := q) (by rw [← hq]; congr 1; simp only [IntKind.bits]; omega) (fun s' hs2 => ?_) (by rw [← hs]; simp only [lo]; omega) (by rw [← hs]; simp only [hi]; omega)
          obtain rfl : s' = s := hs2.trans hs.symm
          cbv
          refine s_add hS (fun u2 hu2 => ?_) (by simp only [lo]; omega) (by simp only [hi]; omega)
          cbv
          repeat' (first
            | (refine s_st hS ?_; try cbv)
            | (refine qad hS ?_ ?_ <;> intro h <;> (try cbv) <;> try exact s_ab h)
            | (refine qal hS ?_; intro _ _; try cbv)
            | (refine qaf hS ?_; try cbv)
            | (refine rowB hS hF hy rfl (by omega) ?_; try cbv))
          · obtain ⟨k1, k2, k3⟩ := herr 60 (by decide) (c1 (.inl (by omega)))
            exact qsq k1 k2 k3
          · obtain ⟨k1, k2, k3⟩ := herr 60 (by decide) (c1 (.inr (by omega)))
            exact qsq k1 k2 k3
          · rename_i htt _ _ _ a2 ha2 sf2 hsf2
            obtain ⟨t2, ht2'⟩ : ∃ t2, decide (128 ≤ y) = t2 := ⟨_, rfl⟩
            refine ⟨(a2, u2, t2, sf2), ?_, ⟨by dsimp only; omega, by dsimp only; omega, by dsimp only; omega, by dsimp only; omega, fun h => ?_, fun h => ?_⟩, rfl, ?_, ?_, ?_⟩
            · dsimp only
              have : tt = true := by assumption
              rw [this]
              simp only [if_true]
              split <;> omega
            · dsimp only at h ⊢
              have hy2 : 128 ≤ y := by rw [← ht2'] at h; simpa using h
              exact ⟨by omega, by omega, by rw [c3 (by omega) (by omega), ha2, hu2, show (7 - (a + 1)).toNat = (6 - a).toNat by omega]⟩
            · dsimp only at h ⊢
              have hy2 : ¬128 ≤ y := by rw [← ht2'] at h; simpa using h
              rw [c2 (by omega) (by omega), ha2, hu2]
            · cbv; (repeat' (first | exact qdy | exact Sub.rfl | exact SubL.nil | refine SubL.cons ?_ ?_ | exact qan rfl | (refine qrg ?_; simp only [← hS, Int.ofNat_eq_natCast, cq, Bool.not_eq_true', Bool.not_eq_false', decide_eq_true_eq, decide_eq_false_iff_not, beq_iff_eq, beq_eq_false_iff_ne, ne_eq]; assumption)))
            · cbv; all_goals exact s_bA
            · cbv
      · have g4 := gf h
        obtain ⟨g5, g6, g7⟩ := hok u a (by omega) g4
        repeat' (first
          | (refine s_st hS ?_; try cbv)
          | (refine qad hS ?_ ?_ <;> intro h <;> (try cbv) <;> try exact s_ab h)
          | (refine qal hS ?_; intro _ _; try cbv)
          | (refine qaf hS ?_; try cbv)
          | (refine qji hS (G := []) (by rfl) ?_; cbv))
        have e : S.mi n a = n - a := by rw [← hS]; rfl
        have hX := sub_part hS hF (o := a) (n := S.mi n a)
        have hPR : part b a (S.mi n a) = R := by rw [g5, qzacf (by omega) (by omega)]
        rw [hPR] at hX
        refine ⟨_, qbj (.cons (qan g6.symm) (.cons .rfl (.cons (qan g7.symm) .nil))), qjl hX hP (Nat.le_refl 1) ?_ rfl⟩
        show S.mi n a = ilen R
        rw [e, g5]; unfold ilen at *; rw [List.length_drop]; omega
end Cz
namespace Cz
open Go Go.RowKit Go.Proofs
theorem qzaax {b : List Int} (h : Hu.BOk b) (k : Nat) : Hu.BOk (b.drop k) := fun v hv => h v (List.mem_of_mem_drop hv)
theorem qeg {b : List Int} {p : Int} (h : Hu.BOk b) : Hu.BOk (preR b p) := by
  unfold preR
  split
  · exact qzaax h _
  · intro v hv; cases hv
theorem qpb {b : List Int} {o n : Int} (h : Hu.BOk b) : Hu.BOk (part b o n) := fun v hv => h v (List.mem_of_mem_drop (List.mem_of_mem_take hv))
theorem qzabr {d : List Int} (hd : Hu.BOk d) : Hu.BOk (takeL d) := by
  unfold takeL
  cases ht : Hu.take d with
  | some o => exact (Hu.put_take hd ht).2
  | none => intro v hv; cases hv
theorem qzaec (d : List Int) : takeE d = 0 ∨ takeE d = 70 ∧ takeL d = [] := by
  unfold takeE takeL
  cases Hu.take d with
  | some o => exact .inl rfl
  | none => exact .inr ⟨rfl, rfl⟩
section
variable {S : Sy} {b : List Int} {F : List SV} {k : Nat} {ro lit : Bool} {st zn zk : Z} {l : List Blk} {K : SV → List Blk → Prop}
theorem rptake_u (hS : S0 Tryd.prog = S) (kk p : Int) (hzk : zk.v = kk) (hb : Hu.BOk b) (hn : ilen b ≤ 1000000) (hk1 : 1 ≤ kk) (hk8 : kk ≤ 8) (hp : 2 ^ kk.toNat = p) (hrow : lget l k = .r ro lit st 1 F) (hs : FSub F (cellsB b)) (hz : zn.v = ilen b)
    (hK : ∀ N R E F2 n2 st, preN b p = N → preR b p = R → preE b p = E → cellsB R = F2 → n2 = ilen R → K (.tp [.i .i64 (.y N), .sl (len l) 1 (.l 0) (.y n2) none, .i .i64 (.y E)]) (snoc l (.r false false (.y st) 1 F2))) :
    S.call 94 [.sl k 1 (.l 0) zn none, .i .i64 zk] l K := by
  subst hzk
  exact use_ownP hS (fun _ => k) (rptake_f hb hn hk1 hk8 hp) (.cons (qez rfl hz) (.cons (qan rfl) .nil)) rfl ⟨⟨_, _, _, _, _, _, _, _, rfl, qai _, hrow, hs⟩, trivial⟩ (by omega) (qai _) rfl rfl (qef _) fun st => hK _ _ _ _ _ st rfl rfl rfl rfl rfl
end
def tTake (b : List Int) : List Int × List Int × Int :=
  if preE b 128 ≠ 0 then ([], [], preE b 128)
  else if ilen (preR b 128) < preN b 128 then ([], [], 10)
  else if b.getD 0 0 < 128 then (part (preR b 128) 0 (preN b 128), (preR b 128).drop (preN b 128).toNat, 0)
  else if takeE (part (preR b 128) 0 (preN b 128)) = 0 then (takeL (part (preR b 128) 0 (preN b 128)), (preR b 128).drop (preN b 128).toNat, 0)
  else ([], [], 70)
def tS (b : List Int) : List Int := (tTake b).1
def tR (b : List Int) : List Int := (tTake b).2.1
def tE (b : List Int) : Int := (tTake b).2.2
theorem pgo_ok {b : List Int} (hb : Hu.BOk b) : ∀ (f : Nat) (a n : Int), 0 ≤ n → 0 ≤ (pgo b f a n).1
  | 0, a, n, h => by simp [pgo]
  | f + 1, a, n, h => by
    rw [pgo]
    split
    · simp
    · rename_i v hv
      have hv0 := hb v (List.mem_of_getElem? hv)
      have hs : 0 ≤ v % 128 * 2 ^ (7 * (a - 1)).toNat := Int.mul_nonneg (by omega) (Int.le_of_lt (qde _))
      split
      · simp
      · split
        · simp only; omega
        · exact pgo_ok hb f _ _ (by omega)
theorem qpo {b : List Int} {p : Int} (hb : Hu.BOk b) (hp : 1 ≤ p) : 0 ≤ preN b p := by
  unfold preN preI
  cases b with
  | nil => simp
  | cons v b =>
    simp only
    split
    · exact Int.emod_nonneg _ (by omega)
    · exact pgo_ok hb _ _ _ (by omega)
theorem qkq {b : List Int} {p : Int} : ilen (preR b p) ≤ ilen b := by
  unfold preR
  split
  · unfold ilen; rw [List.length_drop]; omega
  · unfold ilen; simp
theorem preE_nil {p : Int} : preE [] p = 10 := rfl
theorem qze {P : List SV} {x : List UInt8} {e : Int} {z : Z} {l' : List Blk} (hx : x = []) (hP : P = []) (he : e = z.v) : OwnP 1 1 P [.s x] [.i .i64 (.y e)] (.tp [.s [], .re (.slice none 0 0), .i .i64 z]) l' :=
  ⟨_, qbj (.cons (sub_s hx.symm) (.cons .rfl (.cons (qan he.symm) .nil))), .inl ⟨rfl, hP⟩⟩
end Cz
namespace Cz
open Go Go.RowKit Go.Proofs
theorem cells_part (b : List Int) (o n : Nat) : ((cellsB b).drop (o * 1)).take (n * 1) = cellsB ((b.drop o).take n) := by
  simp only [qhr, Nat.mul_one, List.map_take, List.map_drop]
theorem s_bsp {S : Sy} (hS : S0 Tryd.prog = S) {R T : List Int} {F : List SV} {n : Int} {K : List UInt8 → Prop} (hb : Hu.BOk R) (hF : cellsB R = F) (hT : part R 0 n = T) (h0 : 0 ≤ n) (h1 : n ≤ ilen R) (h : K (strB T)) : S.bs F 0 n K := by
  subst hS hF hT
  have hl := qsp (b := R) (o := 0) (n := n) (by decide) h0 (by omega)
  refine ⟨Int.le_refl _, h0, strB (part R 0 n), ⟨?_, ?_⟩, h⟩
  · unfold strB; rw [List.length_map]; unfold ilen at hl; omega
  · intro q c hc
    unfold strB at hc
    rw [List.getElem?_map, Option.map_eq_some_iff] at hc
    obtain ⟨v, hv, rfl⟩ := hc
    have hq : R[q]? = some v := by
      unfold part at hv
      rw [List.getElem?_take] at hv
      split at hv
      · rw [List.getElem?_drop] at hv; simpa using hv
      · cases hv
    refine ⟨.y v, ?_, ?_⟩
    · rw [show (0 : Int).toNat + q = q by simp]; exact qxx hq
    · have := hb v (List.mem_of_getElem? hq)
      simp only [Z.v, Nat.toUInt8, UInt8.toNat_ofNat']
      omega
theorem rtake_cut {S : Sy} (hS : S0 Tryd.prog = S) {R T : List Int} {F : List SV} {k : Nat} {ro lit : Bool} {st zn : Z} {l : List Blk} {K : SV → List Blk → Prop} {n : Int} (hR : Hu.BOk R) (hn : ilen R ≤ 1000000) (hrow : lget l k = .r ro lit st 1 F) (hs : FSub F (cellsB R))
    (hz : zn.v = n) (h0 : 0 ≤ n) (h1 : n ≤ ilen R) (hT : part R 0 n = T)
    (hK : ∀ L F2 n2 st e, takeL T = L → cellsB L = F2 → n2 = ilen L → takeE T = e → K (.tp [.sl (len l) 1 (.l 0) (.y n2) none, .i .i64 (.y e)]) (snoc l (.r false false (.y st) 1 F2))) : S.call 120 [.sl k 1 (.l 0) zn none] l K := by
  have hTl : ilen T = n := by rw [← hT]; exact qsp (by decide) h0 (by omega)
  have hTok : Hu.BOk T := hT ▸ qpb hR
  have hf := rtake_f hTok (by omega)
  refine use_cut hS (o := 0) (m := T.length) (F1 := cellsB R) hf hrow hs (qai R) rfl (by rw [hz]; exact hTl.symm) ?_ ?_ (by omega) (qai _) rfl (qef _) fun st => hK _ _ _ st _ rfl rfl rfl rfl
  · rw [cells_part, ← hT]
    unfold part at *
    congr 1
    simp only [Int.toNat_zero, List.drop_zero] at *
    rw [← hT] at hTl
    unfold ilen at hTl h1
    rw [List.length_take] at hTl ⊢
    rw [List.take_eq_take_iff]
    omega
  · have := qbc R
    unfold ilen at *
    omega
theorem ownS_val {P X : List SV} {L : List Int} {x y : List UInt8} {e : Int} {z q : Z} {k : Nat} {lit : Bool} {st : Z} {l' : List Blk} (hx : x = y) (hX : X = cellsB L) (hP : cellsB L = P) (he : e = z.v) (hk : 1 ≤ k) (hq : q.v = ilen L) (hB : l'[k]? = some (.r false lit st 1 X)) :
    OwnP 1 1 P [.s x] [.i .i64 (.y e)] (.tp [.s y, .sl k 1 (.l 0) q none, .i .i64 z]) l' :=
  ⟨_, qbj (.cons (sub_s hx.symm) (.cons .rfl (.cons (qan he.symm) .nil))), qjl hX hP hk hq hB⟩
theorem rttake_f {b : List Int} (hb : Hu.BOk b) (hnb : ilen b ≤ 1000000) :
    (S0 Tryd.prog).call 109 [.sl 0 1 (.l 0) (.y (ilen b)) none] [.r true true (.l 0) 1 (cellsB b)] (OwnP 1 1 (cellsB (tR b)) [.s (strB (tS b))] [.i .i64 (.y (tE b))]) := by
  obtain ⟨n, hn'⟩ : ∃ n, n = ilen b := ⟨_, rfl⟩
  have h0n := qah b
  have hn := hnb
  rw [← hn'] at h0n hn ⊢
  have hpl := qai b
  obtain ⟨N, hN⟩ : ∃ N, preN b 128 = N := ⟨_, rfl⟩
  obtain ⟨E, hE⟩ : ∃ E, preE b 128 = E := ⟨_, rfl⟩
  obtain ⟨R, hR⟩ : ∃ R, preR b 128 = R := ⟨_, rfl⟩
  have hN0 := qpo (p := 128) hb (by decide)
  have hRl := qkq (b := b) (p := 128)
  have hRok := qeg (p := 128) hb
  rw [hN] at hN0
  rw [hR] at hRl hRok
  obtain ⟨x, hx⟩ : ∃ x, x = strB (tS b) := ⟨_, rfl⟩
  obtain ⟨e, he⟩ : ∃ e, e = tE b := ⟨_, rfl⟩
  obtain ⟨Q, hQ⟩ : ∃ Q, Q = tR b := ⟨_, rfl⟩
  have hT : ∀ a c d, tTake b = (a, c, d) → x = strB a ∧ Q = c ∧ e = d := fun a c d h => ⟨by rw [hx]; unfold tS; rw [h], by rw [hQ]; unfold tR; rw [h], by rw [he]; unfold tE; rw [h]⟩
  rw [← hx, ← he, ← hQ]
  clear hx he hQ
  unfold tTake at hT
  rw [hN, hE, hR] at hT
  generalize hF : cellsB b = F at hpl ⊢
  have hfs : FSub F (cellsB b) := by rw [hF]; exact .rfl
  generalize hP : cellsB Q = P
  refine qzads hpl ?_
  generalize hS : S0 Tryd.prog = S
  refine qaa hS I.qnc ?_
  cbv
  refine rptake_u hS (b := b) 7 128 rfl hb hnb (by decide) (by decide) rfl rfl hfs hn' fun N1 R1 E1 F2 n2 st hN1 hR1 hE1 hF2 hn2 => ?_
  have e1 : N1 = N := hN1.symm.trans hN
  have e2 : R = R1 := hR.symm.trans hR1
  have e3 : E1 = E := hE1.symm.trans hE
  cbv
  repeat' (first
    | (refine s_st hS ?_; try cbv)
    | (refine qad hS ?_ ?_ <;> intro h <;> (try cbv) <;> try exact s_ab h)
    | (refine qal hS ?_; intro _ _; try cbv)
    | (refine qaf hS ?_; try cbv))
  · obtain ⟨a1, a2, a3⟩ := hT [] [] E (by rw [if_pos (by omega)])
    exact qze a1 (by rw [← hP, a2]; rfl) (by simp only [Z.v]; omega)
  · obtain ⟨a1, a2, a3⟩ := hT [] [] 10 (by rw [if_neg (by omega), if_pos (by rw [e2]; omega)])
    exact qze a1 (by rw [← hP, a2]; rfl) a3
  · have hE0 : ¬E ≠ 0 := by omega
    have hRN : ¬ilen R < N := by rw [e2]; omega
    rw [if_neg hE0, if_neg hRN, e2, ← e1] at hT
    rw [← e1] at hN0
    rw [e2] at hRl hRok
    have hn1 : 1 ≤ n := by
      rcases Int.lt_or_le n 1 with h1 | h1
      · exfalso
        have : b = [] := List.length_eq_zero_iff.1 (by unfold ilen at hn'; omega)
        rw [this, preE_nil] at hE
        omega
      · exact h1
    obtain ⟨v, hv⟩ := qfe (l := b) (i := 0) (by omega) (Int.le_refl 0)
    have hb0 := hb v (List.mem_of_getElem? hv)
    have hv0 : b.getD 0 0 = v := by rw [List.getD_eq_getElem?_getD]; simp at hv; rw [hv]; rfl
    rw [hv0] at hT
    have hfs2 : FSub F2 (cellsB R1) := by rw [hF2]; exact .rfl
    obtain ⟨n3, hn3⟩ : ∃ n3, n3 = n2 - N1 := ⟨_, rfl⟩
    obtain ⟨T, hTp⟩ : ∃ T, part R1 0 N1 = T := ⟨_, rfl⟩
    have hTl : ilen T = N1 := by rw [← hTp]; exact qsp (by decide) hN0 (by omega)
    have hTok : Hu.BOk T := hTp ▸ qpb hRok
    rw [hTp] at hT
    refine qao hS rfl I.qiy (by decide +kernel) ?_
    cbv
    repeat' (first
      | (refine s_st hS ?_; try cbv)
      | (refine qad hS ?_ ?_ <;> intro h <;> (try cbv) <;> try exact s_ab h)
      | (refine qal hS ?_; intro _ _; try cbv)
      | (refine qaf hS ?_; try cbv)
      | (refine qji hS (G := []) (by rfl) ?_; cbv)
      | (refine And.intro rfl ?_; try cbv))
    have emi : S.mi n2 N1 = n3 := by rw [← hS, hn3]; rfl
    have hD : part R1 N1 n3 = R1.drop N1.toNat := qzacf hN0 (by omega)
    have hX := sub_part hS hF2 (o := N1) (n := S.mi n2 N1)
    rw [emi, hD] at hX
    have hDl : n3 = ilen (R1.drop N1.toNat) := by rw [← hD]; exact (qsp hN0 (by omega) (by omega)).symm
    have hX' : S.app [] (S.sub F2 N1 (S.mi n2 N1) 1) = cellsB (R1.drop N1.toNat) := by rw [emi]; exact hX
    refine rowB hS hF hv rfl (Int.le_refl 0) ?_
    cbv
    refine qad hS ?_ ?_ <;> intro h <;> cbv
    · obtain ⟨a1, a2, a3⟩ := hT T (R1.drop N1.toNat) 0 (by rw [if_pos (by omega)])
      refine s_bsp hS hRok hF2 hTp hN0 (by omega) ?_
      rw [← a1]
      cbv
      exact ownS_val rfl hX' (by rw [← a2]; exact hP) a3 (by omega) (emi.trans hDl) rfl
    · refine rtake_cut hS (n := N1) hRok (by omega) rfl hfs2 rfl hN0 (by omega) hTp fun L F5 n5 st5 e5 hL hF5 hn5 he5 => ?_
      cbv
      repeat' (first
        | (refine s_st hS ?_; try cbv)
        | (refine qad hS ?_ ?_ <;> intro h <;> (try cbv) <;> try exact s_ab h)
        | (refine qal hS ?_; intro _ _; try cbv)
        | (refine qaf hS ?_; try cbv))
      · have h70 : e5 = 70 := by
          rcases qzaec T with h1 | ⟨h1, _⟩ <;> omega
        obtain ⟨a1, a2, a3⟩ := hT [] [] 70 (by rw [if_neg (by omega), if_neg (by omega)])
        exact qze a1 (by rw [← hP, a2]; rfl) (by simp only [Z.v]; omega)
      · obtain ⟨a1, a2, a3⟩ := hT (takeL T) (R1.drop N1.toNat) 0 (by rw [if_neg (by omega), if_pos (by rw [he5]; exact h)])
        rw [hL] at a1
        refine s_bs hS (hL ▸ qzabr hTok) hF5 hn5 ?_
        rw [← a1]
        cbv
        exact ownS_val rfl hX' (by rw [← a2]; exact hP) a3 (by omega) (emi.trans hDl) rfl
end Cz
namespace Cz
open Go Go.RowKit Go.Proofs
theorem or128_all : ∀ n : Fin 256, IntKind.u8.wrap ((BitVec.ofInt 8 (n.val : Int) ||| BitVec.ofInt 8 128).toNat : Int) = ((n.val % 128 + 128 : Nat) : Int) := by decide +kernel
theorem s_or128 {S : Sy} {a : Int} {K : Int → Prop} (hS : S0 Tryd.prog = S) (h0 : 0 ≤ a) (h1 : a < 256) (h : ∀ r, r = a % 128 + 128 → K r) : S.ar .or .u8 a 128 K := by
  refine qtn hS _ rfl (h _ ?_)
  have := or128_all ⟨a.toNat, by omega⟩
  simp only [Int.toNat_of_nonneg h0] at this
  rw [show arS .or .u8 a 128 = IntKind.u8.wrap ((BitVec.ofInt 8 a ||| BitVec.ofInt 8 128).toNat : Int) from rfl, this]
  omega
theorem andn_nat (w m u : Nat) (hm : m ≤ w) (hu : u < 2 ^ w) : u &&& (2 ^ w - 1 - (2 ^ m - 1)) = u - u % 2 ^ m := by
  have hp : 2 ^ m ≤ 2 ^ w := Nat.pow_le_pow_right (by omega) hm
  apply Nat.eq_of_testBit_eq
  intro i
  have e1 : 2 ^ w - 1 - (2 ^ m - 1) = 2 ^ m * (2 ^ (w - m) - 1) := by
    rw [Nat.mul_sub, ← Nat.pow_add, show m + (w - m) = w by omega]
    have := Nat.two_pow_pos m
    omega
  have e2 : u - u % 2 ^ m = 2 ^ m * (u / 2 ^ m) := by have := Nat.div_add_mod u (2 ^ m); omega
  rw [e1, e2, Nat.testBit_and, Nat.testBit_two_pow_mul, Nat.testBit_two_pow_mul, Nat.testBit_two_pow_sub_one]
  by_cases h : m ≤ i
  · simp only [h, decide_true, Bool.true_and]
    rw [Nat.testBit_div_two_pow, show i - m + m = i by omega]
    by_cases h2 : i - m < w - m
    · simp [h2]
    · have : u.testBit i = false := Nat.testBit_lt_two_pow (Nat.lt_of_lt_of_le hu (Nat.pow_le_pow_right (by omega) (by omega)))
      simp [this]
  · simp [h]
def sept : Nat → Int → List Int
  | 0, _ => []
  | f + 1, q => if q < 128 then [q] else (q % 128 + 128) :: sept f (q / 128)
def putI (n p up : Int) : List Int := if n < p - 1 then [up - up % p + n] else (up - up % p + (p - 1)) :: sept 5 (n - (p - 1))
theorem s_andn {S : Sy} {a b p : Int} {m : Nat} {K : Int → Prop} (hS : S0 Tryd.prog = S) (hp : (2 : Int) ^ m = p) (hm : m ≤ 8) (hb : b = p - 1) (h0 : 0 ≤ a) (h1 : a < 256) (h : ∀ r, r = a - a % p → K r) : S.ar .andn .u8 a b K := by
  subst hp hb
  refine qtn hS _ ?_ (h _ rfl)
  show IntKind.u8.wrap ((BitVec.ofInt 8 a &&& ~~~ BitVec.ofInt 8 ((2 : Int) ^ m - 1)).toNat : Int) = _
  have hle := qgj (m := m) (n := 8) hm
  have hpos := qde m
  have e1 : ((2 : Int) ^ m - 1).toNat = 2 ^ m - 1 := by have := qgk m; omega
  rw [BitVec.toNat_and, BitVec.toNat_not, qdo, qdo, Int.emod_eq_of_lt h0 (by omega), Int.emod_eq_of_lt (a := (2 : Int) ^ m - 1) (by omega) (by omega), e1, andn_nat 8 m _ hm (by omega)]
  have h2 := Int.emod_nonneg a (b := (2 : Int) ^ m) (by omega)
  have h3 : ((a.toNat - a.toNat % 2 ^ m : Nat) : Int) = a - a % 2 ^ m := by
    have h4 := Nat.mod_le a.toNat (2 ^ m)
    have h5 : ((a.toNat % 2 ^ m : Nat) : Int) = a % 2 ^ m := by rw [Int.natCast_emod, Int.toNat_of_nonneg h0, qgk]
    omega
  rw [h3]
  have h6 : a % 2 ^ m ≤ a := by
    have := Int.mul_ediv_add_emod a (2 ^ m)
    have h7 : 0 ≤ (2 : Int) ^ m * (a / 2 ^ m) := Int.mul_nonneg (by omega) (Int.ediv_nonneg h0 (by omega))
    omega
  exact qhu (by simp only [lo]; omega) (by simp only [Cz.hi]; omega)
def septOk (f : Nat) (q : Int) : Prop := 1 ≤ f ∧ 0 ≤ q ∧ q < 128 ^ f
theorem qyk {f : Nat} {q : Int} (h : septOk f q) (h1 : q < 128) : sept f q = [q] := by
  obtain ⟨f', rfl⟩ : ∃ f', f = f' + 1 := ⟨f - 1, by have := h.1; omega⟩
  rw [sept, if_pos h1]
theorem qtj {f : Nat} {q : Int} (h : septOk f q) (h1 : ¬q < 128) : sept f q = (q % 128 + 128) :: sept (f - 1) (q / 128) ∧ septOk (f - 1) (q / 128) ∧ 2 ≤ f := by
  obtain ⟨h2, h3, h4⟩ := h
  have hf : 2 ≤ f := by
    rcases Nat.lt_or_ge f 2 with h5 | h5
    · have : f = 1 := by omega
      subst this
      simp at h4; omega
    · exact h5
  obtain ⟨f', rfl⟩ : ∃ f', f = f' + 1 := ⟨f - 1, by omega⟩
  simp only [Nat.add_sub_cancel]
  refine ⟨by rw [sept, if_neg h1], ⟨by omega, by omega, ?_⟩, hf⟩
  rw [Int.pow_succ] at h4
  exact Int.ediv_lt_of_lt_mul (by decide) h4
theorem pput_f {n k up p : Int} (hn0 : 0 ≤ n) (hn1 : n < 2147483648) (hk1 : 1 ≤ k) (hk8 : k ≤ 8) (hp : 2 ^ k.toNat = p) (hu0 : 0 ≤ up) (hu1 : up < 256) :
    (S0 Tryd.prog).call 85 [.i .i64 (.y n), .i .i64 (.y k), .i .u8 (.y up)] [] (OwnR 0 1 (cellsB (putI n p up)) true [.i .i64 (.y 0)]) := by
  have hp0 : 2 ≤ p := by have := qgj (m := 1) (n := k.toNat) (by omega); rw [hp] at this; omega
  have hp1 : p ≤ 256 := by have := qgj (m := k.toNat) (n := 8) (by omega); rw [hp] at this; omega
  obtain ⟨w, hw⟩ : ∃ w, w = up % p := ⟨_, rfl⟩
  have hwb : 0 ≤ w ∧ w < p := by rw [hw]; exact ⟨Int.emod_nonneg _ (by omega), Int.emod_lt_of_pos _ (by omega)⟩
  have hw2 : w ≤ up := by
    rw [hw]
    have := Int.mul_ediv_add_emod up p
    have h7 : 0 ≤ p * (up / p) := Int.mul_nonneg (by omega) (Int.ediv_nonneg hu0 (by omega))
    omega
  obtain ⟨fi, hfi⟩ : ∃ fi, fi = up - w := ⟨_, rfl⟩
  have hfp : fi % p = 0 := by
    rw [hfi, hw]
    have := Int.mul_ediv_add_emod up p
    rw [show up - up % p = p * (up / p) by omega]
    exact Int.mul_emod_right _ _
  have hfb : fi + p ≤ 256 := by
    have h8 : ∃ c : Int, 256 = p * c := by
      refine ⟨2 ^ (8 - k.toNat), ?_⟩
      rw [← hp, ← Int.pow_add, show k.toNat + (8 - k.toNat) = 8 by omega]; rfl
    obtain ⟨c, hc⟩ := h8
    have h9 : fi = p * (up / p) := by
      have := Int.mul_ediv_add_emod up p
      omega
    have h10 : up / p < c := by
      rw [Int.ediv_lt_iff_lt_mul (by omega), Int.mul_comm]
      omega
    have h11 : p * (up / p + 1) ≤ p * c := Int.mul_le_mul_of_nonneg_left (by omega) (by omega)
    rw [Int.mul_add] at h11
    omega
  have hput : putI n p up = if n < p - 1 then [fi + n] else (fi + (p - 1)) :: sept 5 (n - (p - 1)) := by unfold putI; rw [← hw, ← hfi]
  generalize hL : putI n p up = L at hput
  generalize hP : cellsB L = P
  generalize hS : S0 Tryd.prog = S
  refine qaa hS I.qzaad ?_
  cbv
  repeat' (first
    | (refine s_st hS ?_; try cbv)
    | (refine qad hS ?_ ?_ <;> intro h <;> (try cbv) <;> try exact s_ab h)
    | (refine qal hS ?_; intro _ _; try cbv)
    | (refine qaf hS ?_; try cbv)
    | (refine qaa hS I.qvb ?_; cbv)
    | (refine qzaby hS (c := 2147483648) rfl ?_; intro _ _; cbv)
    | (refine qqw hS (c := p) (by rw [← hp]; congr 1; simp only [IntKind.bits]; omega) ?_ (by simp only [lo]; omega) (by simp only [hi]; omega); intro _ _; cbv)
    | (refine s_andn hS hp (by omega) (by omega) hu0 hu1 ?_; intro _ _; cbv))
  · rename_i m1 hm1 m0 hm0 f1 hf1
    obtain rfl : f1 = fi := by omega
    refine s_orl hS hp (by omega) hfp (by omega) (by omega) (by simp only [hi]; omega) fun r hr => ?_
    cbv
    rw [if_pos (by omega)] at hput
    refine ⟨_, qbj (.cons .rfl (.cons (qan rfl) .nil)), qjl (L := L) ?_ hP (Nat.zero_le _) ?_ rfl⟩
    · rw [hput, ← hr]; rfl
    · rw [hput]; rfl
  · rename_i m1 hm1 m0 hm0 f1 hf1
    obtain rfl : f1 = fi := by omega
    refine s_orl hS hp (by omega) hfp (by omega) (by omega) (by simp only [hi]; omega) fun r hr => ?_
    cbv
    rw [if_neg (by omega)] at hput
    repeat' (first
      | (refine s_st hS ?_; try cbv)
      | (refine qad hS ?_ ?_ <;> intro h <;> (try cbv) <;> try exact s_ab h)
      | (refine qal hS ?_; intro _ _; try cbv)
      | (refine qaf hS ?_; try cbv)
      | (refine qaa hS I.qqb ?_; cbv)
      | (refine qic hS I.qmx ?_; cbv))
    rename_i q0 hq0
    have hok0 : septOk 5 q0 := ⟨by decide, by omega, by show q0 < 34359738368; omega⟩
    have hL0 : L = [r] ++ sept 5 q0 := by rw [hput, hr, hq0, show m0 = p - 1 by omega]; rfl
    clear hput
    refine qau hS 6 I.qio (fun x : Nat × Int × Int × Int × List Int × List SV => septOk x.1 x.2.1 ∧ 0 ≤ x.2.1 ∧ x.2.1 < 2147483648 ∧ L = x.2.2.2.2.1 ++ sept x.1 x.2.1 ∧ x.2.2.1 = ilen x.2.2.2.2.1 ∧ x.2.2.1 + x.1 ≤ 6 ∧ x.2.2.2.2.2 = cellsB x.2.2.2.2.1)
      (fun _ => []) (fun x => [(0, .c [.sl 2 1 (.l 0) (.y x.2.2.1) none]), (2, .r false false (.y x.2.2.2.1) 1 x.2.2.2.2.2), (3, .c [.i .u32 (.y x.2.1)])])
      (fun x => x.1) (5, q0, 1, 0, [r], [.i .u8 (.y r)]) rfl ⟨⟨hok0, by dsimp only; omega, by dsimp only; omega, hL0, rfl, by show (1 : Int) + ((5 : Nat) : Int) ≤ 6; decide, rfl⟩, rfl, ?_, ?_, ?_⟩ ?_
    · cbv; all_goals exact s_sA
    · cbv
      refine ⟨.c (.cons (qez rfl rfl) .nil), .rfl, .r .rfl rfl rfl, .rfl, .rfl, .rfl, trivial⟩
    · cbv
    · intro x
      obtain ⟨f, q, ln, st, B, G⟩ := x
      intro hx
      dsimp only at hx
      cbv
      obtain ⟨g0, g1, g2, g3, g4, g5, g6⟩ := hx
      have hG : ilen G = ln := by rw [g6, qbc, g4]
      have hl0 := qah B
      have hln : ln ≤ 6 := by have : ln + (f : Int) ≤ 6 := g5; omega
      refine qzaby hS (c := 128) rfl fun q1 hq1 => ?_
      cbv
      refine qad hS ?_ ?_ <;> intro h <;> cbv
      · obtain ⟨k1, k2, k3⟩ := qtj g0 (by omega)
        refine s_cv8 hS fun y hy => ?_
        cbv
        refine s_or128 hS (by omega) (by omega) fun y2 hy2 => ?_
        cbv
        refine qib hS rfl rfl ?_
        cbv
        refine qji hS (by rw [hG]; omega) ?_
        cbv
        repeat' (first
          | (refine s_st hS ?_; try cbv)
          | (refine qad hS ?_ ?_ <;> intro h <;> (try cbv) <;> try exact s_ab h)
          | (refine qal hS ?_; intro _ _; try cbv)
          | (refine qaf hS ?_; try cbv)
          | (refine qzaby hS (c := 128) rfl ?_; intro _ _; cbv))
        rename_i ln2' q2 hq2
        obtain ⟨ln2, h_ln2⟩ : ∃ ln2, ln2 = ln + 1 := ⟨_, rfl⟩
        obtain ⟨st2, h_st2⟩ : ∃ st2, st2 = S.flen G := ⟨_, rfl⟩
        obtain ⟨G2, h_G2⟩ : ∃ G2, G2 = cellsB (B ++ [y2]) := ⟨_, rfl⟩
        have g5' : ln + (f : Int) ≤ 6 := g5
        have k3' : 2 ≤ f := k3
        have k4 : f - 1 < f := by omega
        have k5 : ln2 + ((f - 1 : Nat) : Int) ≤ 6 := by rw [h_ln2]; omega
        have k6 : 0 ≤ q2 ∧ q2 < 2147483648 := by omega
        refine ⟨(f - 1, q2, ln2, st2, B ++ [y2], G2), k4, ⟨by dsimp only; rw [hq2]; exact k2, k6.1, k6.2, ?_, ?_, k5, h_G2⟩, rfl, ?_, ?_, ?_⟩
        · dsimp only; rw [g3, k1, hq2, show q % 128 + 128 = y2 by omega]; simp
        · dsimp only; rw [h_ln2, g4, qur]
        · cbv; all_goals exact s_sA
        · cbv
          refine ⟨.c (.cons (qez rfl (by simp only [Z.v, ← hS, Int.ofNat_eq_natCast, cq, Bool.not_eq_true', Bool.not_eq_false', decide_eq_true_eq, decide_eq_false_iff_not, beq_iff_eq, beq_eq_false_iff_ne, ne_eq]; omega)) .nil), .rfl, qsj hS g6.symm h_G2.symm rfl h_st2.symm, .rfl, .rfl, .rfl, trivial⟩
        · cbv
      · have k1 := qyk g0 (by omega)
        refine s_cv8 hS fun y hy => ?_
        cbv
        refine qib hS rfl rfl ?_
        cbv
        refine qji hS (by rw [hG]; omega) ?_
        cbv
        repeat' (first
          | (refine s_st hS ?_; try cbv)
          | (refine qad hS ?_ ?_ <;> intro h <;> (try cbv) <;> try exact s_ab h)
          | (refine qal hS ?_; intro _ _; try cbv)
          | (refine qaf hS ?_; try cbv))
        refine ⟨_, qbj (.cons .rfl (.cons (qan rfl) .nil)), qtr hS g6.symm hP (show L = B ++ [y] by rw [g3, k1, show y = q by omega]) (Nat.zero_le _) (by simp only [Z.v, ← hS, Int.ofNat_eq_natCast, cq, Bool.not_eq_true', Bool.not_eq_false', decide_eq_true_eq, decide_eq_false_iff_not, beq_iff_eq, beq_eq_false_iff_ne, ne_eq]; omega) rfl⟩
end Cz
namespace Cz
open Go Go.RowKit Go.Proofs
theorem up_pre {k up p : Int} (hk1 : 1 ≤ k) (hk8 : k ≤ 8) (hp : 2 ^ k.toNat = p) (hu0 : 0 ≤ up) (hu1 : up < 256) :
    ∃ fi, fi = up - up % p ∧ up / p * p = fi ∧ 2 ≤ p ∧ p ≤ 256 ∧ 0 ≤ fi ∧ fi ≤ up ∧ fi + p ≤ 256 ∧ 0 ≤ up / p ∧ up / p ≤ 128 := by
  have hp0 : 2 ≤ p := by have := qgj (m := 1) (n := k.toNat) (by omega); rw [hp] at this; omega
  have hp1 : p ≤ 256 := by have := qgj (m := k.toNat) (n := 8) (by omega); rw [hp] at this; omega
  have h9 := Int.mul_ediv_add_emod up p
  have h7 : 0 ≤ p * (up / p) := Int.mul_nonneg (by omega) (Int.ediv_nonneg hu0 (by omega))
  have h6 : 0 ≤ up / p := Int.ediv_nonneg hu0 (by omega)
  have hm := Int.emod_nonneg up (show p ≠ 0 by omega)
  have h8 : ∃ c : Int, 256 = p * c := by
    refine ⟨2 ^ (8 - k.toNat), ?_⟩
    rw [← hp, ← Int.pow_add, show k.toNat + (8 - k.toNat) = 8 by omega]; rfl
  obtain ⟨c, hc⟩ := h8
  have h10 : up / p < c := by
    rw [Int.ediv_lt_iff_lt_mul (by omega), Int.mul_comm]
    omega
  have h11 : p * (up / p + 1) ≤ p * c := Int.mul_le_mul_of_nonneg_left (by omega) (by omega)
  have h12 : 2 * (up / p) ≤ p * (up / p) := Int.mul_le_mul_of_nonneg_right (by omega) h6
  rw [Int.mul_add] at h11
  rw [Int.mul_comm] at h9
  rw [Int.mul_comm p (up / p)] at h7 h11 h12
  exact ⟨_, rfl, by omega, hp0, hp1, by omega, by omega, by omega, h6, by omega⟩
theorem rpput_f {n k up p : Int} (hn0 : 0 ≤ n) (hn1 : n < 2147483648) (hk1 : 1 ≤ k) (hk8 : k ≤ 8) (hp : 2 ^ k.toNat = p) (hu0 : 0 ≤ up) (hu1 : up < 256) :
    (S0 Tryd.prog).call 64 [.i .i64 (.y n), .i .i64 (.y k), .i .u8 (.y up)] [] (OwnR 0 1 (cellsB (putI n p up)) true [.i .i64 (.y 0)]) := by
  obtain ⟨fi, hfi, hfq, hp0, hp1, hf0, hf1, hf2, hq0, hq1⟩ := up_pre hk1 hk8 hp hu0 hu1
  have hput : putI n p up = if n < p - 1 then [fi + n] else (fi + (p - 1)) :: sept 5 (n - (p - 1)) := by unfold putI; rw [← hfi]
  generalize hL : putI n p up = L at hput
  generalize hP : cellsB L = P
  obtain ⟨uq, huq⟩ : ∃ uq, up / p = uq := ⟨_, rfl⟩
  rw [huq] at hfq hq0 hq1
  generalize hS : S0 Tryd.prog = S
  refine qaa hS I.qon ?_
  cbv
  repeat' (first
    | (refine s_st hS ?_; try cbv)
    | (refine qad hS ?_ ?_ <;> intro h <;> (try cbv) <;> try exact s_ab h)
    | (refine qal hS ?_; intro _ _; try cbv)
    | (refine qaf hS ?_; try cbv)
    | (refine qaa hS I.qom ?_; cbv)
    | (refine qaa hS I.qfq ?_; cbv)
    | (refine qqw hS (c := p) (by rw [← hp]; congr 1; simp only [IntKind.bits]; omega) ?_ (by simp only [lo]; omega) (by simp only [hi]; omega); intro _ _; cbv))
  rename_i r1 hr1 m0 hm0 p1 hp1'
  obtain rfl : p1 = p := by omega
  refine s_quo hS hu0 (by omega) (by simp only [hi]; omega) fun q' hq' => ?_
  obtain rfl : q' = uq := hq'.trans huq
  cbv
  repeat' (first
    | (refine s_st hS ?_; try cbv)
    | (refine qad hS ?_ ?_ <;> intro h <;> (try cbv) <;> try exact s_ab h)
    | (refine qal hS ?_; intro _ _; try cbv)
    | (refine qaf hS ?_; try cbv))
  rename_i p2 hp2'
  obtain rfl : p2 = p1 := by omega
  refine s_mul hS (fun f1 hf1' => ?_) (by rw [hfq]; simp only [lo]; omega) (by rw [hfq]; simp only [hi]; omega)
  obtain rfl : f1 = fi := hf1'.trans hfq
  cbv
  repeat' (first
    | (refine s_st hS ?_; try cbv)
    | (refine qad hS ?_ ?_ <;> intro h <;> (try cbv) <;> try exact s_ab h)
    | (refine qal hS ?_; intro _ _; try cbv)
    | (refine qaf hS ?_; try cbv))
  · rename_i v hv
    rw [if_pos (by omega)] at hput
    refine ⟨_, qbj (.cons .rfl (.cons (qan rfl) .nil)), qjl (L := L) ?_ hP (Nat.zero_le _) ?_ rfl⟩
    · rw [hput, ← hv]; rfl
    · rw [hput]; rfl
  · rename_i v hv q0 hq0'
    rw [if_neg (by omega)] at hput
    have hok0 : septOk 5 q0 := ⟨by decide, by omega, by show q0 < 34359738368; omega⟩
    have hL0 : L = [v] ++ sept 5 q0 := by rw [hput, hv, hq0', show m0 = p2 - 1 by omega]; rfl
    clear hput
    refine qau hS 1 I.qjd (fun x : Nat × Int × Int × Int × List Int × List SV => septOk x.1 x.2.1 ∧ 0 ≤ x.2.1 ∧ x.2.1 < 2147483648 ∧ L = x.2.2.2.2.1 ++ sept x.1 x.2.1 ∧ x.2.2.1 = ilen x.2.2.2.2.1 ∧ x.2.2.1 + x.1 ≤ 6 ∧ x.2.2.2.2.2 = cellsB x.2.2.2.2.1)
      (fun x => [(0, .i .i64 (.y x.2.1)), (10, .sl 0 1 (.l 0) (.y x.2.2.1) none)]) (fun x => [(0, .r false false (.y x.2.2.2.1) 1 x.2.2.2.2.2)])
      (fun x => x.1) (5, q0, 1, 0, [v], [.i .u8 (.y v)]) rfl ⟨⟨hok0, by dsimp only; omega, by dsimp only; omega, hL0, rfl, by show (1 : Int) + ((5 : Nat) : Int) ≤ 6; decide, rfl⟩, rfl, ?_, ?_, ?_⟩ ?_
    · cbv; (repeat' (first | exact qez rfl rfl | exact qdy | exact Sub.rfl | exact SubL.nil | refine SubL.cons ?_ ?_ | exact qan rfl))
    · cbv
      exact ⟨.r .rfl rfl rfl, trivial⟩
    · cbv
    · intro x
      obtain ⟨f, q, ln, st, B, G⟩ := x
      intro hx
      dsimp only at hx
      cbv
      obtain ⟨g0, g1, g2, g3, g4, g5, g6⟩ := hx
      have hG : ilen G = ln := by rw [g6, qbc, g4]
      have hl0 := qah B
      have hln : ln ≤ 6 := by have : ln + (f : Int) ≤ 6 := g5; omega
      refine qad hS ?_ ?_ <;> intro h <;> cbv
      · obtain ⟨k1, k2, k3⟩ := qtj g0 (by omega)
        refine s_rem hS (by omega) fun y hy => ?_
        cbv
        repeat' (first
          | (refine s_st hS ?_; try cbv)
          | (refine qad hS ?_ ?_ <;> intro h <;> (try cbv) <;> try exact s_ab h)
          | (refine qal hS ?_; intro _ _; try cbv)
          | (refine qaf hS ?_; try cbv)
          | (refine qji hS (by rw [hG]; omega) ?_; cbv))
        rename_i y2 hy2
        refine s_quo hS g1 (by decide) (by simp only [hi]; omega) fun q2 hq2 => ?_
        cbv
        obtain ⟨ln2, h_ln2⟩ : ∃ ln2, ln2 = ln + 1 := ⟨_, rfl⟩
        obtain ⟨st2, h_st2⟩ : ∃ st2, st2 = S.flen G := ⟨_, rfl⟩
        obtain ⟨G2, h_G2⟩ : ∃ G2, G2 = cellsB (B ++ [y2]) := ⟨_, rfl⟩
        have g5' : ln + (f : Int) ≤ 6 := g5
        have k3' : 2 ≤ f := k3
        have k4 : f - 1 < f := by omega
        have k5 : ln2 + ((f - 1 : Nat) : Int) ≤ 6 := by rw [h_ln2]; omega
        have k6 : 0 ≤ q2 ∧ q2 < 2147483648 := by omega
        refine ⟨(f - 1, q2, ln2, st2, B ++ [y2], G2), k4, ⟨by dsimp only; rw [hq2]; exact k2, k6.1, k6.2, ?_, ?_, k5, h_G2⟩, rfl, ?_, ?_, ?_⟩
        · dsimp only; rw [g3, k1, hq2, show q % 128 + 128 = y2 by omega]; simp
        · dsimp only; rw [h_ln2, g4, qur]
        · cbv; (repeat' (first | exact qez rfl (by simp only [Z.v, ← hS, Int.ofNat_eq_natCast, cq, Bool.not_eq_true', Bool.not_eq_false', decide_eq_true_eq, decide_eq_false_iff_not, beq_iff_eq, beq_eq_false_iff_ne, ne_eq]; omega) | exact qdy | exact Sub.rfl | exact SubL.nil | refine SubL.cons ?_ ?_ | exact qan rfl))
        · cbv
          exact ⟨qsj hS g6.symm h_G2.symm rfl h_st2.symm, trivial⟩
        · cbv
      · have k1 := qyk g0 (by omega)
        refine s_cv8 hS fun y hy => ?_
        cbv
        refine qji hS (by rw [hG]; omega) ?_
        cbv
        repeat' (first
          | (refine s_st hS ?_; try cbv)
          | (refine qad hS ?_ ?_ <;> intro h <;> (try cbv) <;> try exact s_ab h)
          | (refine qal hS ?_; intro _ _; try cbv)
          | (refine qaf hS ?_; try cbv))
        refine ⟨_, qbj (.cons .rfl (.cons (qan rfl) .nil)), qtr hS g6.symm hP (show L = B ++ [y] by rw [g3, k1, show y = q by omega]) (Nat.zero_le _) (by simp only [Z.v, ← hS, Int.ofNat_eq_natCast, cq, Bool.not_eq_true', Bool.not_eq_false', decide_eq_true_eq, decide_eq_false_iff_not, beq_iff_eq, beq_eq_false_iff_ne, ne_eq]; omega) rfl⟩
end Cz
namespace Cz
open Go Go.RowKit Go.Proofs
def byS (x : List UInt8) : List Int := x.map fun c => (c.toNat : Int)
theorem qrd (x : List UInt8) : Hu.BOk (byS x) := by
  intro v hv
  unfold byS at hv
  rw [List.mem_map] at hv
  obtain ⟨c, _, rfl⟩ := hv
  have := c.toNat_lt
  omega
theorem qex (x : List UInt8) : ilen (byS x) = ilen x := by unfold byS ilen; rw [List.length_map]
theorem sb_eq {S : Sy} (hS : S0 Tryd.prog = S) (x : List UInt8) : S.sb x = cellsB (byS x) := by
  subst hS
  rw [qhr]
  unfold byS
  rw [List.map_map]; rfl
theorem qzaeh {S : Sy} (hS : S0 Tryd.prog = S) (x : List UInt8) : S.slen x = ilen (byS x) := by rw [qex, ← hS]; rfl
theorem qyf (x : List UInt8) : strB (byS x) = x := by
  unfold strB byS
  rw [List.map_map]
  conv => rhs; rw [← List.map_id x]
  apply List.map_congr_left
  intro c _
  simp
theorem byS_strB {b : List Int} (h : Hu.BOk b) : byS (strB b) = b := by
  unfold strB byS
  rw [List.map_map]
  conv => rhs; rw [← List.map_id b]
  apply List.map_congr_left
  intro v hv
  have := h v hv
  simp; omega
section
variable {S : Sy} {l : List Blk} {K : SV → List Blk → Prop} {zn zk zu : Z} {n k up : Int}
theorem qtv (hS : S0 Tryd.prog = S) (n k up p : Int) (h1 : zn.v = n) (h2 : zk.v = k) (h3 : zu.v = up) (hn0 : 0 ≤ n) (hn1 : n < 2147483648) (hk1 : 1 ≤ k) (hk8 : k ≤ 8) (hp : 2 ^ k.toNat = p) (hu0 : 0 ≤ up) (hu1 : up < 256)
    (hK : ∀ F2 n2 st, cellsB (putI n p up) = F2 → n2 = ilen (putI n p up) → K (.tp [.sl (len l) 1 (.l 0) (.y n2) none, .i .i64 (.y 0)]) (snoc l (.r false false (.y st) 1 F2))) :
    S.call 85 [.i .i64 zn, .i .i64 zk, .i .u8 zu] l K := by
  subst h1 h2 h3
  exact qtd hS id (pput_f hn0 hn1 hk1 hk8 hp hu0 hu1) (.cons (qan rfl) (.cons (qan rfl) (.cons (qan rfl) .nil))) rfl trivial (by omega) (qai _) rfl (qef _) fun st => hK _ _ st rfl rfl
theorem rpput_u (hS : S0 Tryd.prog = S) (n k up p : Int) (h1 : zn.v = n) (h2 : zk.v = k) (h3 : zu.v = up) (hn0 : 0 ≤ n) (hn1 : n < 2147483648) (hk1 : 1 ≤ k) (hk8 : k ≤ 8) (hp : 2 ^ k.toNat = p) (hu0 : 0 ≤ up) (hu1 : up < 256)
    (hK : ∀ F2 n2 st, cellsB (putI n p up) = F2 → n2 = ilen (putI n p up) → K (.tp [.sl (len l) 1 (.l 0) (.y n2) none, .i .i64 (.y 0)]) (snoc l (.r false false (.y st) 1 F2))) :
    S.call 64 [.i .i64 zn, .i .i64 zk, .i .u8 zu] l K := by
  subst h1 h2 h3
  exact qtd hS id (rpput_f hn0 hn1 hk1 hk8 hp hu0 hu1) (.cons (qan rfl) (.cons (qan rfl) (.cons (qan rfl) .nil))) rfl trivial (by omega) (qai _) rfl (qef _) fun st => hK _ _ st rfl rfl
end
theorem sept_len : ∀ (f : Nat) (q : Int), ilen (sept f q) ≤ f
  | 0, q => by simp [sept, ilen]
  | f + 1, q => by
    rw [sept]
    split
    · unfold ilen; simp; omega
    · have := sept_len f (q / 128)
      unfold ilen at this ⊢
      simp only [List.length_cons]; omega
theorem qcu (n p up : Int) : 1 ≤ ilen (putI n p up) ∧ ilen (putI n p up) ≤ 6 := by
  unfold putI
  split
  · exact ⟨Int.le_refl _, by unfold ilen; simp⟩
  · have := sept_len 5 (n - (p - 1))
    have h0 := qah (sept 5 (n - (p - 1)))
    unfold ilen at this h0 ⊢
    simp only [List.length_cons]; omega
theorem qbf {α : Type} (a b : List α) : ilen (a ++ b) = ilen a + ilen b := by unfold ilen; simp
theorem qtg {S : Sy} (hS : S0 Tryd.prog = S) {L : List Int} {F : List SV} {n : Int} (hF : cellsB L = F) (hn : n = ilen L) : S.sub F 0 n 1 = F := by
  subst hS hF hn
  show ((cellsB L).drop (0 * 1)).take ((ilen L).toNat * 1) = _
  have := qbc L
  unfold ilen at *
  rw [List.take_of_length_le (by simp; omega)]; simp
theorem qfv {S : Sy} (hS : S0 Tryd.prog = S) {A B : List Int} {F G : List SV} (hF : F = cellsB A) (hG : G = cellsB B) : S.app F G = cellsB (A ++ B) := by
  subst hS hF hG
  rw [app_eq]; unfold cellsB; rw [List.flatMap_append]
theorem qzd {P X : List SV} {L : List Int} {q : Z} {k : Nat} {lit : Bool} {st : Z} {l' : List Blk} {n0 : Nat} (hX : X = cellsB L) (hP : cellsB L = P) (hk : n0 ≤ k) (hq : q.v = ilen L) (hB : l'[k]? = some (.r false lit st 1 X)) :
    OwnR n0 1 P false [] (.sl k 1 (.l 0) q none) l' := ⟨_, .rfl, qjl hX hP hk hq hB⟩
theorem put_ib (b : List Int) : ilen (Hu.put b) ≤ 2 * ilen b + 1 := by
  have h0 := qah b
  have h1 := Hu.qmb b
  have h2 := (qpc (b := b) (j := ilen b) h0).2
  have h3 : bitsI b (ilen b) = Hu.nbits b := by unfold bitsI; rw [qbx (by omega)]
  unfold ilen at *
  omega
def plainT (b : List Int) : List Int := putI (ilen b) 128 0 ++ b
def packT (b : List Int) : List Int := putI (ilen (Hu.put b)) 128 128 ++ Hu.put b
def bestT (b : List Int) : List Int := if shortB b then packT b else plainT b
theorem tall0_f {x : List UInt8} (hx : ilen x ≤ 1000000) :
    (S0 Tryd.prog).call 91 [.s x, .fn (.func 100) [] []] [] (OwnR 0 1 (cellsB (plainT (byS x))) false []) := by
  generalize hP : cellsB (plainT (byS x)) = P
  have h0 := qah (byS x)
  have hxb := qex x
  generalize hS : S0 Tryd.prog = S
  have hsl := qzaeh hS x
  refine qaa hS I.quy ?_
  cbv
  repeat' (first
    | (refine s_st hS ?_; try cbv)
    | (refine qad hS ?_ ?_ <;> intro h <;> (try cbv) <;> try exact s_ab h)
    | (refine qal hS ?_; intro _ _; try cbv)
    | (refine qaf hS ?_; try cbv)
    | (refine qaa hS I.qqz ?_; cbv)
    | (refine qic hS I.qlx ?_; cbv)
    | (refine qaa hS I.qux ?_; cbv))
  refine qtv hS (ilen (byS x)) 7 0 128 hsl rfl rfl h0 (by omega) (by decide) (by decide) rfl (by decide) (by decide) fun F2 n2 st hF2 hn2 => ?_
  have hpl := qcu (ilen (byS x)) 128 0
  rw [← hn2] at hpl
  have e1 : S.sub F2 0 n2 1 = F2 := qtg hS hF2 hn2
  have e2 : S.sub (S.sb x) 0 (S.slen x) 1 = cellsB (byS x) := by rw [sb_eq hS, hsl]; exact qtg hS rfl rfl
  have hfl : ilen (S.sub F2 0 n2 1) = n2 * 1 := by rw [e1, ← hF2, qbc, hn2]; omega
  cbv
  repeat' (first
    | (refine s_st hS ?_; try cbv)
    | (refine qad hS ?_ ?_ <;> intro h <;> (try cbv) <;> try exact s_ab h)
    | (refine qal hS ?_; intro _ _; try cbv)
    | (refine qaf hS ?_; try cbv)
    | (refine qib hS rfl rfl ?_; cbv)
    | (refine qji hS hfl ?_; cbv)
    | (refine s_stk hS ?_; try cbv))
  · refine qzd (qfv hS (e1.trans hF2.symm) e2) hP (Nat.zero_le _) ?_ rfl
    rw [qbf, ← hn2, qex]
    simp only [Z.v, ← hS, Int.ofNat_eq_natCast, cr, Bool.not_eq_true', Bool.not_eq_false', decide_eq_true_eq, decide_eq_false_iff_not, beq_iff_eq, beq_eq_false_iff_ne, ne_eq]
theorem tall1_f {x : List UInt8} (hx : ilen x ≤ 1000000) :
    (S0 Tryd.prog).call 91 [.s x, .fn (.func 102) [] []] [] (OwnR 0 1 (cellsB (packT (byS x))) false []) := by
  generalize hP : cellsB (packT (byS x)) = P
  have h0 := qah (byS x)
  have hxb := qex x
  generalize hS : S0 Tryd.prog = S
  have hsl := qzaeh hS x
  refine qaa hS I.quy ?_
  cbv
  repeat' (first
    | (refine s_st hS ?_; try cbv)
    | (refine qad hS ?_ ?_ <;> intro h <;> (try cbv) <;> try exact s_ab h)
    | (refine qal hS ?_; intro _ _; try cbv)
    | (refine qaf hS ?_; try cbv)
    | (refine qaa hS I.qqz ?_; cbv)
    | (refine qic hS I.qlx ?_; cbv)
    | (refine qaa hS I.qrr ?_; cbv))
  have hsb := sb_eq hS x
  have hsf : FSub (S.sb x) (cellsB (byS x)) := by rw [hsb]; exact .rfl
  have hpb : ilen (Hu.put (byS x)) ≤ 2000001 := by
    have h1 := put_ib (byS x)
    omega
  have hp0 := qah (Hu.put (byS x))
  refine put_u hS (b := byS x) (qrd x) (by omega) rfl hsf hsl fun F1 n1 st1 hF1 hn1 => ?_
  cbv
  refine qtv hS (ilen (Hu.put (byS x))) 7 128 128 hn1 rfl rfl hp0 (by omega) (by decide) (by decide) rfl (by decide) (by decide) fun F2 n2 st hF2 hn2 => ?_
  have hpl := qcu (ilen (Hu.put (byS x))) 128 128
  rw [← hn2] at hpl
  have e1 : S.sub F2 0 n2 1 = F2 := qtg hS hF2 hn2
  have e2 : S.sub F1 0 n1 1 = F1 := qtg hS hF1 hn1
  have hfl : ilen (S.sub F2 0 n2 1) = n2 * 1 := by rw [e1, ← hF2, qbc, hn2]; omega
  cbv
  repeat' (first
    | (refine s_st hS ?_; try cbv)
    | (refine qad hS ?_ ?_ <;> intro h <;> (try cbv) <;> try exact s_ab h)
    | (refine qal hS ?_; intro _ _; try cbv)
    | (refine qaf hS ?_; try cbv)
    | (refine qib hS rfl rfl ?_; cbv)
    | (refine qji hS hfl ?_; cbv)
    | (refine s_stk hS ?_; try cbv))
  · refine qzd (qfv hS (e1.trans hF2.symm) (e2.trans hF1.symm)) hP (Nat.zero_le _) ?_ rfl
    rw [qbf, ← hn2, ← hn1]
    simp only [Z.v, ← hS, Int.ofNat_eq_natCast, cr, Bool.not_eq_true', Bool.not_eq_false', decide_eq_true_eq, decide_eq_false_iff_not, beq_iff_eq, beq_eq_false_iff_ne, ne_eq]
end Cz
namespace Cz
open Go Go.RowKit Go.Proofs
section
variable {S : Sy} {l : List Blk} {K : SV → List Blk → Prop} {x : List UInt8}
theorem tall0_u (hS : S0 Tryd.prog = S) (hx : ilen x ≤ 1000000)
    (hK : ∀ F2 n2 st, cellsB (plainT (byS x)) = F2 → n2 = ilen (plainT (byS x)) → K (.sl (len l) 1 (.l 0) (.y n2) none) (snoc l (.r false false (.y st) 1 F2))) : S.call 91 [.s x, .fn (.func 100) [] []] l K :=
  qtd hS id (tall0_f hx) (.cons .rfl (.cons .rfl .nil)) rfl trivial (by omega) (qai _) rfl (qef _) fun st => hK _ _ st rfl rfl
theorem tall1_u (hS : S0 Tryd.prog = S) (hx : ilen x ≤ 1000000)
    (hK : ∀ F2 n2 st, cellsB (packT (byS x)) = F2 → n2 = ilen (packT (byS x)) → K (.sl (len l) 1 (.l 0) (.y n2) none) (snoc l (.r false false (.y st) 1 F2))) : S.call 91 [.s x, .fn (.func 102) [] []] l K :=
  qtd hS id (tall1_f hx) (.cons .rfl (.cons .rfl .nil)) rfl trivial (by omega) (qai _) rfl (qef _) fun st => hK _ _ st rfl rfl
end
theorem tbest_f {x : List UInt8} (hx : ilen x ≤ 1000000) :
    (S0 Tryd.prog).call 72 [.s x] [] (OwnR 0 1 (cellsB (bestT (byS x))) false []) := by
  have hL : bestT (byS x) = if shortB (byS x) then packT (byS x) else plainT (byS x) := rfl
  generalize bestT (byS x) = L at hL ⊢
  generalize hP : cellsB L = P
  have hxb := qex x
  generalize hS : S0 Tryd.prog = S
  have hsl := qzaeh hS x
  have hsb := sb_eq hS x
  have hsf : FSub (S.sb x) (cellsB (byS x)) := by rw [hsb]; exact .rfl
  refine qaa hS I.qzade ?_
  cbv
  refine qaa hS I.qzy ?_
  cbv
  refine short_u hS (b := byS x) (qrd x) (by omega) rfl hsf hsl fun t ht => ?_
  rw [ht] at hL
  cbv
  refine s_br hS ?_ ?_ <;> intro h <;> cbv
  · rw [h] at hL
    refine qaa hS I.qwm ?_
    cbv
    refine tall1_u hS hx fun F2 n2 st hF2 hn2 => ?_
    cbv
    exact qzd (L := L) (by rw [hL]; exact hF2.symm) hP (Nat.zero_le _) (by rw [hL]; exact hn2) rfl
  · rw [h] at hL
    refine tall0_u hS hx fun F2 n2 st hF2 hn2 => ?_
    cbv
    exact qzd (L := L) (by rw [hL]; exact hF2.symm) hP (Nat.zero_le _) (by rw [hL]; exact hn2) rfl
end Cz
namespace Cz
open Go Go.RowKit Go.Proofs
theorem s_bsx {S : Sy} (hS : S0 Tryd.prog = S) {l : List Int} {F : List SV} {n : Int} {x : List UInt8} {K : List UInt8 → Prop} (hb : Hu.BOk l) (hF : cellsB l = F) (hn : n = ilen l) (hx : strB l = x) (h : K x) : S.bs F 0 n K := s_bs hS hb hF hn (hx ▸ h)
theorem v_take3 : takeL [49, 141] = [97, 97, 97] ∧ takeE [49, 141] = 0 := by
  have := Hu.take_put [97, 97, 97] (bok1 (by decide))
  rw [show Hu.put [97, 97, 97] = [49, 141] by decide +kernel] at this
  unfold takeL takeE; rw [this]; exact ⟨rfl, rfl⟩
theorem v_take4 : takeE [255] = 70 := by
  have h1 : Hu.bl [255] = List.replicate 8 true := by decide +kernel
  have : Hu.take [255] = none := by
    unfold Hu.take
    rw [h1, Hu.qsy (Hu.sym_ones 8)]
    simp
  unfold takeE; rw [this]; rfl
theorem v1 : tTake [130, 49, 141, 9] = ([97, 97, 97], [9], 0) := by
  unfold tTake
  rw [show preE [130, 49, 141, 9] 128 = 0 by decide +kernel, show preN [130, 49, 141, 9] 128 = 2 by decide +kernel, show preR [130, 49, 141, 9] 128 = [49, 141, 9] by decide +kernel,
    show part [49, 141, 9] 0 2 = [49, 141] by decide +kernel, v_take3.1, v_take3.2]
  decide +kernel
theorem v2 : tTake [2, 97] = ([], [], 10) := by decide +kernel
theorem v3 : tTake [129, 255] = ([], [], 70) := by
  unfold tTake
  rw [show preE [129, 255] 128 = 0 by decide +kernel, show preN [129, 255] 128 = 1 by decide +kernel, show preR [129, 255] 128 = [255] by decide +kernel,
    show part [255] 0 1 = [255] by decide +kernel, v_take4]
  decide +kernel
theorem qpm {n p up : Int} (h0 : 0 ≤ n) (hp : 2 ≤ p) (hp1 : p ≤ 256) (hu : 0 ≤ up - up % p) (hu1 : up - up % p + p ≤ 256) : Hu.BOk (putI n p up) := by
  have hs : ∀ (f : Nat) (q : Int), 0 ≤ q → Hu.BOk (sept f q) := by
    intro f
    induction f with
    | zero => intro q _ v hv; cases hv
    | succ f ih =>
      intro q hq v hv
      rw [sept] at hv
      split at hv
      · rw [List.mem_singleton] at hv; omega
      · rcases List.mem_cons.1 hv with h | h
        · omega
        · exact ih _ (by omega) v h
  intro v hv
  unfold putI at hv
  split at hv
  · rw [List.mem_singleton] at hv; omega
  · rcases List.mem_cons.1 hv with h | h
    · omega
    · exact hs _ _ (by omega) v h
theorem plainT_ok {b : List Int} (hb : Hu.BOk b) : Hu.BOk (plainT b) := by
  intro v hv
  rcases List.mem_append.1 hv with h | h
  · exact qpm (qah b) (by decide) (by decide) (by decide) (by decide) v h
  · exact hb v h
theorem packT_ok (b : List Int) : Hu.BOk (packT b) := by
  intro v hv
  rcases List.mem_append.1 hv with h | h
  · exact qpm (qah _) (by decide) (by decide) (by decide) (by decide) v h
  · exact Hu.put_ok b v h
theorem qzaaz {b : List Int} (hb : Hu.BOk b) : Hu.BOk (bestT b) := by
  unfold bestT
  split
  · exact packT_ok b
  · exact plainT_ok hb
end Cz
namespace Cz
open Go Go.RowKit Go.Proofs
theorem tT_ok {b : List Int} (hb : Hu.BOk b) : Hu.BOk (tS b) ∧ Hu.BOk (tR b) ∧ ilen (tR b) ≤ ilen b := by
  have h0 := qah b
  have hN := qpo (p := 128) hb (by decide)
  have hd : ∀ k, ilen ((preR b 128).drop k) ≤ ilen b := by
    intro k
    have := qkq (b := b) (p := 128)
    unfold ilen at *
    rw [List.length_drop]; omega
  unfold tS tR tTake
  split
  · exact ⟨fun v hv => by (cases hv), fun v hv => by (cases hv), h0⟩
  · split
    · exact ⟨fun v hv => by (cases hv), fun v hv => by (cases hv), h0⟩
    · split
      · exact ⟨qpb (qeg hb), qzaax (qeg hb) _, hd _⟩
      · split
        · exact ⟨qzabr (qpb (qeg hb)), qzaax (qeg hb) _, hd _⟩
        · exact ⟨fun v hv => by (cases hv), fun v hv => by (cases hv), h0⟩
theorem tR_ok {b : List Int} (hb : Hu.BOk b) : Hu.BOk (tR b) := (tT_ok hb).2.1
end Cz
namespace Cz
open Go Go.RowKit Go.Proofs
theorem get_mid {pre d : List Int} {x a : Int} (h : ilen pre = a) : (pre ++ x :: d)[a.toNat]? = some x := by
  unfold ilen at h
  rw [List.getElem?_append_right (by omega), show a.toNat - pre.length = 0 by omega]; rfl
theorem pgo_sept (d : List Int) : ∀ (f : Nat) (q a n : Int) (g : Nat) (pre : List Int), septOk f q → ilen pre = a → 1 ≤ a → a + f ≤ 6 → 0 ≤ n → n + q * 2 ^ (7 * (a - 1)).toNat < 2147483648 →
    pgo (pre ++ (sept f q ++ d)) (g + f) a n = (n + q * 2 ^ (7 * (a - 1)).toNat, a + ilen (sept f q), 0) := by
  intro f
  induction f with
  | zero => intro q a n g pre h; have := h.1; omega
  | succ f ih =>
    intro q a n g pre hq hp ha haf hn hb
    have h0 := hq.2.1
    have hpos : (0 : Int) < 2 ^ (7 * (a - 1)).toNat := qde _
    by_cases h1 : q < 128
    · rw [qyk hq h1]
      have hg : (pre ++ ([q] ++ d))[a.toNat]? = some q := get_mid hp
      have hm : q % 128 = q := Int.emod_eq_of_lt h0 h1
      rw [← Nat.add_assoc, pgo_end hg rfl (by rw [hm]; omega) h1, hm]
      rfl
    · obtain ⟨k1, k2, k3⟩ := qtj hq h1
      rw [k1]
      have hg : (pre ++ ((q % 128 + 128) :: sept (f + 1 - 1) (q / 128) ++ d))[a.toNat]? = some (q % 128 + 128) := get_mid hp
      have hm : (q % 128 + 128) % 128 = q % 128 := by omega
      have hp7 : (2 : Int) ^ (7 * (a + 1 - 1)).toNat = 128 * 2 ^ (7 * (a - 1)).toNat := by
        rw [show (7 * (a + 1 - 1)).toNat = 7 + (7 * (a - 1)).toNat by omega, Int.pow_add]; rfl
      have hsum : n + q % 128 * 2 ^ (7 * (a - 1)).toNat + q / 128 * 2 ^ (7 * (a + 1 - 1)).toNat = n + q * 2 ^ (7 * (a - 1)).toNat := by
        rw [hp7]
        generalize (2 : Int) ^ (7 * (a - 1)).toNat = P
        have e : q = q / 128 * 128 + q % 128 := by omega
        have e2 : q * P = q / 128 * (128 * P) + q % 128 * P := by
          conv => lhs; rw [e]
          rw [Int.add_mul, Int.mul_assoc]
        omega
      have hs0 : 0 ≤ q % 128 * 2 ^ (7 * (a - 1)).toNat := Int.mul_nonneg (by omega) (by omega)
      have hs1 : 0 ≤ q / 128 * 2 ^ (7 * (a + 1 - 1)).toNat := Int.mul_nonneg (by omega) (Int.le_of_lt (qde _))
      rw [← Nat.add_assoc, pgo_more hg rfl (by rw [hm]; omega) (by omega), hm]
      have := ih (q / 128) (a + 1) (n + q % 128 * 2 ^ (7 * (a - 1)).toNat) g (pre ++ [q % 128 + 128]) (by simpa using k2) (by unfold ilen at *; simp; omega) (by omega) (by omega) (by omega) (by omega)
      rw [List.append_assoc] at this
      simp only [List.cons_append, List.nil_append, Nat.add_sub_cancel] at this ⊢
      rw [this, hsum]
      unfold ilen
      simp only [List.length_cons, Prod.mk.injEq, true_and, and_true]; omega
theorem pre_put {n p up : Int} (d : List Int) (hn0 : 0 ≤ n) (hn1 : n < 2147483648) (hp0 : 2 ≤ p) (hp1 : p ≤ 256) : preI (putI n p up ++ d) p = (n, ilen (putI n p up), 0) := by
  have hf : (up - up % p) % p = 0 := by
    rw [Int.sub_emod, Int.emod_emod_of_dvd _ (Int.dvd_refl p), Int.sub_self]; rfl
  have hw : ∀ w, 0 ≤ w → w < p → (up - up % p + w) % p = w := by
    intro w h0 h1
    rw [Int.add_emod, hf, Int.zero_add, Int.emod_emod_of_dvd _ (Int.dvd_refl p), Int.emod_eq_of_lt h0 h1]
  unfold putI
  split
  · rename_i h
    unfold preI
    simp only [List.cons_append, List.nil_append]
    rw [hw n hn0 (by omega), if_pos h]; rfl
  · rename_i h
    unfold preI
    simp only [List.cons_append]
    rw [hw (p - 1) (by omega) (by omega), if_neg (by omega)]
    have := pgo_sept d 5 (n - (p - 1)) 1 (p - 1) 1 [up - up % p + (p - 1)] ⟨by decide, by omega, by show n - (p - 1) < 34359738368; omega⟩ rfl (by omega) (by omega) (by omega) (by
      show p - 1 + (n - (p - 1)) * 1 < 2147483648; omega)
    have e : (6 : Nat) = 1 + 5 := rfl
    rw [e]
    have e2 : (up - up % p + (p - 1)) :: (sept 5 (n - (p - 1)) ++ d) = [up - up % p + (p - 1)] ++ (sept 5 (n - (p - 1)) ++ d) := rfl
    rw [e2, this]
    have e3 : (2 : Int) ^ (7 * ((1 : Int) - 1)).toNat = 1 := rfl
    rw [e3]
    unfold ilen
    simp only [List.length_cons, Prod.mk.injEq, and_true]
    constructor <;> omega
theorem qnz {n p up : Int} (d : List Int) (hn0 : 0 ≤ n) (hn1 : n < 2147483648) (hp0 : 2 ≤ p) (hp1 : p ≤ 256) : preN (putI n p up ++ d) p = n ∧ preE (putI n p up ++ d) p = 0 ∧ preR (putI n p up ++ d) p = d := by
  have h := pre_put (up := up) d hn0 hn1 hp0 hp1
  have h2 : preE (putI n p up ++ d) p = 0 := by unfold preE; rw [h]
  refine ⟨by unfold preN; rw [h], h2, ?_⟩
  unfold preR
  rw [if_pos h2, h]
  simp only
  unfold ilen
  rw [Int.toNat_natCast, List.drop_left]
theorem qtt {n p up : Int} (d : List Int) (hn0 : 0 ≤ n) (hp0 : 2 ≤ p) : ∃ w, 0 ≤ w ∧ w < p ∧ (putI n p up ++ d).getD 0 0 = up - up % p + w := by
  unfold putI
  split
  · exact ⟨n, hn0, by omega, rfl⟩
  · exact ⟨p - 1, by omega, by omega, rfl⟩
theorem take_plain {b : List Int} (d : List Int) (hn : ilen b ≤ 1000000) : tTake (plainT b ++ d) = (b, d, 0) := by
  obtain ⟨h1, h2, h3⟩ := qnz (n := ilen b) (p := 128) (up := 0) (b ++ d) (qah b) (by omega) (by decide) (by decide)
  obtain ⟨w, h4, h5, h6⟩ := qtt (n := ilen b) (p := 128) (up := 0) (b ++ d) (qah b) (by decide)
  unfold plainT tTake
  rw [List.append_assoc, h1, h2, h3, h6]
  have h0 := qah d
  rw [if_neg (by simp), if_neg (by rw [qbf]; omega), if_pos (by omega)]
  unfold part ilen
  simp
theorem take_pack {b : List Int} (hb : Hu.BOk b) (d : List Int) (hn : ilen b ≤ 1000000) : tTake (packT b ++ d) = (b, d, 0) := by
  have hl := put_ib b
  have hln := qah (Hu.put b)
  obtain ⟨h1, h2, h3⟩ := qnz (n := ilen (Hu.put b)) (p := 128) (up := 128) (Hu.put b ++ d) hln (by omega) (by decide) (by decide)
  obtain ⟨w, h4, h5, h6⟩ := qtt (n := ilen (Hu.put b)) (p := 128) (up := 128) (Hu.put b ++ d) hln (by decide)
  have ht := Hu.take_put b hb
  unfold packT tTake
  rw [List.append_assoc, h1, h2, h3, h6]
  have h0 := qah d
  have hp : part (Hu.put b ++ d) 0 (ilen (Hu.put b)) = Hu.put b := by unfold part ilen; simp
  rw [if_neg (by simp), if_neg (by rw [qbf]; omega), if_neg (by omega), hp]
  have e1 : takeE (Hu.put b) = 0 := by unfold takeE; rw [ht]; rfl
  have e2 : takeL (Hu.put b) = b := by unfold takeL; rw [ht]; rfl
  rw [if_pos e1, e2]
  unfold ilen; simp
theorem qte {b : List Int} (hb : Hu.BOk b) (d : List Int) (hn : ilen b ≤ 1000000) : tTake (bestT b ++ d) = (b, d, 0) := by
  unfold bestT; split
  · exact take_pack hb d hn
  · exact take_plain d hn
theorem put_il2 (b : List Int) : ilen (Hu.put b) = (bitsI b (ilen b) + 7) / 8 := by
  have h1 : bitsI b (ilen b) = Hu.nbits b := by unfold bitsI; rw [qbx (by omega)]
  rw [h1]
  have := Hu.qmb b
  unfold ilen; omega
end Cz
namespace Cz
open Go Go.RowKit Go.Proofs
theorem qno {a b : List Int} (ha : Hu.BOk a) (hb : Hu.BOk b) : Hu.BOk (a ++ b) := fun v hv => (List.mem_append.1 hv).elim (ha v) (hb v)
end Cz
namespace Cz
open Go Go.RowKit Go.Proofs
namespace Tb
abbrev Fd := List UInt8 × List UInt8
def stL : List Fd :=
   [([58, 109, 101, 116, 104, 111, 100], [71, 69, 84]),
    ([58, 109, 101, 116, 104, 111, 100], [80, 79, 83, 84]),
    ([58, 112, 97, 116, 104], [47]),
    ([58, 115, 99, 104, 101, 109, 101], [104, 116, 116, 112]),
    ([58, 115, 99, 104, 101, 109, 101], [104, 116, 116, 112, 115]),
    ([58, 115, 116, 97, 116, 117, 115], [50, 48, 48]),
    ([58, 115, 116, 97, 116, 117, 115], [50, 48, 52]),
    ([58, 115, 116, 97, 116, 117, 115], [52, 48, 52]),
    ([58, 115, 116, 97, 116, 117, 115], [53, 48, 48]),
    ([97, 99, 99, 101, 112, 116], []),
    ([99, 111, 110, 116, 101, 110, 116, 45, 108, 101, 110, 103, 116, 104], []),
    ([99, 111, 110, 116, 101, 110, 116, 45, 116, 121, 112, 101], []),
    ([99, 111, 111, 107, 105, 101], []),
    ([100, 97, 116, 101], []),
    ([104, 111, 115, 116], []),
    ([108, 111, 99, 97, 116, 105, 111, 110], []),
    ([112, 114, 105, 111, 114, 105, 116, 121], []),
    ([112, 114, 105, 111, 114, 105, 116, 121], [117, 61, 49]),
    ([115, 101, 114, 118, 101, 114], []),
    ([117, 115, 101, 114, 45, 97, 103, 101, 110, 116], [])]
def lineL : List (List UInt8) :=
   [[58, 109, 101, 116, 104, 111, 100, 32, 71, 69, 84],
    [58, 109, 101, 116, 104, 111, 100, 32, 80, 79, 83, 84],
    [58, 112, 97, 116, 104, 32, 47],
    [58, 115, 99, 104, 101, 109, 101, 32, 104, 116, 116, 112],
    [58, 115, 99, 104, 101, 109, 101, 32, 104, 116, 116, 112, 115],
    [58, 115, 116, 97, 116, 117, 115, 32, 50, 48, 48],
    [58, 115, 116, 97, 116, 117, 115, 32, 50, 48, 52],
    [58, 115, 116, 97, 116, 117, 115, 32, 52, 48, 52],
    [58, 115, 116, 97, 116, 117, 115, 32, 53, 48, 48],
    [97, 99, 99, 101, 112, 116],
    [99, 111, 110, 116, 101, 110, 116, 45, 108, 101, 110, 103, 116, 104],
    [99, 111, 110, 116, 101, 110, 116, 45, 116, 121, 112, 101],
    [99, 111, 111, 107, 105, 101],
    [100, 97, 116, 101],
    [104, 111, 115, 116],
    [108, 111, 99, 97, 116, 105, 111, 110],
    [112, 114, 105, 111, 114, 105, 116, 121],
    [112, 114, 105, 111, 114, 105, 116, 121, 32, 117, 61, 49],
    [115, 101, 114, 118, 101, 114],
    [117, 115, 101, 114, 45, 97, 103, 101, 110, 116]]
def joinT : List (List UInt8) → List UInt8
  | [] => []
  | [x] => x
  | x :: y :: r => x ++ 10 :: joinT (y :: r)
def remT (j : Nat) : List UInt8 := joinT (lineL.drop j)
def szF (f : Fd) : Int := ilen f.1 + ilen f.2 + 32
theorem qgr (f : Fd) : 32 ≤ szF f := by have := qah f.1; have := qah f.2; unfold szF; omega
def fullL : List Fd → Int
  | [] => 0
  | f :: r => szF f + fullL r
theorem qgo : ∀ l : List Fd, 0 ≤ fullL l
  | [] => by simp [fullL]
  | f :: r => by have := qgr f; have := qgo r; simp only [fullL]; omega
theorem qjw : ∀ l m : List Fd, fullL (l ++ m) = fullL l + fullL m
  | [], m => by simp [fullL]
  | f :: r, m => by simp only [List.cons_append, fullL, qjw r m]; omega
theorem qco : ∀ l : List Fd, 32 * ilen l ≤ fullL l
  | [] => by simp [fullL, ilen]
  | f :: r => by have := qgr f; have := qco r; simp only [fullL, ilen, List.length_cons] at *; omega
theorem qfm {l : List Fd} {i : Int} {f : Fd} (h : l[i.toNat]? = some f) (h0 : 0 ≤ i) : fullL (l.take (i + 1).toNat) = fullL (l.take i.toNat) + szF f := by
  rw [qdr h h0, qjw]; simp [fullL]
theorem qei (l : List Fd) (n : Nat) : fullL (l.take n) ≤ fullL l := by
  conv => rhs; rw [← List.take_append_drop n l]
  rw [qjw]
  have := qgo (l.drop n); omega
theorem qmw {l : List Fd} {i : Nat} {f : Fd} (h : l[i]? = some f) : szF f ≤ fullL l := by
  have h1 := qei l (i + 1)
  have h2 := qfm (i := i) (by simpa using h) (by omega)
  have h3 := qgo (l.take i)
  rw [show ((i : Int) + 1).toNat = i + 1 by omega] at h2
  simp only [Int.toNat_natCast] at h2
  omega
def rightL (mx : Int) (l : List Fd) : Bool := decide (0 ≤ mx ∧ mx ≤ 4096 ∧ fullL l ≤ mx)
def evN (mx : Int) (l : List Fd) : Nat → Nat
  | 0 => 0
  | n + 1 => if fullL (l.take (n + 1)) ≤ mx then n + 1 else evN mx l n
def evL (mx : Int) (l : List Fd) : List Fd := l.take (evN mx l l.length)
theorem evN_le (mx : Int) (l : List Fd) : ∀ n, evN mx l n ≤ n
  | 0 => Nat.le_refl _
  | n + 1 => by
    simp only [evN]
    split
    · exact Nat.le_refl _
    · exact Nat.le_succ_of_le (evN_le mx l n)
theorem qzaam {mx : Int} {l : List Fd} {n : Nat} (h : fullL (l.take n) ≤ mx) : evN mx l n = n := by
  cases n with
  | zero => rfl
  | succ n => rw [evN, if_pos h]
theorem evN_next {mx : Int} {l : List Fd} {n : Nat} (h : ¬fullL (l.take (n + 1)) ≤ mx) : evN mx l (n + 1) = evN mx l n := by rw [evN, if_neg h]
theorem evN_full {mx : Int} {l : List Fd} (h0 : 0 ≤ mx) : ∀ n, fullL (l.take (evN mx l n)) ≤ mx
  | 0 => by simpa [evN, fullL] using h0
  | n + 1 => by
    by_cases h : fullL (l.take (n + 1)) ≤ mx
    · rw [qzaam h]; exact h
    · rw [evN_next h]; exact evN_full h0 n
theorem qot {mx : Int} {l : List Fd} (h0 : 0 ≤ mx) : fullL (evL mx l) ≤ mx := evN_full h0 _
theorem qzafb {mx : Int} {l : List Fd} (h : fullL l ≤ mx) : evL mx l = l := by
  unfold evL
  rw [qzaam (by rw [List.take_length]; exact h), List.take_length]
abbrev Tab := Int × List Fd
def newR (most : Int) : Tab × Int := if most < 0 ∨ 4096 < most then ((0, []), 2) else ((most, []), 0)
def addR (t : Tab) (f : Fd) : Tab × Int := if rightL t.1 t.2 then ((t.1, evL t.1 (f :: t.2)), 0) else ((0, []), 2)
def resR (t : Tab) (most : Int) : Tab × Int := if rightL t.1 t.2 = true ∧ 0 ≤ most ∧ most ≤ 4096 then ((most, evL most t.2), 0) else ((0, []), 2)
def allF (l : List Fd) : List Fd := stL ++ l
def atR (l : List Fd) (i : Int) : Fd × Int := if i < 1 then (([], []), 90) else match (allF l)[(i - 1).toNat]? with
  | some f => (f, 0)
  | none => (([], []), 90)
def fstI (p : Fd → Bool) : List Fd → Int → Int
  | [], _ => 0
  | x :: r, i => if p x then i else fstI p r (i + 1)
def findR (l : List Fd) (f : Fd) : Int × Bool :=
  if fstI (fun x => x == f) (allF l) 1 ≠ 0 then (fstI (fun x => x == f) (allF l) 1, true) else (fstI (fun x => x.1 == f.1) (allF l) 1, false)
theorem qhy : stL.length = 20 := rfl
theorem line_facts : ∀ j : Fin 20, idxI (remT j.val) 10 = (if j.val < 19 then ilen (lineL.getD j.val []) else -1) ∧
    (remT j.val).take (lineL.getD j.val []).length = lineL.getD j.val [] ∧ (j.val < 19 → (remT j.val).drop ((lineL.getD j.val []).length + 1) = remT (j.val + 1)) ∧ (j.val = 19 → remT j.val = lineL.getD j.val []) ∧
    (if idxI (lineL.getD j.val []) 32 < 0 then stL.getD j.val ([], []) = (lineL.getD j.val [], []) else
      stL.getD j.val ([], []) = ((lineL.getD j.val []).take (idxI (lineL.getD j.val []) 32).toNat, (lineL.getD j.val []).drop ((idxI (lineL.getD j.val []) 32).toNat + 1))) ∧ ilen (lineL.getD j.val []) ≤ 20 ∧ ilen (remT j.val) ≤ 300 ∧ idxI (lineL.getD j.val []) 32 < ilen (lineL.getD j.val []) := by
  decide +kernel
end Tb
end Cz
namespace Cz
open Go Go.RowKit Go.Proofs
namespace Tb
def fdE (f : Fd) : List SV := [.s f.1, .s f.2]
def cellsF (l : List Fd) : List SV := l.flatMap fdE
theorem qda (l : List Fd) : plains (cellsF l) = true := qmc (fun _ => rfl) l
theorem qhq (l : List Fd) : (cellsF l).length = l.length * 2 := qzaaj (enc := fdE) (fun _ => rfl) l
def tabV (mx : Int) (l : List Fd) : SV := .ag [.i .i64 (.y mx), .v false 2 (cellsF l) (.y (ilen l))]
theorem qql (l : List Fd) (n : Nat) : (cellsF l).take (n * 2) = cellsF (l.take n) := by
  induction l generalizing n with
  | nil => simp [cellsF]
  | cons f l ih =>
    cases n with
    | zero => simp [cellsF]
    | succ n =>
      have := ih n
      simp only [cellsF, List.flatMap_cons, fdE, List.take_succ_cons] at this ⊢
      rw [show (n + 1) * 2 = n * 2 + 1 + 1 by omega]
      simp only [List.cons_append, List.nil_append, List.take_succ_cons]
      rw [this]
theorem row_tab {l' : List Blk} {g : Nat → Nat} {ks : List (Option Nat)} {k : Nat} {len : Z} {cap : Option Z} {lit : Bool} {st : Z} {F : List SV} {lit' : Bool} {n : Z} {l : List Fd} {m : Nat} (hB : l'[k]? = some (.r false lit st 2 F)) (hk : kpOf ks k = none)
    (hF : F = cellsF l) (hm : len.v = m) (hn : len.v = n.v) : Fz l' g ks (.sl k 2 (.l 0) len cap) (.v lit' 2 (cellsF (l.take m)) n) := by
  refine qxp hB hk ?_ (qda _) hn
  rw [hF, show (Z.l 0).v.toNat * 2 = 0 from rfl, List.drop_zero, show len.v.toNat = m by omega, qql]
inductive TabC (bl : List Blk) : List SV → Int → List Fd → Prop where
  | v {z n : Z} {lit : Bool} {F : List SV} {mx : Int} {l : List Fd} (hz : z.v = mx) (hF : cellsF l = F) (hn : n.v = ilen l) : TabC bl [.i .i64 z, .v lit 2 F n] mx l
  | nil {z : Z} {mx : Int} (hz : z.v = mx) : TabC bl [.i .i64 z, .re (.slice none 0 0)] mx []
  | row {z n st : Z} {k : Nat} {lit : Bool} {cap : Option Z} {F : List SV} {mx : Int} {l l0 : List Fd} (hz : z.v = mx) (hB : lget bl k = .r false lit st 2 F) (hF : cellsF l0 = F) (hl : l = l0.take n.v.toNat) (hn : n.v = ilen l) : TabC bl [.i .i64 z, .sl k 2 (.l 0) n cap] mx l
theorem TabC.fz {bl : List Blk} {cs : List SV} {mx : Int} {l : List Fd} (h : TabC bl cs mx l) {g : Nat → Nat} : FzL bl g [] [.ag cs] [tabV mx l] := by
  cases h with
  | v hz hF hn => exact .cons (.ag (.cons (.sub (qan hz) rfl) (.cons (.sub (qav hF.symm hn) rfl) .nil))) .nil
  | nil hz => exact .cons (.ag (.cons (.sub (qan hz) rfl) (.cons (.sub (qqv (by decide) rfl rfl) rfl) .nil))) .nil
  | @row z n st k lit cap F mx l l0 hz hB hF hl hn =>
    subst hl
    refine .cons (.ag (.cons (.sub (qan hz) rfl) (.cons (row_tab (qat hB (by simp)) rfl hF.symm ?_ hn) .nil))) .nil
    have := qah (l0.take n.v.toNat)
    omega
theorem TabC.sub {cs : List SV} {mx : Int} {l : List Fd} (h : TabC [] cs mx l) : SubL [.ag cs] [tabV mx l] := by
  cases h with
  | v hz hF hn => exact .cons (qfi (.cons (qan hz) (.cons (qav hF.symm hn) .nil))) .nil
  | nil hz => exact .cons (qfi (.cons (qan hz) (.cons (qqv (by decide) rfl rfl) .nil))) .nil
  | row hz hB hF hl hn => simp [lget] at hB
theorem rowF {S : Sy} (hS : S0 Tryd.prog = S) {l : List Fd} {F : List SV} (hF : cellsF l = F) {q : Int} {a b : List UInt8} {K : SV → Prop} (hv : l[q.toNat]? = some (a, b)) (h0 : 0 ≤ q) (h : K (.ag [.s a, .s b])) : S.rd F q 2 0 2 true K :=
  s_rowp hS (enc := fdE) hF hv (fun _ => rfl) h0 (Nat.le_refl _) rfl h
theorem rowF1 {S : Sy} (hS : S0 Tryd.prog = S) {l : List Fd} {F : List SV} (hF : cellsF l = F) {q : Int} {a b : List UInt8} {K : SV → Prop} (hv : l[q.toNat]? = some (a, b)) (h0 : 0 ≤ q) (h : K (.s a)) : S.rd F q 2 0 1 false K :=
  s_rowp hS (enc := fdE) hF hv (fun _ => rfl) h0 (by decide) rfl h
theorem rowF2 {S : Sy} (hS : S0 Tryd.prog = S) {l : List Fd} {F : List SV} (hF : cellsF l = F) {q : Int} {a b : List UInt8} {K : SV → Prop} (hv : l[q.toNat]? = some (a, b)) (h0 : 0 ≤ q) (h : K (.s b)) : S.rd F q 2 1 1 false K :=
  s_rowp hS (enc := fdE) hF hv (fun _ => rfl) h0 (by decide) rfl h
theorem size_f {a b : List UInt8} {n : Int} (hn : n = szF (a, b)) (h : n ≤ 1000000000) : (S0 Tryd.prog).call 22 [.ag [.s a, .s b]] [] (fun y _ => Sub y (.i .i64 (.y n))) := by
  generalize hS : S0 Tryd.prog = S
  have g1 := qah a
  have g2 := qah b
  have hn' : n = ilen a + ilen b + 32 := hn
  refine qaa hS I.qzz ?_
  cbv
  repeat' (first
    | (refine s_st hS ?_; try cbv)
    | (refine qad hS ?_ ?_ <;> intro h <;> (try cbv) <;> try exact s_ab h)
    | (refine qal hS ?_; intro _ _; try cbv)
    | (refine qaf hS ?_; try cbv)
    | (refine qaq hS ?_; intro _ _; try cbv)
    | (refine qbs hS ?_; try cbv)
    | fail)
  refine qan ?_
  simp only [Z.v]; omega
theorem rsize_f {a b : List UInt8} {n : Int} (hn : n = szF (a, b)) (h : n ≤ 1000000000) : (S0 Tryd.prog).call 23 [.ag [.s a, .s b]] [] (fun y _ => Sub y (.i .i64 (.y n))) := by
  generalize hS : S0 Tryd.prog = S
  have g1 := qah a
  have g2 := qah b
  have hn' : n = ilen a + ilen b + 32 := hn
  refine qaa hS I.qmy ?_
  cbv
  repeat' (first
    | (refine s_st hS ?_; try cbv)
    | (refine qad hS ?_ ?_ <;> intro h <;> (try cbv) <;> try exact s_ab h)
    | (refine qal hS ?_; intro _ _; try cbv)
    | (refine qaf hS ?_; try cbv)
    | (refine qaq hS ?_; intro _ _; try cbv)
    | (refine qbs hS ?_; try cbv)
    | fail)
  refine qan ?_
  simp only [Z.v]; omega
section
variable {S : Sy} {bl : List Blk} {K : SV → List Blk → Prop}
theorem size_u (hS : S0 Tryd.prog = S) {a b : List UInt8} (h : szF (a, b) ≤ 1000000000) (hK : ∀ n, n = szF (a, b) → K (.i .i64 (.y n)) bl) : S.call 22 [.ag [.s a, .s b]] bl K :=
  qbm hS (size_f rfl h) .rfl rfl rfl (hK _ rfl)
theorem rsize_u (hS : S0 Tryd.prog = S) {a b : List UInt8} (h : szF (a, b) ≤ 1000000000) (hK : ∀ n, n = szF (a, b) → K (.i .i64 (.y n)) bl) : S.call 23 [.ag [.s a, .s b]] bl K :=
  qbm hS (rsize_f rfl h) .rfl rfl rfl (hK _ rfl)
end
theorem full_f {mx : Int} {l : List Fd} {n : Int} (hn : n = fullL l) (h : n ≤ 100000000) : (S0 Tryd.prog).call 24 [tabV mx l] [] (fun y _ => Sub y (.i .i64 (.y n))) := by
  generalize hF : cellsF l = F
  obtain ⟨m, hm⟩ : ∃ m, m = ilen l := ⟨_, rfl⟩
  have hlen := qco l
  have h0 := qah l
  unfold tabV
  rw [hF, ← hm]
  generalize hS : S0 Tryd.prog = S
  refine qaa hS I.qzaab ?_
  cbv
  refine qau hS 1 I.qqk (fun x : Int × Int => 0 ≤ x.1 ∧ x.1 ≤ m ∧ x.2 = fullL (l.take x.1.toNat)) (fun x => [(2, .i .i64 (.y x.2)), (8, .i .i64 (.y x.1))]) (fun _ => []) (fun x => (m - x.1).toNat) (0, 0) rfl
    ⟨⟨Int.le_refl _, by omega, rfl⟩, rfl, ?_, ?_, by cbv⟩ ?_
  · cbv; all_goals exact s_sA
  · cbv; all_goals exact s_bA
  intro x
  obtain ⟨i, s⟩ := x
  intro hx
  dsimp only at hx
  cbv
  obtain ⟨k0, k1, k2⟩ := hx
  have hs0 := qgo (l.take i.toNat)
  have hs1 := qei l i.toNat
  rw [← k2] at hs0 hs1
  refine qad hS ?_ ?_ <;> intro h <;> cbv
  · obtain ⟨⟨a, b⟩, hp⟩ := qfe (l := l) (i := i) (by omega) k0
    have hsz := qmw hp
    have hsp := qgr (a, b)
    have hnx := qfm hp k0
    rw [← k2] at hnx
    have hs2 := qei l (i + 1).toNat
    repeat' (first
      | (refine s_st hS ?_; try cbv)
      | (refine qad hS ?_ ?_ <;> intro h <;> (try cbv) <;> try exact s_ab h)
      | (refine qal hS ?_; intro _ _; try cbv)
      | (refine qaf hS ?_; try cbv)
      | (refine qaq hS ?_; intro _ _; try cbv)
      | (refine qbs hS ?_; try cbv)
      | (refine rowF hS hF hp (by omega) ?_; cbv)
      | (refine size_u hS (by omega) fun n1 hn1 => ?_; cbv)
      | fail)
    rename_i s2 hs2 i2 hi2
    refine ⟨(i2, s2), by dsimp only; omega, ⟨by dsimp only; omega, by dsimp only; omega, by dsimp only; rw [hs2, hi2, hnx]; omega⟩, rfl, ?_, ?_, by cbv⟩
    · cbv; all_goals exact s_sA
    · cbv; all_goals exact s_bA
  · refine qan ?_
    simp only [Z.v]; rw [hn, k2, qbx (by omega)]
theorem rfull_f {mx : Int} {l : List Fd} {n : Int} (hn : n = fullL l) (h : n ≤ 100000000) : (S0 Tryd.prog).call 25 [tabV mx l] [] (fun y _ => Sub y (.i .i64 (.y n))) := by
  generalize hF : cellsF l = F
  obtain ⟨m, hm⟩ : ∃ m, m = ilen l := ⟨_, rfl⟩
  have hlen := qco l
  have h0 := qah l
  unfold tabV
  rw [hF, ← hm]
  generalize hS : S0 Tryd.prog = S
  refine qaa hS I.qna ?_
  cbv
  refine qau hS 1 I.qip (fun x : Int × Int => 0 ≤ x.1 ∧ x.1 ≤ m ∧ x.2 = fullL (l.take x.1.toNat)) (fun x => [(3, .i .i64 (.y x.2)), (4, .i .i64 (.y x.1))]) (fun _ => []) (fun x => (m - x.1).toNat) (0, 0) rfl
    ⟨⟨Int.le_refl _, by omega, rfl⟩, rfl, ?_, ?_, by cbv⟩ ?_
  · cbv; all_goals exact s_sA
  · cbv; all_goals exact s_bA
  intro x
  obtain ⟨i, s⟩ := x
  intro hx
  dsimp only at hx
  cbv
  obtain ⟨k0, k1, k2⟩ := hx
  have hs0 := qgo (l.take i.toNat)
  have hs1 := qei l i.toNat
  rw [← k2] at hs0 hs1
  refine qad hS ?_ ?_ <;> intro h <;> cbv
  · obtain ⟨⟨a, b⟩, hp⟩ := qfe (l := l) (i := i) (by omega) k0
    have hsz := qmw hp
    have hsp := qgr (a, b)
    have hnx := qfm hp k0
    rw [← k2] at hnx
    have hs2 := qei l (i + 1).toNat
    repeat' (first
      | (refine s_st hS ?_; try cbv)
      | (refine qad hS ?_ ?_ <;> intro h <;> (try cbv) <;> try exact s_ab h)
      | (refine qal hS ?_; intro _ _; try cbv)
      | (refine qaf hS ?_; try cbv)
      | (refine qaq hS ?_; intro _ _; try cbv)
      | (refine qbs hS ?_; try cbv)
      | (refine rowF hS hF hp (by omega) ?_; cbv)
      | (refine rsize_u hS (by omega) fun n1 hn1 => ?_; cbv)
      | fail)
    rename_i s2 hs2 i2 hi2
    refine ⟨(i2, s2), by dsimp only; omega, ⟨by dsimp only; omega, by dsimp only; omega, by dsimp only; rw [hs2, hi2, hnx]; omega⟩, rfl, ?_, ?_, by cbv⟩
    · cbv; all_goals exact s_sA
    · cbv; all_goals exact s_bA
  · refine qan ?_
    simp only [Z.v]; rw [hn, k2, qbx (by omega)]
section
variable {S : Sy} {bl : List Blk} {K : SV → List Blk → Prop} {cs : List SV} {mx : Int} {l : List Fd}
theorem full_u (hS : S0 Tryd.prog = S) (hc : TabC bl cs mx l) (h : fullL l ≤ 100000000) (hK : ∀ n, n = fullL l → K (.i .i64 (.y n)) bl) : S.call 24 [.ag cs] bl K :=
  qbu hS (full_f rfl h) hc.fz rfl rfl (hK _ rfl)
theorem rfull_u (hS : S0 Tryd.prog = S) (hc : TabC bl cs mx l) (h : fullL l ≤ 100000000) (hK : ∀ n, n = fullL l → K (.i .i64 (.y n)) bl) : S.call 25 [.ag cs] bl K :=
  qbu hS (rfull_f rfl h) hc.fz rfl rfl (hK _ rfl)
end
theorem right_f {mx : Int} {l : List Fd} {t : Bool} (ht : rightL mx l = t) (hb : fullL l ≤ 100000000) : (S0 Tryd.prog).call 26 [tabV mx l] [] (fun y _ => Sub y (.b t)) := by
  generalize hF : cellsF l = F
  obtain ⟨m, hm⟩ : ∃ m, m = ilen l := ⟨_, rfl⟩
  unfold tabV
  rw [hF, ← hm]
  generalize hS : S0 Tryd.prog = S
  refine qaa hS I.qwo ?_
  cbv
  refine qao hS rfl I.qpr (by decide +kernel) ?_
  cbv
  repeat' (first
    | (refine s_st hS ?_; try cbv)
    | (refine qad hS ?_ ?_ <;> intro h <;> (try cbv) <;> try exact s_ab h)
    | (refine qal hS ?_; intro _ _; try cbv)
    | (refine qaf hS ?_; try cbv)
    | (refine qaq hS ?_; intro _ _; try cbv)
    | (refine qbs hS ?_; try cbv)
    | (refine And.intro rfl ?_; try cbv)
    | (refine full_u hS (.v rfl hF hm) hb fun n1 hn1 => ?_; cbv)
    | fail)
  all_goals first | refine qrg ?_ | refine qqu ?_ | refine qtf ?_
  all_goals (rw [← ht]; simp only [← hS, Int.ofNat_eq_natCast, cr, rightL, decide_eq_true_eq, decide_eq_false_iff_not, decide_eq_decide] at *; omega)
theorem rright_f {mx : Int} {l : List Fd} {t : Bool} (ht : rightL mx l = t) (hb : fullL l ≤ 100000000) : (S0 Tryd.prog).call 27 [tabV mx l] [] (fun y _ => Sub y (.b t)) := by
  generalize hF : cellsF l = F
  obtain ⟨m, hm⟩ : ∃ m, m = ilen l := ⟨_, rfl⟩
  unfold tabV
  rw [hF, ← hm]
  generalize hS : S0 Tryd.prog = S
  refine qaa hS I.qlk ?_
  cbv
  refine qao hS rfl I.qif (by decide +kernel) ?_
  cbv
  repeat' (first
    | (refine s_st hS ?_; try cbv)
    | (refine qad hS ?_ ?_ <;> intro h <;> (try cbv) <;> try exact s_ab h)
    | (refine qal hS ?_; intro _ _; try cbv)
    | (refine qaf hS ?_; try cbv)
    | (refine qaq hS ?_; intro _ _; try cbv)
    | (refine qbs hS ?_; try cbv)
    | (refine And.intro rfl ?_; try cbv)
    | (refine rfull_u hS (.v rfl hF hm) hb fun n1 hn1 => ?_; cbv)
    | fail)
  all_goals first | refine qrg ?_ | refine qqu ?_ | refine qtf ?_
  all_goals (rw [← ht]; simp only [← hS, Int.ofNat_eq_natCast, cr, rightL, decide_eq_true_eq, decide_eq_false_iff_not, decide_eq_decide] at *; omega)
section
variable {S : Sy} {bl : List Blk} {K : SV → List Blk → Prop} {cs : List SV} {mx : Int} {l : List Fd}
theorem right_u (hS : S0 Tryd.prog = S) (hc : TabC bl cs mx l) (h : fullL l ≤ 100000000) (h1 : rightL mx l = true → K .tt bl) (h2 : rightL mx l = false → K .ff bl) : S.call 26 [.ag cs] bl K := by
  refine qbu hS (qbi (right_f rfl h)) hc.fz rfl (by cases rightL mx l <;> rfl) ?_
  cases hr : rightL mx l
  · exact h2 hr
  · exact h1 hr
theorem rright_u (hS : S0 Tryd.prog = S) (hc : TabC bl cs mx l) (h : fullL l ≤ 100000000) (h1 : rightL mx l = true → K .tt bl) (h2 : rightL mx l = false → K .ff bl) : S.call 27 [.ag cs] bl K := by
  refine qbu hS (qbi (rright_f rfl h)) hc.fz rfl (by cases rightL mx l <;> rfl) ?_
  cases hr : rightL mx l
  · exact h2 hr
  · exact h1 hr
end
theorem tabS {cs : List SV} {mx e : Int} {l : List Fd} {z : Z} (hc : TabC [] cs mx l) (he : z.v = e) : Sub (.tp [.ag cs, .i .i64 z]) (.tp [tabV mx l, .i .i64 (.y e)]) := by
  match hc.sub with
  | .cons h1 _ => exact qbj (.cons h1 (.cons (qan he) .nil))
theorem qec {bl : List Blk} {cs : List SV} {mx e n : Int} {l : List Fd} {F : List SV} {z : Z} (hF : cellsF l = F) (hn : n = ilen l) (he : z.v = e) (hc : TabC bl cs mx l) : Tell (.tp [.ag [.i .i64 (.y mx), .v false 2 F (.y n)], .i .i64 (.y e)]) (.tp [.ag cs, .i .i64 z]) bl := by
  subst hF hn
  exact fun g => match hc.fz (g := g) with
    | .cons h1 _ => .tp (.cons h1 (.cons (.sub (qan he) rfl) .nil))
    | .fsub h hp => by simp [tabV, plains, plainV] at hp
theorem tell_ag {bl : List Blk} {cs : List SV} {mx n : Int} {l : List Fd} {F : List SV} (hF : cellsF l = F) (hn : n = ilen l) (hc : TabC bl cs mx l) : Tell (.ag [.i .i64 (.y mx), .v false 2 F (.y n)]) (.ag cs) bl := by
  subst hF hn
  exact fun g => match hc.fz (g := g) with
    | .cons h1 _ => h1
    | .fsub h hp => by simp [tabV, plains, plainV] at hp
theorem new_f {most mx e : Int} {l : List Fd} (hr : newR most = ((mx, l), e)) : (S0 Tryd.prog).call 19 [.i .i64 (.y most)] [] (fun y _ => Sub y (.tp [tabV mx l, .i .i64 (.y e)])) := by
  unfold newR at hr
  generalize hS : S0 Tryd.prog = S
  refine qaa hS I.qzadf ?_
  cbv
  repeat' (first
    | (refine s_st hS ?_; try cbv)
    | (refine qad hS ?_ ?_ <;> intro h <;> (try cbv) <;> try exact s_ab h)
    | (refine qal hS ?_; intro _ _; try cbv)
    | (refine qaf hS ?_; try cbv)
    | (refine qaq hS ?_; intro _ _; try cbv)
    | (refine qbs hS ?_; try cbv)
    | fail)
  all_goals first
    | (rw [if_pos (by omega)] at hr; cases hr; exact tabS (.nil rfl) rfl)
    | (rw [if_neg (by omega)] at hr; cases hr; exact tabS (.nil rfl) rfl)
section
variable {S : Sy} {bl : List Blk} {K : SV → List Blk → Prop}
theorem new_u (hS : S0 Tryd.prog = S) {most : Z} (h1 : most.v < 0 ∨ 4096 < most.v → K (.tp [.ag [.i .i64 (.y 0), .v false 2 [] (.y 0)], .i .i64 (.l 2)]) bl) (h2 : 0 ≤ most.v → most.v ≤ 4096 → K (.tp [.ag [.i .i64 (.y most.v), .v false 2 [] (.y 0)], .i .i64 (.l 0)]) bl) :
    S.call 19 [.i .i64 most] bl K := by
  by_cases h : most.v < 0 ∨ 4096 < most.v
  · exact qbm hS (sv := .tp [.ag [.i .i64 (.y 0), .v false 2 [] (.y 0)], .i .i64 (.l 2)]) (qay (new_f (most := most.v) (by unfold newR; rw [if_pos h])) fun x _ hx => ⟨x, .rfl, hx.trans (qbj (.cons .rfl (.cons (qan rfl) .nil)))⟩) (.cons (qan rfl) .nil) rfl rfl (h1 h)
  · exact qbm hS (sv := .tp [.ag [.i .i64 (.y most.v), .v false 2 [] (.y 0)], .i .i64 (.l 0)]) (qay (new_f (most := most.v) (by unfold newR; rw [if_neg h])) fun x _ hx => ⟨x, .rfl, hx.trans (qbj (.cons .rfl (.cons (qan rfl) .nil)))⟩) (.cons (qan rfl) .nil) rfl rfl (h2 (by omega) (by omega))
end
theorem first2 : ∀ i, i < 2 → ([some 0, some 1] : List (Option Nat))[i]? = some (some i)
  | 0, _ => rfl
  | 1, _ => rfl
  | n + 2, h => by omega
theorem ev_pos {mx k : Int} {l : List Fd} (h0 : 0 ≤ mx) (h : mx < fullL (l.take k.toNat)) : 1 ≤ k := by
  rcases Int.lt_or_le k 1 with h1 | h1
  · rw [show k.toNat = 0 by omega] at h
    simp [fullL] at h
    omega
  · exact h1
theorem ev_end {mx k m e : Int} {l : List Fd} (hm : m = ilen l) (he : e = ilen (evL mx l)) (k0 : 0 ≤ k) (k1 : k ≤ m) (kev : evN mx l m.toNat = evN mx l k.toNat) (h : ¬mx < fullL (l.take k.toNat)) : k = e := by
  have h1 : evN mx l k.toNat = k.toNat := qzaam (by omega)
  have h2 : m.toNat = l.length := by rw [hm]; unfold ilen; omega
  rw [he]
  unfold evL
  rw [← h2, kev, h1]
  unfold ilen at *
  rw [List.length_take]
  omega
theorem qzafa {mx k r : Int} {l : List Fd} {m : Int} (hr : r = k - 1) (k1 : 1 ≤ k) (kev : evN mx l m.toNat = evN mx l k.toNat) (h : mx < fullL (l.take k.toNat)) : evN mx l m.toNat = evN mx l r.toNat := by
  rw [kev, show k.toNat = r.toNat + 1 by omega]
  exact evN_next (by rw [show r.toNat + 1 = k.toNat by omega]; omega)
theorem evict_f {mx : Int} {l : List Fd} {F : List SV} {st : Int} (hF : cellsF l = F) (h0 : 0 ≤ mx) (hb : fullL l ≤ 100000000) :
    (S0 Tryd.prog).call 56 [.p 0 0] [.c [.i .i64 (.y mx), .sl 1 2 (.l 0) (.y (ilen l)) none], .r false false (.y st) 2 F]
      (PostB 2 (fun _ g => [.c [.i .i64 (.y mx), .sl (g 1) 2 (.l 0) (.y (ilen (evL mx l))) none], .r false false (.y st) 2 F]) (fun _ => .any)) := by
  obtain ⟨m, hm⟩ : ∃ m, m = ilen l := ⟨_, rfl⟩
  obtain ⟨e, he⟩ : ∃ e, e = ilen (evL mx l) := ⟨_, rfl⟩
  have hm0 := qah l
  have hlen := qco l
  have hpl := qda l
  rw [hF] at hpl
  rw [← hm, ← he]
  generalize hS : S0 Tryd.prog = S
  have fin : ∀ k : Int, k = e → PostB 2 (fun _ g => [.c [.i .i64 (.y mx), .sl (g 1) 2 (.l 0) (.y e) none], .r false false (.y st) 2 F]) (fun _ => .any) (.tp []) [.c [.i .i64 (.y mx), .sl 1 2 (.l 0) (.y k) none], .r false false (.y st) 2 F] := by
    rintro k rfl
    exact ⟨[some 0, some 1], fun _ => 0, first2, fun g => ⟨⟨⟨_, rfl, rfl, .c (.cons (.sub .rfl rfl) (.cons (.keep (i := 1) rfl rfl rfl) .nil))⟩, rfl, ⟨_, rfl, rfl, .r .rfl hpl rfl⟩, rfl, trivial⟩, .sub qdy rfl⟩⟩
  refine qaa hS I.qwn ?_
  cbv
  refine full_u hS (.row rfl rfl hF (l := l) (by simp [Z.v, hm, ilen]) (by simp [Z.v, hm])) hb fun f hf0 => ?_
  cbv
  have hf : f = fullL (l.take m.toNat) := by rw [hf0, qbx (by omega)]
  repeat' (first
    | (refine s_st hS ?_; try cbv)
    | (refine qad hS ?_ ?_ <;> intro h <;> (try cbv) <;> try exact s_ab h)
    | (refine qal hS ?_; intro _ _; try cbv)
    | (refine qaf hS ?_; try cbv)
    | (refine qaq hS ?_; intro _ _; try cbv)
    | (refine qbs hS ?_; try cbv)
    | fail)
  · have k1 := ev_pos h0 (hf ▸ h)
    rename_i r hr
    obtain ⟨⟨a, b⟩, hp⟩ := qfe (l := l) (i := r) (by omega) (by omega)
    have hnx := qfm hp (by omega)
    rw [show r + 1 = m by omega, ← hf] at hnx
    have hn0 := qgo (l.take r.toNat)
    have hsp := qgr (a, b)
    repeat' (first
      | (refine s_st hS ?_; try cbv)
      | (refine qad hS ?_ ?_ <;> intro h <;> (try cbv) <;> try exact s_ab h)
      | (refine qal hS ?_; intro _ _; try cbv)
      | (refine qaf hS ?_; try cbv)
      | (refine qaq hS ?_; intro _ _; try cbv)
      | (refine qbs hS ?_; try cbv)
      | (refine rowF hS hF hp (by omega) ?_; cbv)
      | (refine size_u hS (by omega) fun n1 hn1 => ?_; cbv)
      | fail)
    rename_i f2 hf2
    refine s_jump_up hS 2 [1, 3, 4, 5, 6, 7, 8, 9, 10, 11, 12, 13, 14, 15, 16, 17, 18, 19, 20, 21, 22, 23, 24, 25, 26, 27, 28, 29, 30, 31, 32, 33, 34, 35, 36, 37, 38]
      (fun x : Int × Int => 0 ≤ x.1 ∧ x.1 ≤ m ∧ x.2 = fullL (l.take x.1.toNat) ∧ evN mx l m.toNat = evN mx l x.1.toNat)
      (fun x => [(2, .i .i64 (.y x.2))]) (fun x => [(0, .c [.i .i64 (.y mx), .sl 1 2 (.l 0) (.y x.1) none])]) (fun x => x.1.toNat) (r, f2) rfl rfl
      ⟨⟨by dsimp only; omega, by dsimp only; omega, by dsimp only; omega, qzafa hr k1 rfl (hf ▸ h)⟩, rfl, ?_, ?_, by cbv⟩ ?_
    · cbv; all_goals exact s_sA
    · cbv; all_goals exact s_bA
    intro x
    obtain ⟨k, g⟩ := x
    intro hx
    dsimp only at hx
    cbv
    obtain ⟨j0, j1, j2, j3⟩ := hx
    repeat' (first
      | (refine s_st hS ?_; try cbv)
      | (refine qad hS ?_ ?_ <;> intro h <;> (try cbv) <;> try exact s_ab h)
      | (refine qal hS ?_; intro _ _; try cbv)
      | (refine qaf hS ?_; try cbv)
      | (refine qaq hS ?_; intro _ _; try cbv)
      | (refine qbs hS ?_; try cbv)
      | fail)
    · have k1 := ev_pos h0 (j2 ▸ h)
      rename_i r2 hr2
      obtain ⟨⟨a2, b2⟩, hp2⟩ := qfe (l := l) (i := r2) (by omega) (by omega)
      have hnx2 := qfm hp2 (by omega)
      rw [show r2 + 1 = k by omega, ← j2] at hnx2
      have hn02 := qgo (l.take r2.toNat)
      have hsp2 := qgr (a2, b2)
      have hgf := qei l k.toNat
      rw [← j2] at hgf
      repeat' (first
        | (refine s_st hS ?_; try cbv)
        | (refine qad hS ?_ ?_ <;> intro h <;> (try cbv) <;> try exact s_ab h)
        | (refine qal hS ?_; intro _ _; try cbv)
        | (refine qaf hS ?_; try cbv)
        | (refine qaq hS ?_; intro _ _; try cbv)
        | (refine qbs hS ?_; try cbv)
        | (refine rowF hS hF hp2 (by omega) ?_; cbv)
        | (refine size_u hS (by omega) fun n2 hn2 => ?_; cbv)
        | fail)
      rename_i f3 hf3
      refine ⟨(r2, f3), by dsimp only; omega, ⟨by dsimp only; omega, by dsimp only; omega, by dsimp only; omega, qzafa hr2 k1 j3 (j2 ▸ h)⟩, rfl, ?_, ?_, by cbv⟩
      · cbv; all_goals exact s_sA
      · cbv; all_goals exact s_bA
    · exact fin _ (ev_end hm he j0 j1 j3 (by rw [← j2]; exact h))
  · exact fin _ (ev_end hm he (by omega) (by omega) rfl (by rw [← hf]; exact h))
section
variable {S : Sy} {bl : List Blk} {K : SV → List Blk → Prop}
theorem evict_u (hS : S0 Tryd.prog = S) {p k : Nat} {z n : Z} {mx : Int} {l : List Fd} {lit : Bool} {st : Z} {F : List SV} (hF : cellsF l = F) (h0 : 0 ≤ mx) (hb : fullL l ≤ 100000000)
    (hK : ∀ e, e = ilen (evL mx l) → K .any (lset (lset bl p (.c [.i .i64 (.y mx), .sl k 2 (.l 0) (.y e) none])) k (.r false false (.y st.v) 2 F)))
    (hp : lget bl p = .c [.i .i64 z, .sl k 2 (.l 0) n none] := by rfl) (hk : lget bl k = .r false lit st 2 F := by rfl) (hne : nodupN [p, k] = true := by rfl) (hz : z.v = mx := by rfl) (hn : n.v = ilen l := by first | assumption | (simp only [Z.v]; omega)) : S.call 56 [.p p 0] bl K := by
  refine use_box hS [p, k] (evict_f (st := st.v) hF h0 hb) rfl hne .rfl ⟨?_, ?_, trivial⟩ rfl fun sts => hK _ rfl
  · simp only [fOf, hp]
    exact .c (.cons (qan hz) (.cons (qez rfl (by simpa [Z.v] using hn)) .nil)) rfl
  · simp only [fOf, hk]
    exact .r .rfl (hF ▸ qda l) rfl
end
end Tb
end Cz
namespace Cz
open Go Go.RowKit Go.Proofs
namespace Tb
theorem clone_f {l : List Fd} {F : List SV} {n : Int} (hF : cellsF l = F) (hn : n = ilen l) (hb : n ≤ 100000000) : (S0 Tryd.prog).call 58 [.v false 2 F (.y n)] [] (Kept [(2, F)] (fun m => .sl m 2 (.l 0) (.y n) none)) := by
  have hpl : plains F = true := hF ▸ qda l
  have hlen : (ilen F : Int) = n * 2 := by rw [← hF, hn]; have := qhq l; unfold ilen; omega
  have h0 := qah l
  generalize hS : S0 Tryd.prog = S
  refine qaa hS I.qgb ?_
  cbv
  refine s_nil hS (fun h => ?_) ?_
  · cbv
    have : F = [] := by rw [← hF, List.eq_nil_of_length_eq_zero (l := l) (by unfold ilen at hn; omega)]; rfl
    exact ⟨[none], ⟨this, trivial⟩, fun m => .nilk (i := 0) rfl rfl h⟩
  · cbv
    repeat' (first
      | (refine s_st hS ?_; try cbv)
      | (refine qad hS ?_ ?_ <;> intro h <;> (try cbv) <;> try exact s_ab h)
      | (refine qal hS ?_; intro _ _; try cbv)
      | (refine qaf hS ?_; try cbv)
      | (refine qaq hS ?_; intro _ _; try cbv)
      | (refine qbs hS ?_; try cbv)
      | fail)
    refine ⟨[some 0], ⟨⟨_, _, _, rfl, ?_⟩, rfl, trivial⟩, fun m => .keep (i := 0) rfl rfl ?_⟩
    · subst hS; exact .rfl
    · rfl
section
variable {S : Sy} {bl : List Blk} {K : SV → List Blk → Prop}
theorem clone_u (hS : S0 Tryd.prog = S) {x : SV} {l : List Fd} {n : Int} {F : List SV} (hx : SubL [x] [.v false 2 F (.y n)]) (hF : cellsF l = F) (hn : n = ilen l) (hb : n ≤ 100000000)
    (hK : ∀ st, K (.sl (len bl) 2 (.l 0) (.y n) none) (snoc bl (.r false false (.y st) 2 F))) : S.call 58 [x] bl K :=
  use_kept hS (clone_f hF hn hb) hx rfl ⟨⟨by decide, hF ▸ qda l⟩, trivial⟩ fun sts => hK _
end
theorem qzaan (mx : Int) (l : List Fd) : evL mx l = l.take (ilen (evL mx l)).toNat := by
  have := evN_le mx l l.length
  have h : (ilen (evL mx l)).toNat = evN mx l l.length := by unfold ilen evL; rw [List.length_take]; omega
  rw [h]; rfl
def tabE (mx : Int) (l : List Fd) (e : Int) : SV := .tp [tabV mx l, .i .i64 (.y e)]
theorem res_f {mx most mx' e : Int} {l l' : List Fd} (hr : resR (mx, l) most = ((mx', l'), e)) (hb : fullL l ≤ 100000000) :
    (S0 Tryd.prog).call 30 [tabV mx l, .i .i64 (.y most)] [] (Tell (tabE mx' l' e)) := by
  generalize hF : cellsF l = F
  obtain ⟨m, hm⟩ : ∃ m, m = ilen l := ⟨_, rfl⟩
  have hlen := qco l
  have hm0 := qah l
  unfold tabE tabV
  generalize hF' : cellsF l' = F'
  obtain ⟨m', hm'⟩ : ∃ m, m = ilen l' := ⟨_, rfl⟩
  rw [hF, ← hm, ← hm']
  unfold resR at hr
  dsimp only at hr
  generalize hS : S0 Tryd.prog = S
  refine qaa hS I.qva ?_
  cbv
  refine new_u hS (fun h1 => ?_) (fun h1 h2 => ?_) <;> cbv <;> dsimp only [Z.v] at *
  · rw [if_neg (by intro h; omega)] at hr
    cases hr
    exact qec hF' hm' rfl (.nil rfl)
  · refine right_u hS (.v rfl hF hm) hb (fun h3 => ?_) (fun h3 => ?_) <;> cbv <;> dsimp only [Z.v] at *
    · rw [if_pos ⟨h3, h1, h2⟩] at hr
      refine clone_u hS .rfl hF hm (by omega) fun st => ?_
      cbv
      refine evict_u hS (mx := most) hF h1 hb fun n1 hn1 => ?_
      cbv
      cases hr
      refine qec hF' hm' rfl (.row rfl rfl hF ?_ hn1)
      dsimp only [Z.v]
      rw [hn1]; exact qzaan _ _
    · rw [if_neg (by intro h; rw [h.1] at h3; cases h3)] at hr
      cases hr
      exact qec hF' hm' rfl (.nil rfl)
theorem add_f {mx mx' e : Int} {l l' : List Fd} {a b : List UInt8} (hr : addR (mx, l) (a, b) = ((mx', l'), e)) (hb : fullL l ≤ 10000000) (hs : szF (a, b) ≤ 10000000) :
    (S0 Tryd.prog).call 28 [tabV mx l, .ag [.s a, .s b]] [] (Tell (tabE mx' l' e)) := by
  generalize hF : cellsF l = F
  obtain ⟨m, hm⟩ : ∃ m, m = ilen l := ⟨_, rfl⟩
  have hlen := qco l
  have hm0 := qah l
  have hfl : ilen F = m * 2 := by rw [← hF, hm]; have := qhq l; unfold ilen; omega
  unfold tabE tabV
  generalize hF' : cellsF l' = F'
  obtain ⟨m', hm'⟩ : ∃ m, m = ilen l' := ⟨_, rfl⟩
  rw [hF, ← hm, ← hm']
  unfold addR at hr
  dsimp only at hr
  generalize hS : S0 Tryd.prog = S
  refine qaa hS I.qzadg ?_
  cbv
  refine right_u hS (.v rfl hF hm) (by omega) (fun h3 => ?_) (fun h3 => ?_) <;> cbv <;> dsimp only [Z.v] at *
  · have hmx : 0 ≤ mx := by unfold rightL at h3; have := of_decide_eq_true h3; omega
    rw [if_pos h3] at hr
    repeat' (first
      | (refine s_st hS ?_; try cbv)
      | (refine qad hS ?_ ?_ <;> intro h <;> (try cbv) <;> try exact s_ab h)
      | (refine qal hS ?_; intro _ _; try cbv)
      | (refine qaf hS ?_; try cbv)
      | (refine qaq hS ?_; intro _ _; try cbv)
      | (refine qbs hS ?_; try cbv)
      | fail)
    have e1 : S.app [.s a, .s b] F = cellsF ((a, b) :: l) := by subst hS; rw [← hF]; rfl
    have e2 : S.pl 1 m = ilen ((a, b) :: l) := by subst hS; rw [hm]; simp only [pl_eq]; simp [ilen]; omega
    have e3 : fullL ((a, b) :: l) = szF (a, b) + fullL l := rfl
    refine evict_u hS (mx := mx) (l := (a, b) :: l) e1.symm hmx (by omega) fun n1 hn1 => ?_
    cbv
    cases hr
    refine qec hF' hm' rfl (.row rfl rfl e1.symm ?_ hn1)
    dsimp only [Z.v]
    rw [hn1]; exact qzaan _ _
  · rw [if_neg (by rw [h3]; simp)] at hr
    cases hr
    exact qec hF' hm' rfl (.nil rfl)
theorem qzadm {mx : Int} {l : List Fd} (h0 : 0 ≤ mx) (hb : fullL l ≤ 10000000) : (S0 Tryd.prog).call 57 [tabV mx l] [] (Tell (tabV mx (evL mx l))) := by
  generalize hF : cellsF l = F
  obtain ⟨m, hm⟩ : ∃ m, m = ilen l := ⟨_, rfl⟩
  obtain ⟨e, he⟩ : ∃ e, e = ilen (evL mx l) := ⟨_, rfl⟩
  have hlen := qco l
  have hm0 := qah l
  have hpl := qda l
  have hfl : ilen F = m * 2 := by rw [← hF, hm]; have := qhq l; unfold ilen; omega
  unfold tabV
  generalize hF' : cellsF (evL mx l) = F'
  rw [hF, ← hm, ← he]
  rw [hF] at hpl
  generalize hS : S0 Tryd.prog = S
  refine qaa hS I.qjc ?_
  cbv
  repeat' (first
    | (refine s_st hS ?_; try cbv)
    | (refine qad hS ?_ ?_ <;> intro h <;> (try cbv) <;> try exact s_ab h)
    | (refine qal hS ?_; intro _ _; try cbv)
    | (refine qaf hS ?_; try cbv)
    | (refine qaq hS ?_; intro _ _; try cbv)
    | (refine qbs hS ?_; try cbv)
    | fail)
  have e1 : S.app [] F = F := by subst hS; rfl
  refine qau hS 3 I.qgd (fun x : Int => 0 ≤ x ∧ x ≤ m ∧ evN mx l m.toNat = evN mx l x.toNat) (fun _ => []) (fun x => [(0, .c [.i .i64 (.y mx), .sl 2 2 (.l 0) (.y x) none]), (2, .r false false (.y (S.flen [])) 2 F)]) (fun x => x.toNat) m rfl
    ⟨⟨by omega, by omega, rfl⟩, rfl, ?_, ?_, by cbv⟩ ?_
  · cbv; all_goals exact s_sA
  · cbv
    exact ⟨.rfl, .rfl, .r (by subst hS; exact .rfl) rfl hpl, trivial⟩
  intro k hk
  cbv
  obtain ⟨k0, k1, k2⟩ := hk
  have hft := qei l k.toNat
  refine qao hS rfl I.qgs (by decide +kernel) ?_
  cbv
  repeat' (first
    | (refine s_st hS ?_; try cbv)
    | (refine qad hS ?_ ?_ <;> intro h <;> (try cbv) <;> try exact s_ab h)
    | (refine qal hS ?_; intro _ _; try cbv)
    | (refine qaf hS ?_; try cbv)
    | (refine qaq hS ?_; intro _ _; try cbv)
    | (refine qbs hS ?_; try cbv)
    | (refine And.intro rfl ?_; try cbv)
    | (refine rfull_u hS (mx := mx) (l := l.take k.toNat) (.row rfl rfl hF rfl (by simp only [Z.v, ilen, List.length_take]; unfold ilen at hm; omega)) (by omega) fun f hf => ?_; cbv)
    | fail)
  · have kp := ev_pos h0 (hf ▸ h)
    rename_i r hr
    repeat' (first
      | (refine s_st hS ?_; try cbv)
      | (refine qad hS ?_ ?_ <;> intro h <;> (try cbv) <;> try exact s_ab h)
      | (refine qal hS ?_; intro _ _; try cbv)
      | (refine qaf hS ?_; try cbv)
      | (refine qaq hS ?_; intro _ _; try cbv)
      | (refine qbs hS ?_; try cbv)
      | fail)
    refine ⟨r, by omega, ⟨by omega, by omega, qzafa hr kp k2 (hf ▸ h)⟩, rfl, ?_, ?_, by cbv⟩
    · cbv; all_goals exact s_sA
    · cbv; all_goals exact s_bA
  · have hke : k = e := ev_end hm he k0 k1 k2 (hf ▸ h)
    refine tell_ag hF' he (.row rfl rfl hF ?_ (by dsimp only [Z.v]; rw [hke, he]))
    dsimp only [Z.v]
    rw [hke, he]; exact qzaan _ _
section
variable {S : Sy} {bl : List Blk} {K : SV → List Blk → Prop} {cs : List SV} {mx : Int} {l : List Fd}
theorem evicted_u (hS : S0 Tryd.prog = S) (hc : TabC [] cs mx l) (h0 : 0 ≤ mx) (hb : fullL l ≤ 10000000) (hK : ∀ F n, cellsF (evL mx l) = F → n = ilen (evL mx l) → K (.ag [.i .i64 (.y mx), .v false 2 F (.y n)]) bl) :
    S.call 57 [.ag cs] bl K :=
  qdb hS (qzadm h0 hb) hc.sub rfl (hK _ _ rfl rfl)
theorem evicted_r (hS : S0 Tryd.prog = S) {z n st : Z} {k : Nat} {lit : Bool} {cap : Option Z} {F : List SV} (hz : z.v = mx) (hF : cellsF l = F) (hn : n.v = ilen l) (h0 : 0 ≤ mx) (hb : fullL l ≤ 10000000)
    (hK : ∀ F n, cellsF (evL mx l) = F → n = ilen (evL mx l) → K (.ag [.i .i64 (.y mx), .v false 2 F (.y n)]) (frzL [k] 0 bl)) (hB : lget bl k = .r false lit st 2 F := by rfl) (hk : kpOf (others [k] (len bl)) k = none := by rfl) :
    S.call 57 [.ag [.i .i64 z, .sl k 2 (.l 0) n cap]] bl K := by
  refine use_frz hS [k] (rows := []) (y := fun _ => tabV mx (evL mx l)) (qay (qzadm (l := l) h0 hb) fun x l' h => ⟨x, .rfl, [], trivial, fun m => h _⟩) ?_ rfl trivial (fun _ => hK _ _ rfl rfl)
  refine .cons (.ag (.cons (.sub (qan hz) rfl) (.cons ?_ .nil))) .nil
  have := row_tab (l' := bl) (g := id) (cap := cap) (lit' := false) (len := n) (n := .y (ilen l)) (m := l.length) (qat hB (by simp)) hk hF.symm hn hn
  rwa [List.take_length] at this
end
theorem rres_f {mx most mx' e : Int} {l l' : List Fd} (hr : resR (mx, l) most = ((mx', l'), e)) (hb : fullL l ≤ 10000000) :
    (S0 Tryd.prog).call 31 [tabV mx l, .i .i64 (.y most)] [] (Tell (tabE mx' l' e)) := by
  generalize hF : cellsF l = F
  obtain ⟨m, hm⟩ : ∃ m, m = ilen l := ⟨_, rfl⟩
  have hlen := qco l
  have hm0 := qah l
  unfold tabE tabV
  generalize hF' : cellsF l' = F'
  obtain ⟨m', hm'⟩ : ∃ m, m = ilen l' := ⟨_, rfl⟩
  rw [hF, ← hm, ← hm']
  unfold resR at hr
  dsimp only at hr
  generalize hS : S0 Tryd.prog = S
  refine qaa hS I.qkb ?_
  cbv
  refine rright_u hS (.v rfl hF hm) (by omega) (fun h3 => ?_) (fun h3 => ?_) <;> cbv <;> dsimp only [Z.v] at *
  · repeat' (first
    | (refine s_st hS ?_; try cbv)
    | (refine qad hS ?_ ?_ <;> intro h <;> (try cbv) <;> try exact s_ab h)
    | (refine qal hS ?_; intro _ _; try cbv)
    | (refine qaf hS ?_; try cbv)
    | (refine qaq hS ?_; intro _ _; try cbv)
    | (refine qbs hS ?_; try cbv)
    | (refine evicted_u hS (mx := most) (l := l) (.v rfl hF hm) (by omega) hb fun F1 n1 hF1 hn1 => ?_; cbv)
    | fail)
    all_goals first
      | (rw [if_pos ⟨h3, by omega, by omega⟩] at hr; cases hr; exact qec hF' hm' rfl (.v rfl hF1 hn1))
      | (rw [if_neg (by intro h; omega)] at hr; cases hr; exact qec hF' hm' rfl (.nil rfl))
  · rw [if_neg (by intro h; rw [h.1] at h3; cases h3)] at hr
    repeat' (first
      | (refine s_st hS ?_; try cbv)
      | (refine qad hS ?_ ?_ <;> intro h <;> (try cbv) <;> try exact s_ab h)
      | (refine qal hS ?_; intro _ _; try cbv)
      | (refine qaf hS ?_; try cbv)
      | (refine qaq hS ?_; intro _ _; try cbv)
      | (refine qbs hS ?_; try cbv)
      | fail)
    cases hr; exact qec hF' hm' rfl (.nil rfl)
theorem radd_f {mx mx' e : Int} {l l' : List Fd} {a b : List UInt8} (hr : addR (mx, l) (a, b) = ((mx', l'), e)) (hb : fullL l ≤ 1000000) (hs : szF (a, b) ≤ 1000000) :
    (S0 Tryd.prog).call 29 [tabV mx l, .ag [.s a, .s b]] [] (Tell (tabE mx' l' e)) := by
  generalize hF : cellsF l = F
  obtain ⟨m, hm⟩ : ∃ m, m = ilen l := ⟨_, rfl⟩
  have hlen := qco l
  have hm0 := qah l
  have hfl : ilen F = m * 2 := by rw [← hF, hm]; have := qhq l; unfold ilen; omega
  unfold tabE tabV
  generalize hF' : cellsF l' = F'
  obtain ⟨m', hm'⟩ : ∃ m, m = ilen l' := ⟨_, rfl⟩
  rw [hF, ← hm, ← hm']
  unfold addR at hr
  dsimp only at hr
  generalize hS : S0 Tryd.prog = S
  refine qaa hS I.qol ?_
  cbv
  refine rright_u hS (.v rfl hF hm) (by omega) (fun h3 => ?_) (fun h3 => ?_) <;> cbv <;> dsimp only [Z.v] at *
  · have hmx : 0 ≤ mx := by unfold rightL at h3; have := of_decide_eq_true h3; omega
    rw [if_pos h3] at hr
    repeat' (first
      | (refine s_st hS ?_; try cbv)
      | (refine qad hS ?_ ?_ <;> intro h <;> (try cbv) <;> try exact s_ab h)
      | (refine qal hS ?_; intro _ _; try cbv)
      | (refine qaf hS ?_; try cbv)
      | (refine qaq hS ?_; intro _ _; try cbv)
      | (refine qbs hS ?_; try cbv)
      | fail)
    have e1 : S.app [.s a, .s b] F = cellsF ((a, b) :: l) := by subst hS; rw [← hF]; rfl
    have e2 : S.pl 1 m = ilen ((a, b) :: l) := by subst hS; rw [hm]; simp only [pl_eq]; simp [ilen]; omega
    have e3 : fullL ((a, b) :: l) = szF (a, b) + fullL l := rfl
    refine evicted_r hS (mx := mx) (l := (a, b) :: l) rfl e1.symm e2 hmx (by omega) fun F1 n1 hF1 hn1 => ?_
    cbv
    cases hr
    exact qec hF' hm' rfl (.v rfl hF1 hn1)
  · rw [if_neg (by rw [h3]; simp)] at hr
    repeat' (first
      | (refine s_st hS ?_; try cbv)
      | (refine qad hS ?_ ?_ <;> intro h <;> (try cbv) <;> try exact s_ab h)
      | (refine qal hS ?_; intro _ _; try cbv)
      | (refine qaf hS ?_; try cbv)
      | (refine qaq hS ?_; intro _ _; try cbv)
      | (refine qbs hS ?_; try cbv)
      | fail)
    cases hr
    exact qec hF' hm' rfl (.nil rfl)
end Tb
end Cz
namespace Cz
open Go Go.RowKit Go.Proofs
namespace Tb
theorem eqFd {S : Sy} (hS : S0 Tryd.prog = S) {a b c d : List UInt8} {k1 k2 : Unit → Prop} (h1 : (a, b) = (c, d) → k1 ()) (h2 : (a, b) ≠ (c, d) → k2 ()) : S.eqv ⟨true, [.ks, .ks]⟩ (.ag [.s a, .s b]) (.ag [.s c, .s d]) k1 k2 := by
  refine qbk hS ?_
  cbv
  refine s_br hS (fun h => ?_) (fun h => ?_) <;> cbv <;> simp only [← hS, Int.ofNat_eq_natCast, cq, Bool.not_eq_true', Bool.not_eq_false', decide_eq_true_eq, decide_eq_false_iff_not, beq_iff_eq, beq_eq_false_iff_ne, ne_eq] at h
  · refine s_br hS (fun h' => ?_) (fun h' => ?_) <;> cbv <;> simp only [← hS, Int.ofNat_eq_natCast, cq, Bool.not_eq_true', Bool.not_eq_false', decide_eq_true_eq, decide_eq_false_iff_not, beq_iff_eq, beq_eq_false_iff_ne, ne_eq] at h'
    · exact h1 (by rw [h, h'])
    · exact h2 (by intro e; cases e; exact h' rfl)
  · exact h2 (by intro e; cases e; exact h rfl)
theorem take_ne {l k : List Fd} {i : Int} {x y : Fd} (hx : l[i.toNat]? = some x) (hy : k[i.toNat]? = some y) (h : x ≠ y) : ¬l = k := by
  intro e; subst e; rw [hx] at hy; cases hy; exact h rfl
theorem qqt {l k : List Fd} {i : Int} {x : Fd} (h0 : 0 ≤ i) (hx : l[i.toNat]? = some x) (hy : k[i.toNat]? = some x) (h : l.take i.toNat = k.take i.toNat) : l.take (i + 1).toNat = k.take (i + 1).toNat := by
  rw [qdr hx h0, qdr hy h0, h]
theorem qzaal {l k : List Fd} {t : Bool} (ht : decide (l = k) = t) (h1 : ilen l ≤ 100000000) (h2 : ilen k ≤ 100000000) : (S0 Tryd.prog).call 37 [.v false 2 (cellsF l) (.y (ilen l)), .v false 2 (cellsF k) (.y (ilen k))] [] (fun y _ => Sub y (.b t)) := by
  generalize hF : cellsF l = F
  generalize hG : cellsF k = G
  obtain ⟨m, hm⟩ : ∃ m, m = ilen l := ⟨_, rfl⟩
  obtain ⟨n, hn⟩ : ∃ n, n = ilen k := ⟨_, rfl⟩
  have h3 := qah l
  have h4 := qah k
  rw [← hm] at h1 h3 ⊢
  rw [← hn] at h2 h4 ⊢
  generalize hS : S0 Tryd.prog = S
  refine qaa hS I.qkc ?_
  cbv
  refine qad hS ?_ ?_ <;> intro h <;> cbv
  · have e : t = false := by rw [← ht]; exact decide_eq_false (fun e => by subst e; omega)
    all_goals exact s_sA
  refine qau hS 0 I.qgw (fun x : Int => 0 ≤ x ∧ x ≤ m ∧ l.take x.toNat = k.take x.toNat) (fun x => [(5, .i .i64 (.y x))]) (fun _ => []) (fun x => (m - x).toNat) 0 rfl
    ⟨⟨Int.le_refl _, by omega, rfl⟩, rfl, ?_, ?_, by cbv⟩ ?_
  · cbv; all_goals exact s_sA
  · cbv; all_goals exact s_bA
  intro i hx
  cbv
  obtain ⟨k0, k1, k2⟩ := hx
  refine s_br hS ?_ ?_ <;> intro h' <;> cbv <;> simp only [← hS, Int.ofNat_eq_natCast, cq, Bool.not_eq_true', Bool.not_eq_false', decide_eq_true_eq, decide_eq_false_iff_not, beq_iff_eq, beq_eq_false_iff_ne, ne_eq] at h'
  · obtain ⟨⟨a, b⟩, hp⟩ := qfe (l := l) (i := i) (by omega) k0
    obtain ⟨⟨c, d⟩, hq⟩ := qfe (l := k) (i := i) (by omega) k0
    refine qao hS rfl I.qhe (by decide +kernel) ?_
    cbv
    repeat' (first
      | (refine s_st hS ?_; try cbv)
      | (refine qad hS ?_ ?_ <;> intro h <;> (try cbv) <;> try exact s_ab h)
      | (refine qal hS ?_; intro _ _; try cbv)
      | (refine qaf hS ?_; try cbv)
      | (refine qaq hS ?_; intro _ _; try cbv)
      | (refine qbs hS ?_; try cbv)
      | (refine And.intro rfl ?_; try cbv)
      | (refine rowF hS hF hp (by omega) ?_; cbv)
      | (refine rowF hS hG hq (by omega) ?_; cbv)
      | fail)
    · have he : (a, b) = (c, d) := by congr
      rename_i r hr
      refine ⟨r, by omega, ⟨by omega, by omega, ?_⟩, rfl, ?_, ?_, by cbv⟩
      · rw [hr]; exact qqt k0 (he ▸ hp) hq k2
      · cbv; all_goals exact s_sA
      · cbv; all_goals exact s_bA
    all_goals
      have e : t = false := by rw [← ht]; exact decide_eq_false (take_ne hp hq (by intro e; cases e; simp_all))
      all_goals exact s_sA
  · have e : t = true := by rw [← ht]; exact decide_eq_true (by rwa [qbx (by omega), qbx (by omega)] at k2)
    all_goals exact s_sA
theorem equal_f {l k : List Fd} {t : Bool} (ht : decide (l = k) = t) (h1 : ilen l ≤ 100000000) (h2 : ilen k ≤ 100000000) : (S0 Tryd.prog).call 60 [.v false 2 (cellsF l) (.y (ilen l)), .v false 2 (cellsF k) (.y (ilen k))] [] (fun y _ => Sub y (.b t)) := by
  generalize hF : cellsF l = F
  generalize hG : cellsF k = G
  obtain ⟨m, hm⟩ : ∃ m, m = ilen l := ⟨_, rfl⟩
  obtain ⟨n, hn⟩ : ∃ n, n = ilen k := ⟨_, rfl⟩
  have h3 := qah l
  have h4 := qah k
  rw [← hm] at h1 h3 ⊢
  rw [← hn] at h2 h4 ⊢
  generalize hS : S0 Tryd.prog = S
  refine qaa hS I.qga ?_
  cbv
  refine qad hS ?_ ?_ <;> intro h <;> cbv
  · have e : t = false := by rw [← ht]; exact decide_eq_false (fun e => by subst e; omega)
    all_goals exact s_sA
  refine qau hS 0 I.qem (fun x : Int => 0 ≤ x ∧ x ≤ m ∧ l.take x.toNat = k.take x.toNat) (fun x => [(12, .i .i64 (.y m)), (13, .i .i64 (.y x))]) (fun _ => []) (fun x => (m - x).toNat) 0 rfl
    ⟨⟨Int.le_refl _, by omega, rfl⟩, rfl, ?_, ?_, by cbv⟩ ?_
  · cbv; all_goals exact s_sA
  · cbv; all_goals exact s_bA
  intro i hx
  cbv
  obtain ⟨k0, k1, k2⟩ := hx
  refine s_br hS ?_ ?_ <;> intro h' <;> cbv <;> simp only [← hS, Int.ofNat_eq_natCast, cq, Bool.not_eq_true', Bool.not_eq_false', decide_eq_true_eq, decide_eq_false_iff_not, beq_iff_eq, beq_eq_false_iff_ne, ne_eq] at h'
  · obtain ⟨⟨a, b⟩, hp⟩ := qfe (l := l) (i := i) (by omega) k0
    obtain ⟨⟨c, d⟩, hq⟩ := qfe (l := k) (i := i) (by omega) k0
    refine qao hS rfl I.qeo (by decide +kernel) ?_
    cbv
    repeat' (first
      | (refine s_st hS ?_; try cbv)
      | (refine qad hS ?_ ?_ <;> intro h <;> (try cbv) <;> try exact s_ab h)
      | (refine qal hS ?_; intro _ _; try cbv)
      | (refine qaf hS ?_; try cbv)
      | (refine qaq hS ?_; intro _ _; try cbv)
      | (refine qbs hS ?_; try cbv)
      | (refine And.intro rfl ?_; try cbv)
      | (refine rowF hS hF hp (by omega) ?_; cbv)
      | (refine rowF hS hG hq (by omega) ?_; cbv)
      | fail)
    · have he : (a, b) = (c, d) := by congr
      rename_i r hr
      refine ⟨r, by omega, ⟨by omega, by omega, ?_⟩, rfl, ?_, ?_, by cbv⟩
      · rw [hr]; exact qqt k0 (he ▸ hp) hq k2
      · cbv; all_goals exact s_sA
      · cbv; all_goals exact s_bA
    all_goals
      have e : t = false := by rw [← ht]; exact decide_eq_false (take_ne hp hq (by intro e; cases e; simp_all))
      all_goals exact s_sA
  · have e : t = true := by rw [← ht]; exact decide_eq_true (by rwa [qbx (by omega), qbx (by omega)] at k2)
    all_goals exact s_sA
section
variable {S : Sy} {bl : List Blk} {K : SV → List Blk → Prop}
theorem fields_u (hS : S0 Tryd.prog = S) {x y : SV} {l k : List Fd} (hc : FzL bl id [] [x, y] [.v false 2 (cellsF l) (.y (ilen l)), .v false 2 (cellsF k) (.y (ilen k))]) (hl : ilen l ≤ 100000000) (hk : ilen k ≤ 100000000) (h1 : l = k → K .tt bl) (h2 : l ≠ k → K .ff bl) :
    S.call 37 [x, y] bl K := by
  by_cases h : l = k
  · exact qbu hS (qbi (qzaal (decide_eq_true h) hl hk)) hc rfl rfl (h1 h)
  · exact qbu hS (qbi (qzaal (decide_eq_false h) hl hk)) hc rfl rfl (h2 h)
theorem equal_u (hS : S0 Tryd.prog = S) {x y : SV} {l k : List Fd} (hc : FzL bl id [] [x, y] [.v false 2 (cellsF l) (.y (ilen l)), .v false 2 (cellsF k) (.y (ilen k))]) (hl : ilen l ≤ 100000000) (hk : ilen k ≤ 100000000) (h1 : l = k → K .tt bl) (h2 : l ≠ k → K .ff bl) :
    S.call 60 [x, y] bl K := by
  by_cases h : l = k
  · exact qbu hS (qbi (equal_f (decide_eq_true h) hl hk)) hc rfl rfl (h1 h)
  · exact qbu hS (qbi (equal_f (decide_eq_false h) hl hk)) hc rfl rfl (h2 h)
end
end Tb
end Cz
namespace Cz
open Go Go.RowKit Go.Proofs
namespace Tb
theorem same_f {mx my : Int} {l k : List Fd} {t : Bool} (ht : decide (mx = my ∧ l = k) = t) (h1 : ilen l ≤ 100000000) (h2 : ilen k ≤ 100000000) : (S0 Tryd.prog).call 36 [tabV mx l, tabV my k] [] (fun y _ => Sub y (.b t)) := by
  unfold tabV
  generalize hF : cellsF l = F
  generalize hG : cellsF k = G
  obtain ⟨m, hm⟩ : ∃ m, m = ilen l := ⟨_, rfl⟩
  obtain ⟨n, hn⟩ : ∃ n, n = ilen k := ⟨_, rfl⟩
  rw [← hm, ← hn]
  generalize hS : S0 Tryd.prog = S
  refine qaa hS I.qzaaa ?_
  cbv
  refine qad hS ?_ ?_ <;> intro h <;> cbv
  · refine equal_u hS (l := l) (k := k) (.cons (.sub (qav hF.symm hm) rfl) (.cons (.sub (qav hG.symm hn) rfl) .nil)) h1 h2 (fun he => ?_) (fun he => ?_) <;> cbv
    · have e : t = true := by rw [← ht]; exact decide_eq_true ⟨h, he⟩
      all_goals exact s_sA
    · have e : t = false := by rw [← ht]; exact decide_eq_false fun e => he e.2
      all_goals exact s_sA
  · have e : t = false := by rw [← ht]; exact decide_eq_false fun e => h e.1
    all_goals exact s_sA
theorem rsame_f {mx my : Int} {l k : List Fd} {t : Bool} (ht : decide (mx = my ∧ l = k) = t) (h1 : ilen l ≤ 100000000) (h2 : ilen k ≤ 100000000) : (S0 Tryd.prog).call 21 [tabV mx l, tabV my k] [] (fun y _ => Sub y (.b t)) := by
  unfold tabV
  generalize hF : cellsF l = F
  generalize hG : cellsF k = G
  obtain ⟨m, hm⟩ : ∃ m, m = ilen l := ⟨_, rfl⟩
  obtain ⟨n, hn⟩ : ∃ n, n = ilen k := ⟨_, rfl⟩
  rw [← hm, ← hn]
  generalize hS : S0 Tryd.prog = S
  refine qaa hS I.qmz ?_
  cbv
  refine qad hS ?_ ?_ <;> intro h <;> cbv
  · refine fields_u hS (l := l) (k := k) (.cons (.sub (qav hF.symm hm) rfl) (.cons (.sub (qav hG.symm hn) rfl) .nil)) h1 h2 (fun he => ?_) (fun he => ?_) <;> cbv
    · have e : t = true := by rw [← ht]; exact decide_eq_true ⟨h, he⟩
      all_goals exact s_sA
    · have e : t = false := by rw [← ht]; exact decide_eq_false fun e => he e.2
      all_goals exact s_sA
  · have e : t = false := by rw [← ht]; exact decide_eq_false fun e => h e.1
    all_goals exact s_sA
def greatL (l : List Fd) : Bool := decide (140 < ilen l ∨ 5000 < fullL l - 32 * ilen l)
def shortL (l : List Fd) : Prop := ∀ f, f ∈ l → ilen f.1 ≤ 140737488355328 ∧ ilen f.2 ≤ 140737488355328
theorem full_short {l : List Fd} (h : shortL l) : fullL l ≤ 281474976710688 * ilen l := by
  induction l with
  | nil => simp [fullL, ilen]
  | cons f l ih =>
    have h1 := h f (List.mem_cons_self ..)
    have h2 := ih fun g hg => h g (List.mem_cons_of_mem _ hg)
    simp only [fullL, szF, ilen, List.length_cons] at *
    omega
theorem qut {l : List Fd} {t : Bool} (ht : greatL l = t) (hs : shortL l) (hm1 : ilen l ≤ 140737488355328) : (S0 Tryd.prog).call 15 [.v false 2 (cellsF l) (.y (ilen l))] [] (fun y _ => Sub y (.b t)) := by
  generalize hF : cellsF l = F
  obtain ⟨m, hm⟩ : ∃ m, m = ilen l := ⟨_, rfl⟩
  have h0 := qah l
  unfold greatL at ht
  rw [← hm] at ht h0 hm1 ⊢
  generalize hS : S0 Tryd.prog = S
  refine qaa hS I.qll ?_
  cbv
  refine qau hS 0 I.qhm (fun x : Int × Int => 0 ≤ x.1 ∧ x.1 ≤ m ∧ x.1 ≤ 141 ∧ x.2 = fullL (l.take x.1.toNat) - 32 * x.1) (fun x => [(3, .i .i64 (.y x.2)), (4, .i .i64 (.y x.1))]) (fun _ => []) (fun x => (m - x.1).toNat) (0, 0) rfl
    ⟨⟨Int.le_refl _, by omega, by omega, rfl⟩, rfl, ?_, ?_, by cbv⟩ ?_
  · cbv; all_goals exact s_sA
  · cbv; all_goals exact s_bA
  intro x
  obtain ⟨i, s⟩ := x
  intro hx
  dsimp only at hx
  cbv
  obtain ⟨k0, k1, k3, k2⟩ := hx
  have hs0 := qco (l.take i.toNat)
  have hs1 := full_short (l := l.take i.toNat) fun f hf => hs f (List.mem_of_mem_take hf)
  have hs2 : ilen (l.take i.toNat) = i := by unfold ilen at hm ⊢; rw [List.length_take]; omega
  rw [hs2] at hs0 hs1
  refine qad hS ?_ ?_ <;> intro h <;> cbv
  · refine s_br hS ?_ ?_ <;> intro h' <;> cbv <;> simp only [← hS, Int.ofNat_eq_natCast, cq, Bool.not_eq_true', Bool.not_eq_false', decide_eq_true_eq, decide_eq_false_iff_not, beq_iff_eq, beq_eq_false_iff_ne, ne_eq] at h'
    · obtain ⟨⟨a, b⟩, hp⟩ := qfe (l := l) (i := i) (by omega) k0
      have hsz := hs _ (List.mem_of_getElem? hp)
      dsimp only at hsz
      have hsn : szF (a, b) = ilen a + ilen b + 32 := rfl
      have ha := qah a
      have hb := qah b
      have hnx := qfm hp k0
      refine qao hS rfl I.qig (by decide +kernel) ?_
      cbv
      repeat' (first
        | (refine s_st hS ?_; try cbv)
        | (refine qad hS ?_ ?_ <;> intro h <;> (try cbv) <;> try exact s_ab h)
        | (refine qal hS ?_; intro _ _; try cbv)
        | (refine qaf hS ?_; try cbv)
        | (refine qaq hS ?_; intro _ _; try cbv)
        | (refine qbs hS ?_; try cbv)
        | (refine And.intro rfl ?_; try cbv)
        | (refine rowF1 hS hF hp (by omega) ?_; cbv)
        | (refine rowF2 hS hF hp (by omega) ?_; cbv)
        | fail)
      rename_i s1 hs1' s2 hs2' i2 hi2
      refine ⟨(i2, s2), by dsimp only; omega, ⟨by dsimp only; omega, by dsimp only; omega, by dsimp only; omega, by dsimp only; rw [hi2, hnx]; omega⟩, rfl, ?_, ?_, by cbv⟩
      · cbv; all_goals exact s_sA
      · cbv; all_goals exact s_bA
    · have e : t = true := by rw [← ht]; exact decide_eq_true (.inl (by omega))
      repeat' (first
        | (refine s_st hS ?_; try cbv)
        | (refine qad hS ?_ ?_ <;> intro h <;> (try cbv) <;> try exact s_ab h)
        | (refine qal hS ?_; intro _ _; try cbv)
        | (refine qaf hS ?_; try cbv)
        | (refine qaq hS ?_; intro _ _; try cbv)
        | (refine qbs hS ?_; try cbv)
        | fail)
      all_goals
        cbv
        all_goals exact s_sA
  · rw [qbx (by omega)] at k2
    repeat' (first
      | (refine s_st hS ?_; try cbv)
      | (refine qad hS ?_ ?_ <;> intro h <;> (try cbv) <;> try exact s_ab h)
      | (refine qal hS ?_; intro _ _; try cbv)
      | (refine qaf hS ?_; try cbv)
      | (refine qaq hS ?_; intro _ _; try cbv)
      | (refine qbs hS ?_; try cbv)
      | fail)
    · have e : t = true := by rw [← ht]; exact decide_eq_true (.inl (by omega))
      all_goals exact s_sA
    · refine qrg ?_
      rw [← ht, ← hS]
      simp only [cq]
      exact decide_eq_decide.2 ⟨fun h => .inr (by omega), fun h => by omega⟩
section
variable {S : Sy} {bl : List Blk} {K : SV → List Blk → Prop} {cs : List SV} {mx my : Int} {l k : List Fd}
theorem great_u (hS : S0 Tryd.prog = S) {x : SV} (hc : FzL bl id [] [x] [.v false 2 (cellsF l) (.y (ilen l))]) (hs : shortL l) (hm : ilen l ≤ 140737488355328) (h1 : 140 < ilen l ∨ 5000 < fullL l - 32 * ilen l → K .tt bl) (h2 : ilen l ≤ 140 → fullL l ≤ 5000 + 32 * ilen l → K .ff bl) :
    S.call 15 [x] bl K := by
  cases h : greatL l with
  | true => exact qbu hS (qbi (qut h hs hm)) hc rfl rfl (h1 (of_decide_eq_true h))
  | false =>
    have := of_decide_eq_false h
    exact qbu hS (qbi (qut h hs hm)) hc rfl rfl (h2 (by omega) (by omega))
theorem fz_two {bl : List Blk} {g : Nat → Nat} {x y a b : SV} (hx : FzL bl g [] [x] [a]) (hy : FzL bl g [] [y] [b]) (ha : plainV a = false) (hb : plainV b = false) : FzL bl g [] [x, y] [a, b] := by
  cases hx with
  | cons h1 _ => cases hy with
    | cons h2 _ => exact .cons h1 (.cons h2 .nil)
    | fsub h hp => simp [plains, hb] at hp
  | fsub h hp => simp [plains, ha] at hp
end
end Tb
end Cz
namespace Cz
open Go Go.RowKit Go.Proofs
namespace Tb
def statR (i : Int) : Fd × Bool := if 1 ≤ i ∧ i ≤ 20 then (stL.getD (i - 1).toNat ([], []), true) else (([], []), false)
theorem qyg {i : Int} (h1 : 1 ≤ i) (h2 : i ≤ 20) : ∃ a b, stL[(i - 1).toNat]? = some (a, b) ∧ statR i = ((a, b), true) := by
  have h : (i - 1).toNat < stL.length := by rw [qhy]; omega
  refine ⟨(stL[(i - 1).toNat]).1, (stL[(i - 1).toNat]).2, List.getElem?_eq_getElem h, ?_⟩
  unfold statR
  rw [if_pos ⟨h1, h2⟩, List.getD_eq_getElem?_getD, List.getElem?_eq_getElem h]; rfl
theorem at_stat {l : List Fd} {i : Int} {a b : List UInt8} (h : statR i = ((a, b), true)) : atR l i = ((a, b), 0) := by
  by_cases hi : 1 ≤ i ∧ i ≤ 20
  · obtain ⟨c, d, hp, hq⟩ := qyg hi.1 hi.2
    rw [hq] at h; cases h
    unfold atR allF
    rw [if_neg (by omega), List.getElem?_append_left (by rw [qhy]; omega), hp]
  · unfold statR at h; rw [if_neg hi] at h; cases h
theorem stat_no {i : Int} {a b : List UInt8} (h : statR i = ((a, b), false)) : ¬(1 ≤ i ∧ i ≤ 20) := by
  intro hi
  obtain ⟨c, d, hp, hq⟩ := qyg hi.1 hi.2
  rw [hq] at h; cases h
theorem at_row {l : List Fd} {i : Int} (hi : 21 ≤ i) {a b : List UInt8} (hp : l[(i - 21).toNat]? = some (a, b)) : atR l i = ((a, b), 0) := by
  unfold atR allF
  rw [if_neg (by omega), List.getElem?_append_right (by rw [qhy]; omega), qhy, show (i - 1).toNat - 20 = (i - 21).toNat by omega, hp]
theorem qzaba {l : List Fd} {i : Int} (hi : i < 1 ∨ ilen l ≤ i - 21) : atR l i = (([], []), 90) := by
  unfold atR
  split
  · rfl
  · unfold allF
    unfold ilen at hi
    rw [List.getElem?_eq_none (by rw [List.length_append, qhy]; omega)]
theorem rstat_f {i : Int} {a b : List UInt8} {t : Bool} (hr : statR i = ((a, b), t)) (hl : -9223372036854775808 ≤ i) : (S0 Tryd.prog).call 18 [.i .i64 (.y i)] [] (fun y _ => Sub y (.tp [.ag [.s a, .s b], .b t])) := by
  generalize hS : S0 Tryd.prog = S
  refine qaa hS I.qka ?_
  cbv
  refine qad hS ?_ ?_ <;> intro h <;> cbv
  · unfold statR at hr
    rw [if_neg (by omega)] at hr
    cases hr
    repeat' (first
      | (refine s_st hS ?_; try cbv)
      | (refine qad hS ?_ ?_ <;> intro h <;> (try cbv) <;> try exact s_ab h)
      | (refine qal hS ?_; intro _ _; try cbv)
      | (refine qaf hS ?_; try cbv)
      | (refine qaq hS ?_; intro _ _; try cbv)
      | (refine qbs hS ?_; try cbv)
      | fail)
    all_goals exact s_sA
  · refine s_br hS ?_ ?_ <;> intro h' <;> cbv <;> simp only [← hS, Int.ofNat_eq_natCast, cq, Bool.not_eq_true', Bool.not_eq_false', decide_eq_true_eq, decide_eq_false_iff_not, beq_iff_eq, beq_eq_false_iff_ne, ne_eq] at h'
    · unfold statR at hr
      rw [if_neg (by omega)] at hr
      cases hr
      repeat' (first
        | (refine s_st hS ?_; try cbv)
        | (refine qad hS ?_ ?_ <;> intro h <;> (try cbv) <;> try exact s_ab h)
        | (refine qal hS ?_; intro _ _; try cbv)
        | (refine qaf hS ?_; try cbv)
        | (refine qaq hS ?_; intro _ _; try cbv)
        | (refine qbs hS ?_; try cbv)
        | fail)
      all_goals exact s_sA
    · obtain ⟨c, d, hp, hq⟩ := qyg (i := i) (by omega) (by omega)
      rw [hq] at hr
      cases hr
      repeat' (first
        | (refine s_st hS ?_; try cbv)
        | (refine qad hS ?_ ?_ <;> intro h <;> (try cbv) <;> try exact s_ab h)
        | (refine qal hS ?_; intro _ _; try cbv)
        | (refine qaf hS ?_; try cbv)
        | (refine qaq hS ?_; intro _ _; try cbv)
        | (refine qbs hS ?_; try cbv)
        | fail)
      rename_i r hr
      refine rowF hS (l := stL) rfl (hr ▸ hp) (by omega) ?_
      cbv
      repeat' (first
        | (refine s_st hS ?_; try cbv)
        | (refine qad hS ?_ ?_ <;> intro h <;> (try cbv) <;> try exact s_ab h)
        | (refine qal hS ?_; intro _ _; try cbv)
        | (refine qaf hS ?_; try cbv)
        | (refine qaq hS ?_; intro _ _; try cbv)
        | (refine qbs hS ?_; try cbv)
        | fail)
      all_goals exact s_sA
theorem rstat_u {S : Sy} {bl : List Blk} {K : SV → List Blk → Prop} (hS : S0 Tryd.prog = S) {z : Z} (hl : -9223372036854775808 ≤ z.v) (h1 : ∀ a b, statR z.v = ((a, b), true) → K (.tp [.ag [.s a, .s b], .tt]) bl) (h2 : statR z.v = (([], []), false) → K (.tp [.ag [.s [], .s []], .ff]) bl) :
    S.call 18 [.i .i64 z] bl K := by
  cases hr : statR z.v with
  | mk f t => cases f with
    | mk a b => cases t with
      | true => exact qbm hS (qbi (rstat_f hr hl)) (.cons (qan rfl) .nil) rfl rfl (h1 a b hr)
      | false =>
        have := stat_no hr
        unfold statR at hr
        rw [if_neg this] at hr
        cases hr
        exact qbm hS (qbi (rstat_f (a := []) (b := []) (t := false) (by unfold statR; rw [if_neg this]) hl)) (.cons (qan rfl) .nil) rfl rfl (h2 (by unfold statR; rw [if_neg this]))
theorem rat_f {mx i e : Int} {l : List Fd} {a b : List UInt8} (hr : atR l i = ((a, b), e)) (hl : -9223372036854775808 ≤ i) (hu : i ≤ 9223372036854775807) (hm : ilen l ≤ 100000000) : (S0 Tryd.prog).call 33 [tabV mx l, .i .i64 (.y i)] [] (fun y _ => Sub y (.tp [.ag [.s a, .s b], .i .i64 (.y e)])) := by
  unfold tabV
  generalize hF : cellsF l = F
  obtain ⟨m, hm'⟩ : ∃ m, m = ilen l := ⟨_, rfl⟩
  have h0 := qah l
  rw [← hm'] at h0 hm ⊢
  generalize hS : S0 Tryd.prog = S
  refine qaa hS I.qqc ?_
  cbv
  refine rstat_u hS hl (fun c d h => ?_) (fun h => ?_) <;> dsimp only [Z.v] at h <;> cbv
  · rw [at_stat h] at hr
    cases hr
    all_goals exact s_sA
  · have hn := stat_no h
    refine qad hS ?_ ?_ <;> intro h1 <;> cbv
    · rw [qzaba (.inl (by omega))] at hr
      cases hr
      all_goals exact s_sA
    · repeat' (first
      | (refine s_st hS ?_; try cbv)
      | (refine qad hS ?_ ?_ <;> intro h <;> (try cbv) <;> try exact s_ab h)
      | (refine qal hS ?_; intro _ _; try cbv)
      | (refine qaf hS ?_; try cbv)
      | (refine qaq hS ?_; intro _ _; try cbv)
      | (refine qbs hS ?_; try cbv)
      | fail)
      · rename_i r hr'
        rw [qzaba (.inr (by omega))] at hr
        cases hr
        all_goals exact s_sA
      · rename_i r hr'
        obtain ⟨⟨c, d⟩, hp⟩ := qfe (l := l) (i := i - 21) (by omega) (by omega)
        rw [at_row (by omega) hp] at hr
        cases hr
        repeat' (first
          | (refine s_st hS ?_; try cbv)
          | (refine qad hS ?_ ?_ <;> intro h <;> (try cbv) <;> try exact s_ab h)
          | (refine qal hS ?_; intro _ _; try cbv)
          | (refine qaf hS ?_; try cbv)
          | (refine qaq hS ?_; intro _ _; try cbv)
          | (refine qbs hS ?_; try cbv)
          | fail)
        rename_i q hq
        refine rowF hS hF (show l[r.toNat]? = some (a, b) by rw [hr']; exact hp) (by omega) ?_
        cbv
        repeat' (first
          | (refine s_st hS ?_; try cbv)
          | (refine qad hS ?_ ?_ <;> intro h <;> (try cbv) <;> try exact s_ab h)
          | (refine qal hS ?_; intro _ _; try cbv)
          | (refine qaf hS ?_; try cbv)
          | (refine qaq hS ?_; intro _ _; try cbv)
          | (refine qbs hS ?_; try cbv)
          | fail)
        all_goals exact s_sA
theorem TabC.fzi {bl : List Blk} {cs : List SV} {mx : Int} {l : List Fd} (h : TabC bl cs mx l) {g : Nat → Nat} {x y : SV} (hx : Sub x y) (hr : refsB (fun _ => false) x = true) : FzL bl g [] [.ag cs, x] [tabV mx l, y] := by
  have h1 := h.fz (g := g)
  cases h1 with
  | cons h1 _ => exact .cons h1 (.cons (.sub hx hr) .nil)
  | fsub h hp => simp [tabV, plains, plainV] at hp
theorem rat_u {S : Sy} {bl : List Blk} {K : SV → List Blk → Prop} {cs : List SV} {mx : Int} {l : List Fd} (hS : S0 Tryd.prog = S) {z : Z} (hc : TabC bl cs mx l) (hl : -9223372036854775808 ≤ z.v) (hu : z.v ≤ 9223372036854775807) (hm : ilen l ≤ 100000000)
    (hK : ∀ a b e, atR l z.v = ((a, b), e) → K (.tp [.ag [.s a, .s b], .i .i64 (.l e)]) bl) : S.call 33 [.ag cs, .i .i64 z] bl K := by
  cases hr : atR l z.v with
  | mk f e => cases f with
    | mk a b => exact qbu hS (qbi (rat_f hr hl hu hm)) (hc.fzi (qan rfl) rfl) rfl rfl (hK a b e hr)
end Tb
end Cz
namespace Cz
open Go Go.RowKit Go.Proofs
namespace Tb
theorem bidx_u {S : Sy} (hS : S0 Tryd.prog = S) {l : List Blk} {K : SV → List Blk → Prop} {x : List UInt8} {z : Z} {T : Int} (hT : idxI x z.v = T) (h : K (.i .i64 (.y T)) l) : S.call 116 [.s x, .i .u8 z] l K := by
  refine qbm hS (sv := .i .i64 (.y T)) (args' := [.s x, .i .u8 (.y z.v)]) ?_ (.cons .rfl (.cons (qan rfl) .nil)) rfl rfl h
  generalize hS : S0 Tryd.prog = S
  refine qaa hS I.qdp ?_
  cbv
  refine qbm hS (idx_f x z.v) .rfl rfl rfl ?_
  rw [hT]
  cbv
  exact .rfl
theorem lidx_f (x : List UInt8) (c : UInt8) (hx : ilen x ≤ 140737488355328) : (S0 Tryd.prog).call 108 [.s x, .s [c]] [] (fun y _ => Sub y (.i .i64 (.y (idxI x c.toNat)))) := by
  generalize hT : idxI x c.toNat = T
  generalize hS : S0 Tryd.prog = S
  have h2 : S.sat [c] 0 = c.toNat := by subst hS; rfl
  refine qaa hS I.qli ?_
  cbv
  refine qad hS ?_ ?_ <;> intro h <;> cbv
  · exfalso; simp at h
  refine qad hS ?_ ?_ <;> intro h <;> cbv
  · refine qan ?_
    rw [← h] at hT
    simp [idxI] at hT
    exact hT
  refine qad hS ?_ ?_ <;> intro h <;> cbv
  · repeat' (first
    | (refine s_st hS ?_; try cbv)
    | (refine qad hS ?_ ?_ <;> intro h <;> (try cbv) <;> try exact s_ab h)
    | (refine qal hS ?_; intro _ _; try cbv)
    | (refine qaf hS ?_; try cbv)
    | (refine qaq hS ?_; intro _ _; try cbv)
    | (refine qbs hS ?_; try cbv)
    | fail)
    refine bidx_u hS (T := T) (by rw [← hT]; exact congrArg (idxI x) h2) ?_
    cbv
    all_goals exact s_sA
  · exfalso; simp at h
theorem lidx_u {S : Sy} (hS : S0 Tryd.prog = S) {l : List Blk} {K : SV → List Blk → Prop} {x : List UInt8} {c : UInt8} {T : Int} (hx : ilen x ≤ 140737488355328) (hT : idxI x c.toNat = T) (h : K (.i .i64 (.y T)) l) : S.call 108 [.s x, .s [c]] l K := by
  subst hT
  exact qbm hS (lidx_f x c hx) .rfl rfl rfl h
theorem sidx_u {S : Sy} (hS : S0 Tryd.prog = S) {l : List Blk} {K : SV → List Blk → Prop} {x : List UInt8} {c : UInt8} {T : Int} (hx : ilen x ≤ 140737488355328) (hT : idxI x c.toNat = T) (h : K (.i .i64 (.y T)) l) : S.call 107 [.s x, .s [c]] l K := by
  refine qbm hS (sv := .i .i64 (.y T)) (args' := [.s x, .s [c]]) ?_ .rfl rfl rfl h
  generalize hS : S0 Tryd.prog = S
  refine qaa hS I.qrs ?_
  cbv
  refine lidx_u hS hx hT ?_
  cbv
  exact .rfl
def cutR (x : List UInt8) : Fd := if idxI x 32 < 0 then (x, []) else (x.take (idxI x 32).toNat, x.drop ((idxI x 32).toNat + 1))
theorem cut_f (x : List UInt8) {a b : List UInt8} (hr : cutR x = (a, b)) (hx : ilen x ≤ 140737488355328) (hi : idxI x 32 < ilen x) : ∃ t : Bool, (S0 Tryd.prog).call 75 [.s x, .s [32]] [] (fun y _ => Sub y (.tp [.s a, .s b, .b t])) := by
  obtain ⟨T, hT⟩ : ∃ T, idxI x 32 = T := ⟨_, rfl⟩
  unfold cutR at hr
  rw [hT] at hr hi
  obtain ⟨t, ht⟩ : ∃ t, t = decide (0 ≤ T) := ⟨_, rfl⟩
  refine ⟨t, ?_⟩
  generalize hS : S0 Tryd.prog = S
  refine qaa hS I.qwp ?_
  cbv
  refine qaa hS I.qoj ?_
  cbv
  refine lidx_u hS (c := 32) hx hT ?_
  cbv
  refine qad hS ?_ ?_ <;> intro h <;> cbv
  · rw [if_neg (by omega)] at hr
    have hc : ilen ([32] : List UInt8) = 1 := rfl
    have hc2 : (([32] : List UInt8).length : Int) = 1 := rfl
    have hx' : ilen x = x.length := rfl
    refine qao hS rfl I.qjo (by decide +kernel) ?_
    cbv
    repeat' (first
      | (refine s_st hS ?_; try cbv)
      | (refine qad hS ?_ ?_ <;> intro h <;> (try cbv) <;> try exact s_ab h)
      | (refine qal hS ?_; intro _ _; try cbv)
      | (refine qaf hS ?_; try cbv)
      | (refine qaq hS ?_; intro _ _; try cbv)
      | (refine qbs hS ?_; try cbv)
      | (refine And.intro rfl ?_; try cbv)
      | fail)
    cases hr
    rename_i r hr
    have e : t = true := by rw [ht]; exact decide_eq_true h
    have e1 : S.ssub x 0 T = x.take T.toNat := by subst hS; rfl
    have e2 : S.ssub x r (S.slen x) = x.drop (T.toNat + 1) := by
      rw [hr, hc]
      subst hS
      show (x.take x.length).drop (T + 1).toNat = _
      rw [List.take_length, show (T + 1).toNat = T.toNat + 1 by omega]
    rw [← e1, ← e2]
    all_goals exact s_sA
  · rw [if_pos (by omega)] at hr
    cases hr
    have e : t = false := by rw [ht]; exact decide_eq_false h
    all_goals exact s_sA
theorem cut_u {S : Sy} (hS : S0 Tryd.prog = S) {l : List Blk} {K : SV → List Blk → Prop} {x a b : List UInt8} (hr : cutR x = (a, b)) (hx : ilen x ≤ 140737488355328) (hi : idxI x 32 < ilen x) (h : ∀ t, K (.tp [.s a, .s b, .b t]) l) : S.call 75 [.s x, .s [32]] l K := by
  obtain ⟨t, ht⟩ := cut_f x hr hx hi
  exact qbm hS ht .rfl rfl rfl (h t)
theorem line_at {j : Int} (h0 : 0 ≤ j) (h1 : j < 19) : ∃ (L a b : List UInt8), idxI (remT j.toNat) 10 = ilen L ∧ (remT j.toNat).take L.length = L ∧ (remT j.toNat).drop (L.length + 1) = remT (j + 1).toNat ∧ cutR L = (a, b) ∧ stL[j.toNat]? = some (a, b) ∧ ilen L ≤ 20 ∧ ilen (remT j.toNat) ≤ 300 ∧ idxI L 32 < ilen L ∧ ilen L < ilen (remT j.toNat) := by
  have h := line_facts ⟨j.toNat, by omega⟩
  dsimp only at h
  obtain ⟨e1, e2, e3, e4, e5, e6, e7, e8⟩ := h
  have hj : j.toNat < 19 := by omega
  rw [if_pos hj] at e1
  have hs : j.toNat < stL.length := by rw [qhy]; omega
  have hst : stL[j.toNat]? = some (stL.getD j.toNat ([], [])) := by rw [List.getD_eq_getElem?_getD, List.getElem?_eq_getElem hs]; rfl
  have hL : ilen (lineL.getD j.toNat []) < ilen (remT j.toNat) := by
    have := e3 hj
    have hd := congrArg List.length e2
    rw [List.length_take] at hd
    rcases Nat.lt_or_ge (lineL.getD j.toNat []).length (remT j.toNat).length with h | h
    · unfold ilen; omega
    · exfalso
      rw [List.drop_eq_nil_of_le (by omega)] at this
      have h2 : ∀ k : Fin 20, remT k.val ≠ [] := by decide +kernel
      exact h2 ⟨j.toNat + 1, by omega⟩ this.symm
  refine ⟨lineL.getD j.toNat [], (stL.getD j.toNat ([], [])).1, (stL.getD j.toNat ([], [])).2, e1, e2, ?_, ?_, hst, e6, e7, e8, hL⟩
  · rw [e3 hj]; congr 1; omega
  · unfold cutR
    by_cases h : idxI (lineL.getD j.toNat []) 32 < 0
    · rw [if_pos h] at e5 ⊢; rw [e5]
    · rw [if_neg h] at e5 ⊢; rw [e5]
theorem line_last {j : Int} (h1 : j = 19) : ∃ (a b : List UInt8), idxI (remT j.toNat) 10 = -1 ∧ cutR (remT j.toNat) = (a, b) ∧ stL[j.toNat]? = some (a, b) ∧ ilen (remT j.toNat) ≤ 300 ∧ idxI (remT j.toNat) 32 < ilen (remT j.toNat) := by
  subst h1
  exact ⟨[117, 115, 101, 114, 45, 97, 103, 101, 110, 116], [], by decide +kernel⟩
theorem at_i {l : List Fd} {i j : Int} {a b : List UInt8} (h0 : 0 ≤ j) (h : (allF l)[j.toNat]? = some (a, b)) (hi : i = j + 1) : atR l i = ((a, b), 0) := by
  unfold atR
  rw [if_neg (by omega), show (i - 1).toNat = j.toNat by omega, h]
theorem all_st {l : List Fd} {j : Int} {f : Fd} (h : stL[j.toNat]? = some f) : (allF l)[j.toNat]? = some f := by
  unfold allF
  have := (List.getElem?_eq_some_iff.1 h).1
  rw [List.getElem?_append_left this, h]
theorem all_row {l : List Fd} {j k : Int} (h0 : 0 ≤ j) (hk : k = j + 20) {f : Fd} (h : l[j.toNat]? = some f) : (allF l)[k.toNat]? = some f := by
  unfold allF
  rw [List.getElem?_append_right (by rw [qhy]; omega), qhy, show k.toNat - 20 = j.toNat by omega, h]
theorem at_f {mx i e : Int} {l : List Fd} {a b : List UInt8} (hr : atR l i = ((a, b), e)) (hm : ilen l ≤ 100000000) : (S0 Tryd.prog).call 32 [tabV mx l, .i .i64 (.y i)] [] (fun y _ => Sub y (.tp [.ag [.s a, .s b], .i .i64 (.y e)])) := by
  unfold tabV
  generalize hF : cellsF l = F
  obtain ⟨m, hm'⟩ : ∃ m, m = ilen l := ⟨_, rfl⟩
  have h0 := qah l
  rw [← hm'] at h0 hm ⊢
  generalize hS : S0 Tryd.prog = S
  refine qaa hS I.qzaev ?_
  cbv
  refine qaa hS I.qjz ?_
  cbv
  refine qic hS I.qhi ?_
  cbv
  refine qaa hS I.qfo ?_
  cbv
  refine qaa hS I.qfn ?_
  cbv
  refine qic hS I.qej ?_
  cbv
  refine qad hS ?_ ?_ <;> intro h <;> cbv
  · exfalso; simp at h
  have hc : ilen ([10] : List UInt8) = 1 := rfl
  have hc2 : (([10] : List UInt8).length : Int) = 1 := rfl
  refine qau hS 14 I.qdl (fun x : Int × List UInt8 => 0 ≤ x.1 ∧ x.1 ≤ 19 ∧ (i < 1 ∨ x.1 < i) ∧ x.2 = remT x.1.toNat) (fun _ => []) (fun x => [(8, .c [.i .i64 (.y x.1)]), (9, .c [.s x.2])]) (fun x => (19 - x.1).toNat) (0, remT 0) rfl
    ⟨⟨Int.le_refl _, by dsimp only; omega, by dsimp only; omega, rfl⟩, rfl, ?_, ?_, by cbv⟩ ?_
  · cbv; all_goals exact s_sA
  · cbv; all_goals exact s_bA
  intro x
  obtain ⟨j, s⟩ := x
  intro hx
  dsimp only at hx
  cbv
  obtain ⟨k0, k1, k2, k3⟩ := hx
  have hjj : j < 19 ∨ 19 ≤ j := by omega
  rcases hjj with hj | hj
  · obtain ⟨L, c, d, f1, f2, f3, f4, f5, f6, f7, f8, f9⟩ := line_at k0 hj
    rw [← k3] at f1 f2 f3 f7 f9
    refine sidx_u hS (c := 10) (by omega) f1 ?_
    generalize hn : ilen L = n at *
    have hn0 : 0 ≤ n := hn ▸ qah L
    cbv
    repeat' (first
      | (refine s_st hS ?_; try cbv)
      | (refine qad hS ?_ ?_ <;> intro h <;> (try cbv) <;> try exact s_ab h)
      | (refine qal hS ?_; intro _ _; try cbv)
      | (refine qaf hS ?_; try cbv)
      | (refine qaq hS ?_; intro _ _; try cbv)
      | (refine qbs hS ?_; try cbv)
      | (refine qib hS rfl rfl ?_; cbv)
      | fail)
    rename_i r1 hr1 j1 hj1
    have e1 : S.ssub s 0 r1 = L := by
      subst hS
      show (s.take r1.toNat).drop 0 = L
      rw [List.drop_zero, show r1.toNat = L.length by unfold ilen at hn; omega, f2]
    refine cut_u hS (x := S.ssub s 0 r1) (a := c) (b := d) (by rw [e1]; exact f4) (by rw [e1]; omega) (by rw [e1, hn]; exact f8) fun t => ?_
    cbv
    repeat' (first
      | (refine s_st hS ?_; try cbv)
      | (refine qad hS ?_ ?_ <;> intro h <;> (try cbv) <;> try exact s_ab h)
      | (refine qal hS ?_; intro _ _; try cbv)
      | (refine qaf hS ?_; try cbv)
      | (refine qaq hS ?_; intro _ _; try cbv)
      | (refine qbs hS ?_; try cbv)
      | (refine qib hS rfl rfl ?_; cbv)
      | fail)
    · rename_i h
      rw [at_i k0 (all_st f5) (by omega)] at hr
      cases hr
      all_goals exact s_sA
    · rename_i h r2 hr2
      refine ⟨(j1, S.ssub s r2 (S.slen s)), by dsimp only; omega, ⟨by dsimp only; omega, by dsimp only; omega, by dsimp only; omega, ?_⟩, rfl, ?_, ?_, by cbv⟩
      · dsimp only
        rw [hj1, ← f3]
        subst hS
        show (s.take s.length).drop r2.toNat = _
        rw [List.take_length, show r2.toNat = L.length + 1 by unfold ilen at hn; omega]
      · cbv; all_goals exact s_sA
      · cbv; all_goals exact s_bA
  · obtain ⟨c, d, f1, f4, f5, f7, f8⟩ := line_last (j := j) (by omega)
    rw [← k3] at f1 f4 f7 f8
    refine sidx_u hS (c := 10) (by omega) f1 ?_
    cbv
    refine s_br hS ?_ ?_ <;> intro h' <;> cbv <;> simp only [← hS, Int.ofNat_eq_natCast, cq, Bool.not_eq_true', Bool.not_eq_false', decide_eq_true_eq, decide_eq_false_iff_not, beq_iff_eq, beq_eq_false_iff_ne, ne_eq] at h'
    · repeat' (first
      | (refine s_st hS ?_; try cbv)
      | (refine qad hS ?_ ?_ <;> intro h <;> (try cbv) <;> try exact s_ab h)
      | (refine qal hS ?_; intro _ _; try cbv)
      | (refine qaf hS ?_; try cbv)
      | (refine qaq hS ?_; intro _ _; try cbv)
      | (refine qbs hS ?_; try cbv)
      | (refine qib hS rfl rfl ?_; cbv)
      | fail)
      refine cut_u hS (a := c) (b := d) f4 (by omega) f8 fun t => ?_
      cbv
      repeat' (first
        | (refine s_st hS ?_; try cbv)
        | (refine qad hS ?_ ?_ <;> intro h <;> (try cbv) <;> try exact s_ab h)
        | (refine qal hS ?_; intro _ _; try cbv)
        | (refine qaf hS ?_; try cbv)
        | (refine qaq hS ?_; intro _ _; try cbv)
        | (refine qbs hS ?_; try cbv)
        | (refine qib hS rfl rfl ?_; cbv)
        | fail)
      · rename_i h
        rw [at_i k0 (all_st f5) (by omega)] at hr
        cases hr
        all_goals exact s_sA
      · rename_i j1 hj1
        refine qau hS 15 I.qel (fun x : Int × Int => 0 ≤ x.1 ∧ x.1 ≤ m ∧ x.2 = x.1 + 20 ∧ (i < 1 ∨ x.2 < i)) (fun x => [(29, .i .i64 (.y x.1))]) (fun x => [(8, .c [.i .i64 (.y x.2)])]) (fun x => (m - x.1).toNat) (0, j1) rfl
          ⟨⟨Int.le_refl _, by dsimp only; omega, by dsimp only; omega, by dsimp only; omega⟩, rfl, ?_, ?_, by cbv⟩ ?_
        · cbv; all_goals exact s_sA
        · cbv; all_goals exact s_bA
        intro x
        obtain ⟨q, u⟩ := x
        intro hx
        dsimp only at hx
        cbv
        obtain ⟨q0, q1, q2, q3⟩ := hx
        refine qad hS ?_ ?_ <;> intro h <;> cbv
        · obtain ⟨⟨v, w⟩, hp⟩ := qfe (l := l) (i := q) (by omega) q0
          repeat' (first
            | (refine s_st hS ?_; try cbv)
            | (refine qad hS ?_ ?_ <;> intro h <;> (try cbv) <;> try exact s_ab h)
            | (refine qal hS ?_; intro _ _; try cbv)
            | (refine qaf hS ?_; try cbv)
            | (refine qaq hS ?_; intro _ _; try cbv)
            | (refine qbs hS ?_; try cbv)
            | (refine qib hS rfl rfl ?_; cbv)
            | (refine rowF hS hF hp (by omega) ?_; cbv)
            | fail)
          · rw [at_i (j := u) (by omega) (all_row q0 q2 hp) (by omega)] at hr
            cases hr
            all_goals exact s_sA
          · rename_i u1 hu1 q4 hq4
            refine ⟨(q4, u1), by dsimp only; omega, ⟨by dsimp only; omega, by dsimp only; omega, by dsimp only; omega, by dsimp only; omega⟩, rfl, ?_, ?_, by cbv⟩
            · cbv; all_goals exact s_sA
            · cbv; all_goals exact s_bA
        · repeat' (first
          | (refine s_st hS ?_; try cbv)
          | (refine qad hS ?_ ?_ <;> intro h <;> (try cbv) <;> try exact s_ab h)
          | (refine qal hS ?_; intro _ _; try cbv)
          | (refine qaf hS ?_; try cbv)
          | (refine qaq hS ?_; intro _ _; try cbv)
          | (refine qbs hS ?_; try cbv)
          | fail)
          rw [qzaba (by omega)] at hr
          cases hr
          all_goals exact s_sA
    · omega
section
variable {S : Sy} {bl : List Blk} {K : SV → List Blk → Prop} {cs : List SV} {mx : Int} {l : List Fd}
theorem at_u (hS : S0 Tryd.prog = S) {z : Z} (hc : TabC bl cs mx l) (hm : ilen l ≤ 100000000)
    (hK : ∀ a b e, atR l z.v = ((a, b), e) → K (.tp [.ag [.s a, .s b], .i .i64 (.l e)]) bl) : S.call 32 [.ag cs, .i .i64 z] bl K := by
  cases hr : atR l z.v with
  | mk f e => cases f with
    | mk a b => exact qbu hS (qbi (at_f hr hm)) (hc.fzi (qan (b := .y z.v) rfl) rfl) rfl rfl (hK a b e hr)
end
theorem static_f {i : Int} {a b : List UInt8} {t : Bool} (hr : statR i = ((a, b), t)) : (S0 Tryd.prog).call 17 [.i .i64 (.y i)] [] (fun y _ => Sub y (.tp [.ag [.s a, .s b], .b t])) := by
  generalize hS : S0 Tryd.prog = S
  refine qaa hS I.quz ?_
  cbv
  refine qad hS ?_ ?_ <;> intro h <;> cbv
  · unfold statR at hr
    rw [if_neg (by omega)] at hr
    cases hr
    all_goals exact s_sA
  · refine at_u hS (.nil rfl) (by decide) fun c d e he => ?_
    dsimp only [Z.v] at he
    cbv
    by_cases hi : 1 ≤ i
    · obtain ⟨c', d', hp, hq⟩ := qyg (i := i) hi (by omega)
      rw [at_stat hq] at he
      rw [hq] at hr
      cases he; cases hr
      cbv
      all_goals exact s_sA
    · rw [qzaba (.inl (by omega))] at he
      unfold statR at hr
      rw [if_neg (by omega)] at hr
      cases he; cases hr
      cbv
      all_goals exact s_sA
end Tb
end Cz
namespace Cz
open Go Go.RowKit Go.Proofs
section
variable {α : Type} [DecidableEq α]
def mapE (enc : α → SV) (ms : List (α × Int)) : List (SV × SV) := ms.map fun p => (enc p.1, .i .i64 (.y p.2))
def mget : List (α × Int) → α → Int
  | [], _ => 0
  | (k, v) :: r, a => if a = k then v else mget r a
theorem mget_app (a b : α) (n : Int) : ∀ ms : List (α × Int), (∀ p, p ∈ ms → 1 ≤ p.2) → mget (ms ++ [(b, n)]) a = if mget ms a ≠ 0 then mget ms a else if a = b then n else 0
  | [], _ => by simp [mget]
  | (k, v) :: r, hv => by
    simp only [List.cons_append, mget]
    split
    · have := hv (k, v) (List.mem_cons_self ..)
      dsimp only at this
      rw [if_pos (by omega)]
    · exact mget_app a b n r fun p hp => hv p (List.mem_cons_of_mem _ hp)
theorem lk_g {P : Program} {S : Sy} {sig : Sg} {enc : α → SV} {zero : SV} {K : SV → Bool → Prop} {a : α} (hS : S0 P = S) (heq : ∀ (b : α) (k1 k2 : Unit → Prop), (a = b → k1 ()) → (a ≠ b → k2 ()) → veq S sig (enc a) (enc b) k1 k2)
    {ms : List (α × Int)} {E : List (SV × SV)} (hE : mapE enc ms = E) (h1 : mget ms a ≠ 0 → K (.i .i64 (.y (mget ms a))) true) (h2 : mget ms a = 0 → K zero false) (hv : ∀ p, p ∈ ms → 1 ≤ p.2) : S.lk sig (enc a) K zero E := by
  refine s_lk hS ?_
  subst hE
  induction ms with
  | nil => exact h2 rfl
  | cons p r ih =>
    obtain ⟨k, v⟩ := p
    simp only [mapE, List.map_cons, vlook]
    have h0 := hv (k, v) (List.mem_cons_self ..)
    dsimp only at h0
    refine heq k _ _ (fun e => ?_) (fun e => ?_)
    · simp only [mget, if_pos e] at h1
      exact h1 (by omega)
    · simp only [mget, if_neg e] at h1 h2
      exact ih h1 h2 fun p hp => hv p (List.mem_cons_of_mem _ hp)
theorem mu_g {P : Program} {S : Sy} {sig : Sg} {enc : α → SV} {K : List (SV × SV) → Prop} {a : α} {z : Z} (hS : S0 P = S) (heq : ∀ (b : α) (k1 k2 : Unit → Prop), (a = b → k1 ()) → (a ≠ b → k2 ()) → veq S sig (enc a) (enc b) k1 k2)
    {ms : List (α × Int)} {E : List (SV × SV)} (hE : mapE enc ms = E) (h0 : mget ms a = 0) (hv : ∀ p, p ∈ ms → 1 ≤ p.2) (h : ∀ E', E ++ [(enc a, .i .i64 z)] = E' → K E') : S.mu sig (enc a) (.i .i64 z) K [] E := by
  refine s_mu hS ?_
  have key : ∀ (r : List (α × Int)) (acc : List (SV × SV)), (∀ p, p ∈ r → 1 ≤ p.2) → mget r a = 0 → acc ++ mapE enc r = E → vmupd S sig (enc a) (.i .i64 z) K acc (mapE enc r) := by
    intro r
    induction r with
    | nil => intro acc _ _ he; simp only [mapE, List.map_nil, List.append_nil, vmupd] at he ⊢; exact h _ (by rw [he])
    | cons p r ih =>
      intro acc hv h0 he
      obtain ⟨k, v⟩ := p
      have h1 := hv (k, v) (List.mem_cons_self ..)
      dsimp only at h1
      simp only [mget] at h0
      have hk : a ≠ k := by intro e; rw [if_pos e] at h0; omega
      rw [if_neg hk] at h0
      simp only [mapE, List.map_cons, vmupd]
      exact heq k _ _ (fun e => absurd e hk) fun _ => ih _ (fun p hp => hv p (List.mem_cons_of_mem _ hp)) h0 (by rw [← he]; simp [mapE])
  have := key ms [] hv h0 (by simpa using hE)
  rwa [hE] at this
end
namespace Tb
theorem qss (p : Fd → Bool) : ∀ (l r : List Fd) (k : Int), 1 ≤ k → fstI p (l ++ r) k = if fstI p l k ≠ 0 then fstI p l k else fstI p r (k + l.length)
  | [], r, k, _ => by simp [fstI]
  | x :: l, r, k, hk => by
    simp only [List.cons_append, fstI]
    split
    · rw [if_pos (by omega)]
    · rw [qss p l r (k + 1) (by omega)]
      simp only [List.length_cons]
      rw [show k + 1 + (l.length : Int) = k + ((l.length + 1 : Nat) : Int) by omega]
theorem qzx {p : Fd → Bool} {L : List Fd} {j : Int} {x : Fd} (hx : L[j.toNat]? = some x) (h0 : 0 ≤ j) : fstI p (L.take (j + 1).toNat) 1 = if fstI p (L.take j.toNat) 1 ≠ 0 then fstI p (L.take j.toNat) 1 else if p x then j + 1 else 0 := by
  have hl := (List.getElem?_eq_some_iff.1 hx).1
  rw [qdr hx h0, qss _ _ _ _ (Int.le_refl _)]
  simp only [fstI, List.length_take]
  rw [show (1 : Int) + ((min j.toNat L.length : Nat) : Int) = j + 1 by omega]
theorem fst_here {p : Fd → Bool} {L : List Fd} {j : Int} {x : Fd} (hx : L[j.toNat]? = some x) (h0 : 0 ≤ j) (hz : fstI p (L.take j.toNat) 1 = 0) (hp : p x = true) : fstI p L 1 = j + 1 := by
  have h := qzx (p := p) hx h0
  rw [if_neg (by omega), if_pos hp] at h
  conv => lhs; rw [← List.take_append_drop (j + 1).toNat L]
  rw [qss _ _ _ _ (Int.le_refl _), h, if_pos (by omega)]
theorem qjx (p : Fd → Bool) : ∀ (l : List Fd) (k : Int), 1 ≤ k → 0 ≤ fstI p l k ∧ fstI p l k ≤ k + l.length - 1 ∧ (fstI p l k ≠ 0 → k ≤ fstI p l k)
  | [], k, hk => by simp [fstI]; omega
  | x :: l, k, hk => by
    simp only [fstI, List.length_cons]
    split
    · omega
    · have := qjx p l (k + 1) (by omega)
      omega
theorem qsz (l : List Fd) : ilen (allF l) = 20 + ilen l := by
  unfold ilen allF
  rw [List.length_append, qhy]; omega
theorem at_all {l : List Fd} {i : Int} (h0 : 1 ≤ i) (h1 : i ≤ 20 + ilen l) : ∃ a b, (allF l)[(i - 1).toNat]? = some (a, b) ∧ atR l i = ((a, b), 0) := by
  have := qsz l
  have hi : (i - 1).toNat < (allF l).length := by unfold ilen at *; omega
  refine ⟨((allF l)[(i - 1).toNat]).1, ((allF l)[(i - 1).toNat]).2, List.getElem?_eq_getElem hi, ?_⟩
  unfold atR
  rw [if_neg (by omega), List.getElem?_eq_getElem hi]
theorem rfind_f {mx n : Int} {l : List Fd} {a b : List UInt8} {t : Bool} (hr : findR l (a, b) = (n, t)) (hm : ilen l ≤ 100000000) : (S0 Tryd.prog).call 35 [tabV mx l, .ag [.s a, .s b]] [] (fun y _ => Sub y (.tp [.i .i64 (.y n), .b t])) := by
  unfold tabV
  generalize hF : cellsF l = F
  obtain ⟨m, hm'⟩ : ∃ m, m = ilen l := ⟨_, rfl⟩
  have h0 := qah l
  have hal := qsz l
  unfold findR at hr
  generalize hw : (fun x : Fd => x == (a, b)) = w at hr
  generalize hv : (fun x : Fd => x.1 == (a, b).1) = v at hr
  rw [← hm'] at h0 hm ⊢
  generalize hS : S0 Tryd.prog = S
  refine qaa hS I.qnb ?_
  cbv
  refine qau hS 2 I.qiq (fun x : Int × Int => 1 ≤ x.1 ∧ x.1 ≤ m + 21 ∧ fstI w ((allF l).take (x.1 - 1).toNat) 1 = 0 ∧ x.2 = fstI v ((allF l).take (x.1 - 1).toNat) 1) (fun x => [(6, .i .i64 (.y x.2)), (7, .i .i64 (.y x.1))]) (fun _ => []) (fun x => (m + 21 - x.1).toNat) (1, 0) rfl
    ⟨⟨Int.le_refl _, by dsimp only; omega, rfl, rfl⟩, rfl, ?_, ?_, by cbv⟩ ?_
  · cbv; all_goals exact s_sA
  · cbv; all_goals exact s_bA
  intro x
  obtain ⟨i, u⟩ := x
  intro hx
  dsimp only at hx
  cbv
  obtain ⟨k0, k1, k2, k3⟩ := hx
  refine qal hS ?_
  intro q hq
  cbv
  refine qad hS ?_ ?_ <;> intro h <;> cbv
  · obtain ⟨c, d, hp, hat⟩ := at_all (l := l) (i := i) k0 (by omega)
    have hnw := qzx (p := w) hp (by omega)
    have hnv := qzx (p := v) hp (by omega)
    rw [if_neg (by omega)] at hnw
    have hwx : w (c, d) = decide ((c, d) = (a, b)) := by rw [← hw, Bool.eq_iff_iff]; simp
    have hvx : v (c, d) = decide (c = a) := by rw [← hv, Bool.eq_iff_iff]; simp
    rw [hwx, show i - 1 + 1 = i by omega] at hnw
    rw [hvx, ← k3, show i - 1 + 1 = i by omega] at hnv
    refine rat_u hS (.v rfl hF hm') (by dsimp only [Z.v]; omega) (by dsimp only [Z.v]; omega) (by omega) fun c' d' e' he => ?_
    cbv
    dsimp only [Z.v] at he
    rw [hat] at he
    cases he
    refine eqFd hS (fun hab => ?_) (fun hab => ?_) <;> cbv
    · rw [fst_here hp (by omega) k2 (by rw [hwx]; exact decide_eq_true hab), show i - 1 + 1 = i by omega, if_pos (by omega)] at hr
      cases hr
      all_goals exact s_sA
    · rw [if_neg (by rw [decide_eq_true_eq]; exact hab)] at hnw
      refine qad hS ?_ ?_ <;> intro h1 <;> cbv
      · rw [if_pos (decide_eq_true h1)] at hnv
        refine qad hS ?_ ?_ <;> intro h2 <;> cbv
        · rw [if_neg (by omega)] at hnv
          repeat' (first
            | (refine s_st hS ?_; try cbv)
            | (refine qad hS ?_ ?_ <;> intro h <;> (try cbv) <;> try exact s_ab h)
            | (refine qal hS ?_; intro _ _; try cbv)
            | (refine qaf hS ?_; try cbv)
            | (refine qaq hS ?_; intro _ _; try cbv)
            | (refine qbs hS ?_; try cbv)
            | fail)
          rename_i r hr'
          refine ⟨(r, i), by dsimp only; omega, ⟨by dsimp only; omega, by dsimp only; omega, by dsimp only; rw [hr', show i + 1 - 1 = i by omega]; exact hnw, by dsimp only; rw [hr', show i + 1 - 1 = i by omega, hnv]⟩, rfl, ?_, ?_, by cbv⟩
          · cbv; all_goals exact s_sA
          · cbv; all_goals exact s_bA
        · rw [if_pos (by omega)] at hnv
          repeat' (first
            | (refine s_st hS ?_; try cbv)
            | (refine qad hS ?_ ?_ <;> intro h <;> (try cbv) <;> try exact s_ab h)
            | (refine qal hS ?_; intro _ _; try cbv)
            | (refine qaf hS ?_; try cbv)
            | (refine qaq hS ?_; intro _ _; try cbv)
            | (refine qbs hS ?_; try cbv)
            | fail)
          rename_i r hr'
          refine ⟨(r, u), by dsimp only; omega, ⟨by dsimp only; omega, by dsimp only; omega, by dsimp only; rw [hr', show i + 1 - 1 = i by omega]; exact hnw, by dsimp only; rw [hr', show i + 1 - 1 = i by omega, hnv]⟩, rfl, ?_, ?_, by cbv⟩
          · cbv; all_goals exact s_sA
          · cbv; all_goals exact s_bA
      · rw [if_neg (c := (decide (c = a)) = true) (by rw [decide_eq_true_eq]; exact h1)] at hnv
        repeat' (first
          | (refine s_st hS ?_; try cbv)
          | (refine qad hS ?_ ?_ <;> intro h <;> (try cbv) <;> try exact s_ab h)
          | (refine qal hS ?_; intro _ _; try cbv)
          | (refine qaf hS ?_; try cbv)
          | (refine qaq hS ?_; intro _ _; try cbv)
          | (refine qbs hS ?_; try cbv)
          | fail)
        rename_i r hr'
        refine ⟨(r, u), by dsimp only; omega, ⟨by dsimp only; omega, by dsimp only; omega, by dsimp only; rw [hr', show i + 1 - 1 = i by omega]; exact hnw, by dsimp only; rw [hr', show i + 1 - 1 = i by omega, hnv]; split <;> omega⟩, rfl, ?_, ?_, by cbv⟩
        · cbv; all_goals exact s_sA
        · cbv; all_goals exact s_bA
  · have hta : (allF l).take (i - 1).toNat = allF l := qbx (by omega)
    rw [hta] at k2 k3
    rw [if_neg (by omega), ← k3] at hr
    cases hr
    all_goals exact s_sA
end Tb
end Cz
namespace Cz
open Go Go.RowKit Go.Proofs
namespace Tb
theorem eqF' {S : Sy} (hS : S0 Tryd.prog = S) (x y : Fd) (k1 k2 : Unit → Prop) (h1 : x = y → k1 ()) (h2 : x ≠ y → k2 ()) : veq S ⟨true, [.ks, .ks]⟩ (.ag [.s x.1, .s x.2]) (.ag [.s y.1, .s y.2]) k1 k2 := by
  obtain ⟨a, b⟩ := x
  obtain ⟨c, d⟩ := y
  cbv
  refine s_br hS (fun h => ?_) (fun h => ?_) <;> cbv <;> simp only [← hS, Int.ofNat_eq_natCast, cq, Bool.not_eq_true', Bool.not_eq_false', decide_eq_true_eq, decide_eq_false_iff_not, beq_iff_eq, beq_eq_false_iff_ne, ne_eq] at h
  · refine s_br hS (fun h' => ?_) (fun h' => ?_) <;> cbv <;> simp only [← hS, Int.ofNat_eq_natCast, cq, Bool.not_eq_true', Bool.not_eq_false', decide_eq_true_eq, decide_eq_false_iff_not, beq_iff_eq, beq_eq_false_iff_ne, ne_eq] at h'
    · exact h1 (by rw [h, h'])
    · exact h2 (by intro e; cases e; exact h' rfl)
  · exact h2 (by intro e; cases e; exact h rfl)
theorem eqN' {S : Sy} (hS : S0 Tryd.prog = S) (x y : List UInt8) (k1 k2 : Unit → Prop) (h1 : x = y → k1 ()) (h2 : x ≠ y → k2 ()) : veq S ⟨false, [.ks]⟩ (.s x) (.s y) k1 k2 := by
  cbv
  refine s_br hS (fun h => ?_) (fun h => ?_) <;> cbv <;> simp only [← hS, Int.ofNat_eq_natCast, cq, Bool.not_eq_true', Bool.not_eq_false', decide_eq_true_eq, decide_eq_false_iff_not, beq_iff_eq, beq_eq_false_iff_ne, ne_eq] at h
  · exact h1 h
  · exact h2 h
def encF (x : Fd) : SV := .ag [.s x.1, .s x.2]
def MapG {α : Type} [DecidableEq α] (enc : α → SV) (key : Fd → α) (E : List (SV × SV)) (L : List Fd) : Prop :=
  ∃ ms : List (α × Int), mapE enc ms = E ∧ (∀ p, p ∈ ms → 1 ≤ p.2) ∧ ∀ k, mget ms k = fstI (fun x => decide (key x = k)) L 1
section
variable {α : Type} [DecidableEq α] {enc : α → SV} {key : Fd → α} {E : List (SV × SV)} {L : List Fd}
theorem fst_snoc (p : Fd → Bool) (L : List Fd) (x : Fd) : fstI p (L ++ [x]) 1 = if fstI p L 1 ≠ 0 then fstI p L 1 else if p x then 1 + L.length else 0 := by
  rw [qss p L [x] 1 (Int.le_refl _)]
  simp only [fstI]
theorem MapG.keep (h : MapG enc key E L) {x : Fd} (hx : fstI (fun y => decide (key y = key x)) L 1 ≠ 0) : MapG enc key E (L ++ [x]) := by
  obtain ⟨ms, h1, h2, h3⟩ := h
  refine ⟨ms, h1, h2, fun k => ?_⟩
  rw [h3, fst_snoc]
  split
  · rfl
  · rename_i h0
    split
    · rename_i hk
      exact absurd (by rw [← of_decide_eq_true hk] at h0; omega) hx
    · omega
theorem MapG.put (h : MapG enc key E L) {x : Fd} (hx : fstI (fun y => decide (key y = key x)) L 1 = 0) : MapG enc key (E ++ [(enc (key x), .i .i64 (.y (1 + L.length)))]) (L ++ [x]) := by
  obtain ⟨ms, h1, h2, h3⟩ := h
  refine ⟨ms ++ [(key x, (1 + L.length : Int))], ?_, ?_, fun k => ?_⟩
  · rw [← h1]; simp [mapE]
  · intro p hp
    rcases List.mem_append.1 hp with hp | hp
    · exact h2 p hp
    · rw [List.mem_singleton.1 hp]; dsimp only; omega
  · rw [mget_app _ _ _ _ h2, h3, fst_snoc]
    simp only [decide_eq_true_eq]
    split
    · rfl
    · split
      · rename_i e; rw [if_pos e.symm]
      · rename_i e; rw [if_neg fun e' => e e'.symm]
theorem MapG.nil : MapG enc key [] [] := ⟨[], rfl, fun _ h => by simp at h, fun _ => rfl⟩
theorem lkG {S : Sy} {sig : Sg} {zero : SV} {K : SV → Bool → Prop} (hS : S0 Tryd.prog = S) (heq : ∀ (a b : α) (k1 k2 : Unit → Prop), (a = b → k1 ()) → (a ≠ b → k2 ()) → veq S sig (enc a) (enc b) k1 k2) (h : MapG enc key E L) {a : α} {n : Int} (hn : n = fstI (fun x => decide (key x = a)) L 1)
    (h1 : n ≠ 0 → K (.i .i64 (.y n)) true) (h2 : n = 0 → K zero false) : S.lk sig (enc a) K zero E := by
  obtain ⟨ms, hE, hv, hm⟩ := h
  rw [← hm] at hn
  subst hn
  exact lk_g (enc := enc) (a := a) hS (heq a) hE h1 h2 hv
theorem muG {S : Sy} {sig : Sg} {K : List (SV × SV) → Prop} (hS : S0 Tryd.prog = S) (heq : ∀ (a b : α) (k1 k2 : Unit → Prop), (a = b → k1 ()) → (a ≠ b → k2 ()) → veq S sig (enc a) (enc b) k1 k2) (h : MapG enc key E L) {x : Fd} {n : Int} (h0 : fstI (fun y => decide (key y = key x)) L 1 = 0) (hz : n = 1 + L.length)
    (hK : ∀ E', MapG enc key E' (L ++ [x]) → K E') : S.mu sig (enc (key x)) (.i .i64 (.y n)) K [] E := by
  have h' := h.put h0
  obtain ⟨ms, hE, hv, hm⟩ := h
  refine mu_g (enc := enc) (a := key x) hS (heq (key x)) hE (by rw [hm]; exact h0) hv fun E' hE' => hK E' ?_
  rw [← hE', hz]; exact h'
end
section
variable {S : Sy} {E : List (SV × SV)} {L : List Fd} {a b : List UInt8} {n : Int}
theorem lkF (hS : S0 Tryd.prog = S) (h : MapG encF id E L) (hn : n = fstI (fun x => decide (id x = (a, b))) L 1) {zero : SV} {K : SV → Bool → Prop} (h1 : n ≠ 0 → K (.i .i64 (.y n)) true) (h2 : n = 0 → K zero false) :
    S.lk ⟨true, [.ks, .ks]⟩ (.ag [.s a, .s b]) K zero E := lkG (enc := encF) (a := (a, b)) hS (eqF' hS) h hn h1 h2
theorem lkN (hS : S0 Tryd.prog = S) (h : MapG SV.s Prod.fst E L) (hn : n = fstI (fun x => decide (x.1 = a)) L 1) {zero : SV} {K : SV → Bool → Prop} (h1 : n ≠ 0 → K (.i .i64 (.y n)) true) (h2 : n = 0 → K zero false) :
    S.lk ⟨false, [.ks]⟩ (.s a) K zero E := lkG (enc := SV.s) (a := a) hS (eqN' hS) h hn h1 h2
theorem muF (hS : S0 Tryd.prog = S) (h : MapG encF id E L) (h0 : fstI (fun x => decide (id x = (a, b))) L 1 = 0) (hz : n = 1 + L.length) {K : List (SV × SV) → Prop} (hK : ∀ E', MapG encF id E' (L ++ [(a, b)]) → K E') :
    S.mu ⟨true, [.ks, .ks]⟩ (.ag [.s a, .s b]) (.i .i64 (.y n)) K [] E := muG (enc := encF) (key := id) (x := (a, b)) hS (eqF' hS) h h0 hz hK
theorem muN (hS : S0 Tryd.prog = S) (h : MapG SV.s Prod.fst E L) (h0 : fstI (fun x => decide (x.1 = a)) L 1 = 0) (hz : n = 1 + L.length) {K : List (SV × SV) → Prop} (hK : ∀ E', MapG SV.s Prod.fst E' (L ++ [(a, b)]) → K E') :
    S.mu ⟨false, [.ks]⟩ (.s a) (.i .i64 (.y n)) K [] E := muG (enc := SV.s) (key := Prod.fst) (x := (a, b)) hS (eqN' hS) h h0 hz hK
end
section
variable {E : List (SV × SV)} {L : List Fd}
theorem MapG.gcF (h : MapG encF id E L) (m : Nat) : gcM m E = true := by
  obtain ⟨ms, h1, -, -⟩ := h
  subst h1
  induction ms with
  | nil => rfl
  | cons p r ih => exact ih
theorem MapG.gcN (h : MapG SV.s Prod.fst E L) (m : Nat) : gcM m E = true := by
  obtain ⟨ms, h1, -, -⟩ := h
  subst h1
  induction ms with
  | nil => rfl
  | cons p r ih => exact ih
end
theorem line_last2 {j : Int} (h1 : j = 19) (l : List Fd) : ∃ (a b : List UInt8), idxI (remT j.toNat) 10 = -1 ∧ cutR (remT j.toNat) = (a, b) ∧ stL[j.toNat]? = some (a, b) ∧ ilen (remT j.toNat) ≤ 300 ∧ idxI (remT j.toNat) 32 < ilen (remT j.toNat) ∧
    fstI (fun x => decide (id x = (a, b))) ((allF l).take j.toNat) 1 = 0 ∧ fstI (fun x => decide (x.1 = a)) ((allF l).take j.toNat) 1 = 0 := by
  subst h1
  unfold allF
  rw [List.take_append_of_le_length (by decide)]
  exact ⟨[117, 115, 101, 114, 45, 97, 103, 101, 110, 116], [], by decide +kernel⟩
theorem find_f {mx n : Int} {l : List Fd} {a b : List UInt8} {t : Bool} (hr : findR l (a, b) = (n, t)) (hm : ilen l ≤ 100000000) : (S0 Tryd.prog).call 34 [tabV mx l, .ag [.s a, .s b]] [] (fun y _ => Sub y (.tp [.i .i64 (.y n), .b t])) := by
  unfold tabV
  generalize hF : cellsF l = F
  obtain ⟨m, hm'⟩ : ∃ m, m = ilen l := ⟨_, rfl⟩
  have h0 := qah l
  unfold findR at hr
  rw [← hm'] at h0 hm ⊢
  generalize hS : S0 Tryd.prog = S
  refine qaa hS I.qzaac ?_
  cbv
  refine qaa hS I.qjz ?_
  cbv
  refine qic hS I.qhi ?_
  cbv
  refine qaa hS I.qfo ?_
  cbv
  refine qaa hS I.qfn ?_
  cbv
  refine qic hS I.qej ?_
  cbv
  refine qad hS ?_ ?_ <;> intro h <;> cbv
  · exfalso; simp at h
  have hc : ilen ([10] : List UInt8) = 1 := rfl
  have hc2 : (([10] : List UInt8).length : Int) = 1 := rfl
  refine qau hS 16 I.qdl (fun x : Int × List UInt8 × List (SV × SV) × List (SV × SV) => 0 ≤ x.1 ∧ x.1 ≤ 19 ∧ x.2.1 = remT x.1.toNat ∧ MapG encF id x.2.2.1 ((allF l).take x.1.toNat) ∧ MapG SV.s Prod.fst x.2.2.2 ((allF l).take x.1.toNat)) (fun _ => [])
    (fun x => [(2, .m x.2.2.1), (3, .m x.2.2.2), (10, .c [.i .i64 (.y x.1)]), (11, .c [.s x.2.1])]) (fun x => (19 - x.1).toNat) (0, remT 0, [], []) rfl
    ⟨⟨Int.le_refl _, by dsimp only; omega, rfl, .nil, .nil⟩, rfl, ?_, ?_, by cbv⟩ ?_
  · cbv; all_goals exact s_sA
  · cbv; all_goals exact s_bA
  intro x
  obtain ⟨j, s, E1, E2⟩ := x
  intro hx
  dsimp only at hx
  cbv
  obtain ⟨k0, k1, k3, g1, g2⟩ := hx
  have hjj : j < 19 ∨ 19 ≤ j := by omega
  rcases hjj with hj | hj
  · obtain ⟨L, c, d, f1, f2, f3, f4, f5, f6, f7, f8, f9⟩ := line_at k0 hj
    rw [← k3] at f1 f2 f3 f7 f9
    have hall := all_st (l := l) f5
    have htn := qdr hall k0
    have hlt : ((allF l).take j.toNat).length = j.toNat := by rw [List.length_take]; have := (List.getElem?_eq_some_iff.1 hall).1; omega
    refine sidx_u hS (c := 10) (by omega) f1 ?_
    generalize hn : ilen L = n1 at *
    have hn0 : 0 ≤ n1 := hn ▸ qah L
    cbv
    repeat' (first
      | (refine s_st hS ?_; try cbv)
      | (refine qad hS ?_ ?_ <;> intro h <;> (try cbv) <;> try exact s_ab h)
      | (refine qal hS ?_; intro _ _; try cbv)
      | (refine qaf hS ?_; try cbv)
      | (refine qaq hS ?_; intro _ _; try cbv)
      | (refine qbs hS ?_; try cbv)
      | (refine qib hS rfl rfl ?_; cbv)
      | fail)
    rename_i r1 hr1 j1 hj1
    have e1 : S.ssub s 0 r1 = L := by
      subst hS
      show (s.take r1.toNat).drop 0 = L
      rw [List.drop_zero, show r1.toNat = L.length by unfold ilen at hn; omega, f2]
    refine cut_u hS (x := S.ssub s 0 r1) (a := c) (b := d) (by rw [e1]; exact f4) (by rw [e1]; omega) (by rw [e1, hn]; exact f8) fun t => ?_
    generalize hT : (allF l).take j.toNat = T at *
    cbv
    refine qib hS rfl rfl ?_
    cbv
    obtain ⟨nf, hnf⟩ : ∃ nf, nf = fstI (fun x => decide (id x = (c, d))) T 1 := ⟨_, rfl⟩
    obtain ⟨nn, hnn⟩ : ∃ nn, nn = fstI (fun x => decide (x.1 = c)) T 1 := ⟨_, rfl⟩
    refine lkF hS g1 hnf (fun q => ?_) (fun q => ?_) <;> cbv
    · have g1' := g1.keep (x := (c, d)) (fun e => q (hnf.trans e))
      refine lkN hS g2 hnn (fun q2 => ?_) (fun q2 => ?_) <;> cbv
      · have g2' := g2.keep (x := (c, d)) (fun e => q2 (hnn.trans e))
        repeat' (first
          | (refine s_st hS ?_; try cbv)
          | (refine qad hS ?_ ?_ <;> intro h <;> (try cbv) <;> try exact s_ab h)
          | (refine qal hS ?_; intro _ _; try cbv)
          | (refine qaf hS ?_; try cbv)
          | (refine qaq hS ?_; intro _ _; try cbv)
          | (refine qbs hS ?_; try cbv)
          | fail)
        rename_i r2 hr2
        refine ⟨(j1, S.ssub s r2 (S.slen s), E1, E2), by dsimp only; omega, ⟨by dsimp only; omega, by dsimp only; omega, ?_, by dsimp only; rw [hj1, htn]; exact g1', by dsimp only; rw [hj1, htn]; exact g2'⟩, rfl, ?_, ?_, by cbv; (have ga := MapG.gcF g1' 16; have gb := MapG.gcN g2' 16; cbv at ga gb; first | rw [ga, gb] | (rw [ga]; rw [gb]))⟩
        · dsimp only
          rw [hj1, ← f3]
          subst hS
          show (s.take s.length).drop r2.toNat = _
          rw [List.take_length, show r2.toNat = L.length + 1 by unfold ilen at hn; omega]
        · cbv; all_goals exact s_sA
        · cbv; all_goals exact s_bA
      · refine muN (b := d) hS g2 (hnn.symm.trans q2) (show j1 = 1 + (T.length : Int) by omega) fun E2' g2' => ?_
        cbv
        repeat' (first
          | (refine s_st hS ?_; try cbv)
          | (refine qad hS ?_ ?_ <;> intro h <;> (try cbv) <;> try exact s_ab h)
          | (refine qal hS ?_; intro _ _; try cbv)
          | (refine qaf hS ?_; try cbv)
          | (refine qaq hS ?_; intro _ _; try cbv)
          | (refine qbs hS ?_; try cbv)
          | fail)
        rename_i r2 hr2
        refine ⟨(j1, S.ssub s r2 (S.slen s), E1, E2'), by dsimp only; omega, ⟨by dsimp only; omega, by dsimp only; omega, ?_, by dsimp only; rw [hj1, htn]; exact g1', by dsimp only; rw [hj1, htn]; exact g2'⟩, rfl, ?_, ?_, by cbv; (have ga := MapG.gcF g1' 16; have gb := MapG.gcN g2' 16; cbv at ga gb; first | rw [ga, gb] | (rw [ga]; rw [gb]))⟩
        · dsimp only
          rw [hj1, ← f3]
          subst hS
          show (s.take s.length).drop r2.toNat = _
          rw [List.take_length, show r2.toNat = L.length + 1 by unfold ilen at hn; omega]
        · cbv; all_goals exact s_sA
        · cbv; all_goals exact s_bA
    · refine muF hS g1 (hnf.symm.trans q) (show j1 = 1 + (T.length : Int) by omega) fun E1' g1' => ?_
      cbv
      refine lkN hS g2 hnn (fun q2 => ?_) (fun q2 => ?_) <;> cbv
      · have g2' := g2.keep (x := (c, d)) (fun e => q2 (hnn.trans e))
        repeat' (first
          | (refine s_st hS ?_; try cbv)
          | (refine qad hS ?_ ?_ <;> intro h <;> (try cbv) <;> try exact s_ab h)
          | (refine qal hS ?_; intro _ _; try cbv)
          | (refine qaf hS ?_; try cbv)
          | (refine qaq hS ?_; intro _ _; try cbv)
          | (refine qbs hS ?_; try cbv)
          | fail)
        rename_i r2 hr2
        refine ⟨(j1, S.ssub s r2 (S.slen s), E1', E2), by dsimp only; omega, ⟨by dsimp only; omega, by dsimp only; omega, ?_, by dsimp only; rw [hj1, htn]; exact g1', by dsimp only; rw [hj1, htn]; exact g2'⟩, rfl, ?_, ?_, by cbv; (have ga := MapG.gcF g1' 16; have gb := MapG.gcN g2' 16; cbv at ga gb; first | rw [ga, gb] | (rw [ga]; rw [gb]))⟩
        · dsimp only
          rw [hj1, ← f3]
          subst hS
          show (s.take s.length).drop r2.toNat = _
          rw [List.take_length, show r2.toNat = L.length + 1 by unfold ilen at hn; omega]
        · cbv; all_goals exact s_sA
        · cbv; all_goals exact s_bA
      · refine muN (b := d) hS g2 (hnn.symm.trans q2) (show j1 = 1 + (T.length : Int) by omega) fun E2' g2' => ?_
        cbv
        repeat' (first
          | (refine s_st hS ?_; try cbv)
          | (refine qad hS ?_ ?_ <;> intro h <;> (try cbv) <;> try exact s_ab h)
          | (refine qal hS ?_; intro _ _; try cbv)
          | (refine qaf hS ?_; try cbv)
          | (refine qaq hS ?_; intro _ _; try cbv)
          | (refine qbs hS ?_; try cbv)
          | fail)
        rename_i r2 hr2
        refine ⟨(j1, S.ssub s r2 (S.slen s), E1', E2'), by dsimp only; omega, ⟨by dsimp only; omega, by dsimp only; omega, ?_, by dsimp only; rw [hj1, htn]; exact g1', by dsimp only; rw [hj1, htn]; exact g2'⟩, rfl, ?_, ?_, by cbv; (have ga := MapG.gcF g1' 16; have gb := MapG.gcN g2' 16; cbv at ga gb; first | rw [ga, gb] | (rw [ga]; rw [gb]))⟩
        · dsimp only
          rw [hj1, ← f3]
          subst hS
          show (s.take s.length).drop r2.toNat = _
          rw [List.take_length, show r2.toNat = L.length + 1 by unfold ilen at hn; omega]
        · cbv; all_goals exact s_sA
        · cbv; all_goals exact s_bA
  · obtain ⟨c, d, f1, f4, f5, f7, f8, f9, f10⟩ := line_last2 (j := j) (by omega) l
    rw [← k3] at f1 f4 f7 f8
    have hall := all_st (l := l) f5
    have htn := qdr hall k0
    have hlt : ((allF l).take j.toNat).length = j.toNat := by rw [List.length_take]; have := (List.getElem?_eq_some_iff.1 hall).1; omega
    generalize hT : (allF l).take j.toNat = T at *
    refine sidx_u hS (c := 10) (by omega) f1 ?_
    cbv
    refine s_br hS ?_ ?_ <;> intro h' <;> cbv <;> simp only [← hS, Int.ofNat_eq_natCast, cq, Bool.not_eq_true', Bool.not_eq_false', decide_eq_true_eq, decide_eq_false_iff_not, beq_iff_eq, beq_eq_false_iff_ne, ne_eq] at h'
    · repeat' (first
      | (refine s_st hS ?_; try cbv)
      | (refine qad hS ?_ ?_ <;> intro h <;> (try cbv) <;> try exact s_ab h)
      | (refine qal hS ?_; intro _ _; try cbv)
      | (refine qaf hS ?_; try cbv)
      | (refine qaq hS ?_; intro _ _; try cbv)
      | (refine qbs hS ?_; try cbv)
      | (refine qib hS rfl rfl ?_; cbv)
      | fail)
      rename_i j1 hj1
      refine cut_u hS (a := c) (b := d) f4 (by omega) f8 fun t => ?_
      cbv
      refine qib hS rfl rfl ?_
      cbv
      obtain ⟨nzf9, hnzf9⟩ : ∃ nz, nz = (0 : Int) := ⟨_, rfl⟩
      refine lkF hS g1 (hnzf9.trans f9.symm) (fun q => ?_) (fun _ => ?_) <;> cbv
      · exact absurd hnzf9 q
      refine muF hS g1 f9 (show j1 = 1 + (T.length : Int) by omega) fun E1' g1' => ?_
      cbv
      obtain ⟨nzf10, hnzf10⟩ : ∃ nz, nz = (0 : Int) := ⟨_, rfl⟩
      refine lkN hS g2 (hnzf10.trans f10.symm) (fun q => ?_) (fun _ => ?_) <;> cbv
      · exact absurd hnzf10 q
      refine muN (b := d) hS g2 f10 (show j1 = 1 + (T.length : Int) by omega) fun E2' g2' => ?_
      cbv
      repeat' (first
        | (refine s_st hS ?_; try cbv)
        | (refine qad hS ?_ ?_ <;> intro h <;> (try cbv) <;> try exact s_ab h)
        | (refine qal hS ?_; intro _ _; try cbv)
        | (refine qaf hS ?_; try cbv)
        | (refine qaq hS ?_; intro _ _; try cbv)
        | (refine qbs hS ?_; try cbv)
        | fail)
      rw [← htn] at g1' g2'
      clear g1 g2 htn hlt hall
      refine qau hS 17 I.qel (fun x : Int × Int × List (SV × SV) × List (SV × SV) => 0 ≤ x.1 ∧ x.1 ≤ m ∧ x.2.1 = x.1 + 20 ∧ MapG encF id x.2.2.1 ((allF l).take x.2.1.toNat) ∧ MapG SV.s Prod.fst x.2.2.2 ((allF l).take x.2.1.toNat)) (fun x => [(29, .i .i64 (.y x.1))]) (fun x => [(2, .m x.2.2.1), (3, .m x.2.2.2), (10, .c [.i .i64 (.y x.2.1)])]) (fun x => (m - x.1).toNat) (0, j1, E1', E2') rfl
        ⟨⟨Int.le_refl _, by dsimp only; omega, by dsimp only; omega, by dsimp only; rw [hj1]; exact g1', by dsimp only; rw [hj1]; exact g2'⟩, rfl, ?_, ?_, by cbv; (have ga := MapG.gcF g1' 17; have gb := MapG.gcN g2' 17; cbv at ga gb; first | rw [ga, gb] | (rw [ga]; rw [gb]))⟩ ?_
      · cbv; all_goals exact s_sA
      · cbv; all_goals exact s_bA
      clear g1' g2'
      intro x
      obtain ⟨q, u, E1, E2⟩ := x
      intro hx
      dsimp only at hx
      cbv
      obtain ⟨q0, q1, q2, g1, g2⟩ := hx
      refine qad hS ?_ ?_ <;> intro h <;> cbv
      · obtain ⟨⟨c, d⟩, hp⟩ := qfe (l := l) (i := q) (by omega) q0
        have hall := all_row q0 q2 hp
        have htn := qdr hall (by omega)
        have hlt : ((allF l).take u.toNat).length = u.toNat := by rw [List.length_take]; have := (List.getElem?_eq_some_iff.1 hall).1; omega
        generalize hT' : (allF l).take u.toNat = T at *
        repeat' (first
          | (refine s_st hS ?_; try cbv)
          | (refine qad hS ?_ ?_ <;> intro h <;> (try cbv) <;> try exact s_ab h)
          | (refine qal hS ?_; intro _ _; try cbv)
          | (refine qaf hS ?_; try cbv)
          | (refine qaq hS ?_; intro _ _; try cbv)
          | (refine qbs hS ?_; try cbv)
          | (refine rowF hS hF hp (by omega) ?_; cbv)
          | fail)
        rename_i u1 hu1
        refine qib hS rfl rfl ?_
        cbv
        obtain ⟨nf, hnf⟩ : ∃ nf, nf = fstI (fun x => decide (id x = (c, d))) T 1 := ⟨_, rfl⟩
        obtain ⟨nn, hnn⟩ : ∃ nn, nn = fstI (fun x => decide (x.1 = c)) T 1 := ⟨_, rfl⟩
        refine lkF hS g1 hnf (fun q => ?_) (fun q => ?_) <;> cbv
        · have g1' := g1.keep (x := (c, d)) (fun e => q (hnf.trans e))
          refine lkN hS g2 hnn (fun q2 => ?_) (fun q2 => ?_) <;> cbv
          · have g2' := g2.keep (x := (c, d)) (fun e => q2 (hnn.trans e))
            repeat' (first
              | (refine s_st hS ?_; try cbv)
              | (refine qad hS ?_ ?_ <;> intro h <;> (try cbv) <;> try exact s_ab h)
              | (refine qal hS ?_; intro _ _; try cbv)
              | (refine qaf hS ?_; try cbv)
              | (refine qaq hS ?_; intro _ _; try cbv)
              | (refine qbs hS ?_; try cbv)
              | fail)
            rename_i q4 hq4
            refine ⟨(q4, u1, E1, E2), by dsimp only; omega, ⟨by dsimp only; omega, by dsimp only; omega, by dsimp only; omega, by dsimp only; rw [hu1, htn]; exact g1', by dsimp only; rw [hu1, htn]; exact g2'⟩, rfl, ?_, ?_, by cbv; (have ga := MapG.gcF g1' 17; have gb := MapG.gcN g2' 17; cbv at ga gb; first | rw [ga, gb] | (rw [ga]; rw [gb]))⟩
            · cbv; all_goals exact s_sA
            · cbv; all_goals exact s_bA
          · refine muN (b := d) hS g2 (hnn.symm.trans q2) (show u1 = 1 + (T.length : Int) by omega) fun E2' g2' => ?_
            cbv
            repeat' (first
              | (refine s_st hS ?_; try cbv)
              | (refine qad hS ?_ ?_ <;> intro h <;> (try cbv) <;> try exact s_ab h)
              | (refine qal hS ?_; intro _ _; try cbv)
              | (refine qaf hS ?_; try cbv)
              | (refine qaq hS ?_; intro _ _; try cbv)
              | (refine qbs hS ?_; try cbv)
              | fail)
            rename_i q4 hq4
            refine ⟨(q4, u1, E1, E2'), by dsimp only; omega, ⟨by dsimp only; omega, by dsimp only; omega, by dsimp only; omega, by dsimp only; rw [hu1, htn]; exact g1', by dsimp only; rw [hu1, htn]; exact g2'⟩, rfl, ?_, ?_, by cbv; (have ga := MapG.gcF g1' 17; have gb := MapG.gcN g2' 17; cbv at ga gb; first | rw [ga, gb] | (rw [ga]; rw [gb]))⟩
            · cbv; all_goals exact s_sA
            · cbv; all_goals exact s_bA
        · refine muF hS g1 (hnf.symm.trans q) (show u1 = 1 + (T.length : Int) by omega) fun E1' g1' => ?_
          cbv
          refine lkN hS g2 hnn (fun q2 => ?_) (fun q2 => ?_) <;> cbv
          · have g2' := g2.keep (x := (c, d)) (fun e => q2 (hnn.trans e))
            repeat' (first
              | (refine s_st hS ?_; try cbv)
              | (refine qad hS ?_ ?_ <;> intro h <;> (try cbv) <;> try exact s_ab h)
              | (refine qal hS ?_; intro _ _; try cbv)
              | (refine qaf hS ?_; try cbv)
              | (refine qaq hS ?_; intro _ _; try cbv)
              | (refine qbs hS ?_; try cbv)
              | fail)
            rename_i q4 hq4
            refine ⟨(q4, u1, E1', E2), by dsimp only; omega, ⟨by dsimp only; omega, by dsimp only; omega, by dsimp only; omega, by dsimp only; rw [hu1, htn]; exact g1', by dsimp only; rw [hu1, htn]; exact g2'⟩, rfl, ?_, ?_, by cbv; (have ga := MapG.gcF g1' 17; have gb := MapG.gcN g2' 17; cbv at ga gb; first | rw [ga, gb] | (rw [ga]; rw [gb]))⟩
            · cbv; all_goals exact s_sA
            · cbv; all_goals exact s_bA
          · refine muN (b := d) hS g2 (hnn.symm.trans q2) (show u1 = 1 + (T.length : Int) by omega) fun E2' g2' => ?_
            cbv
            repeat' (first
              | (refine s_st hS ?_; try cbv)
              | (refine qad hS ?_ ?_ <;> intro h <;> (try cbv) <;> try exact s_ab h)
              | (refine qal hS ?_; intro _ _; try cbv)
              | (refine qaf hS ?_; try cbv)
              | (refine qaq hS ?_; intro _ _; try cbv)
              | (refine qbs hS ?_; try cbv)
              | fail)
            rename_i q4 hq4
            refine ⟨(q4, u1, E1', E2'), by dsimp only; omega, ⟨by dsimp only; omega, by dsimp only; omega, by dsimp only; omega, by dsimp only; rw [hu1, htn]; exact g1', by dsimp only; rw [hu1, htn]; exact g2'⟩, rfl, ?_, ?_, by cbv; (have ga := MapG.gcF g1' 17; have gb := MapG.gcN g2' 17; cbv at ga gb; first | rw [ga, gb] | (rw [ga]; rw [gb]))⟩
            · cbv; all_goals exact s_sA
            · cbv; all_goals exact s_bA
      · have hta : (allF l).take u.toNat = allF l := qbx (by rw [qsz]; omega)
        rw [hta] at g1 g2
        have b1 : (fun x : Fd => x == (a, b)) = fun x => decide (id x = (a, b)) := by funext x; rw [Bool.eq_iff_iff]; simp
        have b2 : (fun x : Fd => x.1 == (a, b).1) = fun x => decide (x.1 = a) := by funext x; rw [Bool.eq_iff_iff]; simp
        rw [b1, b2] at hr
        obtain ⟨nf, hnf⟩ : ∃ nf, nf = fstI (fun x => decide (id x = (a, b))) (allF l) 1 := ⟨_, rfl⟩
        obtain ⟨nn, hnn⟩ : ∃ nn, nn = fstI (fun x => decide (x.1 = a)) (allF l) 1 := ⟨_, rfl⟩
        rw [← hnf, ← hnn] at hr
        refine lkF hS g1 hnf (fun q => ?_) (fun q => ?_) <;> cbv
        · rw [if_pos q] at hr
          cases hr
          repeat' (first
            | (refine s_st hS ?_; try cbv)
            | (refine qad hS ?_ ?_ <;> intro h <;> (try cbv) <;> try exact s_ab h)
            | (refine qal hS ?_; intro _ _; try cbv)
            | (refine qaf hS ?_; try cbv)
            | (refine qaq hS ?_; intro _ _; try cbv)
            | (refine qbs hS ?_; try cbv)
            | fail)
          all_goals exact s_sA
        · rw [if_neg (fun h => h q)] at hr
          refine lkN hS g2 hnn (fun q => ?_) (fun q => ?_) <;> cbv
          · cases hr
            repeat' (first
              | (refine s_st hS ?_; try cbv)
              | (refine qad hS ?_ ?_ <;> intro h <;> (try cbv) <;> try exact s_ab h)
              | (refine qal hS ?_; intro _ _; try cbv)
              | (refine qaf hS ?_; try cbv)
              | (refine qaq hS ?_; intro _ _; try cbv)
              | (refine qbs hS ?_; try cbv)
              | fail)
            all_goals exact s_sA
          · cases hr
            repeat' (first
              | (refine s_st hS ?_; try cbv)
              | (refine qad hS ?_ ?_ <;> intro h <;> (try cbv) <;> try exact s_ab h)
              | (refine qal hS ?_; intro _ _; try cbv)
              | (refine qaf hS ?_; try cbv)
              | (refine qaq hS ?_; intro _ _; try cbv)
              | (refine qbs hS ?_; try cbv)
              | fail)
            all_goals exact s_sA
    · omega
end Tb
end Cz
namespace Cz
open Go Go.RowKit Go.Proofs
namespace Tb
section
variable {S : Sy} {bl : List Blk} {K : SV → List Blk → Prop} {cs : List SV} {mx mx' e n : Int} {l l' : List Fd} {F : List SV} {a b : List UInt8}
theorem qff (hS : S0 Tryd.prog = S) {g : FuncId} {args args' : List SV} {y y' : SV} (hF : (S0 Tryd.prog).call g args' [] (Tell y)) (ha : SubL args args') (hr : refsBL (fun _ => false) args' = true) (hy : Sub y y') (hK : K y' bl) : S.call g args bl K := by
  subst hS
  exact qay (qdb rfl hF ha hr (K := fun x l' => x = y ∧ l' = bl) ⟨rfl, rfl⟩) fun x l' h => ⟨y', h.1 ▸ hy, h.2 ▸ hK⟩
theorem tabE_l (hF : cellsF l' = F) (hn : ilen l' = n) : Sub (tabE mx' l' e) (.tp [.ag [.i .i64 (.l mx'), .v true 2 F (.l n)], .i .i64 (.l e)]) := by
  subst hF hn
  exact qbj (.cons (qfi (.cons (qan rfl) (.cons (qav rfl rfl) .nil))) (.cons (qan rfl) .nil))
theorem new_l (hS : S0 Tryd.prog = S) {most : Z} (hr : newR most.v = ((mx', l'), e)) (hF : cellsF l' = F) (hn : ilen l' = n) (hK : K (.tp [.ag [.i .i64 (.l mx'), .v true 2 F (.l n)], .i .i64 (.l e)]) bl) :
    S.call 19 [.i .i64 most] bl K :=
  qbm hS (qay (new_f hr) fun x _ h => ⟨x, .rfl, h.trans (tabE_l (e := e) hF hn)⟩) (.cons (qan rfl) .nil) rfl rfl hK
theorem add_l (hS : S0 Tryd.prog = S) (hc : TabC [] cs mx l) (hr : addR (mx, l) (a, b) = ((mx', l'), e)) (hF : cellsF l' = F) (hn : ilen l' = n) (hb : fullL l ≤ 10000000) (hs : szF (a, b) ≤ 10000000)
    (hK : K (.tp [.ag [.i .i64 (.l mx'), .v true 2 F (.l n)], .i .i64 (.l e)]) bl) : S.call 28 [.ag cs, .ag [.s a, .s b]] bl K := by
  refine qff hS (add_f hr hb hs) ?_ rfl (tabE_l hF hn) hK
  match hc.sub with
  | .cons h _ => exact .cons h .rfl
theorem res_l (hS : S0 Tryd.prog = S) (hc : TabC [] cs mx l) {most : Z} (hr : resR (mx, l) most.v = ((mx', l'), e)) (hF : cellsF l' = F) (hn : ilen l' = n) (hb : fullL l ≤ 100000000)
    (hK : K (.tp [.ag [.i .i64 (.l mx'), .v true 2 F (.l n)], .i .i64 (.l e)]) bl) : S.call 30 [.ag cs, .i .i64 most] bl K := by
  refine qff hS (res_f hr hb) ?_ rfl (tabE_l hF hn) hK
  match hc.sub with
  | .cons h _ => exact .cons h (.cons (qan rfl) .nil)
theorem find_l (hS : S0 Tryd.prog = S) (hc : TabC bl cs mx l) {t : Bool} (hr : findR l (a, b) = (n, t)) (hm : ilen l ≤ 100000000) (hK : K (.tp [.i .i64 (.l n), ofB t]) bl) : S.call 34 [.ag cs, .ag [.s a, .s b]] bl K :=
  qbu hS (qbi (find_f hr hm)) (hc.fzi .rfl rfl) rfl (by cases t <;> rfl) hK
theorem at_l (hS : S0 Tryd.prog = S) {z : Z} (hc : TabC bl cs mx l) (hr : atR l z.v = ((a, b), e)) (hm : ilen l ≤ 100000000) (hK : K (.tp [.ag [.s a, .s b], .i .i64 (.l e)]) bl) : S.call 32 [.ag cs, .i .i64 z] bl K :=
  qbu hS (qbi (at_f hr hm)) (hc.fzi (qan (b := .y z.v) rfl) rfl) rfl rfl hK
theorem static_l (hS : S0 Tryd.prog = S) {z : Z} {t : Bool} (hr : statR z.v = ((a, b), t)) (hK : K (.tp [.ag [.s a, .s b], ofB t]) bl) : S.call 17 [.i .i64 z] bl K :=
  qbm hS (qbi (static_f hr)) (.cons (qan rfl) .nil) rfl (by cases t <;> rfl) hK
theorem full_l (hS : S0 Tryd.prog = S) (hc : TabC bl cs mx l) (hn : n = fullL l) (h : n ≤ 100000000) (hK : K (.i .i64 (.l n)) bl) : S.call 24 [.ag cs] bl K :=
  qbu hS (qbi (full_f hn h)) hc.fz rfl rfl hK
theorem right_l (hS : S0 Tryd.prog = S) (hc : TabC bl cs mx l) {t : Bool} (ht : rightL mx l = t) (h : fullL l ≤ 100000000) (hK : K (ofB t) bl) : S.call 26 [.ag cs] bl K :=
  qbu hS (qbi (right_f ht h)) hc.fz rfl (by cases t <;> rfl) hK
theorem size_l (hS : S0 Tryd.prog = S) (hn : n = szF (a, b)) (h : n ≤ 1000000000) (hK : K (.i .i64 (.l n)) bl) : S.call 22 [.ag [.s a, .s b]] bl K :=
  qbm hS (qbi (size_f hn h)) .rfl rfl rfl hK
theorem same_l (hS : S0 Tryd.prog = S) {cs' : List SV} {my : Int} {k : List Fd} (hc : TabC bl cs mx l) (hc' : TabC bl cs' my k) {t : Bool} (ht : decide (mx = my ∧ l = k) = t) (hl : ilen l ≤ 100000000) (hk : ilen k ≤ 100000000) (hK : K (ofB t) bl) :
    S.call 36 [.ag cs, .ag cs'] bl K :=
  qbu hS (qbi (same_f ht hl hk)) (fz_two hc.fz hc'.fz rfl rfl) rfl (by cases t <;> rfl) hK
end
abbrev fa : Fd := ([97], [49])
abbrev fb : Fd := ([98], [50])
abbrev fc : Fd := ([99], [51])
theorem qzadx : (S0 Tryd.prog).call 16 [] [] (fun y _ => Sub y .tt) := by
  generalize hS : S0 Tryd.prog = S
  refine qaa hS I.qlp ?_
  cbv
  refine new_l hS (mx' := 100) (l' := []) (e := 0) rfl rfl rfl ?_
  cbv
  refine add_l hS (mx := 100) (l := []) (mx' := 100) (l' := [fa]) (e := 0) (.v rfl rfl rfl) (by decide +kernel) rfl rfl (by decide +kernel) (by decide +kernel) ?_
  cbv
  refine add_l hS (mx := 100) (l := [fa]) (mx' := 100) (l' := [fb, fa]) (e := 0) (.v rfl rfl rfl) (by decide +kernel) rfl rfl (by decide +kernel) (by decide +kernel) ?_
  cbv
  refine add_l hS (mx := 100) (l := [fb, fa]) (mx' := 100) (l' := [fc, fb]) (e := 0) (.v rfl rfl rfl) (by decide +kernel) rfl rfl (by decide +kernel) (by decide +kernel) ?_
  cbv
  refine find_l hS (mx := 100) (l := [fc, fb]) (.v rfl rfl rfl) (n := 1) (t := false) (by decide +kernel) (by decide +kernel) ?_
  cbv
  refine find_l hS (mx := 100) (l := [fc, fb]) (.v rfl rfl rfl) (n := 2) (t := true) (by decide +kernel) (by decide +kernel) ?_
  cbv
  refine find_l hS (mx := 100) (l := [fc, fb]) (.v rfl rfl rfl) (n := 22) (t := true) (by decide +kernel) (by decide +kernel) ?_
  cbv
  refine at_l hS (mx := 100) (l := [fc, fb]) (.v rfl rfl rfl) (a := [99]) (b := [51]) (e := 0) (by decide +kernel) (by decide +kernel) ?_
  cbv
  refine at_l hS (mx := 100) (l := [fc, fb]) (.v rfl rfl rfl) (a := []) (b := []) (e := 90) (by decide +kernel) (by decide +kernel) ?_
  cbv
  refine static_l hS (a := [112, 114, 105, 111, 114, 105, 116, 121]) (b := [117, 61, 49]) (t := true) (by decide +kernel) ?_
  cbv
  refine static_l hS (a := []) (b := []) (t := false) (by decide +kernel) ?_
  cbv
  refine res_l hS (mx := 100) (l := [fc, fb]) (mx' := 40) (l' := [fc]) (e := 0) (.v rfl rfl rfl) (by decide +kernel) rfl rfl (by decide +kernel) ?_
  cbv
  refine new_l hS (mx' := 0) (l' := []) (e := 2) rfl rfl rfl ?_
  cbv
  refine full_l hS (mx := 100) (l := [fa]) (.v rfl rfl rfl) (n := 34) (by decide +kernel) (by decide) ?_
  cbv
  refine full_l hS (mx := 100) (l := [fb, fa]) (.v rfl rfl rfl) (n := 68) (by decide +kernel) (by decide) ?_
  cbv
  refine full_l hS (mx := 100) (l := [fc, fb]) (.v rfl rfl rfl) (n := 68) (by decide +kernel) (by decide) ?_
  cbv
  repeat' (first
    | (refine s_st hS ?_; try cbv)
    | (refine qad hS ?_ ?_ <;> intro h <;> (try cbv) <;> try exact s_ab h)
    | (refine qal hS ?_; intro _ _; try cbv)
    | (refine qaf hS ?_; try cbv)
    | (refine qaq hS ?_; intro _ _; try cbv)
    | (refine qbs hS ?_; try cbv)
    | fail)
  refine right_l hS (mx := 100) (l := [fc, fb]) (.v rfl rfl rfl) (t := true) (by decide +kernel) (by decide +kernel) ?_
  cbv
  refine right_l hS (mx := -1) (l := []) (.nil rfl) (t := false) (by decide +kernel) (by decide +kernel) ?_
  cbv
  refine size_l hS (n := 43) (by decide +kernel) (by decide) ?_
  cbv
  refine same_l hS (mx := 100) (l := [fc, fb]) (my := 100) (k := [fc, fb]) (.v rfl rfl rfl) (.v rfl rfl rfl) (t := true) (by decide +kernel) (by decide +kernel) (by decide +kernel) ?_
  cbv
  refine same_l hS (mx := 100) (l := [fc, fb]) (my := 40) (k := [fc]) (.v rfl rfl rfl) (.v rfl rfl rfl) (t := false) (by decide +kernel) (by decide +kernel) (by decide +kernel) ?_
  cbv
  exact .rfl
theorem qgq {S : Sy} {bl : List Blk} {K : SV → List Blk → Prop} (hS : S0 Tryd.prog = S) (hK : K .tt bl) : S.call 16 [] bl K := qbm hS qzadx .rfl rfl rfl hK
theorem qyr {mx : Int} {l : List Fd} (h0 : 0 ≤ mx) (h1 : mx ≤ 4096) : rightL mx (evL mx l) = true := decide_eq_true ⟨h0, h1, qot h0⟩
end Tb
end Cz
namespace Cz
open Go Go.RowKit Go.Proofs
namespace Tb
section
variable {S : Sy} {bl : List Blk} {K : SV → List Blk → Prop} {cs : List SV} {mx mx' e n : Int} {l l' : List Fd} {F : List SV} {a b : List UInt8}
theorem tabE_g (hF : cellsF l' = F) (hn : n = ilen l') : Sub (tabE mx' l' e) (.tp [.ag [.i .i64 (.y mx'), .v false 2 F (.y n)], .i .i64 (.y e)]) := by
  subst hF hn; exact .rfl
theorem add_g (hS : S0 Tryd.prog = S) (hc : TabC [] cs mx l) (hr : addR (mx, l) (a, b) = ((mx', l'), e)) (hF : cellsF l' = F) (hn : n = ilen l') (hb : fullL l ≤ 10000000) (hs : szF (a, b) ≤ 10000000)
    (hK : K (.tp [.ag [.i .i64 (.y mx'), .v false 2 F (.y n)], .i .i64 (.y e)]) bl) : S.call 28 [.ag cs, .ag [.s a, .s b]] bl K := by
  refine qff hS (add_f hr hb hs) ?_ rfl (tabE_g hF hn) hK
  match hc.sub with
  | .cons h _ => exact .cons h .rfl
theorem radd_g (hS : S0 Tryd.prog = S) (hc : TabC [] cs mx l) (hr : addR (mx, l) (a, b) = ((mx', l'), e)) (hF : cellsF l' = F) (hn : n = ilen l') (hb : fullL l ≤ 1000000) (hs : szF (a, b) ≤ 1000000)
    (hK : K (.tp [.ag [.i .i64 (.y mx'), .v false 2 F (.y n)], .i .i64 (.y e)]) bl) : S.call 29 [.ag cs, .ag [.s a, .s b]] bl K := by
  refine qff hS (radd_f hr hb hs) ?_ rfl (tabE_g hF hn) hK
  match hc.sub with
  | .cons h _ => exact .cons h .rfl
theorem res_g (hS : S0 Tryd.prog = S) (hc : TabC [] cs mx l) {most : Z} (hr : resR (mx, l) most.v = ((mx', l'), e)) (hF : cellsF l' = F) (hn : n = ilen l') (hb : fullL l ≤ 10000000)
    (hK : K (.tp [.ag [.i .i64 (.y mx'), .v false 2 F (.y n)], .i .i64 (.y e)]) bl) : S.call 30 [.ag cs, .i .i64 most] bl K := by
  refine qff hS (res_f hr (by omega)) ?_ rfl (tabE_g hF hn) hK
  match hc.sub with
  | .cons h _ => exact .cons h (.cons (qan rfl) .nil)
theorem rres_g (hS : S0 Tryd.prog = S) (hc : TabC [] cs mx l) {most : Z} (hr : resR (mx, l) most.v = ((mx', l'), e)) (hF : cellsF l' = F) (hn : n = ilen l') (hb : fullL l ≤ 10000000)
    (hK : K (.tp [.ag [.i .i64 (.y mx'), .v false 2 F (.y n)], .i .i64 (.y e)]) bl) : S.call 31 [.ag cs, .i .i64 most] bl K := by
  refine qff hS (rres_f hr hb) ?_ rfl (tabE_g hF hn) hK
  match hc.sub with
  | .cons h _ => exact .cons h (.cons (qan rfl) .nil)
theorem qky (hS : S0 Tryd.prog = S) {z : Z} (hc : TabC bl cs mx l) (hr : atR l z.v = ((a, b), e)) (hl : -9223372036854775808 ≤ z.v) (hu : z.v ≤ 9223372036854775807) (hm : ilen l ≤ 100000000) (hK : K (.tp [.ag [.s a, .s b], .i .i64 (.y e)]) bl) : S.call 33 [.ag cs, .i .i64 z] bl K :=
  qbu hS (rat_f hr hl hu hm) (hc.fzi (qan (b := .y z.v) rfl) rfl) rfl rfl hK
theorem find_g (hS : S0 Tryd.prog = S) {t : Bool} (hc : TabC bl cs mx l) (hr : findR l (a, b) = (n, t)) (hm : ilen l ≤ 100000000) (hK : K (.tp [.i .i64 (.y n), .b t]) bl) : S.call 34 [.ag cs, .ag [.s a, .s b]] bl K :=
  qbu hS (find_f hr hm) (hc.fzi .rfl rfl) rfl rfl hK
theorem rfind_g (hS : S0 Tryd.prog = S) {t : Bool} (hc : TabC bl cs mx l) (hr : findR l (a, b) = (n, t)) (hm : ilen l ≤ 100000000) (hK : K (.tp [.i .i64 (.y n), .b t]) bl) : S.call 35 [.ag cs, .ag [.s a, .s b]] bl K :=
  qbu hS (rfind_f hr hm) (hc.fzi .rfl rfl) rfl rfl hK
theorem qko (hS : S0 Tryd.prog = S) (hc : TabC bl cs mx l) {t : Bool} (ht : rightL mx l = t) (h : fullL l ≤ 100000000) (hK : K (.b t) bl) : S.call 27 [.ag cs] bl K :=
  qbu hS (rright_f ht h) hc.fz rfl rfl hK
theorem size_g (hS : S0 Tryd.prog = S) (hn : n = szF (a, b)) (h : n ≤ 1000000000) (hK : K (.i .i64 (.y n)) bl) : S.call 22 [.ag [.s a, .s b]] bl K :=
  qbm hS (size_f hn h) .rfl rfl rfl hK
theorem qma (hS : S0 Tryd.prog = S) (hn : n = szF (a, b)) (h : n ≤ 1000000000) (hK : K (.i .i64 (.y n)) bl) : S.call 23 [.ag [.s a, .s b]] bl K :=
  qbm hS (rsize_f hn h) .rfl rfl rfl hK
theorem qjk (hS : S0 Tryd.prog = S) {cs' : List SV} (hc : TabC bl cs mx l) (hc' : TabC bl cs' mx l) (hl : ilen l ≤ 100000000) (hK : K .tt bl) : S.call 21 [.ag cs, .ag cs'] bl K :=
  qbu hS (qbi (rsame_f (decide_eq_true ⟨rfl, rfl⟩) hl hl)) (fz_two hc.fz hc'.fz rfl rfl) rfl rfl hK
end
end Tb
end Cz
namespace Cz
open Go Go.RowKit
def Ctx (C : SV → SV) : Prop := ∀ (ρ : Nms) (s : SV) (v : Value), den ρ (C s) v → ∃ u, den ρ s u ∧ ∀ (ρ' : Nms) (s' : SV), den ρ' s' u → den ρ' (C s') v
section
variable {P : Program} {l : List Blk}
theorem call_one {C : SV → SV} (hC : Ctx C) {sz : Nat} {F : List SV} {n : Int} {g : FuncId} {args : List SV}
    (hF : (S0 P).call g args [] (fun x l' => ∃ (j : Nat) (lit : Bool) (st z : Z) (F' : List SV), x = C (.sl j sz (.l 0) z none) ∧ l'[j]? = some (.r false lit st sz F') ∧ plains F' = true ∧ F'.take (z.v.toNat * sz) = F ∧ z.v = n)) :
    (S0 P).call g args [] (fun x l' => ∃ (j : Nat) (z : Z), x = C (.sl j sz (.l 0) z none) ∧ l'[j]? = some (.r false false (.l 0) sz F) ∧ z.v = n) := by
  intro N W0 ρ W vals hR hd
  refine NextR.mono ?_ (hF N W0 ρ W vals hR hd)
  rintro v W' ⟨ρ', x, l', ⟨j, lit, st, z, F', rfl, hB, hp, hFF, hz⟩, hle, hll, hR', hdv⟩
  obtain ⟨u, hu, hback⟩ := hC _ _ _ hdv
  have hj := (List.getElem?_eq_some_iff.1 hB).1
  obtain ⟨hsz, hvs, _, hown⟩ := hR'.blk j _ hB
  obtain ⟨cur, _, _, hown2, _, _⟩ := hown rfl
  simp only [den] at hu
  obtain ⟨h0, h1, vw, hvw, hin, hs⟩ := hu
  have e0 : (Z.l 0).v.toNat = 0 := rfl
  rw [e0] at hs hin
  rw [Nat.zero_add] at hin
  -- the slice's own view
  have key : ∃ vw0 : View, vw0.n = F.length ∧ vw0.n ≤ vw0.cap * sz ∧ (∀ a, vw0.base = some a → vw.base = some a) ∧ ViewOk W' ρ' F vw0 ∧ OwnOk N W' vw0 (vw0.cap * sz) ∧ (0 + z.v.toNat) * sz ≤ vw0.n ∧ SlVal vw0 sz 0 z.v.toNat (Option.map Z.v none) u := by
    have empty : z.v.toNat = 0 → (∃ a', u = .slice a' 0 0) → ∃ vw0 : View, vw0.n = F.length ∧ vw0.n ≤ vw0.cap * sz ∧ (∀ a, vw0.base = some a → vw.base = some a) ∧ ViewOk W' ρ' F vw0 ∧ OwnOk N W' vw0 (vw0.cap * sz) ∧ (0 + z.v.toNat) * sz ≤ vw0.n ∧ SlVal vw0 sz 0 z.v.toNat (Option.map Z.v none) u := by
      intro hz0 ha
      have hF0 : F = [] := by rw [← hFF, hz0]; simp
      subst hF0
      exact ⟨⟨none, 0, 0⟩, rfl, Nat.zero_le _, (fun a h => by cases h), ⟨Nat.zero_le _, fun _ => ⟨rfl, rfl⟩, fun q x hq _ => by simp at hq⟩, (fun a h => by cases h), by rw [hz0]; simp, ⟨rfl, hz0, ha⟩⟩
    have hv := hvs vw hvw
    unfold SlVal at hs
    cases hb : vw.base with
    | none =>
      rw [hb] at hs
      rw [← hb] at *
      exact empty hs.2.1 hs.2.2
    | some a =>
      rw [hb] at hs
      rcases hs with ⟨c, e, hc, hc2, hc3⟩ | ⟨h2, h3, _⟩
      · have hlen : F.length = z.v.toNat * sz := by rw [← hFF, List.length_take]; have := hv.1; omega
        refine ⟨⟨some a, z.v.toNat * sz, c⟩, hlen.symm, Nat.mul_le_mul_right _ hc, fun b h => by rw [← h], ⟨by rw [hlen]; exact Nat.le_refl _, fun h => by (cases h), fun q x hq hx => ?_⟩, ?_, by rw [Nat.zero_add]; exact Nat.le_refl _, ?_⟩
        · have hq' : q < z.v.toNat * sz := hq
          have : F'[q]? = some x := by rw [← hFF, List.getElem?_take_of_lt hq'] at hx; exact hx
          obtain ⟨a', w, g1, g2, g3⟩ := hv.2.2 q x (by omega) this
          rw [hb] at g1
          exact ⟨a', w, g1, g2, g3⟩
        · have hc4 : c = vw.cap := by have h5 : 0 + c = vw.cap := hc3; omega
          intro b hb'
          have := hown2 vw hvw b (by rw [hb]; exact hb')
          rw [hc4]; exact this
        · unfold SlVal
          refine .inl ⟨c, e, hc, by rw [Nat.zero_add]; exact Nat.le_refl _, ?_⟩
          simp only [Option.map_none, Nat.zero_add]
      · exact hb ▸ empty h2 h3
  obtain ⟨vw0, k1, k2, k3, k4, k5, k6, k7⟩ := key
  let ρ2 : Nms := ⟨fun k => if k = j then [vw0] else ρ' k, ρ'.fz, ρ'.q⟩
  have hj2 : ρ2 j = [vw0] := by simp [ρ2]
  have ho2 : ∀ k, k ≠ j → ρ2 k = ρ' k := fun k hk => by simp [ρ2, hk]
  have hpF : plains F = true := by rw [← hFF]; exact qoa fun x hx => qcg hp x (List.mem_of_mem_take hx)
  have hat : ∀ (k : Nat) (B : Blk), ((List.replicate l'.length Blk.dead).set j (.r false false (.l 0) sz F))[k]? = some B → B.wr = true → k = j ∧ B = .r false false (.l 0) sz F := by
    intro k B hk hw
    by_cases e : k = j
    · subst e
      rw [List.getElem?_set_self (by simpa using hj)] at hk
      exact ⟨rfl, (Option.some.inj hk).symm⟩
    · rw [List.getElem?_set_ne (fun h => e h.symm), List.getElem?_replicate] at hk
      split at hk
      · cases hk; cases hw
      · cases hk
  refine ⟨ρ2, C (.sl j sz (.l 0) z none), (List.replicate l'.length Blk.dead).set j (.r false false (.l 0) sz F), ⟨j, z, rfl, ?_, hz⟩, ⟨fun k hk => absurd hk (Nat.not_lt_zero k), hle.fz, hle.fq, hle.q⟩, by simp, ⟨hR'.below, hR'.le, ?_, ?_, ?_, ?_, ?_, hR'.qN, hR'.fin, ?_⟩, ?_⟩
  · rw [List.getElem?_set_self (by simpa using hj)]
  · intro k hk
    simp only [List.length_set, List.length_replicate] at hk
    rw [ho2 k (by omega)]; exact hR'.out k hk
  · intro k vw' a hv ha
    by_cases e : k = j
    · subst e
      rw [hj2, List.mem_singleton] at hv; subst hv
      exact hR'.ids k vw a hvw (k3 a ha)
    · rw [ho2 k e] at hv; exact hR'.ids k vw' a hv ha
  · intro k B hk
    by_cases e : k = j
    · subst e
      rw [List.getElem?_set_self (by simpa using hj)] at hk
      simp only [Option.some.injEq] at hk; subst hk
      refine ⟨hsz, fun vw' hv => ?_, fun _ x hx => qcg hpF x hx, fun _ => ⟨vw0, by rw [hj2]; simp, k1, fun vw' hv => ?_, k2, fun vw' hv => ?_⟩⟩
      · rw [hj2, List.mem_singleton] at hv; subst hv
        exact ViewOk.plain (ρ := ρ') ρ2 (fun _ _ _ h => h) hpF k4
      · rw [hj2, List.mem_singleton] at hv; subst hv; exact k5
      · rw [hj2, List.mem_singleton] at hv; subst hv; exact .inl ⟨rfl, rfl⟩
    · rw [List.getElem?_set_ne (fun h => e h.symm), List.getElem?_replicate] at hk
      split at hk
      · cases hk; trivial
      · cases hk
  · intro k k' B vw1 vw2 a a' hB' hw hne hv hv' ha ha'
    obtain ⟨rfl, _⟩ := hat k B hB' hw
    rw [hj2, List.mem_singleton] at hv; subst hv
    rw [ho2 k' (fun e => hne e.symm)] at hv'
    exact hR'.sep k k' _ vw vw2 a a' hB rfl hne hvw hv' (k3 a ha) ha'
  · intro k B vw1 a hB' hw hv ha
    obtain ⟨rfl, _⟩ := hat k B hB' hw
    rw [hj2, List.mem_singleton] at hv; subst hv
    exact hR'.own k _ vw a hB rfl hvw (k3 a ha)
  · intro k B vw1 a hB' hw hv ha o
    obtain ⟨rfl, _⟩ := hat k B hB' hw
    rw [hj2, List.mem_singleton] at hv; subst hv
    exact hR'.fsep k _ vw a hB rfl hvw (k3 a ha) o
  · refine hback ρ2 _ ?_
    simp only [den]
    exact ⟨h0, h1, vw0, by rw [hj2]; simp, by rw [e0]; exact k6, by rw [e0]; exact k7⟩
end
section
variable {P : Program} {l : List Blk}
theorem use_one {S : Sy} (hS : S0 P = S) {C : SV → SV} (hC : Ctx C) (hCz : ∀ (l' : List Blk) (j m : Nat) (z z' : Z) (sz : Nat), z.v = z'.v → Fz l' (fun i => m + i) [some j] (C (.sl j sz (.l 0) z none)) (C (.sl m sz (.l 0) z' none))) {sz : Nat} {F : List SV} {n : Int} {g : FuncId} {args args' : List SV} {K : SV → List Blk → Prop}
    (hF : (S0 P).call g args' [] (fun x l' => ∃ (j : Nat) (lit : Bool) (st z : Z) (F' : List SV), x = C (.sl j sz (.l 0) z none) ∧ l'[j]? = some (.r false lit st sz F') ∧ plains F' = true ∧ F'.take (z.v.toNat * sz) = F ∧ z.v = n)) (ha : SubL args args')
    (hr : refsBL (fun _ => false) args' = true) (hsz : 0 < sz) (hp : plains F = true) (hK : K (C (.sl (len l) sz (.l 0) (.y n) none)) (snoc l (.r false false (.y 0) sz F))) : S.call g args l K := by
  subst hS
  refine qpa ha (qxy (Z := fun sts => sts 0 = 0) (rows := [(sz, F)]) (y := fun m => C (.sl m sz (.l 0) (.y n) none)) (qay (call_one hC hF) fun x l' h => ⟨x, .rfl, ?_⟩) hr ⟨⟨hsz, hp⟩, trivial⟩ fun sts hz => ?_)
  · obtain ⟨j, z, rfl, hj, hz⟩ := h
    refine ⟨[some j], ⟨⟨_, _, _, hj, .rfl⟩, rfl, trivial⟩, fun m => hCz l' j m z (.y n) sz hz, ?_⟩
    simp only [stsOf, List.getElem?_cons_zero, hj]
    rfl
  · have : rowBs sts [(sz, F)] 0 = [.r false false (.y 0) sz F] := by simp only [rowBs, hz]
    rw [this]
    rw [qby, qbr] at hK
    exact hK
end
end Cz
namespace Cz
open Go Go.RowKit Go.Proofs
namespace Pa
def upP (w : Int) : Int := if w = 1 then 64 else if w = 2 then 16 else 0
def bitP (w : Int) : Int := if w = 1 then 6 else 4
def powP (w : Int) : Int := if w = 1 then 64 else 16
theorem of_f {w u k : Int} (hu : u = upP w) (hk : k = bitP w) : (S0 Tryd.prog).call 70 [.i .i64 (.y w)] [] (fun y _ => Sub y (.ag [.i .i64 (.y u), .i .i64 (.y k)])) := by
  generalize hS : S0 Tryd.prog = S
  refine qaa hS I.qzadd ?_
  cbv
  refine qaa hS I.qwl ?_
  cbv
  refine qyn hS rfl I.qpg (by decide +kernel) ?_
  cbv
  refine ⟨?_, ?_⟩ <;> cbv
  all_goals
    repeat' (first
      | (refine qbl hS rfl ?_; try cbv)
      | (refine s_ck hS ?_; try cbv)
      | (refine qad hS ?_ ?_ <;> intro h <;> (try cbv) <;> try exact s_ab h)
      | (refine s_ad hS ?_; intro _ _; try cbv)
      | (refine s_sb hS ?_; intro _ _; try cbv)
      | (refine qaq hS ?_; intro _ _; try cbv)
      | (refine qaf hS ?_; try cbv)
      | (refine qbk hS ?_; try cbv)
      | (refine s_lk hS ?_; try cbv)
      | (refine s_mu hS ?_; try cbv)
      | fail)
    all_goals exact qfi (.cons (qan (by simp only [Z.v]; rw [hu]; unfold upP; split <;> (try split) <;> omega)) (.cons (qan (by simp only [Z.v]; rw [hk]; unfold bitP; split <;> omega)) .nil))
theorem of_u {S : Sy} {bl : List Blk} {K : SV → List Blk → Prop} (hS : S0 Tryd.prog = S) {z : Z} {w : Int} (hz : z.v = w) (hK : ∀ u k, u = upP w → k = bitP w → K (.ag [.i .i64 (.y u), .i .i64 (.y k)]) bl) : S.call 70 [.i .i64 z] bl K :=
  qbm hS (of_f (w := w) rfl rfl) (.cons (qan hz) .nil) rfl rfl (hK _ _ rfl rfl)
theorem repS_len (z : List SV) : ∀ n, (repS n z).length = n * z.length
  | 0 => by simp [repS]
  | n + 1 => by rw [repS, qdh, List.length_append, repS_len z n, Nat.add_mul]; omega
theorem qpi {z : List SV} (h : plains z = true) : ∀ n, plains (repS n z) = true
  | 0 => rfl
  | n + 1 => by rw [repS, qdh]; exact qid h (qpi h n)
theorem s_mkg {S : Sy} {zero : List SV} {n c : Int} {K : List SV → Prop} (hS : S0 Tryd.prog = S) (hc : n = c) (h0 : 0 ≤ n) (h1 : n ≤ 65536) (hz : plains zero = true) (h : ∀ F, F.length = n.toNat * zero.length → plains F = true → K F) : S.mkr zero n c K :=
  s_mk hS hc h0 h1 (qpi hz _) (h _ (repS_len _ _) (qpi hz _))
theorem grow_f {n : Int} (h0 : 0 < n) (h1 : n ≤ 65536) : (S0 Tryd.prog).call 87 [.re (.slice none 0 0), .i .i64 (.y n)] [] (fun x l' => ∃ (j : Nat) (lit : Bool) (st z : Z) (F' : List SV), x = (.sl j 1 (.l 0) z none) ∧ l'[j]? = some (.r false lit st 1 F') ∧ plains F' = true ∧ F'.take (z.v.toNat * 1) = [] ∧ z.v = 0) := by
  generalize hS : S0 Tryd.prog = S
  refine qaa hS I.qfp ?_
  cbv
  repeat' (first
    | (refine qbl hS rfl ?_; try cbv)
    | (refine s_ck hS ?_; try cbv)
    | (refine qad hS ?_ ?_ <;> intro h <;> (try cbv) <;> try exact s_ab h)
    | (refine s_ad hS ?_; intro _ _; try cbv)
    | (refine s_sb hS ?_; intro _ _; try cbv)
    | (refine qaq hS ?_; intro _ _; try cbv)
    | (refine qaf hS ?_; try cbv)
    | (refine s_mkg hS rfl (by omega) (by omega) rfl fun F hF hp => ?_; cbv)
    | (refine qbk hS ?_; try cbv)
    | (refine s_lk hS ?_; try cbv)
    | (refine s_mu hS ?_; try cbv)
    | fail)
  exact ⟨0, false, .l 0, .l 0, F, rfl, rfl, hp, rfl, rfl⟩
theorem grow_u {S : Sy} {bl : List Blk} {K : SV → List Blk → Prop} (hS : S0 Tryd.prog = S) {z : Z} (h0 : 0 < z.v) (h1 : z.v ≤ 65536) (hK : K (.sl (len bl) 1 (.l 0) (.y 0) none) (snoc bl (.r false false (.y 0) 1 []))) : S.call 87 [.re (.slice none 0 0), .i .i64 z] bl K :=
  use_one hS (C := fun s => s) (fun ρ s v d => ⟨v, d, fun _ _ d' => d'⟩) (fun l' j m z z' sz h => .keep (i := 0) rfl rfl h) (grow_f h0 h1) (.cons .rfl (.cons (qan rfl) .nil)) rfl (by decide) rfl hK
theorem tell_own {g : FuncId} {args : List SV} {F : List SV} {n : Int} (hF : (S0 Tryd.prog).call g args [] (OwnR 0 1 F false [])) (hpl : plains F = true) (hn : n * 1 = F.length) : (S0 Tryd.prog).call g args [] (Tell (.v false 1 F (.y n))) := by
  refine qay hF fun x l' ⟨y, hs, hr⟩ => ⟨y, hs, ?_⟩
  rcases hr with ⟨rfl, rfl⟩ | ⟨k, m, lit, st, F', _, rfl, hB, hsub, hp, hm⟩
  · exact fun g => .nil (by decide) (by simp only [Z.v]; simpa using hn)
  · have hmn : m.v = n := by omega
    have hl : F'.length = F.length := hsub.1
    have e : (F'.drop ((Z.l 0).v.toNat * 1)).take (m.v.toNat * 1) = F' := by
      rw [show (Z.l 0).v.toNat * 1 = 0 from rfl, List.drop_zero, List.take_of_length_le (by omega)]
    exact fun g => .row hB rfl (.fsub (by rw [e]; exact hsub) hpl) hpl hmn
end Pa
end Cz
