/- Huff, part L: the document's codes. -/
import Derived.Test.YtjnpmipoenijdaaH2
namespace Cz
open Go Go.RowKit Go.Proofs
set_option linter.unusedSimpArgs false
set_option linter.unusedVariables false
set_option maxRecDepth 100000
set_option maxHeartbeats 4000000
def satI (x : List UInt8) (i : Int) : Int := (x.getD i.toNat 0).toNat
theorem sat_eq {P : Program} {x : List UInt8} {i : Int} : (S0 P).sat x i = satI x i := rfl
theorem satI_bd (x : List UInt8) (i : Int) : 0 ≤ satI x i ∧ satI x i < 256 := by
  unfold satI
  have := (x.getD i.toNat 0).toNat_lt
  omega
theorem sat_iff {x : List UInt8} {i : Nat} {c : Int} (h0 : 0 ≤ c) (h : c < 256) : satI x i = c ↔ (x.getD i 0 == c.toNat.toUInt8) = true := by
  unfold satI
  rw [Int.toNat_natCast, beq_iff_eq]
  constructor
  · intro e
    apply UInt8.toNat_inj.1
    rw [UInt8.toNat_ofNat', ← e, Int.toNat_natCast]
    have := (x.getD i 0).toNat_lt
    omega
  · intro e
    rw [e]
    simp only [Nat.toUInt8, UInt8.toNat_ofNat']
    omega
theorem idx_found {x : List UInt8} {c j : Int} (h0 : 0 ≤ c) (h : c < 256) (hj0 : 0 ≤ j) (hj : j < ilen x) (hn : ∀ i : Nat, (i : Int) < j → satI x i ≠ c) (he : satI x j = c) : idxI x c = j := by
  unfold idxI
  have : (List.range x.length).find? (fun i => x.getD i 0 == c.toNat.toUInt8) = some j.toNat := by
    rw [List.find?_range_eq_some]
    have he' : (x.getD j.toNat 0 == c.toNat.toUInt8) = true := (sat_iff h0 h).1 (by rw [Int.toNat_of_nonneg hj0]; exact he)
    refine ⟨he', by simp only [List.mem_range]; unfold ilen at hj; omega, ?_⟩
    intro i hi
    have h1 := hn i (by omega)
    rw [Ne, sat_iff h0 h] at h1
    simpa using h1
  rw [this]
  show ((j.toNat : Nat) : Int) = j
  omega
theorem idx_none {x : List UInt8} {c : Int} (h0 : 0 ≤ c) (h : c < 256) (hn : ∀ i : Nat, (i : Int) < ilen x → satI x i ≠ c) : idxI x c = -1 := by
  unfold idxI
  have : (List.range x.length).find? (fun i => x.getD i 0 == c.toNat.toUInt8) = none := by
    rw [List.find?_eq_none]
    intro i hi
    simp only [List.mem_range] at hi
    have h1 := hn i (by unfold ilen; omega)
    rw [Ne, sat_iff h0 h] at h1
    exact h1
  rw [this]
theorem nc (n : Nat) : NatCast.natCast n = (n : Int) := rfl
theorem place_f {x : List UInt8} {c r : Int} (hx : ilen x ≤ 1000) (h0 : 0 ≤ c) (hc : c < 256) (hr : idxI x c = r) : (S0 Try.prog).call 42 [.s x, .i .u8 (.y c)] [] (fun y _ => Sub y (.i .i64 (.y r))) := by
  have hnx : (S0 Try.prog).slen x = ilen x := rfl
  rw [slen_eq] at hnx
  have hx0 := ilen_nn x
  generalize hS : S0 Try.prog = S
  refine call_in' hS I.fn_causeyref07_place ?_
  cbv
  refine s_loop_up hS 0 I.dead_causeyref07_place_0 (fun j : Int => 0 ≤ j ∧ j ≤ ilen x ∧ ∀ i : Nat, (i : Int) < j → satI x i ≠ c)
    (fun j => [(5, .i .i64 (.y j))]) (fun _ => []) (fun j => (ilen x - j).toNat) 0 rfl ⟨⟨Int.le_refl _, by omega, fun i hi => by omega⟩, rfl, ?_, ?_, by cbv⟩ ?_
  · cbv; all_goals exact s_sA
  · cbv; all_goals exact s_bA
  intro j hj
  cbv
  obtain ⟨g0, g1, g2'⟩ := hj
  have g2 : ∀ i : Nat, (i : Int) < j → satI x i ≠ c := g2'
  repeat' (first
    | (refine s_st hS ?_; try cbv)
    | (refine s_sbr hS ?_ ?_ <;> intro h <;> (try cbv) <;> try exact s_ab h)
    | (refine s_sta hS ?_; intro _ _; try cbv)
    | (refine s_stc hS ?_; try cbv))
  · refine sub_i ?_
    rw [sat_eq] at h
    simp only [Z.v]
    rw [← hr]; exact (idx_found h0 hc g0 (by omega) g2 h).symm
  · rw [sat_eq] at h
    rename_i j2 hj2
    have g3 : ∀ i : Nat, (i : Int) < j2 → satI x i ≠ c := by
      intro i hi
      rcases Int.lt_or_le i j with hl | hl
      · exact g2 i hl
      · have e : (i : Int) = j := by omega
        rw [e]; exact h
    refine ⟨j2, by omega, ⟨by omega, by omega, g3⟩, rfl, ?_, ?_, by cbv⟩
    · cbv; all_goals exact s_sA
    · cbv; all_goals exact s_bA
  · refine sub_i ?_
    simp only [Z.v]
    have g2 : ∀ i : Nat, (i : Int) < j → satI x i ≠ c := g2'
    simp only [nc] at *
    rw [← hr]; exact (idx_none h0 hc fun i hi => g2 i (by omega)).symm
theorem place_u {S : Sy} (hS : S0 Try.prog = S) {l : List Blk} {K : SV → List Blk → Prop} {x : List UInt8} {c : Z} (hx : ilen x ≤ 1000) (h0 : 0 ≤ c.v) (h : c.v < 256) (hK : ∀ r, idxI x c.v = r → K (.i .i64 (.y r)) l) :
    S.call 42 [.s x, .i .u8 c] l K :=
  use_val hS (place_f (c := c.v) hx h0 h rfl) (.cons .rfl (.cons (sub_i rfl) .nil)) rfl rfl (hK _ rfl)
def w18 : List UInt8 := [45, 47, 48, 49, 50, 51, 97, 99, 101, 105, 110, 111, 114, 115, 116, 117, 46, 52, 53, 54, 55, 56, 57, 58, 98, 100, 102, 103, 104, 108, 109, 112, 65, 66, 67, 68, 69, 70, 71, 72, 106, 107, 113, 118, 119, 120, 121, 122]
theorem w18_all : (List.range 256).all (fun n => has w18 n == !(Hu.cls n == 11)) = true := by decide +kernel
theorem w18_at {c : Int} (h0 : 0 ≤ c) (h : c < 256) : (Hu.cls c.toNat = 11 ∧ idxI w18 c < 0) ∨ (Hu.cls c.toNat ≠ 11 ∧ 0 ≤ idxI w18 c) := by
  obtain ⟨n, rfl⟩ : ∃ n : Nat, c = n := ⟨c.toNat, by omega⟩
  have h1 := List.all_eq_true.1 w18_all n (by simp; omega)
  simp only [Int.toNat_natCast] at *
  by_cases e : Hu.cls n = 11
  · exact .inl ⟨e, idxI_no (by simpa [e] using h1)⟩
  · exact .inr ⟨e, idxI_has (by rw [beq_iff_eq] at h1; rw [h1]; simp [e])⟩
theorem idx_all : (List.range 256).all (fun n => (!(Hu.cls n == 5) || (idxI w5 n == (Hu.codeOf n : Int))) && ((!(Hu.cls n == 6) || (32 + idxI w6 n == (Hu.codeOf n : Int))) && (!(Hu.cls n == 7) || (96 + idxI w7 n == (Hu.codeOf n : Int))))) = true := by decide +kernel
theorem idx_code {c : Int} (h0 : 0 ≤ c) (h : c < 256) : (Hu.cls c.toNat = 5 → idxI w5 c = codeI c) ∧ (Hu.cls c.toNat = 6 → 32 + idxI w6 c = codeI c) ∧ (Hu.cls c.toNat = 7 → 96 + idxI w7 c = codeI c) := by
  obtain ⟨n, rfl⟩ : ∃ n : Nat, c = n := ⟨c.toNat, by omega⟩
  have h1 := List.all_eq_true.1 idx_all n (by simp; omega)
  simp only [Bool.and_eq_true, Bool.or_eq_true, Bool.not_eq_true', beq_eq_false_iff_ne, beq_iff_eq] at h1
  unfold codeI
  simp only [Int.toNat_natCast] at *
  exact ⟨fun e => h1.1.resolve_left (by simp [e]), fun e => h1.2.1.resolve_left (by simp [e]), fun e => h1.2.2.resolve_left (by simp [e])⟩
theorem others_f {c r : Int} (h0 : 0 ≤ c) (hc : c < 256) (hr : cntI 11 c = r) : (S0 Try.prog).call 43 [.i .u8 (.y c)] [] (fun y _ => Sub y (.i .i64 (.y r))) := by
  generalize hS : S0 Try.prog = S
  refine call_in' hS I.fn_causeyref07_others ?_
  cbv
  refine s_loop_up hS 0 I.dead_causeyref07_others_0 (fun x : Int × Int => 0 ≤ x.1 ∧ x.1 ≤ c ∧ x.2 = cntI 11 x.1)
    (fun x => [(4, .i .i64 (.y x.1)), (3, .i .i64 (.y x.2))]) (fun _ => []) (fun x => (c - x.1).toNat) (0, 0) rfl ⟨⟨Int.le_refl _, by dsimp only; omega, rfl⟩, rfl, ?_, ?_, by cbv⟩ ?_
  · cbv; all_goals exact s_sA
  · cbv; all_goals exact s_bA
  intro x
  obtain ⟨j, w⟩ := x
  intro hx
  dsimp only at hx
  cbv
  obtain ⟨g0, g1, g2⟩ := hx
  have hw : 0 ≤ w ∧ w ≤ j := by rw [g2]; exact cntI_bd g0
  refine s_cvi hS ?_ (by simp only [lo]; omega) (by simp only [hi]; omega)
  cbv
  refine s_sbr hS ?_ ?_ <;> intro h <;> cbv
  · repeat' (first
    | (refine s_st hS ?_; try cbv)
    | (refine s_sbr hS ?_ ?_ <;> intro h <;> (try cbv) <;> try exact s_ab h)
    | (refine s_sta hS ?_; intro _ _; try cbv)
    | (refine s_stc hS ?_; try cbv))
    rcases w18_at g0 (by omega) with ⟨e, hq⟩ | ⟨e, hq⟩
    · refine place_u hS (by decide) g0 (by simp only [Z.v]; omega) fun r18 h18 => ?_
      replace h18 : r18 < 0 := by rw [← h18]; exact hq
      cbv
      repeat' (first
        | (refine s_st hS ?_; try cbv)
        | (refine s_sbr hS ?_ ?_ <;> intro h <;> (try cbv) <;> try exact s_ab h)
        | (refine s_sta hS ?_; intro _ _; try cbv)
        | (refine s_stc hS ?_; try cbv))
      rename_i w2 hw2 j2 hj2
      have n11 := cntI_next (m := 11) g0
      rw [if_pos e, ← hj2] at n11
      have g2 : w = cntI 11 j := g2
      refine ⟨(j2, w2), by dsimp only; omega, ⟨by dsimp only; omega, by dsimp only; omega, by dsimp only; omega⟩, rfl, ?_, ?_, by cbv⟩
      · cbv; all_goals exact s_sA
      · cbv; all_goals exact s_bA
    · refine place_u hS (by decide) g0 (by simp only [Z.v]; omega) fun r18 h18 => ?_
      replace h18 : 0 ≤ r18 := by rw [← h18]; exact hq
      cbv
      repeat' (first
        | (refine s_st hS ?_; try cbv)
        | (refine s_sbr hS ?_ ?_ <;> intro h <;> (try cbv) <;> try exact s_ab h)
        | (refine s_sta hS ?_; intro _ _; try cbv)
        | (refine s_stc hS ?_; try cbv))
      rename_i j2 hj2
      have n11 := cntI_next (m := 11) g0
      rw [if_neg e, ← hj2] at n11
      have g2 : w = cntI 11 j := g2
      refine ⟨(j2, w), by dsimp only; omega, ⟨by dsimp only; omega, by dsimp only; omega, by dsimp only; omega⟩, rfl, ?_, ?_, by cbv⟩
      · cbv; all_goals exact s_sA
      · cbv; all_goals exact s_bA
  · refine sub_i ?_
    simp only [Z.v]
    rw [← hr, g2, show j = c by omega]
theorem others_u {S : Sy} (hS : S0 Try.prog = S) {l : List Blk} {K : SV → List Blk → Prop} {c : Z} (h0 : 0 ≤ c.v) (h : c.v < 256) (hK : ∀ r, cntI 11 c.v = r → K (.i .i64 (.y r)) l) :
    S.call 43 [.i .u8 c] l K :=
  use_val hS (others_f (c := c.v) h0 h rfl) (.cons (sub_i rfl) .nil) rfl rfl (hK _ rfl)
theorem rCode_f {c a m : Int} (h0 : 0 ≤ c) (hc : c < 256) (ha : codeI c = a) (hm : clsI c = m) : (S0 Try.prog).call 14 [.i .u8 (.y c)] [] (fun x _ => Sub x (.tp [.i .i64 (.y a), .i .i64 (.y m)])) := by
  obtain ⟨x5, x6, x7⟩ := idx_code h0 hc
  have cb := codeI_bd ⟨h0, hc⟩
  rw [ha] at x5 x6 x7 cb
  generalize hS : S0 Try.prog = S
  refine call_in' hS I.fn_causeyref07_Code ?_
  cbv
  rcases idx_at h0 hc with ⟨e, i5, i6, i7⟩ | ⟨e, i5, i6, i7⟩ | ⟨e, i5, i6, i7⟩ | ⟨e, i5, i6, i7⟩
  · have x5 := x5 e
    have em : m = 5 := by rw [← hm]; unfold clsI; rw [e]; rfl
    refine place_u hS (by decide) h0 hc fun r h => ?_
    replace h : r = idxI w5 c := h.symm
    cbv
    repeat' (first
      | (refine s_st hS ?_; try cbv)
      | (refine s_sbr hS ?_ ?_ <;> intro h <;> (try cbv) <;> try exact s_ab h)
      | (refine s_sta hS ?_; intro _ _; try cbv)
      | (refine s_stc hS ?_; try cbv))
    refine place_u hS (by decide) h0 hc fun s h => ?_
    replace h : s = idxI w5 c := h.symm
    cbv
    all_goals exact s_sA
  · have x6 := x6 e
    have em : m = 6 := by rw [← hm]; unfold clsI; rw [e]; rfl
    refine place_u hS (by decide) h0 hc fun r h => ?_
    replace h : r = idxI w5 c := h.symm
    cbv
    repeat' (first
      | (refine s_st hS ?_; try cbv)
      | (refine s_sbr hS ?_ ?_ <;> intro h <;> (try cbv) <;> try exact s_ab h)
      | (refine s_sta hS ?_; intro _ _; try cbv)
      | (refine s_stc hS ?_; try cbv))
    refine place_u hS (by decide) h0 hc fun r h => ?_
    replace h : r = idxI w6 c := h.symm
    cbv
    repeat' (first
      | (refine s_st hS ?_; try cbv)
      | (refine s_sbr hS ?_ ?_ <;> intro h <;> (try cbv) <;> try exact s_ab h)
      | (refine s_sta hS ?_; intro _ _; try cbv)
      | (refine s_stc hS ?_; try cbv))
    refine place_u hS (by decide) h0 hc fun s h => ?_
    replace h : s = idxI w6 c := h.symm
    cbv
    repeat' (first
      | (refine s_st hS ?_; try cbv)
      | (refine s_sbr hS ?_ ?_ <;> intro h <;> (try cbv) <;> try exact s_ab h)
      | (refine s_sta hS ?_; intro _ _; try cbv)
      | (refine s_stc hS ?_; try cbv))
    all_goals exact s_sA
  · have x7 := x7 e
    have em : m = 7 := by rw [← hm]; unfold clsI; rw [e]; rfl
    refine place_u hS (by decide) h0 hc fun r h => ?_
    replace h : r = idxI w5 c := h.symm
    cbv
    repeat' (first
      | (refine s_st hS ?_; try cbv)
      | (refine s_sbr hS ?_ ?_ <;> intro h <;> (try cbv) <;> try exact s_ab h)
      | (refine s_sta hS ?_; intro _ _; try cbv)
      | (refine s_stc hS ?_; try cbv))
    refine place_u hS (by decide) h0 hc fun r h => ?_
    replace h : r = idxI w6 c := h.symm
    cbv
    repeat' (first
      | (refine s_st hS ?_; try cbv)
      | (refine s_sbr hS ?_ ?_ <;> intro h <;> (try cbv) <;> try exact s_ab h)
      | (refine s_sta hS ?_; intro _ _; try cbv)
      | (refine s_stc hS ?_; try cbv))
    refine place_u hS (by decide) h0 hc fun r h => ?_
    replace h : r = idxI w7 c := h.symm
    cbv
    repeat' (first
      | (refine s_st hS ?_; try cbv)
      | (refine s_sbr hS ?_ ?_ <;> intro h <;> (try cbv) <;> try exact s_ab h)
      | (refine s_sta hS ?_; intro _ _; try cbv)
      | (refine s_stc hS ?_; try cbv))
    refine place_u hS (by decide) h0 hc fun s h => ?_
    replace h : s = idxI w7 c := h.symm
    cbv
    repeat' (first
      | (refine s_st hS ?_; try cbv)
      | (refine s_sbr hS ?_ ?_ <;> intro h <;> (try cbv) <;> try exact s_ab h)
      | (refine s_sta hS ?_; intro _ _; try cbv)
      | (refine s_stc hS ?_; try cbv))
    all_goals exact s_sA
  · have x11 : a = 1792 + cntI 11 c := by rw [← ha, codeI_eq e]; rfl
    have em : m = 11 := by rw [← hm]; unfold clsI; rw [e]; rfl
    refine place_u hS (by decide) h0 hc fun r h => ?_
    replace h : r = idxI w5 c := h.symm
    cbv
    repeat' (first
      | (refine s_st hS ?_; try cbv)
      | (refine s_sbr hS ?_ ?_ <;> intro h <;> (try cbv) <;> try exact s_ab h)
      | (refine s_sta hS ?_; intro _ _; try cbv)
      | (refine s_stc hS ?_; try cbv))
    refine place_u hS (by decide) h0 hc fun r h => ?_
    replace h : r = idxI w6 c := h.symm
    cbv
    repeat' (first
      | (refine s_st hS ?_; try cbv)
      | (refine s_sbr hS ?_ ?_ <;> intro h <;> (try cbv) <;> try exact s_ab h)
      | (refine s_sta hS ?_; intro _ _; try cbv)
      | (refine s_stc hS ?_; try cbv))
    refine place_u hS (by decide) h0 hc fun r h => ?_
    replace h : r = idxI w7 c := h.symm
    cbv
    repeat' (first
      | (refine s_st hS ?_; try cbv)
      | (refine s_sbr hS ?_ ?_ <;> intro h <;> (try cbv) <;> try exact s_ab h)
      | (refine s_sta hS ?_; intro _ _; try cbv)
      | (refine s_stc hS ?_; try cbv))
    refine others_u hS h0 hc fun s h => ?_
    replace h : s = cntI 11 c := h.symm
    cbv
    repeat' (first
      | (refine s_st hS ?_; try cbv)
      | (refine s_sbr hS ?_ ?_ <;> intro h <;> (try cbv) <;> try exact s_ab h)
      | (refine s_sta hS ?_; intro _ _; try cbv)
      | (refine s_stc hS ?_; try cbv))
    all_goals exact s_sA
theorem rCode_u {S : Sy} (hS : S0 Try.prog = S) {l : List Blk} {K : SV → List Blk → Prop} {c : Z} (h0 : 0 ≤ c.v) (h : c.v < 256) (hK : ∀ a m, codeI c.v = a → clsI c.v = m → K (.tp [.i .i64 (.y a), .i .i64 (.y m)]) l) :
    S.call 14 [.i .u8 c] l K :=
  use_val hS (rCode_f (c := c.v) h0 h rfl rfl) (.cons (sub_i rfl) .nil) rfl rfl (hK _ _ rfl rfl)
theorem Code_u {S : Sy} (hS : S0 Try.prog = S) {l : List Blk} {K : SV → List Blk → Prop} {c : Z} (h0 : 0 ≤ c.v) (h : c.v < 256) (hK : ∀ a m, codeI c.v = a → clsI c.v = m → K (.tp [.i .i64 (.y a), .i .i64 (.y m)]) l) :
    S.call 13 [.i .u8 c] l K :=
  use_val hS (Code_f (c := c.v) h0 h rfl rfl) (.cons (sub_i rfl) .nil) rfl rfl (hK _ _ rfl rfl)
theorem Of_u {S : Sy} (hS : S0 Try.prog = S) {l : List Blk} {K : SV → List Blk → Prop} {a m : Z} (hK : ∀ r b, findR a.v m.v = r → findB a.v m.v = b → K (.tp [.i .u8 (.y r), .b b]) l) :
    S.call 15 [.i .i64 a, .i .i64 m] l K :=
  use_val hS (Of_f (a := a.v) (m := m.v) rfl rfl) (.cons (sub_i rfl) (.cons (sub_i rfl) .nil)) rfl rfl (hK _ _ rfl rfl)
theorem find_at {a m i : Int} (h0 : 0 ≤ i) (h : i < 256) (h1 : codeI i = a) (h2 : clsI i = m) : findR a m = i ∧ findB a m = true := by
  have : findO a m = some i.toNat := by
    unfold findO codeI clsI at *
    rw [← h1, ← h2, if_pos ⟨by omega, by omega⟩]
    simp only [Int.toNat_natCast]
    exact Hu.find_code (by omega)
  unfold findR findB
  rw [this]
  refine ⟨?_, rfl⟩
  show ((i.toNat : Nat) : Int) = i
  omega
theorem find_not {a m : Int} (h : ∀ i : Int, 0 ≤ i → i < 256 → ¬(codeI i = a ∧ clsI i = m)) : findR a m = 0 ∧ findB a m = false := by
  have : findO a m = none := by
    cases hf : findO a m with
    | none => rfl
    | some c => obtain ⟨h1, h2, h3⟩ := findO_some hf; exact absurd ⟨h2, h3⟩ (h c (by omega) (by omega))
  unfold findR findB
  rw [this]; exact ⟨rfl, rfl⟩
theorem rOf_f {a m r : Int} {b : Bool} (hr : findR a m = r) (hb : findB a m = b) : (S0 Try.prog).call 16 [.i .i64 (.y a), .i .i64 (.y m)] [] (fun x _ => Sub x (.tp [.i .u8 (.y r), .b b])) := by
  generalize hS : S0 Try.prog = S
  refine call_in' hS I.fn_causeyref07_Of ?_
  cbv
  refine s_loop_up hS 0 I.dead_causeyref07_Of_0 (fun j : Int => 0 ≤ j ∧ j ≤ 256 ∧ ∀ i : Int, 0 ≤ i → i < j → ¬(codeI i = a ∧ clsI i = m))
    (fun j => [(6, .i .i64 (.y j))]) (fun _ => []) (fun j => (256 - j).toNat) 0 rfl ⟨⟨Int.le_refl _, by omega, fun i h h' => by omega⟩, rfl, ?_, ?_, by cbv⟩ ?_
  · cbv; all_goals exact s_sA
  · cbv; all_goals exact s_bA
  intro j hj
  cbv
  obtain ⟨g0, g1, g2⟩ := hj
  refine s_sbr hS ?_ ?_ <;> intro h <;> cbv
  · repeat' (first
    | (refine s_st hS ?_; try cbv)
    | (refine s_sbr hS ?_ ?_ <;> intro h <;> (try cbv) <;> try exact s_ab h)
    | (refine s_sta hS ?_; intro _ _; try cbv)
    | (refine s_stc hS ?_; try cbv)
    | (refine rCode_u hS g0 (by simp only [Z.v]; omega) fun x y hx hy => ?_; cbv))
    · rename_i e1 e2
      have hf := find_at (a := a) (m := m) g0 (by assumption) (hx.trans (by assumption)) (hy.trans (by assumption))
      have e1 : r = j := by rw [← hr, hf.1]
      have e2 : b = true := by rw [← hb, hf.2]
      all_goals exact s_sA
    · rename_i e1 j2 hj2
      refine ⟨j2, by omega, ⟨by omega, by omega, fun i h0 h1 => ?_⟩, rfl, ?_, ?_, by cbv⟩
      · rcases Int.lt_or_le i j with hl | hl
        · exact g2 i h0 hl
        · obtain rfl : i = j := by omega
          rintro ⟨e3, e4⟩
          exact absurd (hy.symm.trans e4) (by assumption)
      · cbv; all_goals exact s_sA
      · cbv; all_goals exact s_bA
    · rename_i j2 hj2
      refine ⟨j2, by omega, ⟨by omega, by omega, fun i h0 h1 => ?_⟩, rfl, ?_, ?_, by cbv⟩
      · rcases Int.lt_or_le i j with hl | hl
        · exact g2 i h0 hl
        · obtain rfl : i = j := by omega
          rintro ⟨e3, e4⟩
          exact absurd (hx.symm.trans e3) (by assumption)
      · cbv; all_goals exact s_sA
      · cbv; all_goals exact s_bA
  · have := find_not (a := a) (m := m) fun i h0 h1 => g2 i h0 (by omega)
    have e1 : r = 0 := by rw [← hr, this.1]
    have e2 : b = false := by rw [← hb, this.2]
    all_goals exact s_sA
end Cz
/- Huff, part M: how many bits by the document; which is shorter; the document's bits. -/
namespace Cz
open Go Go.RowKit Go.Proofs
set_option linter.unusedSimpArgs false
set_option linter.unusedVariables false
set_option maxRecDepth 100000
set_option maxHeartbeats 4000000
theorem s_quo {S : Sy} {k : IntKind} {a b : Int} {K : Int → Prop} (hS : S0 Try.prog = S) (h0 : 0 ≤ a) (hb : 0 < b) (h1 : a ≤ Cz.hi k) (h : ∀ r, r = a / b → K r) : S.ar .quo k a b K := by
  refine s_are hS _ ?_ (h _ rfl)
  show k.wrap (a.tdiv b) = _
  rw [Int.tdiv_eq_ediv_of_nonneg h0]
  have h2 := Int.ediv_nonneg h0 (by omega : 0 ≤ b)
  have h3 := Int.ediv_le_self b h0
  exact wrap_id (by have := lo_bits k; omega) (by omega)
theorem s_rem {S : Sy} {k : IntKind} {a b : Int} {K : Int → Prop} (hS : S0 Try.prog = S) (h0 : 0 ≤ a) (h : ∀ r, r = a % b → K r) : S.ar .rem k a b K := by
  refine s_are hS _ ?_ (h _ rfl)
  show a.tmod b = _
  exact Int.tmod_eq_emod_of_nonneg h0
theorem rBits_f {b : List Int} {r : Int} (hb : Hu.BOk b) (hn : ilen b ≤ 1000000) (hr : bitsI b (ilen b) = r) :
    (S0 Try.prog).call 20 [.sl 0 1 (.l 0) (.y (ilen b)) none] [.r true true (.l 0) 1 (cellsB b)] (fun x _ => Sub x (.i .i64 (.y r))) := by
  obtain ⟨n, hn'⟩ : ∃ n, n = ilen b := ⟨_, rfl⟩
  have h0n := ilen_nn b
  rw [← hn'] at hn h0n hr ⊢
  have hpl := cellsB_plain b
  generalize hF : cellsB b = F at hpl ⊢
  generalize hS : S0 Try.prog = S
  refine call_in' hS I.fn_causeyref07_Bits ?_
  cbv
  refine s_loop_up hS 1 I.dead_causeyref07_Bits_0 (fun x : Int × Int => 0 ≤ x.1 ∧ x.1 ≤ n ∧ x.2 = bitsI b x.1)
    (fun x => [(4, .i .i64 (.y x.1)), (3, .i .i64 (.y x.2))]) (fun x => [])
    (fun x => (n - x.1).toNat) (0, 0) rfl ⟨⟨Int.le_refl _, by dsimp only; omega, rfl⟩, rfl, ?_, ?_, ?_⟩ ?_
  · cbv; all_goals exact s_sA
  · cbv; all_goals exact s_bA
  · cbv; exact gc_c (gc_m (plains_refs hpl)) rfl
  · intro x
    obtain ⟨j, w⟩ := x
    intro hx
    dsimp only at hx
    cbv
    obtain ⟨g0, g1, g2⟩ := hx
    repeat' (first
      | (refine s_st hS ?_; try cbv)
      | (refine s_sbr hS ?_ ?_ <;> intro h <;> (try cbv) <;> try exact s_ab h)
      | (refine s_sta hS ?_; intro _ _; try cbv)
      | (refine s_stc hS ?_; try cbv))
    · obtain ⟨v, hv⟩ := at_ex (l := b) (i := j) (by omega) (by omega)
      have hb0 := hb v (List.mem_of_getElem? hv)
      obtain ⟨m, hm⟩ : ∃ m, clsI v = m := ⟨_, rfl⟩
      have hmb := clsI_bd v
      rw [hm] at hmb
      have hbd := bitsI_bd (b := b) g0
      have hnx := bitsI_next hv g0
      rw [hm] at hnx
      repeat' (first
        | (refine s_st hS ?_; try cbv)
        | (refine s_sbr hS ?_ ?_ <;> intro h <;> (try cbv) <;> try exact s_ab h)
        | (refine s_sta hS ?_; intro _ _; try cbv)
        | (refine s_stc hS ?_; try cbv)
        | (refine rowB hS hF hv rfl (by omega) ?_; try cbv)
        | (refine rCode_u hS hb0.1 hb0.2 fun a m' ha hm' => ?_; obtain rfl : m' = m := hm'.symm.trans hm; cbv))
      rename_i w2 hw2 j2 hj2
      refine ⟨(j2, w2), by dsimp only; omega, ⟨by dsimp only; omega, by dsimp only; omega, by dsimp only; rw [hj2, hnx]; omega⟩, rfl, ?_, ?_, ?_⟩
      · cbv; all_goals exact s_sA
      · cbv; all_goals exact s_bA
      · cbv; exact gc_c (gc_m (plains_refs hpl)) rfl
    · have e : w = r := by rw [← hr, g2, show j = n by omega]
      all_goals exact s_sA
def shortB (b : List Int) : Bool := decide ((bitsI b (ilen b) + 7) / 8 < ilen b)
theorem Shorter_f {b : List Int} {t : Bool} (hb : Hu.BOk b) (hn : ilen b ≤ 1000000) (ht : shortB b = t) :
    (S0 Try.prog).call 24 [.sl 0 1 (.l 0) (.y (ilen b)) none] [.r true true (.l 0) 1 (cellsB b)] (fun x _ => Sub x (.b t)) := by
  have hB := Bits_f hb hn rfl
  obtain ⟨r, hr⟩ : ∃ r, bitsI b (ilen b) = r := ⟨_, rfl⟩
  have hrb := bitsI_bd (b := b) (ilen_nn b)
  obtain ⟨n, hn'⟩ : ∃ n, ilen b = n := ⟨_, rfl⟩
  have h0n := ilen_nn b
  have ht' : t = decide ((r + 7) / 8 < n) := by rw [← ht, ← hr, ← hn']; rfl
  rw [hr] at hrb hB
  rw [hn'] at hn h0n hrb hB ⊢
  have hpl := cellsB_plain b
  generalize hF : cellsB b = F at hpl hB ⊢
  generalize hS : S0 Try.prog = S
  refine call_in' hS I.fn_huff_Shorter ?_
  cbv
  refine use_read hS id hB .rfl rfl ⟨⟨true, .l 0, 1, F, true, true, .l 0, F, rfl, hpl, rfl, .rfl⟩, trivial⟩ rfl ?_
  cbv
  repeat' (first
    | (refine s_st hS ?_; try cbv)
    | (refine s_sbr hS ?_ ?_ <;> intro h <;> (try cbv) <;> try exact s_ab h)
    | (refine s_sta hS ?_; intro _ _; try cbv)
    | (refine s_stc hS ?_; try cbv)
    | (refine s_shrl hS (c := 8) rfl ?_; intro _ _; cbv))
  rename_i e
  refine sub_b ?_
  simp only [← hS, Int.ofNat_eq_natCast, cq, Bool.not_eq_true', Bool.not_eq_false', decide_eq_true_eq, decide_eq_false_iff_not, beq_iff_eq, beq_eq_false_iff_ne, ne_eq]
  rw [ht']
  congr 2
  omega
theorem rShorter_f {b : List Int} {t : Bool} (hb : Hu.BOk b) (hn : ilen b ≤ 1000000) (ht : shortB b = t) :
    (S0 Try.prog).call 25 [.sl 0 1 (.l 0) (.y (ilen b)) none] [.r true true (.l 0) 1 (cellsB b)] (fun x _ => Sub x (.b t)) := by
  have hB := rBits_f hb hn rfl
  obtain ⟨r, hr⟩ : ∃ r, bitsI b (ilen b) = r := ⟨_, rfl⟩
  have hrb := bitsI_bd (b := b) (ilen_nn b)
  obtain ⟨n, hn'⟩ : ∃ n, ilen b = n := ⟨_, rfl⟩
  have h0n := ilen_nn b
  have ht' : t = decide ((r + 7) / 8 < n) := by rw [← ht, ← hr, ← hn']; rfl
  rw [hr] at hrb hB
  rw [hn'] at hn h0n hrb hB ⊢
  have hpl := cellsB_plain b
  generalize hF : cellsB b = F at hpl hB ⊢
  generalize hS : S0 Try.prog = S
  refine call_in' hS I.fn_causeyref07_Shorter ?_
  cbv
  refine use_read hS id hB .rfl rfl ⟨⟨true, .l 0, 1, F, true, true, .l 0, F, rfl, hpl, rfl, .rfl⟩, trivial⟩ rfl ?_
  cbv
  repeat' (first
    | (refine s_st hS ?_; try cbv)
    | (refine s_sbr hS ?_ ?_ <;> intro h <;> (try cbv) <;> try exact s_ab h)
    | (refine s_sta hS ?_; intro _ _; try cbv)
    | (refine s_stc hS ?_; try cbv)
    | (refine s_quo hS (by omega) (by omega) (by simp only [hi]; omega) ?_; intro _ _; cbv))
  rename_i e
  refine sub_b ?_
  simp only [← hS, Int.ofNat_eq_natCast, cq, Bool.not_eq_true', Bool.not_eq_false', decide_eq_true_eq, decide_eq_false_iff_not, beq_iff_eq, beq_eq_false_iff_ne, ne_eq]
  rw [ht']
  congr 2
  omega
def shrI (v k : Int) : Int := v / 2 ^ k.toNat
def bitB (b : List Int) (i : Int) : Bool := okI b i 1
def bitR (b : List Int) (i : Int) : Int := if bitB b i then bitI b i else 0
theorem Bit_f {b : List Int} {i r : Int} {t : Bool} (hb : Hu.BOk b) (hn : ilen b ≤ 1000000) (hi64 : i ≤ 9223372036854775807) (hr : bitR b i = r) (ht : bitB b i = t) :
    (S0 Try.prog).call 26 [.sl 0 1 (.l 0) (.y (ilen b)) none, .i .i64 (.y i)] [.r true true (.l 0) 1 (cellsB b)] (fun x _ => Sub x (.tp [.i .i64 (.y r), .b t])) := by
  obtain ⟨n, hn'⟩ : ∃ n, n = ilen b := ⟨_, rfl⟩
  have h0n := ilen_nn b
  rw [← hn'] at hn h0n ⊢
  have hpl := cellsB_plain b
  generalize hF : cellsB b = F at hpl ⊢
  generalize hS : S0 Try.prog = S
  refine call_in' hS I.fn_causeyref01_Bit ?_
  cbv
  repeat' (first
    | (refine s_st hS ?_; try cbv)
    | (refine s_sbr hS ?_ ?_ <;> intro h <;> (try cbv) <;> try exact s_ab h)
    | (refine s_sta hS ?_; intro _ _; try cbv)
    | (refine s_stc hS ?_; try cbv)
    | (refine s_quo hS (by omega) (by omega) (by simp only [hi]; omega) ?_; intro _ _; cbv))
  · have e2 : t = false := by rw [← ht]; exact okI_f (.inl h)
    have e1 : r = 0 := by rw [← hr]; unfold bitR; rw [ht, e2]; rfl
    all_goals exact s_sA
  · have e2 : t = false := by rw [← ht]; exact okI_f (.inr (by omega))
    have e1 : r = 0 := by rw [← hr]; unfold bitR; rw [ht, e2]; rfl
    all_goals exact s_sA
  · have e2 : t = true := by rw [← ht]; exact okI_t (by omega) (by omega)
    have e1 : r = bitI b i := by rw [← hr]; unfold bitR; rw [ht, e2]; rfl
    rename_i q1 hq1 q hq
    obtain ⟨v, hv⟩ := at_ex (l := b) (i := q) (by omega) (by omega)
    have hb0 := hb v (List.mem_of_getElem? hv)
    repeat' (first
      | (refine s_st hS ?_; try cbv)
      | (refine s_sbr hS ?_ ?_ <;> intro h <;> (try cbv) <;> try exact s_ab h)
      | (refine s_sta hS ?_; intro _ _; try cbv)
      | (refine s_stc hS ?_; try cbv)
      | (refine rowB hS hF hv rfl (by omega) ?_; try cbv))
    obtain ⟨sh, hsh⟩ : ∃ sh, sh = 7 - i % 8 := ⟨_, rfl⟩
    refine s_loop_up hS 1 I.dead_causeyref01_Bit_0 (fun x : Int × Int => 0 ≤ x.1 ∧ x.1 ≤ sh ∧ x.2 = shrI v x.1)
      (fun x => [(7, .i .i64 (.y x.1)), (6, .i .i64 (.y x.2))]) (fun x => [])
      (fun x => (sh - x.1).toNat) (0, v) rfl ⟨⟨Int.le_refl _, by dsimp only; omega, by simp [shrI]⟩, rfl, ?_, ?_, ?_⟩ ?_
    · cbv; all_goals exact s_sA
    · cbv; all_goals exact s_bA
    · cbv; exact gc_c (gc_m (plains_refs hpl)) rfl
    · intro x
      obtain ⟨k, w⟩ := x
      intro hx
      dsimp only at hx
      cbv
      obtain ⟨g0, g1, g2⟩ := hx
      unfold shrI at g2
      have hw : 0 ≤ w ∧ w < 256 := by
        rw [g2]
        have h1 := Int.ediv_nonneg hb0.1 (by have := pow_pos' k.toNat; omega : (0 : Int) ≤ 2 ^ k.toNat)
        have h2 := Int.ediv_le_self ((2 : Int) ^ k.toNat) hb0.1
        omega
      have hw2 : w / 2 = shrI v (k + 1) := by
        unfold shrI
        rw [g2, Int.ediv_ediv_of_nonneg (by have := pow_pos' k.toNat; omega), show (k + 1).toNat = k.toNat + 1 by omega, Int.pow_succ]
      have hend : k = sh → bitI b i = w % 2 := fun e => bit_of hv hb (by omega) hq (j := k) (by omega) (by rw [g2])
      clear g2
      repeat' (first
        | (refine s_st hS ?_; try cbv)
        | (refine s_sbr hS ?_ ?_ <;> intro h <;> (try cbv) <;> try exact s_ab h)
        | (refine s_sta hS ?_; intro _ _; try cbv)
        | (refine s_stc hS ?_; try cbv)
        | (refine s_rem hS (by omega) ?_; intro _ _; cbv)
        | (refine s_quo hS (by omega) (by omega) (by simp only [hi]; omega) ?_; intro _ _; cbv))
      · rename_i w2 hw2' k2 hk2
        refine ⟨(k2, w2), by dsimp only; omega, ⟨by dsimp only; omega, by dsimp only; omega, ?_⟩, rfl, ?_, ?_, ?_⟩
        · dsimp only; rw [hw2', hk2]; exact hw2
        · cbv; all_goals exact s_sA
        · cbv; all_goals exact s_bA
        · cbv; exact gc_c (gc_m (plains_refs hpl)) rfl
      · have := hend (by omega)
        all_goals exact s_sA
theorem Bit_u {S : Sy} (hS : S0 Try.prog = S) {b : List Int} {F : List SV} {n : Int} {zi : Z} {k : Nat} {ro lit : Bool} {st : Z} {l : List Blk} {K : SV → List Blk → Prop} (hb : Hu.BOk b) (hn : ilen b ≤ 1000000) (hn' : n = ilen b) (hF : cellsB b = F)
    (hrow : lget l k = .r ro lit st 1 F) (i : Int) (hzi : zi.v = i) (h0 : 0 ≤ i) (h8 : i < 8 * n) (h1 : ∀ r, bitI b i = r → K (.tp [.i .i64 (.y r), .tt]) l) :
    S.call 26 [.sl k 1 (.l 0) (.y n) none, .i .i64 zi] l K := by
  subst hn' hF hzi
  have hB : bitB b zi.v = true := okI_t h0 (by omega)
  have hf := Bit_f (b := b) (i := zi.v) hb hn (by omega) rfl rfl
  refine use_read hS (fun _ => k) (sv := .tp [.i .i64 (.y (bitI b zi.v)), .tt]) (call_post hf fun x l' hx => ⟨x, .rfl, hx.trans (sub_tp (.cons (sub_i ?_) (.cons (sub_b_tt hB) .nil)))⟩) (.cons .rfl (.cons (sub_i rfl) .nil)) rfl ⟨⟨_, _, _, _, _, _, _, _, rfl, cellsB_plain b, hrow, .rfl⟩, trivial⟩ rfl (h1 _ rfl)
  unfold bitR; rw [hB]; rfl
theorem rBitsO_f {b : List Int} {i k r : Int} {t : Bool} (hb : Hu.BOk b) (hn : ilen b ≤ 1000000) (hr : oBitsR b i k = r) (ht : oBitsB b i k = t) :
    (S0 Try.prog).call 27 [.sl 0 1 (.l 0) (.y (ilen b)) none, .i .i64 (.y i), .i .i64 (.y k)] [.r true true (.l 0) 1 (cellsB b)] (fun x _ => Sub x (.tp [.i .i64 (.y r), .b t])) := by
  obtain ⟨n, hn'⟩ : ∃ n, n = ilen b := ⟨_, rfl⟩
  have hnb := hn
  have h0n := ilen_nn b
  have hyes : 0 ≤ k → k ≤ 30 → 0 ≤ i → i + k ≤ 8 * n → t = true ∧ r = numI b i k := by
    intro h1 h2 h3 h4
    have e2 : t = true := by
      rw [← ht]; unfold oBitsB
      split
      · simp; omega
      · rw [if_neg (by omega)]; exact okI_t h3 (by omega)
    exact ⟨e2, by rw [← hr]; unfold oBitsR; rw [ht, e2]; rfl⟩
  have hno : (k < 0 ∨ 30 < k ∨ i < 0 ∨ 8 * n < i + k ∨ 8 * n < i) → t = false ∧ r = 0 := by
    intro h1
    have e2 : t = false := by
      rw [← ht]; unfold oBitsB
      split
      · rename_i hk; simp; omega
      · split
        · rfl
        · exact okI_f (by omega)
    exact ⟨e2, by rw [← hr]; unfold oBitsR; rw [ht, e2]; rfl⟩
  rw [← hn'] at hn h0n ⊢
  have hpl := cellsB_plain b
  generalize hF : cellsB b = F at hpl ⊢
  generalize hS : S0 Try.prog = S
  refine call_in' hS I.fn_causeyref01_Bits ?_
  cbv
  repeat' (first
    | (refine s_st hS ?_; try cbv)
    | (refine s_sbr hS ?_ ?_ <;> intro h <;> (try cbv) <;> try exact s_ab h)
    | (refine s_sta hS ?_; intro _ _; try cbv)
    | (refine s_stc hS ?_; try cbv)
    | (refine s_mul hS ?_ (by simp only [lo]; omega) (by simp only [hi]; omega); intro _ _; try cbv))
  · obtain ⟨e2, e1⟩ := hno (by omega); all_goals exact s_sA
  · obtain ⟨e2, e1⟩ := hno (by omega); all_goals exact s_sA
  · obtain ⟨e2, e1⟩ := hno (by omega); all_goals exact s_sA
  · obtain ⟨e2, e1⟩ := hno (by omega); all_goals exact s_sA
  · obtain ⟨e2, e1⟩ := hno (by omega); all_goals exact s_sA
  · obtain ⟨e2, e1⟩ := hyes (by omega) (by omega) (by omega) (by omega)
    refine s_loop_up hS 1 I.dead_causeyref01_Bits_0 (fun x : Int × Int => 0 ≤ x.1 ∧ x.1 ≤ k ∧ x.2 = numI b i x.1)
      (fun x => [(9, .i .i64 (.y x.1)), (8, .i .i64 (.y x.2))]) (fun x => [])
      (fun x => (k - x.1).toNat) (0, 0) rfl ⟨⟨Int.le_refl _, by dsimp only; omega, by simp [numI_zero]⟩, rfl, ?_, ?_, ?_⟩ ?_
    · cbv; all_goals exact s_sA
    · cbv; all_goals exact s_bA
    · cbv; exact gc_c (gc_m (plains_refs hpl)) rfl
    · intro x
      obtain ⟨j, w⟩ := x
      intro hx
      dsimp only at hx
      cbv
      obtain ⟨g0, g1, g2⟩ := hx
      have hw : 0 ≤ w ∧ w < 1073741824 := by rw [g2]; exact numI_bd (by omega)
      repeat' (first
        | (refine s_st hS ?_; try cbv)
        | (refine s_sbr hS ?_ ?_ <;> intro h <;> (try cbv) <;> try exact s_ab h)
        | (refine s_sta hS ?_; intro _ _; try cbv)
        | (refine s_stc hS ?_; try cbv)
        | (refine Bit_u hS hb hnb hn' hF rfl (i + j) (by simp only [Z.v]; omega) (by omega) (by omega) fun u hu => ?_; have hu1 := bitI_bd b (i + j); rw [hu] at hu1; cbv)
        | (refine s_mul hS ?_ (by simp only [lo]; omega) (by simp only [hi]; omega); intro _ _; try cbv))
      · rename_i w1 hw1 w2 hw2 j2 hj2
        have hnx := numI_next (b := b) (i := i) (k := j) (by omega) g0 (by omega)
        refine ⟨(j2, w2), by dsimp only; omega, ⟨by dsimp only; omega, by dsimp only; omega, ?_⟩, rfl, ?_, ?_, ?_⟩
        · dsimp only; rw [hj2, hnx, hu, ← g2]; omega
        · cbv; all_goals exact s_sA
        · cbv; all_goals exact s_bA
        · cbv; exact gc_c (gc_m (plains_refs hpl)) rfl
      · have e3 : w = r := by rw [e1, g2, show j = k by omega]
        all_goals exact s_sA
/-! ### Whether texts are the same -/
def strB (l : List Int) : List UInt8 := l.map fun v => v.toNat.toUInt8
theorem s_bs {S : Sy} (hS : S0 Try.prog = S) {l : List Int} {F : List SV} {n : Int} {K : List UInt8 → Prop} (hb : Hu.BOk l) (hF : cellsB l = F) (hn : n = ilen l) (h : K (strB l)) : S.bs F 0 n K := by
  subst hS hF hn
  refine ⟨Int.le_refl _, ilen_nn l, strB l, ⟨by simp [strB, ilen], ?_⟩, h⟩
  intro q c hc
  unfold strB at hc
  rw [List.getElem?_map, Option.map_eq_some_iff] at hc
  obtain ⟨v, hv, rfl⟩ := hc
  refine ⟨.y v, ?_, ?_⟩
  · rw [show (0 : Int).toNat + q = q by simp]; exact cellsB_get hv
  · have := hb v (List.mem_of_getElem? hv)
    simp only [Z.v, Nat.toUInt8, UInt8.toNat_ofNat']
    omega
theorem Same_f {a b : List Int} (ha : Hu.BOk a) (hb : Hu.BOk b) (hab : a = b) :
    (S0 Try.prog).call 21 [.sl 0 1 (.l 0) (.y (ilen a)) none, .sl 1 1 (.l 0) (.y (ilen b)) none] [.r true true (.l 0) 1 (cellsB a), .r true true (.l 0) 1 (cellsB b)] (fun x _ => Sub x .tt) := by
  obtain ⟨n, hn⟩ : ∃ n, n = ilen a := ⟨_, rfl⟩
  obtain ⟨m, hm⟩ : ∃ m, m = ilen b := ⟨_, rfl⟩
  rw [← hn, ← hm]
  generalize hF : cellsB a = F
  generalize hG : cellsB b = G
  generalize hS : S0 Try.prog = S
  have hs : strB a = strB b := by rw [hab]
  generalize hx : strB a = x at hs
  generalize hy : strB b = y at hs
  refine call_in' hS I.fn_causeyref01_Same ?_
  cbv
  refine s_bs hS ha hF hn ?_
  rw [hx]
  cbv
  refine s_bs hS hb hG hm ?_
  rw [hy, ← hs]
  cbv
  refine sub_b_tt ?_
  simp only [← hS, Int.ofNat_eq_natCast, cq, Bool.not_eq_true', Bool.not_eq_false', decide_eq_true_eq, decide_eq_false_iff_not, beq_iff_eq, beq_eq_false_iff_ne, ne_eq]
end Cz
/- Huff, part N: bits laid behind bits, plain. -/
namespace Cz
open Go Go.RowKit Go.Proofs
set_option linter.unusedSimpArgs false
set_option linter.unusedVariables false
set_option maxRecDepth 100000
set_option maxHeartbeats 4000000
/-- So many bytes of these bits, noughts behind them. -/
def layN (N : Nat) (E : List Bool) : List Int := Hu.packs N (E ++ List.replicate (8 * N - E.length) false)
/-- Bytes of these bits. -/
def layB (E : List Bool) : List Int := layN ((E.length + 7) / 8) E
theorem layN_len (N : Nat) (E : List Bool) : ilen (layN N E) = N := by unfold layN ilen; rw [Hu.packs_len]
theorem layN_ok (N : Nat) (E : List Bool) : Hu.BOk (layN N E) := Hu.packs_ok _ _
theorem layB_len (E : List Bool) : ilen (layB E) = ((E.length + 7) / 8 : Nat) := layN_len _ _
theorem packs_get : ∀ (N : Nat) (X : List Bool) (j : Nat), j < N → (Hu.packs N X)[j]? = some ((Hu.valB ((X.drop (8 * j)).take 8) : Nat) : Int)
  | 0, _, _, h => by omega
  | N + 1, X, 0, _ => by simp [Hu.packs]
  | N + 1, X, j + 1, h => by
    simp only [Hu.packs, List.getElem?_cons_succ]
    rw [packs_get N _ j (by omega), List.drop_drop, show 8 + 8 * j = 8 * (j + 1) by omega]
theorem valB_set : ∀ (Y : List Bool) (q : Nat) (b : Bool), q < Y.length → Y[q]? = some false → Hu.valB (Y.set q b) = Hu.valB Y + b.toNat * 2 ^ (Y.length - 1 - q)
  | [], q, _, h, _ => by simp at h
  | y :: Y, 0, b, _, hf => by
    simp only [List.getElem?_cons_zero, Option.some.injEq] at hf; subst hf
    simp only [List.set_cons_zero, Hu.valB_cons, List.length_cons]
    simp
    omega
  | y :: Y, q + 1, b, h, hf => by
    simp only [List.getElem?_cons_succ] at hf
    simp only [List.length_cons] at h
    simp only [List.set_cons_succ, Hu.valB_cons, List.length_cons, List.length_set]
    rw [valB_set Y q b (by omega) hf, show Y.length + 1 - 1 - (q + 1) = Y.length - 1 - q by omega]
    omega
/-- One bit more: one byte more. -/
theorem layN_set {N k : Nat} {E : List Bool} {b : Bool} (hk : E.length = k) (h : k < 8 * N) :
    ∃ v, (layN N E)[k / 8]? = some v ∧ 0 ≤ v ∧ v + b.toNat * 2 ^ (7 - k % 8) < 256 ∧ layN N (E ++ [b]) = (layN N E).set (k / 8) (v + b.toNat * 2 ^ (7 - k % 8)) := by
  have hX : E ++ [b] ++ List.replicate (8 * N - (E ++ [b]).length) false = (E ++ List.replicate (8 * N - E.length) false).set k b := by
    rw [List.set_append_right _ _ (by omega), hk, Nat.sub_self, show 8 * N - k = (8 * N - (k + 1)) + 1 by omega, List.replicate_succ, List.set_cons_zero]
    simp [hk]
  have hl : (E ++ List.replicate (8 * N - E.length) false).length = 8 * N := by simp; omega
  have hf : (E ++ List.replicate (8 * N - E.length) false)[k]? = some false := by
    rw [List.getElem?_append_right (by omega), hk, Nat.sub_self, List.getElem?_replicate, if_pos (by omega)]
  generalize hXe : E ++ List.replicate (8 * N - E.length) false = X at hX hl hf
  have hY : ((X.drop (8 * (k / 8))).take 8).length = 8 := by rw [List.length_take, List.length_drop]; omega
  have hq : ((X.drop (8 * (k / 8))).take 8)[k % 8]? = some false := by
    rw [List.getElem?_take_of_lt (by omega), List.getElem?_drop, show 8 * (k / 8) + k % 8 = k by omega]; exact hf
  have hset : ((X.set k b).drop (8 * (k / 8))).take 8 = ((X.drop (8 * (k / 8))).take 8).set (k % 8) b := by
    rw [List.drop_set, if_neg (by omega), List.take_set, show k - 8 * (k / 8) = k % 8 by omega]
  have hv := valB_set _ (k % 8) b (by rw [hY]; omega) hq
  rw [hY] at hv
  have hlt := Hu.valB_lt (((X.drop (8 * (k / 8))).take 8).set (k % 8) b)
  rw [List.length_set, hY, hv] at hlt
  refine ⟨(Hu.valB ((X.drop (8 * (k / 8))).take 8) : Nat), ?_, by omega, ?_, ?_⟩
  · unfold layN; rw [hXe]; exact packs_get N X _ (by omega)
  · rw [← pow_cast]
    have : ((b.toNat * 2 ^ (7 - k % 8) : Nat) : Int) = (b.toNat : Int) * ((2 ^ (7 - k % 8) : Nat) : Int) := by push_cast; rfl
    rw [← this]
    have e : 8 - 1 - k % 8 = 7 - k % 8 := by omega
    rw [e] at hlt
    omega
  · unfold layN
    rw [hX, hXe]
    apply List.ext_getElem?
    intro j
    rcases Nat.lt_or_ge j N with hj | hj
    · rw [packs_get N _ j hj]
      by_cases hjk : j = k / 8
      · subst hjk
        rw [List.getElem?_set_self (by rw [Hu.packs_len]; omega), hset, hv, ← pow_cast]
        have e : 8 - 1 - k % 8 = 7 - k % 8 := by omega
        rw [e]
        push_cast
        rfl
      · rw [List.getElem?_set_ne (fun e => hjk e.symm), packs_get N _ j hj]
        congr 3
        rw [List.drop_set]
        split
        · rfl
        · rw [List.take_set]
          rename_i h1
          rw [List.set_eq_of_length_le]
          rw [List.length_take, List.length_drop]
          omega
    · rw [List.getElem?_eq_none (by rw [Hu.packs_len]; omega), List.getElem?_eq_none (by rw [List.length_set, Hu.packs_len]; omega)]
theorem layN_zero (N : Nat) : layN N [] = List.replicate N 0 := by
  unfold layN
  simp only [List.nil_append, List.length_nil, Nat.sub_zero]
  apply List.ext_getElem?
  intro j
  rcases Nat.lt_or_ge j N with hj | hj
  · rw [packs_get N _ j hj, List.getElem?_replicate, if_pos hj]
    congr 1
    rw [List.drop_replicate, List.take_replicate]
    have : ∀ m, Hu.valB (List.replicate m false) = 0 := by
      intro m
      induction m with
      | zero => rfl
      | succ m ih => rw [List.replicate_succ, Hu.valB_cons, ih]; simp
    rw [this]; rfl
  · rw [List.getElem?_eq_none (by rw [Hu.packs_len]; omega), List.getElem?_eq_none (by simp; omega)]
/-- A bit of bytes of bits. -/
theorem layB_bit {E : List Bool} {i : Int} (h0 : 0 ≤ i) (h : i < E.length) : bitI (layB E) i = ((E.getD i.toNat false).toNat : Nat) := by
  unfold bitI layB layN
  rw [Hu.bl_packs _ _ (by simp; omega), List.getD_eq_getElem?_getD, List.getElem?_append_left (by omega), ← List.getD_eq_getElem?_getD]
/-- A bit of a code. -/
theorem code_bit {m c i : Int} (h0 : 0 ≤ i) (h : i < m) (hc : 0 ≤ c) : c / 2 ^ (m - 1 - i).toNat % 2 = (((Hu.bitsN m.toNat c.toNat).getD i.toNat false).toNat : Nat) := by
  rw [List.getD_eq_getElem?_getD, bitsN_get (by omega), show m.toNat - 1 - i.toNat = (m - 1 - i).toNat by omega, Option.getD_some]
  have e2 : c / 2 ^ (m - 1 - i).toNat % 2 = ((c.toNat / 2 ^ (m - 1 - i).toNat % 2 : Nat) : Int) := by
    push_cast
    rw [Int.toNat_of_nonneg hc]
  rw [e2]
  have : c.toNat / 2 ^ (m - 1 - i).toNat % 2 = 0 ∨ c.toNat / 2 ^ (m - 1 - i).toNat % 2 = 1 := by omega
  rcases this with h | h <;> simp [h]
end Cz
/- Huff, part R: the document's next byte. -/
namespace Cz
open Go Go.RowKit Go.Proofs
set_option linter.unusedSimpArgs false
set_option linter.unusedVariables false
set_option maxRecDepth 100000
set_option maxHeartbeats 4000000
/-- causeyref01.Bits, used. -/
theorem rbits_u {S : Sy} (hS : S0 Try.prog = S) {b : List Int} {F : List SV} {n : Int} {zi z : Z} {k : Nat} {ro lit : Bool} {st : Z} {l : List Blk} {K : SV → List Blk → Prop} (hb : Hu.BOk b) (hn : ilen b ≤ 1000000) (hn' : n = ilen b) (hF : cellsB b = F)
    (hrow : lget l k = .r ro lit st 1 F) (i m : Int) (hi : zi.v = i) (hm : z.v = m) (hz1 : 1 ≤ m) (hz2 : m ≤ 30) (h1 : okI b i m = true → ∀ r, numI b i m = r → K (.tp [.i .i64 (.y r), .tt]) l) (h2 : okI b i m = false → ∀ r, K (.tp [.i .i64 (.y r), .ff]) l) :
    S.call 27 [.sl k 1 (.l 0) (.y n) none, .i .i64 zi, .i .i64 z] l K := by
  subst hn' hF hi hm
  have hB : oBitsB b zi.v z.v = okI b zi.v z.v := by unfold oBitsB; rw [if_neg (by omega), if_neg (by omega)]
  have hf := rBitsO_f (b := b) (i := zi.v) (k := z.v) hb hn rfl rfl
  cases ht : okI b zi.v z.v with
  | true =>
    refine use_read hS (fun _ => k) (sv := .tp [.i .i64 (.y (numI b zi.v z.v)), .tt]) (call_post hf fun x l' hx => ⟨x, .rfl, hx.trans (sub_tp (.cons (sub_i ?_) (.cons (sub_b_tt ?_) .nil)))⟩) (.cons .rfl (.cons (sub_i rfl) (.cons (sub_i rfl) .nil))) rfl ⟨⟨_, _, _, _, _, _, _, _, rfl, cellsB_plain b, hrow, .rfl⟩, trivial⟩ rfl (h1 ht _ rfl)
    · unfold oBitsR; rw [hB, ht]; rfl
    · rw [hB, ht]
  | false =>
    refine use_read hS (fun _ => k) (sv := .tp [.i .i64 (.y (oBitsR b zi.v z.v)), .ff]) (call_post hf fun x l' hx => ⟨x, .rfl, hx.trans (sub_tp (.cons .rfl (.cons (sub_b_ff ?_) .nil)))⟩) (.cons .rfl (.cons (sub_i rfl) (.cons (sub_i rfl) .nil))) rfl ⟨⟨_, _, _, _, _, _, _, _, rfl, cellsB_plain b, hrow, .rfl⟩, trivial⟩ rfl (h2 ht _)
    rw [hB, ht]
theorem rbits_v {S : Sy} (hS : S0 Try.prog = S) {b : List Int} {F : List SV} {n : Int} {zi z : Z} {k : Nat} {ro lit : Bool} {st : Z} {l : List Blk} {K : SV → List Blk → Prop} (hb : Hu.BOk b) (hn : ilen b ≤ 1000000) (hn' : n = ilen b) (hF : cellsB b = F)
    (hrow : lget l k = .r ro lit st 1 F) (i m : Int) (h0 : zi.v = i) (hm : z.v = m) (hi0 : 0 ≤ i) (hz1 : 0 ≤ m) (hz2 : m ≤ 30 ∧ i + m ≤ 8 * n) (h1 : ∀ r, numI b i m = r → K (.tp [.i .i64 (.y r), .tt]) l) :
    S.call 27 [.sl k 1 (.l 0) (.y n) none, .i .i64 zi, .i .i64 z] l K := by
  subst hn' hF h0 hm
  have hB : oBitsB b zi.v z.v = true := by
    unfold oBitsB okI
    by_cases hz : z.v = 0
    · rw [if_pos hz]; simp; omega
    · rw [if_neg hz, if_neg (by omega)]; simp; omega
  have hf := rBitsO_f (b := b) (i := zi.v) (k := z.v) hb hn rfl rfl
  refine use_read hS (fun _ => k) (sv := .tp [.i .i64 (.y (numI b zi.v z.v)), .tt]) (call_post hf fun x l' hx => ⟨x, .rfl, hx.trans (sub_tp (.cons (sub_i ?_) (.cons (sub_b_tt hB) .nil)))⟩) (.cons .rfl (.cons (sub_i rfl) (.cons (sub_i rfl) .nil))) rfl ⟨⟨_, _, _, _, _, _, _, _, rfl, cellsB_plain b, hrow, .rfl⟩, trivial⟩ rfl (h1 _ rfl)
  unfold oBitsR; rw [hB]; rfl
/-- causeyref07.Of, used. -/
theorem rof_u {S : Sy} (hS : S0 Try.prog = S) {l : List Blk} {K : SV → List Blk → Prop} {za zm : Z} (a m : Int) (ha : za.v = a) (hm : zm.v = m) (h1 : ∀ c : Int, findO a m = some c.toNat → 0 ≤ c → c < 256 → K (.tp [.i .u8 (.y c), .tt]) l)
    (h2 : findO a m = none → ∀ c, K (.tp [.i .u8 (.y c), .ff]) l) : S.call 16 [.i .i64 za, .i .i64 zm] l K := by
  subst ha hm
  have hf := rOf_f (a := za.v) (m := zm.v) rfl rfl
  cases h : findO za.v zm.v with
  | some c =>
    obtain ⟨hc, _, _⟩ := findO_some h
    refine use_val hS (sv := .tp [.i .u8 (.y c), .tt]) (call_post hf fun x l' hx => ⟨x, .rfl, hx.trans (sub_tp (.cons (sub_i ?_) (.cons (sub_b_tt ?_) .nil)))⟩) (.cons (sub_i rfl) (.cons (sub_i rfl) .nil)) rfl rfl (h1 c (by simpa using h) (by omega) (by omega))
    · unfold findR; rw [h]
    · unfold findB; rw [h]; rfl
  | none =>
    refine use_val hS (sv := .tp [.i .u8 (.y (findR za.v zm.v)), .ff]) (call_post hf fun x l' hx => ⟨x, .rfl, hx.trans (sub_tp (.cons .rfl (.cons (sub_b_ff ?_) .nil)))⟩) (.cons (sub_i rfl) (.cons (sub_i rfl) .nil)) rfl rfl (h2 h _)
    unfold findB; rw [h]; rfl
/-- The byte whose code stands at a bit, and how many bits it has; 0: none. -/
def nextR (b : List Int) (i : Int) : Int × Int := match at1I b i 5 with
  | some c => (c, 5)
  | none => match at1I b i 6 with
    | some c => (c, 6)
    | none => match at1I b i 7 with
      | some c => (c, 7)
      | none => match at1I b i 11 with
        | some c => (c, 11)
        | none => (0, 0)
theorem next_some {b : List Int} {i c m : Int} (h0 : 0 ≤ i) (h : nextR b i = (c, m)) (hm : m ≠ 0) : 0 ≤ c ∧ c < 256 ∧ 5 ≤ m ∧ m ≤ 11 ∧ i + m ≤ 8 * ilen b ∧ decI b i = (c :: (decI b (i + m)).1, (decI b (i + m)).2) := by
  unfold nextR at h
  have hc : ∀ {q : Int} {d : Nat}, at1I b i q = some d → d < 256 := fun {q d} h => by
    unfold at1I at h
    split at h
    · exact (findO_some h).1
    · cases h
  cases h5 : at1I b i 5 with
  | some d => rw [h5] at h; cases h; have := hc h5; exact ⟨by omega, by omega, by omega, by omega, okI_le (at1I_ok h5), dec_5 h0 h5⟩
  | none =>
    rw [h5] at h
    cases h6 : at1I b i 6 with
    | some d => rw [h6] at h; cases h; have := hc h6; exact ⟨by omega, by omega, by omega, by omega, okI_le (at1I_ok h6), dec_6 h0 h5 h6⟩
    | none =>
      rw [h6] at h
      cases h7 : at1I b i 7 with
      | some d => rw [h7] at h; cases h; have := hc h7; exact ⟨by omega, by omega, by omega, by omega, okI_le (at1I_ok h7), dec_7 h0 h5 h6 h7⟩
      | none =>
        rw [h7] at h
        cases h11 : at1I b i 11 with
        | some d => rw [h11] at h; cases h; have := hc h11; exact ⟨by omega, by omega, by omega, by omega, okI_le (at1I_ok h11), dec_11 h0 h5 h6 h7 h11⟩
        | none => rw [h11] at h; cases h; exact absurd rfl hm
theorem next_none {b : List Int} {i c : Int} (h0 : 0 ≤ i) (h : nextR b i = (c, 0)) : decI b i = ([], dropI b i) := by
  unfold nextR at h
  cases h5 : at1I b i 5 with
  | some d => rw [h5] at h; cases h
  | none =>
    rw [h5] at h
    cases h6 : at1I b i 6 with
    | some d => rw [h6] at h; cases h
    | none =>
      rw [h6] at h
      cases h7 : at1I b i 7 with
      | some d => rw [h7] at h; cases h
      | none =>
        rw [h7] at h
        cases h11 : at1I b i 11 with
        | some d => rw [h11] at h; cases h
        | none => exact dec_no h0 h5 h6 h7 h11
theorem next_f {b : List Int} {i c m : Int} (hb : Hu.BOk b) (hnb : ilen b ≤ 1000000) (h0 : 0 ≤ i) (hr : nextR b i = (c, m)) :
    (S0 Try.prog).call 46 [.sl 0 1 (.l 0) (.y (ilen b)) none, .i .i64 (.y i)] [.r true true (.l 0) 1 (cellsB b)] (fun x _ => Sub x (.tp [.i .u8 (.y c), .i .i64 (.y m)])) := by
  obtain ⟨n, hn'⟩ : ∃ n, n = ilen b := ⟨_, rfl⟩
  have h0n := ilen_nn b
  rw [← hn'] at h0n ⊢
  unfold nextR at hr
  have hpl := cellsB_plain b
  generalize hF : cellsB b = F at hpl ⊢
  generalize hS : S0 Try.prog = S
  refine call_in' hS I.fn_causeyref07_next ?_
  cbv
  refine s_loop_one hS ?_
  cbv
  refine rbits_u hS hb hnb hn' hF rfl i 5 rfl rfl (by decide) (by decide) (fun hok r hr1 => ?_) (fun hok r => ?_)
  · cbv
    refine rof_u hS r 5 rfl rfl (fun d hd d0 d1 => ?_) (fun hd d => ?_)
    · have a5 : at1I b i 5 = some d.toNat := by rw [at1I_t hok hr1]; exact hd
      simp only [a5] at hr
      have hrc : c = d := by have := congrArg Prod.fst hr; simp only [Int.toNat_of_nonneg d0] at this; exact this.symm
      have hrm := congrArg Prod.snd hr
      simp only at hrm
      clear hr hok hr1 hd
      cbv
      repeat' (first
        | (refine s_st hS ?_; try cbv)
        | (refine s_sbr hS ?_ ?_ <;> intro h <;> (try cbv) <;> try exact s_ab h)
        | (refine s_sta hS ?_; intro _ _; try cbv)
        | (refine s_stc hS ?_; try cbv)
        | (refine s_draw hS rfl I.ord_causeyref07_next_0 (by decide +kernel) ?_; cbv)
        | (refine And.intro rfl ?_; try cbv))
      exact sub_tp (.cons (sub_i (by simp only [Z.v]; omega)) (.cons (sub_i (by simp only [Z.v]; omega)) .nil))
    · have a5 : at1I b i 5 = none := by rw [at1I_t hok hr1]; exact hd
      cbv
      refine s_loop_one hS ?_
      cbv
      refine rbits_u hS hb hnb hn' hF rfl i 6 rfl rfl (by decide) (by decide) (fun hok r hr1 => ?_) (fun hok r => ?_)
      · cbv
        refine rof_u hS r 6 rfl rfl (fun d hd d0 d1 => ?_) (fun hd d => ?_)
        · have a6 : at1I b i 6 = some d.toNat := by rw [at1I_t hok hr1]; exact hd
          simp only [a5, a6] at hr
          have hrc : c = d := by have := congrArg Prod.fst hr; simp only [Int.toNat_of_nonneg d0] at this; exact this.symm
          have hrm := congrArg Prod.snd hr
          simp only at hrm
          clear hr hok hr1 hd
          cbv
          repeat' (first
            | (refine s_st hS ?_; try cbv)
            | (refine s_sbr hS ?_ ?_ <;> intro h <;> (try cbv) <;> try exact s_ab h)
            | (refine s_sta hS ?_; intro _ _; try cbv)
            | (refine s_stc hS ?_; try cbv)
            | (refine s_draw hS rfl I.ord_causeyref07_next_0 (by decide +kernel) ?_; cbv)
            | (refine And.intro rfl ?_; try cbv))
          exact sub_tp (.cons (sub_i (by simp only [Z.v]; omega)) (.cons (sub_i (by simp only [Z.v]; omega)) .nil))
        · have a6 : at1I b i 6 = none := by rw [at1I_t hok hr1]; exact hd
          cbv
          refine s_loop_one hS ?_
          cbv
          refine rbits_u hS hb hnb hn' hF rfl i 7 rfl rfl (by decide) (by decide) (fun hok r hr1 => ?_) (fun hok r => ?_)
          · cbv
            refine rof_u hS r 7 rfl rfl (fun d hd d0 d1 => ?_) (fun hd d => ?_)
            · have a7 : at1I b i 7 = some d.toNat := by rw [at1I_t hok hr1]; exact hd
              simp only [a5, a6, a7] at hr
              have hrc : c = d := by have := congrArg Prod.fst hr; simp only [Int.toNat_of_nonneg d0] at this; exact this.symm
              have hrm := congrArg Prod.snd hr
              simp only at hrm
              clear hr hok hr1 hd
              cbv
              repeat' (first
                | (refine s_st hS ?_; try cbv)
                | (refine s_sbr hS ?_ ?_ <;> intro h <;> (try cbv) <;> try exact s_ab h)
                | (refine s_sta hS ?_; intro _ _; try cbv)
                | (refine s_stc hS ?_; try cbv)
                | (refine s_draw hS rfl I.ord_causeyref07_next_0 (by decide +kernel) ?_; cbv)
                | (refine And.intro rfl ?_; try cbv))
              exact sub_tp (.cons (sub_i (by simp only [Z.v]; omega)) (.cons (sub_i (by simp only [Z.v]; omega)) .nil))
            · have a7 : at1I b i 7 = none := by rw [at1I_t hok hr1]; exact hd
              cbv
              refine s_loop_one hS ?_
              cbv
              refine rbits_u hS hb hnb hn' hF rfl i 11 rfl rfl (by decide) (by decide) (fun hok r hr1 => ?_) (fun hok r => ?_)
              · cbv
                refine rof_u hS r 11 rfl rfl (fun d hd d0 d1 => ?_) (fun hd d => ?_)
                · have a11 : at1I b i 11 = some d.toNat := by rw [at1I_t hok hr1]; exact hd
                  simp only [a5, a6, a7, a11] at hr
                  have hrc : c = d := by have := congrArg Prod.fst hr; simp only [Int.toNat_of_nonneg d0] at this; exact this.symm
                  have hrm := congrArg Prod.snd hr
                  simp only at hrm
                  clear hr hok hr1 hd
                  cbv
                  repeat' (first
                    | (refine s_st hS ?_; try cbv)
                    | (refine s_sbr hS ?_ ?_ <;> intro h <;> (try cbv) <;> try exact s_ab h)
                    | (refine s_sta hS ?_; intro _ _; try cbv)
                    | (refine s_stc hS ?_; try cbv)
                    | (refine s_draw hS rfl I.ord_causeyref07_next_0 (by decide +kernel) ?_; cbv)
                    | (refine And.intro rfl ?_; try cbv))
                  exact sub_tp (.cons (sub_i (by simp only [Z.v]; omega)) (.cons (sub_i (by simp only [Z.v]; omega)) .nil))
                · have a11 : at1I b i 11 = none := by rw [at1I_t hok hr1]; exact hd
                  cbv
                  refine s_loop_one hS ?_
                  cbv
                  simp only [a5, a6, a7, a11] at hr
                  cases hr
                  exact sub_tp (.cons (sub_i rfl) (.cons (sub_i rfl) .nil))
              · cbv
                have a11 : at1I b i 11 = none := at1I_f (okI_less hok (by omega) (by omega))
                simp only [a5, a6, a7, a11] at hr
                cases hr
                exact sub_tp (.cons (sub_i rfl) (.cons (sub_i rfl) .nil))
          · cbv
            have a7 : at1I b i 7 = none := at1I_f (okI_less hok (by omega) (by omega))
            have a11 : at1I b i 11 = none := at1I_f (okI_less hok (by omega) (by omega))
            simp only [a5, a6, a7, a11] at hr
            cases hr
            exact sub_tp (.cons (sub_i rfl) (.cons (sub_i rfl) .nil))
      · cbv
        have a6 : at1I b i 6 = none := at1I_f (okI_less hok (by omega) (by omega))
        have a7 : at1I b i 7 = none := at1I_f (okI_less hok (by omega) (by omega))
        have a11 : at1I b i 11 = none := at1I_f (okI_less hok (by omega) (by omega))
        simp only [a5, a6, a7, a11] at hr
        cases hr
        exact sub_tp (.cons (sub_i rfl) (.cons (sub_i rfl) .nil))
  · cbv
    have a5 : at1I b i 5 = none := at1I_f (okI_less hok (by omega) (by omega))
    have a6 : at1I b i 6 = none := at1I_f (okI_less hok (by omega) (by omega))
    have a7 : at1I b i 7 = none := at1I_f (okI_less hok (by omega) (by omega))
    have a11 : at1I b i 11 = none := at1I_f (okI_less hok (by omega) (by omega))
    simp only [a5, a6, a7, a11] at hr
    cases hr
    exact sub_tp (.cons (sub_i rfl) (.cons (sub_i rfl) .nil))
end Cz
