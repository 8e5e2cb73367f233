/- What the claims of this group lean on, part 7: our engine, the functions' simplified codes, their contracts. No condition. -/
import Derived.Test.YtdbnbknghhpbiaaDoorKT6
set_option linter.unusedSimpArgs false
set_option linter.unusedVariables false
set_option maxRecDepth 100000
set_option maxHeartbeats 4000000
namespace Cz
open Go Go.RowKit Go.Proofs
namespace Pa
open Tb
abbrev Fd := Tb.Fd
theorem up_bd (w : Int) : 0 ≤ upP w ∧ upP w ≤ 64 ∧ 4 ≤ bitP w ∧ bitP w ≤ 6 ∧ 2 ^ (bitP w).toNat = powP w := by
  unfold upP bitP powP
  split
  · exact ⟨by decide, by decide, by decide, by decide, rfl⟩
  · split <;> exact ⟨by decide, by decide, by decide, by decide, rfl⟩
def nmB (i : Int) (b : List UInt8) (w : Int) : List Int := putI i (powP w) (upP w) ++ bestT (byS b)
def fldB (f : Fd) (w : Int) : List Int := putI 0 (powP w) (upP w) ++ bestT (byS f.1) ++ bestT (byS f.2)
def idxB (i : Int) : List Int := putI i 128 128
def sizB (n : Int) : List Int := putI n 32 32
structure Nx where
  e : Int
  sized : Bool
  added : Bool
  size : Int
  f : Fd
  rest : List Int
def nxE (e : Int) : Nx := ⟨e, false, false, 0, ([], []), []⟩
def powU (c : Int) : Int := if 128 ≤ c then 128 else if 64 ≤ c then 64 else if 32 ≤ c then 32 else 16
def litU (l : List Fd) (a : Bool) (i : Int) (b : List Int) : Nx :=
  if 0 < i then
    if (atR l i).2 ≠ 0 then nxE (atR l i).2 else if tE b ≠ 0 then nxE (tE b) else ⟨0, false, a, 0, ((atR l i).1.1, strB (tS b)), tR b⟩
  else if tE b ≠ 0 then nxE (tE b) else if tE (tR b) ≠ 0 then nxE (tE (tR b)) else ⟨0, false, a, 0, (strB (tS b), strB (tS (tR b))), tR (tR b)⟩
def nxtC (l : List Fd) (c n : Int) (r : List Int) : Nx :=
  if 128 ≤ c then (if (atR l n).2 ≠ 0 then nxE (atR l n).2 else ⟨0, false, false, 0, (atR l n).1, r⟩)
  else if 64 ≤ c then litU l true n r
  else if 32 ≤ c then ⟨0, true, false, n, ([], []), r⟩
  else litU l false n r
def nxtU (l : List Fd) (b : List Int) : Nx :=
  if preE b (powU (b.getD 0 0)) ≠ 0 then nxE (preE b (powU (b.getD 0 0))) else nxtC l (b.getD 0 0) (preN b (powU (b.getD 0 0))) (preR b (powU (b.getD 0 0)))
structure Un where
  b : List Int
  mx : Int
  l : List Fd
  out : List Fd
  size : Int
def tellU (s : Un) (x : Nx) : Un :=
  ⟨x.rest, s.mx, if x.added then evL s.mx (x.f :: s.l) else s.l, if 2000 < s.size + szF x.f then s.out else s.out ++ [x.f], s.size + szF x.f⟩
def stepU (most : Int) (s : Un) (x : Nx) : Int × Un :=
  if x.e ≠ 0 then (x.e, s)
  else if x.sized then (if 0 < s.size ∨ most < x.size then (100, s) else (0, ⟨x.rest, x.size, evL x.size s.l, s.out, s.size⟩))
  else (0, tellU s x)
def runU (most : Int) : Nat → Un → Int × Un
  | 0, s => (0, s)
  | n + 1, s => if s.b = [] then (0, s) else if (stepU most s (nxtU s.l s.b)).1 ≠ 0 then stepU most s (nxtU s.l s.b) else runU most n (stepU most s (nxtU s.l s.b)).2
def blkU (t : Tab) (most : Int) (b : List Int) : (List Fd × Bool × Tab) × Int :=
  if rightL t.1 t.2 = true ∧ 0 ≤ most ∧ most ≤ 4096 then
    (if (runU most b.length ⟨b, t.1, t.2, [], 0⟩).1 ≠ 0 then (([], false, (0, [])), (runU most b.length ⟨b, t.1, t.2, [], 0⟩).1)
    else (((runU most b.length ⟨b, t.1, t.2, [], 0⟩).2.out, decide (2000 < (runU most b.length ⟨b, t.1, t.2, [], 0⟩).2.size), ((runU most b.length ⟨b, t.1, t.2, [], 0⟩).2.mx, (runU most b.length ⟨b, t.1, t.2, [], 0⟩).2.l)), 0))
  else (([], false, (0, [])), 2)
theorem pgo_ge {b : List Int} : ∀ (f : Nat) (a n : Int), 1 ≤ a → (pgo b f a n).2.2 = 0 → a < (pgo b f a n).2.1
  | 0, _, _, _, h => by simp [pgo] at h
  | f + 1, a, n, h0, h => by
    rw [pgo] at h ⊢
    split at h
    · simp at h
    · split at h
      · simp at h
      · split at h
        · rename_i h1 h2; rw [if_neg h1, if_pos h2]; dsimp only; omega
        · rename_i h1 h2
          rw [if_neg h1, if_neg h2]
          have := pgo_ge f (a + 1) _ (by omega) h
          omega
theorem preR_lt {b : List Int} {p : Int} (h : preE b p = 0) : ilen (preR b p) < ilen b := by
  have h0 := qah b
  unfold preR
  rw [if_pos h]
  unfold preE at h
  cases b with
  | nil => simp [preI] at h
  | cons v b =>
    have h1 : 1 ≤ (preI (v :: b) p).2.1 := by
      unfold preI at h ⊢
      dsimp only at h ⊢
      split
      · exact Int.le_refl _
      · rename_i h2
        rw [if_neg h2] at h
        have := pgo_ge _ _ _ (by decide) h
        omega
    unfold ilen
    rw [List.length_drop, List.length_cons]
    omega
theorem litU_ok {l : List Fd} {a : Bool} {i : Int} {b : List Int} (hb : Hu.BOk b) (h : (litU l a i b).e = 0) : Hu.BOk (litU l a i b).rest ∧ ilen (litU l a i b).rest ≤ ilen b ∧ (litU l a i b).sized = false := by
  obtain ⟨h1, h2, h3⟩ := tT_ok hb
  obtain ⟨g1, g2, g3⟩ := tT_ok h2
  revert h
  unfold litU
  split
  · split
    · intro h; rename_i h1; exact absurd h h1
    · split
      · intro h; rename_i h1; exact absurd h h1
      · intro _; exact ⟨h2, h3, rfl⟩
  · split
    · intro h; rename_i h1; exact absurd h h1
    · split
      · intro h; rename_i h1; exact absurd h h1
      · intro _; exact ⟨g2, by dsimp only; omega, rfl⟩
theorem nxt_ok {l : List Fd} {b : List Int} (hb : Hu.BOk b) (h : (nxtU l b).e = 0) : Hu.BOk (nxtU l b).rest ∧ ilen (nxtU l b).rest < ilen b := by
  unfold nxtU at h ⊢
  split at h
  · rename_i h1; exact absurd h h1
  · rename_i h1
    rw [if_neg h1]
    have hlt := preR_lt (b := b) (p := powU (b.getD 0 0)) (by simpa using h1)
    have hok := qeg (p := powU (b.getD 0 0)) hb
    revert h
    unfold nxtC
    split
    · split
      · intro h; rename_i h1; exact absurd h h1
      · intro _; exact ⟨hok, hlt⟩
    · split
      · intro h
        have := litU_ok hok h
        exact ⟨this.1, by omega⟩
      · split
        · intro _; exact ⟨hok, hlt⟩
        · intro h
          have := litU_ok hok h
          exact ⟨this.1, by omega⟩
theorem qzabv {most : Int} {s : Un} {x : Nx} (h : (stepU most s x).1 = 0) : x.e = 0 ∧ (stepU most s x).2.b = x.rest := by
  unfold stepU at h ⊢
  split at h
  · rename_i h1; exact absurd h h1
  · rename_i h1
    refine ⟨by simpa using h1, ?_⟩
    rw [if_neg h1]
    split at h
    · split at h
      · simp at h
      · rename_i h2 h3; rw [if_pos h2, if_neg h3]
    · rename_i h2; rw [if_neg h2]; rfl
theorem run_two (most : Int) : ∀ (n m : Nat) (s : Un), m ≤ n → Hu.BOk s.b → s.b.length ≤ m → runU most n s = runU most m s
  | 0, m, s, h, _, _ => by rw [show m = 0 by omega]
  | n + 1, 0, s, _, _, h => by
    have hs : s.b = [] := List.length_eq_zero_iff.1 (by omega)
    simp only [runU, hs, if_true]
  | n + 1, m + 1, s, hm, hb, h => by
    simp only [runU]
    split
    · rfl
    · split
      · rfl
      · rename_i h0 h1
        have h1 : (stepU most s (nxtU s.l s.b)).1 = 0 := by simpa using h1
        obtain ⟨h2, h3⟩ := qzabv h1
        obtain ⟨h4, h5⟩ := nxt_ok hb h2
        exact run_two most n m _ (by omega) (by rw [h3]; exact h4) (by rw [h3]; unfold ilen at h5; omega)
theorem run_more (most : Int) (n : Nat) (s : Un) (hb : Hu.BOk s.b) (h : s.b.length ≤ n) : runU most n s = runU most s.b.length s := run_two most n _ s h hb (Nat.le_refl _)
def goU (most : Int) (s : Un) : Int × Un := runU most s.b.length s
theorem go_nil {most : Int} {s : Un} (h : s.b = []) : goU most s = (0, s) := by unfold goU; rw [h]; rfl
theorem go_err {most : Int} {s : Un} (h : s.b ≠ []) (h1 : (stepU most s (nxtU s.l s.b)).1 ≠ 0) : goU most s = stepU most s (nxtU s.l s.b) := by
  unfold goU
  obtain ⟨n, hn⟩ : ∃ n, s.b.length = n + 1 := ⟨s.b.length - 1, by have := List.length_pos_iff.2 h; omega⟩
  rw [hn, runU, if_neg h, if_pos h1]
theorem go_step {most : Int} {s : Un} (hb : Hu.BOk s.b) (h : s.b ≠ []) (h1 : (stepU most s (nxtU s.l s.b)).1 = 0) : goU most s = goU most (stepU most s (nxtU s.l s.b)).2 := by
  unfold goU
  obtain ⟨n, hn⟩ : ∃ n, s.b.length = n + 1 := ⟨s.b.length - 1, by have := List.length_pos_iff.2 h; omega⟩
  obtain ⟨h2, h3⟩ := qzabv h1
  obtain ⟨h4, h5⟩ := nxt_ok hb h2
  rw [hn, runU, if_neg h, if_neg (by simpa using h1), run_more most n _ (by rw [h3]; exact h4) (by rw [h3]; unfold ilen at h5; omega)]
theorem blk_go {t : Tab} {most : Int} {b : List Int} : blkU t most b = if rightL t.1 t.2 = true ∧ 0 ≤ most ∧ most ≤ 4096 then
    (if (goU most ⟨b, t.1, t.2, [], 0⟩).1 ≠ 0 then (([], false, (0, [])), (goU most ⟨b, t.1, t.2, [], 0⟩).1)
    else (((goU most ⟨b, t.1, t.2, [], 0⟩).2.out, decide (2000 < (goU most ⟨b, t.1, t.2, [], 0⟩).2.size), ((goU most ⟨b, t.1, t.2, [], 0⟩).2.mx, (goU most ⟨b, t.1, t.2, [], 0⟩).2.l)), 0))
  else (([], false, (0, [])), 2) := rfl
def ckN : List UInt8 := [99, 111, 111, 107, 105, 101]
def wayP (mx : Int) (f : Fd) : Int := if f.1 = ckN then 2 else if szF f ≤ mx then 1 else 3
def ownB (i : Int) (f : Fd) (w : Int) : List Int := if 0 < i then nmB i f.2 w else fldB f w
def fieldB (mx : Int) (l : List Fd) (f : Fd) : List Int := if (Tb.findR l f).2 = true then idxB (Tb.findR l f).1 else ownB (Tb.findR l f).1 f (wayP mx f)
def addP (mx : Int) (l : List Fd) (f : Fd) : Bool := decide ((Tb.findR l f).2 = false ∧ wayP mx f = 1)
def fieldL (mx : Int) (l : List Fd) (f : Fd) : List Fd := if addP mx l f = true then evL mx (f :: l) else l
def blockB (mx : Int) : List Fd → List Fd → List Int
  | _, [] => []
  | l, f :: fs => fieldB mx l f ++ blockB mx (fieldL mx l f) fs
def blockL (mx : Int) : List Fd → List Fd → List Fd
  | l, [] => l
  | l, f :: fs => blockL mx (fieldL mx l f) fs
theorem qzaen {p : Fd → Bool} : ∀ {L : List Fd} {k i : Int}, 1 ≤ k → fstI p L k = i → i ≠ 0 → ∃ x, L[(i - k).toNat]? = some x ∧ p x = true
  | [], k, i, _, h, h0 => by simp [fstI] at h; omega
  | y :: L, k, i, hk, h, h0 => by
    simp only [fstI] at h
    split at h
    · subst h
      rename_i hp
      exact ⟨y, by rw [Int.sub_self]; rfl, hp⟩
    · have hr := qjx p L (k + 1) (by omega)
      have h2 := hr.2.2 (by omega)
      obtain ⟨x, h3, h4⟩ := qzaen (k := k + 1) (by omega) h h0
      refine ⟨x, ?_, h4⟩
      rw [show (i - k).toNat = (i - (k + 1)).toNat + 1 by omega]
      simpa using h3
theorem qst (l : List Fd) (f : Fd) : 0 ≤ (Tb.findR l f).1 ∧ (Tb.findR l f).1 ≤ 20 + ilen l := by
  have hal := qsz l
  have r1 := qjx (fun x => x == f) (allF l) 1 (Int.le_refl _)
  have r2 := qjx (fun x => x.1 == f.1) (allF l) 1 (Int.le_refl _)
  unfold ilen at hal
  unfold Tb.findR
  split
  · exact ⟨r1.1, by unfold ilen; dsimp only; omega⟩
  · exact ⟨r2.1, by unfold ilen; dsimp only; omega⟩
theorem find_t {l : List Fd} {f : Fd} (h : (Tb.findR l f).2 = true) : 0 < (Tb.findR l f).1 ∧ atR l (Tb.findR l f).1 = (f, 0) := by
  have r1 := qjx (fun x => x == f) (allF l) 1 (Int.le_refl _)
  unfold Tb.findR at h ⊢
  split at h
  · rename_i h1
    rw [if_pos h1]
    have h0 : 0 < fstI (fun x => x == f) (allF l) 1 := by omega
    refine ⟨h0, ?_⟩
    obtain ⟨x, hx, hp⟩ := qzaen (Int.le_refl 1) rfl h1
    unfold atR
    rw [if_neg (by omega), hx]
    simp only [beq_iff_eq] at hp
    rw [hp]
  · cases h
theorem find_n {l : List Fd} {f : Fd} (h : (Tb.findR l f).2 = false) (h0 : 0 < (Tb.findR l f).1) : (atR l (Tb.findR l f).1).2 = 0 ∧ (atR l (Tb.findR l f).1).1.1 = f.1 := by
  unfold Tb.findR at h h0 ⊢
  split at h
  · cases h
  · rename_i h1
    rw [if_neg h1] at h0 ⊢
    obtain ⟨x, hx, hp⟩ := qzaen (Int.le_refl 1) rfl (show fstI (fun x => x.1 == f.1) (allF l) 1 ≠ 0 by dsimp only at h0; omega)
    unfold atR
    dsimp only
    rw [if_neg (by dsimp only at h0; omega), hx]
    simp only [beq_iff_eq] at hp
    exact ⟨rfl, hp⟩
theorem tE_of {b d x : List Int} (h : tTake b = (x, d, 0)) : tE b = 0 ∧ tS b = x ∧ tR b = d := by unfold tE tS tR; rw [h]; exact ⟨rfl, rfl, rfl⟩
theorem lit_name {l : List Fd} {a : Bool} {i : Int} {f : Fd} {d : List Int} (h0 : 0 < i) (h1 : (atR l i).2 = 0) (h2 : (atR l i).1.1 = f.1) (hb : ilen f.2 ≤ 1000000) : litU l a i (bestT (byS f.2) ++ d) = ⟨0, false, a, 0, f, d⟩ := by
  obtain ⟨e1, e2, e3⟩ := tE_of (qte (qrd f.2) d (by rw [qex]; exact hb))
  unfold litU
  rw [if_pos h0, if_neg (by simp [h1]), if_neg (by simp [e1]), h2, e2, e3, qyf]
theorem lit_own {l : List Fd} {a : Bool} {f : Fd} {d : List Int} (ha : ilen f.1 ≤ 1000000) (hb : ilen f.2 ≤ 1000000) : litU l a 0 (bestT (byS f.1) ++ (bestT (byS f.2) ++ d)) = ⟨0, false, a, 0, f, d⟩ := by
  obtain ⟨e1, e2, e3⟩ := tE_of (qte (qrd f.1) (bestT (byS f.2) ++ d) (by rw [qex]; exact ha))
  obtain ⟨g1, g2, g3⟩ := tE_of (qte (qrd f.2) d (by rw [qex]; exact hb))
  unfold litU
  rw [if_neg (by decide), if_neg (by simp [e1]), e3, if_neg (by simp [g1]), e2, g2, g3, qyf, qyf]
theorem nxt_way {l : List Fd} {i w : Int} {d : List Int} (h0 : 0 ≤ i) (h1 : i < 2147483648) : nxtU l (putI i (powP w) (upP w) ++ d) = litU l (decide (w = 1)) i d := by
  have key : ∀ p u : Int, 2 ≤ p → p ≤ 256 → (∀ x, 0 ≤ x → x < p → powU (u - u % p + x) = p ∧ ∀ n r, nxtC l (u - u % p + x) n r = litU l (decide (w = 1)) n r) → nxtU l (putI i p u ++ d) = litU l (decide (w = 1)) i d := by
    intro p u hp0 hp1 hx
    obtain ⟨x, x0, x1, hx2⟩ := qtt (up := u) (p := p) d h0 hp0
    obtain ⟨g1, g2, g3⟩ := qnz (up := u) d h0 h1 hp0 hp1
    obtain ⟨k1, k2⟩ := hx x x0 x1
    unfold nxtU
    rw [hx2, k1, g2, if_neg (by simp), g1, g3, k2]
  unfold powP upP
  split
  · refine key 64 64 (by decide) (by decide) fun x x0 x1 => ⟨?_, fun n r => ?_⟩
    · unfold powU; rw [if_neg (by omega), if_pos (by omega)]
    · unfold nxtC; rw [if_neg (by omega), if_pos (by omega)]
      rename_i hw; rw [decide_eq_true hw]
  · split
    · refine key 16 16 (by decide) (by decide) fun x x0 x1 => ⟨?_, fun n r => ?_⟩
      · unfold powU; rw [if_neg (by omega), if_neg (by omega), if_neg (by omega)]
      · unfold nxtC; rw [if_neg (by omega), if_neg (by omega), if_neg (by omega)]
        rename_i hw _; rw [decide_eq_false hw]
    · refine key 16 0 (by decide) (by decide) fun x x0 x1 => ⟨?_, fun n r => ?_⟩
      · unfold powU; rw [if_neg (by omega), if_neg (by omega), if_neg (by omega)]
      · unfold nxtC; rw [if_neg (by omega), if_neg (by omega), if_neg (by omega)]
        rename_i hw _; rw [decide_eq_false hw]
theorem nxt_idx {l : List Fd} {i : Int} {d : List Int} (h0 : 0 ≤ i) (h1 : i < 2147483648) : nxtU l (idxB i ++ d) = if (atR l i).2 ≠ 0 then nxE (atR l i).2 else ⟨0, false, false, 0, (atR l i).1, d⟩ := by
  unfold idxB
  obtain ⟨x, x0, x1, hx2⟩ := qtt (up := 128) (p := 128) d h0 (by decide)
  obtain ⟨g1, g2, g3⟩ := qnz (up := 128) (p := 128) d h0 h1 (by decide) (by decide)
  have e : powU (128 - 128 % 128 + x) = 128 := by unfold powU; rw [if_pos (by omega)]
  unfold nxtU
  rw [hx2, e, g2, if_neg (by simp), g1, g3]
  unfold nxtC
  rw [if_pos (by omega)]
theorem nxt_siz {l : List Fd} {n : Int} {d : List Int} (h0 : 0 ≤ n) (h1 : n < 2147483648) : nxtU l (sizB n ++ d) = ⟨0, true, false, n, ([], []), d⟩ := by
  unfold sizB
  obtain ⟨x, x0, x1, hx2⟩ := qtt (up := 32) (p := 32) d h0 (by decide)
  obtain ⟨g1, g2, g3⟩ := qnz (up := 32) (p := 32) d h0 h1 (by decide) (by decide)
  have e : powU (32 - 32 % 32 + x) = 32 := by unfold powU; rw [if_neg (by omega), if_neg (by omega), if_pos (by omega)]
  unfold nxtU
  rw [hx2, e, g2, if_neg (by simp), g1, g3]
  unfold nxtC
  rw [if_neg (by omega), if_neg (by omega), if_pos (by omega)]
theorem nxt_field {mx : Int} {l : List Fd} {f : Fd} {d : List Int} (hl : ilen l ≤ 100000000) (ha : ilen f.1 ≤ 1000000) (hb : ilen f.2 ≤ 1000000) : nxtU l (fieldB mx l f ++ d) = ⟨0, false, addP mx l f, 0, f, d⟩ := by
  have hr := qst l f
  unfold fieldB addP
  split
  · rename_i h
    obtain ⟨h0, h1⟩ := find_t h
    rw [nxt_idx hr.1 (by omega), h1, if_neg (by simp), h]
    simp
  · rename_i h
    have h : (Tb.findR l f).2 = false := by simpa using h
    unfold ownB
    split
    · rename_i h0
      obtain ⟨h1, h2⟩ := find_n h h0
      unfold nmB
      rw [List.append_assoc, nxt_way hr.1 (by omega), lit_name h0 h1 h2 hb, h]
      simp
    · rename_i h0
      unfold fldB
      rw [List.append_assoc, List.append_assoc, nxt_way (by decide) (by decide), lit_own ha hb, h]
      simp
theorem bok_way {i w : Int} (h0 : 0 ≤ i) : Hu.BOk (putI i (powP w) (upP w)) := by
  unfold powP upP
  split
  · exact qpm h0 (by decide) (by decide) (by decide) (by decide)
  · split <;> exact qpm h0 (by decide) (by decide) (by decide) (by decide)
theorem bok_nm {i w : Int} {b : List UInt8} (h0 : 0 ≤ i) : Hu.BOk (nmB i b w) := qno (bok_way h0) (qzaaz (qrd _))
theorem bok_fld {w : Int} {f : Fd} : Hu.BOk (fldB f w) := qno (qno (bok_way (by decide)) (qzaaz (qrd _))) (qzaaz (qrd _))
theorem bok_idx {i : Int} (h0 : 0 ≤ i) : Hu.BOk (idxB i) := qpm h0 (by decide) (by decide) (by decide) (by decide)
theorem bok_siz {i : Int} (h0 : 0 ≤ i) : Hu.BOk (sizB i) := qpm h0 (by decide) (by decide) (by decide) (by decide)
theorem qvs (mx : Int) (l : List Fd) (f : Fd) : Hu.BOk (fieldB mx l f) := by
  have hr := qst l f
  unfold fieldB ownB
  split
  · exact bok_idx hr.1
  · split
    · exact bok_nm hr.1
    · exact bok_fld
theorem qki (mx : Int) : ∀ (fs l : List Fd), Hu.BOk (blockB mx l fs)
  | [], _ => fun v hv => by simp [blockB] at hv
  | f :: fs, l => qno (qvs mx l f) (qki mx fs _)
theorem qyy {i p u : Int} : putI i p u ≠ [] := by
  have := (qcu i p u).1
  intro h; rw [h] at this; simp [ilen] at this
theorem field_ne (mx : Int) (l : List Fd) (f : Fd) : fieldB mx l f ≠ [] := by
  unfold fieldB ownB nmB fldB idxB
  split
  · exact qyy
  · split
    · intro h; exact qyy (List.append_eq_nil_iff.1 h).1
    · intro h; exact qyy (List.append_eq_nil_iff.1 (List.append_eq_nil_iff.1 h).1).1
def outU (s : List Fd × Int) (f : Fd) : List Fd × Int := (if 2000 < s.2 + szF f then s.1 else s.1 ++ [f], s.2 + szF f)
theorem go_field {most mx : Int} {l out : List Fd} {size : Int} {f : Fd} {d : List Int} (hl : ilen l ≤ 100000000) (ha : ilen f.1 ≤ 1000000) (hb : ilen f.2 ≤ 1000000) (hd : Hu.BOk d) :
    goU most ⟨fieldB mx l f ++ d, mx, l, out, size⟩ = goU most ⟨d, mx, fieldL mx l f, (outU (out, size) f).1, (outU (out, size) f).2⟩ := by
  have hx := nxt_field (mx := mx) (d := d) hl ha hb
  have hs : stepU most ⟨fieldB mx l f ++ d, mx, l, out, size⟩ ⟨0, false, addP mx l f, 0, f, d⟩ = (0, ⟨d, mx, fieldL mx l f, (outU (out, size) f).1, (outU (out, size) f).2⟩) := by
    unfold stepU
    rw [if_neg (by simp), if_neg (by simp)]
    rfl
  have h2 : stepU most ⟨fieldB mx l f ++ d, mx, l, out, size⟩ (nxtU l (fieldB mx l f ++ d)) = (0, ⟨d, mx, fieldL mx l f, (outU (out, size) f).1, (outU (out, size) f).2⟩) := by rw [hx]; exact hs
  have h3 := go_step (most := most) (s := ⟨fieldB mx l f ++ d, mx, l, out, size⟩) (qno (qvs _ _ _) hd) (by intro h; exact field_ne mx l f (List.append_eq_nil_iff.1 h).1) (by rw [h2])
  rw [h3, h2]
theorem qrb {mx : Int} {l : List Fd} {f : Fd} (h : rightL mx l = true) : rightL mx (fieldL mx l f) = true := by
  unfold fieldL
  have h' := of_decide_eq_true h
  split
  · exact decide_eq_true ⟨h'.1, h'.2.1, qot h'.1⟩
  · exact h
theorem qdi {mx : Int} {l : List Fd} (h : rightL mx l = true) : ilen l ≤ 128 := by
  have h' := of_decide_eq_true h
  have := qco l
  omega
theorem qzw {most mx : Int} : ∀ (fs l out : List Fd) (size : Int), rightL mx l = true → (∀ f ∈ fs, ilen f.1 ≤ 1000000 ∧ ilen f.2 ≤ 1000000) →
    goU most ⟨blockB mx l fs, mx, l, out, size⟩ = (0, ⟨[], mx, blockL mx l fs, (fs.foldl outU (out, size)).1, (fs.foldl outU (out, size)).2⟩)
  | [], l, out, size, _, _ => go_nil rfl
  | f :: fs, l, out, size, h, hs => by
    have h1 := hs f (by simp)
    have h2 := qdi h
    simp only [blockB, blockL, List.foldl_cons]
    rw [go_field (by omega) h1.1 h1.2 (qki mx fs _), qzw fs _ _ _ (qrb h) (fun g hg => hs g (by simp [hg]))]
def manyU : List Fd → Int → Nat
  | [], _ => 0
  | f :: fs, n => if 2000 < n + szF f then 0 else manyU fs (n + szF f) + 1
theorem qzadc : ∀ (fs out : List Fd) (n : Int), 2000 < n → (fs.foldl outU (out, n)).1 = out ∧ 2000 < (fs.foldl outU (out, n)).2
  | [], out, n, h => ⟨rfl, h⟩
  | f :: fs, out, n, h => by
    have := qgr f
    simp only [List.foldl_cons, outU]
    rw [if_pos (by omega)]
    exact qzadc fs out _ (by omega)
theorem quu : ∀ (fs out : List Fd) (n : Int), n ≤ 2000 → (fs.foldl outU (out, n)).1 = out ++ fs.take (manyU fs n) ∧ (2000 < (fs.foldl outU (out, n)).2 ↔ manyU fs n < fs.length)
  | [], out, n, h => ⟨by simp [manyU], by simp [manyU]; exact h⟩
  | f :: fs, out, n, h => by
    simp only [List.foldl_cons, outU, manyU]
    split
    · rename_i h1
      obtain ⟨e1, e2⟩ := qzadc fs out (n + szF f) h1
      exact ⟨by rw [e1]; simp, by simp [e2]⟩
    · rename_i h1
      obtain ⟨e1, e2⟩ := quu fs (out ++ [f]) (n + szF f) (by omega)
      exact ⟨by rw [e1]; simp, by rw [e2]; simp⟩
theorem qzadu (mx : Int) : ∀ (A B l : List Fd), blockB mx l (A ++ B) = blockB mx l A ++ blockB mx (blockL mx l A) B ∧ blockL mx l (A ++ B) = blockL mx (blockL mx l A) B
  | [], B, l => ⟨rfl, rfl⟩
  | f :: A, B, l => by
    obtain ⟨h1, h2⟩ := qzadu mx A B (fieldL mx l f)
    simp only [List.cons_append, blockB, blockL]
    exact ⟨by rw [h1, List.append_assoc], h2⟩
theorem qfu {mx : Int} : ∀ {fs l : List Fd}, rightL mx l = true → rightL mx (blockL mx l fs) = true
  | [], l, h => h
  | f :: fs, l, h => by simp only [blockL]; exact qfu (qrb h)
theorem qzace (b : List Int) : ilen (bestT b) ≤ ilen b + 6 := by
  have h0 := qah b
  unfold bestT
  split
  · rename_i h
    unfold shortB at h
    have h := of_decide_eq_true h
    unfold packT
    have h1 := qcu (ilen (Hu.put b)) 128 128
    have h2 := Hu.qmb b
    have h3 : bitsI b (ilen b) = Hu.nbits b := by unfold bitsI; rw [qbx (by omega)]
    have h4 := qah (Hu.put b)
    rw [qbf]
    unfold ilen at *
    omega
  · unfold plainT
    have h1 := qcu (ilen b) 128 0
    rw [qbf]
    omega
theorem qzadl (mx : Int) (l : List Fd) (f : Fd) : ilen (fieldB mx l f) ≤ szF f := by
  have h1 := qzace (byS f.1)
  have h2 := qzace (byS f.2)
  have a1 := qah f.1
  have a2 := qah f.2
  rw [qex] at h1 h2
  unfold fieldB ownB nmB fldB idxB szF
  split
  · have := qcu (Tb.findR l f).1 128 128; omega
  · split
    · have := qcu (Tb.findR l f).1 (powP (wayP mx f)) (upP (wayP mx f)); rw [qbf]; omega
    · have := qcu 0 (powP (wayP mx f)) (upP (wayP mx f)); rw [qbf, qbf]; omega
theorem qkj (mx : Int) : ∀ (fs l : List Fd), ilen (blockB mx l fs) ≤ fullL fs
  | [], l => Int.le_refl _
  | f :: fs, l => by
    have h1 := qzadl mx l f
    have h2 := qkj mx fs (fieldL mx l f)
    simp only [blockB, fullL]
    rw [qbf]; omega
theorem block_next {mx : Int} {l fs : List Fd} {i : Int} {f : Fd} (hf : fs[i.toNat]? = some f) (h0 : 0 ≤ i) :
    blockB mx l (fs.take (i + 1).toNat) = blockB mx l (fs.take i.toNat) ++ fieldB mx (blockL mx l (fs.take i.toNat)) f ∧ blockL mx l (fs.take (i + 1).toNat) = fieldL mx (blockL mx l (fs.take i.toNat)) f := by
  have e : fs.take (i + 1).toNat = fs.take i.toNat ++ [f] := by rw [show (i + 1).toNat = i.toNat + 1 by omega, List.take_add_one, hf]; rfl
  rw [e]
  obtain ⟨h1, h2⟩ := qzadu mx (fs.take i.toNat) [f] l
  rw [h1, h2]
  simp only [blockB, blockL, List.append_nil]
  exact ⟨trivial, trivial⟩
end Pa
end Cz
namespace Cz
open Go Go.RowKit Go.Proofs
namespace Pa
theorem bytes_fz {l' : List Blk} {k : Nat} {lit : Bool} {st z : Z} {F : List SV} {L : List Int} {n : Int} (hB : l'[k]? = some (.r false lit st 1 F)) (hF : cellsB L = F) (hz : z.v = ilen L) (hn : n = ilen L) (g : Nat → Nat) : Fz l' g [] (.sl k 1 (.l 0) z none) (.v false 1 (cellsB L) (.y n)) := by
  subst hF hn
  refine .row hB rfl (.fsub ?_ (qai L)) (qai L) hz
  rw [show (Z.l 0).v.toNat * 1 = 0 from rfl, List.drop_zero, List.take_of_length_le]
  · exact .rfl
  · have := qbc L
    unfold ilen at *
    omega
theorem best_t {x : List UInt8} (hx : ilen x ≤ 1000000) : (S0 Tryd.prog).call 72 [.s x] [] (Tell (.v false 1 (cellsB (bestT (byS x))) (.y (ilen (bestT (byS x)))))) := tell_own (tbest_f hx) (qai _) (qef _)
theorem qzaay (b : List Int) : 1 ≤ ilen (bestT b) ∧ ilen (bestT b) ≤ ilen b + 6 := by
  have h0 := qah b
  unfold bestT
  split
  · rename_i h
    unfold shortB at h
    have h := of_decide_eq_true h
    unfold packT
    have h1 := qcu (ilen (Hu.put b)) 128 128
    have h2 := Hu.qmb b
    have h3 : bitsI b (ilen b) = Hu.nbits b := by unfold bitsI; rw [qbx (by omega)]
    have h4 := qah (Hu.put b)
    rw [qbf]
    unfold ilen at *
    omega
  · unfold plainT
    have h1 := qcu (ilen b) 128 0
    rw [qbf]
    omega
section
variable {S : Sy} {bl : List Blk} {K : SV → List Blk → Prop}
theorem best_g (hS : S0 Tryd.prog = S) {x : List UInt8} {F : List SV} {n : Int} (hx : ilen x ≤ 1000000) (hF : cellsB (bestT (byS x)) = F) (hn : n = ilen (bestT (byS x))) (hK : K (.v false 1 F (.y n)) bl) : S.call 72 [.s x] bl K := by
  subst hF hn
  exact qdb hS (best_t hx) (.cons .rfl .nil) rfl hK
end
def C0 (s : SV) : SV := s
def C1 (e : Int) (s : SV) : SV := .tp [s, .i .i64 (.y e)]
theorem c1_ctx (e : Int) : Ctx (C1 e) := by
  intro ρ s v d
  unfold C1 at d
  simp only [den] at d
  obtain ⟨vs, rfl, d⟩ := d
  obtain ⟨vs⟩ := vs
  match vs, d with
  | [], d => simp [denL] at d
  | [_], d => simp [denL] at d
  | _ :: _ :: _ :: _, d => simp [denL] at d
  | [x, y], d =>
    simp only [denL, den] at d
    obtain ⟨dx, rfl, _⟩ := d
    refine ⟨x, dx, fun ρ' s' d' => ?_⟩
    unfold C1
    simp only [den]
    refine ⟨_, rfl, ?_⟩
    simp only [denL, den]
    exact ⟨d', trivial, trivial⟩
def OwnB (C : SV → SV) (L : List Int) (x : SV) (l' : List Blk) : Prop := ∃ (j : Nat) (lit : Bool) (st z : Z) (F' : List SV), Sub x (C (.sl j 1 (.l 0) z none)) ∧ l'[j]? = some (.r false lit st 1 F') ∧ plains F' = true ∧ F'.take (z.v.toNat * 1) = cellsB L ∧ z.v = ilen L
theorem qub {C : SV → SV} {L : List Int} {l' : List Blk} {j : Nat} {lit : Bool} {st z : Z} {F : List SV} {x : SV} (hx : Sub x (C (.sl j 1 (.l 0) z none))) (hB : l'[j]? = some (.r false lit st 1 F)) (hF : F = cellsB L) (hz : z.v = ilen L) : OwnB C L x l' := by
  refine ⟨j, lit, st, z, F, hx, hB, hF ▸ qai L, ?_, hz⟩
  rw [hF, List.take_of_length_le]
  have := qbc L
  unfold ilen at *
  omega
theorem fz_own {L : List Int} {l' : List Blk} {j : Nat} {lit : Bool} {st z : Z} {F' : List SV} (hB : l'[j]? = some (.r false lit st 1 F')) (h : F'.take (z.v.toNat * 1) = cellsB L) (hz : z.v = ilen L) (g : Nat → Nat) : Fz l' g [] (.sl j 1 (.l 0) z none) (.v false 1 (cellsB L) (.y (ilen L))) := by
  refine .row hB rfl (.fsub ?_ (qai L)) (qai L) hz
  rw [show (Z.l 0).v.toNat * 1 = 0 from rfl, List.drop_zero, h]
  exact .rfl
theorem own_eq {C : SV → SV} {g : FuncId} {args : List SV} {L : List Int} (h : (S0 Tryd.prog).call g args [] (OwnB C L)) :
    (S0 Tryd.prog).call g args [] (fun x l' => ∃ (j : Nat) (lit : Bool) (st z : Z) (F' : List SV), x = C (.sl j 1 (.l 0) z none) ∧ l'[j]? = some (.r false lit st 1 F') ∧ plains F' = true ∧ F'.take (z.v.toNat * 1) = cellsB L ∧ z.v = ilen L) :=
  qay h fun x l' ⟨j, lit, st, z, F', hs, hB, h0, h1, h2⟩ => ⟨_, hs, j, lit, st, z, F', rfl, hB, h0, h1, h2⟩
theorem own_t0 {g : FuncId} {args : List SV} {L : List Int} {F : List SV} {n : Int} (h : (S0 Tryd.prog).call g args [] (OwnB C0 L)) (hF : cellsB L = F) (hn : n = ilen L) : (S0 Tryd.prog).call g args [] (Tell (.v false 1 F (.y n))) := by
  subst hF hn
  refine qay h fun x l' h => ?_
  obtain ⟨j, lit, st, z, F', hs, hB, _, h1, h2⟩ := h
  refine ⟨_, hs, ?_⟩
  exact fun g => fz_own hB h1 h2 g
theorem own_t1 {g : FuncId} {args : List SV} {L : List Int} {F : List SV} {n e : Int} (h : (S0 Tryd.prog).call g args [] (OwnB (C1 e) L)) (hF : cellsB L = F) (hn : n = ilen L) : (S0 Tryd.prog).call g args [] (Tell (.tp [.v false 1 F (.y n), .i .i64 (.y e)])) := by
  subst hF hn
  refine qay h fun x l' h => ?_
  obtain ⟨j, lit, st, z, F', hs, hB, _, h1, h2⟩ := h
  refine ⟨_, hs, ?_⟩
  exact fun g => .tp (.cons (fz_own hB h1 h2 g) (.cons (.sub .rfl rfl) .nil))
section
variable {S : Sy} {bl : List Blk} {K : SV → List Blk → Prop} {g : FuncId} {args args' : List SV} {L : List Int} {F : List SV} {n e : Int}
theorem own_u1 (hS : S0 Tryd.prog = S) (h : (S0 Tryd.prog).call g args' [] (OwnB (C1 e) L)) (ha : SubL args args') (hr : refsBL (fun _ => false) args' = true) (hF : cellsB L = F) (hn : n = ilen L)
    (hK : K (.tp [.sl (len bl) 1 (.l 0) (.y n) none, .i .i64 (.y e)]) (snoc bl (.r false false (.y 0) 1 F))) : S.call g args bl K := by
  subst hF hn
  exact use_one hS (c1_ctx e) (fun l' j m z z' sz h => .tp (.cons (.keep (i := 0) rfl rfl h) (.cons (.sub .rfl rfl) .nil))) (own_eq h) ha hr (by decide) (qai _) hK
end
theorem idx_o {i : Int} (h0 : 0 ≤ i) (h1 : i < 2147483648) : (S0 Tryd.prog).call 53 [.i .i64 (.y i)] [] (OwnB (C1 0) (idxB i)) := by
  obtain ⟨L, hL⟩ : ∃ L, idxB i = L := ⟨_, rfl⟩
  rw [hL]
  generalize hS : S0 Tryd.prog = S
  refine qaa hS I.qqa ?_
  cbv
  refine qaa hS I.qdu ?_
  cbv
  repeat' (first
    | (refine qbl hS rfl ?_; try cbv)
    | (refine s_ck hS ?_; try cbv)
    | (refine qad hS ?_ ?_ <;> intro h <;> (try cbv) <;> try exact s_ab h)
    | (refine s_ad hS ?_; intro _ _; try cbv)
    | (refine s_sb hS ?_; intro _ _; try cbv)
    | (refine qaq hS ?_; intro _ _; try cbv)
    | (refine qaf hS ?_; try cbv)
    | (refine qtv hS i 7 128 128 rfl rfl rfl h0 h1 (by decide) (by decide) rfl (by decide) (by decide) fun F2 n2 st hF2 hn2 => ?_; cbv)
    | (refine qbk hS ?_; try cbv)
    | (refine s_lk hS ?_; try cbv)
    | (refine s_mu hS ?_; try cbv)
    | fail)
  exact qub (z := .y n2) .rfl rfl (hL ▸ hF2.symm) (hL ▸ hn2)
theorem siz_o {i : Int} (h0 : 0 ≤ i) (h1 : i < 2147483648) : (S0 Tryd.prog).call 55 [.i .i64 (.y i)] [] (OwnB (C1 0) (sizB i)) := by
  obtain ⟨L, hL⟩ : ∃ L, sizB i = L := ⟨_, rfl⟩
  rw [hL]
  generalize hS : S0 Tryd.prog = S
  refine qaa hS I.quv ?_
  cbv
  refine qaa hS I.qdu ?_
  cbv
  repeat' (first
    | (refine qbl hS rfl ?_; try cbv)
    | (refine s_ck hS ?_; try cbv)
    | (refine qad hS ?_ ?_ <;> intro h <;> (try cbv) <;> try exact s_ab h)
    | (refine s_ad hS ?_; intro _ _; try cbv)
    | (refine s_sb hS ?_; intro _ _; try cbv)
    | (refine qaq hS ?_; intro _ _; try cbv)
    | (refine qaf hS ?_; try cbv)
    | (refine qtv hS i 5 32 32 rfl rfl rfl h0 h1 (by decide) (by decide) rfl (by decide) (by decide) fun F2 n2 st hF2 hn2 => ?_; cbv)
    | (refine qbk hS ?_; try cbv)
    | (refine s_lk hS ?_; try cbv)
    | (refine s_mu hS ?_; try cbv)
    | fail)
  exact qub (z := .y n2) .rfl rfl (hL ▸ hF2.symm) (hL ▸ hn2)
theorem named_o {i w : Int} {b : List UInt8} (h0 : 0 < i) (h1 : i < 2147483648) (hb : ilen b ≤ 1000000) :
    (S0 Tryd.prog).call 54 [.i .i64 (.y i), .s b, .i .i64 (.y w)] [] (OwnB (C1 0) (nmB i b w)) := by
  obtain ⟨L, hL⟩ : ∃ L, nmB i b w = L := ⟨_, rfl⟩
  rw [hL]
  obtain ⟨B, hB⟩ : ∃ B, cellsB (bestT (byS b)) = B := ⟨_, rfl⟩
  obtain ⟨m, hm⟩ : ∃ m, m = ilen (bestT (byS b)) := ⟨_, rfl⟩
  have hm1 := qzaay (byS b)
  rw [← hm, qex] at hm1
  generalize hS : S0 Tryd.prog = S
  refine qaa hS I.qjy ?_
  cbv
  refine of_u hS (w := w) rfl fun u k hu hk => ?_
  obtain ⟨u0, u1, k0, k1, hp⟩ := up_bd w
  rw [← hu] at u0 u1
  rw [← hk] at k0 k1 hp
  cbv
  refine qaa hS I.qdu ?_
  cbv
  repeat' (first
    | (refine qbl hS rfl ?_; try cbv)
    | (refine s_ck hS ?_; try cbv)
    | (refine qad hS ?_ ?_ <;> intro h <;> (try cbv) <;> try exact s_ab h)
    | (refine s_ad hS ?_; intro _ _; try cbv)
    | (refine s_sb hS ?_; intro _ _; try cbv)
    | (refine qaq hS ?_; intro _ _; try cbv)
    | (refine qaf hS ?_; try cbv)
    | (refine qtv hS i k u (powP w) rfl rfl rfl (by omega) h1 (by omega) (by omega) hp (by omega) (by omega) fun F2 n2 st hF2 hn2 => ?_; cbv)
    | (refine qbk hS ?_; try cbv)
    | (refine s_lk hS ?_; try cbv)
    | (refine s_mu hS ?_; try cbv)
    | fail)
  have hpl := qcu i (powP w) u
  rw [← hn2] at hpl
  have hfl : ilen F2 = n2 := by rw [← hF2, qbc, hn2]
  refine best_g hS hb hB hm ?_
  cbv
  repeat' (first
    | (refine qbl hS rfl ?_; try cbv)
    | (refine s_ck hS ?_; try cbv)
    | (refine qad hS ?_ ?_ <;> intro h <;> (try cbv) <;> try exact s_ab h)
    | (refine s_ad hS ?_; intro _ _; try cbv)
    | (refine s_sb hS ?_; intro _ _; try cbv)
    | (refine qaq hS ?_; intro _ _; try cbv)
    | (refine qaf hS ?_; try cbv)
    | (refine qbk hS ?_; try cbv)
    | (refine s_lk hS ?_; try cbv)
    | (refine s_mu hS ?_; try cbv)
    | fail)
  have e1 : S.app F2 B = cellsB L := by rw [← hL]; unfold nmB; rw [← hu]; exact qfv hS hF2.symm hB.symm
  have e2 : S.pl n2 m = ilen L := by rw [← hL]; unfold nmB; rw [← hu, qbf, ← hn2, ← hm]; subst hS; rfl
  exact qub (z := .y (S.pl n2 m)) (qbj (.cons .rfl (.cons (qan rfl) .nil))) rfl e1 e2
theorem s_ckA {S : Sy} {a b : Int} {k : Unit → Prop} (hS : S0 Tryd.prog = S) (e : a = b) (h : k ()) : S.chk (S.cmp .eq a b) k := qyo hS (by subst hS; rw [cmp_eq]; exact decide_eq_true e) h
theorem fld_o {w : Int} {a b : List UInt8} (hab : ilen a + ilen b ≤ 60000) :
    (S0 Tryd.prog).call 52 [.ag [.s a, .s b], .i .i64 (.y w)] [] (OwnB C0 (fldB (a, b) w)) := by
  obtain ⟨L, hL⟩ : ∃ L, fldB (a, b) w = L := ⟨_, rfl⟩
  rw [hL]
  have h0a := qah a
  have h0b := qah b
  have ha : ilen a ≤ 1000000 := by omega
  have hb : ilen b ≤ 1000000 := by omega
  obtain ⟨A, hA⟩ : ∃ B, cellsB (bestT (byS a)) = B := ⟨_, rfl⟩
  obtain ⟨ma, hma⟩ : ∃ m, m = ilen (bestT (byS a)) := ⟨_, rfl⟩
  have hm0 := qzaay (byS a)
  rw [← hma, qex] at hm0
  obtain ⟨B, hB⟩ : ∃ B, cellsB (bestT (byS b)) = B := ⟨_, rfl⟩
  obtain ⟨m, hm⟩ : ∃ m, m = ilen (bestT (byS b)) := ⟨_, rfl⟩
  have hm1 := qzaay (byS b)
  rw [← hm, qex] at hm1
  generalize hS : S0 Tryd.prog = S
  refine qaa hS I.quw ?_
  cbv
  refine of_u hS (w := w) rfl fun u k hu hk => ?_
  obtain ⟨u0, u1, k0, k1, hp⟩ := up_bd w
  rw [← hu] at u0 u1
  rw [← hk] at k0 k1 hp
  cbv
  refine qaa hS I.qdu ?_
  cbv
  repeat' (first
    | (refine qbl hS rfl ?_; try cbv)
    | (refine s_ck hS ?_; try cbv)
    | (refine qad hS ?_ ?_ <;> intro h <;> (try cbv) <;> try exact s_ab h)
    | (refine s_ad hS ?_; intro _ _; try cbv)
    | (refine s_sb hS ?_; intro _ _; try cbv)
    | (refine qaq hS ?_; intro _ _; try cbv)
    | (refine qaf hS ?_; try cbv)
    | (refine qtv hS 0 k u (powP w) rfl rfl rfl (by omega) (by omega) (by omega) (by omega) hp (by omega) (by omega) fun F2 n2 st hF2 hn2 => ?_; cbv)
    | (refine qbk hS ?_; try cbv)
    | (refine s_lk hS ?_; try cbv)
    | (refine s_mu hS ?_; try cbv)
    | fail)
  have hpl := qcu 0 (powP w) u
  rw [← hn2] at hpl
  have hfl : ilen F2 = n2 := by rw [← hF2, qbc, hn2]
  have hal : ilen A = ma := by rw [← hA, qbc, hma]
  have hbl : ilen B = m := by rw [← hB, qbc, hm]
  have hs1 : S.app [] (S.sub F2 0 n2 1) = F2 := by rw [qtg hS hF2 hn2, app_nil hS]
  have c1 : S.sc (S.pl 0 n2) 1 = S.flen (S.app [] (S.sub F2 0 n2 1)) := by rw [hs1]; subst hS; show (0 + n2) * 1 = ilen F2; omega
  have c2 : S.sc (S.pl (S.pl 0 n2) ma) 1 = S.flen (S.app (S.app [] (S.sub F2 0 n2 1)) A) := by rw [hs1]; subst hS; show (0 + n2 + ma) * 1 = ilen (F2 ++ A); rw [qbf]; omega
  refine qao hS rfl I.qob (by decide +kernel) ?_
  cbv
  refine best_g hS ha hA hma ?_
  cbv
  refine best_g hS hb hB hm ?_
  cbv
  repeat' (first
    | (refine qbl hS rfl ?_; try cbv)
    | (refine s_ck hS ?_; try cbv)
    | (refine qad hS ?_ ?_ <;> intro h <;> (try cbv) <;> try exact s_ab h)
    | (refine s_ad hS ?_; intro _ _; try cbv)
    | (refine s_sb hS ?_; intro _ _; try cbv)
    | (refine qaq hS ?_; intro _ _; try cbv)
    | (refine qaf hS ?_; try cbv)
    | (refine qbk hS ?_; try cbv)
    | (refine s_lk hS ?_; try cbv)
    | (refine s_mu hS ?_; try cbv)
    | fail)
  refine qaa hS I.qet ?_
  cbv
  repeat' (first
    | (refine qbl hS rfl ?_; try cbv)
    | (refine s_ck hS ?_; try cbv)
    | (refine qad hS ?_ ?_ <;> intro h <;> (try cbv) <;> try exact s_ab h)
    | (refine s_ad hS ?_; intro _ _; try cbv)
    | (refine s_sb hS ?_; intro _ _; try cbv)
    | (refine qaq hS ?_; intro _ _; try cbv)
    | (refine qaf hS ?_; try cbv)
    | (refine s_ckA hS c1 ?_; cbv)
    | (refine s_ckA hS c2 ?_; cbv)
    | (refine qbb hS ?_; cbv)
    | (refine grow_u hS (by simp only [Z.v]; omega) (by simp only [Z.v]; omega) ?_; cbv)
    | (refine qbk hS ?_; try cbv)
    | (refine s_lk hS ?_; try cbv)
    | (refine s_mu hS ?_; try cbv)
    | fail)
  have e1 : S.app (S.app (S.app [] (S.sub F2 0 n2 1)) A) B = cellsB L := by
    rw [← hL]; rw [hs1, qfv hS hF2.symm hA.symm, qfv hS rfl hB.symm]; unfold fldB; rw [← hu]
  have e2 : S.pl (S.pl (S.pl 0 n2) ma) m = ilen L := by
    rw [← hL]; unfold fldB; rw [← hu, qbf, qbf, ← hn2, ← hm, ← hma]; subst hS; show 0 + n2 + ma + m = _; omega
  exact qub (z := .y (S.pl (S.pl (S.pl 0 n2) ma) m)) .rfl rfl e1 e2
end Pa
end Cz
namespace Cz
open Go Go.RowKit
section
variable {P : Program} {l : List Blk}
theorem Rel.reblk {N : Nat → Prop} {W0 W : World} {ρ : Nms} (hR : Rel P N W0 ρ l W) {k : Nat} {cs cs' : List SV} (hB : l[k]? = some (.c cs)) (hlen : cs'.length = cs.length)
    (hd : ∀ (q : Nat) (x' : SV), cs'[q]? = some x' → ∃ x, cs[q]? = some x ∧ ∀ v, den ρ x v → den ρ x' v) : Rel P N W0 ρ (l.set k (.c cs')) W := by
  have hk := (List.getElem?_eq_some_iff.1 hB).1
  have hat : ∀ (j : Nat) (B : Blk), (l.set k (.c cs'))[j]? = some B → B.wr = true → ∃ B0, l[j]? = some B0 ∧ B0.wr = true := by
    intro j B h hw
    by_cases e : j = k
    · subst e; exact ⟨_, hB, rfl⟩
    · rw [List.getElem?_set_ne (fun h => e h.symm)] at h; exact ⟨B, h, hw⟩
  refine ⟨hR.below, hR.le, fun j hj => hR.out j (by simpa using hj), hR.ids, fun j B h => ?_, fun j j' B vw vw' a a' h hw hne hv hv' ha ha' => ?_, fun j B vw a h hw hv ha => ?_, hR.qN, hR.fin, fun j B vw a h hw hv ha => ?_⟩
  · by_cases e : j = k
    · subst e
      rw [List.getElem?_set_self hk] at h
      simp only [Option.some.injEq] at h; subst h
      obtain ⟨b, h1, h2, h3⟩ := hR.blk j _ hB
      refine ⟨b, by rw [h1, hlen], ?_, by rw [hlen]; exact h3⟩
      refine ⟨by rw [hlen]; exact h2.1, fun hb => by (cases hb), fun q x' hq hx' => ?_⟩
      obtain ⟨x, hx, hdx⟩ := hd q x' hx'
      obtain ⟨a, v, g1, g2, g3⟩ := h2.2.2 q x (by simpa [hlen] using hq) hx
      exact ⟨a, v, g1, g2, hdx v g3⟩
    · rw [List.getElem?_set_ne (fun h => e h.symm)] at h
      exact hR.blk j B h
  · obtain ⟨B0, g1, g2⟩ := hat j B h hw
    exact hR.sep j j' B0 vw vw' a a' g1 g2 hne hv hv' ha ha'
  · obtain ⟨B0, g1, g2⟩ := hat j B h hw
    exact hR.own j B0 vw a g1 g2 hv ha
  · obtain ⟨B0, g1, g2⟩ := hat j B h hw
    exact hR.fsep j B0 vw a g1 g2 hv ha
theorem Rel.reblk' {N : Nat → Prop} {W0 W : World} {ρ : Nms} (hR : Rel P N W0 ρ l W) {k : Nat} {cs cs' : List SV} (hB : l[k]? = some (.c cs)) (hlen : cs'.length = cs.length)
    (hV : ∀ b, ρ k = [⟨some ⟨b, 0, none⟩, cs.length, cs.length⟩] → ViewOk W ρ cs' ⟨some ⟨b, 0, none⟩, cs.length, cs.length⟩) : Rel P N W0 ρ (l.set k (.c cs')) W := by
  have hk := (List.getElem?_eq_some_iff.1 hB).1
  have hat : ∀ (j : Nat) (B : Blk), (l.set k (.c cs'))[j]? = some B → B.wr = true → ∃ B0, l[j]? = some B0 ∧ B0.wr = true := by
    intro j B h hw
    by_cases e : j = k
    · subst e; exact ⟨_, hB, rfl⟩
    · rw [List.getElem?_set_ne (fun h => e h.symm)] at h; exact ⟨B, h, hw⟩
  refine ⟨hR.below, hR.le, fun j hj => hR.out j (by simpa using hj), hR.ids, fun j B h => ?_, fun j j' B vw vw' a a' h hw hne hv hv' ha ha' => ?_, fun j B vw a h hw hv ha => ?_, hR.qN, hR.fin, fun j B vw a h hw hv ha => ?_⟩
  · by_cases e : j = k
    · subst e
      rw [List.getElem?_set_self hk] at h
      simp only [Option.some.injEq] at h; subst h
      obtain ⟨b, h1, h2, h3⟩ := hR.blk j _ hB
      exact ⟨b, by rw [h1, hlen], by rw [hlen]; exact hV b h1, by rw [hlen]; exact h3⟩
    · rw [List.getElem?_set_ne (fun h => e h.symm)] at h
      exact hR.blk j B h
  · obtain ⟨B0, g1, g2⟩ := hat j B h hw
    exact hR.sep j j' B0 vw vw' a a' g1 g2 hne hv hv' ha ha'
  · obtain ⟨B0, g1, g2⟩ := hat j B h hw
    exact hR.own j B0 vw a g1 g2 hv ha
  · obtain ⟨B0, g1, g2⟩ := hat j B h hw
    exact hR.fsep j B0 vw a g1 g2 hv ha
theorem qtm {S : Sy} (hS : S0 P = S) (k q sz : Nat) {cs : List SV} {cx : Cx} {b : IR} {K : VK} {e : Env} (hsz : 0 < sz) (hB : lget l k = .c cs) (hq : nth cs q = .re (.slice none 0 0))
    (h : S.loop cx b e (snoc (lset l k (.c (put cs q (nilRow l sz)))) (.r false true (.l 0) sz [])) K) : S.loop cx b e l K := by
  subst hS
  have hB' := qat hB (by simp)
  have hk := (List.getElem?_eq_some_iff.1 hB').1
  rw [qbr, qch] at h
  intro c kl hc N W0 ρ rr a W hs hr hm
  have hle : Le l.length ρ (upd ρ l.length [⟨none, 0, 0⟩]) := qdt (Nat.le_refl _)
  have hE : EnvOk (upd ρ l.length [⟨none, 0, 0⟩]) e.vs a.tmps := hs.env.le hle hs.rel.out
  have hM : MkOk (upd ρ l.length [⟨none, 0, 0⟩]) e.mks a.defers := MkOk.le hle hs.rel.out _ _ hs.mks
  have hG := hs.rel.ghost false hsz
  have hR := hG.reblk (k := k) (cs := cs) (cs' := put cs q (nilRow l sz)) (by rw [List.getElem?_append_left hk]; exact hB') (by rw [qcl, List.length_set]) (by
    intro j x' hx'
    by_cases hj : j = q
    · subst hj
      have hlt : j < cs.length := by have := (List.getElem?_eq_some_iff.1 hx').1; rw [qcl, List.length_set] at this; exact this
      rw [qcl, List.getElem?_set_self hlt] at hx'
      simp only [Option.some.injEq] at hx'; subst hx'
      refine ⟨_, List.getElem?_eq_getElem hlt, fun v hd => ?_⟩
      have : cs[j] = .re (.slice none 0 0) := by rw [qdj, List.getD_eq_getElem?_getD, List.getElem?_eq_getElem hlt] at hq; exact hq
      rw [this] at hd
      simp only [den] at hd
      rw [hd.1]; exact qhk (by rw [qam]; simp)
    · rw [qcl, List.getElem?_set_ne (fun e => hj e.symm)] at hx'
      exact ⟨x', hx', fun _ h => h⟩)
  rw [List.set_append_left _ _ hk] at hR
  exact Wp.mono (h c kl hc N W0 _ rr a W ⟨hR, hE, hM⟩ (hr.le (qdt hm)) (by simp; omega)) fun _ _ _ q => q.le (qdt hm)
theorem frz_rel {N : Nat → Prop} {W0 W : World} {ρ : Nms} (hR : Rel P N W0 ρ l W) (fs : List Nat) : ∃ ρ2 : Nms, Rel P N W0 ρ2 (frzL fs 0 l) W ∧ (∀ m, Le m ρ ρ2) ∧ ρ2.nm = ρ.nm ∧
    ∀ (x y : SV), Fz l id (others fs l.length) x y → refsB (fun _ => false) y = true → ∀ v, den ρ x v → den ρ2 y v := by
  have hRs : Rel P N W0 ρ (frzL fs 0 l) W := by
    refine hR.sub qij fun k B' hB => ?_
    obtain ⟨B, h1, h2⟩ := qpy hB
    refine ⟨B, h1, ?_⟩
    rw [h2]
    split
    · exact sub_ro B
    · exact .rfl
  let Bs : Nat → Prop := fun b => ∃ (k : Nat) (lit : Bool) (st : Z) (sz : Nat) (F : List SV) (vw : View) (a : Addr), memN fs k = true ∧ l[k]? = some (.r false lit st sz F) ∧ vw ∈ ρ k ∧ vw.base = some a ∧ a.block = b
  have hBN : ∀ b, Bs b → N b := by
    rintro b ⟨k, lit, st, sz, F, vw, a, _, hk, hv, ha, rfl⟩
    exact hR.own k _ vw a hk rfl hv ha
  have hwr : ∀ (k : Nat) (Bk : Blk), (frzL fs 0 l)[k]? = some Bk → Bk.wr = true → ∃ B, l[k]? = some B ∧ B.wr = true ∧ ∀ lit st sz F, B = .r false lit st sz F → memN fs k = false := by
    intro k Bk hB hw
    obtain ⟨B, h1, h2⟩ := qpy hB
    rw [Nat.zero_add] at h2
    refine ⟨B, h1, ?_, fun lit st sz F e => ?_⟩
    · rw [h2] at hw
      split at hw
      · cases B <;> simp only [roB] at hw ⊢ <;> try exact hw
        rename_i ro _ _ _ _
        cases ro
        · rfl
        · exact hw
      · exact hw
    · cases hm : memN fs k with
      | false => rfl
      | true =>
        rw [h2, hm, e] at hw
        simp [roB, Blk.wr] at hw
  have hR2 : Rel P N W0 (fzx Bs W ρ) (frzL fs 0 l) W := by
    refine hRs.fzx hBN fun k Bk vw a hB hw hv ha => ?_
    rintro ⟨k', lit, st, sz, F, vw', a', hm, hk', hv', ha', hb⟩
    obtain ⟨B, h1, h2, h3⟩ := hwr k Bk hB hw
    have hne : k ≠ k' := by
      rintro rfl
      rw [h1] at hk'
      simp only [Option.some.injEq] at hk'
      rw [h3 _ _ _ _ hk'] at hm; cases hm
    exact hR.sep k k' B vw vw' a a' h1 h2 hne hv hv' ha ha' hb.symm
  refine ⟨fzx Bs W ρ, hR2, fun m => fzx_le hR hBN m, rfl, fun x y hxy hr v hd => ?_⟩
  let ρz : Nms := ⟨fun i => match (others fs l.length)[i]? with | some (some k) => ρ k | _ => [], (fzx Bs W ρ).fz, ρ.q⟩
  have h1 := @qzacy P N W0 W ρ ρz l id (others fs l.length) hR (fzx_le hR hBN 0).fz (by
    intro k lit st sz F vw a hB hk hv ha o u hu
    show (fzx Bs W ρ).fz a.block o = some u
    simp only [fzx]
    have hkl : k < l.length := (List.getElem?_eq_some_iff.1 hB).1
    have hmk : memN fs k = true := by
      cases hm : memN fs k with
      | true => rfl
      | false =>
        obtain ⟨i, hi⟩ := quc hkl hm
        exact absurd hi (qcx hk i)
    rw [if_pos ⟨k, lit, st, sz, F, vw, a, hmk, hB, hv, ha, rfl⟩]
    exact hu) (by
    intro i k hk vw hv
    show vw ∈ (match (others fs l.length)[i]? with | some (some k) => ρ k | _ => [])
    rw [hk]; exact hv) (by
    intro i hi
    obtain ⟨k, hk⟩ := qie hi
    cases hk) x y hxy v hd
  have := qkf (ok := fun _ => false) (f := id) (ρ := ρz) (ρ' := fzx Bs W ρ) (fun _ _ _ h => h) (fun _ h => by cases h) y _ hr h1
  rwa [ren_id] at this
theorem s_loop_frz {S : Sy} (hS : S0 P = S) (fs : List Nat) (j q : Nat) {cs : List SV} {y : SV} {cx : Cx} {b : IR} {K : VK} {e : Env} (hB : lget l j = .c cs) (hy : Fz l id (others fs (len l)) (nth cs q) y) (hr : refsB (fun _ => false) y = true)
    (h : S.loop cx b e (lset (frzL fs 0 l) j (.c (put cs q y))) K) : S.loop cx b e l K := by
  subst hS
  have hB' := qat hB (by simp)
  have hj := (List.getElem?_eq_some_iff.1 hB').1
  rw [qch] at h
  rw [qby] at hy
  intro c kl hc N W0 ρ rr a W hs hrr hm
  obtain ⟨ρ2, hR2, hle, hnm, hfz⟩ := frz_rel hs.rel fs
  have hE : EnvOk ρ2 e.vs a.tmps := hs.env.le (hle _) hs.rel.out
  have hM : MkOk ρ2 e.mks a.defers := MkOk.le (hle _) hs.rel.out _ _ hs.mks
  have hBf : (frzL fs 0 l)[j]? = some (.c cs) := by
    have hjf : j < (frzL fs 0 l).length := by rw [qij]; exact hj
    obtain ⟨B, h1, h2⟩ := qpy (List.getElem?_eq_getElem hjf)
    rw [hB'] at h1
    simp only [Option.some.injEq] at h1; subst h1
    rw [List.getElem?_eq_getElem hjf, h2]
    split <;> rfl
  obtain ⟨b0, g1, g2, g3⟩ := hs.rel.blk j _ hB'
  have hR := hR2.reblk' (k := j) (cs := cs) (cs' := put cs q y) hBf (by rw [qcl, List.length_set]) (by
    intro b1 hb1
    rw [hnm, g1] at hb1
    simp only [List.cons.injEq, View.mk.injEq, Option.some.injEq, Addr.mk.injEq, and_true] at hb1
    subst hb1
    refine ⟨by rw [qcl, List.length_set]; exact g2.1, fun hb => by (cases hb), fun i x' hi hx' => ?_⟩
    by_cases hiq : i = q
    · subst hiq
      have hlt : i < cs.length := by have := (List.getElem?_eq_some_iff.1 hx').1; rw [qcl, List.length_set] at this; exact this
      rw [qcl, List.getElem?_set_self hlt] at hx'
      simp only [Option.some.injEq] at hx'; subst hx'
      obtain ⟨a1, v1, k1, k2, k3⟩ := g2.2.2 i _ hi (List.getElem?_eq_getElem hlt)
      refine ⟨a1, v1, k1, k2, hfz _ _ ?_ hr v1 k3⟩
      rw [qdj, List.getD_eq_getElem?_getD, List.getElem?_eq_getElem hlt] at hy
      exact hy
    · rw [qcl, List.getElem?_set_ne (fun e => hiq e.symm)] at hx'
      obtain ⟨a1, v1, k1, k2, k3⟩ := g2.2.2 i _ hi hx'
      exact ⟨a1, v1, k1, k2, qek (hle _) hs.rel.out _ _ k3⟩)
  exact Wp.mono (h c kl hc N W0 _ rr a W ⟨hR, hE, hM⟩ (hrr.le (hle _)) (by simp only [List.length_set, qij]; exact hm)) fun _ _ _ q => q.le (hle _)
end
theorem s_qA {p : Prop} (h : p := by repeat' (first | exact trivial | exact SubB.rfl | exact Sub.rfl | refine And.intro ?_ ?_ | (exact SubB.c (by with_reducible assumption)) | refine SubB.c ?_ | exact SubB.r .rfl rfl rfl | exact SubB.r .rfl rfl (by assumption) | exact SubM.nil | refine SubM.cons ?_ ?_ ?_ | refine SubB.m ?_ | exact qdy | exact SubL.nil | refine SubL.cons ?_ ?_ | exact qan rfl | refine qbj ?_ | refine qfi ?_ | exact qez rfl rfl | exact qav rfl rfl | exact qqu rfl | exact qtf rfl | exact qkl rfl | exact qsi rfl | (refine qan ?_; simp only [Z.v]; omega) | (refine qrg ?_; assumption) | (refine qqu ?_; assumption) | (refine qtf ?_; assumption))) : p := h
end Cz
namespace Cz
open Go Go.RowKit Go.Proofs
namespace Pa
theorem qzacz {l' : List Blk} {g : Nat → Nat} {ks : List (Option Nat)} : ∀ {vs : List SV}, refsBL (fun _ => false) vs = true → FzL l' g ks vs vs
  | [], _ => .nil
  | x :: xs, h => by
    simp only [refsBL, Bool.and_eq_true] at h
    exact .cons (.sub .rfl h.1) (qzacz h.2)
theorem fzL_mid {l' : List Blk} {g : Nat → Nat} {ks : List (Option Nat)} {y y' : SV} {vs : List SV} (hy : Fz l' g ks y y') (hv : refsBL (fun _ => false) vs = true) : ∀ {pre : List SV}, refsBL (fun _ => false) pre = true → FzL l' g ks (pre ++ y :: vs) (pre ++ y' :: vs)
  | [], _ => .cons hy (qzacz hv)
  | x :: xs, h => by
    simp only [refsBL, Bool.and_eq_true] at h
    exact .cons (.sub .rfl h.1) (fzL_mid hy hv h.2)
theorem qzabp {g : FuncId} {rest : List SV} {b : List Int} {F : List SV} {pre vs : List SV} {n : Int} (h : (S0 Tryd.prog).call g (.sl 0 1 (.l 0) (.y (ilen b)) none :: rest) [.r true true (.l 0) 1 (cellsB b)] (OwnP 1 1 F pre vs)) (hpl : plains F = true) (hn : n * 1 = F.length)
    (hr : refsBL (fun _ => false) rest = true) (hpre : refsBL (fun _ => false) pre = true) (hvs : refsBL (fun _ => false) vs = true) : (S0 Tryd.prog).call g (.v false 1 (cellsB b) (.y (ilen b)) :: rest) [] (Tell (mkP pre vs (.v false 1 F (.y n)))) := by
  refine s_thaw rfl 0 (args := .v false 1 (cellsB b) (.y (ilen b)) :: rest) (lit := false) (sz := 1) (F := cellsB b) (n := .y (ilen b)) rfl (by simp only [refsBL, refsB, Bool.true_and]; exact qbp (fun _ h => by cases h) _ hr) ?_
  show (S0 Tryd.prog).call g (.sl 0 1 (.l 0) (.y (ilen b)) none :: rest) [.r true false (.l 0) 1 (cellsB b)] _
  have h2 : (S0 Tryd.prog).call g (.sl 0 1 (.l 0) (.y (ilen b)) none :: rest) [.r true false (.l 0) 1 (cellsB b)] (OwnP 1 1 F pre vs) := by
    intro N W0 ρ W vals hR hd
    exact h N W0 ρ W vals (hR.sub rfl fun k B' hB => by
      cases k with
      | zero => simp only [List.getElem?_cons_zero, Option.some.injEq] at hB; subst hB; exact ⟨_, rfl, .r .rfl rfl (qai b)⟩
      | succ k => simp at hB) hd
  refine qay h2 fun x l' ⟨y, hs, hy⟩ => ⟨_, hs, fun g => ?_⟩
  have hy2 : Fz l' g [] y (.v false 1 F (.y n)) := by
    rcases hy with ⟨rfl, hF⟩ | ⟨k, m, lit, st, F', _, rfl, hB, hsub, hp', hm⟩
    · subst hF
      exact .nil (by decide) (by simp only [Z.v]; simpa using hn)
    · refine .row hB rfl (.fsub ?_ hpl) hpl (show m.v = n by omega)
      rw [show (Z.l 0).v.toNat * 1 = 0 from rfl, List.drop_zero, List.take_of_length_le]
      · exact hsub
      · have := hsub.1; omega
  unfold mkP
  rw [qdh, qdh]
  exact .tp (fzL_mid hy2 hvs hpre)
section
variable {S : Sy} {bl : List Blk} {K : SV → List Blk → Prop} {b R : List Int} {N e n kk p : Int} {F : List SV} {x : SV}
theorem qbw (hS : S0 Tryd.prog = S) (kk p : Int) {zk : Z} (hzk : zk.v = kk) (hx : Sub x (.v false 1 (cellsB b) (.y (ilen b)))) (hb : Hu.BOk b) (hl : ilen b ≤ 1000000) (hk1 : 1 ≤ kk) (hk8 : kk ≤ 8) (hp : 2 ^ kk.toNat = p) (hN : preN b p = N) (hE : preE b p = e) (hR : preR b p = R) (hF : cellsB R = F) (hn : n = ilen R)
    (hK : K (.tp [.i .i64 (.y N), .v false 1 F (.y n), .i .i64 (.y e)]) bl) : S.call 94 [x, .i .i64 zk] bl K := by
  subst hN hE hR hF hn
  exact qdb hS (qzabp (rptake_f hb hl hk1 hk8 hp) (qai _) (qef _) rfl rfl rfl) (.cons hx (.cons (qan hzk) .nil)) rfl hK
theorem qbg (hS : S0 Tryd.prog = S) {t : List UInt8} (hx : Sub x (.v false 1 (cellsB b) (.y (ilen b)))) (hb : Hu.BOk b) (hl : ilen b ≤ 1000000) (ht : strB (tS b) = t) (hE : tE b = e) (hR : tR b = R) (hF : cellsB R = F) (hn : n = ilen R)
    (hK : K (.tp [.s t, .v false 1 F (.y n), .i .i64 (.y e)]) bl) : S.call 109 [x] bl K := by
  subst ht hE hR hF hn
  exact qdb hS (qzabp (rttake_f hb hl) (qai _) (qef _) rfl rfl rfl) (.cons hx .nil) rfl hK
end
end Pa
end Cz
namespace Cz
open Go Go.RowKit Go.Proofs
namespace Pa
open Tb
theorem takeL_len {d : List Int} (hd : Hu.BOk d) : ilen (takeL d) ≤ 8 * ilen d := by
  have h0 := qah d
  have htd : (takeE d = 0 ∧ Hu.put (takeL d) = d ∧ Hu.BOk (takeL d)) ∨ (takeE d = 70 ∧ takeL d = []) := by
    cases ht : Hu.take d with
    | some o =>
      obtain ⟨h1, h2⟩ := Hu.put_take hd ht
      refine .inl ?_
      unfold takeL takeE; rw [ht]; exact ⟨rfl, h1, h2⟩
    | none => refine .inr ?_; unfold takeL takeE; rw [ht]; exact ⟨rfl, rfl⟩
  rcases htd with ⟨_, h1, h2⟩ | ⟨_, h1⟩
  · have h3 := put_il2 (takeL d)
    rw [h1] at h3
    have h4 : 5 * ilen (takeL d) ≤ bitsI (takeL d) (ilen (takeL d)) := by
      rw [show bitsI (takeL d) (ilen (takeL d)) = Hu.nbits (takeL d) by unfold bitsI; rw [qbx (by omega)]]
      unfold Hu.nbits Hu.enc
      generalize takeL d = l
      induction l with
      | nil => simp [ilen]
      | cons v l ih =>
        have := qzaau v
        unfold clsI at this
        unfold ilen at ih ⊢
        simp only [List.flatMap_cons, List.length_append, List.length_cons, Hu.cod, Hu.qbn] at ih ⊢
        omega
    omega
  · rw [h1, qkr]; omega
theorem qwy {b : List Int} (hb : Hu.BOk b) : ilen (tS b) ≤ 8 * ilen b := by
  have h0 := qah b
  have hR := qkq (b := b) (p := 128)
  have hp : ∀ n, ilen (part (preR b 128) 0 n) ≤ ilen b := by
    intro n
    unfold part ilen at *
    rw [List.length_take, List.length_drop]; omega
  unfold tS tTake
  split
  · rw [qkr]; omega
  · split
    · rw [qkr]; omega
    · split
      · have := hp (preN b 128); dsimp only; omega
      · split
        · have h1 := takeL_len (qpb (o := 0) (n := preN b 128) (qeg (p := 128) hb))
          have := hp (preN b 128); dsimp only; omega
        · rw [qkr]; omega
theorem qhx (b : List Int) : ilen (strB b) = ilen b := by unfold strB ilen; rw [List.length_map]
theorem qzadw {l : List Fd} {i m : Int} (hl : fullL l ≤ m) (hm : 100 ≤ m) : szF (atR l i).1 ≤ m := by
  unfold atR
  split
  · show szF ([], []) ≤ m
    simp [szF, ilen]; omega
  · split
    · rename_i f hf
      unfold allF at hf
      rcases Nat.lt_or_ge (i - 1).toNat stL.length with h | h
      · rw [List.getElem?_append_left h] at hf
        have hall : ∀ f ∈ stL, szF f ≤ 100 := by decide
        have := hall f (List.mem_of_getElem? hf)
        show szF f ≤ m
        omega
      · rw [List.getElem?_append_right h] at hf
        have := qmw hf
        show szF f ≤ m
        omega
    · show szF ([], []) ≤ m
      simp [szF, ilen]; omega
theorem lit_len {l : List Fd} {a : Bool} {i : Int} {b : List Int} (hb : Hu.BOk b) (hl : fullL l ≤ 4096) : szF (litU l a i b).f ≤ 16 * ilen b + 5000 := by
  have h0 := qah b
  obtain ⟨g1, g2, g3⟩ := tT_ok hb
  have h1 := qwy hb
  have h2 := qwy g2
  have h3 : szF (atR l i).1 ≤ 4096 := qzadw hl (by decide)
  have hz : szF (nxE 0).f = 32 := rfl
  have h4 := qah (atR l i).1.1
  have h5 := qah (atR l i).1.2
  unfold szF at h3
  unfold litU
  split
  · split
    · show szF ([], []) ≤ _; simp [szF, ilen]; unfold ilen at h0; omega
    · split
      · show szF ([], []) ≤ _; simp [szF, ilen]; unfold ilen at h0; omega
      · unfold szF; dsimp only; rw [qhx]; omega
  · split
    · show szF ([], []) ≤ _; simp [szF, ilen]; unfold ilen at h0; omega
    · split
      · show szF ([], []) ≤ _; simp [szF, ilen]; unfold ilen at h0; omega
      · unfold szF; dsimp only; rw [qhx, qhx]; omega
theorem nxt_len {l : List Fd} {b : List Int} (hb : Hu.BOk b) (hl : fullL l ≤ 4096) : szF (nxtU l b).f ≤ 16 * ilen b + 5000 := by
  have h0 := qah b
  have hlt := qkq (b := b) (p := powU (b.getD 0 0))
  have hok := qeg (p := powU (b.getD 0 0)) hb
  have hz : ∀ e, szF (nxE e).f ≤ 16 * ilen b + 5000 := fun e => by show szF ([], []) ≤ _; simp [szF, ilen]; unfold ilen at h0; omega
  have ha : szF (atR l (preN b (powU (b.getD 0 0)))).1 ≤ 4096 := qzadw hl (by decide)
  have hL := fun a => lit_len (l := l) (a := a) (i := preN b (powU (b.getD 0 0))) hok hl
  unfold nxtU
  split
  · exact hz _
  · unfold nxtC
    split
    · split
      · exact hz _
      · show szF (atR l _).1 ≤ _; omega
    · split
      · have := hL true; omega
      · split
        · exact hz 0
        · have := hL false; omega
theorem pgo_lt {b : List Int} : ∀ (f : Nat) (a n : Int), (pgo b f a n).1 < 2147483648
  | 0, a, n => by simp [pgo]
  | f + 1, a, n => by
    rw [pgo]
    split
    · simp
    · split
      · simp
      · split
        · dsimp only; omega
        · exact pgo_lt f _ _
theorem qyz {b : List Int} {p : Int} (hp : 1 ≤ p) (hp1 : p ≤ 256) : preN b p < 2147483648 := by
  unfold preN preI
  split
  · simp
  · split
    · dsimp only; omega
    · exact pgo_lt _ _ _
section
variable {l : List Fd} {b : List Int} {c : Int}
theorem nx_128 (hc : b.getD 0 0 = c) (h : 128 ≤ c) : nxtU l b = if preE b 128 ≠ 0 then nxE (preE b 128) else if (atR l (preN b 128)).2 ≠ 0 then nxE (atR l (preN b 128)).2 else ⟨0, false, false, 0, (atR l (preN b 128)).1, preR b 128⟩ := by
  have hp : powU c = 128 := by unfold powU; rw [if_pos h]
  unfold nxtU; rw [hc, hp]
  unfold nxtC; rw [if_pos h]
theorem nx_64 (hc : b.getD 0 0 = c) (h : c < 128) (h' : 64 ≤ c) : nxtU l b = if preE b 64 ≠ 0 then nxE (preE b 64) else litU l true (preN b 64) (preR b 64) := by
  have hp : powU c = 64 := by unfold powU; rw [if_neg (by omega), if_pos h']
  unfold nxtU; rw [hc, hp]
  unfold nxtC; rw [if_neg (show ¬128 ≤ c by omega), if_pos h']
theorem nx_32 (hc : b.getD 0 0 = c) (h : c < 64) (h' : 32 ≤ c) : nxtU l b = if preE b 32 ≠ 0 then nxE (preE b 32) else ⟨0, true, false, preN b 32, ([], []), preR b 32⟩ := by
  have hp : powU c = 32 := by unfold powU; rw [if_neg (by omega), if_neg (by omega), if_pos h']
  unfold nxtU; rw [hc, hp]
  unfold nxtC; rw [if_neg (show ¬128 ≤ c by omega), if_neg (show ¬64 ≤ c by omega), if_pos h']
theorem nx_16 (hc : b.getD 0 0 = c) (h : c < 32) : nxtU l b = if preE b 16 ≠ 0 then nxE (preE b 16) else litU l false (preN b 16) (preR b 16) := by
  have hp : powU c = 16 := by unfold powU; rw [if_neg (by omega), if_neg (by omega), if_neg (by omega)]
  unfold nxtU; rw [hc, hp]
  unfold nxtC; rw [if_neg (show ¬128 ≤ c by omega), if_neg (show ¬64 ≤ c by omega), if_neg (show ¬32 ≤ c by omega)]
end
theorem step_e {most : Int} {s : Un} {x : Nx} (h : x.e ≠ 0) : stepU most s x = (x.e, s) := by unfold stepU; rw [if_pos h]
theorem step_f {most : Int} {s : Un} {x : Nx} (h : x.e = 0) (h2 : x.sized = false) : stepU most s x = (0, tellU s x) := by unfold stepU; rw [if_neg (by simpa using h), if_neg (by simp [h2])]
theorem step_s {most : Int} {s : Un} {x : Nx} (h : x.e = 0) (h2 : x.sized = true) : stepU most s x = if 0 < s.size ∨ most < x.size then (100, s) else (0, ⟨x.rest, x.size, evL x.size s.l, s.out, s.size⟩) := by unfold stepU; rw [if_neg (by simpa using h), if_pos h2]
theorem go_E {most e : Int} {s t : Un} {x : Nx} (hx : nxtU s.l s.b = x) (hb : s.b ≠ []) (hg : goU most s = (e, t)) (h : (stepU most s x).1 ≠ 0) : e = (stepU most s x).1 := by
  subst hx
  rw [go_err hb h] at hg
  rw [hg]
theorem go_S {most e : Int} {s t u : Un} {x : Nx} (hx : nxtU s.l s.b = x) (hok : Hu.BOk s.b) (hb : s.b ≠ []) (hg : goU most s = (e, t)) (h : stepU most s x = (0, u)) : goU most u = (e, t) := by
  subst hx
  have h1 : (stepU most s (nxtU s.l s.b)).1 = 0 := by rw [h]
  rw [go_step hok hb h1, h] at hg
  exact hg
structure UnOk (B : Int) (s : Un) : Prop where
  b : Hu.BOk s.b
  len : ilen s.b ≤ 60000
  right : rightL s.mx s.l = true
  s0 : 0 ≤ s.size
  size : s.size + 17000000 * ilen s.b ≤ B
  o1 : fullL s.out ≤ s.size
  o2 : fullL s.out ≤ 2000
theorem qzh {B : Int} {s : Un} {x : Nx} (h : UnOk B s) (hx : nxtU s.l s.b = x) (he : x.e = 0) : Hu.BOk x.rest ∧ ilen x.rest < ilen s.b := by
  subst hx; exact nxt_ok h.b he
theorem ok_tell {B : Int} {s : Un} {x : Nx} (h : UnOk B s) (hx : nxtU s.l s.b = x) (he : x.e = 0) : UnOk B (tellU s x) := by
  obtain ⟨h1, h2⟩ := qzh h hx he
  have hr := of_decide_eq_true h.right
  have hl := nxt_len (l := s.l) h.b (by omega)
  rw [hx] at hl
  have hp := qgr x.f
  have hn := h.len
  have hs := h.size
  have hs0 := h.s0
  have ho1 := h.o1
  have ho2 := h.o2
  refine ⟨h1, by dsimp only [tellU]; omega, ?_, by dsimp only [tellU]; omega, by dsimp only [tellU]; omega, ?_, ?_⟩
  · dsimp only [tellU]
    split
    · exact decide_eq_true ⟨hr.1, hr.2.1, qot hr.1⟩
    · exact h.right
  · dsimp only [tellU]
    split
    · omega
    · rw [qjw]; simp only [fullL]; omega
  · dsimp only [tellU]
    split
    · omega
    · rw [qjw]; simp only [fullL]; omega
theorem ok_size {B most : Int} {s : Un} {x : Nx} (h : UnOk B s) (hx : nxtU s.l s.b = x) (he : x.e = 0) (hm : most ≤ 4096) (h0 : 0 ≤ x.size) (h1 : x.size ≤ most) : UnOk B ⟨x.rest, x.size, evL x.size s.l, s.out, s.size⟩ := by
  obtain ⟨g1, g2⟩ := qzh h hx he
  have hn := h.len
  have hs := h.size
  exact ⟨g1, by dsimp only; omega, decide_eq_true ⟨h0, by dsimp only; omega, qot h0⟩, h.s0, by dsimp only; omega, h.o1, h.o2⟩
end Pa
end Cz
namespace Cz
open Go Go.RowKit Go.Proofs
namespace Pa
open Tb
def unV (r : (List Tb.Fd × Bool × Tab) × Int) : SV := .tp [.ag [.v false 2 (cellsF r.1.1) (.y (ilen r.1.1)), .b r.1.2.1, .i .i64 (.y r.1.2.2.1), .v false 2 (cellsF r.1.2.2.2) (.y (ilen r.1.2.2.2))], .i .i64 (.y r.2)]
theorem unE_fz {e : Int} {ze : Z} {l' : List Blk} (he : ze.v = e) : Tell (unV (([], false, (0, [])), e)) (.tp [.ag [.re (.slice none 0 0), .ff, .i .i64 (.l 0), .re (.slice none 0 0)], .i .i64 ze]) l' :=
  fun g => .sub (qbj (.cons (qfi (.cons (qqv (by decide) rfl rfl) (.cons (qtf rfl) (.cons (qan rfl) (.cons (qqv (by decide) rfl rfl) .nil))))) (.cons (qan he) .nil))) rfl
theorem runb_e {mx most : Int} {l : List Tb.Fd} {b : List Int} (hv : ¬(rightL mx l = true ∧ 0 ≤ most ∧ most ≤ 4096)) (hl : fullL l ≤ 10000000) :
    (S0 Tryd.prog).call 41 [tabV mx l, .i .i64 (.y most), .v false 1 (cellsB b) (.y (ilen b))] [] (Tell (unV (([], false, (0, [])), 2))) := by
  unfold tabV
  generalize hG : cellsF l = G
  obtain ⟨k, hk⟩ : ∃ k, k = ilen l := ⟨_, rfl⟩
  generalize hF : cellsB b = F
  obtain ⟨n, hn⟩ : ∃ k, k = ilen b := ⟨_, rfl⟩
  obtain ⟨ri, hri⟩ : ∃ r, rightL mx l = r := ⟨_, rfl⟩
  obtain ⟨x, hx⟩ : ∃ x, unV (([], false, (0, [])), 2) = x := ⟨_, rfl⟩
  rw [← hk, ← hn, hx]
  rw [hri] at hv
  generalize hS : S0 Tryd.prog = S
  refine qaa hS I.qfa ?_
  cbv
  refine qko hS (.v (z := .y mx) (n := .y k) rfl hG hk) hri (by omega) ?_
  cbv
  repeat' (first
    | (refine qbl hS rfl ?_; try cbv)
    | (refine s_ck hS ?_; try cbv)
    | (refine qad hS ?_ ?_ <;> intro h <;> (try cbv) <;> try exact s_ab h)
    | (refine s_ad hS ?_; intro _ _; try cbv)
    | (refine s_sb hS ?_; intro _ _; try cbv)
    | (refine qaq hS ?_; intro _ _; try cbv)
    | (refine qaf hS ?_; try cbv)
    | (refine qbk hS ?_; try cbv)
    | (refine s_lk hS ?_; try cbv)
    | (refine s_mu hS ?_; try cbv)
    | fail)
  all_goals first
    | (subst hx; exact unE_fz rfl)
    | (exfalso; exact hv ⟨by assumption, by omega, by omega⟩)
theorem runb_k {mx most : Int} {l : List Tb.Fd} {b : List Int} {e : Int} {s : Un} (hr : goU most ⟨b, mx, l, [], 0⟩ = (e, s)) (hR : rightL mx l = true) (h0 : 0 ≤ most) (h1 : most ≤ 4096) (hb : Hu.BOk b) (hbl : ilen b ≤ 60000) :
    (S0 Tryd.prog).call 41 [tabV mx l, .i .i64 (.y most), .v false 1 (cellsB b) (.y (ilen b))] [] (Tell (if e ≠ 0 then unV (([], false, (0, [])), e) else unV ((s.out, decide (2000 < s.size), (s.mx, s.l)), 0))) := by
  have hl0 := qdi hR
  have hR' := of_decide_eq_true hR
  unfold tabV
  generalize hG : cellsF l = G
  obtain ⟨k, hk⟩ : ∃ k, k = ilen l := ⟨_, rfl⟩
  have h0n := qah b
  generalize hF : cellsB b = F
  obtain ⟨n, hn⟩ : ∃ k, k = ilen b := ⟨_, rfl⟩
  have hres : resR (mx, l) mx = ((mx, l), 0) := by unfold resR; rw [if_pos ⟨hR, hR'.1, hR'.2.1⟩]; dsimp only; rw [qzafb hR'.2.2]
  obtain ⟨x, hx⟩ : ∃ x, (if e ≠ 0 then unV (([], false, (0, [])), e) else unV ((s.out, decide (2000 < s.size), (s.mx, s.l)), 0)) = x := ⟨_, rfl⟩
  rw [← hk, ← hn, hx]
  generalize hS : S0 Tryd.prog = S
  refine qaa hS I.qfa ?_
  cbv
  refine qko hS (.v (z := .y mx) (n := .y k) rfl hG hk) hR (by omega) ?_
  cbv
  repeat' (first
    | (refine qbl hS rfl ?_; try cbv)
    | (refine s_ck hS ?_; try cbv)
    | (refine qad hS ?_ ?_ <;> intro h <;> (try cbv) <;> try exact s_ab h)
    | (refine s_ad hS ?_; intro _ _; try cbv)
    | (refine s_sb hS ?_; intro _ _; try cbv)
    | (refine qaq hS ?_; intro _ _; try cbv)
    | (refine qaf hS ?_; try cbv)
    | (refine rres_g hS (.v (z := .y mx) (n := .y k) rfl hG hk) hres hG hk (by omega) ?_; cbv)
    | (refine qbk hS ?_; try cbv)
    | (refine s_lk hS ?_; try cbv)
    | (refine s_mu hS ?_; try cbv)
    | fail)
  have e0 : S.app [] F = F := app_nil hS F
  have hFl : ilen F = n := by rw [← hF, qbc, hn]
  have hFp : plains F = true := hF ▸ qai b
  refine s_loop_frz hS [2] 3 0 (y := .v false 1 F (.y n)) rfl (qxp rfl rfl ?_ hFp rfl) rfl ?_
  · show ((S.app [] F).drop ((Z.l 0).v.toNat * 1)).take (n.toNat * 1) = F
    rw [e0, show (Z.l 0).v.toNat * 1 = 0 from rfl, List.drop_zero, List.take_of_length_le]
    unfold ilen at hFl; omega
  cbv
  refine qtm hS 3 1 2 (by decide) rfl rfl ?_
  cbv
  refine qau hS 5 I.qhl (fun x : Un × List SV × Int × List SV × Int × List SV × Int × Int × Bool × Bool =>
      goU most x.1 = (e, s) ∧ UnOk 17000000000000 x.1 ∧ cellsB x.1.b = x.2.1 ∧ x.2.2.1 = ilen x.1.b ∧ cellsF x.1.l = x.2.2.2.1 ∧ x.2.2.2.2.1 = ilen x.1.l ∧ cellsF x.1.out = x.2.2.2.2.2.1 ∧ x.2.2.2.2.2.2.1 = ilen x.1.out ∧ x.2.2.2.2.2.2.2.2.1 = decide (2000 < x.1.size) ∧ x.2.2.2.2.2.2.2.2.2 = decide (0 < x.1.size)) (fun _ => [])
    (fun x => [(3, .c [.v false 1 x.2.1 (.y x.2.2.1), .sl 4 2 (.l 0) (.y x.2.2.2.2.2.2.1) none, .b x.2.2.2.2.2.2.2.2.1, .i .i64 (.y x.1.mx), .v false 2 x.2.2.2.1 (.y x.2.2.2.2.1), .i .i64 (.y x.1.size), .b x.2.2.2.2.2.2.2.2.2]), (4, .r false false (.y x.2.2.2.2.2.2.2.1) 2 x.2.2.2.2.2.1)])
    (fun x => x.1.b.length) (⟨b, mx, l, [], 0⟩, F, n, G, k, [], 0, 0, false, false) rfl
    ⟨⟨hr, ⟨hb, hbl, hR, Int.le_refl _, by dsimp only; omega, Int.le_refl _, (show (0 : Int) ≤ 2000 by decide)⟩, hF, hn, hG, hk, rfl, rfl, rfl, rfl⟩, rfl, ?_, ?_, by cbv⟩ ?_
  · cbv; exact s_qA
  · cbv; exact s_qA
  intro x
  obtain ⟨⟨b', mx', l', out', sz'⟩, B, bn, T, tn, O, on, st, lg, an⟩ := x
  intro hx'
  dsimp only at hx'
  cbv
  obtain ⟨g1, ok, g3, g4, g5, g6, g7, g8, g9, g10⟩ := hx'
  have hbok : Hu.BOk b' := ok.b
  have hbl0 : ilen b' ≤ 60000 := ok.len
  have hbl' : ilen b' ≤ 1000000 := by omega
  have hR2 : rightL mx' l' = true := ok.right
  have hs0 : 0 ≤ sz' := ok.s0
  have hsz : sz' + 17000000 * ilen b' ≤ 17000000000000 := ok.size
  have hl2 := qdi hR2
  have hR3 := of_decide_eq_true hR2
  have ho1 : fullL out' ≤ sz' := ok.o1
  have ho2 : fullL out' ≤ 2000 := ok.o2
  have ho3 := qco out'
  have hn0 := qah b'
  have hOl : ilen O = on * 2 := by rw [← g7, g8]; have := qhq out'; unfold ilen; omega
  have hon0 := qah out'
  refine qad hS ?_ ?_ <;> intro hz <;> cbv
  · have hne : b' ≠ [] := by intro h; rw [h] at g4; unfold ilen at g4; simp at g4; omega
    obtain ⟨c, hc⟩ := qfe (l := b') (i := 0) (by omega) (Int.le_refl _)
    have hcd : b'.getD 0 0 = c := by rw [List.getD_eq_getElem?_getD]; rw [show (0 : Int).toNat = 0 from rfl] at hc; rw [hc]; rfl
    have hcb := hbok c (List.mem_of_getElem? hc)
    refine qaa hS I.qgc ?_
    cbv
    have errL : ∀ (e' : Int) (y : Nx) (ze : Z) (l'' : List Blk), nxtU l' b' = y → (stepU most ⟨b', mx', l', out', sz'⟩ y).1 = e' → e' ≠ 0 → ze.v = e' → ∀ g, Fz l'' g [] (.tp [.ag [.re (.slice none 0 0), .ff, .i .i64 (.l 0), .re (.slice none 0 0)], .i .i64 ze]) x := by
      intro e' y ze l'' hy he hn0 hz
      have := go_E (s := ⟨b', mx', l', out', sz'⟩) hy hne g1 (by rw [he]; exact hn0)
      rw [he] at this
      subst this hx
      rw [if_pos hn0]
      exact unE_fz hz
    have telL : ∀ (y : Nx), nxtU l' b' = y → y.e = 0 → y.sized = false → goU most (tellU ⟨b', mx', l', out', sz'⟩ y) = (e, s) ∧ UnOk 17000000000000 (tellU ⟨b', mx', l', out', sz'⟩ y) ∧ y.rest.length < b'.length := by
      intro y hy he h2
      refine ⟨go_S (s := ⟨b', mx', l', out', sz'⟩) hy hbok hne g1 (step_f he h2), ok_tell ok hy he, ?_⟩
      have := (qzh ok hy he).2
      unfold ilen at this; dsimp only at this; omega
    have fin : ∀ (R : List Int) (f : Tb.Fd) (a : Bool) (l2 : List Tb.Fd) (z : Int), nxtU l' b' = ⟨0, false, a, 0, f, R⟩ → z = szF f → (if a = true then evL mx' (f :: l') else l') = l2 → ∀ r, r = sz' + z →
        (2000 < r → goU most ⟨R, mx', l2, out', r⟩ = (e, s) ∧ UnOk 17000000000000 ⟨R, mx', l2, out', r⟩ ∧ R.length < b'.length) ∧ (¬2000 < r → goU most ⟨R, mx', l2, out' ++ [f], r⟩ = (e, s) ∧ UnOk 17000000000000 ⟨R, mx', l2, out' ++ [f], r⟩ ∧ R.length < b'.length) := by
      intro R f a l2 z hy hz hl2 r hr2
      have h := telL _ hy rfl rfl
      unfold tellU at h
      dsimp only at h
      rw [hl2, ← hz, ← hr2] at h
      exact ⟨fun h3 => by rwa [if_pos h3] at h, fun h3 => by rwa [if_neg h3] at h⟩
    have errN : ∀ (e' : Int) (l'' : List Blk), nxtU l' b' = nxE e' → e' ≠ 0 → ∀ g, Fz l'' g [] (.tp [.ag [.re (.slice none 0 0), .ff, .i .i64 (.l 0), .re (.slice none 0 0)], .i .i64 (.y e')]) x := by
      intro e' l'' hy h
      exact errL e' _ (.y e') l'' hy (by rw [step_e (x := nxE e') h]; rfl) h rfl
    by_cases c7 : 128 ≤ c
    · have hX := nx_128 (l := l') hcd c7
      obtain ⟨N, hN⟩ : ∃ r, preN b' 128 = r := ⟨_, rfl⟩
      have hN0 := qpo (p := 128) hbok (by decide)
      have hN1 := qyz (b := b') (p := 128) (by decide) (by decide)
      rw [hN] at hN0 hN1
      obtain ⟨E, hE⟩ : ∃ r, preE b' 128 = r := ⟨_, rfl⟩
      obtain ⟨R, hR'⟩ : ∃ r, preR b' 128 = r := ⟨_, rfl⟩
      obtain ⟨FR, hFR⟩ : ∃ r, cellsB R = r := ⟨_, rfl⟩
      obtain ⟨nR, hnR⟩ : ∃ r, r = ilen R := ⟨_, rfl⟩
      obtain ⟨⟨⟨xa, xb⟩, xe⟩, hat⟩ : ∃ r, atR l' N = r := ⟨_, rfl⟩
      have hzb : szF (atR l' N).1 ≤ 4096 := qzadw (by omega) (by decide)
      rw [hat] at hzb
      rw [hN, hE, hR', hat] at hX
      obtain ⟨z, hz'⟩ : ∃ z, z = szF (xa, xb) := ⟨_, rfl⟩
      dsimp only at hX hzb
      rw [← hz'] at hzb
      have hzp := qgr (xa, xb)
      rw [← hz'] at hzp
      by_cases hE0 : E = 0
      · rw [if_neg (by simpa using hE0)] at hX
        by_cases hx0 : xe = 0
        · rw [if_neg (by simpa using hx0)] at hX
          have fin := fin _ _ _ _ z hX hz' rfl
          rw [if_neg (by simp)] at fin
          repeat' (first
            | (refine qbl hS rfl ?_; try cbv)
            | (refine s_ck hS ?_; try cbv)
            | (refine qad hS ?_ ?_ <;> intro h <;> (try cbv) <;> try exact s_ab h)
            | (refine s_ad hS ?_; intro _ _; try cbv)
            | (refine s_sb hS ?_; intro _ _; try cbv)
            | (refine qaq hS ?_; intro _ _; try cbv)
            | (refine qaf hS ?_; try cbv)
            | (refine rowB hS g3 hc rfl (by omega) ?_; cbv)
            | (refine qaa hS I.qab ?_; cbv)
            | (refine qbw hS 7 128 rfl (qav g3.symm g4) hbok hbl' (by decide) (by decide) rfl hN hE hR' hFR hnR ?_; cbv)
            | (refine qky hS (.v (z := .y mx') (n := .y tn) rfl g5 g6) hat (by dsimp only [Z.v]; omega) (by dsimp only [Z.v]; omega) (by omega) ?_; cbv)
            | (refine qaa hS I.qbh ?_; cbv)
            | (refine qma hS hz' (by omega) ?_; cbv)
            | (refine qao hS rfl I.qba (by decide +kernel) ?_; cbv)
            | (refine qao hS rfl I.qaz (by decide +kernel) ?_; cbv)
            | (refine qbk hS ?_; try cbv)
            | (refine s_lk hS ?_; try cbv)
            | (refine s_mu hS ?_; try cbv)
            | fail)
          all_goals first
            | (rename_i r hr2 h3
               obtain ⟨q1, q2, q3⟩ := (fin r hr2).1 h3
               refine ⟨(⟨R, mx', l', out', r⟩, FR, nR, T, tn, O, on, st, true, true), q3, ⟨q1, q2, hFR, hnR, g5, g6, g7, g8, (decide_eq_true h3).symm, (decide_eq_true (show 0 < r by omega)).symm⟩, rfl, ?_, ?_, by cbv⟩
               · cbv; exact s_qA
               · cbv; exact s_qA)
            | (rename_i r hr2
               have h3 := h
               obtain ⟨q1, q2, q3⟩ := (fin r hr2).1 h3
               refine ⟨(⟨R, mx', l', out', r⟩, FR, nR, T, tn, O, on, st, true, true), q3, ⟨q1, q2, hFR, hnR, g5, g6, g7, g8, (decide_eq_true h3).symm, (decide_eq_true (show 0 < r by omega)).symm⟩, rfl, ?_, ?_, by cbv⟩
               · cbv; exact s_qA
               · cbv; exact s_qA)
            | (rename_i r hr2 h3 h4
               obtain ⟨q1, q2, q3⟩ := (fin r hr2).2 h3
               have e1 : S.app O [.s xa, .s xb] = cellsF (out' ++ [(xa, xb)]) := by rw [← g7, qwu hS]; simp [cellsF, fdE]
               have e2 : S.pl on 1 = ilen (out' ++ [(xa, xb)]) := by rw [qbf, g8]; subst hS; rfl
               refine ⟨(⟨R, mx', l', out' ++ [(xa, xb)], r⟩, FR, nR, T, tn, S.app O [.s xa, .s xb], S.pl on 1, S.flen O, lg, true), q3, ⟨q1, q2, hFR, hnR, g5, g6, e1.symm, e2, h4.trans (decide_eq_false h3).symm, (decide_eq_true (show 0 < r by omega)).symm⟩, rfl, ?_, ?_, by cbv⟩
               · cbv; exact s_qA
               · cbv; exact s_qA)
            | (rename_i r hr2 h3
               have h4 := h
               obtain ⟨q1, q2, q3⟩ := (fin r hr2).2 h3
               have e1 : S.app O [.s xa, .s xb] = cellsF (out' ++ [(xa, xb)]) := by rw [← g7, qwu hS]; simp [cellsF, fdE]
               have e2 : S.pl on 1 = ilen (out' ++ [(xa, xb)]) := by rw [qbf, g8]; subst hS; rfl
               refine ⟨(⟨R, mx', l', out' ++ [(xa, xb)], r⟩, FR, nR, T, tn, S.app O [.s xa, .s xb], S.pl on 1, S.flen O, lg, true), q3, ⟨q1, q2, hFR, hnR, g5, g6, e1.symm, e2, h4.trans (decide_eq_false h3).symm, (decide_eq_true (show 0 < r by omega)).symm⟩, rfl, ?_, ?_, by cbv⟩
               · cbv; exact s_qA
               · cbv; exact s_qA)
            | (rename_i r hr2 h3 h4
               rw [g9] at h4
               have := of_decide_eq_true h4
               exfalso; omega)
            | (rename_i r hr2 h3
               have h4 := h
               rw [g9] at h4
               have := of_decide_eq_true h4
               exfalso; omega)
        · rw [if_pos hx0] at hX
          repeat' (first
            | (refine qbl hS rfl ?_; try cbv)
            | (refine s_ck hS ?_; try cbv)
            | (refine qad hS ?_ ?_ <;> intro h <;> (try cbv) <;> try exact s_ab h)
            | (refine s_ad hS ?_; intro _ _; try cbv)
            | (refine s_sb hS ?_; intro _ _; try cbv)
            | (refine qaq hS ?_; intro _ _; try cbv)
            | (refine qaf hS ?_; try cbv)
            | (refine rowB hS g3 hc rfl (by omega) ?_; cbv)
            | (refine qaa hS I.qab ?_; cbv)
            | (refine qbw hS 7 128 rfl (qav g3.symm g4) hbok hbl' (by decide) (by decide) rfl hN hE hR' hFR hnR ?_; cbv)
            | (refine qky hS (.v (z := .y mx') (n := .y tn) rfl g5 g6) hat (by dsimp only [Z.v]; omega) (by dsimp only [Z.v]; omega) (by omega) ?_; cbv)
            | (refine qbk hS ?_; try cbv)
            | (refine s_lk hS ?_; try cbv)
            | (refine s_mu hS ?_; try cbv)
            | fail)
          all_goals first
            | exact errN xe _ hX hx0
      · rw [if_pos hE0] at hX
        repeat' (first
          | (refine qbl hS rfl ?_; try cbv)
          | (refine s_ck hS ?_; try cbv)
          | (refine qad hS ?_ ?_ <;> intro h <;> (try cbv) <;> try exact s_ab h)
          | (refine s_ad hS ?_; intro _ _; try cbv)
          | (refine s_sb hS ?_; intro _ _; try cbv)
          | (refine qaq hS ?_; intro _ _; try cbv)
          | (refine qaf hS ?_; try cbv)
          | (refine rowB hS g3 hc rfl (by omega) ?_; cbv)
          | (refine qaa hS I.qab ?_; cbv)
          | (refine qbw hS 7 128 rfl (qav g3.symm g4) hbok hbl' (by decide) (by decide) rfl hN hE hR' hFR hnR ?_; cbv)
          | (refine qbk hS ?_; try cbv)
          | (refine s_lk hS ?_; try cbv)
          | (refine s_mu hS ?_; try cbv)
          | fail)
        all_goals first
          | exact errN E _ hX hE0
    by_cases c6 : 64 ≤ c
    · have hR2' := hR2
      have hX := nx_64 (l := l') hcd (by omega) c6
      obtain ⟨N, hN⟩ : ∃ r, preN b' 64 = r := ⟨_, rfl⟩
      have hN0 := qpo (p := 64) hbok (by decide)
      have hN1 := qyz (b := b') (p := 64) (by decide) (by decide)
      rw [hN] at hN0 hN1
      obtain ⟨E, hE⟩ : ∃ r, preE b' 64 = r := ⟨_, rfl⟩
      obtain ⟨R, hR'⟩ : ∃ r, preR b' 64 = r := ⟨_, rfl⟩
      obtain ⟨FR, hFR⟩ : ∃ r, cellsB R = r := ⟨_, rfl⟩
      obtain ⟨nR, hnR⟩ : ∃ r, r = ilen R := ⟨_, rfl⟩
      obtain ⟨⟨⟨xa, xb⟩, xe⟩, hat⟩ : ∃ r, atR l' N = r := ⟨_, rfl⟩
      have hzb : szF (atR l' N).1 ≤ 4096 := qzadw (by omega) (by decide)
      rw [hat] at hzb
      rw [hN, hE, hR'] at hX
      obtain ⟨T1, hT1⟩ : ∃ r, strB (tS R) = r := ⟨_, rfl⟩
      obtain ⟨e1, he1⟩ : ∃ r, tE R = r := ⟨_, rfl⟩
      obtain ⟨R1, hR1⟩ : ∃ r, tR R = r := ⟨_, rfl⟩
      obtain ⟨FR1, hFR1⟩ : ∃ r, cellsB R1 = r := ⟨_, rfl⟩
      obtain ⟨nR1, hnR1⟩ : ∃ r, r = ilen R1 := ⟨_, rfl⟩
      obtain ⟨T2, hT2⟩ : ∃ r, strB (tS R1) = r := ⟨_, rfl⟩
      obtain ⟨e2, he2⟩ : ∃ r, tE R1 = r := ⟨_, rfl⟩
      obtain ⟨R2, hR2⟩ : ∃ r, tR R1 = r := ⟨_, rfl⟩
      obtain ⟨FR2, hFR2⟩ : ∃ r, cellsB R2 = r := ⟨_, rfl⟩
      obtain ⟨nR2, hnR2⟩ : ∃ r, r = ilen R2 := ⟨_, rfl⟩
      have hRo : Hu.BOk R := hR' ▸ qeg hbok
      have hR1o : Hu.BOk R1 := hR1 ▸ tR_ok hRo
      have hRl := qkq (b := b') (p := 64)
      have hR1l := (tT_ok hRo).2.2
      rw [hR'] at hRl
      rw [hR1] at hR1l
      have hT1l := qwy hRo
      rw [← qhx, hT1] at hT1l
      have hT2l := qwy hR1o
      rw [← qhx, hT2] at hT2l
      obtain ⟨z1, hz1⟩ : ∃ z, z = szF (xa, T1) := ⟨_, rfl⟩
      obtain ⟨z2, hz2⟩ : ∃ z, z = szF (T1, T2) := ⟨_, rfl⟩
      have hz1' : z1 = ilen xa + ilen T1 + 32 := hz1
      have hz2' : z2 = ilen T1 + ilen T2 + 32 := hz2
      have hzb' : ilen xa + ilen xb + 32 ≤ 4096 := hzb
      have n0 := qah xa
      have n1 := qah xb
      have n2 := qah T1
      have n3 := qah T2
      have had1 : addR (mx', l') (xa, T1) = ((mx', evL mx' ((xa, T1) :: l')), 0) := by unfold addR; rw [if_pos hR2']
      obtain ⟨l1, hl1⟩ : ∃ r, evL mx' ((xa, T1) :: l') = r := ⟨_, rfl⟩
      rw [hl1] at had1
      obtain ⟨A1, hA1⟩ : ∃ r, cellsF l1 = r := ⟨_, rfl⟩
      obtain ⟨m1, hm1⟩ : ∃ r, r = ilen l1 := ⟨_, rfl⟩
      have had2 : addR (mx', l') (T1, T2) = ((mx', evL mx' ((T1, T2) :: l')), 0) := by unfold addR; rw [if_pos hR2']
      obtain ⟨l2, hl2⟩ : ∃ r, evL mx' ((T1, T2) :: l') = r := ⟨_, rfl⟩
      rw [hl2] at had2
      obtain ⟨A2, hA2⟩ : ∃ r, cellsF l2 = r := ⟨_, rfl⟩
      obtain ⟨m2, hm2⟩ : ∃ r, r = ilen l2 := ⟨_, rfl⟩
      by_cases hE0 : E = 0
      · rw [if_neg (by simpa using hE0)] at hX
        unfold litU at hX
        by_cases hN2 : 0 < N
        · rw [if_pos hN2, hat] at hX
          dsimp only at hX
          by_cases hx0 : xe = 0
          · rw [if_neg (by simpa using hx0), he1, hT1, hR1] at hX
            by_cases h1 : e1 = 0
            · rw [if_neg (by simpa using h1)] at hX
              have fin := fin _ _ _ _ z1 hX hz1 rfl
              rw [if_pos rfl, hl1] at fin
              repeat' (first
                | (refine qbl hS rfl ?_; try cbv)
                | (refine s_ck hS ?_; try cbv)
                | (refine qad hS ?_ ?_ <;> intro h <;> (try cbv) <;> try exact s_ab h)
                | (refine s_ad hS ?_; intro _ _; try cbv)
                | (refine s_sb hS ?_; intro _ _; try cbv)
                | (refine qaq hS ?_; intro _ _; try cbv)
                | (refine qaf hS ?_; try cbv)
                | (refine rowB hS g3 hc rfl (by omega) ?_; cbv)
                | (refine qaa hS I.qab ?_; cbv)
                | (refine qbw hS 6 64 rfl (qav g3.symm g4) hbok hbl' (by decide) (by decide) rfl hN hE hR' hFR hnR ?_; cbv)
                | (refine qaa hS I.qag ?_; cbv)
                | (refine qaa hS I.qaj ?_; cbv)
                | (refine qky hS (.v (z := .y mx') (n := .y tn) rfl g5 g6) hat (by dsimp only [Z.v]; omega) (by dsimp only [Z.v]; omega) (by omega) ?_; cbv)
                | (refine qbg hS (qav hFR.symm hnR) hRo (by omega) hT1 he1 hR1 hFR1 hnR1 ?_; cbv)
                | (refine qbg hS (qav hFR1.symm hnR1) hR1o (by omega) hT2 he2 hR2 hFR2 hnR2 ?_; cbv)
                | (refine qao hS rfl I.qae (by decide +kernel) ?_; cbv)
                | (refine qaa hS I.qbh ?_; cbv)
                | (refine qma hS hz1 (by omega) ?_; cbv)
                | (refine qao hS rfl I.qba (by decide +kernel) ?_; cbv)
                | (refine qao hS rfl I.qaz (by decide +kernel) ?_; cbv)
                | (refine radd_g hS (.v (z := .y mx') (n := .y tn) rfl g5 g6) had1 hA1 hm1 (by omega) (by omega) ?_; cbv)
                | (refine radd_g hS (.v (z := .y mx') (n := .y tn) rfl g5 g6) had2 hA2 hm2 (by omega) (by omega) ?_; cbv)
                | (refine qbk hS ?_; try cbv)
                | (refine s_lk hS ?_; try cbv)
                | (refine s_mu hS ?_; try cbv)
                | fail)
              all_goals first
                | (rename_i r hr2 h3
                   obtain ⟨q1, q2, q3⟩ := (fin r hr2).1 h3
                   refine ⟨(⟨R1, mx', l1, out', r⟩, FR1, nR1, A1, m1, O, on, st, true, true), q3, ⟨q1, q2, hFR1, hnR1, hA1, hm1, g7, g8, (decide_eq_true h3).symm, (decide_eq_true (show 0 < r by omega)).symm⟩, rfl, ?_, ?_, by cbv⟩
                   · cbv; exact s_qA
                   · cbv; exact s_qA)
                | (rename_i r hr2
                   have h3 := h
                   obtain ⟨q1, q2, q3⟩ := (fin r hr2).1 h3
                   refine ⟨(⟨R1, mx', l1, out', r⟩, FR1, nR1, A1, m1, O, on, st, true, true), q3, ⟨q1, q2, hFR1, hnR1, hA1, hm1, g7, g8, (decide_eq_true h3).symm, (decide_eq_true (show 0 < r by omega)).symm⟩, rfl, ?_, ?_, by cbv⟩
                   · cbv; exact s_qA
                   · cbv; exact s_qA)
                | (rename_i r hr2 h3 h4
                   obtain ⟨q1, q2, q3⟩ := (fin r hr2).2 h3
                   have e1 : S.app O [.s xa, .s T1] = cellsF (out' ++ [(xa, T1)]) := by rw [← g7, qwu hS]; simp [cellsF, fdE]
                   have e2 : S.pl on 1 = ilen (out' ++ [(xa, T1)]) := by rw [qbf, g8]; subst hS; rfl
                   refine ⟨(⟨R1, mx', l1, out' ++ [(xa, T1)], r⟩, FR1, nR1, A1, m1, S.app O [.s xa, .s T1], S.pl on 1, S.flen O, lg, true), q3, ⟨q1, q2, hFR1, hnR1, hA1, hm1, e1.symm, e2, h4.trans (decide_eq_false h3).symm, (decide_eq_true (show 0 < r by omega)).symm⟩, rfl, ?_, ?_, by cbv⟩
                   · cbv; exact s_qA
                   · cbv; exact s_qA)
                | (rename_i r hr2 h3
                   have h4 := h
                   obtain ⟨q1, q2, q3⟩ := (fin r hr2).2 h3
                   have e1 : S.app O [.s xa, .s T1] = cellsF (out' ++ [(xa, T1)]) := by rw [← g7, qwu hS]; simp [cellsF, fdE]
                   have e2 : S.pl on 1 = ilen (out' ++ [(xa, T1)]) := by rw [qbf, g8]; subst hS; rfl
                   refine ⟨(⟨R1, mx', l1, out' ++ [(xa, T1)], r⟩, FR1, nR1, A1, m1, S.app O [.s xa, .s T1], S.pl on 1, S.flen O, lg, true), q3, ⟨q1, q2, hFR1, hnR1, hA1, hm1, e1.symm, e2, h4.trans (decide_eq_false h3).symm, (decide_eq_true (show 0 < r by omega)).symm⟩, rfl, ?_, ?_, by cbv⟩
                   · cbv; exact s_qA
                   · cbv; exact s_qA)
                | (rename_i r hr2 h3 h4
                   rw [g9] at h4
                   have := of_decide_eq_true h4
                   exfalso; omega)
                | (rename_i r hr2 h3
                   have h4 := h
                   rw [g9] at h4
                   have := of_decide_eq_true h4
                   exfalso; omega)
            · rw [if_pos h1] at hX
              repeat' (first
                | (refine qbl hS rfl ?_; try cbv)
                | (refine s_ck hS ?_; try cbv)
                | (refine qad hS ?_ ?_ <;> intro h <;> (try cbv) <;> try exact s_ab h)
                | (refine s_ad hS ?_; intro _ _; try cbv)
                | (refine s_sb hS ?_; intro _ _; try cbv)
                | (refine qaq hS ?_; intro _ _; try cbv)
                | (refine qaf hS ?_; try cbv)
                | (refine rowB hS g3 hc rfl (by omega) ?_; cbv)
                | (refine qaa hS I.qab ?_; cbv)
                | (refine qbw hS 6 64 rfl (qav g3.symm g4) hbok hbl' (by decide) (by decide) rfl hN hE hR' hFR hnR ?_; cbv)
                | (refine qaa hS I.qag ?_; cbv)
                | (refine qaa hS I.qaj ?_; cbv)
                | (refine qky hS (.v (z := .y mx') (n := .y tn) rfl g5 g6) hat (by dsimp only [Z.v]; omega) (by dsimp only [Z.v]; omega) (by omega) ?_; cbv)
                | (refine qbg hS (qav hFR.symm hnR) hRo (by omega) hT1 he1 hR1 hFR1 hnR1 ?_; cbv)
                | (refine qbg hS (qav hFR1.symm hnR1) hR1o (by omega) hT2 he2 hR2 hFR2 hnR2 ?_; cbv)
                | (refine qao hS rfl I.qae (by decide +kernel) ?_; cbv)
                | (refine qbk hS ?_; try cbv)
                | (refine s_lk hS ?_; try cbv)
                | (refine s_mu hS ?_; try cbv)
                | fail)
              all_goals exact errN e1 _ hX h1
          · rw [if_pos hx0] at hX
            repeat' (first
              | (refine qbl hS rfl ?_; try cbv)
              | (refine s_ck hS ?_; try cbv)
              | (refine qad hS ?_ ?_ <;> intro h <;> (try cbv) <;> try exact s_ab h)
              | (refine s_ad hS ?_; intro _ _; try cbv)
              | (refine s_sb hS ?_; intro _ _; try cbv)
              | (refine qaq hS ?_; intro _ _; try cbv)
              | (refine qaf hS ?_; try cbv)
              | (refine rowB hS g3 hc rfl (by omega) ?_; cbv)
              | (refine qaa hS I.qab ?_; cbv)
              | (refine qbw hS 6 64 rfl (qav g3.symm g4) hbok hbl' (by decide) (by decide) rfl hN hE hR' hFR hnR ?_; cbv)
              | (refine qaa hS I.qag ?_; cbv)
              | (refine qaa hS I.qaj ?_; cbv)
              | (refine qky hS (.v (z := .y mx') (n := .y tn) rfl g5 g6) hat (by dsimp only [Z.v]; omega) (by dsimp only [Z.v]; omega) (by omega) ?_; cbv)
              | (refine qbg hS (qav hFR.symm hnR) hRo (by omega) hT1 he1 hR1 hFR1 hnR1 ?_; cbv)
              | (refine qbg hS (qav hFR1.symm hnR1) hR1o (by omega) hT2 he2 hR2 hFR2 hnR2 ?_; cbv)
              | (refine qao hS rfl I.qae (by decide +kernel) ?_; cbv)
              | (refine qbk hS ?_; try cbv)
              | (refine s_lk hS ?_; try cbv)
              | (refine s_mu hS ?_; try cbv)
              | fail)
            all_goals exact errN xe _ hX hx0
        · rw [if_neg hN2, he1, hR1] at hX
          by_cases h1 : e1 = 0
          · rw [if_neg (by simpa using h1), he2, hT1, hT2, hR2] at hX
            by_cases h2 : e2 = 0
            · rw [if_neg (by simpa using h2)] at hX
              have fin := fin _ _ _ _ z2 hX hz2 rfl
              rw [if_pos rfl, hl2] at fin
              repeat' (first
                | (refine qbl hS rfl ?_; try cbv)
                | (refine s_ck hS ?_; try cbv)
                | (refine qad hS ?_ ?_ <;> intro h <;> (try cbv) <;> try exact s_ab h)
                | (refine s_ad hS ?_; intro _ _; try cbv)
                | (refine s_sb hS ?_; intro _ _; try cbv)
                | (refine qaq hS ?_; intro _ _; try cbv)
                | (refine qaf hS ?_; try cbv)
                | (refine rowB hS g3 hc rfl (by omega) ?_; cbv)
                | (refine qaa hS I.qab ?_; cbv)
                | (refine qbw hS 6 64 rfl (qav g3.symm g4) hbok hbl' (by decide) (by decide) rfl hN hE hR' hFR hnR ?_; cbv)
                | (refine qaa hS I.qag ?_; cbv)
                | (refine qaa hS I.qaj ?_; cbv)
                | (refine qky hS (.v (z := .y mx') (n := .y tn) rfl g5 g6) hat (by dsimp only [Z.v]; omega) (by dsimp only [Z.v]; omega) (by omega) ?_; cbv)
                | (refine qbg hS (qav hFR.symm hnR) hRo (by omega) hT1 he1 hR1 hFR1 hnR1 ?_; cbv)
                | (refine qbg hS (qav hFR1.symm hnR1) hR1o (by omega) hT2 he2 hR2 hFR2 hnR2 ?_; cbv)
                | (refine qao hS rfl I.qae (by decide +kernel) ?_; cbv)
                | (refine qaa hS I.qbh ?_; cbv)
                | (refine qma hS hz2 (by omega) ?_; cbv)
                | (refine qao hS rfl I.qba (by decide +kernel) ?_; cbv)
                | (refine qao hS rfl I.qaz (by decide +kernel) ?_; cbv)
                | (refine radd_g hS (.v (z := .y mx') (n := .y tn) rfl g5 g6) had1 hA1 hm1 (by omega) (by omega) ?_; cbv)
                | (refine radd_g hS (.v (z := .y mx') (n := .y tn) rfl g5 g6) had2 hA2 hm2 (by omega) (by omega) ?_; cbv)
                | (refine qbk hS ?_; try cbv)
                | (refine s_lk hS ?_; try cbv)
                | (refine s_mu hS ?_; try cbv)
                | fail)
              all_goals first
                | (rename_i r hr2 h3
                   obtain ⟨q1, q2, q3⟩ := (fin r hr2).1 h3
                   refine ⟨(⟨R2, mx', l2, out', r⟩, FR2, nR2, A2, m2, O, on, st, true, true), q3, ⟨q1, q2, hFR2, hnR2, hA2, hm2, g7, g8, (decide_eq_true h3).symm, (decide_eq_true (show 0 < r by omega)).symm⟩, rfl, ?_, ?_, by cbv⟩
                   · cbv; exact s_qA
                   · cbv; exact s_qA)
                | (rename_i r hr2
                   have h3 := h
                   obtain ⟨q1, q2, q3⟩ := (fin r hr2).1 h3
                   refine ⟨(⟨R2, mx', l2, out', r⟩, FR2, nR2, A2, m2, O, on, st, true, true), q3, ⟨q1, q2, hFR2, hnR2, hA2, hm2, g7, g8, (decide_eq_true h3).symm, (decide_eq_true (show 0 < r by omega)).symm⟩, rfl, ?_, ?_, by cbv⟩
                   · cbv; exact s_qA
                   · cbv; exact s_qA)
                | (rename_i r hr2 h3 h4
                   obtain ⟨q1, q2, q3⟩ := (fin r hr2).2 h3
                   have e1 : S.app O [.s T1, .s T2] = cellsF (out' ++ [(T1, T2)]) := by rw [← g7, qwu hS]; simp [cellsF, fdE]
                   have e2 : S.pl on 1 = ilen (out' ++ [(T1, T2)]) := by rw [qbf, g8]; subst hS; rfl
                   refine ⟨(⟨R2, mx', l2, out' ++ [(T1, T2)], r⟩, FR2, nR2, A2, m2, S.app O [.s T1, .s T2], S.pl on 1, S.flen O, lg, true), q3, ⟨q1, q2, hFR2, hnR2, hA2, hm2, e1.symm, e2, h4.trans (decide_eq_false h3).symm, (decide_eq_true (show 0 < r by omega)).symm⟩, rfl, ?_, ?_, by cbv⟩
                   · cbv; exact s_qA
                   · cbv; exact s_qA)
                | (rename_i r hr2 h3
                   have h4 := h
                   obtain ⟨q1, q2, q3⟩ := (fin r hr2).2 h3
                   have e1 : S.app O [.s T1, .s T2] = cellsF (out' ++ [(T1, T2)]) := by rw [← g7, qwu hS]; simp [cellsF, fdE]
                   have e2 : S.pl on 1 = ilen (out' ++ [(T1, T2)]) := by rw [qbf, g8]; subst hS; rfl
                   refine ⟨(⟨R2, mx', l2, out' ++ [(T1, T2)], r⟩, FR2, nR2, A2, m2, S.app O [.s T1, .s T2], S.pl on 1, S.flen O, lg, true), q3, ⟨q1, q2, hFR2, hnR2, hA2, hm2, e1.symm, e2, h4.trans (decide_eq_false h3).symm, (decide_eq_true (show 0 < r by omega)).symm⟩, rfl, ?_, ?_, by cbv⟩
                   · cbv; exact s_qA
                   · cbv; exact s_qA)
                | (rename_i r hr2 h3 h4
                   rw [g9] at h4
                   have := of_decide_eq_true h4
                   exfalso; omega)
                | (rename_i r hr2 h3
                   have h4 := h
                   rw [g9] at h4
                   have := of_decide_eq_true h4
                   exfalso; omega)
            · rw [if_pos h2] at hX
              repeat' (first
                | (refine qbl hS rfl ?_; try cbv)
                | (refine s_ck hS ?_; try cbv)
                | (refine qad hS ?_ ?_ <;> intro h <;> (try cbv) <;> try exact s_ab h)
                | (refine s_ad hS ?_; intro _ _; try cbv)
                | (refine s_sb hS ?_; intro _ _; try cbv)
                | (refine qaq hS ?_; intro _ _; try cbv)
                | (refine qaf hS ?_; try cbv)
                | (refine rowB hS g3 hc rfl (by omega) ?_; cbv)
                | (refine qaa hS I.qab ?_; cbv)
                | (refine qbw hS 6 64 rfl (qav g3.symm g4) hbok hbl' (by decide) (by decide) rfl hN hE hR' hFR hnR ?_; cbv)
                | (refine qaa hS I.qag ?_; cbv)
                | (refine qaa hS I.qaj ?_; cbv)
                | (refine qky hS (.v (z := .y mx') (n := .y tn) rfl g5 g6) hat (by dsimp only [Z.v]; omega) (by dsimp only [Z.v]; omega) (by omega) ?_; cbv)
                | (refine qbg hS (qav hFR.symm hnR) hRo (by omega) hT1 he1 hR1 hFR1 hnR1 ?_; cbv)
                | (refine qbg hS (qav hFR1.symm hnR1) hR1o (by omega) hT2 he2 hR2 hFR2 hnR2 ?_; cbv)
                | (refine qao hS rfl I.qae (by decide +kernel) ?_; cbv)
                | (refine qbk hS ?_; try cbv)
                | (refine s_lk hS ?_; try cbv)
                | (refine s_mu hS ?_; try cbv)
                | fail)
              all_goals exact errN e2 _ hX h2
          · rw [if_pos h1] at hX
            repeat' (first
              | (refine qbl hS rfl ?_; try cbv)
              | (refine s_ck hS ?_; try cbv)
              | (refine qad hS ?_ ?_ <;> intro h <;> (try cbv) <;> try exact s_ab h)
              | (refine s_ad hS ?_; intro _ _; try cbv)
              | (refine s_sb hS ?_; intro _ _; try cbv)
              | (refine qaq hS ?_; intro _ _; try cbv)
              | (refine qaf hS ?_; try cbv)
              | (refine rowB hS g3 hc rfl (by omega) ?_; cbv)
              | (refine qaa hS I.qab ?_; cbv)
              | (refine qbw hS 6 64 rfl (qav g3.symm g4) hbok hbl' (by decide) (by decide) rfl hN hE hR' hFR hnR ?_; cbv)
              | (refine qaa hS I.qag ?_; cbv)
              | (refine qaa hS I.qaj ?_; cbv)
              | (refine qky hS (.v (z := .y mx') (n := .y tn) rfl g5 g6) hat (by dsimp only [Z.v]; omega) (by dsimp only [Z.v]; omega) (by omega) ?_; cbv)
              | (refine qbg hS (qav hFR.symm hnR) hRo (by omega) hT1 he1 hR1 hFR1 hnR1 ?_; cbv)
              | (refine qbg hS (qav hFR1.symm hnR1) hR1o (by omega) hT2 he2 hR2 hFR2 hnR2 ?_; cbv)
              | (refine qao hS rfl I.qae (by decide +kernel) ?_; cbv)
              | (refine qbk hS ?_; try cbv)
              | (refine s_lk hS ?_; try cbv)
              | (refine s_mu hS ?_; try cbv)
              | fail)
            all_goals exact errN e1 _ hX h1
      · rw [if_pos hE0] at hX
        repeat' (first
          | (refine qbl hS rfl ?_; try cbv)
          | (refine s_ck hS ?_; try cbv)
          | (refine qad hS ?_ ?_ <;> intro h <;> (try cbv) <;> try exact s_ab h)
          | (refine s_ad hS ?_; intro _ _; try cbv)
          | (refine s_sb hS ?_; intro _ _; try cbv)
          | (refine qaq hS ?_; intro _ _; try cbv)
          | (refine qaf hS ?_; try cbv)
          | (refine rowB hS g3 hc rfl (by omega) ?_; cbv)
          | (refine qaa hS I.qab ?_; cbv)
          | (refine qbw hS 6 64 rfl (qav g3.symm g4) hbok hbl' (by decide) (by decide) rfl hN hE hR' hFR hnR ?_; cbv)
          | (refine qaa hS I.qag ?_; cbv)
          | (refine qaa hS I.qaj ?_; cbv)
          | (refine qky hS (.v (z := .y mx') (n := .y tn) rfl g5 g6) hat (by dsimp only [Z.v]; omega) (by dsimp only [Z.v]; omega) (by omega) ?_; cbv)
          | (refine qbg hS (qav hFR.symm hnR) hRo (by omega) hT1 he1 hR1 hFR1 hnR1 ?_; cbv)
          | (refine qbg hS (qav hFR1.symm hnR1) hR1o (by omega) hT2 he2 hR2 hFR2 hnR2 ?_; cbv)
          | (refine qao hS rfl I.qae (by decide +kernel) ?_; cbv)
          | (refine qbk hS ?_; try cbv)
          | (refine s_lk hS ?_; try cbv)
          | (refine s_mu hS ?_; try cbv)
          | fail)
        all_goals exact errN E _ hX hE0
    by_cases c5 : 32 ≤ c
    · have hX := nx_32 (l := l') hcd (by omega) c5
      obtain ⟨N, hN⟩ : ∃ r, preN b' 32 = r := ⟨_, rfl⟩
      have hN0 := qpo (p := 32) hbok (by decide)
      have hN1 := qyz (b := b') (p := 32) (by decide) (by decide)
      rw [hN] at hN0 hN1
      obtain ⟨E, hE⟩ : ∃ r, preE b' 32 = r := ⟨_, rfl⟩
      obtain ⟨R, hR'⟩ : ∃ r, preR b' 32 = r := ⟨_, rfl⟩
      obtain ⟨FR, hFR⟩ : ∃ r, cellsB R = r := ⟨_, rfl⟩
      obtain ⟨nR, hnR⟩ : ∃ r, r = ilen R := ⟨_, rfl⟩
      rw [hN, hE, hR'] at hX
      by_cases hE0 : E = 0
      · rw [if_neg (by simpa using hE0)] at hX
        by_cases hs : 0 < sz' ∨ most < N
        · have hst : (stepU most ⟨b', mx', l', out', sz'⟩ ⟨0, true, false, N, ([], []), R⟩).1 = 100 := by rw [step_s rfl rfl, if_pos hs]
          by_cases hs1 : 0 < sz'
          · have han : an = true := by rw [g10]; exact decide_eq_true hs1
            subst han
            repeat' (first
              | (refine qbl hS rfl ?_; try cbv)
              | (refine s_ck hS ?_; try cbv)
              | (refine qad hS ?_ ?_ <;> intro h <;> (try cbv) <;> try exact s_ab h)
              | (refine s_ad hS ?_; intro _ _; try cbv)
              | (refine s_sb hS ?_; intro _ _; try cbv)
              | (refine qaq hS ?_; intro _ _; try cbv)
              | (refine qaf hS ?_; try cbv)
              | (refine rowB hS g3 hc rfl (by omega) ?_; cbv)
              | (refine qaa hS I.qab ?_; cbv)
              | (refine qbw hS 5 32 rfl (qav g3.symm g4) hbok hbl' (by decide) (by decide) rfl hN hE hR' hFR hnR ?_; cbv)
              | (refine qaa hS I.qbo ?_; cbv)
              | (refine qbk hS ?_; try cbv)
              | (refine s_lk hS ?_; try cbv)
              | (refine s_mu hS ?_; try cbv)
              | fail)
            all_goals exact errL 100 _ (.l 100) _ hX hst (by decide) rfl
          · have han : an = false := by rw [g10]; exact decide_eq_false hs1
            subst han
            repeat' (first
              | (refine qbl hS rfl ?_; try cbv)
              | (refine s_ck hS ?_; try cbv)
              | (refine qad hS ?_ ?_ <;> intro h <;> (try cbv) <;> try exact s_ab h)
              | (refine s_ad hS ?_; intro _ _; try cbv)
              | (refine s_sb hS ?_; intro _ _; try cbv)
              | (refine qaq hS ?_; intro _ _; try cbv)
              | (refine qaf hS ?_; try cbv)
              | (refine rowB hS g3 hc rfl (by omega) ?_; cbv)
              | (refine qaa hS I.qab ?_; cbv)
              | (refine qbw hS 5 32 rfl (qav g3.symm g4) hbok hbl' (by decide) (by decide) rfl hN hE hR' hFR hnR ?_; cbv)
              | (refine qaa hS I.qbo ?_; cbv)
              | (refine qbk hS ?_; try cbv)
              | (refine s_lk hS ?_; try cbv)
              | (refine s_mu hS ?_; try cbv)
              | fail)
            all_goals exact errL 100 _ (.l 100) _ hX hst (by decide) rfl
        · have hst : stepU most ⟨b', mx', l', out', sz'⟩ ⟨0, true, false, N, ([], []), R⟩ = (0, ⟨R, N, evL N l', out', sz'⟩) := by rw [step_s rfl rfl, if_neg hs]
          have q1 := go_S (s := ⟨b', mx', l', out', sz'⟩) hX hbok hne g1 hst
          have q2 := ok_size ok hX rfl h1 hN0 (show N ≤ most by omega)
          have q3 := (qzh ok hX rfl).2
          have hres2 : resR (mx', l') N = ((N, evL N l'), 0) := by unfold resR; rw [if_pos ⟨hR2, hN0, by omega⟩]
          obtain ⟨l2, hl2'⟩ : ∃ r, evL N l' = r := ⟨_, rfl⟩
          rw [hl2'] at hres2 q1 q2
          obtain ⟨A2, hA2⟩ : ∃ r, cellsF l2 = r := ⟨_, rfl⟩
          obtain ⟨m2, hm2⟩ : ∃ r, r = ilen l2 := ⟨_, rfl⟩
          have han : an = false := by rw [g10]; exact decide_eq_false (by omega)
          subst han
          repeat' (first
            | (refine qbl hS rfl ?_; try cbv)
            | (refine s_ck hS ?_; try cbv)
            | (refine qad hS ?_ ?_ <;> intro h <;> (try cbv) <;> try exact s_ab h)
            | (refine s_ad hS ?_; intro _ _; try cbv)
            | (refine s_sb hS ?_; intro _ _; try cbv)
            | (refine qaq hS ?_; intro _ _; try cbv)
            | (refine qaf hS ?_; try cbv)
            | (refine rowB hS g3 hc rfl (by omega) ?_; cbv)
            | (refine qaa hS I.qab ?_; cbv)
            | (refine qbw hS 5 32 rfl (qav g3.symm g4) hbok hbl' (by decide) (by decide) rfl hN hE hR' hFR hnR ?_; cbv)
            | (refine qaa hS I.qbo ?_; cbv)
            | (refine rres_g hS (.v (z := .y mx') (n := .y tn) rfl g5 g6) hres2 hA2 hm2 (by omega) ?_; cbv)
            | (refine qbk hS ?_; try cbv)
            | (refine s_lk hS ?_; try cbv)
            | (refine s_mu hS ?_; try cbv)
            | fail)
          refine ⟨(⟨R, N, l2, out', sz'⟩, FR, nR, A2, m2, O, on, st, lg, false), by unfold ilen at q3; dsimp only at q3 ⊢; omega, ⟨q1, q2, hFR, hnR, hA2, hm2, g7, g8, g9, g10⟩, rfl, ?_, ?_, by cbv⟩
          · cbv; exact s_qA
          · cbv; exact s_qA
      · rw [if_pos hE0] at hX
        repeat' (first
          | (refine qbl hS rfl ?_; try cbv)
          | (refine s_ck hS ?_; try cbv)
          | (refine qad hS ?_ ?_ <;> intro h <;> (try cbv) <;> try exact s_ab h)
          | (refine s_ad hS ?_; intro _ _; try cbv)
          | (refine s_sb hS ?_; intro _ _; try cbv)
          | (refine qaq hS ?_; intro _ _; try cbv)
          | (refine qaf hS ?_; try cbv)
          | (refine rowB hS g3 hc rfl (by omega) ?_; cbv)
          | (refine qaa hS I.qab ?_; cbv)
          | (refine qbw hS 5 32 rfl (qav g3.symm g4) hbok hbl' (by decide) (by decide) rfl hN hE hR' hFR hnR ?_; cbv)
          | (refine qaa hS I.qbo ?_; cbv)
          | (refine qbk hS ?_; try cbv)
          | (refine s_lk hS ?_; try cbv)
          | (refine s_mu hS ?_; try cbv)
          | fail)
        all_goals exact errN E _ hX hE0
    have hR2' := hR2
    have hX := nx_16 (l := l') hcd (by omega)
    obtain ⟨N, hN⟩ : ∃ r, preN b' 16 = r := ⟨_, rfl⟩
    have hN0 := qpo (p := 16) hbok (by decide)
    have hN1 := qyz (b := b') (p := 16) (by decide) (by decide)
    rw [hN] at hN0 hN1
    obtain ⟨E, hE⟩ : ∃ r, preE b' 16 = r := ⟨_, rfl⟩
    obtain ⟨R, hR'⟩ : ∃ r, preR b' 16 = r := ⟨_, rfl⟩
    obtain ⟨FR, hFR⟩ : ∃ r, cellsB R = r := ⟨_, rfl⟩
    obtain ⟨nR, hnR⟩ : ∃ r, r = ilen R := ⟨_, rfl⟩
    obtain ⟨⟨⟨xa, xb⟩, xe⟩, hat⟩ : ∃ r, atR l' N = r := ⟨_, rfl⟩
    have hzb : szF (atR l' N).1 ≤ 4096 := qzadw (by omega) (by decide)
    rw [hat] at hzb
    rw [hN, hE, hR'] at hX
    obtain ⟨T1, hT1⟩ : ∃ r, strB (tS R) = r := ⟨_, rfl⟩
    obtain ⟨e1, he1⟩ : ∃ r, tE R = r := ⟨_, rfl⟩
    obtain ⟨R1, hR1⟩ : ∃ r, tR R = r := ⟨_, rfl⟩
    obtain ⟨FR1, hFR1⟩ : ∃ r, cellsB R1 = r := ⟨_, rfl⟩
    obtain ⟨nR1, hnR1⟩ : ∃ r, r = ilen R1 := ⟨_, rfl⟩
    obtain ⟨T2, hT2⟩ : ∃ r, strB (tS R1) = r := ⟨_, rfl⟩
    obtain ⟨e2, he2⟩ : ∃ r, tE R1 = r := ⟨_, rfl⟩
    obtain ⟨R2, hR2⟩ : ∃ r, tR R1 = r := ⟨_, rfl⟩
    obtain ⟨FR2, hFR2⟩ : ∃ r, cellsB R2 = r := ⟨_, rfl⟩
    obtain ⟨nR2, hnR2⟩ : ∃ r, r = ilen R2 := ⟨_, rfl⟩
    have hRo : Hu.BOk R := hR' ▸ qeg hbok
    have hR1o : Hu.BOk R1 := hR1 ▸ tR_ok hRo
    have hRl := qkq (b := b') (p := 16)
    have hR1l := (tT_ok hRo).2.2
    rw [hR'] at hRl
    rw [hR1] at hR1l
    have hT1l := qwy hRo
    rw [← qhx, hT1] at hT1l
    have hT2l := qwy hR1o
    rw [← qhx, hT2] at hT2l
    obtain ⟨z1, hz1⟩ : ∃ z, z = szF (xa, T1) := ⟨_, rfl⟩
    obtain ⟨z2, hz2⟩ : ∃ z, z = szF (T1, T2) := ⟨_, rfl⟩
    have hz1' : z1 = ilen xa + ilen T1 + 32 := hz1
    have hz2' : z2 = ilen T1 + ilen T2 + 32 := hz2
    have hzb' : ilen xa + ilen xb + 32 ≤ 4096 := hzb
    have n0 := qah xa
    have n1 := qah xb
    have n2 := qah T1
    have n3 := qah T2
    by_cases hE0 : E = 0
    · rw [if_neg (by simpa using hE0)] at hX
      unfold litU at hX
      by_cases hN2 : 0 < N
      · rw [if_pos hN2, hat] at hX
        dsimp only at hX
        by_cases hx0 : xe = 0
        · rw [if_neg (by simpa using hx0), he1, hT1, hR1] at hX
          by_cases h1 : e1 = 0
          · rw [if_neg (by simpa using h1)] at hX
            have fin := fin _ _ _ _ z1 hX hz1 rfl
            rw [if_neg (by simp)] at fin
            repeat' (first
              | (refine qbl hS rfl ?_; try cbv)
              | (refine s_ck hS ?_; try cbv)
              | (refine qad hS ?_ ?_ <;> intro h <;> (try cbv) <;> try exact s_ab h)
              | (refine s_ad hS ?_; intro _ _; try cbv)
              | (refine s_sb hS ?_; intro _ _; try cbv)
              | (refine qaq hS ?_; intro _ _; try cbv)
              | (refine qaf hS ?_; try cbv)
              | (refine rowB hS g3 hc rfl (by omega) ?_; cbv)
              | (refine qaa hS I.qab ?_; cbv)
              | (refine qbw hS 4 16 rfl (qav g3.symm g4) hbok hbl' (by decide) (by decide) rfl hN hE hR' hFR hnR ?_; cbv)
              | (refine qaa hS I.qag ?_; cbv)
              | (refine qaa hS I.qaj ?_; cbv)
              | (refine qky hS (.v (z := .y mx') (n := .y tn) rfl g5 g6) hat (by dsimp only [Z.v]; omega) (by dsimp only [Z.v]; omega) (by omega) ?_; cbv)
              | (refine qbg hS (qav hFR.symm hnR) hRo (by omega) hT1 he1 hR1 hFR1 hnR1 ?_; cbv)
              | (refine qbg hS (qav hFR1.symm hnR1) hR1o (by omega) hT2 he2 hR2 hFR2 hnR2 ?_; cbv)
              | (refine qao hS rfl I.qae (by decide +kernel) ?_; cbv)
              | (refine qaa hS I.qbh ?_; cbv)
              | (refine qma hS hz1 (by omega) ?_; cbv)
              | (refine qao hS rfl I.qba (by decide +kernel) ?_; cbv)
              | (refine qao hS rfl I.qaz (by decide +kernel) ?_; cbv)
              | (refine qbk hS ?_; try cbv)
              | (refine s_lk hS ?_; try cbv)
              | (refine s_mu hS ?_; try cbv)
              | fail)
            all_goals first
              | (rename_i r hr2 h3
                 obtain ⟨q1, q2, q3⟩ := (fin r hr2).1 h3
                 refine ⟨(⟨R1, mx', l', out', r⟩, FR1, nR1, T, tn, O, on, st, true, true), q3, ⟨q1, q2, hFR1, hnR1, g5, g6, g7, g8, (decide_eq_true h3).symm, (decide_eq_true (show 0 < r by omega)).symm⟩, rfl, ?_, ?_, by cbv⟩
                 · cbv; exact s_qA
                 · cbv; exact s_qA)
              | (rename_i r hr2
                 have h3 := h
                 obtain ⟨q1, q2, q3⟩ := (fin r hr2).1 h3
                 refine ⟨(⟨R1, mx', l', out', r⟩, FR1, nR1, T, tn, O, on, st, true, true), q3, ⟨q1, q2, hFR1, hnR1, g5, g6, g7, g8, (decide_eq_true h3).symm, (decide_eq_true (show 0 < r by omega)).symm⟩, rfl, ?_, ?_, by cbv⟩
                 · cbv; exact s_qA
                 · cbv; exact s_qA)
              | (rename_i r hr2 h3 h4
                 obtain ⟨q1, q2, q3⟩ := (fin r hr2).2 h3
                 have e1 : S.app O [.s xa, .s T1] = cellsF (out' ++ [(xa, T1)]) := by rw [← g7, qwu hS]; simp [cellsF, fdE]
                 have e2 : S.pl on 1 = ilen (out' ++ [(xa, T1)]) := by rw [qbf, g8]; subst hS; rfl
                 refine ⟨(⟨R1, mx', l', out' ++ [(xa, T1)], r⟩, FR1, nR1, T, tn, S.app O [.s xa, .s T1], S.pl on 1, S.flen O, lg, true), q3, ⟨q1, q2, hFR1, hnR1, g5, g6, e1.symm, e2, h4.trans (decide_eq_false h3).symm, (decide_eq_true (show 0 < r by omega)).symm⟩, rfl, ?_, ?_, by cbv⟩
                 · cbv; exact s_qA
                 · cbv; exact s_qA)
              | (rename_i r hr2 h3
                 have h4 := h
                 obtain ⟨q1, q2, q3⟩ := (fin r hr2).2 h3
                 have e1 : S.app O [.s xa, .s T1] = cellsF (out' ++ [(xa, T1)]) := by rw [← g7, qwu hS]; simp [cellsF, fdE]
                 have e2 : S.pl on 1 = ilen (out' ++ [(xa, T1)]) := by rw [qbf, g8]; subst hS; rfl
                 refine ⟨(⟨R1, mx', l', out' ++ [(xa, T1)], r⟩, FR1, nR1, T, tn, S.app O [.s xa, .s T1], S.pl on 1, S.flen O, lg, true), q3, ⟨q1, q2, hFR1, hnR1, g5, g6, e1.symm, e2, h4.trans (decide_eq_false h3).symm, (decide_eq_true (show 0 < r by omega)).symm⟩, rfl, ?_, ?_, by cbv⟩
                 · cbv; exact s_qA
                 · cbv; exact s_qA)
              | (rename_i r hr2 h3 h4
                 rw [g9] at h4
                 have := of_decide_eq_true h4
                 exfalso; omega)
              | (rename_i r hr2 h3
                 have h4 := h
                 rw [g9] at h4
                 have := of_decide_eq_true h4
                 exfalso; omega)
          · rw [if_pos h1] at hX
            repeat' (first
              | (refine qbl hS rfl ?_; try cbv)
              | (refine s_ck hS ?_; try cbv)
              | (refine qad hS ?_ ?_ <;> intro h <;> (try cbv) <;> try exact s_ab h)
              | (refine s_ad hS ?_; intro _ _; try cbv)
              | (refine s_sb hS ?_; intro _ _; try cbv)
              | (refine qaq hS ?_; intro _ _; try cbv)
              | (refine qaf hS ?_; try cbv)
              | (refine rowB hS g3 hc rfl (by omega) ?_; cbv)
              | (refine qaa hS I.qab ?_; cbv)
              | (refine qbw hS 4 16 rfl (qav g3.symm g4) hbok hbl' (by decide) (by decide) rfl hN hE hR' hFR hnR ?_; cbv)
              | (refine qaa hS I.qag ?_; cbv)
              | (refine qaa hS I.qaj ?_; cbv)
              | (refine qky hS (.v (z := .y mx') (n := .y tn) rfl g5 g6) hat (by dsimp only [Z.v]; omega) (by dsimp only [Z.v]; omega) (by omega) ?_; cbv)
              | (refine qbg hS (qav hFR.symm hnR) hRo (by omega) hT1 he1 hR1 hFR1 hnR1 ?_; cbv)
              | (refine qbg hS (qav hFR1.symm hnR1) hR1o (by omega) hT2 he2 hR2 hFR2 hnR2 ?_; cbv)
              | (refine qao hS rfl I.qae (by decide +kernel) ?_; cbv)
              | (refine qbk hS ?_; try cbv)
              | (refine s_lk hS ?_; try cbv)
              | (refine s_mu hS ?_; try cbv)
              | fail)
            all_goals exact errN e1 _ hX h1
        · rw [if_pos hx0] at hX
          repeat' (first
            | (refine qbl hS rfl ?_; try cbv)
            | (refine s_ck hS ?_; try cbv)
            | (refine qad hS ?_ ?_ <;> intro h <;> (try cbv) <;> try exact s_ab h)
            | (refine s_ad hS ?_; intro _ _; try cbv)
            | (refine s_sb hS ?_; intro _ _; try cbv)
            | (refine qaq hS ?_; intro _ _; try cbv)
            | (refine qaf hS ?_; try cbv)
            | (refine rowB hS g3 hc rfl (by omega) ?_; cbv)
            | (refine qaa hS I.qab ?_; cbv)
            | (refine qbw hS 4 16 rfl (qav g3.symm g4) hbok hbl' (by decide) (by decide) rfl hN hE hR' hFR hnR ?_; cbv)
            | (refine qaa hS I.qag ?_; cbv)
            | (refine qaa hS I.qaj ?_; cbv)
            | (refine qky hS (.v (z := .y mx') (n := .y tn) rfl g5 g6) hat (by dsimp only [Z.v]; omega) (by dsimp only [Z.v]; omega) (by omega) ?_; cbv)
            | (refine qbg hS (qav hFR.symm hnR) hRo (by omega) hT1 he1 hR1 hFR1 hnR1 ?_; cbv)
            | (refine qbg hS (qav hFR1.symm hnR1) hR1o (by omega) hT2 he2 hR2 hFR2 hnR2 ?_; cbv)
            | (refine qao hS rfl I.qae (by decide +kernel) ?_; cbv)
            | (refine qbk hS ?_; try cbv)
            | (refine s_lk hS ?_; try cbv)
            | (refine s_mu hS ?_; try cbv)
            | fail)
          all_goals exact errN xe _ hX hx0
      · rw [if_neg hN2, he1, hR1] at hX
        by_cases h1 : e1 = 0
        · rw [if_neg (by simpa using h1), he2, hT1, hT2, hR2] at hX
          by_cases h2 : e2 = 0
          · rw [if_neg (by simpa using h2)] at hX
            have fin := fin _ _ _ _ z2 hX hz2 rfl
            rw [if_neg (by simp)] at fin
            repeat' (first
              | (refine qbl hS rfl ?_; try cbv)
              | (refine s_ck hS ?_; try cbv)
              | (refine qad hS ?_ ?_ <;> intro h <;> (try cbv) <;> try exact s_ab h)
              | (refine s_ad hS ?_; intro _ _; try cbv)
              | (refine s_sb hS ?_; intro _ _; try cbv)
              | (refine qaq hS ?_; intro _ _; try cbv)
              | (refine qaf hS ?_; try cbv)
              | (refine rowB hS g3 hc rfl (by omega) ?_; cbv)
              | (refine qaa hS I.qab ?_; cbv)
              | (refine qbw hS 4 16 rfl (qav g3.symm g4) hbok hbl' (by decide) (by decide) rfl hN hE hR' hFR hnR ?_; cbv)
              | (refine qaa hS I.qag ?_; cbv)
              | (refine qaa hS I.qaj ?_; cbv)
              | (refine qky hS (.v (z := .y mx') (n := .y tn) rfl g5 g6) hat (by dsimp only [Z.v]; omega) (by dsimp only [Z.v]; omega) (by omega) ?_; cbv)
              | (refine qbg hS (qav hFR.symm hnR) hRo (by omega) hT1 he1 hR1 hFR1 hnR1 ?_; cbv)
              | (refine qbg hS (qav hFR1.symm hnR1) hR1o (by omega) hT2 he2 hR2 hFR2 hnR2 ?_; cbv)
              | (refine qao hS rfl I.qae (by decide +kernel) ?_; cbv)
              | (refine qaa hS I.qbh ?_; cbv)
              | (refine qma hS hz2 (by omega) ?_; cbv)
              | (refine qao hS rfl I.qba (by decide +kernel) ?_; cbv)
              | (refine qao hS rfl I.qaz (by decide +kernel) ?_; cbv)
              | (refine qbk hS ?_; try cbv)
              | (refine s_lk hS ?_; try cbv)
              | (refine s_mu hS ?_; try cbv)
              | fail)
            all_goals first
              | (rename_i r hr2 h3
                 obtain ⟨q1, q2, q3⟩ := (fin r hr2).1 h3
                 refine ⟨(⟨R2, mx', l', out', r⟩, FR2, nR2, T, tn, O, on, st, true, true), q3, ⟨q1, q2, hFR2, hnR2, g5, g6, g7, g8, (decide_eq_true h3).symm, (decide_eq_true (show 0 < r by omega)).symm⟩, rfl, ?_, ?_, by cbv⟩
                 · cbv; exact s_qA
                 · cbv; exact s_qA)
              | (rename_i r hr2
                 have h3 := h
                 obtain ⟨q1, q2, q3⟩ := (fin r hr2).1 h3
                 refine ⟨(⟨R2, mx', l', out', r⟩, FR2, nR2, T, tn, O, on, st, true, true), q3, ⟨q1, q2, hFR2, hnR2, g5, g6, g7, g8, (decide_eq_true h3).symm, (decide_eq_true (show 0 < r by omega)).symm⟩, rfl, ?_, ?_, by cbv⟩
                 · cbv; exact s_qA
                 · cbv; exact s_qA)
              | (rename_i r hr2 h3 h4
                 obtain ⟨q1, q2, q3⟩ := (fin r hr2).2 h3
                 have e1 : S.app O [.s T1, .s T2] = cellsF (out' ++ [(T1, T2)]) := by rw [← g7, qwu hS]; simp [cellsF, fdE]
                 have e2 : S.pl on 1 = ilen (out' ++ [(T1, T2)]) := by rw [qbf, g8]; subst hS; rfl
                 refine ⟨(⟨R2, mx', l', out' ++ [(T1, T2)], r⟩, FR2, nR2, T, tn, S.app O [.s T1, .s T2], S.pl on 1, S.flen O, lg, true), q3, ⟨q1, q2, hFR2, hnR2, g5, g6, e1.symm, e2, h4.trans (decide_eq_false h3).symm, (decide_eq_true (show 0 < r by omega)).symm⟩, rfl, ?_, ?_, by cbv⟩
                 · cbv; exact s_qA
                 · cbv; exact s_qA)
              | (rename_i r hr2 h3
                 have h4 := h
                 obtain ⟨q1, q2, q3⟩ := (fin r hr2).2 h3
                 have e1 : S.app O [.s T1, .s T2] = cellsF (out' ++ [(T1, T2)]) := by rw [← g7, qwu hS]; simp [cellsF, fdE]
                 have e2 : S.pl on 1 = ilen (out' ++ [(T1, T2)]) := by rw [qbf, g8]; subst hS; rfl
                 refine ⟨(⟨R2, mx', l', out' ++ [(T1, T2)], r⟩, FR2, nR2, T, tn, S.app O [.s T1, .s T2], S.pl on 1, S.flen O, lg, true), q3, ⟨q1, q2, hFR2, hnR2, g5, g6, e1.symm, e2, h4.trans (decide_eq_false h3).symm, (decide_eq_true (show 0 < r by omega)).symm⟩, rfl, ?_, ?_, by cbv⟩
                 · cbv; exact s_qA
                 · cbv; exact s_qA)
              | (rename_i r hr2 h3 h4
                 rw [g9] at h4
                 have := of_decide_eq_true h4
                 exfalso; omega)
              | (rename_i r hr2 h3
                 have h4 := h
                 rw [g9] at h4
                 have := of_decide_eq_true h4
                 exfalso; omega)
          · rw [if_pos h2] at hX
            repeat' (first
              | (refine qbl hS rfl ?_; try cbv)
              | (refine s_ck hS ?_; try cbv)
              | (refine qad hS ?_ ?_ <;> intro h <;> (try cbv) <;> try exact s_ab h)
              | (refine s_ad hS ?_; intro _ _; try cbv)
              | (refine s_sb hS ?_; intro _ _; try cbv)
              | (refine qaq hS ?_; intro _ _; try cbv)
              | (refine qaf hS ?_; try cbv)
              | (refine rowB hS g3 hc rfl (by omega) ?_; cbv)
              | (refine qaa hS I.qab ?_; cbv)
              | (refine qbw hS 4 16 rfl (qav g3.symm g4) hbok hbl' (by decide) (by decide) rfl hN hE hR' hFR hnR ?_; cbv)
              | (refine qaa hS I.qag ?_; cbv)
              | (refine qaa hS I.qaj ?_; cbv)
              | (refine qky hS (.v (z := .y mx') (n := .y tn) rfl g5 g6) hat (by dsimp only [Z.v]; omega) (by dsimp only [Z.v]; omega) (by omega) ?_; cbv)
              | (refine qbg hS (qav hFR.symm hnR) hRo (by omega) hT1 he1 hR1 hFR1 hnR1 ?_; cbv)
              | (refine qbg hS (qav hFR1.symm hnR1) hR1o (by omega) hT2 he2 hR2 hFR2 hnR2 ?_; cbv)
              | (refine qao hS rfl I.qae (by decide +kernel) ?_; cbv)
              | (refine qbk hS ?_; try cbv)
              | (refine s_lk hS ?_; try cbv)
              | (refine s_mu hS ?_; try cbv)
              | fail)
            all_goals exact errN e2 _ hX h2
        · rw [if_pos h1] at hX
          repeat' (first
            | (refine qbl hS rfl ?_; try cbv)
            | (refine s_ck hS ?_; try cbv)
            | (refine qad hS ?_ ?_ <;> intro h <;> (try cbv) <;> try exact s_ab h)
            | (refine s_ad hS ?_; intro _ _; try cbv)
            | (refine s_sb hS ?_; intro _ _; try cbv)
            | (refine qaq hS ?_; intro _ _; try cbv)
            | (refine qaf hS ?_; try cbv)
            | (refine rowB hS g3 hc rfl (by omega) ?_; cbv)
            | (refine qaa hS I.qab ?_; cbv)
            | (refine qbw hS 4 16 rfl (qav g3.symm g4) hbok hbl' (by decide) (by decide) rfl hN hE hR' hFR hnR ?_; cbv)
            | (refine qaa hS I.qag ?_; cbv)
            | (refine qaa hS I.qaj ?_; cbv)
            | (refine qky hS (.v (z := .y mx') (n := .y tn) rfl g5 g6) hat (by dsimp only [Z.v]; omega) (by dsimp only [Z.v]; omega) (by omega) ?_; cbv)
            | (refine qbg hS (qav hFR.symm hnR) hRo (by omega) hT1 he1 hR1 hFR1 hnR1 ?_; cbv)
            | (refine qbg hS (qav hFR1.symm hnR1) hR1o (by omega) hT2 he2 hR2 hFR2 hnR2 ?_; cbv)
            | (refine qao hS rfl I.qae (by decide +kernel) ?_; cbv)
            | (refine qbk hS ?_; try cbv)
            | (refine s_lk hS ?_; try cbv)
            | (refine s_mu hS ?_; try cbv)
            | fail)
          all_goals exact errN e1 _ hX h1
    · rw [if_pos hE0] at hX
      repeat' (first
        | (refine qbl hS rfl ?_; try cbv)
        | (refine s_ck hS ?_; try cbv)
        | (refine qad hS ?_ ?_ <;> intro h <;> (try cbv) <;> try exact s_ab h)
        | (refine s_ad hS ?_; intro _ _; try cbv)
        | (refine s_sb hS ?_; intro _ _; try cbv)
        | (refine qaq hS ?_; intro _ _; try cbv)
        | (refine qaf hS ?_; try cbv)
        | (refine rowB hS g3 hc rfl (by omega) ?_; cbv)
        | (refine qaa hS I.qab ?_; cbv)
        | (refine qbw hS 4 16 rfl (qav g3.symm g4) hbok hbl' (by decide) (by decide) rfl hN hE hR' hFR hnR ?_; cbv)
        | (refine qaa hS I.qag ?_; cbv)
        | (refine qaa hS I.qaj ?_; cbv)
        | (refine qky hS (.v (z := .y mx') (n := .y tn) rfl g5 g6) hat (by dsimp only [Z.v]; omega) (by dsimp only [Z.v]; omega) (by omega) ?_; cbv)
        | (refine qbg hS (qav hFR.symm hnR) hRo (by omega) hT1 he1 hR1 hFR1 hnR1 ?_; cbv)
        | (refine qbg hS (qav hFR1.symm hnR1) hR1o (by omega) hT2 he2 hR2 hFR2 hnR2 ?_; cbv)
        | (refine qao hS rfl I.qae (by decide +kernel) ?_; cbv)
        | (refine qbk hS ?_; try cbv)
        | (refine s_lk hS ?_; try cbv)
        | (refine s_mu hS ?_; try cbv)
        | fail)
      all_goals exact errN E _ hX hE0
  · have hbe : b' = [] := by
      apply List.eq_nil_of_length_eq_zero
      unfold ilen at g4; omega
    have hg := go_nil (most := most) (s := ⟨b', mx', l', out', sz'⟩) hbe
    rw [hg] at g1
    cases g1
    rw [if_neg (by simp)] at hx
    subst hx
    have hO : (O.drop ((Z.l 0).v.toNat * 2)).take (on.toNat * 2) = cellsF out' := by
      rw [show (Z.l 0).v.toNat * 2 = 0 from rfl, List.drop_zero, List.take_of_length_le, g7]
      unfold ilen at hOl; omega
    exact fun g => .tp (.cons (.ag (.cons (qxp rfl rfl hO (qda _) g8) (.cons (.sub (qrg g9) rfl) (.cons (.sub (qan rfl) rfl) (.cons (.sub (qav g5.symm g6) rfl) .nil))))) (.cons (.sub (qan rfl) rfl) .nil))
end Pa
end Cz
namespace Cz
open Go Go.RowKit Go.Proofs
namespace Pa
open Tb
theorem qym {a b : List UInt8} {t : Bool} (ht : decide (a = ckN) = t) : (S0 Tryd.prog).call 43 [.ag [.s a, .s b]] [] (fun y _ => Sub y (.b t)) := by
  generalize hS : S0 Tryd.prog = S
  refine qaa hS I.qwr ?_
  cbv
  repeat' (first
    | (refine qbl hS rfl ?_; try cbv)
    | (refine s_ck hS ?_; try cbv)
    | (refine qad hS ?_ ?_ <;> intro h <;> (try cbv) <;> try exact s_ab h)
    | (refine s_ad hS ?_; intro _ _; try cbv)
    | (refine s_sb hS ?_; intro _ _; try cbv)
    | (refine qaq hS ?_; intro _ _; try cbv)
    | (refine qaf hS ?_; try cbv)
    | (refine qbk hS ?_; try cbv)
    | (refine s_lk hS ?_; try cbv)
    | (refine s_mu hS ?_; try cbv)
    | fail)
  refine qrg ?_
  subst hS
  rw [← ht]
  show (a == ckN) = decide (a = ckN)
  by_cases h : a = ckN <;> simp [h]
theorem named_z {w : Int} {b : List UInt8} : (S0 Tryd.prog).call 54 [.i .i64 (.y 0), .s b, .i .i64 (.y w)] [] (fun y _ => Sub y (.tp [.re (.slice none 0 0), .i .i64 (.y 2)])) := by
  generalize hS : S0 Tryd.prog = S
  refine qaa hS I.qjy ?_
  cbv
  refine of_u hS (w := w) rfl fun u k hu hk => ?_
  obtain ⟨u0, u1, k0, k1, hp⟩ := up_bd w
  rw [← hu] at u0 u1
  rw [← hk] at k0 k1 hp
  cbv
  refine qaa hS I.qdu ?_
  cbv
  repeat' (first
    | (refine qbl hS rfl ?_; try cbv)
    | (refine s_ck hS ?_; try cbv)
    | (refine qad hS ?_ ?_ <;> intro h <;> (try cbv) <;> try exact s_ab h)
    | (refine s_ad hS ?_; intro _ _; try cbv)
    | (refine s_sb hS ?_; intro _ _; try cbv)
    | (refine qaq hS ?_; intro _ _; try cbv)
    | (refine qaf hS ?_; try cbv)
    | (refine qtv hS 0 k u (powP w) rfl rfl rfl (by omega) (by omega) (by omega) (by omega) hp (by omega) (by omega) fun F2 n2 st hF2 hn2 => ?_; cbv)
    | (refine qbk hS ?_; try cbv)
    | (refine s_lk hS ?_; try cbv)
    | (refine s_mu hS ?_; try cbv)
    | fail)
  exact qbj (.cons .rfl (.cons (qan rfl) .nil))
section
variable {S : Sy} {bl : List Blk} {K : SV → List Blk → Prop} {L : List Int} {F : List SV} {n i w : Int} {a b : List UInt8}
theorem qgi (hS : S0 Tryd.prog = S) {t : Bool} (ht : decide (a = ckN) = t) (hK : K (.b t) bl) : S.call 43 [.ag [.s a, .s b]] bl K := qbm hS (qym ht) .rfl rfl rfl hK
theorem qih (hS : S0 Tryd.prog = S) {zi zw : Z} (hi : zi.v = i) (hw : zw.v = w) (h0 : 0 < i) (h1 : i < 2147483648) (hb : ilen b ≤ 1000000) (hF : cellsB (nmB i b w) = F) (hn : n = ilen (nmB i b w)) (hK : K (.tp [.v false 1 F (.y n), .i .i64 (.y 0)]) bl) :
    S.call 54 [.i .i64 zi, .s b, .i .i64 zw] bl K :=
  qdb hS (own_t1 (named_o h0 h1 hb) hF hn) (.cons (qan hi) (.cons .rfl (.cons (qan hw) .nil))) rfl hK
theorem qzaeq (hS : S0 Tryd.prog = S) {zi zw : Z} (hi : zi.v = 0) (hK : K (.tp [.re (.slice none 0 0), .i .i64 (.y 2)]) bl) : S.call 54 [.i .i64 zi, .s b, .i .i64 zw] bl K :=
  qbm hS (named_z (w := zw.v)) (.cons (qan hi) (.cons .rfl (.cons (qan rfl) .nil))) rfl rfl hK
theorem qzaai (hS : S0 Tryd.prog = S) {zw : Z} (hw : zw.v = w) (hab : ilen a + ilen b ≤ 60000) (hF : cellsB (fldB (a, b) w) = F) (hn : n = ilen (fldB (a, b) w)) (hK : K (.v false 1 F (.y n)) bl) : S.call 52 [.ag [.s a, .s b], .i .i64 zw] bl K :=
  qdb hS (own_t0 (fld_o hab) hF hn) (.cons .rfl (.cons (qan hw) .nil)) rfl hK
theorem idx_g (hS : S0 Tryd.prog = S) {zi : Z} (hi : zi.v = i) (h0 : 0 ≤ i) (h1 : i < 2147483648) (hF : cellsB (idxB i) = F) (hn : n = ilen (idxB i)) (hK : K (.tp [.v false 1 F (.y n), .i .i64 (.y 0)]) bl) : S.call 53 [.i .i64 zi] bl K :=
  qdb hS (own_t1 (idx_o h0 h1) hF hn) (.cons (qan hi) .nil) rfl hK
end
theorem field_f {mx : Int} {l l' : List Tb.Fd} {a b : List UInt8} {L : List Int} {F R : List SV} {n m : Int} (hR : rightL mx l = true) (hL : fieldB mx l (a, b) = L) (hl : fieldL mx l (a, b) = l') (hF : cellsB L = F) (hn : n = ilen L) (hRr : cellsF l' = R) (hm : m = ilen l')
    (hab : ilen a + ilen b ≤ 60000) :
    (S0 Tryd.prog).call 44 [tabV mx l, .ag [.s a, .s b]] [] (Tell (.tp [.v false 1 F (.y n), .ag [.i .i64 (.y mx), .v false 2 R (.y m)], .i .i64 (.y 0)])) := by
  have hl0 := qdi hR
  have hR' := of_decide_eq_true hR
  have h0a := qah a
  have h0b := qah b
  unfold tabV
  generalize hG : cellsF l = G
  obtain ⟨k, hk⟩ : ∃ k, k = ilen l := ⟨_, rfl⟩
  obtain ⟨sz, hsz⟩ : ∃ r, r = szF (a, b) := ⟨_, rfl⟩
  have hsz' : sz = ilen a + ilen b + 32 := hsz
  have hres : resR (mx, l) mx = ((mx, l), 0) := by unfold resR; rw [if_pos ⟨hR, hR'.1, hR'.2.1⟩]; dsimp only; rw [qzafb hR'.2.2]
  have hadd : addR (mx, l) (a, b) = ((mx, evL mx ((a, b) :: l)), 0) := by unfold addR; rw [if_pos hR]
  have hrg := qst l (a, b)
  unfold fieldL addP at hl
  unfold fieldB ownB at hL
  unfold wayP at hL hl
  rw [← hsz] at hL hl
  obtain ⟨⟨fi, ft⟩, hfi⟩ : ∃ r, Tb.findR l (a, b) = r := ⟨_, rfl⟩
  rw [hfi] at hL hl hrg
  dsimp only at hL hl hrg
  rw [← hk]
  generalize hS : S0 Tryd.prog = S
  refine qaa hS I.qzaaf ?_
  cbv
  refine res_g hS (.v (z := .y mx) (n := .y k) rfl hG hk) hres hG hk (by omega) ?_
  cbv
  repeat' (first
    | (refine qbl hS rfl ?_; try cbv)
    | (refine s_ck hS ?_; try cbv)
    | (refine qad hS ?_ ?_ <;> intro h <;> (try cbv) <;> try exact s_ab h)
    | (refine s_ad hS ?_; intro _ _; try cbv)
    | (refine s_sb hS ?_; intro _ _; try cbv)
    | (refine qaq hS ?_; intro _ _; try cbv)
    | (refine qaf hS ?_; try cbv)
    | (refine qbk hS ?_; try cbv)
    | (refine s_lk hS ?_; try cbv)
    | (refine s_mu hS ?_; try cbv)
    | fail)
  refine find_g hS (.v (z := .y mx) (n := .y k) rfl hG hk) hfi (by omega) ?_
  cbv
  cases ft with
  | true =>
    cbv
    simp only [if_true] at hL hl
    simp at hl
    subst hl hL
    repeat' (first
      | (refine qbl hS rfl ?_; try cbv)
      | (refine s_ck hS ?_; try cbv)
      | (refine qad hS ?_ ?_ <;> intro h <;> (try cbv) <;> try exact s_ab h)
      | (refine s_ad hS ?_; intro _ _; try cbv)
      | (refine s_sb hS ?_; intro _ _; try cbv)
      | (refine qaq hS ?_; intro _ _; try cbv)
      | (refine qaf hS ?_; try cbv)
      | (refine idx_g hS (i := fi) rfl hrg.1 (by omega) hF hn ?_; cbv)
      | (refine qao hS rfl I.qcf (by decide +kernel) ?_; cbv)
      | (refine qao hS rfl I.qce (by decide +kernel) ?_; cbv)
      | (refine qao hS rfl I.qcd (by decide +kernel) ?_; cbv)
      | (refine qao hS rfl I.qcc (by decide +kernel) ?_; cbv)
      | (refine qao hS rfl I.qcb (by decide +kernel) ?_; cbv)
      | (refine qao hS rfl I.qca (by decide +kernel) ?_; cbv)
      | (refine qbk hS ?_; try cbv)
      | (refine s_lk hS ?_; try cbv)
      | (refine s_mu hS ?_; try cbv)
      | fail)
    exact fun g => .sub (qbj (.cons .rfl (.cons (qfi (.cons .rfl (.cons (qav (hG.symm.trans hRr) (hk.trans hm.symm)) .nil))) (.cons (qan rfl) .nil)))) rfl
  | false =>
    cbv
    rw [if_neg (by simp)] at hL
    by_cases hc : a = ckN
    · rw [if_pos hc] at hL hl
      rw [if_neg (by simp)] at hl
      subst hl
      by_cases hp : 0 < fi
      · rw [if_pos hp] at hL
        subst hL
        repeat' (first
          | (refine qbl hS rfl ?_; try cbv)
          | (refine s_ck hS ?_; try cbv)
          | (refine qad hS ?_ ?_ <;> intro h <;> (try cbv) <;> try exact s_ab h)
          | (refine s_ad hS ?_; intro _ _; try cbv)
          | (refine s_sb hS ?_; intro _ _; try cbv)
          | (refine qaq hS ?_; intro _ _; try cbv)
          | (refine qaf hS ?_; try cbv)
          | (refine qgi hS (t := true) (decide_eq_true hc) ?_; cbv)
          | (refine qih hS (i := fi) (w := 2) rfl rfl hp (by omega) (by omega) hF hn ?_; cbv)
          | (refine qih hS (i := fi) (w := 3) rfl rfl hp (by omega) (by omega) hF hn ?_; cbv)
          | (refine qih hS (i := fi) (w := 1) rfl rfl hp (by omega) (by omega) hF hn ?_; cbv)
          | (refine qao hS rfl I.qcf (by decide +kernel) ?_; cbv)
          | (refine qao hS rfl I.qce (by decide +kernel) ?_; cbv)
          | (refine qao hS rfl I.qcd (by decide +kernel) ?_; cbv)
          | (refine qao hS rfl I.qcc (by decide +kernel) ?_; cbv)
          | (refine qao hS rfl I.qcb (by decide +kernel) ?_; cbv)
          | (refine qao hS rfl I.qca (by decide +kernel) ?_; cbv)
          | (refine qaa hS I.qcp ?_; cbv)
          | (refine qbk hS ?_; try cbv)
          | (refine s_lk hS ?_; try cbv)
          | (refine s_mu hS ?_; try cbv)
          | fail)
        exact fun g => .sub (qbj (.cons .rfl (.cons (qfi (.cons .rfl (.cons (qav (hG.symm.trans hRr) (hk.trans hm.symm)) .nil))) (.cons (qan rfl) .nil)))) rfl
      · rw [if_neg hp] at hL
        subst hL
        have hp0 : fi = 0 := by omega
        repeat' (first
          | (refine qbl hS rfl ?_; try cbv)
          | (refine s_ck hS ?_; try cbv)
          | (refine qad hS ?_ ?_ <;> intro h <;> (try cbv) <;> try exact s_ab h)
          | (refine s_ad hS ?_; intro _ _; try cbv)
          | (refine s_sb hS ?_; intro _ _; try cbv)
          | (refine qaq hS ?_; intro _ _; try cbv)
          | (refine qaf hS ?_; try cbv)
          | (refine qgi hS (t := true) (decide_eq_true hc) ?_; cbv)
          | (refine qzaai hS (w := 2) rfl hab hF hn ?_; cbv)
          | (refine qzaai hS (w := 3) rfl hab hF hn ?_; cbv)
          | (refine qzaai hS (w := 1) rfl hab hF hn ?_; cbv)
          | (refine qao hS rfl I.qcf (by decide +kernel) ?_; cbv)
          | (refine qao hS rfl I.qce (by decide +kernel) ?_; cbv)
          | (refine qao hS rfl I.qcd (by decide +kernel) ?_; cbv)
          | (refine qao hS rfl I.qcc (by decide +kernel) ?_; cbv)
          | (refine qao hS rfl I.qcb (by decide +kernel) ?_; cbv)
          | (refine qao hS rfl I.qca (by decide +kernel) ?_; cbv)
          | (refine qzaeq hS hp0 ?_; cbv)
          | (refine qaa hS I.qcp ?_; cbv)
          | (refine qbk hS ?_; try cbv)
          | (refine s_lk hS ?_; try cbv)
          | (refine s_mu hS ?_; try cbv)
          | fail)
        exact fun g => .sub (qbj (.cons .rfl (.cons (qfi (.cons .rfl (.cons (qav (hG.symm.trans hRr) (hk.trans hm.symm)) .nil))) (.cons (qan rfl) .nil)))) rfl
    · rw [if_neg hc] at hL hl
      by_cases hs : sz ≤ mx
      · rw [if_pos hs] at hL hl
        rw [if_pos (by simp)] at hl
        subst hl
        by_cases hp : 0 < fi
        · rw [if_pos hp] at hL
          subst hL
          repeat' (first
            | (refine qbl hS rfl ?_; try cbv)
            | (refine s_ck hS ?_; try cbv)
            | (refine qad hS ?_ ?_ <;> intro h <;> (try cbv) <;> try exact s_ab h)
            | (refine s_ad hS ?_; intro _ _; try cbv)
            | (refine s_sb hS ?_; intro _ _; try cbv)
            | (refine qaq hS ?_; intro _ _; try cbv)
            | (refine qaf hS ?_; try cbv)
            | (refine qgi hS (t := false) (decide_eq_false hc) ?_; cbv)
            | (refine qih hS (i := fi) (w := 2) rfl rfl hp (by omega) (by omega) hF hn ?_; cbv)
            | (refine qih hS (i := fi) (w := 3) rfl rfl hp (by omega) (by omega) hF hn ?_; cbv)
            | (refine qih hS (i := fi) (w := 1) rfl rfl hp (by omega) (by omega) hF hn ?_; cbv)
            | (refine qao hS rfl I.qcf (by decide +kernel) ?_; cbv)
            | (refine qao hS rfl I.qce (by decide +kernel) ?_; cbv)
            | (refine qao hS rfl I.qcd (by decide +kernel) ?_; cbv)
            | (refine qao hS rfl I.qcc (by decide +kernel) ?_; cbv)
            | (refine qao hS rfl I.qcb (by decide +kernel) ?_; cbv)
            | (refine qao hS rfl I.qca (by decide +kernel) ?_; cbv)
            | (refine qaa hS I.qcp ?_; cbv)
            | (refine size_g hS hsz (by omega) ?_; cbv)
            | (refine add_g hS (.v (z := .y mx) (n := .y k) rfl hG hk) hadd hRr hm (by omega) (by omega) ?_; cbv)
            | (refine qbk hS ?_; try cbv)
            | (refine s_lk hS ?_; try cbv)
            | (refine s_mu hS ?_; try cbv)
            | fail)
          exact fun g => .sub (qbj (.cons .rfl (.cons .rfl (.cons (qan rfl) .nil)))) rfl
        · rw [if_neg hp] at hL
          subst hL
          have hp0 : fi = 0 := by omega
          repeat' (first
            | (refine qbl hS rfl ?_; try cbv)
            | (refine s_ck hS ?_; try cbv)
            | (refine qad hS ?_ ?_ <;> intro h <;> (try cbv) <;> try exact s_ab h)
            | (refine s_ad hS ?_; intro _ _; try cbv)
            | (refine s_sb hS ?_; intro _ _; try cbv)
            | (refine qaq hS ?_; intro _ _; try cbv)
            | (refine qaf hS ?_; try cbv)
            | (refine qgi hS (t := false) (decide_eq_false hc) ?_; cbv)
            | (refine qzaai hS (w := 2) rfl hab hF hn ?_; cbv)
            | (refine qzaai hS (w := 3) rfl hab hF hn ?_; cbv)
            | (refine qzaai hS (w := 1) rfl hab hF hn ?_; cbv)
            | (refine qao hS rfl I.qcf (by decide +kernel) ?_; cbv)
            | (refine qao hS rfl I.qce (by decide +kernel) ?_; cbv)
            | (refine qao hS rfl I.qcd (by decide +kernel) ?_; cbv)
            | (refine qao hS rfl I.qcc (by decide +kernel) ?_; cbv)
            | (refine qao hS rfl I.qcb (by decide +kernel) ?_; cbv)
            | (refine qao hS rfl I.qca (by decide +kernel) ?_; cbv)
            | (refine qzaeq hS hp0 ?_; cbv)
            | (refine qaa hS I.qcp ?_; cbv)
            | (refine size_g hS hsz (by omega) ?_; cbv)
            | (refine add_g hS (.v (z := .y mx) (n := .y k) rfl hG hk) hadd hRr hm (by omega) (by omega) ?_; cbv)
            | (refine qbk hS ?_; try cbv)
            | (refine s_lk hS ?_; try cbv)
            | (refine s_mu hS ?_; try cbv)
            | fail)
          exact fun g => .sub (qbj (.cons .rfl (.cons .rfl (.cons (qan rfl) .nil)))) rfl
      · rw [if_neg hs] at hL hl
        rw [if_neg (by simp)] at hl
        subst hl
        by_cases hp : 0 < fi
        · rw [if_pos hp] at hL
          subst hL
          repeat' (first
            | (refine qbl hS rfl ?_; try cbv)
            | (refine s_ck hS ?_; try cbv)
            | (refine qad hS ?_ ?_ <;> intro h <;> (try cbv) <;> try exact s_ab h)
            | (refine s_ad hS ?_; intro _ _; try cbv)
            | (refine s_sb hS ?_; intro _ _; try cbv)
            | (refine qaq hS ?_; intro _ _; try cbv)
            | (refine qaf hS ?_; try cbv)
            | (refine qgi hS (t := false) (decide_eq_false hc) ?_; cbv)
            | (refine qih hS (i := fi) (w := 2) rfl rfl hp (by omega) (by omega) hF hn ?_; cbv)
            | (refine qih hS (i := fi) (w := 3) rfl rfl hp (by omega) (by omega) hF hn ?_; cbv)
            | (refine qih hS (i := fi) (w := 1) rfl rfl hp (by omega) (by omega) hF hn ?_; cbv)
            | (refine qao hS rfl I.qcf (by decide +kernel) ?_; cbv)
            | (refine qao hS rfl I.qce (by decide +kernel) ?_; cbv)
            | (refine qao hS rfl I.qcd (by decide +kernel) ?_; cbv)
            | (refine qao hS rfl I.qcc (by decide +kernel) ?_; cbv)
            | (refine qao hS rfl I.qcb (by decide +kernel) ?_; cbv)
            | (refine qao hS rfl I.qca (by decide +kernel) ?_; cbv)
            | (refine qaa hS I.qcp ?_; cbv)
            | (refine size_g hS hsz (by omega) ?_; cbv)
            | (refine qbk hS ?_; try cbv)
            | (refine s_lk hS ?_; try cbv)
            | (refine s_mu hS ?_; try cbv)
            | fail)
          exact fun g => .sub (qbj (.cons .rfl (.cons (qfi (.cons .rfl (.cons (qav (hG.symm.trans hRr) (hk.trans hm.symm)) .nil))) (.cons (qan rfl) .nil)))) rfl
        · rw [if_neg hp] at hL
          subst hL
          have hp0 : fi = 0 := by omega
          repeat' (first
            | (refine qbl hS rfl ?_; try cbv)
            | (refine s_ck hS ?_; try cbv)
            | (refine qad hS ?_ ?_ <;> intro h <;> (try cbv) <;> try exact s_ab h)
            | (refine s_ad hS ?_; intro _ _; try cbv)
            | (refine s_sb hS ?_; intro _ _; try cbv)
            | (refine qaq hS ?_; intro _ _; try cbv)
            | (refine qaf hS ?_; try cbv)
            | (refine qgi hS (t := false) (decide_eq_false hc) ?_; cbv)
            | (refine qzaai hS (w := 2) rfl hab hF hn ?_; cbv)
            | (refine qzaai hS (w := 3) rfl hab hF hn ?_; cbv)
            | (refine qzaai hS (w := 1) rfl hab hF hn ?_; cbv)
            | (refine qao hS rfl I.qcf (by decide +kernel) ?_; cbv)
            | (refine qao hS rfl I.qce (by decide +kernel) ?_; cbv)
            | (refine qao hS rfl I.qcd (by decide +kernel) ?_; cbv)
            | (refine qao hS rfl I.qcc (by decide +kernel) ?_; cbv)
            | (refine qao hS rfl I.qcb (by decide +kernel) ?_; cbv)
            | (refine qao hS rfl I.qca (by decide +kernel) ?_; cbv)
            | (refine qzaeq hS hp0 ?_; cbv)
            | (refine qaa hS I.qcp ?_; cbv)
            | (refine size_g hS hsz (by omega) ?_; cbv)
            | (refine qbk hS ?_; try cbv)
            | (refine s_lk hS ?_; try cbv)
            | (refine s_mu hS ?_; try cbv)
            | fail)
          exact fun g => .sub (qbj (.cons .rfl (.cons (qfi (.cons .rfl (.cons (qav (hG.symm.trans hRr) (hk.trans hm.symm)) .nil))) (.cons (qan rfl) .nil)))) rfl
end Pa
end Cz
namespace Cz
open Go Go.RowKit Go.Proofs
namespace Pa
open Tb
section
variable {S : Sy} {bl : List Blk} {K : SV → List Blk → Prop}
theorem qzaez (hS : S0 Tryd.prog = S) {cs : List SV} {mx : Int} {l l' : List Tb.Fd} {a b : List UInt8} {L : List Int} {F R : List SV} {n m : Int} (hc : TabC [] cs mx l) (hR : rightL mx l = true) (hL : fieldB mx l (a, b) = L) (hl : fieldL mx l (a, b) = l') (hF : cellsB L = F) (hn : n = ilen L) (hRr : cellsF l' = R) (hm : m = ilen l')
    (hab : ilen a + ilen b ≤ 60000) (hK : K (.tp [.v false 1 F (.y n), .ag [.i .i64 (.y mx), .v false 2 R (.y m)], .i .i64 (.y 0)]) bl) : S.call 44 [.ag cs, .ag [.s a, .s b]] bl K := by
  refine qdb hS (field_f hR hL hl hF hn hRr hm hab) ?_ rfl hK
  match hc.sub with
  | .cons h _ => exact .cons h .rfl
end
theorem block_f {mx : Int} {l l' fs : List Tb.Fd} {L : List Int} {F R : List SV} {n m : Int} (hR : rightL mx l = true) (hL : blockB mx l fs = L) (hl : blockL mx l fs = l') (hF : cellsB L = F) (hn : n = ilen L) (hRr : cellsF l' = R) (hm : m = ilen l')
    (hfs : fullL fs ≤ 60000) :
    (S0 Tryd.prog).call 40 [tabV mx l, .v false 2 (cellsF fs) (.y (ilen fs))] [] (Tell (.tp [.v false 1 F (.y n), .ag [.i .i64 (.y mx), .v false 2 R (.y m)], .i .i64 (.y 0)])) := by
  have hl0 := qdi hR
  have hR' := of_decide_eq_true hR
  unfold tabV
  generalize hG : cellsF l = G
  obtain ⟨k, hk⟩ : ∃ k, k = ilen l := ⟨_, rfl⟩
  generalize hH : cellsF fs = H
  obtain ⟨q, hq⟩ : ∃ k, k = ilen fs := ⟨_, rfl⟩
  have hres : resR (mx, l) mx = ((mx, l), 0) := by unfold resR; rw [if_pos ⟨hR, hR'.1, hR'.2.1⟩]; dsimp only; rw [qzafb hR'.2.2]
  rw [← hk, ← hq]
  generalize hS : S0 Tryd.prog = S
  refine qaa hS I.qok ?_
  cbv
  refine res_g hS (.v (z := .y mx) (n := .y k) rfl hG hk) hres hG hk (by omega) ?_
  cbv
  repeat' (first
    | (refine qbl hS rfl ?_; try cbv)
    | (refine s_ck hS ?_; try cbv)
    | (refine qad hS ?_ ?_ <;> intro h <;> (try cbv) <;> try exact s_ab h)
    | (refine s_ad hS ?_; intro _ _; try cbv)
    | (refine s_sb hS ?_; intro _ _; try cbv)
    | (refine qaq hS ?_; intro _ _; try cbv)
    | (refine qaf hS ?_; try cbv)
    | (refine qaa hS I.qwq ?_; cbv)
    | (refine qic hS I.qrt ?_; cbv)
    | (refine qbk hS ?_; try cbv)
    | (refine s_lk hS ?_; try cbv)
    | (refine s_mu hS ?_; try cbv)
    | fail)
  refine qtm hS 1 0 1 (by decide) rfl rfl ?_
  cbv
  refine qau hS 8 I.qlq (fun x : Int × Int × List SV × Int × List SV × Int => 0 ≤ x.1 ∧ x.1 ≤ q ∧ ∃ Lb lt, blockB mx l (fs.take x.1.toNat) = Lb ∧ blockL mx l (fs.take x.1.toNat) = lt ∧ cellsB Lb = x.2.2.1 ∧ x.2.2.2.1 = ilen Lb ∧ cellsF lt = x.2.2.2.2.1 ∧ x.2.2.2.2.2 = ilen lt)
    (fun x => [(9, .i .i64 (.y x.1))])
    (fun x => [(1, .c [.sl 7 1 (.l 0) (.y x.2.2.2.1) none]), (2, .c [.i .i64 (.y mx), .v false 2 x.2.2.2.2.1 (.y x.2.2.2.2.2)]), (3, .c [.i .i64 (.y mx), .v false 2 x.2.2.2.2.1 (.y x.2.2.2.2.2)]), (7, .r false false (.y x.2.1) 1 x.2.2.1)])
    (fun x => (q - x.1).toNat) (0, 0, [], 0, G, k) rfl
    ⟨⟨Int.le_refl _, by dsimp only; rw [hq]; exact qah _, [], l, rfl, rfl, rfl, rfl, hG, hk⟩, rfl, ?_, ?_, by cbv⟩ ?_
  · cbv; exact s_qA
  · cbv; exact s_qA
  intro x
  obtain ⟨i, st, B, bn, T, tn⟩ := x
  intro hx
  dsimp only at hx
  cbv
  obtain ⟨k0, k1, Lb, lt, f1, f2, f3, f4, f5, f6⟩ := hx
  refine qad hS ?_ ?_ <;> intro h <;> cbv
  · obtain ⟨⟨a, b⟩, hp⟩ := qfe (l := fs) (i := i) (by omega) k0
    have hRt : rightL mx lt = true := f2 ▸ qfu hR
    have hsz := qmw hp
    have hsz' : szF (a, b) = ilen a + ilen b + 32 := rfl
    have h0a := qah a
    have h0b := qah b
    obtain ⟨Lf, hLf⟩ : ∃ L, fieldB mx lt (a, b) = L := ⟨_, rfl⟩
    obtain ⟨lf, hlf⟩ : ∃ L, fieldL mx lt (a, b) = L := ⟨_, rfl⟩
    obtain ⟨Ff, hFf⟩ : ∃ F, cellsB Lf = F := ⟨_, rfl⟩
    obtain ⟨nf, hnf⟩ : ∃ n, n = ilen Lf := ⟨_, rfl⟩
    obtain ⟨Rf, hRf⟩ : ∃ F, cellsF lf = F := ⟨_, rfl⟩
    obtain ⟨mf, hmf⟩ : ∃ n, n = ilen lf := ⟨_, rfl⟩
    obtain ⟨nx1, nx2⟩ := block_next (mx := mx) (l := l) hp k0
    rw [f1, f2, hLf] at nx1
    rw [f2, hlf] at nx2
    have hfl := qzadl mx lt (a, b)
    rw [hLf, ← hnf] at hfl
    have hbl := qkj mx (fs.take i.toNat) l
    have hft := qei fs i.toNat
    rw [f1, ← f4] at hbl
    have hnf0 : 0 ≤ nf := hnf ▸ qah _
    have hbn0 : 0 ≤ bn := f4 ▸ qah _
    have hfn := qco fs
    have hBl : ilen B = bn := by rw [← f3, qbc, f4]
    repeat' (first
      | (refine qbl hS rfl ?_; try cbv)
      | (refine s_ck hS ?_; try cbv)
      | (refine qad hS ?_ ?_ <;> intro h <;> (try cbv) <;> try exact s_ab h)
      | (refine s_ad hS ?_; intro _ _; try cbv)
      | (refine s_sb hS ?_; intro _ _; try cbv)
      | (refine qaq hS ?_; intro _ _; try cbv)
      | (refine qaf hS ?_; try cbv)
      | (refine rowF hS hH hp k0 ?_; cbv)
      | (refine qzaez hS (.v (z := .y mx) (n := .y tn) rfl f5 f6) hRt hLf hlf hFf hnf hRf hmf (by omega) ?_; cbv)
      | (refine qib hS rfl rfl ?_; cbv)
      | (refine qao hS rfl I.qix (by decide +kernel) ?_; cbv)
      | (refine qao hS rfl I.qrn (by decide +kernel) ?_; cbv)
      | (refine qbk hS ?_; try cbv)
      | (refine s_lk hS ?_; try cbv)
      | (refine s_mu hS ?_; try cbv)
      | fail)
    rename_i i2 hi2
    have e1 : S.app B Ff = cellsB (Lb ++ Lf) := qfv hS f3.symm hFf.symm
    have e2 : S.pl bn nf = ilen (Lb ++ Lf) := by rw [qbf, ← f4, ← hnf]; subst hS; rfl
    refine ⟨(i2, S.flen B, S.app B Ff, S.pl bn nf, Rf, mf), by dsimp only; omega, ⟨by dsimp only; omega, by dsimp only; omega, Lb ++ Lf, lf, by dsimp only; rw [hi2]; exact nx1, by dsimp only; rw [hi2]; exact nx2, e1.symm, e2, hRf, hmf⟩, rfl, ?_, ?_, by cbv⟩
    · cbv; exact s_qA
    · cbv; exact s_qA
  · refine qao hS rfl I.qrm (by decide +kernel) ?_
    cbv
    have hft : fs.take i.toNat = fs := qbx (by omega)
    rw [hft] at f1 f2
    have e1 : cellsB L = F := hF
    rw [← hL, f1] at e1 hn
    rw [← hl, f2] at hRr hm
    subst e1 hRr
    exact fun g => .tp (.cons (bytes_fz (z := .y bn) rfl f3 f4 hn g) (.cons (.ag (.cons (.sub .rfl rfl) (.cons (.sub (qav f5.symm (f6.trans hm.symm)) rfl) .nil))) (.cons (.sub (qan rfl) rfl) .nil)))
section
variable {S : Sy} {bl : List Blk} {K : SV → List Blk → Prop}
theorem qzafj (hS : S0 Tryd.prog = S) {cs : List SV} {x : SV} {mx : Int} {l l' fs : List Tb.Fd} {L : List Int} {F R : List SV} {n m : Int} (hc : TabC [] cs mx l) (hx : Sub x (.v false 2 (cellsF fs) (.y (ilen fs)))) (hR : rightL mx l = true) (hL : blockB mx l fs = L) (hl : blockL mx l fs = l') (hF : cellsB L = F) (hn : n = ilen L) (hRr : cellsF l' = R) (hm : m = ilen l')
    (hfs : fullL fs ≤ 60000) (hK : K (.tp [.v false 1 F (.y n), .ag [.i .i64 (.y mx), .v false 2 R (.y m)], .i .i64 (.y 0)]) bl) : S.call 40 [.ag cs, x] bl K := by
  refine qdb hS (block_f hR hL hl hF hn hRr hm hfs) ?_ rfl hK
  match hc.sub with
  | .cons h _ => exact .cons h (.cons hx .nil)
end
theorem sized_f {mx most : Int} {l l' fs : List Tb.Fd} {L : List Int} {F R : List SV} {n m : Int} (hR : rightL mx l = true) (h0 : 0 ≤ most) (h1 : most ≤ 4096) (hL : sizB most ++ blockB most (evL most l) fs = L) (hl : blockL most (evL most l) fs = l') (hF : cellsB L = F) (hn : n = ilen L) (hRr : cellsF l' = R) (hm : m = ilen l')
    (hfs : fullL fs ≤ 60000) :
    (S0 Tryd.prog).call 42 [tabV mx l, .i .i64 (.y most), .v false 2 (cellsF fs) (.y (ilen fs))] [] (Tell (.tp [.v false 1 F (.y n), .ag [.i .i64 (.y most), .v false 2 R (.y m)], .i .i64 (.y 0)])) := by
  have hl0 := qdi hR
  have hR' := of_decide_eq_true hR
  unfold tabV
  generalize hG : cellsF l = G
  obtain ⟨k, hk⟩ : ∃ k, k = ilen l := ⟨_, rfl⟩
  obtain ⟨lr, hlr⟩ : ∃ r, evL most l = r := ⟨_, rfl⟩
  obtain ⟨rF, hrF⟩ : ∃ r, cellsF lr = r := ⟨_, rfl⟩
  obtain ⟨rn, hrn⟩ : ∃ r, r = ilen lr := ⟨_, rfl⟩
  have hres : resR (mx, l) most = ((most, lr), 0) := by unfold resR; rw [if_pos ⟨hR, h0, h1⟩, hlr]
  have hRr2 : rightL most lr = true := hlr ▸ qyr h0 h1
  rw [hlr] at hL hl
  obtain ⟨Lb, hLb⟩ : ∃ L, blockB most lr fs = L := ⟨_, rfl⟩
  obtain ⟨Fb, hFb⟩ : ∃ F, cellsB Lb = F := ⟨_, rfl⟩
  obtain ⟨nb, hnb⟩ : ∃ n, n = ilen Lb := ⟨_, rfl⟩
  have hbl := qkj most fs lr
  rw [hLb] at hL
  rw [hLb, ← hnb] at hbl
  obtain ⟨Fz, hFz⟩ : ∃ F, cellsB (sizB most) = F := ⟨_, rfl⟩
  obtain ⟨nz, hnz⟩ : ∃ n, n = ilen (sizB most) := ⟨_, rfl⟩
  have hzl := qcu most 32 32
  have hzl2 : nz = ilen (putI most 32 32) := hnz
  have hFl : ilen Fz = nz := by rw [← hFz, qbc, hnz]
  rw [← hzl2] at hzl
  generalize hH : cellsF fs = H
  obtain ⟨q, hq⟩ : ∃ k, k = ilen fs := ⟨_, rfl⟩
  rw [← hk, ← hq]
  generalize hS : S0 Tryd.prog = S
  refine qaa hS I.qzaae ?_
  cbv
  refine res_g hS (.v (z := .y mx) (n := .y k) rfl hG hk) hres hrF hrn (by omega) ?_
  cbv
  repeat' (first
    | (refine qbl hS rfl ?_; try cbv)
    | (refine s_ck hS ?_; try cbv)
    | (refine qad hS ?_ ?_ <;> intro h <;> (try cbv) <;> try exact s_ab h)
    | (refine s_ad hS ?_; intro _ _; try cbv)
    | (refine s_sb hS ?_; intro _ _; try cbv)
    | (refine qaq hS ?_; intro _ _; try cbv)
    | (refine qaf hS ?_; try cbv)
    | (refine own_u1 hS (siz_o h0 (by omega)) (.cons (qan rfl) .nil) rfl hFz hnz ?_; cbv)
    | (refine qzafj hS (.v (z := .y most) (n := .y rn) rfl hrF hrn) (qav hH.symm hq) hRr2 hLb hl hFb hnb hRr hm hfs ?_; cbv)
    | (refine qao hS rfl I.qrl (by decide +kernel) ?_; cbv)
    | (refine qao hS rfl I.qrk (by decide +kernel) ?_; cbv)
    | (refine qbk hS ?_; try cbv)
    | (refine s_lk hS ?_; try cbv)
    | (refine s_mu hS ?_; try cbv)
    | fail)
  have e1 : S.app Fz Fb = cellsB L := by rw [qfv hS hFz.symm hFb.symm, hL]
  have e2 : S.pl nz nb = ilen L := by rw [← hL, qbf, ← hnz, ← hnb]; subst hS; rfl
  subst hF
  exact fun g => .tp (.cons (bytes_fz (z := .y (S.pl nz nb)) rfl e1.symm e2 hn g) (.cons (.sub .rfl rfl) (.cons (.sub (qan rfl) rfl) .nil)))
section
variable {S : Sy} {bl : List Blk} {K : SV → List Blk → Prop}
theorem sized_g (hS : S0 Tryd.prog = S) {cs : List SV} {x : SV} {zm : Z} {mx most : Int} {l l' fs : List Tb.Fd} {L : List Int} {F R : List SV} {n m : Int} (hc : TabC [] cs mx l) (hx : Sub x (.v false 2 (cellsF fs) (.y (ilen fs)))) (hz : zm.v = most) (hR : rightL mx l = true) (h0 : 0 ≤ most) (h1 : most ≤ 4096) (hL : sizB most ++ blockB most (evL most l) fs = L) (hl : blockL most (evL most l) fs = l') (hF : cellsB L = F) (hn : n = ilen L) (hRr : cellsF l' = R) (hm : m = ilen l')
    (hfs : fullL fs ≤ 60000) (hK : K (.tp [.v false 1 F (.y n), .ag [.i .i64 (.y most), .v false 2 R (.y m)], .i .i64 (.y 0)]) bl) : S.call 42 [.ag cs, .i .i64 zm, x] bl K := by
  refine qdb hS (sized_f hR h0 h1 hL hl hF hn hRr hm hfs) ?_ rfl hK
  match hc.sub with
  | .cons h _ => exact .cons h (.cons (qan hz) (.cons hx .nil))
end
def errP : SV := .tp [.v false 1 [] (.y 0), .ag [.i .i64 (.y 0), .v false 2 [] (.y 0)], .i .i64 (.y 2)]
theorem err_fz {x : SV} {l' : List Blk} (h : Sub x (.tp [.re (.slice none 0 0), .ag [.i .i64 (.l 0), .re (.slice none 0 0)], .i .i64 (.l 2)]) ∨ Sub x (.tp [.re (.slice none 0 0), .ag [.i .i64 (.y 0), .v false 2 [] (.y 0)], .i .i64 (.l 2)])) (hr : refsB (fun _ => false) x = true) : Tell errP x l' := by
  refine fun g => .sub ?_ hr
  rcases h with h | h
  · exact h.trans (qbj (.cons (qqv (by decide) rfl rfl) (.cons (qfi (.cons (qan rfl) (.cons (qqv (by decide) rfl rfl) .nil))) (.cons (qan rfl) .nil))))
  · exact h.trans (qbj (.cons (qqv (by decide) rfl rfl) (.cons .rfl (.cons (qan rfl) .nil))))
theorem block_e {mx : Int} {l fs : List Tb.Fd} (hR : rightL mx l = false) (hb : fullL l ≤ 10000000) : (S0 Tryd.prog).call 40 [tabV mx l, .v false 2 (cellsF fs) (.y (ilen fs))] [] (Tell errP) := by
  unfold tabV
  generalize hG : cellsF l = G
  obtain ⟨k, hk⟩ : ∃ k, k = ilen l := ⟨_, rfl⟩
  have hres : resR (mx, l) mx = ((0, []), 2) := by unfold resR; rw [if_neg (by rw [hR]; simp)]
  rw [← hk]
  generalize hH : cellsF fs = H
  obtain ⟨q, hq⟩ : ∃ k, k = ilen fs := ⟨_, rfl⟩
  rw [← hq]
  generalize hS : S0 Tryd.prog = S
  refine qaa hS I.qok ?_
  cbv
  refine res_g hS (.v (z := .y mx) (n := .y k) rfl hG hk) hres rfl rfl (by omega) ?_
  cbv
  repeat' (first
    | (refine qbl hS rfl ?_; try cbv)
    | (refine s_ck hS ?_; try cbv)
    | (refine qad hS ?_ ?_ <;> intro h <;> (try cbv) <;> try exact s_ab h)
    | (refine s_ad hS ?_; intro _ _; try cbv)
    | (refine s_sb hS ?_; intro _ _; try cbv)
    | (refine qaq hS ?_; intro _ _; try cbv)
    | (refine qaf hS ?_; try cbv)
    | (refine qao hS rfl I.qix (by decide +kernel) ?_; cbv)
    | (refine qbk hS ?_; try cbv)
    | (refine s_lk hS ?_; try cbv)
    | (refine s_mu hS ?_; try cbv)
    | fail)
  exact err_fz (.inr .rfl) rfl
end Pa
end Cz
namespace Cz
open Go Go.RowKit Go.Proofs
namespace Pa
open Tb
theorem strB_inj {a b : List Int} (ha : Hu.BOk a) (hb : Hu.BOk b) (h : strB a = strB b) : a = b := by rw [← byS_strB ha, ← byS_strB hb, h]
theorem rsm_f {a b : List Int} {t : Bool} (ha : Hu.BOk a) (hb : Hu.BOk b) (ht : decide (a = b) = t) : (S0 Tryd.prog).call 46 [.v false 1 (cellsB a) (.y (ilen a)), .v false 1 (cellsB b) (.y (ilen b))] [] (fun x _ => Sub x (.b t)) := by
  generalize hF : cellsB a = F
  generalize hG : cellsB b = G
  obtain ⟨m, hm⟩ : ∃ m, m = ilen a := ⟨_, rfl⟩
  obtain ⟨n, hn⟩ : ∃ n, n = ilen b := ⟨_, rfl⟩
  rw [← hm, ← hn]
  obtain ⟨x, hx⟩ : ∃ x, strB a = x := ⟨_, rfl⟩
  obtain ⟨y, hy⟩ : ∃ x, strB b = x := ⟨_, rfl⟩
  generalize hS : S0 Tryd.prog = S
  refine qaa hS I.qnh ?_
  cbv
  repeat' (first
    | (refine qbl hS rfl ?_; try cbv)
    | (refine s_ck hS ?_; try cbv)
    | (refine qad hS ?_ ?_ <;> intro h <;> (try cbv) <;> try exact s_ab h)
    | (refine s_ad hS ?_; intro _ _; try cbv)
    | (refine s_sb hS ?_; intro _ _; try cbv)
    | (refine qaq hS ?_; intro _ _; try cbv)
    | (refine qaf hS ?_; try cbv)
    | (refine s_bsx hS ha hF hm hx ?_; cbv)
    | (refine s_bsx hS hb hG hn hy ?_; cbv)
    | (refine qbk hS ?_; try cbv)
    | (refine s_lk hS ?_; try cbv)
    | (refine s_mu hS ?_; try cbv)
    | fail)
  refine qrg ?_
  subst hS
  show (x == y) = t
  rw [← ht, ← hx, ← hy]
  by_cases h : a = b
  · simp [h]
  · have : strB a ≠ strB b := fun e => h (strB_inj ha hb e)
    simp [h, this]
section
variable {S : Sy} {bl : List Blk} {K : SV → List Blk → Prop}
theorem rsm_u (hS : S0 Tryd.prog = S) {x y : SV} {a b : List Int} (hc : FzL bl id [] [x, y] [.v false 1 (cellsB a) (.y (ilen a)), .v false 1 (cellsB b) (.y (ilen b))]) (ha : Hu.BOk a) (hb : Hu.BOk b) (h1 : a = b → K .tt bl) (h2 : a ≠ b → K .ff bl) : S.call 46 [x, y] bl K := by
  by_cases h : a = b
  · exact qbu hS (qbi (rsm_f ha hb (decide_eq_true h))) hc rfl rfl (h1 h)
  · exact qbu hS (qbi (rsm_f ha hb (decide_eq_false h))) hc rfl rfl (h2 h)
theorem rsm_t (hS : S0 Tryd.prog = S) {x y : SV} {a : List Int} (hc : FzL bl id [] [x, y] [.v false 1 (cellsB a) (.y (ilen a)), .v false 1 (cellsB a) (.y (ilen a))]) (ha : Hu.BOk a) (hK : K .tt bl) : S.call 46 [x, y] bl K :=
  rsm_u hS hc ha ha (fun _ => hK) (fun h => absurd rfl h)
inductive ByC (bl : List Blk) : SV → List Int → Prop where
  | v {n : Z} {lit : Bool} {F : List SV} {b : List Int} (hF : cellsB b = F) (hn : n.v = ilen b) : ByC bl (.v lit 1 F n) b
  | nil : ByC bl (.re (.slice none 0 0)) []
  | row {n st : Z} {k : Nat} {lit : Bool} {cap : Option Z} {F : List SV} {b : List Int} (hB : lget bl k = .r false lit st 1 F) (hF : FSub F (cellsB b)) (hn : n.v = ilen b) : ByC bl (.sl k 1 (.l 0) n cap) b
theorem ByC.fz {x : SV} {b : List Int} (h : ByC bl x b) {g : Nat → Nat} : Fz bl g [] x (.v false 1 (cellsB b) (.y (ilen b))) := by
  cases h with
  | v hF hn => exact .sub (qav hF.symm hn) rfl
  | nil => exact .nil (by decide) rfl
  | @row n st k lit cap F b hB hF hn =>
    refine .row (qat hB (by simp)) rfl (.fsub ?_ (qai _)) (qai _) hn
    rw [show (Z.l 0).v.toNat * 1 = 0 from rfl, List.drop_zero, List.take_of_length_le]
    · exact hF
    · have h1 := hF.1
      have h2 := qbc b
      unfold ilen at *
      omega
theorem ByC.two {x y : SV} {a b : List Int} (h : ByC bl x a) (h' : ByC bl y b) {g : Nat → Nat} : FzL bl g [] [x, y] [.v false 1 (cellsB a) (.y (ilen a)), .v false 1 (cellsB b) (.y (ilen b))] := .cons h.fz (.cons h'.fz .nil)
end
section
variable {S : Sy} {bl : List Blk} {K : SV → List Blk → Prop}
theorem qnq (hS : S0 Tryd.prog = S) (fs : List Nat) {g : FuncId} {args args' : List SV} {y y' : SV} (hF : (S0 Tryd.prog).call g args' [] (Tell y)) (ha : FzL bl id (others fs (len bl)) args args') (hr : refsBL (fun _ => false) args' = true) (hy : Sub y y') (hK : K y' (frzL fs 0 bl)) : S.call g args bl K := by
  subst hS
  exact qay (use_frz rfl fs (rows := []) (y := fun _ => y) (qay hF fun x l' h => ⟨x, .rfl, [], trivial, fun m => h _⟩) ha hr trivial (K := fun x l' => x = y ∧ l' = frzL fs 0 bl) (fun _ => ⟨rfl, rfl⟩)) fun x l' h => ⟨y', h.1 ▸ hy, h.2 ▸ hK⟩
variable {mx n m : Int} {l l' q : List Tb.Fd} {a b : List UInt8} {L : List Int} {F R : List SV} {args : List SV}
theorem pv_l (hF : cellsB L = F) (hn : ilen L = n) (hRr : cellsF l' = R) (hm : ilen l' = m) : Sub (.tp [.v false 1 (cellsB L) (.y (ilen L)), .ag [.i .i64 (.y mx), .v false 2 (cellsF l') (.y (ilen l'))], .i .i64 (.y 0)]) (.tp [.v true 1 F (.l n), .ag [.i .i64 (.l mx), .v true 2 R (.l m)], .i .i64 (.l 0)]) :=
  qbj (.cons (qav hF hn) (.cons (qfi (.cons (qan rfl) (.cons (qav hRr hm) .nil))) (.cons (qan rfl) .nil)))
theorem block_l (hS : S0 Tryd.prog = S) (fs : List Nat) (ha : FzL bl id (others fs (len bl)) args [tabV mx l, .v false 2 (cellsF q) (.y (ilen q))]) (hR : rightL mx l = true) (hL : blockB mx l q = L) (hl : blockL mx l q = l') (hF : cellsB L = F) (hn : ilen L = n) (hRr : cellsF l' = R) (hm : ilen l' = m)
    (hq : fullL q ≤ 60000) (hK : K (.tp [.v true 1 F (.l n), .ag [.i .i64 (.l mx), .v true 2 R (.l m)], .i .i64 (.l 0)]) (frzL fs 0 bl)) : S.call 40 args bl K :=
  qnq hS fs (block_f hR hL hl rfl rfl rfl rfl hq) ha rfl (pv_l hF hn hRr hm) hK
theorem block_el (hS : S0 Tryd.prog = S) (fs : List Nat) (ha : FzL bl id (others fs (len bl)) args [tabV mx l, .v false 2 (cellsF q) (.y (ilen q))]) (hR : rightL mx l = false) (hb : fullL l ≤ 10000000) (hK : K (.tp [.v true 1 [] (.l 0), .ag [.i .i64 (.l 0), .v true 2 [] (.l 0)], .i .i64 (.l 2)]) (frzL fs 0 bl)) : S.call 40 args bl K :=
  qnq hS fs (block_e hR hb) ha rfl (y' := .tp [.v true 1 [] (.l 0), .ag [.i .i64 (.l 0), .v true 2 [] (.l 0)], .i .i64 (.l 2)]) (qbj (.cons (qav rfl rfl) (.cons (qfi (.cons (qan rfl) (.cons (qav rfl rfl) .nil))) (.cons (qan rfl) .nil)))) hK
theorem field_l (hS : S0 Tryd.prog = S) (fs : List Nat) (ha : FzL bl id (others fs (len bl)) args [tabV mx l, .ag [.s a, .s b]]) (hR : rightL mx l = true) (hL : fieldB mx l (a, b) = L) (hl : fieldL mx l (a, b) = l') (hF : cellsB L = F) (hn : ilen L = n) (hRr : cellsF l' = R) (hm : ilen l' = m)
    (hab : ilen a + ilen b ≤ 60000) (hK : K (.tp [.v true 1 F (.l n), .ag [.i .i64 (.l mx), .v true 2 R (.l m)], .i .i64 (.l 0)]) (frzL fs 0 bl)) : S.call 44 args bl K :=
  qnq hS fs (field_f hR hL hl rfl rfl rfl rfl hab) ha rfl (pv_l hF hn hRr hm) hK
theorem sized_l (hS : S0 Tryd.prog = S) (fs : List Nat) {most : Int} (ha : FzL bl id (others fs (len bl)) args [tabV mx l, .i .i64 (.y most), .v false 2 (cellsF q) (.y (ilen q))]) (hR : rightL mx l = true) (h0 : 0 ≤ most) (h1 : most ≤ 4096) (hL : sizB most ++ blockB most (evL most l) q = L) (hl : blockL most (evL most l) q = l') (hF : cellsB L = F) (hn : ilen L = n) (hRr : cellsF l' = R) (hm : ilen l' = m)
    (hq : fullL q ≤ 60000) (hK : K (.tp [.v true 1 F (.l n), .ag [.i .i64 (.l most), .v true 2 R (.l m)], .i .i64 (.l 0)]) (frzL fs 0 bl)) : S.call 42 args bl K :=
  qnq hS fs (sized_f hR h0 h1 hL hl rfl rfl rfl rfl hq) ha rfl (pv_l hF hn hRr hm) hK
end
abbrev fget : Tb.Fd := ([58, 109, 101, 116, 104, 111, 100], [71, 69, 84])
theorem tab_fz {bl : List Blk} {g : Nat → Nat} {ks : List (Option Nat)} {z n : Z} {lit : Bool} {F : List SV} {mx : Int} {l : List Tb.Fd} (hz : z.v = mx) (hF : cellsF l = F) (hn : n.v = ilen l) : Fz bl g ks (.ag [.i .i64 z, .v lit 2 F n]) (tabV mx l) :=
  .ag (.cons (.sub (qan hz) rfl) (.cons (.sub (qav hF.symm hn) rfl) .nil))
theorem qzaef {bl : List Blk} {g : Nat → Nat} {ks : List (Option Nat)} {z : Z} {mx : Int} (hz : z.v = mx) : Fz bl g ks (.ag [.i .i64 z, .re (.slice none 0 0)]) (tabV mx []) :=
  .ag (.cons (.sub (qan hz) rfl) (.cons (.sub (qqv (by decide) rfl rfl) rfl) .nil))
theorem qzadx : (S0 Tryd.prog).call 39 [] [] (fun y _ => Sub y .tt) := by
  generalize hS : S0 Tryd.prog = S
  refine qaa hS I.qln ?_
  cbv
  refine block_l hS [2] (mx := 100) (l := []) (q := [fget, fa, fa]) (L := [129, 64, 1, 97, 1, 49, 149]) (l' := [fa]) (.cons (qzaef rfl) (.cons (qxp (qat rfl (by simp)) rfl rfl rfl rfl) .nil)) (by decide +kernel) (by decide +kernel) (by decide +kernel) rfl rfl rfl rfl (by decide +kernel) ?_
  cbv
  refine field_l hS [] (mx := 100) (l := []) (a := ckN) (b := [49]) (L := [29, 1, 49]) (l' := []) (.cons (qzaef rfl) (.cons (.sub .rfl rfl) .nil)) (by decide +kernel) (by decide +kernel) (by decide +kernel) rfl rfl rfl rfl (by decide +kernel) ?_
  cbv
  refine block_el hS [] (mx := -1) (l := []) (q := []) (.cons (qzaef rfl) (.cons (.nil (by decide) rfl) .nil)) (by decide +kernel) (by decide +kernel) ?_
  cbv
  refine sized_l hS [6] (mx := 100) (l := [fa]) (most := 0) (q := [fa]) (L := [32, 0, 1, 97, 1, 49]) (l' := []) (.cons (tab_fz rfl rfl rfl) (.cons (.sub (qan rfl) rfl) (.cons (qxp (qat rfl (by simp)) rfl rfl rfl rfl) .nil))) (by decide +kernel) (by decide) (by decide) (by decide +kernel) (by decide +kernel) rfl rfl rfl rfl (by decide +kernel) ?_
  cbv
  refine rsm_t hS (a := [129, 64, 1, 97, 1, 49, 149]) (ByC.two (.v (b := [129, 64, 1, 97, 1, 49, 149]) rfl rfl) (.row (b := [129, 64, 1, 97, 1, 49, 149]) rfl ?_ rfl)) (by intro v hv; simp at hv; omega) ?_
  · exact SubL.fsub (by repeat' (first | exact SubL.nil | refine SubL.cons (qan rfl) ?_))
  cbv
  refine qjk hS (mx := 100) (l := [fa]) (.v rfl rfl rfl) (.row (l0 := [fa]) rfl rfl rfl rfl rfl) (by decide) ?_
  cbv
  refine rsm_t hS (a := [29, 1, 49]) (ByC.two (.v (b := [29, 1, 49]) rfl rfl) (.row (b := [29, 1, 49]) rfl ?_ rfl)) (by intro v hv; simp at hv; omega) ?_
  · exact SubL.fsub (by repeat' (first | exact SubL.nil | refine SubL.cons (qan rfl) ?_))
  cbv
  refine rsm_t hS (a := [32, 0, 1, 97, 1, 49]) (ByC.two (.v (b := [32, 0, 1, 97, 1, 49]) rfl rfl) (.row (b := [32, 0, 1, 97, 1, 49]) rfl ?_ rfl)) (by intro v hv; simp at hv; omega) ?_
  · exact SubL.fsub (by repeat' (first | exact SubL.nil | refine SubL.cons (qan rfl) ?_))
  cbv
  refine qbm hS (qbi (qym (a := ckN) (b := []) (decide_eq_true rfl))) .rfl rfl rfl ?_
  cbv
  refine qbm hS (qbi (qym (a := [97]) (b := [49]) (t := false) (by decide))) .rfl rfl rfl ?_
  cbv
  exact .rfl
theorem qgq {S : Sy} {bl : List Blk} {K : SV → List Blk → Prop} (hS : S0 Tryd.prog = S) (hK : K .tt bl) : S.call 39 [] bl K := qbm hS qzadx .rfl rfl rfl hK
theorem qut {mx : Int} {l q : List Tb.Fd} {t : Bool} (ht : decide ((140 < ilen l ∨ 5000 < fullL l - 32 * ilen l) ∨ (140 < ilen q ∨ 5000 < fullL q - 32 * ilen q) ∨ 40 < ilen q) = t) (hs : shortL l) (hm0 : ilen l ≤ 140737488355328) (hs2 : shortL q) (hm2 : ilen q ≤ 140737488355328) :
    (S0 Tryd.prog).call 38 [tabV mx l, .v false 2 (cellsF q) (.y (ilen q))] [] (fun y _ => Sub y (.b t)) := by
  unfold tabV
  generalize hF : cellsF l = F
  obtain ⟨m, hm⟩ : ∃ m, m = ilen l := ⟨_, rfl⟩
  generalize hG : cellsF q = G
  obtain ⟨n, hn⟩ : ∃ m, m = ilen q := ⟨_, rfl⟩
  rw [← hm, ← hn]
  generalize hS : S0 Tryd.prog = S
  refine qaa hS I.qlo ?_
  cbv
  refine great_u hS (l := l) (.cons (.sub (qav hF.symm hm) rfl) .nil) hs hm0 (fun hg => ?_) (fun hg1 hg2 => ?_) <;> cbv
  · refine qqu ?_
    rw [← ht]; exact decide_eq_true (.inl hg)
  refine great_u hS (l := q) (.cons (.sub (qav hG.symm hn) rfl) .nil) hs2 hm2 (fun hg => ?_) (fun hg3 hg4 => ?_) <;> cbv
  · refine qqu ?_
    rw [← ht]; exact decide_eq_true (.inr (.inl hg))
  repeat' (first
    | (refine qbl hS rfl ?_; try cbv)
    | (refine s_ck hS ?_; try cbv)
    | (refine qad hS ?_ ?_ <;> intro h <;> (try cbv) <;> try exact s_ab h)
    | (refine s_ad hS ?_; intro _ _; try cbv)
    | (refine s_sb hS ?_; intro _ _; try cbv)
    | (refine qaq hS ?_; intro _ _; try cbv)
    | (refine qaf hS ?_; try cbv)
    | (refine qbk hS ?_; try cbv)
    | (refine s_lk hS ?_; try cbv)
    | (refine s_mu hS ?_; try cbv)
    | fail)
  refine qrg ?_
  subst hS
  show decide (40 < n) = t
  rw [← ht]
  exact decide_eq_decide.2 ⟨fun h => .inr (.inr (hn ▸ h)), fun h => by omega⟩
section
variable {S : Sy} {bl : List Blk} {K : SV → List Blk → Prop} {cs : List SV} {mx : Int} {l q : List Tb.Fd} {x : SV}
theorem pgreat_u (hS : S0 Tryd.prog = S) (hc : FzL bl id [] [.ag cs, x] [tabV mx l, .v false 2 (cellsF q) (.y (ilen q))]) (hs : shortL l) (hm0 : ilen l ≤ 140737488355328) (hs2 : shortL q) (hm2 : ilen q ≤ 140737488355328)
    (h1 : K .tt bl) (h2 : ilen l ≤ 140 → fullL l ≤ 5000 + 32 * ilen l → ilen q ≤ 40 → fullL q ≤ 5000 + 32 * ilen q → K .ff bl) : S.call 38 [.ag cs, x] bl K := by
  by_cases h : (140 < ilen l ∨ 5000 < fullL l - 32 * ilen l) ∨ (140 < ilen q ∨ 5000 < fullL q - 32 * ilen q) ∨ 40 < ilen q
  · exact qbu hS (qbi (qut (decide_eq_true h) hs hm0 hs2 hm2)) hc rfl rfl h1
  · exact qbu hS (qbi (qut (decide_eq_false h) hs hm0 hs2 hm2)) hc rfl rfl (h2 (by omega) (by omega) (by omega) (by omega))
end
end Pa
end Cz
namespace Cz
open Go Go.RowKit Go.Proofs
namespace Pa
open Tb
theorem qmg {q : List Tb.Fd} {m : Int} (h : fullL q ≤ m) (hm : m ≤ 1000000) : ∀ f ∈ q, ilen f.1 ≤ 1000000 ∧ ilen f.2 ≤ 1000000 := by
  intro f hf
  obtain ⟨i, hi⟩ := List.getElem?_of_mem hf
  have := qmw hi
  have h1 := qah f.1
  have h2 := qah f.2
  unfold szF at this
  omega
theorem back_blk {mx most : Int} {l q : List Tb.Fd} (hR : rightL mx l = true) (h0 : 0 ≤ most) (h1 : most ≤ 4096) (hq : fullL q ≤ 1000000) :
    blkU (mx, l) most (blockB mx l q) = ((q.take (manyU q 0), decide (manyU q 0 < q.length), (mx, blockL mx l q)), 0) := by
  have hg := qzw (most := most) q l [] 0 hR (qmg hq (Int.le_refl _))
  obtain ⟨e1, e2⟩ := quu q [] 0 (by decide)
  rw [blk_go, if_pos ⟨hR, h0, h1⟩]
  dsimp only
  rw [hg]
  dsimp only
  rw [if_neg (by simp), e1, decide_eq_decide.2 e2]
  rfl
theorem back_siz {mx most : Int} {l q : List Tb.Fd} (hR : rightL mx l = true) (h0 : 0 ≤ most) (h1 : most ≤ 4096) (hq : fullL q ≤ 1000000) :
    blkU (mx, l) most (sizB most ++ blockB most (evL most l) q) = ((q.take (manyU q 0), decide (manyU q 0 < q.length), (most, blockL most (evL most l) q)), 0) := by
  have hR2 : rightL most (evL most l) = true := qyr h0 h1
  have hg := qzw (most := most) q (evL most l) [] 0 hR2 (qmg hq (Int.le_refl _))
  obtain ⟨e1, e2⟩ := quu q [] 0 (by decide)
  have hx := nxt_siz (l := l) (d := blockB most (evL most l) q) h0 (by omega)
  have hst : stepU most ⟨sizB most ++ blockB most (evL most l) q, mx, l, [], 0⟩ ⟨0, true, false, most, ([], []), blockB most (evL most l) q⟩ = (0, ⟨blockB most (evL most l) q, most, evL most l, [], 0⟩) := by
    rw [step_s rfl rfl, if_neg (by simp)]
  have hne : sizB most ++ blockB most (evL most l) q ≠ [] := fun h => qyy (List.append_eq_nil_iff.1 h).1
  obtain ⟨r1, hr1⟩ : ∃ r, goU most ⟨sizB most ++ blockB most (evL most l) q, mx, l, [], 0⟩ = r := ⟨_, rfl⟩
  have h3 := go_S (s := ⟨sizB most ++ blockB most (evL most l) q, mx, l, [], 0⟩) (e := r1.1) (t := r1.2) hx (qno (bok_siz h0) (qki _ _ _)) hne hr1 hst
  rw [hg] at h3
  have hr2 : r1 = (0, ⟨[], most, blockL most (evL most l) q, (q.foldl outU ([], 0)).1, (q.foldl outU ([], 0)).2⟩) := by rw [h3]
  rw [blk_go, if_pos ⟨hR, h0, h1⟩]
  dsimp only
  rw [hr1, hr2]
  dsimp only
  rw [if_neg (by simp), e1, decide_eq_decide.2 e2]
  rfl
section
variable {S : Sy} {bl : List Blk} {K : SV → List Blk → Prop} {cs : List SV} {mx most n k m : Int} {l q l' : List Tb.Fd} {b : List Int} {x : SV} {r : (List Tb.Fd × Bool × Tab) × Int} {F R : List SV}
theorem runb_f (hr : blkU (mx, l) most b = r) (hb : Hu.BOk b) (hbl : ilen b ≤ 60000) (hl : fullL l ≤ 10000000) :
    (S0 Tryd.prog).call 41 [tabV mx l, .i .i64 (.y most), .v false 1 (cellsB b) (.y (ilen b))] [] (Tell (unV r)) := by
  subst hr
  rw [blk_go]
  split
  · rename_i h
    have h' : rightL mx l = true ∧ 0 ≤ most ∧ most ≤ 4096 := h
    have := runb_k (e := (goU most ⟨b, mx, l, [], 0⟩).1) (s := (goU most ⟨b, mx, l, [], 0⟩).2) rfl h'.1 h'.2.1 h'.2.2 hb hbl
    dsimp only
    split
    · rename_i h2; rw [if_pos h2] at this; exact this
    · rename_i h2; rw [if_neg h2] at this; exact this
  · rename_i h
    exact runb_e h hl
theorem runb_g {t : Bool} {e mx' : Int} {o : List Tb.Fd} (hS : S0 Tryd.prog = S) {zm : Z} (hr : blkU (mx, l) most b = ((o, t, (mx', l')), e)) (hc : TabC [] cs mx l) (hm : zm.v = most) (hx : Sub x (.v false 1 (cellsB b) (.y (ilen b)))) (hb : Hu.BOk b) (hbl : ilen b ≤ 60000) (hl : fullL l ≤ 10000000)
    (hF : cellsF o = F) (hn : n = ilen o) (hRr : cellsF l' = R) (hk : k = ilen l') (hK : K (.tp [.ag [.v false 2 F (.y n), .b t, .i .i64 (.y mx'), .v false 2 R (.y k)], .i .i64 (.y e)]) bl) :
    S.call 41 [.ag cs, .i .i64 zm, x] bl K := by
  subst hF hn hRr hk
  refine qdb hS (runb_f hr hb hbl hl) ?_ rfl hK
  match hc.sub with
  | .cons h _ => exact .cons h (.cons (qan hm) (.cons hx .nil))
end
end Pa
end Cz
namespace Cz
open Go Go.RowKit Go.Proofs
namespace Tb
theorem op_i {svs : List SV} (h : pkVs [.i .i64] svs) : ∃ n, svs = [.i .i64 (.y n)] ∧ -9223372036854775808 ≤ n ∧ n ≤ 9223372036854775807 := by
  obtain ⟨x, rfl, h'⟩ := pkVs_one h
  simp only [pkV] at h'
  obtain ⟨n, rfl, h1, h2⟩ := h'
  exact ⟨n, rfl, h1, h2⟩
theorem op_fd' {svs : List SV} (h : pkVs [.s, .s] svs) : ∃ f : Fd, svs = fdE f ∧ ilen f.1 ≤ 140737488355328 ∧ ilen f.2 ≤ 140737488355328 := by
  match svs, h with
  | [], h => simp [pkVs] at h
  | [_], h => simp [pkVs] at h
  | _ :: _ :: _ :: _, h => simp [pkVs] at h
  | [x, y], h =>
    simp only [pkVs, pkV] at h
    obtain ⟨⟨a, rfl, ha⟩, ⟨b, rfl, hb⟩, _⟩ := h
    exact ⟨(a, b), rfl, ha, hb⟩
theorem op_fds' {x : SV} (h : pkV (.sl [.s, .s]) x) : ∃ l : List Fd, x = .v false 2 (cellsF l) (.y (ilen l)) ∧ ilen l ≤ 140737488355328 ∧ shortL l := by
  obtain ⟨l, h1, h2, h3⟩ := pk_rows (ec := fdE) (good := fun f => ilen f.1 ≤ 140737488355328 ∧ ilen f.2 ≤ 140737488355328) (fun svs h => op_fd' h) h
  exact ⟨l, h1, h2, h3⟩
theorem op_fds {svs : List SV} (h : pkVs [.sl [.s, .s]] svs) : ∃ l : List Fd, svs = [.v false 2 (cellsF l) (.y (ilen l))] ∧ ilen l ≤ 140737488355328 ∧ shortL l := by
  obtain ⟨x, rfl, h'⟩ := pkVs_one h
  obtain ⟨l, rfl, h1, h2⟩ := op_fds' h'
  exact ⟨l, rfl, h1, h2⟩
theorem op_tab {svs : List SV} (h : pkVs [.i .i64, .sl [.s, .s]] svs) : ∃ mx l, svs = [.i .i64 (.y mx), .v false 2 (cellsF l) (.y (ilen l))] ∧ -9223372036854775808 ≤ mx ∧ mx ≤ 9223372036854775807 ∧ ilen l ≤ 140737488355328 ∧ shortL l := by
  match svs, h with
  | [], h => simp [pkVs] at h
  | [_], h => simp [pkVs] at h
  | _ :: _ :: _ :: _, h => simp [pkVs] at h
  | [x, y], h =>
    simp only [pkVs] at h
    obtain ⟨h1, h2, _⟩ := h
    simp only [pkV] at h1
    obtain ⟨n, rfl, h3, h4⟩ := h1
    obtain ⟨l, rfl, h5, h6⟩ := op_fds' h2
    exact ⟨n, l, rfl, h3, h4, h5, h6⟩
end Tb
end Cz
