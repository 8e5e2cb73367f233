/- Text, part A: copies; numbers in septets, taken. -/
import Derived.Test.YtjnpmipoenijdaaH4
import Derived.Test.YtjnpmipoenijdaaE4
namespace Cz
open Go Go.RowKit Go.Proofs
set_option linter.unusedSimpArgs false
set_option linter.unusedVariables false
set_option maxRecDepth 100000
set_option maxHeartbeats 4000000
theorem s_nil {S : Sy} {n : Int} {k1 k2 : Unit → Prop} (hS : S0 Try.prog = S) (h1 : n = 0 → k1 ()) (h2 : k2 ()) : S.nil n k1 k2 := by subst hS; exact ⟨h1, h2⟩
def part (b : List Int) (o n : Int) : List Int := (b.drop o.toNat).take n.toNat
theorem sub_part {S : Sy} (hS : S0 Try.prog = S) {b : List Int} {F : List SV} {o n : Int} (hF : cellsB b = F) : S.app [] (S.sub F o n 1) = cellsB (part b o n) := by
  subst hS hF
  show [] ++ ((cellsB b).drop (o.toNat * 1)).take (n.toNat * 1) = _
  simp only [List.nil_append, Nat.mul_one, part, cellsB_map, List.map_take, List.map_drop]
theorem part_len {b : List Int} {o n : Int} (h0 : 0 ≤ o) (h1 : 0 ≤ n) (h2 : o + n ≤ ilen b) : ilen (part b o n) = n := by
  unfold part ilen at *
  rw [List.length_take, List.length_drop]; omega
/-- A row that is read, of which less is said. -/
theorem call_soft {P : Program} {g : FuncId} {args : List SV} {F : List SV} {sz : Nat} {K : SV → List Blk → Prop} (hp : plains F = true) (h : (S0 P).call g args [.r true false (.l 0) sz F] K) : (S0 P).call g args [.r true true (.l 0) sz F] K := by
  intro N W0 ρ W vals hR hd
  exact h N W0 ρ W vals (hR.sub rfl fun k B' hB => by
    cases k with
    | zero => simp only [List.getElem?_cons_zero, Option.some.injEq] at hB; subst hB; exact ⟨_, rfl, .r .rfl rfl hp⟩
    | succ k => simp at hB) hd
theorem rowIs_val {n0 k : Nat} {L : List Int} {X P : List SV} {lit : Bool} {st nn : Z} {l' : List Blk} (hX : X = cellsB L) (hP : cellsB L = P) (hk : n0 ≤ k) (hn : nn.v = ilen L) (hB : l'[k]? = some (.r false lit st 1 X)) : RowIs n0 1 P (.sl k 1 (.l 0) nn none) l' := by
  rw [hX, hP] at hB
  exact rowIs_same hP hk hn hB
theorem clone_b {b : List Int} {o n : Int} (h0 : 0 ≤ o) (h1 : 0 ≤ n) (h2 : o + n ≤ ilen b) (h3 : ilen b ≤ 1000000) :
    (S0 Try.prog).call 50 [.sl 0 1 (.y o) (.y n) none] [.r true true (.l 0) 1 (cellsB b)] (OwnR 1 1 (cellsB (part b o n)) false []) := by
  have hl := part_len h0 h1 h2
  have hpl := cellsB_plain b
  generalize hF : cellsB b = F at hpl ⊢
  generalize hP : cellsB (part b o n) = P
  refine call_soft hpl ?_
  generalize hS : S0 Try.prog = S
  refine call_in' hS I.fn_bytes_Clone ?_
  cbv
  refine s_nil hS ?_ ?_
  · intro h
    cbv
    refine ⟨_, .rfl, .inl ⟨rfl, ?_⟩⟩
    rw [← hP, h]; unfold part; simp [cellsB]
  · cbv
    refine s_flen hS (G := []) (by rfl) ?_
    cbv
    repeat' (first
      | (refine s_st hS ?_; try cbv)
      | (refine s_sbr hS ?_ ?_ <;> intro h <;> (try cbv) <;> try exact s_ab h)
      | (refine s_sta hS ?_; intro _ _; try cbv)
      | (refine s_stc hS ?_; try cbv))
    exact ⟨_, .rfl, rowIs_val (sub_part hS hF) hP (Nat.le_refl 1) (by rw [hl]; rfl) rfl⟩
theorem clone_s {b : List Int} {o n : Int} (h0 : 0 ≤ o) (h1 : 0 ≤ n) (h2 : o + n ≤ ilen b) (h3 : ilen b ≤ 1000000) :
    (S0 Try.prog).call 49 [.sl 0 1 (.y o) (.y n) none] [.r true true (.l 0) 1 (cellsB b)] (OwnR 1 1 (cellsB (part b o n)) false []) := by
  have hl := part_len h0 h1 h2
  have hpl := cellsB_plain b
  generalize hF : cellsB b = F at hpl ⊢
  generalize hP : cellsB (part b o n) = P
  refine call_soft hpl ?_
  generalize hS : S0 Try.prog = S
  refine call_in' hS I.fn_slices_Clone___byte_byte_ ?_
  cbv
  refine s_nil hS ?_ ?_
  · intro h
    cbv
    refine ⟨_, .rfl, .inl ⟨rfl, ?_⟩⟩
    rw [← hP, h]; unfold part; simp [cellsB]
  · cbv
    refine s_flen hS (G := []) (by rfl) ?_
    cbv
    repeat' (first
      | (refine s_st hS ?_; try cbv)
      | (refine s_sbr hS ?_ ?_ <;> intro h <;> (try cbv) <;> try exact s_ab h)
      | (refine s_sta hS ?_; intro _ _; try cbv)
      | (refine s_stc hS ?_; try cbv))
    exact ⟨_, .rfl, rowIs_val (sub_part hS hF) hP (Nat.le_refl 1) (by rw [hl]; rfl) rfl⟩
section
variable {S : Sy} {b : List Int} {F : List SV} {k : Nat} {ro lit : Bool} {st zo zn : Z} {l : List Blk} {K : SV → List Blk → Prop}
theorem clone_bu (hS : S0 Try.prog = S) (o n : Int) (ho : zo.v = o) (hn : zn.v = n) (h0 : 0 ≤ o) (h1 : 0 ≤ n) (h2 : o + n ≤ ilen b) (h3 : ilen b ≤ 1000000) (hrow : lget l k = .r ro lit st 1 F) (hs : FSub F (cellsB b))
    (hK : ∀ F2 st, cellsB (part b o n) = F2 → K (.sl (len l) 1 (.l 0) (.y n) none) (snoc l (.r false false (.y st) 1 F2))) : S.call 50 [.sl k 1 zo zn none] l K := by
  have hc := cellsB_n (part b o n)
  rw [part_len h0 h1 h2] at hc
  exact use_own hS (fun _ => k) (clone_b h0 h1 h2 h3) (.cons (sub_sl ho hn) .nil) rfl ⟨⟨_, _, _, _, _, _, _, _, rfl, cellsB_plain _, hrow, hs⟩, trivial⟩ (by omega) (cellsB_plain _) rfl hc fun st => hK _ st rfl
theorem clone_su (hS : S0 Try.prog = S) (o n : Int) (ho : zo.v = o) (hn : zn.v = n) (h0 : 0 ≤ o) (h1 : 0 ≤ n) (h2 : o + n ≤ ilen b) (h3 : ilen b ≤ 1000000) (hrow : lget l k = .r ro lit st 1 F) (hs : FSub F (cellsB b))
    (hK : ∀ F2 st, cellsB (part b o n) = F2 → K (.sl (len l) 1 (.l 0) (.y n) none) (snoc l (.r false false (.y st) 1 F2))) : S.call 49 [.sl k 1 zo zn none] l K := by
  have hc := cellsB_n (part b o n)
  rw [part_len h0 h1 h2] at hc
  exact use_own hS (fun _ => k) (clone_s h0 h1 h2 h3) (.cons (sub_sl ho hn) .nil) rfl ⟨⟨_, _, _, _, _, _, _, _, rfl, cellsB_plain _, hrow, hs⟩, trivial⟩ (by omega) (cellsB_plain _) rfl hc fun st => hK _ st rfl
end
/-! ### Numbers in septets -/
/-- The septets from a place on: the number, where it ends, and what is told (0, ErrShort, ErrLong). -/
def pgo (b : List Int) : Nat → Int → Int → Int × Int × Int
  | 0, _, _ => (0, 0, 60)
  | f + 1, at', n => match b[at'.toNat]? with
    | none => (0, 0, 10)
    | some v =>
      if 5 < at' ∨ 2147483648 ≤ n + v % 128 * 2 ^ (7 * (at' - 1)).toNat then (0, 0, 60)
      else if v < 128 then (n + v % 128 * 2 ^ (7 * (at' - 1)).toNat, at' + 1, 0)
      else pgo b f (at' + 1) (n + v % 128 * 2 ^ (7 * (at' - 1)).toNat)
/-- A number by so many bits, taken; p: 2 to these. -/
def preI (b : List Int) (p : Int) : Int × Int × Int := match b with
  | [] => (0, 0, 10)
  | v :: _ => if v % p < p - 1 then (v % p, 1, 0) else pgo b 6 1 (p - 1)
def preN (b : List Int) (p : Int) : Int := (preI b p).1
def preE (b : List Int) (p : Int) : Int := (preI b p).2.2
def preR (b : List Int) (p : Int) : List Int := if preE b p = 0 then b.drop (preI b p).2.1.toNat else []
theorem pgo_none {b : List Int} {f : Nat} {a n : Int} (h0 : 0 ≤ a) (h : ilen b ≤ a) : pgo b (f + 1) a n = (0, 0, 10) := by
  rw [pgo, List.getElem?_eq_none (by unfold ilen at h; omega)]
theorem pgo_long {b : List Int} {f : Nat} {a n v s : Int} (hv : b[a.toNat]? = some v) (hs : s = v % 128 * 2 ^ (7 * (a - 1)).toNat) (h : 5 < a ∨ 2147483648 ≤ n + s) : pgo b (f + 1) a n = (0, 0, 60) := by
  rw [pgo, hv]; simp only [← hs]; rw [if_pos h]
theorem pgo_end {b : List Int} {f : Nat} {a n v s : Int} (hv : b[a.toNat]? = some v) (hs : s = v % 128 * 2 ^ (7 * (a - 1)).toNat) (h : ¬(5 < a ∨ 2147483648 ≤ n + s)) (h2 : v < 128) : pgo b (f + 1) a n = (n + s, a + 1, 0) := by
  rw [pgo, hv]; simp only [← hs]; rw [if_neg h, if_pos h2]
theorem pgo_more {b : List Int} {f : Nat} {a n v s : Int} (hv : b[a.toNat]? = some v) (hs : s = v % 128 * 2 ^ (7 * (a - 1)).toNat) (h : ¬(5 < a ∨ 2147483648 ≤ n + s)) (h2 : ¬v < 128) : pgo b (f + 1) a n = pgo b f (a + 1) (n + s) := by
  rw [pgo, hv]; simp only [← hs]; rw [if_neg h, if_neg h2]
end Cz
/- Text, part B: numbers in septets, taken. -/
namespace Cz
open Go Go.RowKit Go.Proofs
set_option linter.unusedSimpArgs false
set_option linter.unusedVariables false
set_option maxRecDepth 100000
set_option maxHeartbeats 4000000
theorem and128_all : ∀ n : Fin 256, IntKind.u8.wrap ((BitVec.ofInt 8 (n.val : Int) &&& BitVec.ofInt 8 128).toNat : Int) = if n.val < 128 then 0 else 128 := by decide +kernel
theorem s_and128 {S : Sy} {a : Int} {K : Int → Prop} (hS : S0 Try.prog = S) (h0 : 0 ≤ a) (h1 : a < 256) (h : ∀ r, (a < 128 ∧ r = 0 ∨ 128 ≤ a ∧ r = 128) → K r) : S.ar .and .u8 a 128 K := by
  refine s_are hS _ rfl (h _ ?_)
  have := and128_all ⟨a.toNat, by omega⟩
  simp only [Int.toNat_of_nonneg h0] at this
  show (a < 128 ∧ IntKind.u8.wrap ((BitVec.ofInt 8 a &&& BitVec.ofInt 8 128).toNat : Int) = 0) ∨ _
  rw [show arS .and .u8 a 128 = IntKind.u8.wrap ((BitVec.ofInt 8 a &&& BitVec.ofInt 8 128).toNat : Int) from rfl, this]
  by_cases h2 : a < 128
  · left; refine ⟨h2, ?_⟩; rw [if_pos (by omega)]
  · right; refine ⟨by omega, ?_⟩; rw [if_neg (by omega)]
theorem ownP_err {P : List SV} {N E e : Int} {l' : List Blk} (hP : P = []) (hN : N = 0) (hE : E = e) : OwnP 1 1 P [.i .i64 (.y N)] [.i .i64 (.y E)] (.tp [.i .i64 (.l 0), .re (.slice none 0 0), .i .i64 (.l e)]) l' :=
  ⟨_, sub_tp (.cons (sub_i hN.symm) (.cons .rfl (.cons (sub_i hE.symm) .nil))), .inl ⟨rfl, hP⟩⟩
theorem ownP_ok {P : List SV} {L : List Int} {N E n q : Int} {k : Nat} {lit : Bool} {st : Z} {l' : List Blk} (hP : cellsB L = P) (hN : N = n) (hE : E = 0) (hk : 1 ≤ k) (hq : q = ilen L) (hB : l'[k]? = some (.r false lit st 1 P)) :
    OwnP 1 1 P [.i .i64 (.y N)] [.i .i64 (.y E)] (.tp [.i .i64 (.y n), .sl k 1 (.l 0) (.y q) none, .i .i64 (.l 0)]) l' :=
  ⟨_, sub_tp (.cons (sub_i hN.symm) (.cons .rfl (.cons (sub_i hE.symm) .nil))), rowIs_same hP hk hq hB⟩
theorem part_drop {b : List Int} {o n : Int} (h0 : 0 ≤ o) (h : ilen b ≤ o + n) : part b o n = b.drop o.toNat := by
  unfold part; exact List.take_of_length_le (by rw [List.length_drop]; unfold ilen at h; omega)
theorem ptake_f {b : List Int} {k p : Int} (hb : Hu.BOk b) (hnb : ilen b ≤ 1000000) (hk1 : 1 ≤ k) (hk8 : k ≤ 8) (hp : 2 ^ k.toNat = p) :
    (S0 Try.prog).call 48 [.sl 0 1 (.l 0) (.y (ilen b)) none, .i .i64 (.y k)] [.r true true (.l 0) 1 (cellsB b)] (OwnP 1 1 (cellsB (preR b p)) [.i .i64 (.y (preN b p))] [.i .i64 (.y (preE b p))]) := by
  obtain ⟨n, hn'⟩ : ∃ n, n = ilen b := ⟨_, rfl⟩
  have h0n := ilen_nn b
  have hn := hnb
  rw [← hn'] at h0n hn ⊢
  have hp0 : 2 ≤ p := by have := pow_le (m := 1) (n := k.toNat) (by omega); rw [hp] at this; omega
  have hp1 : p ≤ 256 := by have := pow_le (m := k.toNat) (n := 8) (by omega); rw [hp] at this; omega
  have hpl := cellsB_plain b
  obtain ⟨J0, hJ⟩ : ∃ J0, J0 = preI b p := ⟨_, rfl⟩
  obtain ⟨N, hN⟩ : ∃ N, N = preN b p := ⟨_, rfl⟩
  obtain ⟨E, hE⟩ : ∃ E, E = preE b p := ⟨_, rfl⟩
  obtain ⟨R, hR⟩ : ∃ R, R = preR b p := ⟨_, rfl⟩
  rw [← hN, ← hE, ← hR]
  have herr : ∀ e, e ≠ 0 → J0 = (0, 0, e) → cellsB R = [] ∧ N = 0 ∧ E = e := by
    intro e he h
    rw [hJ] at h
    unfold preR at hR
    have h2 : preE b p = e := by unfold preE; rw [h]
    rw [h2, if_neg he] at hR
    exact ⟨by rw [hR]; rfl, by rw [hN]; unfold preN; rw [h], hE.trans h2⟩
  have hok : ∀ n' a, 0 ≤ a → J0 = (n', a, 0) → R = b.drop a.toNat ∧ N = n' ∧ E = 0 := by
    intro n' a _ h
    rw [hJ] at h
    unfold preR at hR
    have h2 : preE b p = 0 := by unfold preE; rw [h]
    rw [h2, if_pos rfl, h] at hR
    exact ⟨hR, by rw [hN]; unfold preN; rw [h], hE.trans h2⟩
  have hJ0 : n = 0 → J0 = (0, 0, 10) := by
    intro h
    have : b = [] := List.length_eq_zero_iff.1 (by unfold ilen at hn'; omega)
    rw [hJ, this]; rfl
  have hJ1 : ∀ v, b[(0 : Int).toNat]? = some v → (v % p < p - 1 → J0 = (v % p, 1, 0)) ∧ (¬v % p < p - 1 → J0 = pgo b 6 1 (p - 1)) := by
    intro v hv
    rw [hJ]
    cases b with
    | nil => simp at hv
    | cons w b =>
      simp at hv; subst hv
      unfold preI
      exact ⟨fun h => by simp only [if_pos h], fun h => by simp only [if_neg h]⟩
  clear hN hE hR hJ
  generalize hF : cellsB b = F at hpl ⊢
  have hfs : FSub F (cellsB b) := by rw [hF]; exact .rfl
  generalize hP : cellsB R = P at herr ⊢
  refine call_soft hpl ?_
  generalize hS : S0 Try.prog = S
  refine call_in' hS I.fn_prefix_Take ?_
  cbv
  refine call_in' hS I.fn_prefix_right ?_
  cbv
  repeat' (first
    | (refine s_st hS ?_; try cbv)
    | (refine s_sbr hS ?_ ?_ <;> intro h <;> (try cbv) <;> try exact s_ab h)
    | (refine s_sta hS ?_; intro _ _; try cbv)
    | (refine s_stc hS ?_; try cbv)
    | (refine s_jump hS rfl ?_; cbv)
    | (refine s_shll hS (c := p) (by rw [← hp]; congr 1; simp only [IntKind.bits]; omega) ?_ (by simp only [lo]; omega) (by simp only [hi]; omega); intro _ _; cbv))
  · obtain ⟨g1, g2, g3⟩ := herr 10 (by decide) (hJ0 h)
    exact ownP_err g1 g2 g3
  · rename_i e1 he1 m0 hm0
    have hm1 : m0 = p - 1 := by omega
    obtain ⟨v, hv⟩ := at_ex (l := b) (i := 0) (by omega) (Int.le_refl 0)
    have hb0 := hb v (List.mem_of_getElem? hv)
    obtain ⟨j1, j2⟩ := hJ1 v hv
    clear hJ1
    obtain ⟨w, hw⟩ : ∃ w, w = v % p := ⟨_, rfl⟩
    have hwb : 0 ≤ w ∧ w < p := by rw [hw]; exact ⟨Int.emod_nonneg _ (by omega), Int.emod_lt_of_pos _ (by omega)⟩
    rw [← hw] at j1 j2
    refine rowB hS hF hv rfl (Int.le_refl 0) ?_
    cbv
    refine s_cvi hS ?_ (by simp only [lo]; omega) (by simp only [hi]; omega)
    cbv
    refine s_andl hS (c := p) (m := k.toNat) ⟨hm1, hp, by simp only [IntKind.bits]; omega⟩ fun w' hw' => ?_
    obtain rfl : w' = w := hw'.trans hw.symm
    cbv
    refine s_sbr hS ?_ ?_ <;> intro h <;> cbv
    · obtain ⟨g1, g2, g3⟩ := hok w' 1 (by decide) (j1 (by omega))
      repeat' (first
        | (refine s_st hS ?_; try cbv)
        | (refine s_sbr hS ?_ ?_ <;> intro h <;> (try cbv) <;> try exact s_ab h)
        | (refine s_sta hS ?_; intro _ _; try cbv)
        | (refine s_stc hS ?_; try cbv))
      obtain ⟨n1, hn1⟩ : ∃ n1, n1 = n - 1 := ⟨_, rfl⟩
      refine clone_bu hS (b := b) 1 n1 (by simp only [Z.v, ← hS, Int.ofNat_eq_natCast, cq, Bool.not_eq_true', Bool.not_eq_false', decide_eq_true_eq, decide_eq_false_iff_not, beq_iff_eq, beq_eq_false_iff_ne, ne_eq]) (by simp only [Z.v, ← hS, Int.ofNat_eq_natCast, cq, Bool.not_eq_true', Bool.not_eq_false', decide_eq_true_eq, decide_eq_false_iff_not, beq_iff_eq, beq_eq_false_iff_ne, ne_eq]; omega) (by decide) (by omega) (by omega) (by omega) rfl hfs fun F2 st hF2 => ?_
      have hPF : cellsB R = F2 := by rw [← hF2, part_drop (by decide) (by omega), g1]
      cbv
      rw [← hPF, hP]
      refine ownP_ok (k := 1) (L := R) hP g2 g3 (Nat.le_refl 1) ?_ rfl
      rw [g1]; unfold ilen at *; rw [List.length_drop]; simp; omega
    · have j3 := j2 (by omega)
      refine s_loop_up hS 1 I.dead_prefix_Take_0 (fun x : Int × Int => 1 ≤ x.1 ∧ x.1 ≤ 6 ∧ 0 ≤ x.2 ∧ x.2 < 2147483648 ∧ J0 = pgo b (7 - x.1).toNat x.1 x.2)
        (fun x => [(8, .i .i64 (.y x.1)), (4, .i .i64 (.y x.2))]) (fun x => [])
        (fun x => (7 - x.1).toNat) (1, w') rfl ⟨⟨Int.le_refl _, by dsimp only; omega, hwb.1, by dsimp only; omega, ?_⟩, rfl, ?_, ?_, ?_⟩ ?_
      · dsimp only; rw [j3, show p - 1 = w' by omega]; rfl
      · cbv; all_goals exact s_sA
      · cbv; all_goals exact s_bA
      · cbv
      · intro x
        obtain ⟨a, u⟩ := x
        intro hx
        dsimp only at hx
        cbv
        obtain ⟨g0, g1, g2, g3, g4'⟩ := hx
        have g4 : J0 = pgo b ((6 - a).toNat + 1) a u := by rw [show (6 - a).toNat + 1 = (7 - a).toNat by omega]; exact g4'
        clear g4'
        refine s_sbr hS ?_ ?_ <;> intro h <;> cbv
        · refine s_jump hS rfl ?_
          cbv
          obtain ⟨k1, k2, k3⟩ := herr 10 (by decide) (g4.trans (pgo_none (by omega) (by omega)))
          exact ownP_err k1 k2 k3
        · obtain ⟨y, hy⟩ := at_ex (l := b) (i := a) (by omega) (by omega)
          have hy0 := hb y (List.mem_of_getElem? hy)
          obtain ⟨q, hq⟩ : ∃ q : Int, 2 ^ (7 * (a - 1)).toNat = q := ⟨_, rfl⟩
          have hq0 : 0 < q := by rw [← hq]; exact pow_pos' _
          have hq1 : q ≤ 34359738368 := by have := pow_le (m := (7 * (a - 1)).toNat) (n := 35) (by omega); rw [hq] at this; omega
          obtain ⟨z, hz⟩ : ∃ z, z = y % 128 := ⟨_, rfl⟩
          obtain ⟨s, hs⟩ : ∃ s, s = z * q := ⟨_, rfl⟩
          have hs0 : 0 ≤ s := by rw [hs]; exact Int.mul_nonneg (by omega) (by omega)
          have hs1 : s ≤ 127 * 34359738368 := by
            rw [hs]
            have h1 : z * q ≤ 127 * q := Int.mul_le_mul_of_nonneg_right (by omega) (by omega)
            omega
          have hs' : s = y % 128 * 2 ^ (7 * (a - 1)).toNat := by rw [hs, hz, hq]
          have c1 : (5 < a ∨ 2147483648 ≤ u + s) → J0 = (0, 0, 60) := fun h => g4.trans (pgo_long hy hs' h)
          have c2 : ¬(5 < a ∨ 2147483648 ≤ u + s) → y < 128 → J0 = (u + s, a + 1, 0) := fun h h2 => g4.trans (pgo_end hy hs' h h2)
          have c3 : ¬(5 < a ∨ 2147483648 ≤ u + s) → ¬y < 128 → J0 = pgo b (6 - a).toNat (a + 1) (u + s) := fun h h2 => g4.trans (pgo_more hy hs' h h2)
          clear g4 hs'
          repeat' (first
            | (refine s_st hS ?_; try cbv)
            | (refine s_sbr hS ?_ ?_ <;> intro h <;> (try cbv) <;> try exact s_ab h)
            | (refine s_sta hS ?_; intro _ _; try cbv)
            | (refine s_stc hS ?_; try cbv)
            | (refine rowB hS hF hy rfl (by omega) ?_; try cbv)
            | (refine s_andl hS (c := 128) (m := 7) (by decide) ?_; intro _ _; cbv)
            | (refine s_and128 hS hy0.1 hy0.2 ?_; intro _ _; cbv)
            | (refine s_mul hS ?_ (by simp only [lo]; omega) (by simp only [hi]; omega); intro _ _; cbv)
            | (refine s_jump hS rfl ?_; cbv)
            | (refine s_shrl hS (c := 2147483648) rfl ?_; intro _ _; cbv))
          rename_i z' hz' a1 ha1 sv hsv
          obtain rfl : z' = z := hz'.trans hz.symm
          refine s_shll hS (c := q) (by rw [← hq]; congr 1; simp only [IntKind.bits]; omega) (fun s' hs2 => ?_) (by rw [← hs]; simp only [lo]; omega) (by rw [← hs]; simp only [hi]; omega)
          obtain rfl : s' = s := hs2.trans hs.symm
          cbv
          refine s_add hS (fun u2 hu2 => ?_) (by simp only [lo]; omega) (by simp only [hi]; omega)
          cbv
          repeat' (first
            | (refine s_st hS ?_; try cbv)
            | (refine s_sbr hS ?_ ?_ <;> intro h <;> (try cbv) <;> try exact s_ab h)
            | (refine s_sta hS ?_; intro _ _; try cbv)
            | (refine s_stc hS ?_; try cbv)
            | (refine s_jump hS rfl ?_; cbv)
            | (refine s_shrl hS (c := 2147483648) rfl ?_; intro _ _; cbv)
            | (refine rowB hS hF hy rfl (by omega) ?_; try cbv)
            | (refine s_and128 hS hy0.1 hy0.2 ?_; intro _ _; cbv))
          · obtain ⟨k1, k2, k3⟩ := herr 60 (by decide) (c1 (.inl h))
            exact ownP_err k1 k2 k3
          · obtain ⟨k1, k2, k3⟩ := herr 60 (by decide) (c1 (.inr (by omega)))
            exact ownP_err k1 k2 k3
          · rename_i a2 ha2
            obtain ⟨g5, g6, g7⟩ := hok (u + s') (a + 1) (by omega) (c2 (by omega) (by omega))
            obtain ⟨n2, hn2⟩ : ∃ n2, n2 = n - a2 := ⟨_, rfl⟩
            have hRl : n2 = ilen R := by
              rw [g5]; unfold ilen at *; rw [List.length_drop]; omega
            refine clone_bu hS (b := b) a2 n2 (by simp only [Z.v, ← hS, Int.ofNat_eq_natCast, cq, Bool.not_eq_true', Bool.not_eq_false', decide_eq_true_eq, decide_eq_false_iff_not, beq_iff_eq, beq_eq_false_iff_ne, ne_eq]) (by simp only [Z.v, ← hS, Int.ofNat_eq_natCast, cq, Bool.not_eq_true', Bool.not_eq_false', decide_eq_true_eq, decide_eq_false_iff_not, beq_iff_eq, beq_eq_false_iff_ne, ne_eq]; omega) (by omega) (by omega) (by omega) (by omega) rfl hfs fun F2 st hF2 => ?_
            have hPF : cellsB R = F2 := by rw [← hF2, part_drop (by omega) (by omega), g5, ha2]
            rw [← hPF, hP]
            cbv
            exact ownP_ok (k := 1) (L := R) hP (by omega) g7 (Nat.le_refl 1) hRl rfl
          · rename_i a2 ha2
            refine ⟨(a2, u2), by dsimp only; omega, ⟨by dsimp only; omega, by dsimp only; omega, by dsimp only; omega, by dsimp only; omega, ?_⟩, rfl, ?_, ?_, ?_⟩
            · dsimp only
              rw [c3 (by omega) (by omega), ha2, hu2, show (7 - (a + 1)).toNat = (6 - a).toNat by omega]
            · cbv; all_goals exact s_sA
            · cbv; all_goals exact s_bA
            · cbv
end Cz
/- Text, part C: numbers in septets, taken by the document. -/
namespace Cz
open Go Go.RowKit Go.Proofs
set_option linter.unusedSimpArgs false
set_option linter.unusedVariables false
set_option maxRecDepth 100000
set_option maxHeartbeats 4000000
theorem rptake_f {b : List Int} {k p : Int} (hb : Hu.BOk b) (hnb : ilen b ≤ 1000000) (hk1 : 1 ≤ k) (hk8 : k ≤ 8) (hp : 2 ^ k.toNat = p) :
    (S0 Try.prog).call 40 [.sl 0 1 (.l 0) (.y (ilen b)) none, .i .i64 (.y k)] [.r true true (.l 0) 1 (cellsB b)] (OwnP 1 1 (cellsB (preR b p)) [.i .i64 (.y (preN b p))] [.i .i64 (.y (preE b p))]) := by
  obtain ⟨n, hn'⟩ : ∃ n, n = ilen b := ⟨_, rfl⟩
  have h0n := ilen_nn b
  have hn := hnb
  rw [← hn'] at h0n hn ⊢
  have hp0 : 2 ≤ p := by have := pow_le (m := 1) (n := k.toNat) (by omega); rw [hp] at this; omega
  have hp1 : p ≤ 256 := by have := pow_le (m := k.toNat) (n := 8) (by omega); rw [hp] at this; omega
  have hpl := cellsB_plain b
  obtain ⟨J0, hJ⟩ : ∃ J0, J0 = preI b p := ⟨_, rfl⟩
  obtain ⟨N, hN⟩ : ∃ N, N = preN b p := ⟨_, rfl⟩
  obtain ⟨E, hE⟩ : ∃ E, E = preE b p := ⟨_, rfl⟩
  obtain ⟨R, hR⟩ : ∃ R, R = preR b p := ⟨_, rfl⟩
  rw [← hN, ← hE, ← hR]
  have herr : ∀ e, e ≠ 0 → J0 = (0, 0, e) → cellsB R = [] ∧ N = 0 ∧ E = e := by
    intro e he h
    rw [hJ] at h
    unfold preR at hR
    have h2 : preE b p = e := by unfold preE; rw [h]
    rw [h2, if_neg he] at hR
    exact ⟨by rw [hR]; rfl, by rw [hN]; unfold preN; rw [h], hE.trans h2⟩
  have hok : ∀ n' a, 0 ≤ a → J0 = (n', a, 0) → R = b.drop a.toNat ∧ N = n' ∧ E = 0 := by
    intro n' a _ h
    rw [hJ] at h
    unfold preR at hR
    have h2 : preE b p = 0 := by unfold preE; rw [h]
    rw [h2, if_pos rfl, h] at hR
    exact ⟨hR, by rw [hN]; unfold preN; rw [h], hE.trans h2⟩
  have hJ0 : n = 0 → J0 = (0, 0, 10) := by
    intro h
    have : b = [] := List.length_eq_zero_iff.1 (by unfold ilen at hn'; omega)
    rw [hJ, this]; rfl
  have hJ1 : ∀ v, b[(0 : Int).toNat]? = some v → (v % p < p - 1 → J0 = (v % p, 1, 0)) ∧ (¬v % p < p - 1 → J0 = pgo b 6 1 (p - 1)) := by
    intro v hv
    rw [hJ]
    cases b with
    | nil => simp at hv
    | cons w b =>
      simp at hv; subst hv
      unfold preI
      exact ⟨fun h => by simp only [if_pos h], fun h => by simp only [if_neg h]⟩
  clear hN hE hR hJ
  generalize hF : cellsB b = F at hpl ⊢
  have hfs : FSub F (cellsB b) := by rw [hF]; exact .rfl
  generalize hP : cellsB R = P at herr ⊢
  refine call_soft hpl ?_
  generalize hS : S0 Try.prog = S
  refine call_in' hS I.fn_causeyref06_Take ?_
  cbv
  repeat' (first
    | (refine s_st hS ?_; try cbv)
    | (refine s_sbr hS ?_ ?_ <;> intro h <;> (try cbv) <;> try exact s_ab h)
    | (refine s_sta hS ?_; intro _ _; try cbv)
    | (refine s_stc hS ?_; try cbv)
    | (refine call_in' hS I.fn_causeyref06_most ?_; cbv)
    | (refine s_shll hS (c := p) (by rw [← hp]; congr 1; simp only [IntKind.bits]; omega) ?_ (by simp only [lo]; omega) (by simp only [hi]; omega); intro _ _; cbv))
  · obtain ⟨g1, g2, g3⟩ := herr 10 (by decide) (hJ0 h)
    exact ownP_err g1 g2 g3
  · rename_i e1 he1 m0 hm0
    have hm1 : m0 = p - 1 := by omega
    obtain ⟨v, hv⟩ := at_ex (l := b) (i := 0) (by omega) (Int.le_refl 0)
    have hb0 := hb v (List.mem_of_getElem? hv)
    obtain ⟨j1, j2⟩ := hJ1 v hv
    clear hJ1
    obtain ⟨w, hw⟩ : ∃ w, w = v % p := ⟨_, rfl⟩
    have hwb : 0 ≤ w ∧ w < p := by rw [hw]; exact ⟨Int.emod_nonneg _ (by omega), Int.emod_lt_of_pos _ (by omega)⟩
    rw [← hw] at j1 j2
    refine rowB hS hF hv rfl (Int.le_refl 0) ?_
    cbv
    refine s_cvi hS ?_ (by simp only [lo]; omega) (by simp only [hi]; omega)
    cbv
    refine s_add hS (fun p' hp' => ?_) (by simp only [lo]; omega) (by simp only [hi]; omega)
    have hpp : p' = p := by omega
    cbv
    repeat' (first
      | (refine s_st hS ?_; try cbv)
      | (refine s_sbr hS ?_ ?_ <;> intro h <;> (try cbv) <;> try exact s_ab h)
      | (refine s_sta hS ?_; intro _ _; try cbv)
      | (refine s_stc hS ?_; try cbv))
    refine s_rem hS (by omega) fun w' hw' => ?_
    obtain rfl : w' = w := by rw [hw', hpp, hw]
    cbv
    obtain ⟨t, ht⟩ : ∃ t, decide (w' = m0) = t := ⟨_, rfl⟩
    have ht1 : t = true → J0 = pgo b 6 1 (p - 1) := fun h => j2 (by rw [← ht] at h; simp only [decide_eq_true_eq] at h; omega)
    have ht2 : t = false → J0 = (w', 1, 0) := fun h => j1 (by rw [← ht] at h; simp only [decide_eq_false_iff_not] at h; omega)
    have ht3 : t = true → w' = p - 1 := fun h => by rw [← ht] at h; simp only [decide_eq_true_eq] at h; omega
    refine s_loop_up hS 1 I.dead_causeyref06_Take_0 (fun x : Int × Int × Bool × Int => 1 ≤ x.1 ∧ x.1 ≤ n ∧ 0 ≤ x.2.1 ∧ x.2.1 < 2147483648 ∧ (x.2.2.1 = true → x.1 ≤ 6 ∧ x.2.2.2 = 7 * (x.1 - 1) ∧ J0 = pgo b (7 - x.1).toNat x.1 x.2.1) ∧ (x.2.2.1 = false → J0 = (x.2.1, x.1, 0)))
      (fun x => [(9, .i .i64 (.y x.1)), (8, .i .i64 (.y x.2.1)), (10, .b x.2.2.1), (11, .i .i64 (.y x.2.2.2))]) (fun x => [])
      (fun x => if x.2.2.1 then (8 - x.1).toNat else 0) (1, w', t, 0) rfl ⟨⟨Int.le_refl _, by dsimp only; omega, hwb.1, by dsimp only; omega, fun h => ⟨by dsimp only; omega, by dsimp only; omega, by dsimp only; rw [ht1 h, ht3 h]; rfl⟩, ht2⟩, rfl, ?_, ?_, ?_⟩ ?_
    · cbv; (repeat' (first | exact sub_any | exact Sub.rfl | exact SubL.nil | refine SubL.cons ?_ ?_ | exact sub_i rfl | (refine sub_b ?_; simp only [← hS, Int.ofNat_eq_natCast, cq, Bool.not_eq_true', Bool.not_eq_false', decide_eq_true_eq, decide_eq_false_iff_not, beq_iff_eq, beq_eq_false_iff_ne, ne_eq]; assumption)))
    · cbv; all_goals exact s_bA
    · cbv
    · intro x
      obtain ⟨a, u, tt, sf⟩ := x
      intro hx
      dsimp only at hx
      cbv
      obtain ⟨g0, g1, g2, g3, gt, gf⟩ := hx
      refine s_br hS ?_ ?_ <;> intro h <;> cbv
      · obtain ⟨g5, g6, g4'⟩ := gt h
        clear gt gf
        have g4 : J0 = pgo b ((6 - a).toNat + 1) a u := by rw [show (6 - a).toNat + 1 = (7 - a).toNat by omega]; exact g4'
        clear g4'
        refine s_sbr hS ?_ ?_ <;> intro h <;> cbv
        · obtain ⟨k1, k2, k3⟩ := herr 10 (by decide) (g4.trans (pgo_none (by omega) (by omega)))
          exact ownP_err k1 k2 k3
        · obtain ⟨y, hy⟩ := at_ex (l := b) (i := a) (by omega) (by omega)
          have hy0 := hb y (List.mem_of_getElem? hy)
          obtain ⟨q, hq⟩ : ∃ q : Int, 2 ^ (7 * (a - 1)).toNat = q := ⟨_, rfl⟩
          have hq0 : 0 < q := by rw [← hq]; exact pow_pos' _
          have hq1 : q ≤ 34359738368 := by have := pow_le (m := (7 * (a - 1)).toNat) (n := 35) (by omega); rw [hq] at this; omega
          obtain ⟨z, hz⟩ : ∃ z, z = y % 128 := ⟨_, rfl⟩
          obtain ⟨s, hs⟩ : ∃ s, s = z * q := ⟨_, rfl⟩
          have hs0 : 0 ≤ s := by rw [hs]; exact Int.mul_nonneg (by omega) (by omega)
          have hs1 : s ≤ 127 * 34359738368 := by
            rw [hs]
            have h1 : z * q ≤ 127 * q := Int.mul_le_mul_of_nonneg_right (by omega) (by omega)
            omega
          have hs' : s = y % 128 * 2 ^ (7 * (a - 1)).toNat := by rw [hs, hz, hq]
          have c1 : (5 < a ∨ 2147483648 ≤ u + s) → J0 = (0, 0, 60) := fun h => g4.trans (pgo_long hy hs' h)
          have c2 : ¬(5 < a ∨ 2147483648 ≤ u + s) → y < 128 → J0 = (u + s, a + 1, 0) := fun h h2 => g4.trans (pgo_end hy hs' h h2)
          have c3 : ¬(5 < a ∨ 2147483648 ≤ u + s) → ¬y < 128 → J0 = pgo b (6 - a).toNat (a + 1) (u + s) := fun h h2 => g4.trans (pgo_more hy hs' h h2)
          clear g4 hs'
          repeat' (first
            | (refine s_st hS ?_; try cbv)
            | (refine s_sbr hS ?_ ?_ <;> intro h <;> (try cbv) <;> try exact s_ab h)
            | (refine s_sta hS ?_; intro _ _; try cbv)
            | (refine s_stc hS ?_; try cbv)
            | (refine rowB hS hF hy rfl (by omega) ?_; try cbv)
            | (refine s_rem hS (by omega) ?_; intro _ _; cbv))
          rename_i z' hz'
          obtain rfl : z' = z := hz'.trans hz.symm
          refine s_shll hS (c := q) (by rw [← hq]; congr 1; simp only [IntKind.bits]; omega) (fun s' hs2 => ?_) (by rw [← hs]; simp only [lo]; omega) (by rw [← hs]; simp only [hi]; omega)
          obtain rfl : s' = s := hs2.trans hs.symm
          cbv
          refine s_add hS (fun u2 hu2 => ?_) (by simp only [lo]; omega) (by simp only [hi]; omega)
          cbv
          repeat' (first
            | (refine s_st hS ?_; try cbv)
            | (refine s_sbr hS ?_ ?_ <;> intro h <;> (try cbv) <;> try exact s_ab h)
            | (refine s_sta hS ?_; intro _ _; try cbv)
            | (refine s_stc hS ?_; try cbv)
            | (refine rowB hS hF hy rfl (by omega) ?_; try cbv))
          · obtain ⟨k1, k2, k3⟩ := herr 60 (by decide) (c1 (.inl (by omega)))
            exact ownP_err k1 k2 k3
          · obtain ⟨k1, k2, k3⟩ := herr 60 (by decide) (c1 (.inr (by omega)))
            exact ownP_err k1 k2 k3
          · rename_i htt _ _ _ a2 ha2 sf2 hsf2
            obtain ⟨t2, ht2'⟩ : ∃ t2, decide (128 ≤ y) = t2 := ⟨_, rfl⟩
            refine ⟨(a2, u2, t2, sf2), ?_, ⟨by dsimp only; omega, by dsimp only; omega, by dsimp only; omega, by dsimp only; omega, fun h => ?_, fun h => ?_⟩, rfl, ?_, ?_, ?_⟩
            · dsimp only
              have : tt = true := by assumption
              rw [this]
              simp only [if_true]
              split <;> omega
            · dsimp only at h ⊢
              have hy2 : 128 ≤ y := by rw [← ht2'] at h; simpa using h
              exact ⟨by omega, by omega, by rw [c3 (by omega) (by omega), ha2, hu2, show (7 - (a + 1)).toNat = (6 - a).toNat by omega]⟩
            · dsimp only at h ⊢
              have hy2 : ¬128 ≤ y := by rw [← ht2'] at h; simpa using h
              rw [c2 (by omega) (by omega), ha2, hu2]
            · cbv; (repeat' (first | exact sub_any | exact Sub.rfl | exact SubL.nil | refine SubL.cons ?_ ?_ | exact sub_i rfl | (refine sub_b ?_; simp only [← hS, Int.ofNat_eq_natCast, cq, Bool.not_eq_true', Bool.not_eq_false', decide_eq_true_eq, decide_eq_false_iff_not, beq_iff_eq, beq_eq_false_iff_ne, ne_eq]; assumption)))
            · cbv; all_goals exact s_bA
            · cbv
      · have g4 := gf h
        obtain ⟨g5, g6, g7⟩ := hok u a (by omega) g4
        repeat' (first
          | (refine s_st hS ?_; try cbv)
          | (refine s_sbr hS ?_ ?_ <;> intro h <;> (try cbv) <;> try exact s_ab h)
          | (refine s_sta hS ?_; intro _ _; try cbv)
          | (refine s_stc hS ?_; try cbv)
          | (refine s_flen hS (G := []) (by rfl) ?_; cbv))
        have e : S.mi n a = n - a := by rw [← hS]; rfl
        have hX := sub_part hS hF (o := a) (n := S.mi n a)
        have hPR : part b a (S.mi n a) = R := by rw [g5, part_drop (by omega) (by omega)]
        rw [hPR] at hX
        refine ⟨_, sub_tp (.cons (sub_i g6.symm) (.cons .rfl (.cons (sub_i g7.symm) .nil))), rowIs_val hX hP (Nat.le_refl 1) ?_ rfl⟩
        show S.mi n a = ilen R
        rw [e, g5]; unfold ilen at *; rw [List.length_drop]; omega
end Cz
/- Text, part D: a text taken. -/
namespace Cz
open Go Go.RowKit Go.Proofs
set_option linter.unusedSimpArgs false
set_option linter.unusedVariables false
set_option maxRecDepth 100000
set_option maxHeartbeats 4000000
theorem bok_drop {b : List Int} (h : Hu.BOk b) (k : Nat) : Hu.BOk (b.drop k) := fun v hv => h v (List.mem_of_mem_drop hv)
theorem bok_preR {b : List Int} {p : Int} (h : Hu.BOk b) : Hu.BOk (preR b p) := by
  unfold preR
  split
  · exact bok_drop h _
  · intro v hv; cases hv
theorem bok_part {b : List Int} {o n : Int} (h : Hu.BOk b) : Hu.BOk (part b o n) := fun v hv => h v (List.mem_of_mem_drop (List.mem_of_mem_take hv))
theorem takeL_bok {d : List Int} (hd : Hu.BOk d) : Hu.BOk (takeL d) := by
  unfold takeL
  cases ht : Hu.take d with
  | some o => exact (Hu.put_take hd ht).2
  | none => intro v hv; cases hv
theorem takeE_cases (d : List Int) : takeE d = 0 ∨ takeE d = 70 ∧ takeL d = [] := by
  unfold takeE takeL
  cases Hu.take d with
  | some o => exact .inl rfl
  | none => exact .inr ⟨rfl, rfl⟩
section
variable {S : Sy} {b : List Int} {F : List SV} {k : Nat} {ro lit : Bool} {st zn zk : Z} {l : List Blk} {K : SV → List Blk → Prop}
theorem ptake_u (hS : S0 Try.prog = S) (kk p : Int) (hzk : zk.v = kk) (hb : Hu.BOk b) (hn : ilen b ≤ 1000000) (hk1 : 1 ≤ kk) (hk8 : kk ≤ 8) (hp : 2 ^ kk.toNat = p) (hrow : lget l k = .r ro lit st 1 F) (hs : FSub F (cellsB b)) (hz : zn.v = ilen b)
    (hK : ∀ N R E F2 n2 st, preN b p = N → preR b p = R → preE b p = E → cellsB R = F2 → n2 = ilen R → K (.tp [.i .i64 (.y N), .sl (len l) 1 (.l 0) (.y n2) none, .i .i64 (.y E)]) (snoc l (.r false false (.y st) 1 F2))) :
    S.call 48 [.sl k 1 (.l 0) zn none, .i .i64 zk] l K := by
  subst hzk
  exact use_ownP hS (fun _ => k) (ptake_f hb hn hk1 hk8 hp) (.cons (sub_sl rfl hz) (.cons (sub_i rfl) .nil)) rfl ⟨⟨_, _, _, _, _, _, _, _, rfl, cellsB_plain _, hrow, hs⟩, trivial⟩ (by omega) (cellsB_plain _) rfl rfl (cellsB_n _) fun st => hK _ _ _ _ _ st rfl rfl rfl rfl rfl
theorem rptake_u (hS : S0 Try.prog = S) (kk p : Int) (hzk : zk.v = kk) (hb : Hu.BOk b) (hn : ilen b ≤ 1000000) (hk1 : 1 ≤ kk) (hk8 : kk ≤ 8) (hp : 2 ^ kk.toNat = p) (hrow : lget l k = .r ro lit st 1 F) (hs : FSub F (cellsB b)) (hz : zn.v = ilen b)
    (hK : ∀ N R E F2 n2 st, preN b p = N → preR b p = R → preE b p = E → cellsB R = F2 → n2 = ilen R → K (.tp [.i .i64 (.y N), .sl (len l) 1 (.l 0) (.y n2) none, .i .i64 (.y E)]) (snoc l (.r false false (.y st) 1 F2))) :
    S.call 40 [.sl k 1 (.l 0) zn none, .i .i64 zk] l K := by
  subst hzk
  exact use_ownP hS (fun _ => k) (rptake_f hb hn hk1 hk8 hp) (.cons (sub_sl rfl hz) (.cons (sub_i rfl) .nil)) rfl ⟨⟨_, _, _, _, _, _, _, _, rfl, cellsB_plain _, hrow, hs⟩, trivial⟩ (by omega) (cellsB_plain _) rfl rfl (cellsB_n _) fun st => hK _ _ _ _ _ st rfl rfl rfl rfl rfl
end
/-- A text out of bytes: the text, what stands behind it, what is told. -/
def tTake (b : List Int) : List Int × List Int × Int :=
  if preE b 128 ≠ 0 then ([], [], preE b 128)
  else if ilen (preR b 128) < preN b 128 then ([], [], 10)
  else if b.getD 0 0 < 128 then (part (preR b 128) 0 (preN b 128), (preR b 128).drop (preN b 128).toNat, 0)
  else if takeE (part (preR b 128) 0 (preN b 128)) = 0 then (takeL (part (preR b 128) 0 (preN b 128)), (preR b 128).drop (preN b 128).toNat, 0)
  else ([], [], 70)
def tS (b : List Int) : List Int := (tTake b).1
def tR (b : List Int) : List Int := (tTake b).2.1
def tE (b : List Int) : Int := (tTake b).2.2
theorem pgo_ok {b : List Int} (hb : Hu.BOk b) : ∀ (f : Nat) (a n : Int), 0 ≤ n → 0 ≤ (pgo b f a n).1
  | 0, a, n, h => by simp [pgo]
  | f + 1, a, n, h => by
    rw [pgo]
    split
    · simp
    · rename_i v hv
      have hv0 := hb v (List.mem_of_getElem? hv)
      have hs : 0 ≤ v % 128 * 2 ^ (7 * (a - 1)).toNat := Int.mul_nonneg (by omega) (Int.le_of_lt (pow_pos' _))
      split
      · simp
      · split
        · simp only; omega
        · exact pgo_ok hb f _ _ (by omega)
theorem preN_nn {b : List Int} {p : Int} (hb : Hu.BOk b) (hp : 1 ≤ p) : 0 ≤ preN b p := by
  unfold preN preI
  cases b with
  | nil => simp
  | cons v b =>
    simp only
    split
    · exact Int.emod_nonneg _ (by omega)
    · exact pgo_ok hb _ _ _ (by omega)
theorem preR_len {b : List Int} {p : Int} : ilen (preR b p) ≤ ilen b := by
  unfold preR
  split
  · unfold ilen; rw [List.length_drop]; omega
  · unfold ilen; simp
theorem preE_nil {p : Int} : preE [] p = 10 := rfl
theorem ownS_err {P : List SV} {x : List UInt8} {e : Int} {z : Z} {l' : List Blk} (hx : x = []) (hP : P = []) (he : e = z.v) : OwnP 1 1 P [.s x] [.i .i64 (.y e)] (.tp [.s [], .re (.slice none 0 0), .i .i64 z]) l' :=
  ⟨_, sub_tp (.cons (sub_s hx.symm) (.cons .rfl (.cons (sub_i he.symm) .nil))), .inl ⟨rfl, hP⟩⟩
theorem ownS_ok {P : List SV} {L : List Int} {x y : List UInt8} {e : Int} {z q : Z} {k : Nat} {lit : Bool} {st : Z} {l' : List Blk} (hx : x = y) (hP : cellsB L = P) (he : e = z.v) (hk : 1 ≤ k) (hq : q.v = ilen L) (hB : l'[k]? = some (.r false lit st 1 P)) :
    OwnP 1 1 P [.s x] [.i .i64 (.y e)] (.tp [.s y, .sl k 1 (.l 0) q none, .i .i64 z]) l' :=
  ⟨_, sub_tp (.cons (sub_s hx.symm) (.cons .rfl (.cons (sub_i he.symm) .nil))), rowIs_same hP hk hq hB⟩
theorem ttake_f {b : List Int} (hb : Hu.BOk b) (hnb : ilen b ≤ 1000000) :
    (S0 Try.prog).call 29 [.sl 0 1 (.l 0) (.y (ilen b)) none] [.r true true (.l 0) 1 (cellsB b)] (OwnP 1 1 (cellsB (tR b)) [.s (strB (tS b))] [.i .i64 (.y (tE b))]) := by
  obtain ⟨n, hn'⟩ : ∃ n, n = ilen b := ⟨_, rfl⟩
  have h0n := ilen_nn b
  have hn := hnb
  rw [← hn'] at h0n hn ⊢
  have hpl := cellsB_plain b
  obtain ⟨N, hN⟩ : ∃ N, preN b 128 = N := ⟨_, rfl⟩
  obtain ⟨E, hE⟩ : ∃ E, preE b 128 = E := ⟨_, rfl⟩
  obtain ⟨R, hR⟩ : ∃ R, preR b 128 = R := ⟨_, rfl⟩
  have hN0 := preN_nn (p := 128) hb (by decide)
  have hRl := preR_len (b := b) (p := 128)
  have hRok := bok_preR (p := 128) hb
  rw [hN] at hN0
  rw [hR] at hRl hRok
  obtain ⟨x, hx⟩ : ∃ x, x = strB (tS b) := ⟨_, rfl⟩
  obtain ⟨e, he⟩ : ∃ e, e = tE b := ⟨_, rfl⟩
  obtain ⟨Q, hQ⟩ : ∃ Q, Q = tR b := ⟨_, rfl⟩
  have hT : ∀ a c d, tTake b = (a, c, d) → x = strB a ∧ Q = c ∧ e = d := fun a c d h => ⟨by rw [hx]; unfold tS; rw [h], by rw [hQ]; unfold tR; rw [h], by rw [he]; unfold tE; rw [h]⟩
  rw [← hx, ← he, ← hQ]
  clear hx he hQ
  unfold tTake at hT
  rw [hN, hE, hR] at hT
  generalize hF : cellsB b = F at hpl ⊢
  have hfs : FSub F (cellsB b) := by rw [hF]; exact .rfl
  generalize hP : cellsB Q = P
  refine call_soft hpl ?_
  generalize hS : S0 Try.prog = S
  refine call_in' hS I.fn_text_Take ?_
  cbv
  refine ptake_u hS (b := b) 7 128 rfl hb hnb (by decide) (by decide) rfl rfl hfs hn' fun N1 R1 E1 F2 n2 st hN1 hR1 hE1 hF2 hn2 => ?_
  have e1 : N1 = N := hN1.symm.trans hN
  have e2 : R = R1 := hR.symm.trans hR1
  have e3 : E1 = E := hE1.symm.trans hE
  cbv
  repeat' (first
    | (refine s_st hS ?_; try cbv)
    | (refine s_sbr hS ?_ ?_ <;> intro h <;> (try cbv) <;> try exact s_ab h)
    | (refine s_sta hS ?_; intro _ _; try cbv)
    | (refine s_stc hS ?_; try cbv)
    | (refine s_jump hS rfl ?_; cbv))
  · obtain ⟨a1, a2, a3⟩ := hT [] [] E (by rw [if_pos (by omega)])
    exact ownS_err a1 (by rw [← hP, a2]; rfl) (by simp only [Z.v]; omega)
  · obtain ⟨a1, a2, a3⟩ := hT [] [] 10 (by rw [if_neg (by omega), if_pos (by rw [e2]; omega)])
    exact ownS_err a1 (by rw [← hP, a2]; rfl) a3
  · have hE0 : ¬E ≠ 0 := by omega
    have hRN : ¬ilen R < N := by rw [e2]; omega
    rw [if_neg hE0, if_neg hRN, e2, ← e1] at hT
    rw [← e1] at hN0
    rw [e2] at hRl hRok
    have hn1 : 1 ≤ n := by
      rcases Int.lt_or_le n 1 with h1 | h1
      · exfalso
        have : b = [] := List.length_eq_zero_iff.1 (by unfold ilen at hn'; omega)
        rw [this, preE_nil] at hE
        omega
      · exact h1
    obtain ⟨v, hv⟩ := at_ex (l := b) (i := 0) (by omega) (Int.le_refl 0)
    have hb0 := hb v (List.mem_of_getElem? hv)
    have hv0 : b.getD 0 0 = v := by rw [List.getD_eq_getElem?_getD]; simp at hv; rw [hv]; rfl
    rw [hv0] at hT
    have hfs2 : FSub F2 (cellsB R1) := by rw [hF2]; exact .rfl
    obtain ⟨n3, hn3⟩ : ∃ n3, n3 = n2 - N1 := ⟨_, rfl⟩
    obtain ⟨T, hTp⟩ : ∃ T, part R1 0 N1 = T := ⟨_, rfl⟩
    have hTl : ilen T = N1 := by rw [← hTp]; exact part_len (by decide) hN0 (by omega)
    have hTok : Hu.BOk T := hTp ▸ bok_part hRok
    rw [hTp] at hT
    refine s_draw hS rfl I.ord_text_Take_0 (by decide +kernel) ?_
    cbv
    repeat' (first
      | (refine s_st hS ?_; try cbv)
      | (refine s_sbr hS ?_ ?_ <;> intro h <;> (try cbv) <;> try exact s_ab h)
      | (refine s_sta hS ?_; intro _ _; try cbv)
      | (refine s_stc hS ?_; try cbv)
      | (refine clone_su hS (b := R1) 0 N1 rfl rfl (by decide) hN0 (by omega) (by omega) rfl hfs2 fun F3 st3 hF3 => ?_; cbv)
      | (refine clone_bu hS (b := R1) N1 n3 rfl (by simp only [Z.v, ← hS, Int.ofNat_eq_natCast, cq, Bool.not_eq_true', Bool.not_eq_false', decide_eq_true_eq, decide_eq_false_iff_not, beq_iff_eq, beq_eq_false_iff_ne, ne_eq]; omega) hN0 (by omega) (by omega) (by omega) rfl hfs2 fun F4 st4 hF4 => ?_; cbv)
      | (refine And.intro rfl ?_; try cbv))
    rw [hTp] at hF3
    have hD : part R1 N1 n3 = R1.drop N1.toNat := part_drop hN0 (by omega)
    rw [hD] at hF4
    have hDl : n3 = ilen (R1.drop N1.toNat) := by rw [← hD]; exact (part_len hN0 (by omega) (by omega)).symm
    refine rowB hS hF hv rfl (Int.le_refl 0) ?_
    cbv
    refine s_and128 hS hb0.1 hb0.2 fun r hr => ?_
    cbv
    refine s_sbr hS ?_ ?_ <;> intro h <;> cbv
    · obtain ⟨a1, a2, a3⟩ := hT T (R1.drop N1.toNat) 0 (by rw [if_pos (by omega)])
      refine s_bs hS hTok hF3 hTl.symm ?_
      rw [← a1]
      cbv
      have hPF : F4 = P := by rw [← hF4, ← hP, a2]
      rw [hPF]
      exact ownS_ok (L := R1.drop N1.toNat) rfl (by rw [← a2]; exact hP) a3 (by omega) hDl rfl
    · refine take_u hS (b := T) hTok (by omega) rfl (by rw [hF3]; exact .rfl) hTl.symm fun L F5 n5 st5 e5 hL hF5 hn5 he5 => ?_
      cbv
      repeat' (first
        | (refine s_st hS ?_; try cbv)
        | (refine s_sbr hS ?_ ?_ <;> intro h <;> (try cbv) <;> try exact s_ab h)
        | (refine s_sta hS ?_; intro _ _; try cbv)
        | (refine s_stc hS ?_; try cbv)
        | (refine s_jump hS rfl ?_; cbv))
      · obtain ⟨a1, a2, a3⟩ := hT (takeL T) (R1.drop N1.toNat) 0 (by rw [if_neg (by omega), if_pos (by rw [he5]; exact h)])
        rw [hL] at a1
        refine s_bs hS (hL ▸ takeL_bok hTok) hF5 hn5 ?_
        rw [← a1]
        cbv
        have hPF : F4 = P := by rw [← hF4, ← hP, a2]
        rw [hPF]
        exact ownS_ok (L := R1.drop N1.toNat) rfl (by rw [← a2]; exact hP) a3 (by omega) hDl rfl
      · have h70 : e5 = 70 := by
          rcases takeE_cases T with h1 | ⟨h1, _⟩ <;> omega
        obtain ⟨a1, a2, a3⟩ := hT [] [] 70 (by rw [if_neg (by omega), if_neg (by omega)])
        exact ownS_err a1 (by rw [← hP, a2]; rfl) (by simp only [Z.v]; omega)
end Cz
/- Text, part E: a text taken by the document. -/
namespace Cz
open Go Go.RowKit Go.Proofs
set_option linter.unusedSimpArgs false
set_option linter.unusedVariables false
set_option maxRecDepth 100000
set_option maxHeartbeats 4000000
theorem cells_part (b : List Int) (o n : Nat) : ((cellsB b).drop (o * 1)).take (n * 1) = cellsB ((b.drop o).take n) := by
  simp only [cellsB_map, Nat.mul_one, List.map_take, List.map_drop]
theorem s_bsp {S : Sy} (hS : S0 Try.prog = S) {R T : List Int} {F : List SV} {n : Int} {K : List UInt8 → Prop} (hb : Hu.BOk R) (hF : cellsB R = F) (hT : part R 0 n = T) (h0 : 0 ≤ n) (h1 : n ≤ ilen R) (h : K (strB T)) : S.bs F 0 n K := by
  subst hS hF hT
  have hl := part_len (b := R) (o := 0) (n := n) (by decide) h0 (by omega)
  refine ⟨Int.le_refl _, h0, strB (part R 0 n), ⟨?_, ?_⟩, h⟩
  · unfold strB; rw [List.length_map]; unfold ilen at hl; omega
  · intro q c hc
    unfold strB at hc
    rw [List.getElem?_map, Option.map_eq_some_iff] at hc
    obtain ⟨v, hv, rfl⟩ := hc
    have hq : R[q]? = some v := by
      unfold part at hv
      rw [List.getElem?_take] at hv
      split at hv
      · rw [List.getElem?_drop] at hv; simpa using hv
      · cases hv
    refine ⟨.y v, ?_, ?_⟩
    · rw [show (0 : Int).toNat + q = q by simp]; exact cellsB_get hq
    · have := hb v (List.mem_of_getElem? hq)
      simp only [Z.v, Nat.toUInt8, UInt8.toNat_ofNat']
      omega
/-- The document's Take, of a part of a row. -/
theorem rtake_cut {S : Sy} (hS : S0 Try.prog = S) {R T : List Int} {F : List SV} {k : Nat} {ro lit : Bool} {st zn : Z} {l : List Blk} {K : SV → List Blk → Prop} {n : Int} (hR : Hu.BOk R) (hn : ilen R ≤ 1000000) (hrow : lget l k = .r ro lit st 1 F) (hs : FSub F (cellsB R))
    (hz : zn.v = n) (h0 : 0 ≤ n) (h1 : n ≤ ilen R) (hT : part R 0 n = T)
    (hK : ∀ L F2 n2 st e, takeL T = L → cellsB L = F2 → n2 = ilen L → takeE T = e → K (.tp [.sl (len l) 1 (.l 0) (.y n2) none, .i .i64 (.y e)]) (snoc l (.r false false (.y st) 1 F2))) : S.call 18 [.sl k 1 (.l 0) zn none] l K := by
  have hTl : ilen T = n := by rw [← hT]; exact part_len (by decide) h0 (by omega)
  have hTok : Hu.BOk T := hT ▸ bok_part hR
  have hf := rtake_f hTok (by omega)
  refine use_cut hS (o := 0) (m := T.length) (F1 := cellsB R) hf hrow hs (cellsB_plain R) rfl (by rw [hz]; exact hTl.symm) ?_ ?_ (by omega) (cellsB_plain _) rfl (cellsB_n _) fun st => hK _ _ _ st _ rfl rfl rfl rfl
  · rw [cells_part, ← hT]
    unfold part at *
    congr 1
    simp only [Int.toNat_zero, List.drop_zero] at *
    rw [← hT] at hTl
    unfold ilen at hTl h1
    rw [List.length_take] at hTl ⊢
    rw [List.take_eq_take_iff]
    omega
  · have := cellsB_len R
    unfold ilen at *
    omega
theorem ownS_val {P X : List SV} {L : List Int} {x y : List UInt8} {e : Int} {z q : Z} {k : Nat} {lit : Bool} {st : Z} {l' : List Blk} (hx : x = y) (hX : X = cellsB L) (hP : cellsB L = P) (he : e = z.v) (hk : 1 ≤ k) (hq : q.v = ilen L) (hB : l'[k]? = some (.r false lit st 1 X)) :
    OwnP 1 1 P [.s x] [.i .i64 (.y e)] (.tp [.s y, .sl k 1 (.l 0) q none, .i .i64 z]) l' :=
  ⟨_, sub_tp (.cons (sub_s hx.symm) (.cons .rfl (.cons (sub_i he.symm) .nil))), rowIs_val hX hP hk hq hB⟩
theorem rttake_f {b : List Int} (hb : Hu.BOk b) (hnb : ilen b ≤ 1000000) :
    (S0 Try.prog).call 30 [.sl 0 1 (.l 0) (.y (ilen b)) none] [.r true true (.l 0) 1 (cellsB b)] (OwnP 1 1 (cellsB (tR b)) [.s (strB (tS b))] [.i .i64 (.y (tE b))]) := by
  obtain ⟨n, hn'⟩ : ∃ n, n = ilen b := ⟨_, rfl⟩
  have h0n := ilen_nn b
  have hn := hnb
  rw [← hn'] at h0n hn ⊢
  have hpl := cellsB_plain b
  obtain ⟨N, hN⟩ : ∃ N, preN b 128 = N := ⟨_, rfl⟩
  obtain ⟨E, hE⟩ : ∃ E, preE b 128 = E := ⟨_, rfl⟩
  obtain ⟨R, hR⟩ : ∃ R, preR b 128 = R := ⟨_, rfl⟩
  have hN0 := preN_nn (p := 128) hb (by decide)
  have hRl := preR_len (b := b) (p := 128)
  have hRok := bok_preR (p := 128) hb
  rw [hN] at hN0
  rw [hR] at hRl hRok
  obtain ⟨x, hx⟩ : ∃ x, x = strB (tS b) := ⟨_, rfl⟩
  obtain ⟨e, he⟩ : ∃ e, e = tE b := ⟨_, rfl⟩
  obtain ⟨Q, hQ⟩ : ∃ Q, Q = tR b := ⟨_, rfl⟩
  have hT : ∀ a c d, tTake b = (a, c, d) → x = strB a ∧ Q = c ∧ e = d := fun a c d h => ⟨by rw [hx]; unfold tS; rw [h], by rw [hQ]; unfold tR; rw [h], by rw [he]; unfold tE; rw [h]⟩
  rw [← hx, ← he, ← hQ]
  clear hx he hQ
  unfold tTake at hT
  rw [hN, hE, hR] at hT
  generalize hF : cellsB b = F at hpl ⊢
  have hfs : FSub F (cellsB b) := by rw [hF]; exact .rfl
  generalize hP : cellsB Q = P
  refine call_soft hpl ?_
  generalize hS : S0 Try.prog = S
  refine call_in' hS I.fn_causeyref08_Take ?_
  cbv
  refine rptake_u hS (b := b) 7 128 rfl hb hnb (by decide) (by decide) rfl rfl hfs hn' fun N1 R1 E1 F2 n2 st hN1 hR1 hE1 hF2 hn2 => ?_
  have e1 : N1 = N := hN1.symm.trans hN
  have e2 : R = R1 := hR.symm.trans hR1
  have e3 : E1 = E := hE1.symm.trans hE
  cbv
  repeat' (first
    | (refine s_st hS ?_; try cbv)
    | (refine s_sbr hS ?_ ?_ <;> intro h <;> (try cbv) <;> try exact s_ab h)
    | (refine s_sta hS ?_; intro _ _; try cbv)
    | (refine s_stc hS ?_; try cbv))
  · obtain ⟨a1, a2, a3⟩ := hT [] [] E (by rw [if_pos (by omega)])
    exact ownS_err a1 (by rw [← hP, a2]; rfl) (by simp only [Z.v]; omega)
  · obtain ⟨a1, a2, a3⟩ := hT [] [] 10 (by rw [if_neg (by omega), if_pos (by rw [e2]; omega)])
    exact ownS_err a1 (by rw [← hP, a2]; rfl) a3
  · have hE0 : ¬E ≠ 0 := by omega
    have hRN : ¬ilen R < N := by rw [e2]; omega
    rw [if_neg hE0, if_neg hRN, e2, ← e1] at hT
    rw [← e1] at hN0
    rw [e2] at hRl hRok
    have hn1 : 1 ≤ n := by
      rcases Int.lt_or_le n 1 with h1 | h1
      · exfalso
        have : b = [] := List.length_eq_zero_iff.1 (by unfold ilen at hn'; omega)
        rw [this, preE_nil] at hE
        omega
      · exact h1
    obtain ⟨v, hv⟩ := at_ex (l := b) (i := 0) (by omega) (Int.le_refl 0)
    have hb0 := hb v (List.mem_of_getElem? hv)
    have hv0 : b.getD 0 0 = v := by rw [List.getD_eq_getElem?_getD]; simp at hv; rw [hv]; rfl
    rw [hv0] at hT
    have hfs2 : FSub F2 (cellsB R1) := by rw [hF2]; exact .rfl
    obtain ⟨n3, hn3⟩ : ∃ n3, n3 = n2 - N1 := ⟨_, rfl⟩
    obtain ⟨T, hTp⟩ : ∃ T, part R1 0 N1 = T := ⟨_, rfl⟩
    have hTl : ilen T = N1 := by rw [← hTp]; exact part_len (by decide) hN0 (by omega)
    have hTok : Hu.BOk T := hTp ▸ bok_part hRok
    rw [hTp] at hT
    refine s_draw hS rfl I.ord_causeyref08_Take_0 (by decide +kernel) ?_
    cbv
    repeat' (first
      | (refine s_st hS ?_; try cbv)
      | (refine s_sbr hS ?_ ?_ <;> intro h <;> (try cbv) <;> try exact s_ab h)
      | (refine s_sta hS ?_; intro _ _; try cbv)
      | (refine s_stc hS ?_; try cbv)
      | (refine s_flen hS (G := []) (by rfl) ?_; cbv)
      | (refine And.intro rfl ?_; try cbv))
    have emi : S.mi n2 N1 = n3 := by rw [← hS, hn3]; rfl
    have hD : part R1 N1 n3 = R1.drop N1.toNat := part_drop hN0 (by omega)
    have hX := sub_part hS hF2 (o := N1) (n := S.mi n2 N1)
    rw [emi, hD] at hX
    have hDl : n3 = ilen (R1.drop N1.toNat) := by rw [← hD]; exact (part_len hN0 (by omega) (by omega)).symm
    have hX' : S.app [] (S.sub F2 N1 (S.mi n2 N1) 1) = cellsB (R1.drop N1.toNat) := by rw [emi]; exact hX
    refine rowB hS hF hv rfl (Int.le_refl 0) ?_
    cbv
    refine s_sbr hS ?_ ?_ <;> intro h <;> cbv
    · obtain ⟨a1, a2, a3⟩ := hT T (R1.drop N1.toNat) 0 (by rw [if_pos (by omega)])
      refine s_bsp hS hRok hF2 hTp hN0 (by omega) ?_
      rw [← a1]
      cbv
      exact ownS_val rfl hX' (by rw [← a2]; exact hP) a3 (by omega) (emi.trans hDl) rfl
    · refine rtake_cut hS (n := N1) hRok (by omega) rfl hfs2 rfl hN0 (by omega) hTp fun L F5 n5 st5 e5 hL hF5 hn5 he5 => ?_
      cbv
      repeat' (first
        | (refine s_st hS ?_; try cbv)
        | (refine s_sbr hS ?_ ?_ <;> intro h <;> (try cbv) <;> try exact s_ab h)
        | (refine s_sta hS ?_; intro _ _; try cbv)
        | (refine s_stc hS ?_; try cbv))
      · have h70 : e5 = 70 := by
          rcases takeE_cases T with h1 | ⟨h1, _⟩ <;> omega
        obtain ⟨a1, a2, a3⟩ := hT [] [] 70 (by rw [if_neg (by omega), if_neg (by omega)])
        exact ownS_err a1 (by rw [← hP, a2]; rfl) (by simp only [Z.v]; omega)
      · obtain ⟨a1, a2, a3⟩ := hT (takeL T) (R1.drop N1.toNat) 0 (by rw [if_neg (by omega), if_pos (by rw [he5]; exact h)])
        rw [hL] at a1
        refine s_bs hS (hL ▸ takeL_bok hTok) hF5 hn5 ?_
        rw [← a1]
        cbv
        exact ownS_val rfl hX' (by rw [← a2]; exact hP) a3 (by omega) (emi.trans hDl) rfl
end Cz
