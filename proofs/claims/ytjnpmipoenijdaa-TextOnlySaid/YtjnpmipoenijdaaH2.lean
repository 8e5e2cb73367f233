/- Huff, part F: bits out of bytes. -/
import Derived.Test.YtjnpmipoenijdaaH1
import Derived.Test.YtjnpmipoenijdaaE4
namespace Cz
open Go Go.RowKit Go.Proofs
set_option linter.unusedSimpArgs false
set_option linter.unusedVariables false
set_option maxRecDepth 100000
set_option maxHeartbeats 4000000
/-- A bit of bytes. -/
def bitI (b : List Int) (i : Int) : Int := ((Hu.bl b).getD i.toNat false).toNat
/-- The number that bits tell. -/
def numI (b : List Int) (i k : Int) : Int := Hu.valB (((Hu.bl b).drop i.toNat).take k.toNat)
theorem bitI_bd (b : List Int) (i : Int) : 0 ≤ bitI b i ∧ bitI b i ≤ 1 := by
  unfold bitI
  cases (Hu.bl b).getD i.toNat false <;> decide
theorem numI_zero (b : List Int) (i : Int) : numI b i 0 = 0 := rfl
theorem numI_next {b : List Int} {i k : Int} (h0 : 0 ≤ i) (h1 : 0 ≤ k) (h2 : i + k < 8 * ilen b) : numI b i (k + 1) = 2 * numI b i k + bitI b (i + k) := by
  unfold numI bitI
  rw [show (k + 1).toNat = k.toNat + 1 by omega, List.take_add_one]
  have hlt : i.toNat + k.toNat < (Hu.bl b).length := by rw [Hu.bl_len]; unfold ilen at h2; omega
  rw [List.getElem?_drop, List.getElem?_eq_getElem hlt, Option.toList_some, Hu.valB_snoc]
  rw [List.getD_eq_getElem?_getD, show (i + k).toNat = i.toNat + k.toNat by omega, List.getElem?_eq_getElem hlt]
  simp
theorem numI_bd {b : List Int} {i k : Int} (h : k ≤ 30) : 0 ≤ numI b i k ∧ numI b i k < 1073741824 := by
  unfold numI
  have h1 := Hu.valB_lt (((Hu.bl b).drop i.toNat).take k.toNat)
  have h2 : 2 ^ (((Hu.bl b).drop i.toNat).take k.toNat).length ≤ 2 ^ 30 := Nat.pow_le_pow_right (by omega) (by rw [List.length_take]; omega)
  omega
theorem bitsN_get : ∀ {m n i : Nat}, i < m → (Hu.bitsN m n)[i]? = some (n / 2 ^ (m - 1 - i) % 2 == 1)
  | m + 1, n, i, h => by
    simp only [Hu.bitsN]
    rcases Nat.lt_or_ge i m with hi | hi
    · rw [List.getElem?_append_left (by rw [Hu.bitsN_len]; exact hi), bitsN_get hi, Nat.div_div_eq_div_mul, ← Nat.pow_succ', show m + 1 - 1 - i = (m - 1 - i).succ by omega]
    · obtain rfl : i = m := by omega
      rw [List.getElem?_append_right (by rw [Hu.bitsN_len]; omega), Hu.bitsN_len]
      simp
theorem bl_get {b : List Int} {q j : Nat} {v : Int} (h : b[q]? = some v) (hj : j < 8) : (Hu.bl b)[q * 8 + j]? = (Hu.bitsN 8 v.toNat)[j]? := by
  induction b generalizing q with
  | nil => simp at h
  | cons u b ih =>
    cases q with
    | zero =>
      simp only [List.getElem?_cons_zero, Option.some.injEq] at h; subst h
      simp only [Hu.bl, List.flatMap_cons, Nat.zero_mul, Nat.zero_add]
      rw [List.getElem?_append_left (by rw [Hu.bitsN_len]; exact hj)]
    | succ q =>
      simp only [List.getElem?_cons_succ] at h
      have := ih h
      simp only [Hu.bl, List.flatMap_cons] at this ⊢
      rw [List.getElem?_append_right (by rw [Hu.bitsN_len]; omega), Hu.bitsN_len, show (q + 1) * 8 + j - 8 = q * 8 + j by omega]
      exact this
/-- A byte's bit, as it is shifted out. -/
theorem bit_of {b : List Int} {i q j v r : Int} (hv : b[q.toNat]? = some v) (hok : Hu.BOk b) (h0 : 0 ≤ i) (hq : q = i / 8) (hj : j = 7 - i % 8) (hr : r = v / 2 ^ j.toNat % 2) : bitI b i = r := by
  have hv0 := hok v (List.mem_of_getElem? hv)
  have e : i.toNat = q.toNat * 8 + (i % 8).toNat := by omega
  unfold bitI
  rw [List.getD_eq_getElem?_getD, e, bl_get hv (by omega), bitsN_get (by omega), show 8 - 1 - (i % 8).toNat = j.toNat by omega, hr]
  simp only [Option.getD_some]
  have e2 : v / 2 ^ j.toNat % 2 = ((v.toNat / 2 ^ j.toNat % 2 : Nat) : Int) := by
    push_cast
    rw [Int.toNat_of_nonneg hv0.1]
  rw [e2]
  have : v.toNat / 2 ^ j.toNat % 2 = 0 ∨ v.toNat / 2 ^ j.toNat % 2 = 1 := by omega
  rcases this with h | h <;> simp [h]
def okI (b : List Int) (i k : Int) : Bool := decide (0 ≤ i) && decide (i + k ≤ 8 * ilen b)
def resI (b : List Int) (i k : Int) : Int := if okI b i k then numI b i k else 0
theorem okI_t {b : List Int} {i k : Int} (h0 : 0 ≤ i) (h : i + k ≤ 8 * ilen b) : okI b i k = true := by unfold okI; simp [h0, h]
theorem okI_f {b : List Int} {i k : Int} (h : i < 0 ∨ 8 * ilen b < i + k) : okI b i k = false := by
  unfold okI
  rcases h with h | h
  · simp; omega
  · simp; omega
/-- A byte, read. -/
theorem rowB {S : Sy} (hS : S0 Try.prog = S) {b : List Int} {F : List SV} (hF : cellsB b = F) {q i v : Int} {K : SV → Prop} (hv : b[q.toNat]? = some v) (hi : i = q) (h0 : 0 ≤ q) (h : K (.i .u8 (.y v))) : S.rd F i 1 0 1 false K := by
  subst hi
  exact s_rowp hS (enc := by1) hF hv (fun _ => rfl) h0 (Nat.le_refl _) rfl h
theorem first_f {b : List Int} {i k r : Int} {t : Bool} (hb : Hu.BOk b) (hn : ilen b ≤ 1000000) (h1 : 1 ≤ k) (h2 : k ≤ 30) (hr : resI b i k = r) (ht : okI b i k = t) :
    (S0 Try.prog).call 57 [.sl 0 1 (.l 0) (.y (ilen b)) none, .i .i64 (.y i), .i .i64 (.y k)] [.r true true (.l 0) 1 (cellsB b)] (fun x _ => Sub x (.tp [.i .i64 (.y r), .b t])) := by
  obtain ⟨n, hn'⟩ : ∃ n, n = ilen b := ⟨_, rfl⟩
  rw [← hn'] at hn ⊢
  have hpl := cellsB_plain b
  generalize hF : cellsB b = F at hpl ⊢
  have h0n := ilen_nn b
  generalize hS : S0 Try.prog = S
  refine call_in' hS I.fn_octet_first ?_
  cbv
  repeat' (first
    | (refine s_st hS ?_; try cbv)
    | (refine s_sbr hS ?_ ?_ <;> intro h <;> (try cbv) <;> try exact s_ab h)
    | (refine s_sta hS ?_; intro _ _; try cbv)
    | (refine s_stc hS ?_; try cbv)
    | (refine call_in' hS I.fn_octet_bits ?_; cbv)
    | (refine rfc_in' hS I.fn_octet_bits_1 ?_; cbv))
  · have e : okI b i k = false := okI_f (.inl (by assumption))
    have e1 : r = 0 := by rw [← hr]; unfold resI; rw [e]; rfl
    have e2 : t = false := by rw [← ht, e]
    all_goals exact s_sA
  · refine s_loop_up hS 8 I.dead_octet_bits_1_0 (fun x : Int × Int × Int => i ≤ x.1 ∧ x.2.2 = k - (x.1 - i) ∧ 1 ≤ x.2.2 ∧ x.2.1 = numI b i (x.1 - i) ∧ (x.1 = i ∨ x.1 ≤ 8 * n))
      (fun _ => []) (fun x => [(1, .c [.i .i64 (.y x.2.1)]), (3, .c [.i .i64 (.y x.2.2)]), (5, .c [.i .i64 (.y x.1)])])
      (fun x => (8 * n - x.1).toNat) (i, 0, k) rfl ⟨⟨by omega, by dsimp only; omega, by dsimp only; omega, by simp [numI_zero], .inl rfl⟩, rfl, ?_, ?_, ?_⟩ ?_
    · cbv; all_goals exact s_sA
    · cbv; all_goals exact s_bA
    · cbv; exact gc_row (plains_refs hpl)
    · intro x
      obtain ⟨j, w, left⟩ := x
      intro hx
      dsimp only at hx
      cbv
      obtain ⟨g0, g1, g2, g3, g4⟩ := hx
      repeat' (first
        | (refine s_st hS ?_; try cbv)
        | (refine s_sbr hS ?_ ?_ <;> intro h <;> (try cbv) <;> try exact s_ab h)
        | (refine s_sta hS ?_; intro _ _; try cbv)
        | (refine s_stc hS ?_; try cbv)
        | (refine s_shrl hS (c := 8) rfl ?_; intro _ _; cbv))
      · obtain ⟨q, hq⟩ : ∃ q, q = j / 8 := ⟨_, rfl⟩
        obtain ⟨v, hv⟩ := at_ex (l := b) (i := q) (by omega) (by omega)
        have hb0 := hb v (List.mem_of_getElem? hv)
        refine s_draw hS rfl I.ord_octet_bits_1_0 (by decide +kernel) ?_
        cbv
        repeat' (first
          | (refine s_st hS ?_; try cbv)
          | (refine s_sbr hS ?_ ?_ <;> intro h <;> (try cbv) <;> try exact s_ab h)
          | (refine s_sta hS ?_; intro _ _; try cbv)
          | (refine s_stc hS ?_; try cbv)
          | (refine s_shrl hS (c := 8) rfl ?_; intro _ _; cbv)
          | (refine rowB hS hF hv (by omega) (by omega) ?_; try cbv)
          | (refine s_andl hS (c := 8) (m := 3) (by decide) ?_; intro _ _; cbv)
          | (refine s_andl hS (c := 2) (m := 1) (by decide) ?_; intro _ _; cbv)
          | (refine s_shr hS (by simp only [IntKind.bits]; omega) ?_; intro _ _; cbv)
          | (refine And.intro rfl ?_; try cbv))
        rename_i s1 hs1 s2 hs2 s3 hs3 u hu
        have hbit : bitI b j = u := bit_of hv hb (by omega) hq (j := s2) (by omega) (by rw [hu, hs3])
        have hw : 0 ≤ w ∧ w < 1073741824 := by rw [g3]; exact numI_bd (by omega)
        have hnx := numI_next (b := b) (i := i) (k := j - i) (by omega) (by omega) (by omega)
        rw [← g3, show i + (j - i) = j by omega, hbit] at hnx
        clear hu hs3
        have hu1 := bitI_bd b j
        rw [hbit] at hu1
        refine s_yld hS rfl rfl ?_
        cbv
        repeat' (first
          | (refine s_st hS ?_; try cbv)
          | (refine s_sbr hS ?_ ?_ <;> intro h <;> (try cbv) <;> try exact s_ab h)
          | (refine s_sta hS ?_; intro _ _; try cbv)
          | (refine s_stc hS ?_; try cbv)
          | (refine s_shll hS (c := 2) rfl ?_ (by simp only [lo]; omega) (by simp only [hi]; omega); intro _ _; cbv)
          | (refine s_orl hS (c := 2) (m := 1) rfl (by omega) (by omega) (by omega) (by omega) (by simp only [hi]; omega) ?_; intro _ _; cbv))
        · have e : okI b i k = true := okI_t (by omega) (by omega)
          have e1 : r = 2 * w + u := by rw [← hr]; unfold resI; rw [e, show k = j - i + 1 by omega]; simpa using hnx
          have e2 : t = true := by rw [← ht, e]
          all_goals exact s_sA
        · rename_i w2 hw2 l2 hl2 j2 hj2
          refine ⟨(j2, w2, l2), by dsimp only; omega, ⟨by dsimp only; omega, by dsimp only; omega, by dsimp only; omega, by dsimp only; rw [show j2 - i = j - i + 1 by omega, hnx]; omega, .inr (by dsimp only; omega)⟩, rfl, ?_, ?_, ?_⟩
          · cbv; all_goals exact s_sA
          · cbv; all_goals exact s_bA
          · cbv; exact gc_row (plains_refs hpl)
      · have e : okI b i k = false := okI_f (.inr (by omega))
        have e1 : r = 0 := by rw [← hr]; unfold resI; rw [e]; rfl
        have e2 : t = false := by rw [← ht, e]
        all_goals exact s_sA
/-- What octet.Bits tells, for a row of bytes. -/
def oBitsB (b : List Int) (i k : Int) : Bool := if k = 0 then decide (0 ≤ i) && decide (i ≤ 8 * ilen b) else if k < 0 ∨ 30 < k then false else okI b i k
def oBitsR (b : List Int) (i k : Int) : Int := if oBitsB b i k then numI b i k else 0
theorem oBits_f {b : List Int} {i k r : Int} {t : Bool} (hb : Hu.BOk b) (hn : ilen b ≤ 1000000) (hr : oBitsR b i k = r) (ht : oBitsB b i k = t) :
    (S0 Try.prog).call 45 [.sl 0 1 (.l 0) (.y (ilen b)) none, .i .i64 (.y i), .i .i64 (.y k)] [.r true true (.l 0) 1 (cellsB b)] (fun x _ => Sub x (.tp [.i .i64 (.y r), .b t])) := by
  have hc : ∀ (h1 : 1 ≤ k) (h2 : k ≤ 30) (e : t = okI b i k), (S0 Try.prog).call 57 [.sl 0 1 (.l 0) (.y (ilen b)) none, .i .i64 (.y i), .i .i64 (.y k)] [.r true true (.l 0) 1 (cellsB b)] (fun x _ => Sub x (.tp [.i .i64 (.y r), .b t])) := by
    intro h1 h2 e
    refine first_f hb hn h1 h2 ?_ e.symm
    rw [← hr]; unfold oBitsR resI; rw [ht, e]
  obtain ⟨n, hn'⟩ : ∃ n, n = ilen b := ⟨_, rfl⟩
  have h0n := ilen_nn b
  rw [← hn'] at hn h0n hc ⊢
  have hpl := cellsB_plain b
  generalize hF : cellsB b = F at hpl hc ⊢
  generalize hS : S0 Try.prog = S
  refine call_in' hS I.fn_octet_Bits ?_
  cbv
  repeat' (first
    | (refine s_st hS ?_; try cbv)
    | (refine s_sbr hS ?_ ?_ <;> intro h <;> (try cbv) <;> try exact s_ab h)
    | (refine s_sta hS ?_; intro _ _; try cbv)
    | (refine s_stc hS ?_; try cbv)
    | (refine s_mul hS ?_ (by simp only [lo]; omega) (by simp only [hi]; omega); intro _ _; try cbv))
  · rename_i h0 _ e
    have e1 : r = 0 := by rw [← hr]; unfold oBitsR; rw [h0, numI_zero]; simp
    have e2 : t = decide (i ≤ 8 * n) := by rw [← ht]; unfold oBitsB; rw [h0, ← hn']; simp [h]
    refine sub_tp (.cons (sub_i (by simp only [Z.v]; omega)) (.cons (sub_b ?_) .nil))
    simp only [← hS, Int.ofNat_eq_natCast, cq, Bool.not_eq_true', Bool.not_eq_false', decide_eq_true_eq, decide_eq_false_iff_not, beq_iff_eq, beq_eq_false_iff_ne, ne_eq]
    rw [e2, e]
  · have e2 : t = false := by rw [← ht]; unfold oBitsB; simp [*]
    have e1 : r = 0 := by rw [← hr]; unfold oBitsR; rw [ht, e2]; rfl
    all_goals exact s_sA
  · have e2 : t = false := by rw [← ht]; unfold oBitsB; simp [*]
    have e1 : r = 0 := by rw [← hr]; unfold oBitsR; rw [ht, e2]; rfl
    all_goals exact s_sA
  · have e2 : t = false := by rw [← ht]; unfold oBitsB; rw [if_neg (by omega), if_pos (by omega)]
    have e1 : r = 0 := by rw [← hr]; unfold oBitsR; rw [ht, e2]; rfl
    all_goals exact s_sA
  · have e2 : t = okI b i k := by rw [← ht]; unfold oBitsB; rw [if_neg (by omega), if_neg (by omega)]
    refine use_read hS id (hc (by omega) (by omega) e2) .rfl rfl ?_ rfl ?_
    · exact ⟨⟨true, .l 0, 1, F, true, true, .l 0, F, rfl, hpl, rfl, .rfl⟩, trivial⟩
    · cbv; all_goals exact s_sA
end Cz
/- Huff, part G: how many bits a text has. -/
namespace Cz
open Go Go.RowKit Go.Proofs
set_option linter.unusedSimpArgs false
set_option linter.unusedVariables false
set_option maxRecDepth 100000
set_option maxHeartbeats 4000000
/-- How many bits the first bytes have. -/
def bitsI (b : List Int) (k : Int) : Int := Hu.nbits (b.take k.toNat)
theorem zs_len {Zs : List SV} (h : repS 512 [SV.i .i64 (.l 0)] = Zs) : Zs.length = 512 := by rw [← h, repS_one, List.length_replicate]
theorem codeLit_plain {T : List SV} (h : codeLit = T) : plains T = true := by rw [← h, ← codeLit_eq]; exact upto_plain 256
theorem gc_c {x y : Bool} : x = true → y = true → (match x with | false => false | true => y) = true := by intro hx hy; subst hx; exact hy
theorem gc_m {F : List SV} {ok : Nat → Bool} : refsBL ok F = true → (match F with | [] => true | x :: xs => refsB ok x && refsBL ok xs) = true := by
  intro h
  cases F with
  | nil => rfl
  | cons x xs => simpa only [refsBL] using h
theorem code_at {c j : Nat} (h : c < 256) (hj : j + 1 ≤ 2) : ((upto 256).drop (c * 2 + j)).take 1 = ((cellC c).drop j).take 1 := by
  have e : upto 256 = (List.range 256).flatMap cellC := by simp [upto]
  rw [e]
  exact flat_at (enc := cellC) (sz := 2) (fun _ => rfl) (l := List.range 256) (i := c) (a := c) (by simp [h]) j 1 hj
/-- How many bits a byte's code has, read; its code, read. -/
theorem code_rd1 {S : Sy} (hS : S0 Try.prog = S) {T : List SV} (hT : codeLit = T) {c : Int} {K : SV → Prop} (h0 : 0 ≤ c) (h : c < 256) {m : Int} (hm : clsI c = m)
    (h1 : K (.i .i64 (.y m))) : S.rd T c 2 1 1 false K := by
  subst hT hm
  rw [← codeLit_eq]
  refine s_rd hS h0 (by rw [upto_len (Nat.le_refl _)]; omega) (Nat.le_refl _) (v := .i .i64 (.y (clsI c))) ?_ h1
  rw [code_at (by omega) (by omega)]
  rfl
theorem code_rd0 {S : Sy} (hS : S0 Try.prog = S) {T : List SV} (hT : codeLit = T) {c : Int} {K : SV → Prop} (h0 : 0 ≤ c) (h : c < 256) {m : Int} (hm : codeI c = m)
    (h1 : K (.i .i64 (.y m))) : S.rd T c 2 0 1 false K := by
  subst hT hm
  rw [← codeLit_eq]
  refine s_rd hS h0 (by rw [upto_len (Nat.le_refl _)]; omega) (by omega) (v := .i .i64 (.y (codeI c))) ?_ h1
  rw [code_at (by omega) (by omega)]
  rfl
theorem clsI_bd (c : Int) : 5 ≤ clsI c ∧ clsI c ≤ 11 := by
  unfold clsI
  rcases Hu.cls_cases c.toNat with h | h | h | h <;> rw [h] <;> decide
theorem bitsI_next {b : List Int} {j v : Int} (hv : b[j.toNat]? = some v) (h0 : 0 ≤ j) : bitsI b (j + 1) = bitsI b j + clsI v := by
  unfold bitsI Hu.nbits Hu.enc clsI
  rw [take_next hv h0, List.flatMap_append, List.length_append]
  simp [Hu.cod, Hu.bitsN_len]
theorem bitsI_bd {b : List Int} {j : Int} (h0 : 0 ≤ j) : 0 ≤ bitsI b j ∧ bitsI b j ≤ 11 * j := by
  unfold bitsI Hu.nbits Hu.enc
  have h1 : ∀ (l : List Int), (l.flatMap fun v => Hu.cod v.toNat).length ≤ 11 * l.length := by
    intro l
    induction l with
    | nil => simp
    | cons v l ih =>
      have := clsI_bd v
      unfold clsI at this
      simp only [List.flatMap_cons, List.length_append, List.length_cons, Hu.cod, Hu.bitsN_len] at ih ⊢
      omega
  have h2 := h1 (b.take j.toNat)
  have h3 : (b.take j.toNat).length ≤ j.toNat := by rw [List.length_take]; omega
  omega
theorem Bits_f {b : List Int} {r : Int} (hb : Hu.BOk b) (hn : ilen b ≤ 1000000) (hr : bitsI b (ilen b) = r) :
    (S0 Try.prog).call 19 [.sl 0 1 (.l 0) (.y (ilen b)) none] [.r true true (.l 0) 1 (cellsB b)] (fun x _ => Sub x (.i .i64 (.y r))) := by
  obtain ⟨n, hn'⟩ : ∃ n, n = ilen b := ⟨_, rfl⟩
  have h0n := ilen_nn b
  rw [← hn'] at hn h0n hr ⊢
  have hpl := cellsB_plain b
  generalize hF : cellsB b = F at hpl ⊢
  have hc := codes_f
  generalize hT : codeLit = T at hc
  have hTl := codeLit_len hT
  generalize hS : S0 Try.prog = S
  refine call_in' hS I.fn_huff_Bits ?_
  unfold I.huff_Bits
  generalize hZ : repS 512 [SV.i .i64 (.l 0)] = Zs
  have hZn := zs_len hZ
  have hTn : T.length = 512 := by rw [← lenS_eq]; exact hTl
  have hTp := codeLit_plain hT
  cbv
  refine use_val hS hc .rfl rfl (by rw [← hT]; rfl) ?_
  cbv
  refine s_chk hS (by subst hS; simp only [flen_eq, cmp_eq, hTn]; rfl) ?_
  refine s_all hS hZn hTn hTp ?_
  cbv
  refine s_loop_up hS 2 I.dead_huff_Bits_0 (fun x : Int × Int => 0 ≤ x.1 ∧ x.1 ≤ n ∧ x.2 = bitsI b x.1)
    (fun x => [(9, .i .i64 (.y x.1)), (2, .i .i64 (.y x.2))]) (fun x => [])
    (fun x => (n - x.1).toNat) (0, 0) rfl ⟨⟨Int.le_refl _, by dsimp only; omega, rfl⟩, rfl, ?_, ?_, ?_⟩ ?_
  · cbv; all_goals exact s_sA
  · cbv; all_goals exact s_bA
  · cbv; exact gc_c (gc_m (plains_refs hpl)) (gc_c (gc_m (plains_refs hTp)) rfl)
  · intro x
    obtain ⟨j, w⟩ := x
    intro hx
    dsimp only at hx
    cbv
    obtain ⟨g0, g1, g2⟩ := hx
    repeat' (first
      | (refine s_st hS ?_; try cbv)
      | (refine s_sbr hS ?_ ?_ <;> intro h <;> (try cbv) <;> try exact s_ab h)
      | (refine s_sta hS ?_; intro _ _; try cbv)
      | (refine s_stc hS ?_; try cbv))
    · obtain ⟨v, hv⟩ := at_ex (l := b) (i := j) (by omega) (by omega)
      have hb0 := hb v (List.mem_of_getElem? hv)
      obtain ⟨m, hm⟩ : ∃ m, clsI v = m := ⟨_, rfl⟩
      have hmb := clsI_bd v
      rw [hm] at hmb
      have hbd := bitsI_bd (b := b) g0
      have hnx := bitsI_next hv g0
      rw [hm] at hnx
      repeat' (first
        | (refine s_st hS ?_; try cbv)
        | (refine s_sbr hS ?_ ?_ <;> intro h <;> (try cbv) <;> try exact s_ab h)
        | (refine s_sta hS ?_; intro _ _; try cbv)
        | (refine s_stc hS ?_; try cbv)
        | (refine rowB hS hF hv rfl (by omega) ?_; try cbv)
        | (refine ite_ok (lenS_m hTl) ?_; cbv)
        | (refine code_rd1 hS hT hb0.1 hb0.2 hm ?_; cbv))
      rename_i w2 hw2 j2 hj2
      refine ⟨(j2, w2), by dsimp only; omega, ⟨by dsimp only; omega, by dsimp only; omega, by dsimp only; rw [hj2, hnx]; omega⟩, rfl, ?_, ?_, ?_⟩
      · cbv; all_goals exact s_sA
      · cbv; all_goals exact s_bA
      · cbv; exact gc_c (gc_m (plains_refs hpl)) (gc_c (gc_m (plains_refs hTp)) rfl)
    · have e : w = r := by rw [← hr, g2, show j = n by omega]
      all_goals exact s_sA
end Cz
/- Huff, part H: a text in bits, bit by bit (no program in sight). -/
namespace Cz
open Go Go.RowKit Go.Proofs
set_option linter.unusedSimpArgs false
set_option linter.unusedVariables false
set_option maxRecDepth 100000
set_option maxHeartbeats 4000000
def encT (b : List Int) (j : Int) : List Bool := Hu.enc (b.take j.toNat)
def outI (b : List Int) (j q : Int) : List Int := Hu.packs q.toNat (encT b j)
def rowI (b : List Int) (j q : Int) : Int := Hu.valB ((encT b j).drop (8 * q.toNat))
theorem encT_len (b : List Int) (j : Int) : ((encT b j).length : Int) = bitsI b j := rfl
theorem encT_next {b : List Int} {j v : Int} (hv : b[j.toNat]? = some v) (h0 : 0 ≤ j) : encT b (j + 1) = encT b j ++ Hu.cod v.toNat := by
  unfold encT Hu.enc
  rw [take_next hv h0, List.flatMap_append]
  simp
theorem packs_snoc : ∀ (q : Nat) (E : List Bool), Hu.packs (q + 1) E = Hu.packs q E ++ [(Hu.valB ((E.drop (8 * q)).take 8) : Int)]
  | 0, E => by simp [Hu.packs]
  | q + 1, E => by
    rw [Hu.packs, packs_snoc q (E.drop 8), Hu.packs, List.drop_drop, show 8 + 8 * q = 8 * (q + 1) by omega]
    rfl
theorem packs_pre : ∀ (q : Nat) (E D : List Bool), 8 * q ≤ E.length → Hu.packs q (E ++ D) = Hu.packs q E
  | 0, _, _, _ => rfl
  | q + 1, E, D, h => by
    rw [Hu.packs, Hu.packs, List.take_append_of_le_length (by omega), List.drop_append_of_le_length (by omega), packs_pre q _ _ (by simp; omega)]
theorem pow_cast (k : Nat) : ((2 ^ k : Nat) : Int) = (2 : Int) ^ k := by norm_cast
theorem row_next {b : List Int} {j q v : Int} (hv : b[j.toNat]? = some v) (h0 : 0 ≤ j) (hq : 0 ≤ q) (h : 8 * q ≤ bitsI b j) (hb : 0 ≤ v ∧ v < 256) :
    rowI b (j + 1) q = rowI b j q * 2 ^ (clsI v).toNat + codeI v := by
  unfold rowI
  rw [encT_next hv h0, List.drop_append_of_le_length (by rw [← encT_len] at h; omega), Hu.valB_append]
  unfold clsI codeI Hu.cod
  rw [Hu.bitsN_len, Hu.valB_bitsN _ _ (Hu.code_lt (by omega))]
  push_cast
  simp
theorem out_next {b : List Int} {j q v : Int} (hv : b[j.toNat]? = some v) (h0 : 0 ≤ j) (hq : 0 ≤ q) (h : 8 * q ≤ bitsI b j) : outI b (j + 1) q = outI b j q := by
  unfold outI
  rw [encT_next hv h0, packs_pre _ _ _ (by rw [← encT_len] at h; omega)]
theorem valB_mod (A B : List Bool) : Hu.valB (A ++ B) % 2 ^ B.length = Hu.valB B := by
  rw [Hu.valB_append, Nat.add_comm, Nat.add_mul_mod_self_right, Nat.mod_eq_of_lt (Hu.valB_lt B)]
theorem valB_div (A B : List Bool) : Hu.valB (A ++ B) / 2 ^ B.length = Hu.valB A := by
  rw [Hu.valB_append, Nat.add_comm, Nat.add_mul_div_right _ _ (Nat.two_pow_pos _), Nat.div_eq_of_lt (Hu.valB_lt B), Nat.zero_add]
theorem row_mask {b : List Int} {j q q0 : Int} (hq0 : 0 ≤ q0) (hq : q0 ≤ q) (h : 8 * q ≤ bitsI b j) : rowI b j q0 % 2 ^ (bitsI b j - 8 * q).toNat = rowI b j q := by
  unfold rowI
  rw [← encT_len] at h ⊢
  generalize encT b j = E at h ⊢
  have e : E.drop (8 * q0.toNat) = (E.drop (8 * q0.toNat)).take (8 * (q.toNat - q0.toNat)) ++ E.drop (8 * q.toNat) := by
    conv => lhs; rw [← List.take_append_drop (8 * (q.toNat - q0.toNat)) (E.drop (8 * q0.toNat))]
    rw [List.drop_drop, show 8 * q0.toNat + 8 * (q.toNat - q0.toNat) = 8 * q.toNat by omega]
  have hl : ((E.length : Int) - 8 * q).toNat = (E.drop (8 * q.toNat)).length := by rw [List.length_drop]; omega
  rw [hl, ← pow_cast, ← Int.natCast_emod]
  rw [e, valB_mod]
theorem row_bd {b : List Int} {j q : Int} (hq : 0 ≤ q) (h : 8 * q ≤ bitsI b j) : 0 ≤ rowI b j q ∧ rowI b j q < 2 ^ (bitsI b j - 8 * q).toNat := by
  unfold rowI
  rw [← encT_len] at h ⊢
  have h1 := Hu.valB_lt ((encT b j).drop (8 * q.toNat))
  rw [List.length_drop, show (encT b j).length - 8 * q.toNat = (((encT b j).length : Int) - 8 * q).toNat by omega] at h1
  rw [← pow_cast]
  omega
theorem out_more {b : List Int} {j q q0 r s u x : Int} (hq0 : 0 ≤ q0) (hq : q0 ≤ q) (h : 8 * (q + 1) ≤ bitsI b j) (hr : rowI b j q0 = r) (hu : u = bitsI b j - 8 * (q + 1)) (hs : s = r / 2 ^ u.toNat) (hx : x = s % 256) :
    outI b j (q + 1) = outI b j q ++ [x] := by
  unfold outI
  rw [show (q + 1).toNat = q.toNat + 1 by omega, packs_snoc]
  congr 2
  rw [hx, hs, ← hr, hu]
  unfold rowI
  rw [← encT_len] at h ⊢
  generalize encT b j = E at h ⊢
  have e1 : E.drop (8 * q0.toNat) = (E.drop (8 * q0.toNat)).take (8 * (q.toNat - q0.toNat)) ++ ((E.drop (8 * q.toNat)).take 8 ++ E.drop (8 * (q.toNat + 1))) := by
    have e2 : E.drop (8 * q.toNat) = (E.drop (8 * q.toNat)).take 8 ++ E.drop (8 * (q.toNat + 1)) := by
      conv => lhs; rw [← List.take_append_drop 8 (E.drop (8 * q.toNat))]
      rw [List.drop_drop, show 8 * q.toNat + 8 = 8 * (q.toNat + 1) by omega]
    rw [← e2]
    conv => lhs; rw [← List.take_append_drop (8 * (q.toNat - q0.toNat)) (E.drop (8 * q0.toNat))]
    rw [List.drop_drop, show 8 * q0.toNat + 8 * (q.toNat - q0.toNat) = 8 * q.toNat by omega]
  have hl : ((E.length : Int) - 8 * (q + 1)).toNat = (E.drop (8 * (q.toNat + 1))).length := by rw [List.length_drop]; omega
  rw [hl, e1, ← List.append_assoc, ← pow_cast, ← Int.natCast_ediv, valB_div]
  have h8 : ((E.drop (8 * q.toNat)).take 8).length = 8 := by rw [List.length_take, List.length_drop]; omega
  have := valB_mod ((E.drop (8 * q0.toNat)).take (8 * (q.toNat - q0.toNat))) ((E.drop (8 * q.toNat)).take 8)
  rw [h8] at this
  rw [← this]
  rfl
theorem put_end0 {b : List Int} {n q : Int} (hn : n = ilen b) (hq : 0 ≤ q) (h : bitsI b n = 8 * q) : Hu.put b = outI b n q := by
  have e : encT b n = Hu.enc b := by unfold encT; rw [take_all (by omega)]
  have hl := encT_len b n
  rw [h, e] at hl
  unfold outI Hu.put Hu.pack
  rw [e]
  have : Hu.padded (Hu.enc b) = Hu.enc b := by unfold Hu.padded Hu.pad; rw [show (8 - (Hu.enc b).length % 8) % 8 = 0 by omega]; simp
  rw [this, show (Hu.enc b).length / 8 = q.toNat by omega]
theorem put_end1 {b : List Int} {n q w u x : Int} (hn : n = ilen b) (hq : 0 ≤ q) (hu : u = 8 - (bitsI b n - 8 * q)) (h1 : 0 < bitsI b n - 8 * q) (h2 : bitsI b n - 8 * q < 8) (hr : rowI b n q = w)
    (hx : x = w * 2 ^ u.toNat + (2 ^ u.toNat - 1)) : Hu.put b = outI b n q ++ [x] := by
  have e : encT b n = Hu.enc b := by unfold encT; rw [take_all (by omega)]
  have hl := encT_len b n
  rw [e] at hl
  unfold rowI at hr
  unfold outI Hu.put Hu.pack
  rw [Hu.padded_len, e]
  rw [e] at hr
  rw [show 8 * (((Hu.enc b).length + 7) / 8) / 8 = q.toNat + 1 by omega, packs_snoc]
  have hp : Hu.pad (Hu.enc b).length = u.toNat := by unfold Hu.pad; omega
  have e1 : Hu.packs q.toNat (Hu.padded (Hu.enc b)) = Hu.packs q.toNat (Hu.enc b) := by unfold Hu.padded; rw [packs_pre _ _ _ (by omega)]
  rw [e1]
  congr 2
  unfold Hu.padded
  rw [hp, List.drop_append_of_le_length (by omega), List.take_of_length_le (by simp; omega), Hu.valB_append, List.length_replicate, Hu.valB_ones, hx, ← hr]
  have := Nat.two_pow_pos u.toNat
  rw [← pow_cast, Int.natCast_add, Int.natCast_mul, Int.natCast_sub (by omega)]
  rfl
theorem out_len (b : List Int) (j q : Int) (hq : 0 ≤ q) : ilen (outI b j q) = q := by unfold ilen outI; rw [Hu.packs_len]; omega
end Cz
/- Huff, part I: a text in bits. -/
namespace Cz
open Go Go.RowKit Go.Proofs
set_option linter.unusedSimpArgs false
set_option linter.unusedVariables false
set_option maxRecDepth 100000
set_option maxHeartbeats 4000000
theorem s_cv8 {S : Sy} {P : Program} {a : Int} {K : Int → Prop} (hS : S0 P = S) (h : ∀ r, r = a % 256 → K r) : S.cv .u8 a K := by
  refine s_cve hS _ ?_ (h _ rfl)
  simp [IntKind.wrap, IntKind.bits, IntKind.signed]
/-- A row, and one byte more. -/
theorem subB_app {S : Sy} (hS : S0 Try.prog = S) {l l' : List Int} {F G : List SV} {x st' : Int} {ro lit : Bool} {st : Z} (hF : cellsB l = F) (hG : cellsB l' = G) (hl : l' = l ++ [x]) (hst : st.v = st') :
    SubB (.r ro lit st 1 (S.app F [.i .u8 (.y x)])) (.r ro false (.y st') 1 G) := by
  subst hS hF hG hl
  refine .r ?_ hst (cellsB_plain _)
  rw [app_eq]
  have : cellsB l ++ [SV.i .u8 (.y x)] = cellsB (l ++ [x]) := by unfold cellsB; rw [List.flatMap_append]; rfl
  rw [this]
  exact .rfl
theorem s_flen {S : Sy} (hS : S0 Try.prog = S) {q : Int} {sz : Nat} {G : List SV} {k : Unit → Prop} (h : ilen G = q * sz) (hk : k ()) : S.chk (S.cmp .eq (S.sc q sz) (S.flen G)) k := by
  subst hS
  refine s_chk rfl ?_ hk
  rw [cmp_eq, sc_eq, flen_eq]
  unfold ilen at h
  exact decide_eq_true h.symm
theorem cellsB_len (l : List Int) : ilen (cellsB l) = ilen l := by rw [cellsB_map]; simp [ilen]
theorem rowIs_app {S : Sy} (hS : S0 Try.prog = S) {n0 k : Nat} {l L : List Int} {F G : List SV} {x : Int} {lit : Bool} {st nn : Z} {l' : List Blk} (hF : cellsB l = F) (hG : cellsB L = G) (hl : L = l ++ [x]) (hk : n0 ≤ k)
    (hn : nn.v = ilen l + 1) (hB : l'[k]? = some (.r false lit st 1 (S.app F [.i .u8 (.y x)]))) : RowIs n0 1 G (.sl k 1 (.l 0) nn none) l' := by
  subst hS hF hG hl
  have e : (S0 Try.prog).app (cellsB l) [SV.i .u8 (.y x)] = cellsB (l ++ [x]) := by rw [app_eq]; unfold cellsB; rw [List.flatMap_append]; rfl
  rw [e] at hB
  refine .inr ⟨k, nn, lit, st, _, hk, rfl, hB, .rfl, cellsB_plain _, ?_⟩
  have := cellsB_len (l ++ [x])
  unfold ilen at this hn
  rw [this, hn]
  simp
theorem rowIs_same {n0 k : Nat} {l : List Int} {G : List SV} {lit : Bool} {st nn : Z} {l' : List Blk} (hG : cellsB l = G) (hk : n0 ≤ k)
    (hn : nn.v = ilen l) (hB : l'[k]? = some (.r false lit st 1 G)) : RowIs n0 1 G (.sl k 1 (.l 0) nn none) l' := by
  subst hG
  refine .inr ⟨k, nn, lit, st, _, hk, rfl, hB, .rfl, cellsB_plain _, ?_⟩
  have := cellsB_len l
  unfold ilen at this hn
  rw [this, hn]
  simp
theorem codeI_bd {v : Int} (h : 0 ≤ v ∧ v < 256) : 0 ≤ codeI v ∧ codeI v < 2 ^ (clsI v).toNat ∧ codeI v < 2048 := by
  have h1 := Hu.code_lt (c := v.toNat) (by omega)
  have h2 : (2 : Nat) ^ Hu.cls v.toNat ≤ 2 ^ 11 := Nat.pow_le_pow_right (by omega) (by rcases Hu.cls_cases v.toNat with h | h | h | h <;> omega)
  unfold codeI clsI
  rw [Int.toNat_natCast, ← pow_cast]
  omega
theorem row_bd' {b : List Int} {j q : Int} (hq : 0 ≤ q) (h : 8 * q ≤ bitsI b j) {k : Nat} (hk : bitsI b j - 8 * q ≤ k) : 0 ≤ rowI b j q ∧ rowI b j q < 2 ^ k := by
  have h1 := row_bd hq h
  have h2 := pow_le (m := (bitsI b j - 8 * q).toNat) (n := k) (by omega)
  omega
theorem put_f {b : List Int} (hb : Hu.BOk b) (hn : ilen b ≤ 1000000) :
    (S0 Try.prog).call 22 [.sl 0 1 (.l 0) (.y (ilen b)) none] [.r true true (.l 0) 1 (cellsB b)] (OwnR 1 1 (cellsB (Hu.put b)) false []) := by
  obtain ⟨n, hn'⟩ : ∃ n, n = ilen b := ⟨_, rfl⟩
  have h0n := ilen_nn b
  rw [← hn'] at hn h0n ⊢
  have hpl := cellsB_plain b
  generalize hF : cellsB b = F at hpl ⊢
  have hc := codes_f
  generalize hT : codeLit = T at hc
  have hTl := codeLit_len hT
  have hTn : T.length = 512 := by rw [← lenS_eq]; exact hTl
  have hTp := codeLit_plain hT
  generalize hP : cellsB (Hu.put b) = P
  generalize hS : S0 Try.prog = S
  refine call_in' hS I.fn_huff_Put ?_
  unfold I.huff_Put
  generalize hZ : repS 512 [SV.i .i64 (.l 0)] = Zs
  have hZn := zs_len hZ
  cbv
  refine use_val hS hc .rfl rfl (by rw [← hT]; rfl) ?_
  cbv
  refine s_chk hS (by subst hS; simp only [flen_eq, cmp_eq, hTn]; rfl) ?_
  refine s_all hS hZn hTn hTp ?_
  cbv
  refine s_loop_nil hS 2 1 (by omega) rfl ?_
  cbv
  refine s_loop_up hS 3 I.dead_huff_Put_0 (fun x : Int × Int × Int × Int × Int × List SV => 0 ≤ x.1 ∧ x.1 ≤ n ∧ 0 ≤ x.2.2.2.1 ∧ x.2.1 = bitsI b x.1 - 8 * x.2.2.2.1 ∧ 0 ≤ x.2.1 ∧ x.2.1 < 8 ∧ x.2.2.1 = rowI b x.1 x.2.2.2.1 ∧ x.2.2.2.2.2 = cellsB (outI b x.1 x.2.2.2.1))
    (fun x => [(12, .i .i64 (.y x.1)), (4, .i .i64 (.y x.2.1)), (3, .i .u64 (.y x.2.2.1)), (2, .sl 2 1 (.l 0) (.y x.2.2.2.1) none)]) (fun x => [(2, .r false false (.y x.2.2.2.2.1) 1 x.2.2.2.2.2)])
    (fun x => (n - x.1).toNat) (0, 0, 0, 0, 0, []) rfl ⟨⟨Int.le_refl _, by dsimp only; omega, by dsimp only; omega, rfl, by dsimp only; omega, by dsimp only; omega, rfl, rfl⟩, rfl, ?_, ?_, ?_⟩ ?_
  · cbv; (repeat' (first | exact sub_any | exact Sub.rfl | exact SubL.nil | refine SubL.cons ?_ ?_ | exact sub_i rfl | exact sub_sl rfl rfl))
  · cbv; refine ⟨.rfl, .rfl, .r .rfl rfl rfl, trivial⟩
  · cbv; exact gc_c (gc_m (plains_refs hpl)) (gc_c (gc_m (plains_refs hTp)) rfl)
  · intro x
    obtain ⟨j, u, w, q, st, G⟩ := x
    intro hx
    dsimp only at hx
    cbv
    obtain ⟨g0, g1, g2, g3, g4, g5, g6, g7⟩ := hx
    refine s_sbr hS ?_ ?_ <;> intro h <;> cbv
    · obtain ⟨v, hv⟩ := at_ex (l := b) (i := j) (by omega) (by omega)
      have hb0 := hb v (List.mem_of_getElem? hv)
      obtain ⟨m, hm⟩ : ∃ m, clsI v = m := ⟨_, rfl⟩
      obtain ⟨c, hcv⟩ : ∃ c, codeI v = c := ⟨_, rfl⟩
      have hmb := clsI_bd v
      rw [hm] at hmb
      have hbd := bitsI_bd (b := b) g0
      have hnx := bitsI_next hv g0
      rw [hm] at hnx
      repeat' (first
        | (refine s_st hS ?_; try cbv)
        | (refine s_sbr hS ?_ ?_ <;> intro h <;> (try cbv) <;> try exact s_ab h)
        | (refine s_sta hS ?_; intro _ _; try cbv)
        | (refine s_stc hS ?_; try cbv)
        | (refine rowB hS hF hv rfl (by omega) ?_; try cbv))
      have hcb := codeI_bd hb0
      rw [hcv, hm] at hcb
      have hW := row_next hv g0 g2 (by omega) hb0
      rw [hm, hcv, ← g6] at hW
      have hWb := row_bd' (b := b) (j := j + 1) (q := q) g2 (by omega) (k := 18) (by omega)
      obtain ⟨p, hp⟩ : ∃ p : Int, 2 ^ m.toNat = p := ⟨_, rfl⟩
      rw [hp] at hW hcb
      obtain ⟨W, hWe⟩ : ∃ W, rowI b (j + 1) q = W := ⟨_, rfl⟩
      rw [hWe] at hW hWb
      have hw0 := (row_bd (b := b) (j := j) (q := q) g2 (by omega)).1
      rw [← g6] at hw0
      have hwp : 0 ≤ w * p := Int.mul_nonneg hw0 (by omega)
      refine s_draw hS rfl I.ord_huff_Put_0 (by decide +kernel) ?_
      cbv
      repeat' (first
        | (refine s_st hS ?_; try cbv)
        | (refine s_sbr hS ?_ ?_ <;> intro h <;> (try cbv) <;> try exact s_ab h)
        | (refine s_sta hS ?_; intro _ _; try cbv)
        | (refine s_stc hS ?_; try cbv)
        | (refine rowB hS hF hv rfl (by omega) ?_; try cbv)
        | (refine ite_ok (lenS_m hTl) ?_; cbv)
        | (refine code_rd1 hS hT hb0.1 hb0.2 hm ?_; cbv)
        | (refine code_rd0 hS hT hb0.1 hb0.2 hcv ?_; cbv)
        | (refine And.intro rfl ?_; try cbv)
        | (refine s_shll hS (c := p) (by rw [← hp]; congr 1; simp only [IntKind.bits]; omega) ?_ (by simp only [lo]; omega) (by simp only [hi]; omega); intro _ _; cbv)
        | (refine s_orl hS hp (by omega) (by simp only [*]; exact Int.mul_emod_left _ _) (by omega) (by omega) (by simp only [hi]; omega) ?_; intro _ _; cbv))
      rename_i r1 hr1 r2 hr2 u1 hu1
      obtain ⟨j1, h_j1⟩ : ∃ j1, j1 = j + 1 := ⟨_, rfl⟩
      rw [← h_j1] at hnx hWe
      have hout : G = cellsB (outI b j1 q) := by rw [g7, h_j1, out_next hv g0 g2 (by omega)]
      have hr2W : rowI b j1 q = r2 := by rw [hWe]; omega
      clear hp hwp hr1 hr2 hW hWe hcb
      refine s_loop_up hS 3 I.dead_huff_Put_1 (fun x : Int × Int × Int × List SV => q ≤ x.2.1 ∧ x.1 = bitsI b j1 - 8 * x.2.1 ∧ 0 ≤ x.1 ∧ x.1 ≤ 18 ∧ x.2.2.2 = cellsB (outI b j1 x.2.1))
        (fun x => [(4, .i .i64 (.y x.1)), (2, .sl 2 1 (.l 0) (.y x.2.1) none)]) (fun x => [(2, .r false false (.y x.2.2.1) 1 x.2.2.2)])
        (fun x => x.1.toNat) (u1, q, st, G) rfl ⟨⟨by dsimp only; omega, by dsimp only; omega, by dsimp only; omega, by dsimp only; omega, hout⟩, rfl, ?_, ?_, ?_⟩ ?_
      · cbv; all_goals exact s_sA
      · cbv; all_goals exact s_bA
      · cbv; exact gc_c (gc_m (plains_refs hpl)) (gc_c (gc_m (plains_refs hTp)) rfl)
      · intro x
        obtain ⟨y, q1, st1, G1⟩ := x
        intro hx
        dsimp only at hx
        cbv
        obtain ⟨k0, k1, k2, k3, k4⟩ := hx
        refine s_sbr hS ?_ ?_ <;> intro h <;> cbv
        · have hG1 : ilen G1 = q1 := by rw [k4, cellsB_len, out_len _ _ _ (by omega)]
          repeat' (first
            | (refine s_st hS ?_; try cbv)
            | (refine s_sbr hS ?_ ?_ <;> intro h <;> (try cbv) <;> try exact s_ab h)
            | (refine s_sta hS ?_; intro _ _; try cbv)
            | (refine s_stc hS ?_; try cbv)
            | (refine s_shr hS (by simp only [IntKind.bits]; omega) ?_; intro _ _; cbv)
            | (refine s_cv8 hS ?_; intro _ _; cbv))
          refine s_flen hS (by rw [hG1]; omega) ?_
          cbv
          repeat' (first
            | (refine s_st hS ?_; try cbv)
            | (refine s_sbr hS ?_ ?_ <;> intro h <;> (try cbv) <;> try exact s_ab h)
            | (refine s_sta hS ?_; intro _ _; try cbv)
            | (refine s_stc hS ?_; try cbv))
          rename_i y2 hy2 s2 hs2 x2 hx2
          obtain ⟨q2, h_q2⟩ : ∃ q2, q2 = q1 + 1 := ⟨_, rfl⟩
          obtain ⟨st2, h_st2⟩ : ∃ st2, st2 = S.flen G1 := ⟨_, rfl⟩
          obtain ⟨G2, h_G2⟩ : ∃ G2, G2 = cellsB (outI b j1 q2) := ⟨_, rfl⟩
          refine ⟨(y2, q2, st2, G2), by dsimp only; omega, ⟨by dsimp only; omega, by dsimp only; omega, by dsimp only; omega, by dsimp only; omega, h_G2⟩, rfl, ?_, ?_, ?_⟩
          · cbv; (repeat' (first | exact sub_any | exact Sub.rfl | exact SubL.nil | refine SubL.cons ?_ ?_ | exact sub_i rfl | (refine sub_sl rfl ?_; simp only [Z.v, ← hS, Int.ofNat_eq_natCast, cq, Bool.not_eq_true', Bool.not_eq_false', decide_eq_true_eq, decide_eq_false_iff_not, beq_iff_eq, beq_eq_false_iff_ne, ne_eq]; omega)))
          · cbv
            refine ⟨.rfl, .rfl, subB_app hS k4.symm h_G2.symm ?_ h_st2.symm, trivial⟩
            rw [h_q2]
            exact out_more g2 k0 (by omega) hr2W (by omega) hs2 hx2
          · cbv; exact gc_c (gc_m (plains_refs hpl)) (gc_c (gc_m (plains_refs hTp)) rfl)
        · obtain ⟨p, hp⟩ : ∃ p : Int, 2 ^ y.toNat = p := ⟨_, rfl⟩
          have hp1 : p < 512 := by
            have := pow_le (m := y.toNat) (n := 8) (by omega)
            rw [hp] at this
            omega
          have hp0 : 0 < p := by rw [← hp]; exact pow_pos' _
          repeat' (first
            | (refine s_st hS ?_; try cbv)
            | (refine s_sbr hS ?_ ?_ <;> intro h <;> (try cbv) <;> try exact s_ab h)
            | (refine s_sta hS ?_; intro _ _; try cbv)
            | (refine s_stc hS ?_; try cbv)
            | (refine s_shll hS (c := p) (by rw [← hp]; congr 1; simp only [IntKind.bits]; omega) ?_ (by simp only [lo]; omega) (by simp only [hi]; omega); intro _ _; cbv)
            | (refine s_andl hS (c := p) (m := y.toNat) ⟨by omega, hp, by simp only [IntKind.bits]; omega⟩ ?_; intro _ _; cbv))
          rename_i s1 hs1 s2 hs2 w3 hw3 j3 hj3
          have hw3' : w3 = rowI b j1 q1 := by rw [hw3, ← hp, ← hr2W, k1, row_mask g2 k0 (by omega)]
          refine ⟨(j3, y, w3, q1, st1, G1), by dsimp only; omega, ⟨by dsimp only; omega, by dsimp only; omega, by dsimp only; omega, ?_, by dsimp only; omega, by dsimp only; omega, ?_, ?_⟩, rfl, ?_, ?_, ?_⟩
          · dsimp only; rw [k1, hj3, ← h_j1]
          · dsimp only; rw [hw3', hj3, ← h_j1]
          · dsimp only; rw [k4, hj3, ← h_j1]
          · cbv; all_goals exact s_sA
          · cbv; all_goals exact s_bA
          · cbv; exact gc_c (gc_m (plains_refs hpl)) (gc_c (gc_m (plains_refs hTp)) rfl)
    · have hG : ilen G = q := by rw [g7, cellsB_len, out_len _ _ _ (by omega)]
      obtain ⟨p, hp⟩ : ∃ p : Int, 2 ^ (8 - u).toNat = p := ⟨_, rfl⟩
      have hp1 : p < 512 := by
        have := pow_le (m := (8 - u).toNat) (n := 8) (by omega)
        rw [hp] at this
        omega
      have hp0 : 0 < p := by rw [← hp]; exact pow_pos' _
      have hwb := row_bd' (b := b) (j := j) (q := q) g2 (by omega) (k := u.toNat) (by omega)
      rw [← g6] at hwb
      have hwp0 : 0 ≤ w * p := Int.mul_nonneg hwb.1 (by omega)
      have hwp : w * p + p ≤ 256 := by
        have h1 : (w + 1) * p ≤ 2 ^ u.toNat * p := Int.mul_le_mul_of_nonneg_right (by omega) (by omega)
        have h2 : (2 : Int) ^ u.toNat * p = 256 := by
          rw [← hp, ← Int.pow_add, show u.toNat + (8 - u).toNat = 8 by omega]; rfl
        rw [Int.add_mul] at h1
        omega
      have hbd := bitsI_bd (b := b) g0
      obtain rfl : j = n := by omega
      repeat' (first
        | (refine s_st hS ?_; try cbv)
        | (refine s_sbr hS ?_ ?_ <;> intro h <;> (try cbv) <;> try exact s_ab h)
        | (refine s_sta hS ?_; intro _ _; try cbv)
        | (refine s_stc hS ?_; try cbv)
        | (refine s_draw hS rfl I.ord_huff_Put_1 (by decide +kernel) ?_; cbv)
        | (refine s_shll hS (c := p) (by rw [← hp]; congr 1; simp only [IntKind.bits]; omega) ?_ (by simp only [lo]; omega) (by simp only [hi]; omega); intro _ _; cbv)
        | (refine s_orl hS hp (by omega) (by simp only [*]; exact Int.mul_emod_left _ _) (by omega) (by omega) (by simp only [hi]; omega) ?_; intro _ _; cbv)
        | (refine And.intro rfl ?_; try cbv)
        | (refine s_flen hS (by rw [hG]; omega) ?_; cbv))
      · rename_i e1 he1 e2 he2 e3 he3 e4 he4 x hx
        refine ⟨_, .rfl, ?_⟩
        have hend := put_end1 (u := 8 - u) (x := x) hn' g2 (by omega) (by omega) (by omega) g6.symm (by rw [hp, hx, he2, he4, he3]; omega)
        exact rowIs_app hS g7.symm hP hend (by omega) (by rw [out_len _ _ _ g2]; simp only [Z.v, ← hS, Int.ofNat_eq_natCast, cq, Bool.not_eq_true', Bool.not_eq_false', decide_eq_true_eq, decide_eq_false_iff_not, beq_iff_eq, beq_eq_false_iff_ne, ne_eq]; omega) rfl
      · have hu0 : u = 0 := by omega
        have hPG : P = G := by rw [g7, ← hP, put_end0 hn' g2 (by omega)]
        refine ⟨_, .rfl, ?_⟩
        rw [hPG]
        exact rowIs_same g7.symm (by omega) (by rw [out_len _ _ _ g2]; rfl) rfl
end Cz
/- Huff, part J: a text taken out of bits: plain; what octet.Bits tells, used. -/
namespace Cz
open Go Go.RowKit Go.Proofs
set_option linter.unusedSimpArgs false
set_option linter.unusedVariables false
set_option maxRecDepth 100000
set_option maxHeartbeats 4000000
def dropI (b : List Int) (i : Int) : List Bool := (Hu.bl b).drop i.toNat
def at1I (b : List Int) (i m : Int) : Option Nat := if okI b i m then findO (numI b i m) m else none
def decI (b : List Int) (i : Int) : List Int × List Bool := Hu.dec (dropI b i)
theorem dropI_len {b : List Int} {i : Int} (h0 : 0 ≤ i) (h : i ≤ 8 * ilen b) : ((dropI b i).length : Int) = 8 * ilen b - i := by
  unfold dropI ilen at *
  rw [List.length_drop, Hu.bl_len]; omega
theorem dropI_drop {b : List Int} {i : Int} (h0 : 0 ≤ i) (m : Nat) : (dropI b i).drop m = dropI b (i + m) := by
  unfold dropI; rw [List.drop_drop, show (i + m).toNat = i.toNat + m by omega]
theorem at1I_eq {b : List Int} {i : Int} (h0 : 0 ≤ i) (m : Nat) (hm : 0 < m := by omega) : Hu.at1 (dropI b i) m = at1I b i m := by
  unfold at1I Hu.at1 okI
  have e : (m ≤ (dropI b i).length) ↔ ((decide (0 ≤ i) && decide (i + m ≤ 8 * ilen b)) = true) := by
    unfold dropI ilen
    rw [List.length_drop, Hu.bl_len, Bool.and_eq_true, decide_eq_true_eq, decide_eq_true_eq]
    constructor
    · intro h; constructor <;> omega
    · intro h; omega
  by_cases h : m ≤ (dropI b i).length
  · rw [if_pos h, if_pos (e.1 h)]
    unfold findO numI dropI
    rw [if_pos ⟨by omega, by omega⟩]
    simp
  · rw [if_neg h, if_neg (fun h' => h (e.2 h'))]
theorem at1I_ok {b : List Int} {i m : Int} {c : Nat} (h : at1I b i m = some c) : okI b i m = true := by
  unfold at1I at h
  split at h
  · assumption
  · cases h
theorem dec_5 {b : List Int} {i : Int} (h0 : 0 ≤ i) {c : Nat} (h : at1I b i 5 = some c) : decI b i = ((c : Int) :: (decI b (i + 5)).1, (decI b (i + 5)).2) := by
  unfold decI
  rw [Hu.dec_some (c := c) (m := 5) (by unfold Hu.sym; rw [at1I_eq h0 5]; simp [h]), dropI_drop h0]; rfl
theorem dec_6 {b : List Int} {i : Int} (h0 : 0 ≤ i) {c : Nat} (h5 : at1I b i 5 = none) (h : at1I b i 6 = some c) : decI b i = ((c : Int) :: (decI b (i + 6)).1, (decI b (i + 6)).2) := by
  unfold decI
  rw [Hu.dec_some (c := c) (m := 6) (by unfold Hu.sym; rw [at1I_eq h0 5, at1I_eq h0 6]; simp [h, h5]), dropI_drop h0]; rfl
theorem dec_7 {b : List Int} {i : Int} (h0 : 0 ≤ i) {c : Nat} (h5 : at1I b i 5 = none) (h6 : at1I b i 6 = none) (h : at1I b i 7 = some c) : decI b i = ((c : Int) :: (decI b (i + 7)).1, (decI b (i + 7)).2) := by
  unfold decI
  rw [Hu.dec_some (c := c) (m := 7) (by unfold Hu.sym; rw [at1I_eq h0 5, at1I_eq h0 6, at1I_eq h0 7]; simp [h, h5, h6]), dropI_drop h0]; rfl
theorem dec_11 {b : List Int} {i : Int} (h0 : 0 ≤ i) {c : Nat} (h5 : at1I b i 5 = none) (h6 : at1I b i 6 = none) (h7 : at1I b i 7 = none) (h : at1I b i 11 = some c) : decI b i = ((c : Int) :: (decI b (i + 11)).1, (decI b (i + 11)).2) := by
  unfold decI
  rw [Hu.dec_some (c := c) (m := 11) (by unfold Hu.sym; rw [at1I_eq h0 5, at1I_eq h0 6, at1I_eq h0 7, at1I_eq h0 11]; simp [h, h5, h6, h7]), dropI_drop h0]; rfl
theorem dec_no {b : List Int} {i : Int} (h0 : 0 ≤ i) (h5 : at1I b i 5 = none) (h6 : at1I b i 6 = none) (h7 : at1I b i 7 = none) (h : at1I b i 11 = none) : decI b i = ([], dropI b i) := by
  unfold decI
  exact Hu.dec_none (by unfold Hu.sym; rw [at1I_eq h0 5, at1I_eq h0 6, at1I_eq h0 7, at1I_eq h0 11]; simp [h, h5, h6, h7])
theorem at1I_f {b : List Int} {i m : Int} (h : okI b i m = false) : at1I b i m = none := by unfold at1I; rw [h]; rfl
theorem at1I_t {b : List Int} {i m r : Int} (h : okI b i m = true) (hr : numI b i m = r) : at1I b i m = findO r m := by unfold at1I; rw [h, hr]; rfl
theorem okI_less {b : List Int} {i m k : Int} (h : okI b i m = false) (h0 : 0 ≤ i) (hk : m ≤ k) : okI b i k = false := by
  unfold okI at h ⊢
  simp only [Bool.and_eq_false_iff, decide_eq_false_iff_not] at h ⊢
  omega
/-- What is taken of bytes; 0, or ErrHuff. -/
def takeL (b : List Int) : List Int := (Hu.take b).getD []
def takeE (b : List Int) : Int := if (Hu.take b).isSome then 0 else 70
theorem take_big {b L : List Int} {i : Int} (h0 : 0 ≤ i) (h : i ≤ 8 * ilen b) (hd : Hu.dec (Hu.bl b) = (L, dropI b i)) (h7 : 7 < 8 * ilen b - i) : takeL b = [] ∧ takeE b = 70 := by
  have : Hu.take b = none := by
    unfold Hu.take
    simp only [hd]
    rw [if_neg]
    have := dropI_len h0 h
    omega
  unfold takeL takeE
  rw [this]; exact ⟨rfl, rfl⟩
theorem numI_all {b : List Int} {i k : Int} (h0 : 0 ≤ i) (h : i ≤ 8 * ilen b) (hk : k = 8 * ilen b - i) : numI b i k = Hu.valB (dropI b i) := by
  unfold numI
  have := dropI_len h0 h
  rw [show ((Hu.bl b).drop i.toNat).take k.toNat = dropI b i by unfold dropI at *; exact List.take_of_length_le (by omega)]
theorem take_end {b L : List Int} {i k : Int} (h0 : 0 ≤ i) (h : i ≤ 8 * ilen b) (hd : Hu.dec (Hu.bl b) = (L, dropI b i)) (hk : k = 8 * ilen b - i) (h7 : k ≤ 7) :
    (numI b i k = 2 ^ k.toNat - 1 → takeL b = L ∧ takeE b = 0) ∧ (numI b i k ≠ 2 ^ k.toNat - 1 → takeL b = [] ∧ takeE b = 70) := by
  have hl := dropI_len h0 h
  rw [numI_all h0 h hk]
  have e : ((Hu.valB (dropI b i) : Int) = 2 ^ k.toNat - 1) ↔ dropI b i = List.replicate (dropI b i).length true := by
    have h1 := Hu.valB_ones (dropI b i).length
    have hp := Nat.two_pow_pos (dropI b i).length
    rw [show k.toNat = (dropI b i).length by omega, ← pow_cast]
    constructor
    · intro e
      refine Hu.valB_inj (by simp) ?_
      rw [h1]; omega
    · intro e
      rw [e, h1]
      simp only [List.length_replicate]
      omega
  unfold takeL takeE Hu.take
  simp only [hd]
  constructor
  · intro h1
    rw [if_pos ⟨by omega, e.1 h1⟩]; exact ⟨rfl, rfl⟩
  · intro h1
    rw [if_neg (fun h2 => h1 (e.2 h2.2))]; exact ⟨rfl, rfl⟩
/-- octet.Bits, used. -/
theorem octet_u {S : Sy} (hS : S0 Try.prog = S) {b : List Int} {F : List SV} {n : Int} {zi z : Z} {k : Nat} {ro lit : Bool} {st : Z} {l : List Blk} {K : SV → List Blk → Prop} (hb : Hu.BOk b) (hn : ilen b ≤ 1000000) (hn' : n = ilen b) (hF : cellsB b = F)
    (hrow : lget l k = .r ro lit st 1 F) (i m : Int) (hi : zi.v = i) (hm : z.v = m) (hz1 : 1 ≤ m) (hz2 : m ≤ 30) (h1 : okI b i m = true → ∀ r, numI b i m = r → K (.tp [.i .i64 (.y r), .tt]) l) (h2 : okI b i m = false → ∀ r, K (.tp [.i .i64 (.y r), .ff]) l) :
    S.call 45 [.sl k 1 (.l 0) (.y n) none, .i .i64 zi, .i .i64 z] l K := by
  subst hn' hF hi hm
  have hB : oBitsB b zi.v z.v = okI b zi.v z.v := by unfold oBitsB; rw [if_neg (by omega), if_neg (by omega)]
  have hf := oBits_f (b := b) (i := zi.v) (k := z.v) hb hn rfl rfl
  cases ht : okI b zi.v z.v with
  | true =>
    refine use_read hS (fun _ => k) (sv := .tp [.i .i64 (.y (numI b zi.v z.v)), .tt]) (call_post hf fun x l' hx => ⟨x, .rfl, hx.trans (sub_tp (.cons (sub_i ?_) (.cons (sub_b_tt ?_) .nil)))⟩) (.cons .rfl (.cons (sub_i rfl) (.cons (sub_i rfl) .nil))) rfl ⟨⟨_, _, _, _, _, _, _, _, rfl, cellsB_plain b, hrow, .rfl⟩, trivial⟩ rfl (h1 ht _ rfl)
    · unfold oBitsR; rw [hB, ht]; rfl
    · rw [hB, ht]
  | false =>
    refine use_read hS (fun _ => k) (sv := .tp [.i .i64 (.y (oBitsR b zi.v z.v)), .ff]) (call_post hf fun x l' hx => ⟨x, .rfl, hx.trans (sub_tp (.cons .rfl (.cons (sub_b_ff ?_) .nil)))⟩) (.cons .rfl (.cons (sub_i rfl) (.cons (sub_i rfl) .nil))) rfl ⟨⟨_, _, _, _, _, _, _, _, rfl, cellsB_plain b, hrow, .rfl⟩, trivial⟩ rfl (h2 ht _)
    rw [hB, ht]
end Cz
/- Huff, part K: a text taken out of bits. -/
namespace Cz
open Go Go.RowKit Go.Proofs
set_option linter.unusedSimpArgs false
set_option linter.unusedVariables false
set_option maxRecDepth 100000
set_option maxHeartbeats 4000000
def tB : IR := match I.huff_Take with
  | .seq _ (.scope b) => b
  | _ => .skip
theorem dec_at0 (b : List Int) : decI b 0 = Hu.dec (Hu.bl b) := rfl
theorem okI_le {b : List Int} {i m : Int} (h : okI b i m = true) : i + m ≤ 8 * ilen b := by
  unfold okI at h
  simp only [Bool.and_eq_true, decide_eq_true_eq] at h
  exact h.2
theorem ilen_snoc (L : List Int) (c : Int) : ilen (L ++ [c]) = ilen L + 1 := by unfold ilen; simp
theorem gc_k {n : Nat} {es : List (SV × SV)} : norefM es = true → (match es with
      | [] => true
      | (k, v) :: r => refsB (low n) k && refsB (low n) v && gcM n r) = true := by
  intro h
  have := gcM_ok (n := n) h
  cases es with
  | nil => rfl
  | cons e r => simpa only [gcM] using this
theorem octet_v {S : Sy} (hS : S0 Try.prog = S) {b : List Int} {F : List SV} {n : Int} {zi z : Z} {k : Nat} {ro lit : Bool} {st : Z} {l : List Blk} {K : SV → List Blk → Prop} (hb : Hu.BOk b) (hn : ilen b ≤ 1000000) (hn' : n = ilen b) (hF : cellsB b = F)
    (hrow : lget l k = .r ro lit st 1 F) (i m : Int) (h0 : zi.v = i) (hm : z.v = m) (hi0 : 0 ≤ i) (hz1 : 0 ≤ m) (hz2 : m ≤ 30 ∧ i + m ≤ 8 * n) (h1 : ∀ r, numI b i m = r → K (.tp [.i .i64 (.y r), .tt]) l) :
    S.call 45 [.sl k 1 (.l 0) (.y n) none, .i .i64 zi, .i .i64 z] l K := by
  subst hn' hF h0 hm
  have hB : oBitsB b zi.v z.v = true := by
    unfold oBitsB okI
    by_cases hz : z.v = 0
    · rw [if_pos hz]; simp; omega
    · rw [if_neg hz, if_neg (by omega)]; simp; omega
  have hf := oBits_f (b := b) (i := zi.v) (k := z.v) hb hn rfl rfl
  refine use_read hS (fun _ => k) (sv := .tp [.i .i64 (.y (numI b zi.v z.v)), .tt]) (call_post hf fun x l' hx => ⟨x, .rfl, hx.trans (sub_tp (.cons (sub_i ?_) (.cons (sub_b_tt hB) .nil)))⟩) (.cons .rfl (.cons (sub_i rfl) (.cons (sub_i rfl) .nil))) rfl ⟨⟨_, _, _, _, _, _, _, _, rfl, cellsB_plain b, hrow, .rfl⟩, trivial⟩ rfl (h1 _ rfl)
  unfold oBitsR; rw [hB]; rfl
theorem s_shlv {S : Sy} {k : IntKind} {a : Int} {K : Int → Prop} (hS : S0 Try.prog = S) (m : Int) (hm : a = m) (h0 : 0 ≤ m) (h1 : m ≤ 7) (hk : 8 < k.bits) (h : ∀ r, r = 2 ^ m.toNat → 1 ≤ r → r ≤ 128 → K r) : S.ar .shl k 1 a K := by
  subst hm
  have h2 := pow_le (m := a.toNat) (n := 7) (by omega)
  have h3 := pow_pos' a.toNat
  refine s_shll hS (c := 2 ^ a.toNat) ?_ (fun r hr => h r (by omega) (by omega) (by omega)) ?_ ?_
  · rw [Nat.min_eq_left (by omega)]
  · have := lo_bits k; omega
  · have h4 := hi_bits k
    have h5 := pow_le (m := 8) (n := k.bits - 1) (by omega)
    omega
theorem end_none {P : List SV} {E : Int} {l' : List Blk} (hP : P = []) (hE : E = 70) : OwnR 1 1 P true [.i .i64 (.y E)] (.tp [.re (.slice none 0 0), .i .i64 (.l 70)]) l' :=
  ⟨_, sub_tp (.cons .rfl (.cons (sub_i hE.symm) .nil)), .inl ⟨rfl, hP⟩⟩
theorem end_some {P G : List SV} {L : List Int} {E : Int} {z st : Z} {lit : Bool} {l' : List Blk} (hP : P = cellsB L) (hE : E = 0) (hG : cellsB L = G) (hz : z.v = ilen L) (hB : l'[2]? = some (.r false lit st 1 G)) :
    OwnR 1 1 P true [.i .i64 (.y E)] (.tp [.sl 2 1 (.l 0) z none, .i .i64 (.l 0)]) l' := by
  refine ⟨_, sub_tp (.cons .rfl (.cons (sub_i hE.symm) .nil)), ?_⟩
  rw [hP, hG]
  exact rowIs_same hG (by omega) hz hB
theorem take_jump {b : List Int} {F P : List SV} {T : List (SV × SV)} {n E : Int} {S : Sy} (hb : Hu.BOk b) (hnb : ilen b ≤ 1000000) (hn' : n = ilen b) (hF : cellsB b = F) (hP : cellsB (takeL b) = P) (hE : takeE b = E) (hT : knownE 256 = T) (hS : S0 Try.prog = S)
    {i1 q1 st1 : Int} {L1 : List Int} {G1 : List SV} (h0 : 0 ≤ i1) (h1 : i1 ≤ 8 * ilen b) (hq : q1 = ilen L1) (hqi : q1 ≤ i1) (hG : G1 = cellsB L1) (hdec : Hu.dec (Hu.bl b) = (L1 ++ (decI b i1).1, (decI b i1).2)) :
    S.jump ⟨none, 1⟩ tB 0 ⟨slots [(0, .sl 0 1 (.l 0) (.y n) none), (4, .m 1), (2, .sl 2 1 (.l 0) (.y q1) none), (5, .i .i64 (.y i1))] (repU 68), []⟩ [.r true true (.l 0) 1 F, .m T, .r false false (.y st1) 1 G1]
      (vret S [.t 2, .t 3] (OwnR 1 1 P true [.i .i64 (.y E)])) := by
  have hn := hnb
  have h0n := ilen_nn b
  rw [← hn'] at hn h0n
  have hpl := cellsB_plain b
  rw [hF] at hpl
  refine s_jump_up hS 3 [] (fun x : Int × Int × Int × List Int × List SV => 0 ≤ x.1 ∧ x.1 ≤ 8 * n ∧ x.2.1 = ilen x.2.2.2.1 ∧ x.2.1 ≤ x.1 ∧ x.2.2.2.2 = cellsB x.2.2.2.1 ∧ Hu.dec (Hu.bl b) = (x.2.2.2.1 ++ (decI b x.1).1, (decI b x.1).2))
    (fun x => [(2, .sl 2 1 (.l 0) (.y x.2.1) none), (5, .i .i64 (.y x.1))]) (fun x => [(2, .r false false (.y x.2.2.1) 1 x.2.2.2.2)])
    (fun x => (8 * n - x.1).toNat) (i1, q1, st1, L1, G1) rfl rfl ⟨⟨h0, by dsimp only; omega, hq, hqi, hG, hdec⟩, rfl, ?_, ?_, ?_⟩ ?_
  · cbv; all_goals exact s_sA
  · cbv; all_goals exact s_bA
  · cbv; exact gc_c (gc_m (plains_refs hpl)) (gc_c (gc_k (hT ▸ known_noref 256)) rfl)
  intro x
  clear h0 h1 hq hqi hG hdec
  obtain ⟨i, q, st, L, G⟩ := x
  intro hx
  dsimp only at hx
  cbv
  obtain ⟨h0, h1, hq, hqi, hG0, hdec⟩ := hx
  have hG : ilen G = ilen L := by rw [hG0, cellsB_len]
  refine s_loop_one hS ?_
  cbv
  refine octet_u hS hb hnb hn' hF rfl i 5 rfl rfl (by decide) (by decide) (fun hok5 r5 hr5 => ?_) (fun hok5 r5 => ?_)
  · cbv
    refine look_known hS hT (fun c hc c0 c1 => ?_) fun hc => ?_
    · cbv
      have hs : decI b i = ((c.toNat : Int) :: (decI b (i + 5)).1, (decI b (i + 5)).2) := dec_5 (by omega)  (by rw [at1I_t hok5 hr5]; exact hc)
      have hle : i + 5 ≤ 8 * ilen b := okI_le hok5
      rw [Int.toNat_of_nonneg c0] at hs
      repeat' (first
        | (refine s_st hS ?_; try cbv)
        | (refine s_sbr hS ?_ ?_ <;> intro h <;> (try cbv) <;> try exact s_ab h)
        | (refine s_sta hS ?_; intro _ _; try cbv)
        | (refine s_stc hS ?_; try cbv)
        | (refine s_flen hS (by rw [hG, ← hq]; omega) ?_; cbv))
      rename_i i2 hi2
      obtain ⟨q2, h_q2⟩ : ∃ q2, q2 = q + 1 := ⟨_, rfl⟩
      obtain ⟨st2, h_st2⟩ : ∃ st2, st2 = S.flen G := ⟨_, rfl⟩
      obtain ⟨G2, h_G2⟩ : ∃ G2, G2 = cellsB (L ++ [c]) := ⟨_, rfl⟩
      refine ⟨(i2, q2, st2, L ++ [c], G2), by dsimp only; omega, ⟨by dsimp only; omega, by dsimp only; omega, ?_, by dsimp only; omega, h_G2, ?_⟩, rfl, ?_, ?_, ?_⟩
      · dsimp only; rw [h_q2, hq, ilen_snoc]
      · dsimp only; rw [hdec, hs, hi2]; simp
      · cbv; (repeat' (first | exact sub_any | exact Sub.rfl | exact SubL.nil | refine SubL.cons ?_ ?_ | exact sub_i rfl | (refine sub_sl rfl ?_; simp only [Z.v, ← hS, Int.ofNat_eq_natCast, cq, Bool.not_eq_true', Bool.not_eq_false', decide_eq_true_eq, decide_eq_false_iff_not, beq_iff_eq, beq_eq_false_iff_ne, ne_eq]; omega)))
      · cbv; exact ⟨.rfl, .rfl, subB_app hS hG0.symm h_G2.symm rfl h_st2.symm, trivial⟩
      · cbv; exact gc_c (gc_m (plains_refs hpl)) (gc_c (gc_k (hT ▸ known_noref 256)) rfl)
    · cbv
      have a5 : at1I b i 5 = none := by rw [at1I_t hok5 hr5]; exact hc
      refine s_loop_one hS ?_
      cbv
      refine octet_u hS hb hnb hn' hF rfl i 6 rfl rfl (by decide) (by decide) (fun hok6 r6 hr6 => ?_) (fun hok6 r6 => ?_)
      · cbv
        refine look_known hS hT (fun c hc c0 c1 => ?_) fun hc => ?_
        · cbv
          have hs : decI b i = ((c.toNat : Int) :: (decI b (i + 6)).1, (decI b (i + 6)).2) := dec_6 (by omega) a5 (by rw [at1I_t hok6 hr6]; exact hc)
          have hle : i + 6 ≤ 8 * ilen b := okI_le hok6
          rw [Int.toNat_of_nonneg c0] at hs
          repeat' (first
            | (refine s_st hS ?_; try cbv)
            | (refine s_sbr hS ?_ ?_ <;> intro h <;> (try cbv) <;> try exact s_ab h)
            | (refine s_sta hS ?_; intro _ _; try cbv)
            | (refine s_stc hS ?_; try cbv)
            | (refine s_flen hS (by rw [hG, ← hq]; omega) ?_; cbv))
          rename_i i2 hi2
          obtain ⟨q2, h_q2⟩ : ∃ q2, q2 = q + 1 := ⟨_, rfl⟩
          obtain ⟨st2, h_st2⟩ : ∃ st2, st2 = S.flen G := ⟨_, rfl⟩
          obtain ⟨G2, h_G2⟩ : ∃ G2, G2 = cellsB (L ++ [c]) := ⟨_, rfl⟩
          refine ⟨(i2, q2, st2, L ++ [c], G2), by dsimp only; omega, ⟨by dsimp only; omega, by dsimp only; omega, ?_, by dsimp only; omega, h_G2, ?_⟩, rfl, ?_, ?_, ?_⟩
          · dsimp only; rw [h_q2, hq, ilen_snoc]
          · dsimp only; rw [hdec, hs, hi2]; simp
          · cbv; (repeat' (first | exact sub_any | exact Sub.rfl | exact SubL.nil | refine SubL.cons ?_ ?_ | exact sub_i rfl | (refine sub_sl rfl ?_; simp only [Z.v, ← hS, Int.ofNat_eq_natCast, cq, Bool.not_eq_true', Bool.not_eq_false', decide_eq_true_eq, decide_eq_false_iff_not, beq_iff_eq, beq_eq_false_iff_ne, ne_eq]; omega)))
          · cbv; exact ⟨.rfl, .rfl, subB_app hS hG0.symm h_G2.symm rfl h_st2.symm, trivial⟩
          · cbv; exact gc_c (gc_m (plains_refs hpl)) (gc_c (gc_k (hT ▸ known_noref 256)) rfl)
        · cbv
          have a6 : at1I b i 6 = none := by rw [at1I_t hok6 hr6]; exact hc
          refine s_loop_one hS ?_
          cbv
          refine octet_u hS hb hnb hn' hF rfl i 7 rfl rfl (by decide) (by decide) (fun hok7 r7 hr7 => ?_) (fun hok7 r7 => ?_)
          · cbv
            refine look_known hS hT (fun c hc c0 c1 => ?_) fun hc => ?_
            · cbv
              have hs : decI b i = ((c.toNat : Int) :: (decI b (i + 7)).1, (decI b (i + 7)).2) := dec_7 (by omega) a5 a6 (by rw [at1I_t hok7 hr7]; exact hc)
              have hle : i + 7 ≤ 8 * ilen b := okI_le hok7
              rw [Int.toNat_of_nonneg c0] at hs
              repeat' (first
                | (refine s_st hS ?_; try cbv)
                | (refine s_sbr hS ?_ ?_ <;> intro h <;> (try cbv) <;> try exact s_ab h)
                | (refine s_sta hS ?_; intro _ _; try cbv)
                | (refine s_stc hS ?_; try cbv)
                | (refine s_flen hS (by rw [hG, ← hq]; omega) ?_; cbv))
              rename_i i2 hi2
              obtain ⟨q2, h_q2⟩ : ∃ q2, q2 = q + 1 := ⟨_, rfl⟩
              obtain ⟨st2, h_st2⟩ : ∃ st2, st2 = S.flen G := ⟨_, rfl⟩
              obtain ⟨G2, h_G2⟩ : ∃ G2, G2 = cellsB (L ++ [c]) := ⟨_, rfl⟩
              refine ⟨(i2, q2, st2, L ++ [c], G2), by dsimp only; omega, ⟨by dsimp only; omega, by dsimp only; omega, ?_, by dsimp only; omega, h_G2, ?_⟩, rfl, ?_, ?_, ?_⟩
              · dsimp only; rw [h_q2, hq, ilen_snoc]
              · dsimp only; rw [hdec, hs, hi2]; simp
              · cbv; (repeat' (first | exact sub_any | exact Sub.rfl | exact SubL.nil | refine SubL.cons ?_ ?_ | exact sub_i rfl | (refine sub_sl rfl ?_; simp only [Z.v, ← hS, Int.ofNat_eq_natCast, cq, Bool.not_eq_true', Bool.not_eq_false', decide_eq_true_eq, decide_eq_false_iff_not, beq_iff_eq, beq_eq_false_iff_ne, ne_eq]; omega)))
              · cbv; exact ⟨.rfl, .rfl, subB_app hS hG0.symm h_G2.symm rfl h_st2.symm, trivial⟩
              · cbv; exact gc_c (gc_m (plains_refs hpl)) (gc_c (gc_k (hT ▸ known_noref 256)) rfl)
            · cbv
              have a7 : at1I b i 7 = none := by rw [at1I_t hok7 hr7]; exact hc
              refine s_loop_one hS ?_
              cbv
              refine octet_u hS hb hnb hn' hF rfl i 11 rfl rfl (by decide) (by decide) (fun hok11 r11 hr11 => ?_) (fun hok11 r11 => ?_)
              · cbv
                refine look_known hS hT (fun c hc c0 c1 => ?_) fun hc => ?_
                · cbv
                  have hs : decI b i = ((c.toNat : Int) :: (decI b (i + 11)).1, (decI b (i + 11)).2) := dec_11 (by omega) a5 a6 a7 (by rw [at1I_t hok11 hr11]; exact hc)
                  have hle : i + 11 ≤ 8 * ilen b := okI_le hok11
                  rw [Int.toNat_of_nonneg c0] at hs
                  repeat' (first
                    | (refine s_st hS ?_; try cbv)
                    | (refine s_sbr hS ?_ ?_ <;> intro h <;> (try cbv) <;> try exact s_ab h)
                    | (refine s_sta hS ?_; intro _ _; try cbv)
                    | (refine s_stc hS ?_; try cbv)
                    | (refine s_flen hS (by rw [hG, ← hq]; omega) ?_; cbv))
                  rename_i i2 hi2
                  obtain ⟨q2, h_q2⟩ : ∃ q2, q2 = q + 1 := ⟨_, rfl⟩
                  obtain ⟨st2, h_st2⟩ : ∃ st2, st2 = S.flen G := ⟨_, rfl⟩
                  obtain ⟨G2, h_G2⟩ : ∃ G2, G2 = cellsB (L ++ [c]) := ⟨_, rfl⟩
                  refine ⟨(i2, q2, st2, L ++ [c], G2), by dsimp only; omega, ⟨by dsimp only; omega, by dsimp only; omega, ?_, by dsimp only; omega, h_G2, ?_⟩, rfl, ?_, ?_, ?_⟩
                  · dsimp only; rw [h_q2, hq, ilen_snoc]
                  · dsimp only; rw [hdec, hs, hi2]; simp
                  · cbv; (repeat' (first | exact sub_any | exact Sub.rfl | exact SubL.nil | refine SubL.cons ?_ ?_ | exact sub_i rfl | (refine sub_sl rfl ?_; simp only [Z.v, ← hS, Int.ofNat_eq_natCast, cq, Bool.not_eq_true', Bool.not_eq_false', decide_eq_true_eq, decide_eq_false_iff_not, beq_iff_eq, beq_eq_false_iff_ne, ne_eq]; omega)))
                  · cbv; exact ⟨.rfl, .rfl, subB_app hS hG0.symm h_G2.symm rfl h_st2.symm, trivial⟩
                  · cbv; exact gc_c (gc_m (plains_refs hpl)) (gc_c (gc_k (hT ▸ known_noref 256)) rfl)
                · cbv
                  have a11 : at1I b i 11 = none := by rw [at1I_t hok11 hr11]; exact hc
                  refine s_loop_one hS ?_
                  cbv
                  have hno : decI b i = ([], dropI b i) := dec_no (by omega) a5 a6 a7 a11
                  have hD : Hu.dec (Hu.bl b) = (L, dropI b i) := by rw [hdec, hno]; simp
                  obtain ⟨k, hk⟩ : ∃ k, k = 8 * ilen b - i := ⟨_, rfl⟩
                  repeat' (first
                    | (refine s_st hS ?_; try cbv)
                    | (refine s_sbr hS ?_ ?_ <;> intro h <;> (try cbv) <;> try exact s_ab h)
                    | (refine s_sta hS ?_; intro _ _; try cbv)
                    | (refine s_stc hS ?_; try cbv)
                    | (refine s_mul hS ?_ (by simp only [lo]; omega) (by simp only [hi]; omega); intro _ _; cbv)
                    | (refine s_jump hS rfl ?_; cbv)
                    | (refine octet_v hS hb hnb hn' hF rfl i k (by simp only [Z.v]; omega) (by simp only [Z.v]; omega) (by omega) (by omega) (by omega) (fun r hr => ?_); cbv)
                    | (refine s_shlv hS k (by omega) (by omega) (by omega) (by decide) (fun p hp hp1 hp2 => ?_); cbv))
                  · have hb7 := take_big (i := i) (by omega) (by omega) hD (by omega)
                    exact end_none (hP.symm.trans (by rw [hb7.1]; rfl)) (hE.symm.trans hb7.2)
                  · have hte := (take_end (i := i) (by omega) (by omega) hD hk (by omega)).1 (by rw [hr, ← hp]; omega)
                    exact end_some (hP.symm.trans (by rw [hte.1])) (hE.symm.trans hte.2) hG0.symm hq rfl
                  · have hte := (take_end (i := i) (by omega) (by omega) hD hk (by omega)).2 (by rw [hr, ← hp]; omega)
                    exact end_none (hP.symm.trans (by rw [hte.1]; rfl)) (hE.symm.trans hte.2)
              · cbv
                have a11 : at1I b i 11 = none := at1I_f (okI_less hok11 (by omega) (by omega))
                have hno : decI b i = ([], dropI b i) := dec_no (by omega) a5 a6 a7 a11
                have hD : Hu.dec (Hu.bl b) = (L, dropI b i) := by rw [hdec, hno]; simp
                obtain ⟨k, hk⟩ : ∃ k, k = 8 * ilen b - i := ⟨_, rfl⟩
                repeat' (first
                  | (refine s_st hS ?_; try cbv)
                  | (refine s_sbr hS ?_ ?_ <;> intro h <;> (try cbv) <;> try exact s_ab h)
                  | (refine s_sta hS ?_; intro _ _; try cbv)
                  | (refine s_stc hS ?_; try cbv)
                  | (refine s_mul hS ?_ (by simp only [lo]; omega) (by simp only [hi]; omega); intro _ _; cbv)
                  | (refine s_jump hS rfl ?_; cbv)
                  | (refine octet_v hS hb hnb hn' hF rfl i k (by simp only [Z.v]; omega) (by simp only [Z.v]; omega) (by omega) (by omega) (by omega) (fun r hr => ?_); cbv)
                  | (refine s_shlv hS k (by omega) (by omega) (by omega) (by decide) (fun p hp hp1 hp2 => ?_); cbv))
                · have hb7 := take_big (i := i) (by omega) (by omega) hD (by omega)
                  exact end_none (hP.symm.trans (by rw [hb7.1]; rfl)) (hE.symm.trans hb7.2)
                · have hte := (take_end (i := i) (by omega) (by omega) hD hk (by omega)).1 (by rw [hr, ← hp]; omega)
                  exact end_some (hP.symm.trans (by rw [hte.1])) (hE.symm.trans hte.2) hG0.symm hq rfl
                · have hte := (take_end (i := i) (by omega) (by omega) hD hk (by omega)).2 (by rw [hr, ← hp]; omega)
                  exact end_none (hP.symm.trans (by rw [hte.1]; rfl)) (hE.symm.trans hte.2)
          · cbv
            have a7 : at1I b i 7 = none := at1I_f (okI_less hok7 (by omega) (by omega))
            have a11 : at1I b i 11 = none := at1I_f (okI_less hok7 (by omega) (by omega))
            have hno : decI b i = ([], dropI b i) := dec_no (by omega) a5 a6 a7 a11
            have hD : Hu.dec (Hu.bl b) = (L, dropI b i) := by rw [hdec, hno]; simp
            obtain ⟨k, hk⟩ : ∃ k, k = 8 * ilen b - i := ⟨_, rfl⟩
            repeat' (first
              | (refine s_st hS ?_; try cbv)
              | (refine s_sbr hS ?_ ?_ <;> intro h <;> (try cbv) <;> try exact s_ab h)
              | (refine s_sta hS ?_; intro _ _; try cbv)
              | (refine s_stc hS ?_; try cbv)
              | (refine s_mul hS ?_ (by simp only [lo]; omega) (by simp only [hi]; omega); intro _ _; cbv)
              | (refine s_jump hS rfl ?_; cbv)
              | (refine octet_v hS hb hnb hn' hF rfl i k (by simp only [Z.v]; omega) (by simp only [Z.v]; omega) (by omega) (by omega) (by omega) (fun r hr => ?_); cbv)
              | (refine s_shlv hS k (by omega) (by omega) (by omega) (by decide) (fun p hp hp1 hp2 => ?_); cbv))
            · have hb7 := take_big (i := i) (by omega) (by omega) hD (by omega)
              exact end_none (hP.symm.trans (by rw [hb7.1]; rfl)) (hE.symm.trans hb7.2)
            · have hte := (take_end (i := i) (by omega) (by omega) hD hk (by omega)).1 (by rw [hr, ← hp]; omega)
              exact end_some (hP.symm.trans (by rw [hte.1])) (hE.symm.trans hte.2) hG0.symm hq rfl
            · have hte := (take_end (i := i) (by omega) (by omega) hD hk (by omega)).2 (by rw [hr, ← hp]; omega)
              exact end_none (hP.symm.trans (by rw [hte.1]; rfl)) (hE.symm.trans hte.2)
      · cbv
        have a6 : at1I b i 6 = none := at1I_f (okI_less hok6 (by omega) (by omega))
        have a7 : at1I b i 7 = none := at1I_f (okI_less hok6 (by omega) (by omega))
        have a11 : at1I b i 11 = none := at1I_f (okI_less hok6 (by omega) (by omega))
        have hno : decI b i = ([], dropI b i) := dec_no (by omega) a5 a6 a7 a11
        have hD : Hu.dec (Hu.bl b) = (L, dropI b i) := by rw [hdec, hno]; simp
        obtain ⟨k, hk⟩ : ∃ k, k = 8 * ilen b - i := ⟨_, rfl⟩
        repeat' (first
          | (refine s_st hS ?_; try cbv)
          | (refine s_sbr hS ?_ ?_ <;> intro h <;> (try cbv) <;> try exact s_ab h)
          | (refine s_sta hS ?_; intro _ _; try cbv)
          | (refine s_stc hS ?_; try cbv)
          | (refine s_mul hS ?_ (by simp only [lo]; omega) (by simp only [hi]; omega); intro _ _; cbv)
          | (refine s_jump hS rfl ?_; cbv)
          | (refine octet_v hS hb hnb hn' hF rfl i k (by simp only [Z.v]; omega) (by simp only [Z.v]; omega) (by omega) (by omega) (by omega) (fun r hr => ?_); cbv)
          | (refine s_shlv hS k (by omega) (by omega) (by omega) (by decide) (fun p hp hp1 hp2 => ?_); cbv))
        · have hb7 := take_big (i := i) (by omega) (by omega) hD (by omega)
          exact end_none (hP.symm.trans (by rw [hb7.1]; rfl)) (hE.symm.trans hb7.2)
        · have hte := (take_end (i := i) (by omega) (by omega) hD hk (by omega)).1 (by rw [hr, ← hp]; omega)
          exact end_some (hP.symm.trans (by rw [hte.1])) (hE.symm.trans hte.2) hG0.symm hq rfl
        · have hte := (take_end (i := i) (by omega) (by omega) hD hk (by omega)).2 (by rw [hr, ← hp]; omega)
          exact end_none (hP.symm.trans (by rw [hte.1]; rfl)) (hE.symm.trans hte.2)
  · cbv
    have a5 : at1I b i 5 = none := at1I_f (okI_less hok5 (by omega) (by omega))
    have a6 : at1I b i 6 = none := at1I_f (okI_less hok5 (by omega) (by omega))
    have a7 : at1I b i 7 = none := at1I_f (okI_less hok5 (by omega) (by omega))
    have a11 : at1I b i 11 = none := at1I_f (okI_less hok5 (by omega) (by omega))
    have hno : decI b i = ([], dropI b i) := dec_no (by omega) a5 a6 a7 a11
    have hD : Hu.dec (Hu.bl b) = (L, dropI b i) := by rw [hdec, hno]; simp
    obtain ⟨k, hk⟩ : ∃ k, k = 8 * ilen b - i := ⟨_, rfl⟩
    repeat' (first
      | (refine s_st hS ?_; try cbv)
      | (refine s_sbr hS ?_ ?_ <;> intro h <;> (try cbv) <;> try exact s_ab h)
      | (refine s_sta hS ?_; intro _ _; try cbv)
      | (refine s_stc hS ?_; try cbv)
      | (refine s_mul hS ?_ (by simp only [lo]; omega) (by simp only [hi]; omega); intro _ _; cbv)
      | (refine s_jump hS rfl ?_; cbv)
      | (refine octet_v hS hb hnb hn' hF rfl i k (by simp only [Z.v]; omega) (by simp only [Z.v]; omega) (by omega) (by omega) (by omega) (fun r hr => ?_); cbv)
      | (refine s_shlv hS k (by omega) (by omega) (by omega) (by decide) (fun p hp hp1 hp2 => ?_); cbv))
    · have hb7 := take_big (i := i) (by omega) (by omega) hD (by omega)
      exact end_none (hP.symm.trans (by rw [hb7.1]; rfl)) (hE.symm.trans hb7.2)
    · have hte := (take_end (i := i) (by omega) (by omega) hD hk (by omega)).1 (by rw [hr, ← hp]; omega)
      exact end_some (hP.symm.trans (by rw [hte.1])) (hE.symm.trans hte.2) hG0.symm hq rfl
    · have hte := (take_end (i := i) (by omega) (by omega) hD hk (by omega)).2 (by rw [hr, ← hp]; omega)
      exact end_none (hP.symm.trans (by rw [hte.1]; rfl)) (hE.symm.trans hte.2)
theorem take_f {b : List Int} (hb : Hu.BOk b) (hn : ilen b ≤ 1000000) :
    (S0 Try.prog).call 17 [.sl 0 1 (.l 0) (.y (ilen b)) none] [.r true true (.l 0) 1 (cellsB b)] (OwnR 1 1 (cellsB (takeL b)) true [.i .i64 (.y (takeE b))]) := by
  obtain ⟨n, hn'⟩ : ∃ n, n = ilen b := ⟨_, rfl⟩
  have h0n := ilen_nn b
  have hnb := hn
  rw [← hn'] at hn h0n ⊢
  have hpl := cellsB_plain b
  generalize hF : cellsB b = F at hpl ⊢
  generalize hP : cellsB (takeL b) = P
  generalize hE : takeE b = E
  generalize hT : knownE 256 = T
  have hk := known_f hT
  generalize hS : S0 Try.prog = S
  refine call_in' hS I.fn_huff_Take ?_
  cbv
  refine use_map hS (l0 := []) id hk .nil rfl trivial ?_
  cbv
  refine s_loop_nil hS 2 1 (by omega) rfl ?_
  cbv
  refine s_loop_one hS ?_
  cbv
  refine octet_u hS hb hnb hn' hF rfl 0 5 rfl rfl (by decide) (by decide) (fun hok5 r5 hr5 => ?_) (fun hok5 r5 => ?_)
  · cbv
    refine look_known hS hT (fun c hc c0 c1 => ?_) fun hc => ?_
    · cbv
      have hs : decI b 0 = ((c.toNat : Int) :: (decI b (0 + 5)).1, (decI b (0 + 5)).2) := dec_5 (by omega)  (by rw [at1I_t hok5 hr5]; exact hc)
      have hle : 0 + 5 ≤ 8 * ilen b := okI_le hok5
      rw [Int.toNat_of_nonneg c0] at hs
      refine jump_less hS 3 rfl ?_ ?_ ?_ (take_jump hb hnb hn' hF hP hE hT hS (i1 := 5) (q1 := 1) (st1 := 0) (L1 := [c]) (G1 := [.i .u8 (.y c)]) (by omega) (by omega) rfl (by omega) rfl ?_)
      · cbv; (repeat' (first | exact sub_any | exact Sub.rfl | exact SubL.nil | refine SubL.cons ?_ ?_ | exact sub_i rfl | exact sub_sl rfl rfl))
      · cbv; exact ⟨.rfl, .rfl, .r .rfl rfl rfl, trivial⟩
      · cbv; exact gc_c (gc_m (plains_refs hpl)) (gc_c (gc_k (hT ▸ known_noref 256)) rfl)
      · rw [← dec_at0, hs]; rfl
    · cbv
      have a5 : at1I b 0 5 = none := by rw [at1I_t hok5 hr5]; exact hc
      refine s_loop_one hS ?_
      cbv
      refine octet_u hS hb hnb hn' hF rfl 0 6 rfl rfl (by decide) (by decide) (fun hok6 r6 hr6 => ?_) (fun hok6 r6 => ?_)
      · cbv
        refine look_known hS hT (fun c hc c0 c1 => ?_) fun hc => ?_
        · cbv
          have hs : decI b 0 = ((c.toNat : Int) :: (decI b (0 + 6)).1, (decI b (0 + 6)).2) := dec_6 (by omega) a5 (by rw [at1I_t hok6 hr6]; exact hc)
          have hle : 0 + 6 ≤ 8 * ilen b := okI_le hok6
          rw [Int.toNat_of_nonneg c0] at hs
          refine jump_less hS 3 rfl ?_ ?_ ?_ (take_jump hb hnb hn' hF hP hE hT hS (i1 := 6) (q1 := 1) (st1 := 0) (L1 := [c]) (G1 := [.i .u8 (.y c)]) (by omega) (by omega) rfl (by omega) rfl ?_)
          · cbv; (repeat' (first | exact sub_any | exact Sub.rfl | exact SubL.nil | refine SubL.cons ?_ ?_ | exact sub_i rfl | exact sub_sl rfl rfl))
          · cbv; exact ⟨.rfl, .rfl, .r .rfl rfl rfl, trivial⟩
          · cbv; exact gc_c (gc_m (plains_refs hpl)) (gc_c (gc_k (hT ▸ known_noref 256)) rfl)
          · rw [← dec_at0, hs]; rfl
        · cbv
          have a6 : at1I b 0 6 = none := by rw [at1I_t hok6 hr6]; exact hc
          refine s_loop_one hS ?_
          cbv
          refine octet_u hS hb hnb hn' hF rfl 0 7 rfl rfl (by decide) (by decide) (fun hok7 r7 hr7 => ?_) (fun hok7 r7 => ?_)
          · cbv
            refine look_known hS hT (fun c hc c0 c1 => ?_) fun hc => ?_
            · cbv
              have hs : decI b 0 = ((c.toNat : Int) :: (decI b (0 + 7)).1, (decI b (0 + 7)).2) := dec_7 (by omega) a5 a6 (by rw [at1I_t hok7 hr7]; exact hc)
              have hle : 0 + 7 ≤ 8 * ilen b := okI_le hok7
              rw [Int.toNat_of_nonneg c0] at hs
              refine jump_less hS 3 rfl ?_ ?_ ?_ (take_jump hb hnb hn' hF hP hE hT hS (i1 := 7) (q1 := 1) (st1 := 0) (L1 := [c]) (G1 := [.i .u8 (.y c)]) (by omega) (by omega) rfl (by omega) rfl ?_)
              · cbv; (repeat' (first | exact sub_any | exact Sub.rfl | exact SubL.nil | refine SubL.cons ?_ ?_ | exact sub_i rfl | exact sub_sl rfl rfl))
              · cbv; exact ⟨.rfl, .rfl, .r .rfl rfl rfl, trivial⟩
              · cbv; exact gc_c (gc_m (plains_refs hpl)) (gc_c (gc_k (hT ▸ known_noref 256)) rfl)
              · rw [← dec_at0, hs]; rfl
            · cbv
              have a7 : at1I b 0 7 = none := by rw [at1I_t hok7 hr7]; exact hc
              refine s_loop_one hS ?_
              cbv
              refine octet_u hS hb hnb hn' hF rfl 0 11 rfl rfl (by decide) (by decide) (fun hok11 r11 hr11 => ?_) (fun hok11 r11 => ?_)
              · cbv
                refine look_known hS hT (fun c hc c0 c1 => ?_) fun hc => ?_
                · cbv
                  have hs : decI b 0 = ((c.toNat : Int) :: (decI b (0 + 11)).1, (decI b (0 + 11)).2) := dec_11 (by omega) a5 a6 a7 (by rw [at1I_t hok11 hr11]; exact hc)
                  have hle : 0 + 11 ≤ 8 * ilen b := okI_le hok11
                  rw [Int.toNat_of_nonneg c0] at hs
                  refine jump_less hS 3 rfl ?_ ?_ ?_ (take_jump hb hnb hn' hF hP hE hT hS (i1 := 11) (q1 := 1) (st1 := 0) (L1 := [c]) (G1 := [.i .u8 (.y c)]) (by omega) (by omega) rfl (by omega) rfl ?_)
                  · cbv; (repeat' (first | exact sub_any | exact Sub.rfl | exact SubL.nil | refine SubL.cons ?_ ?_ | exact sub_i rfl | exact sub_sl rfl rfl))
                  · cbv; exact ⟨.rfl, .rfl, .r .rfl rfl rfl, trivial⟩
                  · cbv; exact gc_c (gc_m (plains_refs hpl)) (gc_c (gc_k (hT ▸ known_noref 256)) rfl)
                  · rw [← dec_at0, hs]; rfl
                · cbv
                  have a11 : at1I b 0 11 = none := by rw [at1I_t hok11 hr11]; exact hc
                  refine s_loop_one hS ?_
                  cbv
                  have hno : decI b 0 = ([], dropI b 0) := dec_no (by omega) a5 a6 a7 a11
                  have hD : Hu.dec (Hu.bl b) = ([], dropI b 0) := by rw [← dec_at0, hno]
                  obtain ⟨k, hk⟩ : ∃ k, k = 8 * ilen b - 0 := ⟨_, rfl⟩
                  repeat' (first
                    | (refine s_st hS ?_; try cbv)
                    | (refine s_sbr hS ?_ ?_ <;> intro h <;> (try cbv) <;> try exact s_ab h)
                    | (refine s_sta hS ?_; intro _ _; try cbv)
                    | (refine s_stc hS ?_; try cbv)
                    | (refine s_mul hS ?_ (by simp only [lo]; omega) (by simp only [hi]; omega); intro _ _; cbv)
                    | (refine s_jump hS rfl ?_; cbv)
                    | (refine octet_v hS hb hnb hn' hF rfl 0 k (by simp only [Z.v]; omega) (by simp only [Z.v]; omega) (by omega) (by omega) (by omega) (fun r hr => ?_); cbv)
                    | (refine s_shlv hS k (by omega) (by omega) (by omega) (by decide) (fun p hp hp1 hp2 => ?_); cbv))
                  · have hb7 := take_big (i := 0) (by omega) (by omega) hD (by omega)
                    exact end_none (hP.symm.trans (by rw [hb7.1]; rfl)) (hE.symm.trans hb7.2)
                  · have hte := (take_end (i := 0) (by omega) (by omega) hD hk (by omega)).1 (by rw [hr, ← hp]; omega)
                    exact end_some (hP.symm.trans (by rw [hte.1])) (hE.symm.trans hte.2) rfl rfl rfl
                  · have hte := (take_end (i := 0) (by omega) (by omega) hD hk (by omega)).2 (by rw [hr, ← hp]; omega)
                    exact end_none (hP.symm.trans (by rw [hte.1]; rfl)) (hE.symm.trans hte.2)
              · cbv
                have a11 : at1I b 0 11 = none := at1I_f (okI_less hok11 (by omega) (by omega))
                have hno : decI b 0 = ([], dropI b 0) := dec_no (by omega) a5 a6 a7 a11
                have hD : Hu.dec (Hu.bl b) = ([], dropI b 0) := by rw [← dec_at0, hno]
                obtain ⟨k, hk⟩ : ∃ k, k = 8 * ilen b - 0 := ⟨_, rfl⟩
                repeat' (first
                  | (refine s_st hS ?_; try cbv)
                  | (refine s_sbr hS ?_ ?_ <;> intro h <;> (try cbv) <;> try exact s_ab h)
                  | (refine s_sta hS ?_; intro _ _; try cbv)
                  | (refine s_stc hS ?_; try cbv)
                  | (refine s_mul hS ?_ (by simp only [lo]; omega) (by simp only [hi]; omega); intro _ _; cbv)
                  | (refine s_jump hS rfl ?_; cbv)
                  | (refine octet_v hS hb hnb hn' hF rfl 0 k (by simp only [Z.v]; omega) (by simp only [Z.v]; omega) (by omega) (by omega) (by omega) (fun r hr => ?_); cbv)
                  | (refine s_shlv hS k (by omega) (by omega) (by omega) (by decide) (fun p hp hp1 hp2 => ?_); cbv))
                · have hb7 := take_big (i := 0) (by omega) (by omega) hD (by omega)
                  exact end_none (hP.symm.trans (by rw [hb7.1]; rfl)) (hE.symm.trans hb7.2)
                · have hte := (take_end (i := 0) (by omega) (by omega) hD hk (by omega)).1 (by rw [hr, ← hp]; omega)
                  exact end_some (hP.symm.trans (by rw [hte.1])) (hE.symm.trans hte.2) rfl rfl rfl
                · have hte := (take_end (i := 0) (by omega) (by omega) hD hk (by omega)).2 (by rw [hr, ← hp]; omega)
                  exact end_none (hP.symm.trans (by rw [hte.1]; rfl)) (hE.symm.trans hte.2)
          · cbv
            have a7 : at1I b 0 7 = none := at1I_f (okI_less hok7 (by omega) (by omega))
            have a11 : at1I b 0 11 = none := at1I_f (okI_less hok7 (by omega) (by omega))
            have hno : decI b 0 = ([], dropI b 0) := dec_no (by omega) a5 a6 a7 a11
            have hD : Hu.dec (Hu.bl b) = ([], dropI b 0) := by rw [← dec_at0, hno]
            obtain ⟨k, hk⟩ : ∃ k, k = 8 * ilen b - 0 := ⟨_, rfl⟩
            repeat' (first
              | (refine s_st hS ?_; try cbv)
              | (refine s_sbr hS ?_ ?_ <;> intro h <;> (try cbv) <;> try exact s_ab h)
              | (refine s_sta hS ?_; intro _ _; try cbv)
              | (refine s_stc hS ?_; try cbv)
              | (refine s_mul hS ?_ (by simp only [lo]; omega) (by simp only [hi]; omega); intro _ _; cbv)
              | (refine s_jump hS rfl ?_; cbv)
              | (refine octet_v hS hb hnb hn' hF rfl 0 k (by simp only [Z.v]; omega) (by simp only [Z.v]; omega) (by omega) (by omega) (by omega) (fun r hr => ?_); cbv)
              | (refine s_shlv hS k (by omega) (by omega) (by omega) (by decide) (fun p hp hp1 hp2 => ?_); cbv))
            · have hb7 := take_big (i := 0) (by omega) (by omega) hD (by omega)
              exact end_none (hP.symm.trans (by rw [hb7.1]; rfl)) (hE.symm.trans hb7.2)
            · have hte := (take_end (i := 0) (by omega) (by omega) hD hk (by omega)).1 (by rw [hr, ← hp]; omega)
              exact end_some (hP.symm.trans (by rw [hte.1])) (hE.symm.trans hte.2) rfl rfl rfl
            · have hte := (take_end (i := 0) (by omega) (by omega) hD hk (by omega)).2 (by rw [hr, ← hp]; omega)
              exact end_none (hP.symm.trans (by rw [hte.1]; rfl)) (hE.symm.trans hte.2)
      · cbv
        have a6 : at1I b 0 6 = none := at1I_f (okI_less hok6 (by omega) (by omega))
        have a7 : at1I b 0 7 = none := at1I_f (okI_less hok6 (by omega) (by omega))
        have a11 : at1I b 0 11 = none := at1I_f (okI_less hok6 (by omega) (by omega))
        have hno : decI b 0 = ([], dropI b 0) := dec_no (by omega) a5 a6 a7 a11
        have hD : Hu.dec (Hu.bl b) = ([], dropI b 0) := by rw [← dec_at0, hno]
        obtain ⟨k, hk⟩ : ∃ k, k = 8 * ilen b - 0 := ⟨_, rfl⟩
        repeat' (first
          | (refine s_st hS ?_; try cbv)
          | (refine s_sbr hS ?_ ?_ <;> intro h <;> (try cbv) <;> try exact s_ab h)
          | (refine s_sta hS ?_; intro _ _; try cbv)
          | (refine s_stc hS ?_; try cbv)
          | (refine s_mul hS ?_ (by simp only [lo]; omega) (by simp only [hi]; omega); intro _ _; cbv)
          | (refine s_jump hS rfl ?_; cbv)
          | (refine octet_v hS hb hnb hn' hF rfl 0 k (by simp only [Z.v]; omega) (by simp only [Z.v]; omega) (by omega) (by omega) (by omega) (fun r hr => ?_); cbv)
          | (refine s_shlv hS k (by omega) (by omega) (by omega) (by decide) (fun p hp hp1 hp2 => ?_); cbv))
        · have hb7 := take_big (i := 0) (by omega) (by omega) hD (by omega)
          exact end_none (hP.symm.trans (by rw [hb7.1]; rfl)) (hE.symm.trans hb7.2)
        · have hte := (take_end (i := 0) (by omega) (by omega) hD hk (by omega)).1 (by rw [hr, ← hp]; omega)
          exact end_some (hP.symm.trans (by rw [hte.1])) (hE.symm.trans hte.2) rfl rfl rfl
        · have hte := (take_end (i := 0) (by omega) (by omega) hD hk (by omega)).2 (by rw [hr, ← hp]; omega)
          exact end_none (hP.symm.trans (by rw [hte.1]; rfl)) (hE.symm.trans hte.2)
  · cbv
    have a5 : at1I b 0 5 = none := at1I_f (okI_less hok5 (by omega) (by omega))
    have a6 : at1I b 0 6 = none := at1I_f (okI_less hok5 (by omega) (by omega))
    have a7 : at1I b 0 7 = none := at1I_f (okI_less hok5 (by omega) (by omega))
    have a11 : at1I b 0 11 = none := at1I_f (okI_less hok5 (by omega) (by omega))
    have hno : decI b 0 = ([], dropI b 0) := dec_no (by omega) a5 a6 a7 a11
    have hD : Hu.dec (Hu.bl b) = ([], dropI b 0) := by rw [← dec_at0, hno]
    obtain ⟨k, hk⟩ : ∃ k, k = 8 * ilen b - 0 := ⟨_, rfl⟩
    repeat' (first
      | (refine s_st hS ?_; try cbv)
      | (refine s_sbr hS ?_ ?_ <;> intro h <;> (try cbv) <;> try exact s_ab h)
      | (refine s_sta hS ?_; intro _ _; try cbv)
      | (refine s_stc hS ?_; try cbv)
      | (refine s_mul hS ?_ (by simp only [lo]; omega) (by simp only [hi]; omega); intro _ _; cbv)
      | (refine s_jump hS rfl ?_; cbv)
      | (refine octet_v hS hb hnb hn' hF rfl 0 k (by simp only [Z.v]; omega) (by simp only [Z.v]; omega) (by omega) (by omega) (by omega) (fun r hr => ?_); cbv)
      | (refine s_shlv hS k (by omega) (by omega) (by omega) (by decide) (fun p hp hp1 hp2 => ?_); cbv))
    · have hb7 := take_big (i := 0) (by omega) (by omega) hD (by omega)
      exact end_none (hP.symm.trans (by rw [hb7.1]; rfl)) (hE.symm.trans hb7.2)
    · have hte := (take_end (i := 0) (by omega) (by omega) hD hk (by omega)).1 (by rw [hr, ← hp]; omega)
      exact end_some (hP.symm.trans (by rw [hte.1])) (hE.symm.trans hte.2) rfl rfl rfl
    · have hte := (take_end (i := 0) (by omega) (by omega) hD hk (by omega)).2 (by rw [hr, ← hp]; omega)
      exact end_none (hP.symm.trans (by rw [hte.1]; rfl)) (hE.symm.trans hte.2)
end Cz
