/- What the claims of this group lean on, part 6: our engine, the functions' simplified codes, their contracts. No condition. -/
import Derived.Test.YtdbnbknghhpbiaaDoorKU5
set_option linter.unusedSimpArgs false
set_option linter.unusedVariables false
set_option maxRecDepth 100000
set_option maxHeartbeats 4000000
namespace Cz
open Go Go.RowKit Go.Proofs
def bitI (b : List Int) (i : Int) : Int := ((Hu.bl b).getD i.toNat false).toNat
def numI (b : List Int) (i k : Int) : Int := Hu.valB (((Hu.bl b).drop i.toNat).take k.toNat)
theorem bitI_bd (b : List Int) (i : Int) : 0 ≤ bitI b i ∧ bitI b i ≤ 1 := by
  unfold bitI
  cases (Hu.bl b).getD i.toNat false <;> decide
theorem qru (b : List Int) (i : Int) : numI b i 0 = 0 := rfl
theorem qzaac {b : List Int} {i k : Int} (h0 : 0 ≤ i) (h1 : 0 ≤ k) (h2 : i + k < 8 * ilen b) : numI b i (k + 1) = 2 * numI b i k + bitI b (i + k) := by
  unfold numI bitI
  rw [show (k + 1).toNat = k.toNat + 1 by omega, List.take_add_one]
  have hlt : i.toNat + k.toNat < (Hu.bl b).length := by rw [Hu.qvx]; unfold ilen at h2; omega
  rw [List.getElem?_drop, List.getElem?_eq_getElem hlt, Option.toList_some, Hu.qqy]
  rw [List.getD_eq_getElem?_getD, show (i + k).toNat = i.toNat + k.toNat by omega, List.getElem?_eq_getElem hlt]
  simp
theorem numI_bd {b : List Int} {i k : Int} (h : k ≤ 30) : 0 ≤ numI b i k ∧ numI b i k < 1073741824 := by
  unfold numI
  have h1 := Hu.qkt (((Hu.bl b).drop i.toNat).take k.toNat)
  have h2 : 2 ^ (((Hu.bl b).drop i.toNat).take k.toNat).length ≤ 2 ^ 30 := Nat.pow_le_pow_right (by omega) (by rw [List.length_take]; omega)
  omega
theorem qzabm : ∀ {m n i : Nat}, i < m → (Hu.bitsN m n)[i]? = some (n / 2 ^ (m - 1 - i) % 2 == 1)
  | m + 1, n, i, h => by
    simp only [Hu.bitsN]
    rcases Nat.lt_or_ge i m with hi | hi
    · rw [List.getElem?_append_left (by rw [Hu.qbd]; exact hi), qzabm hi, Nat.div_div_eq_div_mul, ← Nat.pow_succ', show m + 1 - 1 - i = (m - 1 - i).succ by omega]
    · obtain rfl : i = m := by omega
      rw [List.getElem?_append_right (by rw [Hu.qbd]; omega), Hu.qbd]
      simp
theorem bl_get {b : List Int} {q j : Nat} {v : Int} (h : b[q]? = some v) (hj : j < 8) : (Hu.bl b)[q * 8 + j]? = (Hu.bitsN 8 v.toNat)[j]? := by
  induction b generalizing q with
  | nil => simp at h
  | cons u b ih =>
    cases q with
    | zero =>
      simp only [List.getElem?_cons_zero, Option.some.injEq] at h; subst h
      simp only [Hu.bl, List.flatMap_cons, Nat.zero_mul, Nat.zero_add]
      rw [List.getElem?_append_left (by rw [Hu.qbd]; exact hj)]
    | succ q =>
      simp only [List.getElem?_cons_succ] at h
      have := ih h
      simp only [Hu.bl, List.flatMap_cons] at this ⊢
      rw [List.getElem?_append_right (by rw [Hu.qbd]; omega), Hu.qbd, show (q + 1) * 8 + j - 8 = q * 8 + j by omega]
      exact this
theorem bit_of {b : List Int} {i q j v r : Int} (hv : b[q.toNat]? = some v) (hok : Hu.BOk b) (h0 : 0 ≤ i) (hq : q = i / 8) (hj : j = 7 - i % 8) (hr : r = v / 2 ^ j.toNat % 2) : bitI b i = r := by
  have hv0 := hok v (List.mem_of_getElem? hv)
  have e : i.toNat = q.toNat * 8 + (i % 8).toNat := by omega
  unfold bitI
  rw [List.getD_eq_getElem?_getD, e, bl_get hv (by omega), qzabm (by omega), show 8 - 1 - (i % 8).toNat = j.toNat by omega, hr]
  simp only [Option.getD_some]
  have e2 : v / 2 ^ j.toNat % 2 = ((v.toNat / 2 ^ j.toNat % 2 : Nat) : Int) := by
    push_cast
    rw [Int.toNat_of_nonneg hv0.1]
  rw [e2]
  have : v.toNat / 2 ^ j.toNat % 2 = 0 ∨ v.toNat / 2 ^ j.toNat % 2 = 1 := by omega
  rcases this with h | h <;> simp [h]
def okI (b : List Int) (i k : Int) : Bool := decide (0 ≤ i) && decide (i + k ≤ 8 * ilen b)
def resI (b : List Int) (i k : Int) : Int := if okI b i k then numI b i k else 0
theorem okI_t {b : List Int} {i k : Int} (h0 : 0 ≤ i) (h : i + k ≤ 8 * ilen b) : okI b i k = true := by unfold okI; simp [h0, h]
theorem okI_f {b : List Int} {i k : Int} (h : i < 0 ∨ 8 * ilen b < i + k) : okI b i k = false := by
  unfold okI
  rcases h with h | h
  · simp; omega
  · simp; omega
theorem rowB {S : Sy} (hS : S0 Tryd.prog = S) {b : List Int} {F : List SV} (hF : cellsB b = F) {q i v : Int} {K : SV → Prop} (hv : b[q.toNat]? = some v) (hi : i = q) (h0 : 0 ≤ q) (h : K (.i .u8 (.y v))) : S.rd F i 1 0 1 false K := by
  subst hi
  exact s_rowp hS (enc := by1) hF hv (fun _ => rfl) h0 (Nat.le_refl _) rfl h
theorem first_f {b : List Int} {i k r : Int} {t : Bool} (hb : Hu.BOk b) (hn : ilen b ≤ 1000000) (h1 : 1 ≤ k) (h2 : k ≤ 30) (hr : resI b i k = r) (ht : okI b i k = t) :
    (S0 Tryd.prog).call 134 [.sl 0 1 (.l 0) (.y (ilen b)) none, .i .i64 (.y i), .i .i64 (.y k)] [.r true true (.l 0) 1 (cellsB b)] (fun x _ => Sub x (.tp [.i .i64 (.y r), .b t])) := by
  obtain ⟨n, hn'⟩ : ∃ n, n = ilen b := ⟨_, rfl⟩
  rw [← hn'] at hn ⊢
  have hpl := qad b
  generalize hF : cellsB b = F at hpl ⊢
  have h0n := qai b
  generalize hS : S0 Tryd.prog = S
  refine qac hS I.qup ?_
  cbv
  repeat' (first
    | (refine s_st hS ?_; try cbv)
    | (refine qab hS ?_ ?_ <;> intro h <;> (try cbv) <;> try exact s_ab h)
    | (refine qah hS ?_; intro _ _; try cbv)
    | (refine qae hS ?_; try cbv)
    | (refine qac hS I.qxv ?_; cbv)
    | (refine qhb hS I.qsu ?_; cbv))
  · have e : okI b i k = false := okI_f (.inl (by assumption))
    have e1 : r = 0 := by rw [← hr]; unfold resI; rw [e]; rfl
    have e2 : t = false := by rw [← ht, e]
    all_goals exact s_sA
  · refine qaz hS 8 I.qma (fun x : Int × Int × Int => i ≤ x.1 ∧ x.2.2 = k - (x.1 - i) ∧ 1 ≤ x.2.2 ∧ x.2.1 = numI b i (x.1 - i) ∧ (x.1 = i ∨ x.1 ≤ 8 * n))
      (fun _ => []) (fun x => [(1, .c [.i .i64 (.y x.2.1)]), (3, .c [.i .i64 (.y x.2.2)]), (5, .c [.i .i64 (.y x.1)])])
      (fun x => (8 * n - x.1).toNat) (i, 0, k) rfl ⟨⟨by omega, by dsimp only; omega, by dsimp only; omega, by simp [qru], .inl rfl⟩, rfl, ?_, ?_, ?_⟩ ?_
    · cbv; all_goals exact s_sA
    · cbv; all_goals exact s_bA
    · cbv; exact qsm (qan hpl)
    · intro x
      obtain ⟨j, w, left⟩ := x
      intro hx
      dsimp only at hx
      cbv
      obtain ⟨g0, g1, g2, g3, g4⟩ := hx
      repeat' (first
        | (refine s_st hS ?_; try cbv)
        | (refine qab hS ?_ ?_ <;> intro h <;> (try cbv) <;> try exact s_ab h)
        | (refine qah hS ?_; intro _ _; try cbv)
        | (refine qae hS ?_; try cbv)
        | (refine qbn hS (c := 8) rfl ?_; intro _ _; cbv))
      · obtain ⟨q, hq⟩ : ∃ q, q = j / 8 := ⟨_, rfl⟩
        obtain ⟨v, hv⟩ := qfh (l := b) (i := q) (by omega) (by omega)
        have hb0 := hb v (List.mem_of_getElem? hv)
        refine qam hS rfl I.qmt (by decide +kernel) ?_
        cbv
        repeat' (first
          | (refine s_st hS ?_; try cbv)
          | (refine qab hS ?_ ?_ <;> intro h <;> (try cbv) <;> try exact s_ab h)
          | (refine qah hS ?_; intro _ _; try cbv)
          | (refine qae hS ?_; try cbv)
          | (refine qbn hS (c := 8) rfl ?_; intro _ _; cbv)
          | (refine rowB hS hF hv (by omega) (by omega) ?_; try cbv)
          | (refine qgc hS (c := 8) (m := 3) (by decide) ?_; intro _ _; cbv)
          | (refine qgc hS (c := 2) (m := 1) (by decide) ?_; intro _ _; cbv)
          | (refine s_shr hS (by simp only [IntKind.bits]; omega) ?_; intro _ _; cbv)
          | (refine And.intro rfl ?_; try cbv))
        rename_i s1 hs1 s2 hs2 s3 hs3 u hu
        have hbit : bitI b j = u := bit_of hv hb (by omega) hq (j := s2) (by omega) (by rw [hu, hs3])
        have hw : 0 ≤ w ∧ w < 1073741824 := by rw [g3]; exact numI_bd (by omega)
        have hnx := qzaac (b := b) (i := i) (k := j - i) (by omega) (by omega) (by omega)
        rw [← g3, show i + (j - i) = j by omega, hbit] at hnx
        clear hu hs3
        have hu1 := bitI_bd b j
        rw [hbit] at hu1
        refine qeb hS rfl rfl ?_
        cbv
        repeat' (first
          | (refine s_st hS ?_; try cbv)
          | (refine qab hS ?_ ?_ <;> intro h <;> (try cbv) <;> try exact s_ab h)
          | (refine qah hS ?_; intro _ _; try cbv)
          | (refine qae hS ?_; try cbv)
          | (refine qpg hS (c := 2) rfl ?_ (by simp only [lo]; omega) (by simp only [hi]; omega); intro _ _; cbv)
          | (refine s_orl hS (c := 2) (m := 1) rfl (by omega) (by omega) (by omega) (by omega) (by simp only [hi]; omega) ?_; intro _ _; cbv))
        · have e : okI b i k = true := okI_t (by omega) (by omega)
          have e1 : r = 2 * w + u := by rw [← hr]; unfold resI; rw [e, show k = j - i + 1 by omega]; simpa using hnx
          have e2 : t = true := by rw [← ht, e]
          all_goals exact s_sA
        · rename_i w2 hw2 l2 hl2 j2 hj2
          refine ⟨(j2, w2, l2), by dsimp only; omega, ⟨by dsimp only; omega, by dsimp only; omega, by dsimp only; omega, by dsimp only; rw [show j2 - i = j - i + 1 by omega, hnx]; omega, .inr (by dsimp only; omega)⟩, rfl, ?_, ?_, ?_⟩
          · cbv; all_goals exact s_sA
          · cbv; all_goals exact s_bA
          · cbv; exact qsm (qan hpl)
      · have e : okI b i k = false := okI_f (.inr (by omega))
        have e1 : r = 0 := by rw [← hr]; unfold resI; rw [e]; rfl
        have e2 : t = false := by rw [← ht, e]
        all_goals exact s_sA
def oBitsB (b : List Int) (i k : Int) : Bool := if k = 0 then decide (0 ≤ i) && decide (i ≤ 8 * ilen b) else if k < 0 ∨ 30 < k then false else okI b i k
def oBitsR (b : List Int) (i k : Int) : Int := if oBitsB b i k then numI b i k else 0
theorem oBits_f {b : List Int} {i k r : Int} {t : Bool} (hb : Hu.BOk b) (hn : ilen b ≤ 1000000) (hr : oBitsR b i k = r) (ht : oBitsB b i k = t) :
    (S0 Tryd.prog).call 129 [.sl 0 1 (.l 0) (.y (ilen b)) none, .i .i64 (.y i), .i .i64 (.y k)] [.r true true (.l 0) 1 (cellsB b)] (fun x _ => Sub x (.tp [.i .i64 (.y r), .b t])) := by
  have hc : ∀ (h1 : 1 ≤ k) (h2 : k ≤ 30) (e : t = okI b i k), (S0 Tryd.prog).call 134 [.sl 0 1 (.l 0) (.y (ilen b)) none, .i .i64 (.y i), .i .i64 (.y k)] [.r true true (.l 0) 1 (cellsB b)] (fun x _ => Sub x (.tp [.i .i64 (.y r), .b t])) := by
    intro h1 h2 e
    refine first_f hb hn h1 h2 ?_ e.symm
    rw [← hr]; unfold oBitsR resI; rw [ht, e]
  obtain ⟨n, hn'⟩ : ∃ n, n = ilen b := ⟨_, rfl⟩
  have h0n := qai b
  rw [← hn'] at hn h0n hc ⊢
  have hpl := qad b
  generalize hF : cellsB b = F at hpl hc ⊢
  generalize hS : S0 Tryd.prog = S
  refine qac hS I.qxw ?_
  cbv
  repeat' (first
    | (refine s_st hS ?_; try cbv)
    | (refine qab hS ?_ ?_ <;> intro h <;> (try cbv) <;> try exact s_ab h)
    | (refine qah hS ?_; intro _ _; try cbv)
    | (refine qae hS ?_; try cbv)
    | (refine qmk hS ?_ (by simp only [lo]; omega) (by simp only [hi]; omega); intro _ _; try cbv))
  · rename_i h0 _ e
    have e1 : r = 0 := by rw [← hr]; unfold oBitsR; rw [h0, qru]; simp
    have e2 : t = decide (i ≤ 8 * n) := by rw [← ht]; unfold oBitsB; rw [h0, ← hn']; simp [h]
    refine qas (.cons (qag (by simp only [Z.v]; omega)) (.cons (qwd ?_) .nil))
    simp only [← hS, Int.ofNat_eq_natCast, cq, Bool.not_eq_true', Bool.not_eq_false', decide_eq_true_eq, decide_eq_false_iff_not, beq_iff_eq, beq_eq_false_iff_ne, ne_eq]
    rw [e2, e]
  · have e2 : t = false := by rw [← ht]; unfold oBitsB; simp [*]
    have e1 : r = 0 := by rw [← hr]; unfold oBitsR; rw [ht, e2]; rfl
    all_goals exact s_sA
  · have e2 : t = false := by rw [← ht]; unfold oBitsB; simp [*]
    have e1 : r = 0 := by rw [← hr]; unfold oBitsR; rw [ht, e2]; rfl
    all_goals exact s_sA
  · have e2 : t = false := by rw [← ht]; unfold oBitsB; rw [if_neg (by omega), if_pos (by omega)]
    have e1 : r = 0 := by rw [← hr]; unfold oBitsR; rw [ht, e2]; rfl
    all_goals exact s_sA
  · have e2 : t = okI b i k := by rw [← ht]; unfold oBitsB; rw [if_neg (by omega), if_neg (by omega)]
    refine qdv hS id (hc (by omega) (by omega) e2) .rfl rfl ?_ rfl ?_
    · exact ⟨⟨true, .l 0, 1, F, true, true, .l 0, F, rfl, hpl, rfl, .rfl⟩, trivial⟩
    · cbv; all_goals exact s_sA
end Cz
namespace Cz
open Go Go.RowKit Go.Proofs
def bitsI (b : List Int) (k : Int) : Int := Hu.nbits (b.take k.toNat)
theorem zs_len {Zs : List SV} (h : repS 512 [SV.i .i64 (.l 0)] = Zs) : Zs.length = 512 := by rw [← h, qwq, List.length_replicate]
theorem qnl {T : List SV} (h : codeLit = T) : plains T = true := by rw [← h, ← qgq]; exact qux 256
theorem gc_c {x y : Bool} : x = true → y = true → (match x with | false => false | true => y) = true := by intro hx hy; subst hx; exact hy
theorem gc_m {F : List SV} {ok : Nat → Bool} : refsBL ok F = true → (match F with | [] => true | x :: xs => refsB ok x && refsBL ok xs) = true := by
  intro h
  cases F with
  | nil => rfl
  | cons x xs => simpa only [refsBL] using h
theorem code_at {c j : Nat} (h : c < 256) (hj : j + 1 ≤ 2) : ((upto 256).drop (c * 2 + j)).take 1 = ((cellC c).drop j).take 1 := by
  have e : upto 256 = (List.range 256).flatMap cellC := by simp [upto]
  rw [e]
  exact qzacv (enc := cellC) (sz := 2) (fun _ => rfl) (l := List.range 256) (i := c) (a := c) (by simp [h]) j 1 hj
theorem code_rd1 {S : Sy} (hS : S0 Tryd.prog = S) {T : List SV} (hT : codeLit = T) {c : Int} {K : SV → Prop} (h0 : 0 ≤ c) (h : c < 256) {m : Int} (hm : clsI c = m)
    (h1 : K (.i .i64 (.y m))) : S.rd T c 2 1 1 false K := by
  subst hT hm
  rw [← qgq]
  refine s_rd hS h0 (by rw [qfi (Nat.le_refl _)]; omega) (Nat.le_refl _) (v := .i .i64 (.y (clsI c))) ?_ h1
  rw [code_at (by omega) (by omega)]
  rfl
theorem code_rd0 {S : Sy} (hS : S0 Tryd.prog = S) {T : List SV} (hT : codeLit = T) {c : Int} {K : SV → Prop} (h0 : 0 ≤ c) (h : c < 256) {m : Int} (hm : codeI c = m)
    (h1 : K (.i .i64 (.y m))) : S.rd T c 2 0 1 false K := by
  subst hT hm
  rw [← qgq]
  refine s_rd hS h0 (by rw [qfi (Nat.le_refl _)]; omega) (by omega) (v := .i .i64 (.y (codeI c))) ?_ h1
  rw [code_at (by omega) (by omega)]
  rfl
theorem qyl (c : Int) : 5 ≤ clsI c ∧ clsI c ≤ 11 := by
  unfold clsI
  rcases Hu.qjf c.toNat with h | h | h | h <;> rw [h] <;> decide
theorem qvy {b : List Int} {j v : Int} (hv : b[j.toNat]? = some v) (h0 : 0 ≤ j) : bitsI b (j + 1) = bitsI b j + clsI v := by
  unfold bitsI Hu.nbits Hu.enc clsI
  rw [qia hv h0, List.flatMap_append, List.length_append]
  simp [Hu.cod, Hu.qbd]
theorem qnt {b : List Int} {j : Int} (h0 : 0 ≤ j) : 0 ≤ bitsI b j ∧ bitsI b j ≤ 11 * j := by
  unfold bitsI Hu.nbits Hu.enc
  have h1 : ∀ (l : List Int), (l.flatMap fun v => Hu.cod v.toNat).length ≤ 11 * l.length := by
    intro l
    induction l with
    | nil => simp
    | cons v l ih =>
      have := qyl v
      unfold clsI at this
      simp only [List.flatMap_cons, List.length_append, List.length_cons, Hu.cod, Hu.qbd] at ih ⊢
      omega
  have h2 := h1 (b.take j.toNat)
  have h3 : (b.take j.toNat).length ≤ j.toNat := by rw [List.length_take]; omega
  omega
theorem Bits_f {b : List Int} {r : Int} (hb : Hu.BOk b) (hn : ilen b ≤ 1000000) (hr : bitsI b (ilen b) = r) :
    (S0 Tryd.prog).call 101 [.sl 0 1 (.l 0) (.y (ilen b)) none] [.r true true (.l 0) 1 (cellsB b)] (fun x _ => Sub x (.i .i64 (.y r))) := by
  obtain ⟨n, hn'⟩ : ∃ n, n = ilen b := ⟨_, rfl⟩
  have h0n := qai b
  rw [← hn'] at hn h0n hr ⊢
  have hpl := qad b
  generalize hF : cellsB b = F at hpl ⊢
  have hc := codes_f
  generalize hT : codeLit = T at hc
  have hTl := qtf hT
  generalize hS : S0 Tryd.prog = S
  refine qac hS I.qzabc ?_
  unfold I.qzaaq
  generalize hZ : repS 512 [SV.i .i64 (.l 0)] = Zs
  have hZn := zs_len hZ
  have hTn : T.length = 512 := by rw [← qbz]; exact hTl
  have hTp := qnl hT
  cbv
  refine qbe hS hc .rfl rfl (by rw [← hT]; rfl) ?_
  cbv
  refine qwk hS (by subst hS; simp only [qzacu, qvv, hTn]; rfl) ?_
  refine s_all hS hZn hTn hTp ?_
  cbv
  refine qaz hS 2 I.qpy (fun x : Int × Int => 0 ≤ x.1 ∧ x.1 ≤ n ∧ x.2 = bitsI b x.1)
    (fun x => [(9, .i .i64 (.y x.1)), (2, .i .i64 (.y x.2))]) (fun x => [])
    (fun x => (n - x.1).toNat) (0, 0) rfl ⟨⟨Int.le_refl _, by dsimp only; omega, rfl⟩, rfl, ?_, ?_, ?_⟩ ?_
  · cbv; all_goals exact s_sA
  · cbv; all_goals exact s_bA
  · cbv; exact gc_c (gc_m (qan hpl)) (gc_c (gc_m (qan hTp)) rfl)
  · intro x
    obtain ⟨j, w⟩ := x
    intro hx
    dsimp only at hx
    cbv
    obtain ⟨g0, g1, g2⟩ := hx
    repeat' (first
      | (refine s_st hS ?_; try cbv)
      | (refine qab hS ?_ ?_ <;> intro h <;> (try cbv) <;> try exact s_ab h)
      | (refine qah hS ?_; intro _ _; try cbv)
      | (refine qae hS ?_; try cbv))
    · obtain ⟨v, hv⟩ := qfh (l := b) (i := j) (by omega) (by omega)
      have hb0 := hb v (List.mem_of_getElem? hv)
      obtain ⟨m, hm⟩ : ∃ m, clsI v = m := ⟨_, rfl⟩
      have hmb := qyl v
      rw [hm] at hmb
      have hbd := qnt (b := b) g0
      have hnx := qvy hv g0
      rw [hm] at hnx
      repeat' (first
        | (refine s_st hS ?_; try cbv)
        | (refine qab hS ?_ ?_ <;> intro h <;> (try cbv) <;> try exact s_ab h)
        | (refine qah hS ?_; intro _ _; try cbv)
        | (refine qae hS ?_; try cbv)
        | (refine rowB hS hF hv rfl (by omega) ?_; try cbv)
        | (refine qvl (qvk hTl) ?_; cbv)
        | (refine code_rd1 hS hT hb0.1 hb0.2 hm ?_; cbv))
      rename_i w2 hw2 j2 hj2
      refine ⟨(j2, w2), by dsimp only; omega, ⟨by dsimp only; omega, by dsimp only; omega, by dsimp only; rw [hj2, hnx]; omega⟩, rfl, ?_, ?_, ?_⟩
      · cbv; all_goals exact s_sA
      · cbv; all_goals exact s_bA
      · cbv; exact gc_c (gc_m (qan hpl)) (gc_c (gc_m (qan hTp)) rfl)
    · have e : w = r := by rw [← hr, g2, show j = n by omega]
      all_goals exact s_sA
end Cz
namespace Cz
open Go Go.RowKit Go.Proofs
def encT (b : List Int) (j : Int) : List Bool := Hu.enc (b.take j.toNat)
def outI (b : List Int) (j q : Int) : List Int := Hu.packs q.toNat (encT b j)
def rowI (b : List Int) (j q : Int) : Int := Hu.valB ((encT b j).drop (8 * q.toNat))
theorem qhk (b : List Int) (j : Int) : ((encT b j).length : Int) = bitsI b j := rfl
theorem qzabh {b : List Int} {j v : Int} (hv : b[j.toNat]? = some v) (h0 : 0 ≤ j) : encT b (j + 1) = encT b j ++ Hu.cod v.toNat := by
  unfold encT Hu.enc
  rw [qia hv h0, List.flatMap_append]
  simp
theorem qof : ∀ (q : Nat) (E : List Bool), Hu.packs (q + 1) E = Hu.packs q E ++ [(Hu.valB ((E.drop (8 * q)).take 8) : Int)]
  | 0, E => by simp [Hu.packs]
  | q + 1, E => by
    rw [Hu.packs, qof q (E.drop 8), Hu.packs, List.drop_drop, show 8 + 8 * q = 8 * (q + 1) by omega]
    rfl
theorem qrr : ∀ (q : Nat) (E D : List Bool), 8 * q ≤ E.length → Hu.packs q (E ++ D) = Hu.packs q E
  | 0, _, _, _ => rfl
  | q + 1, E, D, h => by
    rw [Hu.packs, Hu.packs, List.take_append_of_le_length (by omega), List.drop_append_of_le_length (by omega), qrr q _ _ (by simp; omega)]
theorem qfl (k : Nat) : ((2 ^ k : Nat) : Int) = (2 : Int) ^ k := by norm_cast
theorem row_next {b : List Int} {j q v : Int} (hv : b[j.toNat]? = some v) (h0 : 0 ≤ j) (hq : 0 ≤ q) (h : 8 * q ≤ bitsI b j) (hb : 0 ≤ v ∧ v < 256) :
    rowI b (j + 1) q = rowI b j q * 2 ^ (clsI v).toNat + codeI v := by
  unfold rowI
  rw [qzabh hv h0, List.drop_append_of_le_length (by rw [← qhk] at h; omega), Hu.qdr]
  unfold clsI codeI Hu.cod
  rw [Hu.qbd, Hu.qjh _ _ (Hu.qzada (by omega))]
  push_cast
  simp
theorem out_next {b : List Int} {j q v : Int} (hv : b[j.toNat]? = some v) (h0 : 0 ≤ j) (hq : 0 ≤ q) (h : 8 * q ≤ bitsI b j) : outI b (j + 1) q = outI b j q := by
  unfold outI
  rw [qzabh hv h0, qrr _ _ _ (by rw [← qhk] at h; omega)]
theorem valB_mod (A B : List Bool) : Hu.valB (A ++ B) % 2 ^ B.length = Hu.valB B := by
  rw [Hu.qdr, Nat.add_comm, Nat.add_mul_mod_self_right, Nat.mod_eq_of_lt (Hu.qkt B)]
theorem valB_div (A B : List Bool) : Hu.valB (A ++ B) / 2 ^ B.length = Hu.valB A := by
  rw [Hu.qdr, Nat.add_comm, Nat.add_mul_div_right _ _ (Nat.two_pow_pos _), Nat.div_eq_of_lt (Hu.qkt B), Nat.zero_add]
theorem row_mask {b : List Int} {j q q0 : Int} (hq0 : 0 ≤ q0) (hq : q0 ≤ q) (h : 8 * q ≤ bitsI b j) : rowI b j q0 % 2 ^ (bitsI b j - 8 * q).toNat = rowI b j q := by
  unfold rowI
  rw [← qhk] at h ⊢
  generalize encT b j = E at h ⊢
  have e : E.drop (8 * q0.toNat) = (E.drop (8 * q0.toNat)).take (8 * (q.toNat - q0.toNat)) ++ E.drop (8 * q.toNat) := by
    conv => lhs; rw [← List.take_append_drop (8 * (q.toNat - q0.toNat)) (E.drop (8 * q0.toNat))]
    rw [List.drop_drop, show 8 * q0.toNat + 8 * (q.toNat - q0.toNat) = 8 * q.toNat by omega]
  have hl : ((E.length : Int) - 8 * q).toNat = (E.drop (8 * q.toNat)).length := by rw [List.length_drop]; omega
  rw [hl, ← qfl, ← Int.natCast_emod]
  rw [e, valB_mod]
theorem row_bd {b : List Int} {j q : Int} (hq : 0 ≤ q) (h : 8 * q ≤ bitsI b j) : 0 ≤ rowI b j q ∧ rowI b j q < 2 ^ (bitsI b j - 8 * q).toNat := by
  unfold rowI
  rw [← qhk] at h ⊢
  have h1 := Hu.qkt ((encT b j).drop (8 * q.toNat))
  rw [List.length_drop, show (encT b j).length - 8 * q.toNat = (((encT b j).length : Int) - 8 * q).toNat by omega] at h1
  rw [← qfl]
  omega
theorem out_more {b : List Int} {j q q0 r s u x : Int} (hq0 : 0 ≤ q0) (hq : q0 ≤ q) (h : 8 * (q + 1) ≤ bitsI b j) (hr : rowI b j q0 = r) (hu : u = bitsI b j - 8 * (q + 1)) (hs : s = r / 2 ^ u.toNat) (hx : x = s % 256) :
    outI b j (q + 1) = outI b j q ++ [x] := by
  unfold outI
  rw [show (q + 1).toNat = q.toNat + 1 by omega, qof]
  congr 2
  rw [hx, hs, ← hr, hu]
  unfold rowI
  rw [← qhk] at h ⊢
  generalize encT b j = E at h ⊢
  have e1 : E.drop (8 * q0.toNat) = (E.drop (8 * q0.toNat)).take (8 * (q.toNat - q0.toNat)) ++ ((E.drop (8 * q.toNat)).take 8 ++ E.drop (8 * (q.toNat + 1))) := by
    have e2 : E.drop (8 * q.toNat) = (E.drop (8 * q.toNat)).take 8 ++ E.drop (8 * (q.toNat + 1)) := by
      conv => lhs; rw [← List.take_append_drop 8 (E.drop (8 * q.toNat))]
      rw [List.drop_drop, show 8 * q.toNat + 8 = 8 * (q.toNat + 1) by omega]
    rw [← e2]
    conv => lhs; rw [← List.take_append_drop (8 * (q.toNat - q0.toNat)) (E.drop (8 * q0.toNat))]
    rw [List.drop_drop, show 8 * q0.toNat + 8 * (q.toNat - q0.toNat) = 8 * q.toNat by omega]
  have hl : ((E.length : Int) - 8 * (q + 1)).toNat = (E.drop (8 * (q.toNat + 1))).length := by rw [List.length_drop]; omega
  rw [hl, e1, ← List.append_assoc, ← qfl, ← Int.natCast_ediv, valB_div]
  have h8 : ((E.drop (8 * q.toNat)).take 8).length = 8 := by rw [List.length_take, List.length_drop]; omega
  have := valB_mod ((E.drop (8 * q0.toNat)).take (8 * (q.toNat - q0.toNat))) ((E.drop (8 * q.toNat)).take 8)
  rw [h8] at this
  rw [← this]
  rfl
theorem put_end0 {b : List Int} {n q : Int} (hn : n = ilen b) (hq : 0 ≤ q) (h : bitsI b n = 8 * q) : Hu.put b = outI b n q := by
  have e : encT b n = Hu.enc b := by unfold encT; rw [qbt (by omega)]
  have hl := qhk b n
  rw [h, e] at hl
  unfold outI Hu.put Hu.pack
  rw [e]
  have : Hu.padded (Hu.enc b) = Hu.enc b := by unfold Hu.padded Hu.pad; rw [show (8 - (Hu.enc b).length % 8) % 8 = 0 by omega]; simp
  rw [this, show (Hu.enc b).length / 8 = q.toNat by omega]
theorem put_end1 {b : List Int} {n q w u x : Int} (hn : n = ilen b) (hq : 0 ≤ q) (hu : u = 8 - (bitsI b n - 8 * q)) (h1 : 0 < bitsI b n - 8 * q) (h2 : bitsI b n - 8 * q < 8) (hr : rowI b n q = w)
    (hx : x = w * 2 ^ u.toNat + (2 ^ u.toNat - 1)) : Hu.put b = outI b n q ++ [x] := by
  have e : encT b n = Hu.enc b := by unfold encT; rw [qbt (by omega)]
  have hl := qhk b n
  rw [e] at hl
  unfold rowI at hr
  unfold outI Hu.put Hu.pack
  rw [Hu.qoe, e]
  rw [e] at hr
  rw [show 8 * (((Hu.enc b).length + 7) / 8) / 8 = q.toNat + 1 by omega, qof]
  have hp : Hu.pad (Hu.enc b).length = u.toNat := by unfold Hu.pad; omega
  have e1 : Hu.packs q.toNat (Hu.padded (Hu.enc b)) = Hu.packs q.toNat (Hu.enc b) := by unfold Hu.padded; rw [qrr _ _ _ (by omega)]
  rw [e1]
  congr 2
  unfold Hu.padded
  rw [hp, List.drop_append_of_le_length (by omega), List.take_of_length_le (by simp; omega), Hu.qdr, List.length_replicate, Hu.qmd, hx, ← hr]
  have := Nat.two_pow_pos u.toNat
  rw [← qfl, Int.natCast_add, Int.natCast_mul, Int.natCast_sub (by omega)]
  rfl
theorem qxb (b : List Int) (j q : Int) (hq : 0 ≤ q) : ilen (outI b j q) = q := by unfold ilen outI; rw [Hu.qrs]; omega
end Cz
namespace Cz
open Go Go.RowKit Go.Proofs
theorem s_cv8 {S : Sy} {P : Program} {a : Int} {K : Int → Prop} (hS : S0 P = S) (h : ∀ r, r = a % 256 → K r) : S.cv .u8 a K := by
  refine s_cve hS _ ?_ (h _ rfl)
  simp [IntKind.wrap, IntKind.bits, IntKind.signed]
theorem qji {S : Sy} (hS : S0 Tryd.prog = S) {l l' : List Int} {F G : List SV} {x st' : Int} {ro lit : Bool} {st : Z} (hF : cellsB l = F) (hG : cellsB l' = G) (hl : l' = l ++ [x]) (hst : st.v = st') :
    SubB (.r ro lit st 1 (S.app F [.i .u8 (.y x)])) (.r ro false (.y st') 1 G) := by
  subst hS hF hG hl
  refine .r ?_ hst (qad _)
  rw [app_eq]
  have : cellsB l ++ [SV.i .u8 (.y x)] = cellsB (l ++ [x]) := by unfold cellsB; rw [List.flatMap_append]; rfl
  rw [this]
  exact .rfl
theorem qhu {S : Sy} (hS : S0 Tryd.prog = S) {q : Int} {sz : Nat} {G : List SV} {k : Unit → Prop} (h : ilen G = q * sz) (hk : k ()) : S.chk (S.cmp .eq (S.sc q sz) (S.flen G)) k := by
  subst hS
  refine qwk rfl ?_ hk
  rw [qvv, sc_eq, qzacu]
  unfold ilen at h
  exact decide_eq_true h.symm
theorem qbh (l : List Int) : ilen (cellsB l) = ilen l := by rw [qjw]; simp [ilen]
theorem qzv {S : Sy} (hS : S0 Tryd.prog = S) {n0 k : Nat} {l L : List Int} {F G : List SV} {x : Int} {lit : Bool} {st nn : Z} {l' : List Blk} (hF : cellsB l = F) (hG : cellsB L = G) (hl : L = l ++ [x]) (hk : n0 ≤ k)
    (hn : nn.v = ilen l + 1) (hB : l'[k]? = some (.r false lit st 1 (S.app F [.i .u8 (.y x)]))) : RowIs n0 1 G (.sl k 1 (.l 0) nn none) l' := by
  subst hS hF hG hl
  have e : (S0 Tryd.prog).app (cellsB l) [SV.i .u8 (.y x)] = cellsB (l ++ [x]) := by rw [app_eq]; unfold cellsB; rw [List.flatMap_append]; rfl
  rw [e] at hB
  refine .inr ⟨k, nn, lit, st, _, hk, rfl, hB, .rfl, qad _, ?_⟩
  have := qbh (l ++ [x])
  unfold ilen at this hn
  rw [this, hn]
  simp
theorem qge {n0 k : Nat} {l : List Int} {G : List SV} {lit : Bool} {st nn : Z} {l' : List Blk} (hG : cellsB l = G) (hk : n0 ≤ k)
    (hn : nn.v = ilen l) (hB : l'[k]? = some (.r false lit st 1 G)) : RowIs n0 1 G (.sl k 1 (.l 0) nn none) l' := by
  subst hG
  refine .inr ⟨k, nn, lit, st, _, hk, rfl, hB, .rfl, qad _, ?_⟩
  have := qbh l
  unfold ilen at this hn
  rw [this, hn]
  simp
theorem codeI_bd {v : Int} (h : 0 ≤ v ∧ v < 256) : 0 ≤ codeI v ∧ codeI v < 2 ^ (clsI v).toNat ∧ codeI v < 2048 := by
  have h1 := Hu.qzada (c := v.toNat) (by omega)
  have h2 : (2 : Nat) ^ Hu.cls v.toNat ≤ 2 ^ 11 := Nat.pow_le_pow_right (by omega) (by rcases Hu.qjf v.toNat with h | h | h | h <;> omega)
  unfold codeI clsI
  rw [Int.toNat_natCast, ← qfl]
  omega
theorem row_bd' {b : List Int} {j q : Int} (hq : 0 ≤ q) (h : 8 * q ≤ bitsI b j) {k : Nat} (hk : bitsI b j - 8 * q ≤ k) : 0 ≤ rowI b j q ∧ rowI b j q < 2 ^ k := by
  have h1 := row_bd hq h
  have h2 := qhv (m := (bitsI b j - 8 * q).toNat) (n := k) (by omega)
  omega
theorem put_f {b : List Int} (hb : Hu.BOk b) (hn : ilen b ≤ 1000000) :
    (S0 Tryd.prog).call 103 [.sl 0 1 (.l 0) (.y (ilen b)) none] [.r true true (.l 0) 1 (cellsB b)] (OwnR 1 1 (cellsB (Hu.put b)) false []) := by
  obtain ⟨n, hn'⟩ : ∃ n, n = ilen b := ⟨_, rfl⟩
  have h0n := qai b
  rw [← hn'] at hn h0n ⊢
  have hpl := qad b
  generalize hF : cellsB b = F at hpl ⊢
  have hc := codes_f
  generalize hT : codeLit = T at hc
  have hTl := qtf hT
  have hTn : T.length = 512 := by rw [← qbz]; exact hTl
  have hTp := qnl hT
  generalize hP : cellsB (Hu.put b) = P
  generalize hS : S0 Tryd.prog = S
  refine qac hS I.qzact ?_
  unfold I.huff_Put
  generalize hZ : repS 512 [SV.i .i64 (.l 0)] = Zs
  have hZn := zs_len hZ
  cbv
  refine qbe hS hc .rfl rfl (by rw [← hT]; rfl) ?_
  cbv
  refine qwk hS (by subst hS; simp only [qzacu, qvv, hTn]; rfl) ?_
  refine s_all hS hZn hTn hTp ?_
  cbv
  refine quz hS 2 1 (by omega) rfl ?_
  cbv
  refine qaz hS 3 I.qte (fun x : Int × Int × Int × Int × Int × List SV => 0 ≤ x.1 ∧ x.1 ≤ n ∧ 0 ≤ x.2.2.2.1 ∧ x.2.1 = bitsI b x.1 - 8 * x.2.2.2.1 ∧ 0 ≤ x.2.1 ∧ x.2.1 < 8 ∧ x.2.2.1 = rowI b x.1 x.2.2.2.1 ∧ x.2.2.2.2.2 = cellsB (outI b x.1 x.2.2.2.1))
    (fun x => [(12, .i .i64 (.y x.1)), (4, .i .i64 (.y x.2.1)), (3, .i .u64 (.y x.2.2.1)), (2, .sl 2 1 (.l 0) (.y x.2.2.2.1) none)]) (fun x => [(2, .r false false (.y x.2.2.2.2.1) 1 x.2.2.2.2.2)])
    (fun x => (n - x.1).toNat) (0, 0, 0, 0, 0, []) rfl ⟨⟨Int.le_refl _, by dsimp only; omega, by dsimp only; omega, rfl, by dsimp only; omega, by dsimp only; omega, rfl, rfl⟩, rfl, ?_, ?_, ?_⟩ ?_
  · cbv; (repeat' (first | exact qdg | exact Sub.rfl | exact SubL.nil | refine SubL.cons ?_ ?_ | exact qag rfl | exact qcm rfl rfl))
  · cbv; refine ⟨.rfl, .rfl, .r .rfl rfl rfl, trivial⟩
  · cbv; exact gc_c (gc_m (qan hpl)) (gc_c (gc_m (qan hTp)) rfl)
  · intro x
    obtain ⟨j, u, w, q, st, G⟩ := x
    intro hx
    dsimp only at hx
    cbv
    obtain ⟨g0, g1, g2, g3, g4, g5, g6, g7⟩ := hx
    refine qab hS ?_ ?_ <;> intro h <;> cbv
    · obtain ⟨v, hv⟩ := qfh (l := b) (i := j) (by omega) (by omega)
      have hb0 := hb v (List.mem_of_getElem? hv)
      obtain ⟨m, hm⟩ : ∃ m, clsI v = m := ⟨_, rfl⟩
      obtain ⟨c, hcv⟩ : ∃ c, codeI v = c := ⟨_, rfl⟩
      have hmb := qyl v
      rw [hm] at hmb
      have hbd := qnt (b := b) g0
      have hnx := qvy hv g0
      rw [hm] at hnx
      repeat' (first
        | (refine s_st hS ?_; try cbv)
        | (refine qab hS ?_ ?_ <;> intro h <;> (try cbv) <;> try exact s_ab h)
        | (refine qah hS ?_; intro _ _; try cbv)
        | (refine qae hS ?_; try cbv)
        | (refine rowB hS hF hv rfl (by omega) ?_; try cbv))
      have hcb := codeI_bd hb0
      rw [hcv, hm] at hcb
      have hW := row_next hv g0 g2 (by omega) hb0
      rw [hm, hcv, ← g6] at hW
      have hWb := row_bd' (b := b) (j := j + 1) (q := q) g2 (by omega) (k := 18) (by omega)
      obtain ⟨p, hp⟩ : ∃ p : Int, 2 ^ m.toNat = p := ⟨_, rfl⟩
      rw [hp] at hW hcb
      obtain ⟨W, hWe⟩ : ∃ W, rowI b (j + 1) q = W := ⟨_, rfl⟩
      rw [hWe] at hW hWb
      have hw0 := (row_bd (b := b) (j := j) (q := q) g2 (by omega)).1
      rw [← g6] at hw0
      have hwp : 0 ≤ w * p := Int.mul_nonneg hw0 (by omega)
      refine qam hS rfl I.qtr (by decide +kernel) ?_
      cbv
      repeat' (first
        | (refine s_st hS ?_; try cbv)
        | (refine qab hS ?_ ?_ <;> intro h <;> (try cbv) <;> try exact s_ab h)
        | (refine qah hS ?_; intro _ _; try cbv)
        | (refine qae hS ?_; try cbv)
        | (refine rowB hS hF hv rfl (by omega) ?_; try cbv)
        | (refine qvl (qvk hTl) ?_; cbv)
        | (refine code_rd1 hS hT hb0.1 hb0.2 hm ?_; cbv)
        | (refine code_rd0 hS hT hb0.1 hb0.2 hcv ?_; cbv)
        | (refine And.intro rfl ?_; try cbv)
        | (refine qpg hS (c := p) (by rw [← hp]; congr 1; simp only [IntKind.bits]; omega) ?_ (by simp only [lo]; omega) (by simp only [hi]; omega); intro _ _; cbv)
        | (refine s_orl hS hp (by omega) (by simp only [*]; exact Int.mul_emod_left _ _) (by omega) (by omega) (by simp only [hi]; omega) ?_; intro _ _; cbv))
      rename_i r1 hr1 r2 hr2 u1 hu1
      obtain ⟨j1, h_j1⟩ : ∃ j1, j1 = j + 1 := ⟨_, rfl⟩
      rw [← h_j1] at hnx hWe
      have hout : G = cellsB (outI b j1 q) := by rw [g7, h_j1, out_next hv g0 g2 (by omega)]
      have hr2W : rowI b j1 q = r2 := by rw [hWe]; omega
      clear hp hwp hr1 hr2 hW hWe hcb
      refine qaz hS 3 I.qtd (fun x : Int × Int × Int × List SV => q ≤ x.2.1 ∧ x.1 = bitsI b j1 - 8 * x.2.1 ∧ 0 ≤ x.1 ∧ x.1 ≤ 18 ∧ x.2.2.2 = cellsB (outI b j1 x.2.1))
        (fun x => [(4, .i .i64 (.y x.1)), (2, .sl 2 1 (.l 0) (.y x.2.1) none)]) (fun x => [(2, .r false false (.y x.2.2.1) 1 x.2.2.2)])
        (fun x => x.1.toNat) (u1, q, st, G) rfl ⟨⟨by dsimp only; omega, by dsimp only; omega, by dsimp only; omega, by dsimp only; omega, hout⟩, rfl, ?_, ?_, ?_⟩ ?_
      · cbv; all_goals exact s_sA
      · cbv; all_goals exact s_bA
      · cbv; exact gc_c (gc_m (qan hpl)) (gc_c (gc_m (qan hTp)) rfl)
      · intro x
        obtain ⟨y, q1, st1, G1⟩ := x
        intro hx
        dsimp only at hx
        cbv
        obtain ⟨k0, k1, k2, k3, k4⟩ := hx
        refine qab hS ?_ ?_ <;> intro h <;> cbv
        · have hG1 : ilen G1 = q1 := by rw [k4, qbh, qxb _ _ _ (by omega)]
          repeat' (first
            | (refine s_st hS ?_; try cbv)
            | (refine qab hS ?_ ?_ <;> intro h <;> (try cbv) <;> try exact s_ab h)
            | (refine qah hS ?_; intro _ _; try cbv)
            | (refine qae hS ?_; try cbv)
            | (refine s_shr hS (by simp only [IntKind.bits]; omega) ?_; intro _ _; cbv)
            | (refine s_cv8 hS ?_; intro _ _; cbv))
          refine qhu hS (by rw [hG1]; omega) ?_
          cbv
          repeat' (first
            | (refine s_st hS ?_; try cbv)
            | (refine qab hS ?_ ?_ <;> intro h <;> (try cbv) <;> try exact s_ab h)
            | (refine qah hS ?_; intro _ _; try cbv)
            | (refine qae hS ?_; try cbv))
          rename_i y2 hy2 s2 hs2 x2 hx2
          obtain ⟨q2, h_q2⟩ : ∃ q2, q2 = q1 + 1 := ⟨_, rfl⟩
          obtain ⟨st2, h_st2⟩ : ∃ st2, st2 = S.flen G1 := ⟨_, rfl⟩
          obtain ⟨G2, h_G2⟩ : ∃ G2, G2 = cellsB (outI b j1 q2) := ⟨_, rfl⟩
          refine ⟨(y2, q2, st2, G2), by dsimp only; omega, ⟨by dsimp only; omega, by dsimp only; omega, by dsimp only; omega, by dsimp only; omega, h_G2⟩, rfl, ?_, ?_, ?_⟩
          · cbv; (repeat' (first | exact qdg | exact Sub.rfl | exact SubL.nil | refine SubL.cons ?_ ?_ | exact qag rfl | (refine qcm rfl ?_; simp only [Z.v, ← hS, Int.ofNat_eq_natCast, cq, Bool.not_eq_true', Bool.not_eq_false', decide_eq_true_eq, decide_eq_false_iff_not, beq_iff_eq, beq_eq_false_iff_ne, ne_eq]; omega)))
          · cbv
            refine ⟨.rfl, .rfl, qji hS k4.symm h_G2.symm ?_ h_st2.symm, trivial⟩
            rw [h_q2]
            exact out_more g2 k0 (by omega) hr2W (by omega) hs2 hx2
          · cbv; exact gc_c (gc_m (qan hpl)) (gc_c (gc_m (qan hTp)) rfl)
        · obtain ⟨p, hp⟩ : ∃ p : Int, 2 ^ y.toNat = p := ⟨_, rfl⟩
          have hp1 : p < 512 := by
            have := qhv (m := y.toNat) (n := 8) (by omega)
            rw [hp] at this
            omega
          have hp0 : 0 < p := by rw [← hp]; exact qda _
          repeat' (first
            | (refine s_st hS ?_; try cbv)
            | (refine qab hS ?_ ?_ <;> intro h <;> (try cbv) <;> try exact s_ab h)
            | (refine qah hS ?_; intro _ _; try cbv)
            | (refine qae hS ?_; try cbv)
            | (refine qpg hS (c := p) (by rw [← hp]; congr 1; simp only [IntKind.bits]; omega) ?_ (by simp only [lo]; omega) (by simp only [hi]; omega); intro _ _; cbv)
            | (refine qgc hS (c := p) (m := y.toNat) ⟨by omega, hp, by simp only [IntKind.bits]; omega⟩ ?_; intro _ _; cbv))
          rename_i s1 hs1 s2 hs2 w3 hw3 j3 hj3
          have hw3' : w3 = rowI b j1 q1 := by rw [hw3, ← hp, ← hr2W, k1, row_mask g2 k0 (by omega)]
          refine ⟨(j3, y, w3, q1, st1, G1), by dsimp only; omega, ⟨by dsimp only; omega, by dsimp only; omega, by dsimp only; omega, ?_, by dsimp only; omega, by dsimp only; omega, ?_, ?_⟩, rfl, ?_, ?_, ?_⟩
          · dsimp only; rw [k1, hj3, ← h_j1]
          · dsimp only; rw [hw3', hj3, ← h_j1]
          · dsimp only; rw [k4, hj3, ← h_j1]
          · cbv; all_goals exact s_sA
          · cbv; all_goals exact s_bA
          · cbv; exact gc_c (gc_m (qan hpl)) (gc_c (gc_m (qan hTp)) rfl)
    · have hG : ilen G = q := by rw [g7, qbh, qxb _ _ _ (by omega)]
      obtain ⟨p, hp⟩ : ∃ p : Int, 2 ^ (8 - u).toNat = p := ⟨_, rfl⟩
      have hp1 : p < 512 := by
        have := qhv (m := (8 - u).toNat) (n := 8) (by omega)
        rw [hp] at this
        omega
      have hp0 : 0 < p := by rw [← hp]; exact qda _
      have hwb := row_bd' (b := b) (j := j) (q := q) g2 (by omega) (k := u.toNat) (by omega)
      rw [← g6] at hwb
      have hwp0 : 0 ≤ w * p := Int.mul_nonneg hwb.1 (by omega)
      have hwp : w * p + p ≤ 256 := by
        have h1 : (w + 1) * p ≤ 2 ^ u.toNat * p := Int.mul_le_mul_of_nonneg_right (by omega) (by omega)
        have h2 : (2 : Int) ^ u.toNat * p = 256 := by
          rw [← hp, ← Int.pow_add, show u.toNat + (8 - u).toNat = 8 by omega]; rfl
        rw [Int.add_mul] at h1
        omega
      have hbd := qnt (b := b) g0
      obtain rfl : j = n := by omega
      repeat' (first
        | (refine s_st hS ?_; try cbv)
        | (refine qab hS ?_ ?_ <;> intro h <;> (try cbv) <;> try exact s_ab h)
        | (refine qah hS ?_; intro _ _; try cbv)
        | (refine qae hS ?_; try cbv)
        | (refine qam hS rfl I.qtq (by decide +kernel) ?_; cbv)
        | (refine qpg hS (c := p) (by rw [← hp]; congr 1; simp only [IntKind.bits]; omega) ?_ (by simp only [lo]; omega) (by simp only [hi]; omega); intro _ _; cbv)
        | (refine s_orl hS hp (by omega) (by simp only [*]; exact Int.mul_emod_left _ _) (by omega) (by omega) (by simp only [hi]; omega) ?_; intro _ _; cbv)
        | (refine And.intro rfl ?_; try cbv)
        | (refine qhu hS (by rw [hG]; omega) ?_; cbv))
      · rename_i e1 he1 e2 he2 e3 he3 e4 he4 x hx
        refine ⟨_, .rfl, ?_⟩
        have hend := put_end1 (u := 8 - u) (x := x) hn' g2 (by omega) (by omega) (by omega) g6.symm (by rw [hp, hx, he2, he4, he3]; omega)
        exact qzv hS g7.symm hP hend (by omega) (by rw [qxb _ _ _ g2]; simp only [Z.v, ← hS, Int.ofNat_eq_natCast, cq, Bool.not_eq_true', Bool.not_eq_false', decide_eq_true_eq, decide_eq_false_iff_not, beq_iff_eq, beq_eq_false_iff_ne, ne_eq]; omega) rfl
      · have hu0 : u = 0 := by omega
        have hPG : P = G := by rw [g7, ← hP, put_end0 hn' g2 (by omega)]
        refine ⟨_, .rfl, ?_⟩
        rw [hPG]
        exact qge g7.symm (by omega) (by rw [qxb _ _ _ g2]; rfl) rfl
end Cz
namespace Cz
open Go Go.RowKit Go.Proofs
def dropI (b : List Int) (i : Int) : List Bool := (Hu.bl b).drop i.toNat
def at1I (b : List Int) (i m : Int) : Option Nat := if okI b i m then findO (numI b i m) m else none
def decI (b : List Int) (i : Int) : List Int × List Bool := Hu.dec (dropI b i)
theorem qsx {b : List Int} {i : Int} (h0 : 0 ≤ i) (h : i ≤ 8 * ilen b) : ((dropI b i).length : Int) = 8 * ilen b - i := by
  unfold dropI ilen at *
  rw [List.length_drop, Hu.qvx]; omega
theorem qjs {b : List Int} {i : Int} (h0 : 0 ≤ i) (m : Nat) : (dropI b i).drop m = dropI b (i + m) := by
  unfold dropI; rw [List.drop_drop, show (i + m).toNat = i.toNat + m by omega]
theorem qdq {b : List Int} {i : Int} (h0 : 0 ≤ i) (m : Nat) (hm : 0 < m := by omega) : Hu.at1 (dropI b i) m = at1I b i m := by
  unfold at1I Hu.at1 okI
  have e : (m ≤ (dropI b i).length) ↔ ((decide (0 ≤ i) && decide (i + m ≤ 8 * ilen b)) = true) := by
    unfold dropI ilen
    rw [List.length_drop, Hu.qvx, Bool.and_eq_true, decide_eq_true_eq, decide_eq_true_eq]
    constructor
    · intro h; constructor <;> omega
    · intro h; omega
  by_cases h : m ≤ (dropI b i).length
  · rw [if_pos h, if_pos (e.1 h)]
    unfold findO numI dropI
    rw [if_pos ⟨by omega, by omega⟩]
    simp
  · rw [if_neg h, if_neg (fun h' => h (e.2 h'))]
theorem dec_5 {b : List Int} {i : Int} (h0 : 0 ≤ i) {c : Nat} (h : at1I b i 5 = some c) : decI b i = ((c : Int) :: (decI b (i + 5)).1, (decI b (i + 5)).2) := by
  unfold decI
  rw [Hu.qju (c := c) (m := 5) (by unfold Hu.sym; rw [qdq h0 5]; simp [h]), qjs h0]; rfl
theorem dec_6 {b : List Int} {i : Int} (h0 : 0 ≤ i) {c : Nat} (h5 : at1I b i 5 = none) (h : at1I b i 6 = some c) : decI b i = ((c : Int) :: (decI b (i + 6)).1, (decI b (i + 6)).2) := by
  unfold decI
  rw [Hu.qju (c := c) (m := 6) (by unfold Hu.sym; rw [qdq h0 5, qdq h0 6]; simp [h, h5]), qjs h0]; rfl
theorem dec_7 {b : List Int} {i : Int} (h0 : 0 ≤ i) {c : Nat} (h5 : at1I b i 5 = none) (h6 : at1I b i 6 = none) (h : at1I b i 7 = some c) : decI b i = ((c : Int) :: (decI b (i + 7)).1, (decI b (i + 7)).2) := by
  unfold decI
  rw [Hu.qju (c := c) (m := 7) (by unfold Hu.sym; rw [qdq h0 5, qdq h0 6, qdq h0 7]; simp [h, h5, h6]), qjs h0]; rfl
theorem dec_11 {b : List Int} {i : Int} (h0 : 0 ≤ i) {c : Nat} (h5 : at1I b i 5 = none) (h6 : at1I b i 6 = none) (h7 : at1I b i 7 = none) (h : at1I b i 11 = some c) : decI b i = ((c : Int) :: (decI b (i + 11)).1, (decI b (i + 11)).2) := by
  unfold decI
  rw [Hu.qju (c := c) (m := 11) (by unfold Hu.sym; rw [qdq h0 5, qdq h0 6, qdq h0 7, qdq h0 11]; simp [h, h5, h6, h7]), qjs h0]; rfl
theorem qks {b : List Int} {i : Int} (h0 : 0 ≤ i) (h5 : at1I b i 5 = none) (h6 : at1I b i 6 = none) (h7 : at1I b i 7 = none) (h : at1I b i 11 = none) : decI b i = ([], dropI b i) := by
  unfold decI
  exact Hu.qqt (by unfold Hu.sym; rw [qdq h0 5, qdq h0 6, qdq h0 7, qdq h0 11]; simp [h, h5, h6, h7])
theorem qbv {b : List Int} {i m : Int} (h : okI b i m = false) : at1I b i m = none := by unfold at1I; rw [h]; rfl
theorem qco {b : List Int} {i m r : Int} (h : okI b i m = true) (hr : numI b i m = r) : at1I b i m = findO r m := by unfold at1I; rw [h, hr]; rfl
theorem qax {b : List Int} {i m k : Int} (h : okI b i m = false) (h0 : 0 ≤ i) (hk : m ≤ k) : okI b i k = false := by
  unfold okI at h ⊢
  simp only [Bool.and_eq_false_iff, decide_eq_false_iff_not] at h ⊢
  omega
def takeL (b : List Int) : List Int := (Hu.take b).getD []
def takeE (b : List Int) : Int := if (Hu.take b).isSome then 0 else 70
theorem qdw {b L : List Int} {i : Int} (h0 : 0 ≤ i) (h : i ≤ 8 * ilen b) (hd : Hu.dec (Hu.bl b) = (L, dropI b i)) (h7 : 7 < 8 * ilen b - i) : takeL b = [] ∧ takeE b = 70 := by
  have : Hu.take b = none := by
    unfold Hu.take
    simp only [hd]
    rw [if_neg]
    have := qsx h0 h
    omega
  unfold takeL takeE
  rw [this]; exact ⟨rfl, rfl⟩
theorem numI_all {b : List Int} {i k : Int} (h0 : 0 ≤ i) (h : i ≤ 8 * ilen b) (hk : k = 8 * ilen b - i) : numI b i k = Hu.valB (dropI b i) := by
  unfold numI
  have := qsx h0 h
  rw [show ((Hu.bl b).drop i.toNat).take k.toNat = dropI b i by unfold dropI at *; exact List.take_of_length_le (by omega)]
theorem qbm {b L : List Int} {i k : Int} (h0 : 0 ≤ i) (h : i ≤ 8 * ilen b) (hd : Hu.dec (Hu.bl b) = (L, dropI b i)) (hk : k = 8 * ilen b - i) (h7 : k ≤ 7) :
    (numI b i k = 2 ^ k.toNat - 1 → takeL b = L ∧ takeE b = 0) ∧ (numI b i k ≠ 2 ^ k.toNat - 1 → takeL b = [] ∧ takeE b = 70) := by
  have hl := qsx h0 h
  rw [numI_all h0 h hk]
  have e : ((Hu.valB (dropI b i) : Int) = 2 ^ k.toNat - 1) ↔ dropI b i = List.replicate (dropI b i).length true := by
    have h1 := Hu.qmd (dropI b i).length
    have hp := Nat.two_pow_pos (dropI b i).length
    rw [show k.toNat = (dropI b i).length by omega, ← qfl]
    constructor
    · intro e
      refine Hu.valB_inj (by simp) ?_
      rw [h1]; omega
    · intro e
      rw [e, h1]
      simp only [List.length_replicate]
      omega
  unfold takeL takeE Hu.take
  simp only [hd]
  constructor
  · intro h1
    rw [if_pos ⟨by omega, e.1 h1⟩]; exact ⟨rfl, rfl⟩
  · intro h1
    rw [if_neg (fun h2 => h1 (e.2 h2.2))]; exact ⟨rfl, rfl⟩
theorem qij {S : Sy} (hS : S0 Tryd.prog = S) {b : List Int} {F : List SV} {n : Int} {zi z : Z} {k : Nat} {ro lit : Bool} {st : Z} {l : List Blk} {K : SV → List Blk → Prop} (hb : Hu.BOk b) (hn : ilen b ≤ 1000000) (hn' : n = ilen b) (hF : cellsB b = F)
    (hrow : lget l k = .r ro lit st 1 F) (i m : Int) (hi : zi.v = i) (hm : z.v = m) (hz1 : 1 ≤ m) (hz2 : m ≤ 30) (h1 : okI b i m = true → ∀ r, numI b i m = r → K (.tp [.i .i64 (.y r), .tt]) l) (h2 : okI b i m = false → ∀ r, K (.tp [.i .i64 (.y r), .ff]) l) :
    S.call 129 [.sl k 1 (.l 0) (.y n) none, .i .i64 zi, .i .i64 z] l K := by
  subst hn' hF hi hm
  have hB : oBitsB b zi.v z.v = okI b zi.v z.v := by unfold oBitsB; rw [if_neg (by omega), if_neg (by omega)]
  have hf := oBits_f (b := b) (i := zi.v) (k := z.v) hb hn rfl rfl
  cases ht : okI b zi.v z.v with
  | true =>
    refine qdv hS (fun _ => k) (sv := .tp [.i .i64 (.y (numI b zi.v z.v)), .tt]) (qat hf fun x l' hx => ⟨x, .rfl, hx.trans (qas (.cons (qag ?_) (.cons (qej ?_) .nil)))⟩) (.cons .rfl (.cons (qag rfl) (.cons (qag rfl) .nil))) rfl ⟨⟨_, _, _, _, _, _, _, _, rfl, qad b, hrow, .rfl⟩, trivial⟩ rfl (h1 ht _ rfl)
    · unfold oBitsR; rw [hB, ht]; rfl
    · rw [hB, ht]
  | false =>
    refine qdv hS (fun _ => k) (sv := .tp [.i .i64 (.y (oBitsR b zi.v z.v)), .ff]) (qat hf fun x l' hx => ⟨x, .rfl, hx.trans (qas (.cons .rfl (.cons (qdm ?_) .nil)))⟩) (.cons .rfl (.cons (qag rfl) (.cons (qag rfl) .nil))) rfl ⟨⟨_, _, _, _, _, _, _, _, rfl, qad b, hrow, .rfl⟩, trivial⟩ rfl (h2 ht _)
    rw [hB, ht]
end Cz
namespace Cz
open Go Go.RowKit Go.Proofs
def tB : IR := match I.qzaao with
  | .seq _ (.scope b) => b
  | _ => .skip
theorem qhm (b : List Int) : decI b 0 = Hu.dec (Hu.bl b) := rfl
theorem qpj {b : List Int} {i m : Int} (h : okI b i m = true) : i + m ≤ 8 * ilen b := by
  unfold okI at h
  simp only [Bool.and_eq_true, decide_eq_true_eq] at h
  exact h.2
theorem qiq (L : List Int) (c : Int) : ilen (L ++ [c]) = ilen L + 1 := by unfold ilen; simp
theorem gc_k {n : Nat} {es : List (SV × SV)} : norefM es = true → (match es with
      | [] => true
      | (k, v) :: r => refsB (low n) k && refsB (low n) v && gcM n r) = true := by
  intro h
  have := gcM_ok (n := n) h
  cases es with
  | nil => rfl
  | cons e r => simpa only [gcM] using this
theorem qfs {S : Sy} (hS : S0 Tryd.prog = S) {b : List Int} {F : List SV} {n : Int} {zi z : Z} {k : Nat} {ro lit : Bool} {st : Z} {l : List Blk} {K : SV → List Blk → Prop} (hb : Hu.BOk b) (hn : ilen b ≤ 1000000) (hn' : n = ilen b) (hF : cellsB b = F)
    (hrow : lget l k = .r ro lit st 1 F) (i m : Int) (h0 : zi.v = i) (hm : z.v = m) (hi0 : 0 ≤ i) (hz1 : 0 ≤ m) (hz2 : m ≤ 30 ∧ i + m ≤ 8 * n) (h1 : ∀ r, numI b i m = r → K (.tp [.i .i64 (.y r), .tt]) l) :
    S.call 129 [.sl k 1 (.l 0) (.y n) none, .i .i64 zi, .i .i64 z] l K := by
  subst hn' hF h0 hm
  have hB : oBitsB b zi.v z.v = true := by
    unfold oBitsB okI
    by_cases hz : z.v = 0
    · rw [if_pos hz]; simp; omega
    · rw [if_neg hz, if_neg (by omega)]; simp; omega
  have hf := oBits_f (b := b) (i := zi.v) (k := z.v) hb hn rfl rfl
  refine qdv hS (fun _ => k) (sv := .tp [.i .i64 (.y (numI b zi.v z.v)), .tt]) (qat hf fun x l' hx => ⟨x, .rfl, hx.trans (qas (.cons (qag ?_) (.cons (qej hB) .nil)))⟩) (.cons .rfl (.cons (qag rfl) (.cons (qag rfl) .nil))) rfl ⟨⟨_, _, _, _, _, _, _, _, rfl, qad b, hrow, .rfl⟩, trivial⟩ rfl (h1 _ rfl)
  unfold oBitsR; rw [hB]; rfl
theorem qkn {S : Sy} {k : IntKind} {a : Int} {K : Int → Prop} (hS : S0 Tryd.prog = S) (m : Int) (hm : a = m) (h0 : 0 ≤ m) (h1 : m ≤ 7) (hk : 8 < k.bits) (h : ∀ r, r = 2 ^ m.toNat → 1 ≤ r → r ≤ 128 → K r) : S.ar .shl k 1 a K := by
  subst hm
  have h2 := qhv (m := a.toNat) (n := 7) (by omega)
  have h3 := qda a.toNat
  refine qpg hS (c := 2 ^ a.toNat) ?_ (fun r hr => h r (by omega) (by omega) (by omega)) ?_ ?_
  · rw [Nat.min_eq_left (by omega)]
  · have := qxd k; omega
  · have h4 := hi_bits k
    have h5 := qhv (m := 8) (n := k.bits - 1) (by omega)
    omega
theorem qbo {P : List SV} {E : Int} {l' : List Blk} (hP : P = []) (hE : E = 70) : OwnR 1 1 P true [.i .i64 (.y E)] (.tp [.re (.slice none 0 0), .i .i64 (.l 70)]) l' :=
  ⟨_, qas (.cons .rfl (.cons (qag hE.symm) .nil)), .inl ⟨rfl, hP⟩⟩
theorem qdz {P G : List SV} {L : List Int} {E : Int} {z st : Z} {lit : Bool} {l' : List Blk} (hP : P = cellsB L) (hE : E = 0) (hG : cellsB L = G) (hz : z.v = ilen L) (hB : l'[2]? = some (.r false lit st 1 G)) :
    OwnR 1 1 P true [.i .i64 (.y E)] (.tp [.sl 2 1 (.l 0) z none, .i .i64 (.l 0)]) l' := by
  refine ⟨_, qas (.cons .rfl (.cons (qag hE.symm) .nil)), ?_⟩
  rw [hP, hG]
  exact qge hG (by omega) hz hB
theorem qmg {b : List Int} {F P : List SV} {T : List (SV × SV)} {n E : Int} {S : Sy} (hb : Hu.BOk b) (hnb : ilen b ≤ 1000000) (hn' : n = ilen b) (hF : cellsB b = F) (hP : cellsB (takeL b) = P) (hE : takeE b = E) (hT : knownE 256 = T) (hS : S0 Tryd.prog = S)
    {i1 q1 st1 : Int} {L1 : List Int} {G1 : List SV} (h0 : 0 ≤ i1) (h1 : i1 ≤ 8 * ilen b) (hq : q1 = ilen L1) (hqi : q1 ≤ i1) (hG : G1 = cellsB L1) (hdec : Hu.dec (Hu.bl b) = (L1 ++ (decI b i1).1, (decI b i1).2)) :
    S.jump ⟨none, 1⟩ tB 0 ⟨slots [(0, .sl 0 1 (.l 0) (.y n) none), (4, .m 1), (2, .sl 2 1 (.l 0) (.y q1) none), (5, .i .i64 (.y i1))] (repU 68), []⟩ [.r true true (.l 0) 1 F, .m T, .r false false (.y st1) 1 G1]
      (vret S [.t 2, .t 3] (OwnR 1 1 P true [.i .i64 (.y E)])) := by
  have hn := hnb
  have h0n := qai b
  rw [← hn'] at hn h0n
  have hpl := qad b
  rw [hF] at hpl
  refine qzs hS 3 [] (fun x : Int × Int × Int × List Int × List SV => 0 ≤ x.1 ∧ x.1 ≤ 8 * n ∧ x.2.1 = ilen x.2.2.2.1 ∧ x.2.1 ≤ x.1 ∧ x.2.2.2.2 = cellsB x.2.2.2.1 ∧ Hu.dec (Hu.bl b) = (x.2.2.2.1 ++ (decI b x.1).1, (decI b x.1).2))
    (fun x => [(2, .sl 2 1 (.l 0) (.y x.2.1) none), (5, .i .i64 (.y x.1))]) (fun x => [(2, .r false false (.y x.2.2.1) 1 x.2.2.2.2)])
    (fun x => (8 * n - x.1).toNat) (i1, q1, st1, L1, G1) rfl rfl ⟨⟨h0, by dsimp only; omega, hq, hqi, hG, hdec⟩, rfl, ?_, ?_, ?_⟩ ?_
  · cbv; all_goals exact s_sA
  · cbv; all_goals exact s_bA
  · cbv; exact gc_c (gc_m (qan hpl)) (gc_c (gc_k (hT ▸ qbf 256)) rfl)
  intro x
  clear h0 h1 hq hqi hG hdec
  obtain ⟨i, q, st, L, G⟩ := x
  intro hx
  dsimp only at hx
  cbv
  obtain ⟨h0, h1, hq, hqi, hG0, hdec⟩ := hx
  have hG : ilen G = ilen L := by rw [hG0, qbh]
  refine qaf hS ?_
  cbv
  refine qij hS hb hnb hn' hF rfl i 5 rfl rfl (by decide) (by decide) (fun hok5 r5 hr5 => ?_) (fun hok5 r5 => ?_)
  · cbv
    refine qdk hS hT (fun c hc c0 c1 => ?_) fun hc => ?_
    · cbv
      have hs : decI b i = ((c.toNat : Int) :: (decI b (i + 5)).1, (decI b (i + 5)).2) := dec_5 (by omega)  (by rw [qco hok5 hr5]; exact hc)
      have hle : i + 5 ≤ 8 * ilen b := qpj hok5
      rw [Int.toNat_of_nonneg c0] at hs
      repeat' (first
        | (refine s_st hS ?_; try cbv)
        | (refine qab hS ?_ ?_ <;> intro h <;> (try cbv) <;> try exact s_ab h)
        | (refine qah hS ?_; intro _ _; try cbv)
        | (refine qae hS ?_; try cbv)
        | (refine qhu hS (by rw [hG, ← hq]; omega) ?_; cbv))
      rename_i i2 hi2
      obtain ⟨q2, h_q2⟩ : ∃ q2, q2 = q + 1 := ⟨_, rfl⟩
      obtain ⟨st2, h_st2⟩ : ∃ st2, st2 = S.flen G := ⟨_, rfl⟩
      obtain ⟨G2, h_G2⟩ : ∃ G2, G2 = cellsB (L ++ [c]) := ⟨_, rfl⟩
      refine ⟨(i2, q2, st2, L ++ [c], G2), by dsimp only; omega, ⟨by dsimp only; omega, by dsimp only; omega, ?_, by dsimp only; omega, h_G2, ?_⟩, rfl, ?_, ?_, ?_⟩
      · dsimp only; rw [h_q2, hq, qiq]
      · dsimp only; rw [hdec, hs, hi2]; simp
      · cbv; (repeat' (first | exact qdg | exact Sub.rfl | exact SubL.nil | refine SubL.cons ?_ ?_ | exact qag rfl | (refine qcm rfl ?_; simp only [Z.v, ← hS, Int.ofNat_eq_natCast, cq, Bool.not_eq_true', Bool.not_eq_false', decide_eq_true_eq, decide_eq_false_iff_not, beq_iff_eq, beq_eq_false_iff_ne, ne_eq]; omega)))
      · cbv; exact ⟨.rfl, .rfl, qji hS hG0.symm h_G2.symm rfl h_st2.symm, trivial⟩
      · cbv; exact gc_c (gc_m (qan hpl)) (gc_c (gc_k (hT ▸ qbf 256)) rfl)
    · cbv
      have a5 : at1I b i 5 = none := by rw [qco hok5 hr5]; exact hc
      refine qaf hS ?_
      cbv
      refine qij hS hb hnb hn' hF rfl i 6 rfl rfl (by decide) (by decide) (fun hok6 r6 hr6 => ?_) (fun hok6 r6 => ?_)
      · cbv
        refine qdk hS hT (fun c hc c0 c1 => ?_) fun hc => ?_
        · cbv
          have hs : decI b i = ((c.toNat : Int) :: (decI b (i + 6)).1, (decI b (i + 6)).2) := dec_6 (by omega) a5 (by rw [qco hok6 hr6]; exact hc)
          have hle : i + 6 ≤ 8 * ilen b := qpj hok6
          rw [Int.toNat_of_nonneg c0] at hs
          repeat' (first
            | (refine s_st hS ?_; try cbv)
            | (refine qab hS ?_ ?_ <;> intro h <;> (try cbv) <;> try exact s_ab h)
            | (refine qah hS ?_; intro _ _; try cbv)
            | (refine qae hS ?_; try cbv)
            | (refine qhu hS (by rw [hG, ← hq]; omega) ?_; cbv))
          rename_i i2 hi2
          obtain ⟨q2, h_q2⟩ : ∃ q2, q2 = q + 1 := ⟨_, rfl⟩
          obtain ⟨st2, h_st2⟩ : ∃ st2, st2 = S.flen G := ⟨_, rfl⟩
          obtain ⟨G2, h_G2⟩ : ∃ G2, G2 = cellsB (L ++ [c]) := ⟨_, rfl⟩
          refine ⟨(i2, q2, st2, L ++ [c], G2), by dsimp only; omega, ⟨by dsimp only; omega, by dsimp only; omega, ?_, by dsimp only; omega, h_G2, ?_⟩, rfl, ?_, ?_, ?_⟩
          · dsimp only; rw [h_q2, hq, qiq]
          · dsimp only; rw [hdec, hs, hi2]; simp
          · cbv; (repeat' (first | exact qdg | exact Sub.rfl | exact SubL.nil | refine SubL.cons ?_ ?_ | exact qag rfl | (refine qcm rfl ?_; simp only [Z.v, ← hS, Int.ofNat_eq_natCast, cq, Bool.not_eq_true', Bool.not_eq_false', decide_eq_true_eq, decide_eq_false_iff_not, beq_iff_eq, beq_eq_false_iff_ne, ne_eq]; omega)))
          · cbv; exact ⟨.rfl, .rfl, qji hS hG0.symm h_G2.symm rfl h_st2.symm, trivial⟩
          · cbv; exact gc_c (gc_m (qan hpl)) (gc_c (gc_k (hT ▸ qbf 256)) rfl)
        · cbv
          have a6 : at1I b i 6 = none := by rw [qco hok6 hr6]; exact hc
          refine qaf hS ?_
          cbv
          refine qij hS hb hnb hn' hF rfl i 7 rfl rfl (by decide) (by decide) (fun hok7 r7 hr7 => ?_) (fun hok7 r7 => ?_)
          · cbv
            refine qdk hS hT (fun c hc c0 c1 => ?_) fun hc => ?_
            · cbv
              have hs : decI b i = ((c.toNat : Int) :: (decI b (i + 7)).1, (decI b (i + 7)).2) := dec_7 (by omega) a5 a6 (by rw [qco hok7 hr7]; exact hc)
              have hle : i + 7 ≤ 8 * ilen b := qpj hok7
              rw [Int.toNat_of_nonneg c0] at hs
              repeat' (first
                | (refine s_st hS ?_; try cbv)
                | (refine qab hS ?_ ?_ <;> intro h <;> (try cbv) <;> try exact s_ab h)
                | (refine qah hS ?_; intro _ _; try cbv)
                | (refine qae hS ?_; try cbv)
                | (refine qhu hS (by rw [hG, ← hq]; omega) ?_; cbv))
              rename_i i2 hi2
              obtain ⟨q2, h_q2⟩ : ∃ q2, q2 = q + 1 := ⟨_, rfl⟩
              obtain ⟨st2, h_st2⟩ : ∃ st2, st2 = S.flen G := ⟨_, rfl⟩
              obtain ⟨G2, h_G2⟩ : ∃ G2, G2 = cellsB (L ++ [c]) := ⟨_, rfl⟩
              refine ⟨(i2, q2, st2, L ++ [c], G2), by dsimp only; omega, ⟨by dsimp only; omega, by dsimp only; omega, ?_, by dsimp only; omega, h_G2, ?_⟩, rfl, ?_, ?_, ?_⟩
              · dsimp only; rw [h_q2, hq, qiq]
              · dsimp only; rw [hdec, hs, hi2]; simp
              · cbv; (repeat' (first | exact qdg | exact Sub.rfl | exact SubL.nil | refine SubL.cons ?_ ?_ | exact qag rfl | (refine qcm rfl ?_; simp only [Z.v, ← hS, Int.ofNat_eq_natCast, cq, Bool.not_eq_true', Bool.not_eq_false', decide_eq_true_eq, decide_eq_false_iff_not, beq_iff_eq, beq_eq_false_iff_ne, ne_eq]; omega)))
              · cbv; exact ⟨.rfl, .rfl, qji hS hG0.symm h_G2.symm rfl h_st2.symm, trivial⟩
              · cbv; exact gc_c (gc_m (qan hpl)) (gc_c (gc_k (hT ▸ qbf 256)) rfl)
            · cbv
              have a7 : at1I b i 7 = none := by rw [qco hok7 hr7]; exact hc
              refine qaf hS ?_
              cbv
              refine qij hS hb hnb hn' hF rfl i 11 rfl rfl (by decide) (by decide) (fun hok11 r11 hr11 => ?_) (fun hok11 r11 => ?_)
              · cbv
                refine qdk hS hT (fun c hc c0 c1 => ?_) fun hc => ?_
                · cbv
                  have hs : decI b i = ((c.toNat : Int) :: (decI b (i + 11)).1, (decI b (i + 11)).2) := dec_11 (by omega) a5 a6 a7 (by rw [qco hok11 hr11]; exact hc)
                  have hle : i + 11 ≤ 8 * ilen b := qpj hok11
                  rw [Int.toNat_of_nonneg c0] at hs
                  repeat' (first
                    | (refine s_st hS ?_; try cbv)
                    | (refine qab hS ?_ ?_ <;> intro h <;> (try cbv) <;> try exact s_ab h)
                    | (refine qah hS ?_; intro _ _; try cbv)
                    | (refine qae hS ?_; try cbv)
                    | (refine qhu hS (by rw [hG, ← hq]; omega) ?_; cbv))
                  rename_i i2 hi2
                  obtain ⟨q2, h_q2⟩ : ∃ q2, q2 = q + 1 := ⟨_, rfl⟩
                  obtain ⟨st2, h_st2⟩ : ∃ st2, st2 = S.flen G := ⟨_, rfl⟩
                  obtain ⟨G2, h_G2⟩ : ∃ G2, G2 = cellsB (L ++ [c]) := ⟨_, rfl⟩
                  refine ⟨(i2, q2, st2, L ++ [c], G2), by dsimp only; omega, ⟨by dsimp only; omega, by dsimp only; omega, ?_, by dsimp only; omega, h_G2, ?_⟩, rfl, ?_, ?_, ?_⟩
                  · dsimp only; rw [h_q2, hq, qiq]
                  · dsimp only; rw [hdec, hs, hi2]; simp
                  · cbv; (repeat' (first | exact qdg | exact Sub.rfl | exact SubL.nil | refine SubL.cons ?_ ?_ | exact qag rfl | (refine qcm rfl ?_; simp only [Z.v, ← hS, Int.ofNat_eq_natCast, cq, Bool.not_eq_true', Bool.not_eq_false', decide_eq_true_eq, decide_eq_false_iff_not, beq_iff_eq, beq_eq_false_iff_ne, ne_eq]; omega)))
                  · cbv; exact ⟨.rfl, .rfl, qji hS hG0.symm h_G2.symm rfl h_st2.symm, trivial⟩
                  · cbv; exact gc_c (gc_m (qan hpl)) (gc_c (gc_k (hT ▸ qbf 256)) rfl)
                · cbv
                  have a11 : at1I b i 11 = none := by rw [qco hok11 hr11]; exact hc
                  refine qaf hS ?_
                  cbv
                  have hno : decI b i = ([], dropI b i) := qks (by omega) a5 a6 a7 a11
                  have hD : Hu.dec (Hu.bl b) = (L, dropI b i) := by rw [hdec, hno]; simp
                  obtain ⟨k, hk⟩ : ∃ k, k = 8 * ilen b - i := ⟨_, rfl⟩
                  repeat' (first
                    | (refine s_st hS ?_; try cbv)
                    | (refine qab hS ?_ ?_ <;> intro h <;> (try cbv) <;> try exact s_ab h)
                    | (refine qah hS ?_; intro _ _; try cbv)
                    | (refine qae hS ?_; try cbv)
                    | (refine qmk hS ?_ (by simp only [lo]; omega) (by simp only [hi]; omega); intro _ _; cbv)
                    | (refine qcj hS rfl ?_; cbv)
                    | (refine qfs hS hb hnb hn' hF rfl i k (by simp only [Z.v]; omega) (by simp only [Z.v]; omega) (by omega) (by omega) (by omega) (fun r hr => ?_); cbv)
                    | (refine qkn hS k (by omega) (by omega) (by omega) (by decide) (fun p hp hp1 hp2 => ?_); cbv))
                  · have hb7 := qdw (i := i) (by omega) (by omega) hD (by omega)
                    exact qbo (hP.symm.trans (by rw [hb7.1]; rfl)) (hE.symm.trans hb7.2)
                  · have hte := (qbm (i := i) (by omega) (by omega) hD hk (by omega)).1 (by rw [hr, ← hp]; omega)
                    exact qdz (hP.symm.trans (by rw [hte.1])) (hE.symm.trans hte.2) hG0.symm hq rfl
                  · have hte := (qbm (i := i) (by omega) (by omega) hD hk (by omega)).2 (by rw [hr, ← hp]; omega)
                    exact qbo (hP.symm.trans (by rw [hte.1]; rfl)) (hE.symm.trans hte.2)
              · cbv
                have a11 : at1I b i 11 = none := qbv (qax hok11 (by omega) (by omega))
                have hno : decI b i = ([], dropI b i) := qks (by omega) a5 a6 a7 a11
                have hD : Hu.dec (Hu.bl b) = (L, dropI b i) := by rw [hdec, hno]; simp
                obtain ⟨k, hk⟩ : ∃ k, k = 8 * ilen b - i := ⟨_, rfl⟩
                repeat' (first
                  | (refine s_st hS ?_; try cbv)
                  | (refine qab hS ?_ ?_ <;> intro h <;> (try cbv) <;> try exact s_ab h)
                  | (refine qah hS ?_; intro _ _; try cbv)
                  | (refine qae hS ?_; try cbv)
                  | (refine qmk hS ?_ (by simp only [lo]; omega) (by simp only [hi]; omega); intro _ _; cbv)
                  | (refine qcj hS rfl ?_; cbv)
                  | (refine qfs hS hb hnb hn' hF rfl i k (by simp only [Z.v]; omega) (by simp only [Z.v]; omega) (by omega) (by omega) (by omega) (fun r hr => ?_); cbv)
                  | (refine qkn hS k (by omega) (by omega) (by omega) (by decide) (fun p hp hp1 hp2 => ?_); cbv))
                · have hb7 := qdw (i := i) (by omega) (by omega) hD (by omega)
                  exact qbo (hP.symm.trans (by rw [hb7.1]; rfl)) (hE.symm.trans hb7.2)
                · have hte := (qbm (i := i) (by omega) (by omega) hD hk (by omega)).1 (by rw [hr, ← hp]; omega)
                  exact qdz (hP.symm.trans (by rw [hte.1])) (hE.symm.trans hte.2) hG0.symm hq rfl
                · have hte := (qbm (i := i) (by omega) (by omega) hD hk (by omega)).2 (by rw [hr, ← hp]; omega)
                  exact qbo (hP.symm.trans (by rw [hte.1]; rfl)) (hE.symm.trans hte.2)
          · cbv
            have a7 : at1I b i 7 = none := qbv (qax hok7 (by omega) (by omega))
            have a11 : at1I b i 11 = none := qbv (qax hok7 (by omega) (by omega))
            have hno : decI b i = ([], dropI b i) := qks (by omega) a5 a6 a7 a11
            have hD : Hu.dec (Hu.bl b) = (L, dropI b i) := by rw [hdec, hno]; simp
            obtain ⟨k, hk⟩ : ∃ k, k = 8 * ilen b - i := ⟨_, rfl⟩
            repeat' (first
              | (refine s_st hS ?_; try cbv)
              | (refine qab hS ?_ ?_ <;> intro h <;> (try cbv) <;> try exact s_ab h)
              | (refine qah hS ?_; intro _ _; try cbv)
              | (refine qae hS ?_; try cbv)
              | (refine qmk hS ?_ (by simp only [lo]; omega) (by simp only [hi]; omega); intro _ _; cbv)
              | (refine qcj hS rfl ?_; cbv)
              | (refine qfs hS hb hnb hn' hF rfl i k (by simp only [Z.v]; omega) (by simp only [Z.v]; omega) (by omega) (by omega) (by omega) (fun r hr => ?_); cbv)
              | (refine qkn hS k (by omega) (by omega) (by omega) (by decide) (fun p hp hp1 hp2 => ?_); cbv))
            · have hb7 := qdw (i := i) (by omega) (by omega) hD (by omega)
              exact qbo (hP.symm.trans (by rw [hb7.1]; rfl)) (hE.symm.trans hb7.2)
            · have hte := (qbm (i := i) (by omega) (by omega) hD hk (by omega)).1 (by rw [hr, ← hp]; omega)
              exact qdz (hP.symm.trans (by rw [hte.1])) (hE.symm.trans hte.2) hG0.symm hq rfl
            · have hte := (qbm (i := i) (by omega) (by omega) hD hk (by omega)).2 (by rw [hr, ← hp]; omega)
              exact qbo (hP.symm.trans (by rw [hte.1]; rfl)) (hE.symm.trans hte.2)
      · cbv
        have a6 : at1I b i 6 = none := qbv (qax hok6 (by omega) (by omega))
        have a7 : at1I b i 7 = none := qbv (qax hok6 (by omega) (by omega))
        have a11 : at1I b i 11 = none := qbv (qax hok6 (by omega) (by omega))
        have hno : decI b i = ([], dropI b i) := qks (by omega) a5 a6 a7 a11
        have hD : Hu.dec (Hu.bl b) = (L, dropI b i) := by rw [hdec, hno]; simp
        obtain ⟨k, hk⟩ : ∃ k, k = 8 * ilen b - i := ⟨_, rfl⟩
        repeat' (first
          | (refine s_st hS ?_; try cbv)
          | (refine qab hS ?_ ?_ <;> intro h <;> (try cbv) <;> try exact s_ab h)
          | (refine qah hS ?_; intro _ _; try cbv)
          | (refine qae hS ?_; try cbv)
          | (refine qmk hS ?_ (by simp only [lo]; omega) (by simp only [hi]; omega); intro _ _; cbv)
          | (refine qcj hS rfl ?_; cbv)
          | (refine qfs hS hb hnb hn' hF rfl i k (by simp only [Z.v]; omega) (by simp only [Z.v]; omega) (by omega) (by omega) (by omega) (fun r hr => ?_); cbv)
          | (refine qkn hS k (by omega) (by omega) (by omega) (by decide) (fun p hp hp1 hp2 => ?_); cbv))
        · have hb7 := qdw (i := i) (by omega) (by omega) hD (by omega)
          exact qbo (hP.symm.trans (by rw [hb7.1]; rfl)) (hE.symm.trans hb7.2)
        · have hte := (qbm (i := i) (by omega) (by omega) hD hk (by omega)).1 (by rw [hr, ← hp]; omega)
          exact qdz (hP.symm.trans (by rw [hte.1])) (hE.symm.trans hte.2) hG0.symm hq rfl
        · have hte := (qbm (i := i) (by omega) (by omega) hD hk (by omega)).2 (by rw [hr, ← hp]; omega)
          exact qbo (hP.symm.trans (by rw [hte.1]; rfl)) (hE.symm.trans hte.2)
  · cbv
    have a5 : at1I b i 5 = none := qbv (qax hok5 (by omega) (by omega))
    have a6 : at1I b i 6 = none := qbv (qax hok5 (by omega) (by omega))
    have a7 : at1I b i 7 = none := qbv (qax hok5 (by omega) (by omega))
    have a11 : at1I b i 11 = none := qbv (qax hok5 (by omega) (by omega))
    have hno : decI b i = ([], dropI b i) := qks (by omega) a5 a6 a7 a11
    have hD : Hu.dec (Hu.bl b) = (L, dropI b i) := by rw [hdec, hno]; simp
    obtain ⟨k, hk⟩ : ∃ k, k = 8 * ilen b - i := ⟨_, rfl⟩
    repeat' (first
      | (refine s_st hS ?_; try cbv)
      | (refine qab hS ?_ ?_ <;> intro h <;> (try cbv) <;> try exact s_ab h)
      | (refine qah hS ?_; intro _ _; try cbv)
      | (refine qae hS ?_; try cbv)
      | (refine qmk hS ?_ (by simp only [lo]; omega) (by simp only [hi]; omega); intro _ _; cbv)
      | (refine qcj hS rfl ?_; cbv)
      | (refine qfs hS hb hnb hn' hF rfl i k (by simp only [Z.v]; omega) (by simp only [Z.v]; omega) (by omega) (by omega) (by omega) (fun r hr => ?_); cbv)
      | (refine qkn hS k (by omega) (by omega) (by omega) (by decide) (fun p hp hp1 hp2 => ?_); cbv))
    · have hb7 := qdw (i := i) (by omega) (by omega) hD (by omega)
      exact qbo (hP.symm.trans (by rw [hb7.1]; rfl)) (hE.symm.trans hb7.2)
    · have hte := (qbm (i := i) (by omega) (by omega) hD hk (by omega)).1 (by rw [hr, ← hp]; omega)
      exact qdz (hP.symm.trans (by rw [hte.1])) (hE.symm.trans hte.2) hG0.symm hq rfl
    · have hte := (qbm (i := i) (by omega) (by omega) hD hk (by omega)).2 (by rw [hr, ← hp]; omega)
      exact qbo (hP.symm.trans (by rw [hte.1]; rfl)) (hE.symm.trans hte.2)
theorem take_f {b : List Int} (hb : Hu.BOk b) (hn : ilen b ≤ 1000000) :
    (S0 Tryd.prog).call 122 [.sl 0 1 (.l 0) (.y (ilen b)) none] [.r true true (.l 0) 1 (cellsB b)] (OwnR 1 1 (cellsB (takeL b)) true [.i .i64 (.y (takeE b))]) := by
  obtain ⟨n, hn'⟩ : ∃ n, n = ilen b := ⟨_, rfl⟩
  have h0n := qai b
  have hnb := hn
  rw [← hn'] at hn h0n ⊢
  have hpl := qad b
  generalize hF : cellsB b = F at hpl ⊢
  generalize hP : cellsB (takeL b) = P
  generalize hE : takeE b = E
  generalize hT : knownE 256 = T
  have hk := known_f hT
  generalize hS : S0 Tryd.prog = S
  refine qac hS I.qzabb ?_
  cbv
  refine use_map hS (l0 := []) id hk .nil rfl trivial ?_
  cbv
  refine quz hS 2 1 (by omega) rfl ?_
  cbv
  refine qaf hS ?_
  cbv
  refine qij hS hb hnb hn' hF rfl 0 5 rfl rfl (by decide) (by decide) (fun hok5 r5 hr5 => ?_) (fun hok5 r5 => ?_)
  · cbv
    refine qdk hS hT (fun c hc c0 c1 => ?_) fun hc => ?_
    · cbv
      have hs : decI b 0 = ((c.toNat : Int) :: (decI b (0 + 5)).1, (decI b (0 + 5)).2) := dec_5 (by omega)  (by rw [qco hok5 hr5]; exact hc)
      have hle : 0 + 5 ≤ 8 * ilen b := qpj hok5
      rw [Int.toNat_of_nonneg c0] at hs
      refine qmz hS 3 rfl ?_ ?_ ?_ (qmg hb hnb hn' hF hP hE hT hS (i1 := 5) (q1 := 1) (st1 := 0) (L1 := [c]) (G1 := [.i .u8 (.y c)]) (by omega) (by omega) rfl (by omega) rfl ?_)
      · cbv; (repeat' (first | exact qdg | exact Sub.rfl | exact SubL.nil | refine SubL.cons ?_ ?_ | exact qag rfl | exact qcm rfl rfl))
      · cbv; exact ⟨.rfl, .rfl, .r .rfl rfl rfl, trivial⟩
      · cbv; exact gc_c (gc_m (qan hpl)) (gc_c (gc_k (hT ▸ qbf 256)) rfl)
      · rw [← qhm, hs]; rfl
    · cbv
      have a5 : at1I b 0 5 = none := by rw [qco hok5 hr5]; exact hc
      refine qaf hS ?_
      cbv
      refine qij hS hb hnb hn' hF rfl 0 6 rfl rfl (by decide) (by decide) (fun hok6 r6 hr6 => ?_) (fun hok6 r6 => ?_)
      · cbv
        refine qdk hS hT (fun c hc c0 c1 => ?_) fun hc => ?_
        · cbv
          have hs : decI b 0 = ((c.toNat : Int) :: (decI b (0 + 6)).1, (decI b (0 + 6)).2) := dec_6 (by omega) a5 (by rw [qco hok6 hr6]; exact hc)
          have hle : 0 + 6 ≤ 8 * ilen b := qpj hok6
          rw [Int.toNat_of_nonneg c0] at hs
          refine qmz hS 3 rfl ?_ ?_ ?_ (qmg hb hnb hn' hF hP hE hT hS (i1 := 6) (q1 := 1) (st1 := 0) (L1 := [c]) (G1 := [.i .u8 (.y c)]) (by omega) (by omega) rfl (by omega) rfl ?_)
          · cbv; (repeat' (first | exact qdg | exact Sub.rfl | exact SubL.nil | refine SubL.cons ?_ ?_ | exact qag rfl | exact qcm rfl rfl))
          · cbv; exact ⟨.rfl, .rfl, .r .rfl rfl rfl, trivial⟩
          · cbv; exact gc_c (gc_m (qan hpl)) (gc_c (gc_k (hT ▸ qbf 256)) rfl)
          · rw [← qhm, hs]; rfl
        · cbv
          have a6 : at1I b 0 6 = none := by rw [qco hok6 hr6]; exact hc
          refine qaf hS ?_
          cbv
          refine qij hS hb hnb hn' hF rfl 0 7 rfl rfl (by decide) (by decide) (fun hok7 r7 hr7 => ?_) (fun hok7 r7 => ?_)
          · cbv
            refine qdk hS hT (fun c hc c0 c1 => ?_) fun hc => ?_
            · cbv
              have hs : decI b 0 = ((c.toNat : Int) :: (decI b (0 + 7)).1, (decI b (0 + 7)).2) := dec_7 (by omega) a5 a6 (by rw [qco hok7 hr7]; exact hc)
              have hle : 0 + 7 ≤ 8 * ilen b := qpj hok7
              rw [Int.toNat_of_nonneg c0] at hs
              refine qmz hS 3 rfl ?_ ?_ ?_ (qmg hb hnb hn' hF hP hE hT hS (i1 := 7) (q1 := 1) (st1 := 0) (L1 := [c]) (G1 := [.i .u8 (.y c)]) (by omega) (by omega) rfl (by omega) rfl ?_)
              · cbv; (repeat' (first | exact qdg | exact Sub.rfl | exact SubL.nil | refine SubL.cons ?_ ?_ | exact qag rfl | exact qcm rfl rfl))
              · cbv; exact ⟨.rfl, .rfl, .r .rfl rfl rfl, trivial⟩
              · cbv; exact gc_c (gc_m (qan hpl)) (gc_c (gc_k (hT ▸ qbf 256)) rfl)
              · rw [← qhm, hs]; rfl
            · cbv
              have a7 : at1I b 0 7 = none := by rw [qco hok7 hr7]; exact hc
              refine qaf hS ?_
              cbv
              refine qij hS hb hnb hn' hF rfl 0 11 rfl rfl (by decide) (by decide) (fun hok11 r11 hr11 => ?_) (fun hok11 r11 => ?_)
              · cbv
                refine qdk hS hT (fun c hc c0 c1 => ?_) fun hc => ?_
                · cbv
                  have hs : decI b 0 = ((c.toNat : Int) :: (decI b (0 + 11)).1, (decI b (0 + 11)).2) := dec_11 (by omega) a5 a6 a7 (by rw [qco hok11 hr11]; exact hc)
                  have hle : 0 + 11 ≤ 8 * ilen b := qpj hok11
                  rw [Int.toNat_of_nonneg c0] at hs
                  refine qmz hS 3 rfl ?_ ?_ ?_ (qmg hb hnb hn' hF hP hE hT hS (i1 := 11) (q1 := 1) (st1 := 0) (L1 := [c]) (G1 := [.i .u8 (.y c)]) (by omega) (by omega) rfl (by omega) rfl ?_)
                  · cbv; (repeat' (first | exact qdg | exact Sub.rfl | exact SubL.nil | refine SubL.cons ?_ ?_ | exact qag rfl | exact qcm rfl rfl))
                  · cbv; exact ⟨.rfl, .rfl, .r .rfl rfl rfl, trivial⟩
                  · cbv; exact gc_c (gc_m (qan hpl)) (gc_c (gc_k (hT ▸ qbf 256)) rfl)
                  · rw [← qhm, hs]; rfl
                · cbv
                  have a11 : at1I b 0 11 = none := by rw [qco hok11 hr11]; exact hc
                  refine qaf hS ?_
                  cbv
                  have hno : decI b 0 = ([], dropI b 0) := qks (by omega) a5 a6 a7 a11
                  have hD : Hu.dec (Hu.bl b) = ([], dropI b 0) := by rw [← qhm, hno]
                  obtain ⟨k, hk⟩ : ∃ k, k = 8 * ilen b - 0 := ⟨_, rfl⟩
                  repeat' (first
                    | (refine s_st hS ?_; try cbv)
                    | (refine qab hS ?_ ?_ <;> intro h <;> (try cbv) <;> try exact s_ab h)
                    | (refine qah hS ?_; intro _ _; try cbv)
                    | (refine qae hS ?_; try cbv)
                    | (refine qmk hS ?_ (by simp only [lo]; omega) (by simp only [hi]; omega); intro _ _; cbv)
                    | (refine qcj hS rfl ?_; cbv)
                    | (refine qfs hS hb hnb hn' hF rfl 0 k (by simp only [Z.v]; omega) (by simp only [Z.v]; omega) (by omega) (by omega) (by omega) (fun r hr => ?_); cbv)
                    | (refine qkn hS k (by omega) (by omega) (by omega) (by decide) (fun p hp hp1 hp2 => ?_); cbv))
                  · have hb7 := qdw (i := 0) (by omega) (by omega) hD (by omega)
                    exact qbo (hP.symm.trans (by rw [hb7.1]; rfl)) (hE.symm.trans hb7.2)
                  · have hte := (qbm (i := 0) (by omega) (by omega) hD hk (by omega)).1 (by rw [hr, ← hp]; omega)
                    exact qdz (hP.symm.trans (by rw [hte.1])) (hE.symm.trans hte.2) rfl rfl rfl
                  · have hte := (qbm (i := 0) (by omega) (by omega) hD hk (by omega)).2 (by rw [hr, ← hp]; omega)
                    exact qbo (hP.symm.trans (by rw [hte.1]; rfl)) (hE.symm.trans hte.2)
              · cbv
                have a11 : at1I b 0 11 = none := qbv (qax hok11 (by omega) (by omega))
                have hno : decI b 0 = ([], dropI b 0) := qks (by omega) a5 a6 a7 a11
                have hD : Hu.dec (Hu.bl b) = ([], dropI b 0) := by rw [← qhm, hno]
                obtain ⟨k, hk⟩ : ∃ k, k = 8 * ilen b - 0 := ⟨_, rfl⟩
                repeat' (first
                  | (refine s_st hS ?_; try cbv)
                  | (refine qab hS ?_ ?_ <;> intro h <;> (try cbv) <;> try exact s_ab h)
                  | (refine qah hS ?_; intro _ _; try cbv)
                  | (refine qae hS ?_; try cbv)
                  | (refine qmk hS ?_ (by simp only [lo]; omega) (by simp only [hi]; omega); intro _ _; cbv)
                  | (refine qcj hS rfl ?_; cbv)
                  | (refine qfs hS hb hnb hn' hF rfl 0 k (by simp only [Z.v]; omega) (by simp only [Z.v]; omega) (by omega) (by omega) (by omega) (fun r hr => ?_); cbv)
                  | (refine qkn hS k (by omega) (by omega) (by omega) (by decide) (fun p hp hp1 hp2 => ?_); cbv))
                · have hb7 := qdw (i := 0) (by omega) (by omega) hD (by omega)
                  exact qbo (hP.symm.trans (by rw [hb7.1]; rfl)) (hE.symm.trans hb7.2)
                · have hte := (qbm (i := 0) (by omega) (by omega) hD hk (by omega)).1 (by rw [hr, ← hp]; omega)
                  exact qdz (hP.symm.trans (by rw [hte.1])) (hE.symm.trans hte.2) rfl rfl rfl
                · have hte := (qbm (i := 0) (by omega) (by omega) hD hk (by omega)).2 (by rw [hr, ← hp]; omega)
                  exact qbo (hP.symm.trans (by rw [hte.1]; rfl)) (hE.symm.trans hte.2)
          · cbv
            have a7 : at1I b 0 7 = none := qbv (qax hok7 (by omega) (by omega))
            have a11 : at1I b 0 11 = none := qbv (qax hok7 (by omega) (by omega))
            have hno : decI b 0 = ([], dropI b 0) := qks (by omega) a5 a6 a7 a11
            have hD : Hu.dec (Hu.bl b) = ([], dropI b 0) := by rw [← qhm, hno]
            obtain ⟨k, hk⟩ : ∃ k, k = 8 * ilen b - 0 := ⟨_, rfl⟩
            repeat' (first
              | (refine s_st hS ?_; try cbv)
              | (refine qab hS ?_ ?_ <;> intro h <;> (try cbv) <;> try exact s_ab h)
              | (refine qah hS ?_; intro _ _; try cbv)
              | (refine qae hS ?_; try cbv)
              | (refine qmk hS ?_ (by simp only [lo]; omega) (by simp only [hi]; omega); intro _ _; cbv)
              | (refine qcj hS rfl ?_; cbv)
              | (refine qfs hS hb hnb hn' hF rfl 0 k (by simp only [Z.v]; omega) (by simp only [Z.v]; omega) (by omega) (by omega) (by omega) (fun r hr => ?_); cbv)
              | (refine qkn hS k (by omega) (by omega) (by omega) (by decide) (fun p hp hp1 hp2 => ?_); cbv))
            · have hb7 := qdw (i := 0) (by omega) (by omega) hD (by omega)
              exact qbo (hP.symm.trans (by rw [hb7.1]; rfl)) (hE.symm.trans hb7.2)
            · have hte := (qbm (i := 0) (by omega) (by omega) hD hk (by omega)).1 (by rw [hr, ← hp]; omega)
              exact qdz (hP.symm.trans (by rw [hte.1])) (hE.symm.trans hte.2) rfl rfl rfl
            · have hte := (qbm (i := 0) (by omega) (by omega) hD hk (by omega)).2 (by rw [hr, ← hp]; omega)
              exact qbo (hP.symm.trans (by rw [hte.1]; rfl)) (hE.symm.trans hte.2)
      · cbv
        have a6 : at1I b 0 6 = none := qbv (qax hok6 (by omega) (by omega))
        have a7 : at1I b 0 7 = none := qbv (qax hok6 (by omega) (by omega))
        have a11 : at1I b 0 11 = none := qbv (qax hok6 (by omega) (by omega))
        have hno : decI b 0 = ([], dropI b 0) := qks (by omega) a5 a6 a7 a11
        have hD : Hu.dec (Hu.bl b) = ([], dropI b 0) := by rw [← qhm, hno]
        obtain ⟨k, hk⟩ : ∃ k, k = 8 * ilen b - 0 := ⟨_, rfl⟩
        repeat' (first
          | (refine s_st hS ?_; try cbv)
          | (refine qab hS ?_ ?_ <;> intro h <;> (try cbv) <;> try exact s_ab h)
          | (refine qah hS ?_; intro _ _; try cbv)
          | (refine qae hS ?_; try cbv)
          | (refine qmk hS ?_ (by simp only [lo]; omega) (by simp only [hi]; omega); intro _ _; cbv)
          | (refine qcj hS rfl ?_; cbv)
          | (refine qfs hS hb hnb hn' hF rfl 0 k (by simp only [Z.v]; omega) (by simp only [Z.v]; omega) (by omega) (by omega) (by omega) (fun r hr => ?_); cbv)
          | (refine qkn hS k (by omega) (by omega) (by omega) (by decide) (fun p hp hp1 hp2 => ?_); cbv))
        · have hb7 := qdw (i := 0) (by omega) (by omega) hD (by omega)
          exact qbo (hP.symm.trans (by rw [hb7.1]; rfl)) (hE.symm.trans hb7.2)
        · have hte := (qbm (i := 0) (by omega) (by omega) hD hk (by omega)).1 (by rw [hr, ← hp]; omega)
          exact qdz (hP.symm.trans (by rw [hte.1])) (hE.symm.trans hte.2) rfl rfl rfl
        · have hte := (qbm (i := 0) (by omega) (by omega) hD hk (by omega)).2 (by rw [hr, ← hp]; omega)
          exact qbo (hP.symm.trans (by rw [hte.1]; rfl)) (hE.symm.trans hte.2)
  · cbv
    have a5 : at1I b 0 5 = none := qbv (qax hok5 (by omega) (by omega))
    have a6 : at1I b 0 6 = none := qbv (qax hok5 (by omega) (by omega))
    have a7 : at1I b 0 7 = none := qbv (qax hok5 (by omega) (by omega))
    have a11 : at1I b 0 11 = none := qbv (qax hok5 (by omega) (by omega))
    have hno : decI b 0 = ([], dropI b 0) := qks (by omega) a5 a6 a7 a11
    have hD : Hu.dec (Hu.bl b) = ([], dropI b 0) := by rw [← qhm, hno]
    obtain ⟨k, hk⟩ : ∃ k, k = 8 * ilen b - 0 := ⟨_, rfl⟩
    repeat' (first
      | (refine s_st hS ?_; try cbv)
      | (refine qab hS ?_ ?_ <;> intro h <;> (try cbv) <;> try exact s_ab h)
      | (refine qah hS ?_; intro _ _; try cbv)
      | (refine qae hS ?_; try cbv)
      | (refine qmk hS ?_ (by simp only [lo]; omega) (by simp only [hi]; omega); intro _ _; cbv)
      | (refine qcj hS rfl ?_; cbv)
      | (refine qfs hS hb hnb hn' hF rfl 0 k (by simp only [Z.v]; omega) (by simp only [Z.v]; omega) (by omega) (by omega) (by omega) (fun r hr => ?_); cbv)
      | (refine qkn hS k (by omega) (by omega) (by omega) (by decide) (fun p hp hp1 hp2 => ?_); cbv))
    · have hb7 := qdw (i := 0) (by omega) (by omega) hD (by omega)
      exact qbo (hP.symm.trans (by rw [hb7.1]; rfl)) (hE.symm.trans hb7.2)
    · have hte := (qbm (i := 0) (by omega) (by omega) hD hk (by omega)).1 (by rw [hr, ← hp]; omega)
      exact qdz (hP.symm.trans (by rw [hte.1])) (hE.symm.trans hte.2) rfl rfl rfl
    · have hte := (qbm (i := 0) (by omega) (by omega) hD hk (by omega)).2 (by rw [hr, ← hp]; omega)
      exact qbo (hP.symm.trans (by rw [hte.1]; rfl)) (hE.symm.trans hte.2)
end Cz
namespace Cz
open Go Go.RowKit Go.Proofs
def satI (x : List UInt8) (i : Int) : Int := (x.getD i.toNat 0).toNat
theorem sat_eq {P : Program} {x : List UInt8} {i : Int} : (S0 P).sat x i = satI x i := rfl
theorem qzacb {x : List UInt8} {i : Nat} {c : Int} (h0 : 0 ≤ c) (h : c < 256) : satI x i = c ↔ (x.getD i 0 == c.toNat.toUInt8) = true := by
  unfold satI
  rw [Int.toNat_natCast, beq_iff_eq]
  constructor
  · intro e
    apply UInt8.toNat_inj.1
    rw [UInt8.toNat_ofNat', ← e, Int.toNat_natCast]
    have := (x.getD i 0).toNat_lt
    omega
  · intro e
    rw [e]
    simp only [Nat.toUInt8, UInt8.toNat_ofNat']
    omega
theorem idx_found {x : List UInt8} {c j : Int} (h0 : 0 ≤ c) (h : c < 256) (hj0 : 0 ≤ j) (hj : j < ilen x) (hn : ∀ i : Nat, (i : Int) < j → satI x i ≠ c) (he : satI x j = c) : idxI x c = j := by
  unfold idxI
  have : (List.range x.length).find? (fun i => x.getD i 0 == c.toNat.toUInt8) = some j.toNat := by
    rw [List.find?_range_eq_some]
    have he' : (x.getD j.toNat 0 == c.toNat.toUInt8) = true := (qzacb h0 h).1 (by rw [Int.toNat_of_nonneg hj0]; exact he)
    refine ⟨he', by simp only [List.mem_range]; unfold ilen at hj; omega, ?_⟩
    intro i hi
    have h1 := hn i (by omega)
    rw [Ne, qzacb h0 h] at h1
    simpa using h1
  rw [this]
  show ((j.toNat : Nat) : Int) = j
  omega
theorem idx_none {x : List UInt8} {c : Int} (h0 : 0 ≤ c) (h : c < 256) (hn : ∀ i : Nat, (i : Int) < ilen x → satI x i ≠ c) : idxI x c = -1 := by
  unfold idxI
  have : (List.range x.length).find? (fun i => x.getD i 0 == c.toNat.toUInt8) = none := by
    rw [List.find?_eq_none]
    intro i hi
    simp only [List.mem_range] at hi
    have h1 := hn i (by unfold ilen; omega)
    rw [Ne, qzacb h0 h] at h1
    exact h1
  rw [this]
theorem nc (n : Nat) : NatCast.natCast n = (n : Int) := rfl
theorem place_f {x : List UInt8} {c r : Int} (hx : ilen x ≤ 1000) (h0 : 0 ≤ c) (hc : c < 256) (hr : idxI x c = r) : (S0 Tryd.prog).call 137 [.s x, .i .u8 (.y c)] [] (fun y _ => Sub y (.i .i64 (.y r))) := by
  have hnx : (S0 Tryd.prog).slen x = ilen x := rfl
  rw [slen_eq] at hnx
  have hx0 := qai x
  generalize hS : S0 Tryd.prog = S
  refine qac hS I.qki ?_
  cbv
  refine qaz hS 0 I.qgp (fun j : Int => 0 ≤ j ∧ j ≤ ilen x ∧ ∀ i : Nat, (i : Int) < j → satI x i ≠ c)
    (fun j => [(5, .i .i64 (.y j))]) (fun _ => []) (fun j => (ilen x - j).toNat) 0 rfl ⟨⟨Int.le_refl _, by omega, fun i hi => by omega⟩, rfl, ?_, ?_, by cbv⟩ ?_
  · cbv; all_goals exact s_sA
  · cbv; all_goals exact s_bA
  intro j hj
  cbv
  obtain ⟨g0, g1, g2'⟩ := hj
  have g2 : ∀ i : Nat, (i : Int) < j → satI x i ≠ c := g2'
  repeat' (first
    | (refine s_st hS ?_; try cbv)
    | (refine qab hS ?_ ?_ <;> intro h <;> (try cbv) <;> try exact s_ab h)
    | (refine qah hS ?_; intro _ _; try cbv)
    | (refine qae hS ?_; try cbv))
  · refine qag ?_
    rw [sat_eq] at h
    simp only [Z.v]
    rw [← hr]; exact (idx_found h0 hc g0 (by omega) g2 h).symm
  · rw [sat_eq] at h
    rename_i j2 hj2
    have g3 : ∀ i : Nat, (i : Int) < j2 → satI x i ≠ c := by
      intro i hi
      rcases Int.lt_or_le i j with hl | hl
      · exact g2 i hl
      · have e : (i : Int) = j := by omega
        rw [e]; exact h
    refine ⟨j2, by omega, ⟨by omega, by omega, g3⟩, rfl, ?_, ?_, by cbv⟩
    · cbv; all_goals exact s_sA
    · cbv; all_goals exact s_bA
  · refine qag ?_
    simp only [Z.v]
    have g2 : ∀ i : Nat, (i : Int) < j → satI x i ≠ c := g2'
    simp only [nc] at *
    rw [← hr]; exact (idx_none h0 hc fun i hi => g2 i (by omega)).symm
theorem qdn {S : Sy} (hS : S0 Tryd.prog = S) {l : List Blk} {K : SV → List Blk → Prop} {x : List UInt8} {c : Z} (hx : ilen x ≤ 1000) (h0 : 0 ≤ c.v) (h : c.v < 256) (hK : ∀ r, idxI x c.v = r → K (.i .i64 (.y r)) l) :
    S.call 137 [.s x, .i .u8 c] l K :=
  qbe hS (place_f (c := c.v) hx h0 h rfl) (.cons .rfl (.cons (qag rfl) .nil)) rfl rfl (hK _ rfl)
def w18 : List UInt8 := [45, 47, 48, 49, 50, 51, 97, 99, 101, 105, 110, 111, 114, 115, 116, 117, 46, 52, 53, 54, 55, 56, 57, 58, 98, 100, 102, 103, 104, 108, 109, 112, 65, 66, 67, 68, 69, 70, 71, 72, 106, 107, 113, 118, 119, 120, 121, 122]
theorem w18_all : (List.range 256).all (fun n => has w18 n == !(Hu.cls n == 11)) = true := by decide +kernel
theorem w18_at {c : Int} (h0 : 0 ≤ c) (h : c < 256) : (Hu.cls c.toNat = 11 ∧ idxI w18 c < 0) ∨ (Hu.cls c.toNat ≠ 11 ∧ 0 ≤ idxI w18 c) := by
  obtain ⟨n, rfl⟩ : ∃ n : Nat, c = n := ⟨c.toNat, by omega⟩
  have h1 := List.all_eq_true.1 w18_all n (by simp; omega)
  simp only [Int.toNat_natCast] at *
  by_cases e : Hu.cls n = 11
  · exact .inl ⟨e, qft (by simpa [e] using h1)⟩
  · exact .inr ⟨e, qqp (by rw [beq_iff_eq] at h1; rw [h1]; simp [e])⟩
theorem idx_all : (List.range 256).all (fun n => (!(Hu.cls n == 5) || (idxI w5 n == (Hu.codeOf n : Int))) && ((!(Hu.cls n == 6) || (32 + idxI w6 n == (Hu.codeOf n : Int))) && (!(Hu.cls n == 7) || (96 + idxI w7 n == (Hu.codeOf n : Int))))) = true := by decide +kernel
theorem idx_code {c : Int} (h0 : 0 ≤ c) (h : c < 256) : (Hu.cls c.toNat = 5 → idxI w5 c = codeI c) ∧ (Hu.cls c.toNat = 6 → 32 + idxI w6 c = codeI c) ∧ (Hu.cls c.toNat = 7 → 96 + idxI w7 c = codeI c) := by
  obtain ⟨n, rfl⟩ : ∃ n : Nat, c = n := ⟨c.toNat, by omega⟩
  have h1 := List.all_eq_true.1 idx_all n (by simp; omega)
  simp only [Bool.and_eq_true, Bool.or_eq_true, Bool.not_eq_true', beq_eq_false_iff_ne, beq_iff_eq] at h1
  unfold codeI
  simp only [Int.toNat_natCast] at *
  exact ⟨fun e => h1.1.resolve_left (by simp [e]), fun e => h1.2.1.resolve_left (by simp [e]), fun e => h1.2.2.resolve_left (by simp [e])⟩
theorem others_f {c r : Int} (h0 : 0 ≤ c) (hc : c < 256) (hr : cntI 11 c = r) : (S0 Tryd.prog).call 138 [.i .u8 (.y c)] [] (fun y _ => Sub y (.i .i64 (.y r))) := by
  generalize hS : S0 Tryd.prog = S
  refine qac hS I.qiz ?_
  cbv
  refine qaz hS 0 I.qfy (fun x : Int × Int => 0 ≤ x.1 ∧ x.1 ≤ c ∧ x.2 = cntI 11 x.1)
    (fun x => [(4, .i .i64 (.y x.1)), (3, .i .i64 (.y x.2))]) (fun _ => []) (fun x => (c - x.1).toNat) (0, 0) rfl ⟨⟨Int.le_refl _, by dsimp only; omega, rfl⟩, rfl, ?_, ?_, by cbv⟩ ?_
  · cbv; all_goals exact s_sA
  · cbv; all_goals exact s_bA
  intro x
  obtain ⟨j, w⟩ := x
  intro hx
  dsimp only at hx
  cbv
  obtain ⟨g0, g1, g2⟩ := hx
  have hw : 0 ≤ w ∧ w ≤ j := by rw [g2]; exact qhq g0
  refine s_cvi hS ?_ (by simp only [lo]; omega) (by simp only [hi]; omega)
  cbv
  refine qab hS ?_ ?_ <;> intro h <;> cbv
  · repeat' (first
    | (refine s_st hS ?_; try cbv)
    | (refine qab hS ?_ ?_ <;> intro h <;> (try cbv) <;> try exact s_ab h)
    | (refine qah hS ?_; intro _ _; try cbv)
    | (refine qae hS ?_; try cbv))
    rcases w18_at g0 (by omega) with ⟨e, hq⟩ | ⟨e, hq⟩
    · refine qdn hS (by decide) g0 (by simp only [Z.v]; omega) fun r18 h18 => ?_
      replace h18 : r18 < 0 := by rw [← h18]; exact hq
      cbv
      repeat' (first
        | (refine s_st hS ?_; try cbv)
        | (refine qab hS ?_ ?_ <;> intro h <;> (try cbv) <;> try exact s_ab h)
        | (refine qah hS ?_; intro _ _; try cbv)
        | (refine qae hS ?_; try cbv))
      rename_i w2 hw2 j2 hj2
      have n11 := qar (m := 11) g0
      rw [if_pos e, ← hj2] at n11
      have g2 : w = cntI 11 j := g2
      refine ⟨(j2, w2), by dsimp only; omega, ⟨by dsimp only; omega, by dsimp only; omega, by dsimp only; omega⟩, rfl, ?_, ?_, by cbv⟩
      · cbv; all_goals exact s_sA
      · cbv; all_goals exact s_bA
    · refine qdn hS (by decide) g0 (by simp only [Z.v]; omega) fun r18 h18 => ?_
      replace h18 : 0 ≤ r18 := by rw [← h18]; exact hq
      cbv
      repeat' (first
        | (refine s_st hS ?_; try cbv)
        | (refine qab hS ?_ ?_ <;> intro h <;> (try cbv) <;> try exact s_ab h)
        | (refine qah hS ?_; intro _ _; try cbv)
        | (refine qae hS ?_; try cbv))
      rename_i j2 hj2
      have n11 := qar (m := 11) g0
      rw [if_neg e, ← hj2] at n11
      have g2 : w = cntI 11 j := g2
      refine ⟨(j2, w), by dsimp only; omega, ⟨by dsimp only; omega, by dsimp only; omega, by dsimp only; omega⟩, rfl, ?_, ?_, by cbv⟩
      · cbv; all_goals exact s_sA
      · cbv; all_goals exact s_bA
  · refine qag ?_
    simp only [Z.v]
    rw [← hr, g2, show j = c by omega]
theorem others_u {S : Sy} (hS : S0 Tryd.prog = S) {l : List Blk} {K : SV → List Blk → Prop} {c : Z} (h0 : 0 ≤ c.v) (h : c.v < 256) (hK : ∀ r, cntI 11 c.v = r → K (.i .i64 (.y r)) l) :
    S.call 138 [.i .u8 c] l K :=
  qbe hS (others_f (c := c.v) h0 h rfl) (.cons (qag rfl) .nil) rfl rfl (hK _ rfl)
theorem rCode_f {c a m : Int} (h0 : 0 ≤ c) (hc : c < 256) (ha : codeI c = a) (hm : clsI c = m) : (S0 Tryd.prog).call 135 [.i .u8 (.y c)] [] (fun x _ => Sub x (.tp [.i .i64 (.y a), .i .i64 (.y m)])) := by
  obtain ⟨x5, x6, x7⟩ := idx_code h0 hc
  have cb := codeI_bd ⟨h0, hc⟩
  rw [ha] at x5 x6 x7 cb
  generalize hS : S0 Tryd.prog = S
  refine qac hS I.qlv ?_
  cbv
  rcases idx_at h0 hc with ⟨e, i5, i6, i7⟩ | ⟨e, i5, i6, i7⟩ | ⟨e, i5, i6, i7⟩ | ⟨e, i5, i6, i7⟩
  · have x5 := x5 e
    have em : m = 5 := by rw [← hm]; unfold clsI; rw [e]; rfl
    refine qdn hS (by decide) h0 hc fun r h => ?_
    replace h : r = idxI w5 c := h.symm
    cbv
    repeat' (first
      | (refine s_st hS ?_; try cbv)
      | (refine qab hS ?_ ?_ <;> intro h <;> (try cbv) <;> try exact s_ab h)
      | (refine qah hS ?_; intro _ _; try cbv)
      | (refine qae hS ?_; try cbv))
    refine qdn hS (by decide) h0 hc fun s h => ?_
    replace h : s = idxI w5 c := h.symm
    cbv
    all_goals exact s_sA
  · have x6 := x6 e
    have em : m = 6 := by rw [← hm]; unfold clsI; rw [e]; rfl
    refine qdn hS (by decide) h0 hc fun r h => ?_
    replace h : r = idxI w5 c := h.symm
    cbv
    repeat' (first
      | (refine s_st hS ?_; try cbv)
      | (refine qab hS ?_ ?_ <;> intro h <;> (try cbv) <;> try exact s_ab h)
      | (refine qah hS ?_; intro _ _; try cbv)
      | (refine qae hS ?_; try cbv))
    refine qdn hS (by decide) h0 hc fun r h => ?_
    replace h : r = idxI w6 c := h.symm
    cbv
    repeat' (first
      | (refine s_st hS ?_; try cbv)
      | (refine qab hS ?_ ?_ <;> intro h <;> (try cbv) <;> try exact s_ab h)
      | (refine qah hS ?_; intro _ _; try cbv)
      | (refine qae hS ?_; try cbv))
    refine qdn hS (by decide) h0 hc fun s h => ?_
    replace h : s = idxI w6 c := h.symm
    cbv
    repeat' (first
      | (refine s_st hS ?_; try cbv)
      | (refine qab hS ?_ ?_ <;> intro h <;> (try cbv) <;> try exact s_ab h)
      | (refine qah hS ?_; intro _ _; try cbv)
      | (refine qae hS ?_; try cbv))
    all_goals exact s_sA
  · have x7 := x7 e
    have em : m = 7 := by rw [← hm]; unfold clsI; rw [e]; rfl
    refine qdn hS (by decide) h0 hc fun r h => ?_
    replace h : r = idxI w5 c := h.symm
    cbv
    repeat' (first
      | (refine s_st hS ?_; try cbv)
      | (refine qab hS ?_ ?_ <;> intro h <;> (try cbv) <;> try exact s_ab h)
      | (refine qah hS ?_; intro _ _; try cbv)
      | (refine qae hS ?_; try cbv))
    refine qdn hS (by decide) h0 hc fun r h => ?_
    replace h : r = idxI w6 c := h.symm
    cbv
    repeat' (first
      | (refine s_st hS ?_; try cbv)
      | (refine qab hS ?_ ?_ <;> intro h <;> (try cbv) <;> try exact s_ab h)
      | (refine qah hS ?_; intro _ _; try cbv)
      | (refine qae hS ?_; try cbv))
    refine qdn hS (by decide) h0 hc fun r h => ?_
    replace h : r = idxI w7 c := h.symm
    cbv
    repeat' (first
      | (refine s_st hS ?_; try cbv)
      | (refine qab hS ?_ ?_ <;> intro h <;> (try cbv) <;> try exact s_ab h)
      | (refine qah hS ?_; intro _ _; try cbv)
      | (refine qae hS ?_; try cbv))
    refine qdn hS (by decide) h0 hc fun s h => ?_
    replace h : s = idxI w7 c := h.symm
    cbv
    repeat' (first
      | (refine s_st hS ?_; try cbv)
      | (refine qab hS ?_ ?_ <;> intro h <;> (try cbv) <;> try exact s_ab h)
      | (refine qah hS ?_; intro _ _; try cbv)
      | (refine qae hS ?_; try cbv))
    all_goals exact s_sA
  · have x11 : a = 1792 + cntI 11 c := by rw [← ha, qjv e]; rfl
    have em : m = 11 := by rw [← hm]; unfold clsI; rw [e]; rfl
    refine qdn hS (by decide) h0 hc fun r h => ?_
    replace h : r = idxI w5 c := h.symm
    cbv
    repeat' (first
      | (refine s_st hS ?_; try cbv)
      | (refine qab hS ?_ ?_ <;> intro h <;> (try cbv) <;> try exact s_ab h)
      | (refine qah hS ?_; intro _ _; try cbv)
      | (refine qae hS ?_; try cbv))
    refine qdn hS (by decide) h0 hc fun r h => ?_
    replace h : r = idxI w6 c := h.symm
    cbv
    repeat' (first
      | (refine s_st hS ?_; try cbv)
      | (refine qab hS ?_ ?_ <;> intro h <;> (try cbv) <;> try exact s_ab h)
      | (refine qah hS ?_; intro _ _; try cbv)
      | (refine qae hS ?_; try cbv))
    refine qdn hS (by decide) h0 hc fun r h => ?_
    replace h : r = idxI w7 c := h.symm
    cbv
    repeat' (first
      | (refine s_st hS ?_; try cbv)
      | (refine qab hS ?_ ?_ <;> intro h <;> (try cbv) <;> try exact s_ab h)
      | (refine qah hS ?_; intro _ _; try cbv)
      | (refine qae hS ?_; try cbv))
    refine others_u hS h0 hc fun s h => ?_
    replace h : s = cntI 11 c := h.symm
    cbv
    repeat' (first
      | (refine s_st hS ?_; try cbv)
      | (refine qab hS ?_ ?_ <;> intro h <;> (try cbv) <;> try exact s_ab h)
      | (refine qah hS ?_; intro _ _; try cbv)
      | (refine qae hS ?_; try cbv))
    all_goals exact s_sA
theorem rCode_u {S : Sy} (hS : S0 Tryd.prog = S) {l : List Blk} {K : SV → List Blk → Prop} {c : Z} (h0 : 0 ≤ c.v) (h : c.v < 256) (hK : ∀ a m, codeI c.v = a → clsI c.v = m → K (.tp [.i .i64 (.y a), .i .i64 (.y m)]) l) :
    S.call 135 [.i .u8 c] l K :=
  qbe hS (rCode_f (c := c.v) h0 h rfl rfl) (.cons (qag rfl) .nil) rfl rfl (hK _ _ rfl rfl)
theorem find_at {a m i : Int} (h0 : 0 ≤ i) (h : i < 256) (h1 : codeI i = a) (h2 : clsI i = m) : findR a m = i ∧ findB a m = true := by
  have : findO a m = some i.toNat := by
    unfold findO codeI clsI at *
    rw [← h1, ← h2, if_pos ⟨by omega, by omega⟩]
    simp only [Int.toNat_natCast]
    exact Hu.qsw (by omega)
  unfold findR findB
  rw [this]
  refine ⟨?_, rfl⟩
  show ((i.toNat : Nat) : Int) = i
  omega
theorem find_not {a m : Int} (h : ∀ i : Int, 0 ≤ i → i < 256 → ¬(codeI i = a ∧ clsI i = m)) : findR a m = 0 ∧ findB a m = false := by
  have : findO a m = none := by
    cases hf : findO a m with
    | none => rfl
    | some c => obtain ⟨h1, h2, h3⟩ := qov hf; exact absurd ⟨h2, h3⟩ (h c (by omega) (by omega))
  unfold findR findB
  rw [this]; exact ⟨rfl, rfl⟩
theorem rOf_f {a m r : Int} {b : Bool} (hr : findR a m = r) (hb : findB a m = b) : (S0 Tryd.prog).call 132 [.i .i64 (.y a), .i .i64 (.y m)] [] (fun x _ => Sub x (.tp [.i .u8 (.y r), .b b])) := by
  generalize hS : S0 Tryd.prog = S
  refine qac hS I.qou ?_
  cbv
  refine qaz hS 0 I.qje (fun j : Int => 0 ≤ j ∧ j ≤ 256 ∧ ∀ i : Int, 0 ≤ i → i < j → ¬(codeI i = a ∧ clsI i = m))
    (fun j => [(6, .i .i64 (.y j))]) (fun _ => []) (fun j => (256 - j).toNat) 0 rfl ⟨⟨Int.le_refl _, by omega, fun i h h' => by omega⟩, rfl, ?_, ?_, by cbv⟩ ?_
  · cbv; all_goals exact s_sA
  · cbv; all_goals exact s_bA
  intro j hj
  cbv
  obtain ⟨g0, g1, g2⟩ := hj
  refine qab hS ?_ ?_ <;> intro h <;> cbv
  · repeat' (first
    | (refine s_st hS ?_; try cbv)
    | (refine qab hS ?_ ?_ <;> intro h <;> (try cbv) <;> try exact s_ab h)
    | (refine qah hS ?_; intro _ _; try cbv)
    | (refine qae hS ?_; try cbv)
    | (refine rCode_u hS g0 (by simp only [Z.v]; omega) fun x y hx hy => ?_; cbv))
    · rename_i e1 e2
      have hf := find_at (a := a) (m := m) g0 (by assumption) (hx.trans (by assumption)) (hy.trans (by assumption))
      have e1 : r = j := by rw [← hr, hf.1]
      have e2 : b = true := by rw [← hb, hf.2]
      all_goals exact s_sA
    · rename_i e1 j2 hj2
      refine ⟨j2, by omega, ⟨by omega, by omega, fun i h0 h1 => ?_⟩, rfl, ?_, ?_, by cbv⟩
      · rcases Int.lt_or_le i j with hl | hl
        · exact g2 i h0 hl
        · obtain rfl : i = j := by omega
          rintro ⟨e3, e4⟩
          exact absurd (hy.symm.trans e4) (by assumption)
      · cbv; all_goals exact s_sA
      · cbv; all_goals exact s_bA
    · rename_i j2 hj2
      refine ⟨j2, by omega, ⟨by omega, by omega, fun i h0 h1 => ?_⟩, rfl, ?_, ?_, by cbv⟩
      · rcases Int.lt_or_le i j with hl | hl
        · exact g2 i h0 hl
        · obtain rfl : i = j := by omega
          rintro ⟨e3, e4⟩
          exact absurd (hx.symm.trans e3) (by assumption)
      · cbv; all_goals exact s_sA
      · cbv; all_goals exact s_bA
  · have := find_not (a := a) (m := m) fun i h0 h1 => g2 i h0 (by omega)
    have e1 : r = 0 := by rw [← hr, this.1]
    have e2 : b = false := by rw [← hb, this.2]
    all_goals exact s_sA
end Cz
namespace Cz
open Go Go.RowKit Go.Proofs
theorem s_quo {S : Sy} {k : IntKind} {a b : Int} {K : Int → Prop} (hS : S0 Tryd.prog = S) (h0 : 0 ≤ a) (hb : 0 < b) (h1 : a ≤ Cz.hi k) (h : ∀ r, r = a / b → K r) : S.ar .quo k a b K := by
  refine qps hS _ ?_ (h _ rfl)
  show k.wrap (a.tdiv b) = _
  rw [Int.tdiv_eq_ediv_of_nonneg h0]
  have h2 := Int.ediv_nonneg h0 (by omega : 0 ≤ b)
  have h3 := Int.ediv_le_self b h0
  exact qgv (by have := qxd k; omega) (by omega)
theorem s_rem {S : Sy} {k : IntKind} {a b : Int} {K : Int → Prop} (hS : S0 Tryd.prog = S) (h0 : 0 ≤ a) (h : ∀ r, r = a % b → K r) : S.ar .rem k a b K := by
  refine qps hS _ ?_ (h _ rfl)
  show a.tmod b = _
  exact Int.tmod_eq_emod_of_nonneg h0
def shortB (b : List Int) : Bool := decide ((bitsI b (ilen b) + 7) / 8 < ilen b)
theorem Shorter_f {b : List Int} {t : Bool} (hb : Hu.BOk b) (hn : ilen b ≤ 1000000) (ht : shortB b = t) :
    (S0 Tryd.prog).call 89 [.sl 0 1 (.l 0) (.y (ilen b)) none] [.r true true (.l 0) 1 (cellsB b)] (fun x _ => Sub x (.b t)) := by
  have hB := Bits_f hb hn rfl
  obtain ⟨r, hr⟩ : ∃ r, bitsI b (ilen b) = r := ⟨_, rfl⟩
  have hrb := qnt (b := b) (qai b)
  obtain ⟨n, hn'⟩ : ∃ n, ilen b = n := ⟨_, rfl⟩
  have h0n := qai b
  have ht' : t = decide ((r + 7) / 8 < n) := by rw [← ht, ← hr, ← hn']; rfl
  rw [hr] at hrb hB
  rw [hn'] at hn h0n hrb hB ⊢
  have hpl := qad b
  generalize hF : cellsB b = F at hpl hB ⊢
  generalize hS : S0 Tryd.prog = S
  refine qac hS I.qsv ?_
  cbv
  refine qdv hS id hB .rfl rfl ⟨⟨true, .l 0, 1, F, true, true, .l 0, F, rfl, hpl, rfl, .rfl⟩, trivial⟩ rfl ?_
  cbv
  repeat' (first
    | (refine s_st hS ?_; try cbv)
    | (refine qab hS ?_ ?_ <;> intro h <;> (try cbv) <;> try exact s_ab h)
    | (refine qah hS ?_; intro _ _; try cbv)
    | (refine qae hS ?_; try cbv)
    | (refine qbn hS (c := 8) rfl ?_; intro _ _; cbv))
  rename_i e
  refine qwd ?_
  simp only [← hS, Int.ofNat_eq_natCast, cq, Bool.not_eq_true', Bool.not_eq_false', decide_eq_true_eq, decide_eq_false_iff_not, beq_iff_eq, beq_eq_false_iff_ne, ne_eq]
  rw [ht']
  congr 2
  omega
def shrI (v k : Int) : Int := v / 2 ^ k.toNat
def bitB (b : List Int) (i : Int) : Bool := okI b i 1
def bitR (b : List Int) (i : Int) : Int := if bitB b i then bitI b i else 0
theorem Bit_f {b : List Int} {i r : Int} {t : Bool} (hb : Hu.BOk b) (hn : ilen b ≤ 1000000) (hi64 : i ≤ 9223372036854775807) (hr : bitR b i = r) (ht : bitB b i = t) :
    (S0 Tryd.prog).call 133 [.sl 0 1 (.l 0) (.y (ilen b)) none, .i .i64 (.y i)] [.r true true (.l 0) 1 (cellsB b)] (fun x _ => Sub x (.tp [.i .i64 (.y r), .b t])) := by
  obtain ⟨n, hn'⟩ : ∃ n, n = ilen b := ⟨_, rfl⟩
  have h0n := qai b
  rw [← hn'] at hn h0n ⊢
  have hpl := qad b
  generalize hF : cellsB b = F at hpl ⊢
  generalize hS : S0 Tryd.prog = S
  refine qac hS I.qnf ?_
  cbv
  repeat' (first
    | (refine s_st hS ?_; try cbv)
    | (refine qab hS ?_ ?_ <;> intro h <;> (try cbv) <;> try exact s_ab h)
    | (refine qah hS ?_; intro _ _; try cbv)
    | (refine qae hS ?_; try cbv)
    | (refine s_quo hS (by omega) (by omega) (by simp only [hi]; omega) ?_; intro _ _; cbv))
  · have e2 : t = false := by rw [← ht]; exact okI_f (.inl h)
    have e1 : r = 0 := by rw [← hr]; unfold bitR; rw [ht, e2]; rfl
    all_goals exact s_sA
  · have e2 : t = false := by rw [← ht]; exact okI_f (.inr (by omega))
    have e1 : r = 0 := by rw [← hr]; unfold bitR; rw [ht, e2]; rfl
    all_goals exact s_sA
  · have e2 : t = true := by rw [← ht]; exact okI_t (by omega) (by omega)
    have e1 : r = bitI b i := by rw [← hr]; unfold bitR; rw [ht, e2]; rfl
    rename_i q1 hq1 q hq
    obtain ⟨v, hv⟩ := qfh (l := b) (i := q) (by omega) (by omega)
    have hb0 := hb v (List.mem_of_getElem? hv)
    repeat' (first
      | (refine s_st hS ?_; try cbv)
      | (refine qab hS ?_ ?_ <;> intro h <;> (try cbv) <;> try exact s_ab h)
      | (refine qah hS ?_; intro _ _; try cbv)
      | (refine qae hS ?_; try cbv)
      | (refine rowB hS hF hv rfl (by omega) ?_; try cbv))
    obtain ⟨sh, hsh⟩ : ∃ sh, sh = 7 - i % 8 := ⟨_, rfl⟩
    refine qaz hS 1 I.qhy (fun x : Int × Int => 0 ≤ x.1 ∧ x.1 ≤ sh ∧ x.2 = shrI v x.1)
      (fun x => [(7, .i .i64 (.y x.1)), (6, .i .i64 (.y x.2))]) (fun x => [])
      (fun x => (sh - x.1).toNat) (0, v) rfl ⟨⟨Int.le_refl _, by dsimp only; omega, by simp [shrI]⟩, rfl, ?_, ?_, ?_⟩ ?_
    · cbv; all_goals exact s_sA
    · cbv; all_goals exact s_bA
    · cbv; exact gc_c (gc_m (qan hpl)) rfl
    · intro x
      obtain ⟨k, w⟩ := x
      intro hx
      dsimp only at hx
      cbv
      obtain ⟨g0, g1, g2⟩ := hx
      unfold shrI at g2
      have hw : 0 ≤ w ∧ w < 256 := by
        rw [g2]
        have h1 := Int.ediv_nonneg hb0.1 (by have := qda k.toNat; omega : (0 : Int) ≤ 2 ^ k.toNat)
        have h2 := Int.ediv_le_self ((2 : Int) ^ k.toNat) hb0.1
        omega
      have hw2 : w / 2 = shrI v (k + 1) := by
        unfold shrI
        rw [g2, Int.ediv_ediv_of_nonneg (by have := qda k.toNat; omega), show (k + 1).toNat = k.toNat + 1 by omega, Int.pow_succ]
      have hend : k = sh → bitI b i = w % 2 := fun e => bit_of hv hb (by omega) hq (j := k) (by omega) (by rw [g2])
      clear g2
      repeat' (first
        | (refine s_st hS ?_; try cbv)
        | (refine qab hS ?_ ?_ <;> intro h <;> (try cbv) <;> try exact s_ab h)
        | (refine qah hS ?_; intro _ _; try cbv)
        | (refine qae hS ?_; try cbv)
        | (refine s_rem hS (by omega) ?_; intro _ _; cbv)
        | (refine s_quo hS (by omega) (by omega) (by simp only [hi]; omega) ?_; intro _ _; cbv))
      · rename_i w2 hw2' k2 hk2
        refine ⟨(k2, w2), by dsimp only; omega, ⟨by dsimp only; omega, by dsimp only; omega, ?_⟩, rfl, ?_, ?_, ?_⟩
        · dsimp only; rw [hw2', hk2]; exact hw2
        · cbv; all_goals exact s_sA
        · cbv; all_goals exact s_bA
        · cbv; exact gc_c (gc_m (qan hpl)) rfl
      · have := hend (by omega)
        all_goals exact s_sA
theorem Bit_u {S : Sy} (hS : S0 Tryd.prog = S) {b : List Int} {F : List SV} {n : Int} {zi : Z} {k : Nat} {ro lit : Bool} {st : Z} {l : List Blk} {K : SV → List Blk → Prop} (hb : Hu.BOk b) (hn : ilen b ≤ 1000000) (hn' : n = ilen b) (hF : cellsB b = F)
    (hrow : lget l k = .r ro lit st 1 F) (i : Int) (hzi : zi.v = i) (h0 : 0 ≤ i) (h8 : i < 8 * n) (h1 : ∀ r, bitI b i = r → K (.tp [.i .i64 (.y r), .tt]) l) :
    S.call 133 [.sl k 1 (.l 0) (.y n) none, .i .i64 zi] l K := by
  subst hn' hF hzi
  have hB : bitB b zi.v = true := okI_t h0 (by omega)
  have hf := Bit_f (b := b) (i := zi.v) hb hn (by omega) rfl rfl
  refine qdv hS (fun _ => k) (sv := .tp [.i .i64 (.y (bitI b zi.v)), .tt]) (qat hf fun x l' hx => ⟨x, .rfl, hx.trans (qas (.cons (qag ?_) (.cons (qej hB) .nil)))⟩) (.cons .rfl (.cons (qag rfl) .nil)) rfl ⟨⟨_, _, _, _, _, _, _, _, rfl, qad b, hrow, .rfl⟩, trivial⟩ rfl (h1 _ rfl)
  unfold bitR; rw [hB]; rfl
theorem rBitsO_f {b : List Int} {i k r : Int} {t : Bool} (hb : Hu.BOk b) (hn : ilen b ≤ 1000000) (hr : oBitsR b i k = r) (ht : oBitsB b i k = t) :
    (S0 Tryd.prog).call 127 [.sl 0 1 (.l 0) (.y (ilen b)) none, .i .i64 (.y i), .i .i64 (.y k)] [.r true true (.l 0) 1 (cellsB b)] (fun x _ => Sub x (.tp [.i .i64 (.y r), .b t])) := by
  obtain ⟨n, hn'⟩ : ∃ n, n = ilen b := ⟨_, rfl⟩
  have hnb := hn
  have h0n := qai b
  have hyes : 0 ≤ k → k ≤ 30 → 0 ≤ i → i + k ≤ 8 * n → t = true ∧ r = numI b i k := by
    intro h1 h2 h3 h4
    have e2 : t = true := by
      rw [← ht]; unfold oBitsB
      split
      · simp; omega
      · rw [if_neg (by omega)]; exact okI_t h3 (by omega)
    exact ⟨e2, by rw [← hr]; unfold oBitsR; rw [ht, e2]; rfl⟩
  have hno : (k < 0 ∨ 30 < k ∨ i < 0 ∨ 8 * n < i + k ∨ 8 * n < i) → t = false ∧ r = 0 := by
    intro h1
    have e2 : t = false := by
      rw [← ht]; unfold oBitsB
      split
      · rename_i hk; simp; omega
      · split
        · rfl
        · exact okI_f (by omega)
    exact ⟨e2, by rw [← hr]; unfold oBitsR; rw [ht, e2]; rfl⟩
  rw [← hn'] at hn h0n ⊢
  have hpl := qad b
  generalize hF : cellsB b = F at hpl ⊢
  generalize hS : S0 Tryd.prog = S
  refine qac hS I.qlx ?_
  cbv
  repeat' (first
    | (refine s_st hS ?_; try cbv)
    | (refine qab hS ?_ ?_ <;> intro h <;> (try cbv) <;> try exact s_ab h)
    | (refine qah hS ?_; intro _ _; try cbv)
    | (refine qae hS ?_; try cbv)
    | (refine qmk hS ?_ (by simp only [lo]; omega) (by simp only [hi]; omega); intro _ _; try cbv))
  · obtain ⟨e2, e1⟩ := hno (by omega); all_goals exact s_sA
  · obtain ⟨e2, e1⟩ := hno (by omega); all_goals exact s_sA
  · obtain ⟨e2, e1⟩ := hno (by omega); all_goals exact s_sA
  · obtain ⟨e2, e1⟩ := hno (by omega); all_goals exact s_sA
  · obtain ⟨e2, e1⟩ := hno (by omega); all_goals exact s_sA
  · obtain ⟨e2, e1⟩ := hyes (by omega) (by omega) (by omega) (by omega)
    refine qaz hS 1 I.qhp (fun x : Int × Int => 0 ≤ x.1 ∧ x.1 ≤ k ∧ x.2 = numI b i x.1)
      (fun x => [(9, .i .i64 (.y x.1)), (8, .i .i64 (.y x.2))]) (fun x => [])
      (fun x => (k - x.1).toNat) (0, 0) rfl ⟨⟨Int.le_refl _, by dsimp only; omega, by simp [qru]⟩, rfl, ?_, ?_, ?_⟩ ?_
    · cbv; all_goals exact s_sA
    · cbv; all_goals exact s_bA
    · cbv; exact gc_c (gc_m (qan hpl)) rfl
    · intro x
      obtain ⟨j, w⟩ := x
      intro hx
      dsimp only at hx
      cbv
      obtain ⟨g0, g1, g2⟩ := hx
      have hw : 0 ≤ w ∧ w < 1073741824 := by rw [g2]; exact numI_bd (by omega)
      repeat' (first
        | (refine s_st hS ?_; try cbv)
        | (refine qab hS ?_ ?_ <;> intro h <;> (try cbv) <;> try exact s_ab h)
        | (refine qah hS ?_; intro _ _; try cbv)
        | (refine qae hS ?_; try cbv)
        | (refine Bit_u hS hb hnb hn' hF rfl (i + j) (by simp only [Z.v]; omega) (by omega) (by omega) fun u hu => ?_; have hu1 := bitI_bd b (i + j); rw [hu] at hu1; cbv)
        | (refine qmk hS ?_ (by simp only [lo]; omega) (by simp only [hi]; omega); intro _ _; try cbv))
      · rename_i w1 hw1 w2 hw2 j2 hj2
        have hnx := qzaac (b := b) (i := i) (k := j) (by omega) g0 (by omega)
        refine ⟨(j2, w2), by dsimp only; omega, ⟨by dsimp only; omega, by dsimp only; omega, ?_⟩, rfl, ?_, ?_, ?_⟩
        · dsimp only; rw [hj2, hnx, hu, ← g2]; omega
        · cbv; all_goals exact s_sA
        · cbv; all_goals exact s_bA
        · cbv; exact gc_c (gc_m (qan hpl)) rfl
      · have e3 : w = r := by rw [e1, g2, show j = k by omega]
        all_goals exact s_sA
def strB (l : List Int) : List UInt8 := l.map fun v => v.toNat.toUInt8
theorem s_bs {S : Sy} (hS : S0 Tryd.prog = S) {l : List Int} {F : List SV} {n : Int} {K : List UInt8 → Prop} (hb : Hu.BOk l) (hF : cellsB l = F) (hn : n = ilen l) (h : K (strB l)) : S.bs F 0 n K := by
  subst hS hF hn
  refine ⟨Int.le_refl _, qai l, strB l, ⟨by simp [strB, ilen], ?_⟩, h⟩
  intro q c hc
  unfold strB at hc
  rw [List.getElem?_map, Option.map_eq_some_iff] at hc
  obtain ⟨v, hv, rfl⟩ := hc
  refine ⟨.y v, ?_, ?_⟩
  · rw [show (0 : Int).toNat + q = q by simp]; exact cellsB_get hv
  · have := hb v (List.mem_of_getElem? hv)
    simp only [Z.v, Nat.toUInt8, UInt8.toNat_ofNat']
    omega
theorem Same_f {a b : List Int} (ha : Hu.BOk a) (hb : Hu.BOk b) (hab : a = b) :
    (S0 Tryd.prog).call 46 [.sl 0 1 (.l 0) (.y (ilen a)) none, .sl 1 1 (.l 0) (.y (ilen b)) none] [.r true true (.l 0) 1 (cellsB a), .r true true (.l 0) 1 (cellsB b)] (fun x _ => Sub x .tt) := by
  obtain ⟨n, hn⟩ : ∃ n, n = ilen a := ⟨_, rfl⟩
  obtain ⟨m, hm⟩ : ∃ m, m = ilen b := ⟨_, rfl⟩
  rw [← hn, ← hm]
  generalize hF : cellsB a = F
  generalize hG : cellsB b = G
  generalize hS : S0 Tryd.prog = S
  have hs : strB a = strB b := by rw [hab]
  generalize hx : strB a = x at hs
  generalize hy : strB b = y at hs
  refine qac hS I.qlw ?_
  cbv
  refine s_bs hS ha hF hn ?_
  rw [hx]
  cbv
  refine s_bs hS hb hG hm ?_
  rw [hy, ← hs]
  cbv
  refine qej ?_
  simp only [← hS, Int.ofNat_eq_natCast, cq, Bool.not_eq_true', Bool.not_eq_false', decide_eq_true_eq, decide_eq_false_iff_not, beq_iff_eq, beq_eq_false_iff_ne, ne_eq]
end Cz
namespace Cz
open Go Go.RowKit Go.Proofs
end Cz
namespace Cz
open Go Go.RowKit Go.Proofs
theorem qwt {S : Sy} (hS : S0 Tryd.prog = S) {b : List Int} {F : List SV} {n : Int} {zi z : Z} {k : Nat} {ro lit : Bool} {st : Z} {l : List Blk} {K : SV → List Blk → Prop} (hb : Hu.BOk b) (hn : ilen b ≤ 1000000) (hn' : n = ilen b) (hF : cellsB b = F)
    (hrow : lget l k = .r ro lit st 1 F) (i m : Int) (hi : zi.v = i) (hm : z.v = m) (hz1 : 1 ≤ m) (hz2 : m ≤ 30) (h1 : okI b i m = true → ∀ r, numI b i m = r → K (.tp [.i .i64 (.y r), .tt]) l) (h2 : okI b i m = false → ∀ r, K (.tp [.i .i64 (.y r), .ff]) l) :
    S.call 127 [.sl k 1 (.l 0) (.y n) none, .i .i64 zi, .i .i64 z] l K := by
  subst hn' hF hi hm
  have hB : oBitsB b zi.v z.v = okI b zi.v z.v := by unfold oBitsB; rw [if_neg (by omega), if_neg (by omega)]
  have hf := rBitsO_f (b := b) (i := zi.v) (k := z.v) hb hn rfl rfl
  cases ht : okI b zi.v z.v with
  | true =>
    refine qdv hS (fun _ => k) (sv := .tp [.i .i64 (.y (numI b zi.v z.v)), .tt]) (qat hf fun x l' hx => ⟨x, .rfl, hx.trans (qas (.cons (qag ?_) (.cons (qej ?_) .nil)))⟩) (.cons .rfl (.cons (qag rfl) (.cons (qag rfl) .nil))) rfl ⟨⟨_, _, _, _, _, _, _, _, rfl, qad b, hrow, .rfl⟩, trivial⟩ rfl (h1 ht _ rfl)
    · unfold oBitsR; rw [hB, ht]; rfl
    · rw [hB, ht]
  | false =>
    refine qdv hS (fun _ => k) (sv := .tp [.i .i64 (.y (oBitsR b zi.v z.v)), .ff]) (qat hf fun x l' hx => ⟨x, .rfl, hx.trans (qas (.cons .rfl (.cons (qdm ?_) .nil)))⟩) (.cons .rfl (.cons (qag rfl) (.cons (qag rfl) .nil))) rfl ⟨⟨_, _, _, _, _, _, _, _, rfl, qad b, hrow, .rfl⟩, trivial⟩ rfl (h2 ht _)
    rw [hB, ht]
theorem rof_u {S : Sy} (hS : S0 Tryd.prog = S) {l : List Blk} {K : SV → List Blk → Prop} {za zm : Z} (a m : Int) (ha : za.v = a) (hm : zm.v = m) (h1 : ∀ c : Int, findO a m = some c.toNat → 0 ≤ c → c < 256 → K (.tp [.i .u8 (.y c), .tt]) l)
    (h2 : findO a m = none → ∀ c, K (.tp [.i .u8 (.y c), .ff]) l) : S.call 132 [.i .i64 za, .i .i64 zm] l K := by
  subst ha hm
  have hf := rOf_f (a := za.v) (m := zm.v) rfl rfl
  cases h : findO za.v zm.v with
  | some c =>
    obtain ⟨hc, _, _⟩ := qov h
    refine qbe hS (sv := .tp [.i .u8 (.y c), .tt]) (qat hf fun x l' hx => ⟨x, .rfl, hx.trans (qas (.cons (qag ?_) (.cons (qej ?_) .nil)))⟩) (.cons (qag rfl) (.cons (qag rfl) .nil)) rfl rfl (h1 c (by simpa using h) (by omega) (by omega))
    · unfold findR; rw [h]
    · unfold findB; rw [h]; rfl
  | none =>
    refine qbe hS (sv := .tp [.i .u8 (.y (findR za.v zm.v)), .ff]) (qat hf fun x l' hx => ⟨x, .rfl, hx.trans (qas (.cons .rfl (.cons (qdm ?_) .nil)))⟩) (.cons (qag rfl) (.cons (qag rfl) .nil)) rfl rfl (h2 h _)
    unfold findB; rw [h]; rfl
def nextR (b : List Int) (i : Int) : Int × Int := match at1I b i 5 with
  | some c => (c, 5)
  | none => match at1I b i 6 with
    | some c => (c, 6)
    | none => match at1I b i 7 with
      | some c => (c, 7)
      | none => match at1I b i 11 with
        | some c => (c, 11)
        | none => (0, 0)
theorem next_f {b : List Int} {i c m : Int} (hb : Hu.BOk b) (hnb : ilen b ≤ 1000000) (h0 : 0 ≤ i) (hr : nextR b i = (c, m)) :
    (S0 Tryd.prog).call 126 [.sl 0 1 (.l 0) (.y (ilen b)) none, .i .i64 (.y i)] [.r true true (.l 0) 1 (cellsB b)] (fun x _ => Sub x (.tp [.i .u8 (.y c), .i .i64 (.y m)])) := by
  obtain ⟨n, hn'⟩ : ∃ n, n = ilen b := ⟨_, rfl⟩
  have h0n := qai b
  rw [← hn'] at h0n ⊢
  unfold nextR at hr
  have hpl := qad b
  generalize hF : cellsB b = F at hpl ⊢
  generalize hS : S0 Tryd.prog = S
  refine qac hS I.qlu ?_
  cbv
  refine qaf hS ?_
  cbv
  refine qwt hS hb hnb hn' hF rfl i 5 rfl rfl (by decide) (by decide) (fun hok r hr1 => ?_) (fun hok r => ?_)
  · cbv
    refine rof_u hS r 5 rfl rfl (fun d hd d0 d1 => ?_) (fun hd d => ?_)
    · have a5 : at1I b i 5 = some d.toNat := by rw [qco hok hr1]; exact hd
      simp only [a5] at hr
      have hrc : c = d := by have := congrArg Prod.fst hr; simp only [Int.toNat_of_nonneg d0] at this; exact this.symm
      have hrm := congrArg Prod.snd hr
      simp only at hrm
      clear hr hok hr1 hd
      cbv
      repeat' (first
        | (refine s_st hS ?_; try cbv)
        | (refine qab hS ?_ ?_ <;> intro h <;> (try cbv) <;> try exact s_ab h)
        | (refine qah hS ?_; intro _ _; try cbv)
        | (refine qae hS ?_; try cbv)
        | (refine qam hS rfl I.qbu (by decide +kernel) ?_; cbv)
        | (refine And.intro rfl ?_; try cbv))
      exact qas (.cons (qag (by simp only [Z.v]; omega)) (.cons (qag (by simp only [Z.v]; omega)) .nil))
    · have a5 : at1I b i 5 = none := by rw [qco hok hr1]; exact hd
      cbv
      refine qaf hS ?_
      cbv
      refine qwt hS hb hnb hn' hF rfl i 6 rfl rfl (by decide) (by decide) (fun hok r hr1 => ?_) (fun hok r => ?_)
      · cbv
        refine rof_u hS r 6 rfl rfl (fun d hd d0 d1 => ?_) (fun hd d => ?_)
        · have a6 : at1I b i 6 = some d.toNat := by rw [qco hok hr1]; exact hd
          simp only [a5, a6] at hr
          have hrc : c = d := by have := congrArg Prod.fst hr; simp only [Int.toNat_of_nonneg d0] at this; exact this.symm
          have hrm := congrArg Prod.snd hr
          simp only at hrm
          clear hr hok hr1 hd
          cbv
          repeat' (first
            | (refine s_st hS ?_; try cbv)
            | (refine qab hS ?_ ?_ <;> intro h <;> (try cbv) <;> try exact s_ab h)
            | (refine qah hS ?_; intro _ _; try cbv)
            | (refine qae hS ?_; try cbv)
            | (refine qam hS rfl I.qbu (by decide +kernel) ?_; cbv)
            | (refine And.intro rfl ?_; try cbv))
          exact qas (.cons (qag (by simp only [Z.v]; omega)) (.cons (qag (by simp only [Z.v]; omega)) .nil))
        · have a6 : at1I b i 6 = none := by rw [qco hok hr1]; exact hd
          cbv
          refine qaf hS ?_
          cbv
          refine qwt hS hb hnb hn' hF rfl i 7 rfl rfl (by decide) (by decide) (fun hok r hr1 => ?_) (fun hok r => ?_)
          · cbv
            refine rof_u hS r 7 rfl rfl (fun d hd d0 d1 => ?_) (fun hd d => ?_)
            · have a7 : at1I b i 7 = some d.toNat := by rw [qco hok hr1]; exact hd
              simp only [a5, a6, a7] at hr
              have hrc : c = d := by have := congrArg Prod.fst hr; simp only [Int.toNat_of_nonneg d0] at this; exact this.symm
              have hrm := congrArg Prod.snd hr
              simp only at hrm
              clear hr hok hr1 hd
              cbv
              repeat' (first
                | (refine s_st hS ?_; try cbv)
                | (refine qab hS ?_ ?_ <;> intro h <;> (try cbv) <;> try exact s_ab h)
                | (refine qah hS ?_; intro _ _; try cbv)
                | (refine qae hS ?_; try cbv)
                | (refine qam hS rfl I.qbu (by decide +kernel) ?_; cbv)
                | (refine And.intro rfl ?_; try cbv))
              exact qas (.cons (qag (by simp only [Z.v]; omega)) (.cons (qag (by simp only [Z.v]; omega)) .nil))
            · have a7 : at1I b i 7 = none := by rw [qco hok hr1]; exact hd
              cbv
              refine qaf hS ?_
              cbv
              refine qwt hS hb hnb hn' hF rfl i 11 rfl rfl (by decide) (by decide) (fun hok r hr1 => ?_) (fun hok r => ?_)
              · cbv
                refine rof_u hS r 11 rfl rfl (fun d hd d0 d1 => ?_) (fun hd d => ?_)
                · have a11 : at1I b i 11 = some d.toNat := by rw [qco hok hr1]; exact hd
                  simp only [a5, a6, a7, a11] at hr
                  have hrc : c = d := by have := congrArg Prod.fst hr; simp only [Int.toNat_of_nonneg d0] at this; exact this.symm
                  have hrm := congrArg Prod.snd hr
                  simp only at hrm
                  clear hr hok hr1 hd
                  cbv
                  repeat' (first
                    | (refine s_st hS ?_; try cbv)
                    | (refine qab hS ?_ ?_ <;> intro h <;> (try cbv) <;> try exact s_ab h)
                    | (refine qah hS ?_; intro _ _; try cbv)
                    | (refine qae hS ?_; try cbv)
                    | (refine qam hS rfl I.qbu (by decide +kernel) ?_; cbv)
                    | (refine And.intro rfl ?_; try cbv))
                  exact qas (.cons (qag (by simp only [Z.v]; omega)) (.cons (qag (by simp only [Z.v]; omega)) .nil))
                · have a11 : at1I b i 11 = none := by rw [qco hok hr1]; exact hd
                  cbv
                  refine qaf hS ?_
                  cbv
                  simp only [a5, a6, a7, a11] at hr
                  cases hr
                  exact qas (.cons (qag rfl) (.cons (qag rfl) .nil))
              · cbv
                have a11 : at1I b i 11 = none := qbv (qax hok (by omega) (by omega))
                simp only [a5, a6, a7, a11] at hr
                cases hr
                exact qas (.cons (qag rfl) (.cons (qag rfl) .nil))
          · cbv
            have a7 : at1I b i 7 = none := qbv (qax hok (by omega) (by omega))
            have a11 : at1I b i 11 = none := qbv (qax hok (by omega) (by omega))
            simp only [a5, a6, a7, a11] at hr
            cases hr
            exact qas (.cons (qag rfl) (.cons (qag rfl) .nil))
      · cbv
        have a6 : at1I b i 6 = none := qbv (qax hok (by omega) (by omega))
        have a7 : at1I b i 7 = none := qbv (qax hok (by omega) (by omega))
        have a11 : at1I b i 11 = none := qbv (qax hok (by omega) (by omega))
        simp only [a5, a6, a7, a11] at hr
        cases hr
        exact qas (.cons (qag rfl) (.cons (qag rfl) .nil))
  · cbv
    have a5 : at1I b i 5 = none := qbv (qax hok (by omega) (by omega))
    have a6 : at1I b i 6 = none := qbv (qax hok (by omega) (by omega))
    have a7 : at1I b i 7 = none := qbv (qax hok (by omega) (by omega))
    have a11 : at1I b i 11 = none := qbv (qax hok (by omega) (by omega))
    simp only [a5, a6, a7, a11] at hr
    cases hr
    exact qas (.cons (qag rfl) (.cons (qag rfl) .nil))
end Cz
namespace Cz
open Go Go.RowKit Go.Proofs
end Cz
namespace Cz
open Go Go.RowKit Go.Proofs
end Cz
namespace Cz
open Go Go.RowKit Go.Proofs
end Cz
namespace Cz
open Go Go.RowKit Go.Proofs
theorem qdp (L : List Int) : ilen L * ((1 : Nat) : Int) = (cellsB L).length := by
  have := qbh L
  unfold ilen at this ⊢
  rw [this]; simp
section
variable {S : Sy} {b : List Int} {F : List SV} {k : Nat} {ro lit : Bool} {st zn : Z} {l : List Blk} {K : SV → List Blk → Prop}
theorem put_u (hS : S0 Tryd.prog = S) (hb : Hu.BOk b) (hn : ilen b ≤ 1000000) (hrow : lget l k = .r ro lit st 1 F) (hs : FSub F (cellsB b)) (hz : zn.v = ilen b)
    (hK : ∀ F2 n2 st, cellsB (Hu.put b) = F2 → n2 = ilen (Hu.put b) → K (.sl (len l) 1 (.l 0) (.y n2) none) (snoc l (.r false false (.y st) 1 F2))) : S.call 103 [.sl k 1 (.l 0) zn none] l K :=
  qku hS (fun _ => k) (put_f hb hn) (.cons (qcm rfl hz) .nil) rfl ⟨⟨_, _, _, _, _, _, _, _, rfl, qad _, hrow, hs⟩, trivial⟩ (by omega) (qad _) rfl (qdp _) fun st => hK _ _ st rfl rfl
theorem take_u (hS : S0 Tryd.prog = S) (hb : Hu.BOk b) (hn : ilen b ≤ 1000000) (hrow : lget l k = .r ro lit st 1 F) (hs : FSub F (cellsB b)) (hz : zn.v = ilen b)
    (hK : ∀ L F2 n2 st e, takeL b = L → cellsB L = F2 → n2 = ilen L → takeE b = e → K (.tp [.sl (len l) 1 (.l 0) (.y n2) none, .i .i64 (.y e)]) (snoc l (.r false false (.y st) 1 F2))) : S.call 122 [.sl k 1 (.l 0) zn none] l K :=
  qku hS (fun _ => k) (take_f hb hn) (.cons (qcm rfl hz) .nil) rfl ⟨⟨_, _, _, _, _, _, _, _, rfl, qad _, hrow, hs⟩, trivial⟩ (by omega) (qad _) rfl (qdp _) fun st => hK _ _ _ st _ rfl rfl rfl rfl
theorem short_u (hS : S0 Tryd.prog = S) (hb : Hu.BOk b) (hn : ilen b ≤ 1000000) (hrow : lget l k = .r ro lit st 1 F) (hs : FSub F (cellsB b)) (hz : zn.v = ilen b)
    (hK : ∀ t, shortB b = t → K (.b t) l) : S.call 89 [.sl k 1 (.l 0) zn none] l K :=
  qdv hS (fun _ => k) (Shorter_f hb hn rfl) (.cons (qcm rfl hz) .nil) rfl ⟨⟨_, _, _, _, _, _, _, _, rfl, qad _, hrow, hs⟩, trivial⟩ rfl (hK _ rfl)
theorem same_u {a : List Int} {G : List SV} {k' : Nat} {ro' lit' : Bool} {st' zm : Z} (hS : S0 Tryd.prog = S) (ha : Hu.BOk a) (hab : a = b) (hrow : lget l k = .r ro lit st 1 F) (hs : FSub F (cellsB a)) (hz : zn.v = ilen a)
    (hrow' : lget l k' = .r ro' lit' st' 1 G) (hs' : FSub G (cellsB b)) (hz' : zm.v = ilen b) (hK : K .tt l) : S.call 46 [.sl k 1 (.l 0) zn none, .sl k' 1 (.l 0) zm none] l K :=
  qdv hS (fun j => if j = 0 then k else k') (Same_f ha (hab ▸ ha) hab) (.cons (qcm rfl hz) (.cons (qcm rfl hz') .nil)) rfl
    ⟨⟨_, _, _, _, _, _, _, _, rfl, qad _, hrow, hs⟩, ⟨_, _, _, _, _, _, _, _, rfl, qad _, hrow', hs'⟩, trivial⟩ rfl hK
end
theorem bok1 {l : List Int} (h : l.all (fun v => decide (0 ≤ v) && decide (v < 256)) = true) : Hu.BOk l := by
  intro v hv
  have := List.all_eq_true.1 h v hv
  simpa using this
end Cz
namespace Cz
open Go Go.RowKit Go.Proofs
theorem s_nilx {S : Sy} {n : Int} {k1 k2 : Unit → Prop} (hS : S0 Tryd.prog = S) (h1 : n = 0 → k1 ()) (h2 : k2 ()) : S.nil n k1 k2 := by subst hS; exact ⟨h1, h2⟩
def part (b : List Int) (o n : Int) : List Int := (b.drop o.toNat).take n.toNat
theorem sub_part {S : Sy} (hS : S0 Tryd.prog = S) {b : List Int} {F : List SV} {o n : Int} (hF : cellsB b = F) : S.app [] (S.sub F o n 1) = cellsB (part b o n) := by
  subst hS hF
  show [] ++ ((cellsB b).drop (o.toNat * 1)).take (n.toNat * 1) = _
  simp only [List.nil_append, Nat.mul_one, part, qjw, List.map_take, List.map_drop]
theorem qjm {b : List Int} {o n : Int} (h0 : 0 ≤ o) (h1 : 0 ≤ n) (h2 : o + n ≤ ilen b) : ilen (part b o n) = n := by
  unfold part ilen at *
  rw [List.length_take, List.length_drop]; omega
theorem qns {P : Program} {g : FuncId} {args : List SV} {F : List SV} {sz : Nat} {K : SV → List Blk → Prop} (hp : plains F = true) (h : (S0 P).call g args [.r true false (.l 0) sz F] K) : (S0 P).call g args [.r true true (.l 0) sz F] K := by
  intro N W0 ρ W vals hR hd
  exact h N W0 ρ W vals (hR.sub rfl fun k B' hB => by
    cases k with
    | zero => simp only [List.getElem?_cons_zero, Option.some.injEq] at hB; subst hB; exact ⟨_, rfl, .r .rfl rfl hp⟩
    | succ k => simp at hB) hd
theorem qml {n0 k : Nat} {L : List Int} {X P : List SV} {lit : Bool} {st nn : Z} {l' : List Blk} (hX : X = cellsB L) (hP : cellsB L = P) (hk : n0 ≤ k) (hn : nn.v = ilen L) (hB : l'[k]? = some (.r false lit st 1 X)) : RowIs n0 1 P (.sl k 1 (.l 0) nn none) l' := by
  rw [hX, hP] at hB
  exact qge hP hk hn hB
theorem clone_b {b : List Int} {o n : Int} (h0 : 0 ≤ o) (h1 : 0 ≤ n) (h2 : o + n ≤ ilen b) (h3 : ilen b ≤ 1000000) :
    (S0 Tryd.prog).call 110 [.sl 0 1 (.y o) (.y n) none] [.r true true (.l 0) 1 (cellsB b)] (OwnR 1 1 (cellsB (part b o n)) false []) := by
  have hl := qjm h0 h1 h2
  have hpl := qad b
  generalize hF : cellsB b = F at hpl ⊢
  generalize hP : cellsB (part b o n) = P
  refine qns hpl ?_
  generalize hS : S0 Tryd.prog = S
  refine qac hS I.quq ?_
  cbv
  refine s_nilx hS ?_ ?_
  · intro h
    cbv
    refine ⟨_, .rfl, .inl ⟨rfl, ?_⟩⟩
    rw [← hP, h]; unfold part; simp [cellsB]
  · cbv
    refine qhu hS (G := []) (by rfl) ?_
    cbv
    repeat' (first
      | (refine s_st hS ?_; try cbv)
      | (refine qab hS ?_ ?_ <;> intro h <;> (try cbv) <;> try exact s_ab h)
      | (refine qah hS ?_; intro _ _; try cbv)
      | (refine qae hS ?_; try cbv))
    exact ⟨_, .rfl, qml (sub_part hS hF) hP (Nat.le_refl 1) (by rw [hl]; rfl) rfl⟩
theorem clone_s {b : List Int} {o n : Int} (h0 : 0 ≤ o) (h1 : 0 ≤ n) (h2 : o + n ≤ ilen b) (h3 : ilen b ≤ 1000000) :
    (S0 Tryd.prog).call 121 [.sl 0 1 (.y o) (.y n) none] [.r true true (.l 0) 1 (cellsB b)] (OwnR 1 1 (cellsB (part b o n)) false []) := by
  have hl := qjm h0 h1 h2
  have hpl := qad b
  generalize hF : cellsB b = F at hpl ⊢
  generalize hP : cellsB (part b o n) = P
  refine qns hpl ?_
  generalize hS : S0 Tryd.prog = S
  refine qac hS I.qem ?_
  cbv
  refine s_nilx hS ?_ ?_
  · intro h
    cbv
    refine ⟨_, .rfl, .inl ⟨rfl, ?_⟩⟩
    rw [← hP, h]; unfold part; simp [cellsB]
  · cbv
    refine qhu hS (G := []) (by rfl) ?_
    cbv
    repeat' (first
      | (refine s_st hS ?_; try cbv)
      | (refine qab hS ?_ ?_ <;> intro h <;> (try cbv) <;> try exact s_ab h)
      | (refine qah hS ?_; intro _ _; try cbv)
      | (refine qae hS ?_; try cbv))
    exact ⟨_, .rfl, qml (sub_part hS hF) hP (Nat.le_refl 1) (by rw [hl]; rfl) rfl⟩
section
variable {S : Sy} {b : List Int} {F : List SV} {k : Nat} {ro lit : Bool} {st zo zn : Z} {l : List Blk} {K : SV → List Blk → Prop}
theorem qym (hS : S0 Tryd.prog = S) (o n : Int) (ho : zo.v = o) (hn : zn.v = n) (h0 : 0 ≤ o) (h1 : 0 ≤ n) (h2 : o + n ≤ ilen b) (h3 : ilen b ≤ 1000000) (hrow : lget l k = .r ro lit st 1 F) (hs : FSub F (cellsB b))
    (hK : ∀ F2 st, cellsB (part b o n) = F2 → K (.sl (len l) 1 (.l 0) (.y n) none) (snoc l (.r false false (.y st) 1 F2))) : S.call 110 [.sl k 1 zo zn none] l K := by
  have hc := qdp (part b o n)
  rw [qjm h0 h1 h2] at hc
  exact qku hS (fun _ => k) (clone_b h0 h1 h2 h3) (.cons (qcm ho hn) .nil) rfl ⟨⟨_, _, _, _, _, _, _, _, rfl, qad _, hrow, hs⟩, trivial⟩ (by omega) (qad _) rfl hc fun st => hK _ st rfl
theorem clone_su (hS : S0 Tryd.prog = S) (o n : Int) (ho : zo.v = o) (hn : zn.v = n) (h0 : 0 ≤ o) (h1 : 0 ≤ n) (h2 : o + n ≤ ilen b) (h3 : ilen b ≤ 1000000) (hrow : lget l k = .r ro lit st 1 F) (hs : FSub F (cellsB b))
    (hK : ∀ F2 st, cellsB (part b o n) = F2 → K (.sl (len l) 1 (.l 0) (.y n) none) (snoc l (.r false false (.y st) 1 F2))) : S.call 121 [.sl k 1 zo zn none] l K := by
  have hc := qdp (part b o n)
  rw [qjm h0 h1 h2] at hc
  exact qku hS (fun _ => k) (clone_s h0 h1 h2 h3) (.cons (qcm ho hn) .nil) rfl ⟨⟨_, _, _, _, _, _, _, _, rfl, qad _, hrow, hs⟩, trivial⟩ (by omega) (qad _) rfl hc fun st => hK _ st rfl
end
def pgo (b : List Int) : Nat → Int → Int → Int × Int × Int
  | 0, _, _ => (0, 0, 60)
  | f + 1, at', n => match b[at'.toNat]? with
    | none => (0, 0, 10)
    | some v =>
      if 5 < at' ∨ 2147483648 ≤ n + v % 128 * 2 ^ (7 * (at' - 1)).toNat then (0, 0, 60)
      else if v < 128 then (n + v % 128 * 2 ^ (7 * (at' - 1)).toNat, at' + 1, 0)
      else pgo b f (at' + 1) (n + v % 128 * 2 ^ (7 * (at' - 1)).toNat)
def preI (b : List Int) (p : Int) : Int × Int × Int := match b with
  | [] => (0, 0, 10)
  | v :: _ => if v % p < p - 1 then (v % p, 1, 0) else pgo b 6 1 (p - 1)
def preN (b : List Int) (p : Int) : Int := (preI b p).1
def preE (b : List Int) (p : Int) : Int := (preI b p).2.2
def preR (b : List Int) (p : Int) : List Int := if preE b p = 0 then b.drop (preI b p).2.1.toNat else []
theorem pgo_none {b : List Int} {f : Nat} {a n : Int} (h0 : 0 ≤ a) (h : ilen b ≤ a) : pgo b (f + 1) a n = (0, 0, 10) := by
  rw [pgo, List.getElem?_eq_none (by unfold ilen at h; omega)]
theorem pgo_long {b : List Int} {f : Nat} {a n v s : Int} (hv : b[a.toNat]? = some v) (hs : s = v % 128 * 2 ^ (7 * (a - 1)).toNat) (h : 5 < a ∨ 2147483648 ≤ n + s) : pgo b (f + 1) a n = (0, 0, 60) := by
  rw [pgo, hv]; simp only [← hs]; rw [if_pos h]
theorem pgo_end {b : List Int} {f : Nat} {a n v s : Int} (hv : b[a.toNat]? = some v) (hs : s = v % 128 * 2 ^ (7 * (a - 1)).toNat) (h : ¬(5 < a ∨ 2147483648 ≤ n + s)) (h2 : v < 128) : pgo b (f + 1) a n = (n + s, a + 1, 0) := by
  rw [pgo, hv]; simp only [← hs]; rw [if_neg h, if_pos h2]
theorem pgo_more {b : List Int} {f : Nat} {a n v s : Int} (hv : b[a.toNat]? = some v) (hs : s = v % 128 * 2 ^ (7 * (a - 1)).toNat) (h : ¬(5 < a ∨ 2147483648 ≤ n + s)) (h2 : ¬v < 128) : pgo b (f + 1) a n = pgo b f (a + 1) (n + s) := by
  rw [pgo, hv]; simp only [← hs]; rw [if_neg h, if_neg h2]
end Cz
namespace Cz
open Go Go.RowKit Go.Proofs
theorem and128_all : ∀ n : Fin 256, IntKind.u8.wrap ((BitVec.ofInt 8 (n.val : Int) &&& BitVec.ofInt 8 128).toNat : Int) = if n.val < 128 then 0 else 128 := by decide +kernel
theorem qwm {S : Sy} {a : Int} {K : Int → Prop} (hS : S0 Tryd.prog = S) (h0 : 0 ≤ a) (h1 : a < 256) (h : ∀ r, (a < 128 ∧ r = 0 ∨ 128 ≤ a ∧ r = 128) → K r) : S.ar .and .u8 a 128 K := by
  refine qps hS _ rfl (h _ ?_)
  have := and128_all ⟨a.toNat, by omega⟩
  simp only [Int.toNat_of_nonneg h0] at this
  show (a < 128 ∧ IntKind.u8.wrap ((BitVec.ofInt 8 a &&& BitVec.ofInt 8 128).toNat : Int) = 0) ∨ _
  rw [show arS .and .u8 a 128 = IntKind.u8.wrap ((BitVec.ofInt 8 a &&& BitVec.ofInt 8 128).toNat : Int) from rfl, this]
  by_cases h2 : a < 128
  · left; refine ⟨h2, ?_⟩; rw [if_pos (by omega)]
  · right; refine ⟨by omega, ?_⟩; rw [if_neg (by omega)]
theorem qqo {P : List SV} {N E e : Int} {l' : List Blk} (hP : P = []) (hN : N = 0) (hE : E = e) : OwnP 1 1 P [.i .i64 (.y N)] [.i .i64 (.y E)] (.tp [.i .i64 (.l 0), .re (.slice none 0 0), .i .i64 (.l e)]) l' :=
  ⟨_, qas (.cons (qag hN.symm) (.cons .rfl (.cons (qag hE.symm) .nil))), .inl ⟨rfl, hP⟩⟩
theorem ownP_ok {P : List SV} {L : List Int} {N E n q : Int} {k : Nat} {lit : Bool} {st : Z} {l' : List Blk} (hP : cellsB L = P) (hN : N = n) (hE : E = 0) (hk : 1 ≤ k) (hq : q = ilen L) (hB : l'[k]? = some (.r false lit st 1 P)) :
    OwnP 1 1 P [.i .i64 (.y N)] [.i .i64 (.y E)] (.tp [.i .i64 (.y n), .sl k 1 (.l 0) (.y q) none, .i .i64 (.l 0)]) l' :=
  ⟨_, qas (.cons (qag hN.symm) (.cons .rfl (.cons (qag hE.symm) .nil))), qge hP hk hq hB⟩
theorem qrq {b : List Int} {o n : Int} (h0 : 0 ≤ o) (h : ilen b ≤ o + n) : part b o n = b.drop o.toNat := by
  unfold part; exact List.take_of_length_le (by rw [List.length_drop]; unfold ilen at h; omega)
theorem ptake_f {b : List Int} {k p : Int} (hb : Hu.BOk b) (hnb : ilen b ≤ 1000000) (hk1 : 1 ≤ k) (hk8 : k ≤ 8) (hp : 2 ^ k.toNat = p) :
    (S0 Tryd.prog).call 96 [.sl 0 1 (.l 0) (.y (ilen b)) none, .i .i64 (.y k)] [.r true true (.l 0) 1 (cellsB b)] (OwnP 1 1 (cellsB (preR b p)) [.i .i64 (.y (preN b p))] [.i .i64 (.y (preE b p))]) := by
  obtain ⟨n, hn'⟩ : ∃ n, n = ilen b := ⟨_, rfl⟩
  have h0n := qai b
  have hn := hnb
  rw [← hn'] at h0n hn ⊢
  have hp0 : 2 ≤ p := by have := qhv (m := 1) (n := k.toNat) (by omega); rw [hp] at this; omega
  have hp1 : p ≤ 256 := by have := qhv (m := k.toNat) (n := 8) (by omega); rw [hp] at this; omega
  have hpl := qad b
  obtain ⟨J0, hJ⟩ : ∃ J0, J0 = preI b p := ⟨_, rfl⟩
  obtain ⟨N, hN⟩ : ∃ N, N = preN b p := ⟨_, rfl⟩
  obtain ⟨E, hE⟩ : ∃ E, E = preE b p := ⟨_, rfl⟩
  obtain ⟨R, hR⟩ : ∃ R, R = preR b p := ⟨_, rfl⟩
  rw [← hN, ← hE, ← hR]
  have herr : ∀ e, e ≠ 0 → J0 = (0, 0, e) → cellsB R = [] ∧ N = 0 ∧ E = e := by
    intro e he h
    rw [hJ] at h
    unfold preR at hR
    have h2 : preE b p = e := by unfold preE; rw [h]
    rw [h2, if_neg he] at hR
    exact ⟨by rw [hR]; rfl, by rw [hN]; unfold preN; rw [h], hE.trans h2⟩
  have hok : ∀ n' a, 0 ≤ a → J0 = (n', a, 0) → R = b.drop a.toNat ∧ N = n' ∧ E = 0 := by
    intro n' a _ h
    rw [hJ] at h
    unfold preR at hR
    have h2 : preE b p = 0 := by unfold preE; rw [h]
    rw [h2, if_pos rfl, h] at hR
    exact ⟨hR, by rw [hN]; unfold preN; rw [h], hE.trans h2⟩
  have hJ0 : n = 0 → J0 = (0, 0, 10) := by
    intro h
    have : b = [] := List.length_eq_zero_iff.1 (by unfold ilen at hn'; omega)
    rw [hJ, this]; rfl
  have hJ1 : ∀ v, b[(0 : Int).toNat]? = some v → (v % p < p - 1 → J0 = (v % p, 1, 0)) ∧ (¬v % p < p - 1 → J0 = pgo b 6 1 (p - 1)) := by
    intro v hv
    rw [hJ]
    cases b with
    | nil => simp at hv
    | cons w b =>
      simp at hv; subst hv
      unfold preI
      exact ⟨fun h => by simp only [if_pos h], fun h => by simp only [if_neg h]⟩
  clear hN hE hR hJ
  generalize hF : cellsB b = F at hpl ⊢
  have hfs : FSub F (cellsB b) := by rw [hF]; exact .rfl
  generalize hP : cellsB R = P at herr ⊢
  refine qns hpl ?_
  generalize hS : S0 Tryd.prog = S
  refine qac hS I.qun ?_
  cbv
  refine qac hS I.qex ?_
  cbv
  repeat' (first
    | (refine s_st hS ?_; try cbv)
    | (refine qab hS ?_ ?_ <;> intro h <;> (try cbv) <;> try exact s_ab h)
    | (refine qah hS ?_; intro _ _; try cbv)
    | (refine qae hS ?_; try cbv)
    | (refine qcj hS rfl ?_; cbv)
    | (refine qpg hS (c := p) (by rw [← hp]; congr 1; simp only [IntKind.bits]; omega) ?_ (by simp only [lo]; omega) (by simp only [hi]; omega); intro _ _; cbv))
  · obtain ⟨g1, g2, g3⟩ := herr 10 (by decide) (hJ0 h)
    exact qqo g1 g2 g3
  · rename_i e1 he1 m0 hm0
    have hm1 : m0 = p - 1 := by omega
    obtain ⟨v, hv⟩ := qfh (l := b) (i := 0) (by omega) (Int.le_refl 0)
    have hb0 := hb v (List.mem_of_getElem? hv)
    obtain ⟨j1, j2⟩ := hJ1 v hv
    clear hJ1
    obtain ⟨w, hw⟩ : ∃ w, w = v % p := ⟨_, rfl⟩
    have hwb : 0 ≤ w ∧ w < p := by rw [hw]; exact ⟨Int.emod_nonneg _ (by omega), Int.emod_lt_of_pos _ (by omega)⟩
    rw [← hw] at j1 j2
    refine rowB hS hF hv rfl (Int.le_refl 0) ?_
    cbv
    refine s_cvi hS ?_ (by simp only [lo]; omega) (by simp only [hi]; omega)
    cbv
    refine qgc hS (c := p) (m := k.toNat) ⟨hm1, hp, by simp only [IntKind.bits]; omega⟩ fun w' hw' => ?_
    obtain rfl : w' = w := hw'.trans hw.symm
    cbv
    refine qab hS ?_ ?_ <;> intro h <;> cbv
    · obtain ⟨g1, g2, g3⟩ := hok w' 1 (by decide) (j1 (by omega))
      repeat' (first
        | (refine s_st hS ?_; try cbv)
        | (refine qab hS ?_ ?_ <;> intro h <;> (try cbv) <;> try exact s_ab h)
        | (refine qah hS ?_; intro _ _; try cbv)
        | (refine qae hS ?_; try cbv))
      obtain ⟨n1, hn1⟩ : ∃ n1, n1 = n - 1 := ⟨_, rfl⟩
      refine qym hS (b := b) 1 n1 (by simp only [Z.v, ← hS, Int.ofNat_eq_natCast, cq, Bool.not_eq_true', Bool.not_eq_false', decide_eq_true_eq, decide_eq_false_iff_not, beq_iff_eq, beq_eq_false_iff_ne, ne_eq]) (by simp only [Z.v, ← hS, Int.ofNat_eq_natCast, cq, Bool.not_eq_true', Bool.not_eq_false', decide_eq_true_eq, decide_eq_false_iff_not, beq_iff_eq, beq_eq_false_iff_ne, ne_eq]; omega) (by decide) (by omega) (by omega) (by omega) rfl hfs fun F2 st hF2 => ?_
      have hPF : cellsB R = F2 := by rw [← hF2, qrq (by decide) (by omega), g1]
      cbv
      rw [← hPF, hP]
      refine ownP_ok (k := 1) (L := R) hP g2 g3 (Nat.le_refl 1) ?_ rfl
      rw [g1]; unfold ilen at *; rw [List.length_drop]; simp; omega
    · have j3 := j2 (by omega)
      refine qaz hS 1 I.qnk (fun x : Int × Int => 1 ≤ x.1 ∧ x.1 ≤ 6 ∧ 0 ≤ x.2 ∧ x.2 < 2147483648 ∧ J0 = pgo b (7 - x.1).toNat x.1 x.2)
        (fun x => [(8, .i .i64 (.y x.1)), (4, .i .i64 (.y x.2))]) (fun x => [])
        (fun x => (7 - x.1).toNat) (1, w') rfl ⟨⟨Int.le_refl _, by dsimp only; omega, hwb.1, by dsimp only; omega, ?_⟩, rfl, ?_, ?_, ?_⟩ ?_
      · dsimp only; rw [j3, show p - 1 = w' by omega]; rfl
      · cbv; all_goals exact s_sA
      · cbv; all_goals exact s_bA
      · cbv
      · intro x
        obtain ⟨a, u⟩ := x
        intro hx
        dsimp only at hx
        cbv
        obtain ⟨g0, g1, g2, g3, g4'⟩ := hx
        have g4 : J0 = pgo b ((6 - a).toNat + 1) a u := by rw [show (6 - a).toNat + 1 = (7 - a).toNat by omega]; exact g4'
        clear g4'
        refine qab hS ?_ ?_ <;> intro h <;> cbv
        · refine qcj hS rfl ?_
          cbv
          obtain ⟨k1, k2, k3⟩ := herr 10 (by decide) (g4.trans (pgo_none (by omega) (by omega)))
          exact qqo k1 k2 k3
        · obtain ⟨y, hy⟩ := qfh (l := b) (i := a) (by omega) (by omega)
          have hy0 := hb y (List.mem_of_getElem? hy)
          obtain ⟨q, hq⟩ : ∃ q : Int, 2 ^ (7 * (a - 1)).toNat = q := ⟨_, rfl⟩
          have hq0 : 0 < q := by rw [← hq]; exact qda _
          have hq1 : q ≤ 34359738368 := by have := qhv (m := (7 * (a - 1)).toNat) (n := 35) (by omega); rw [hq] at this; omega
          obtain ⟨z, hz⟩ : ∃ z, z = y % 128 := ⟨_, rfl⟩
          obtain ⟨s, hs⟩ : ∃ s, s = z * q := ⟨_, rfl⟩
          have hs0 : 0 ≤ s := by rw [hs]; exact Int.mul_nonneg (by omega) (by omega)
          have hs1 : s ≤ 127 * 34359738368 := by
            rw [hs]
            have h1 : z * q ≤ 127 * q := Int.mul_le_mul_of_nonneg_right (by omega) (by omega)
            omega
          have hs' : s = y % 128 * 2 ^ (7 * (a - 1)).toNat := by rw [hs, hz, hq]
          have c1 : (5 < a ∨ 2147483648 ≤ u + s) → J0 = (0, 0, 60) := fun h => g4.trans (pgo_long hy hs' h)
          have c2 : ¬(5 < a ∨ 2147483648 ≤ u + s) → y < 128 → J0 = (u + s, a + 1, 0) := fun h h2 => g4.trans (pgo_end hy hs' h h2)
          have c3 : ¬(5 < a ∨ 2147483648 ≤ u + s) → ¬y < 128 → J0 = pgo b (6 - a).toNat (a + 1) (u + s) := fun h h2 => g4.trans (pgo_more hy hs' h h2)
          clear g4 hs'
          repeat' (first
            | (refine s_st hS ?_; try cbv)
            | (refine qab hS ?_ ?_ <;> intro h <;> (try cbv) <;> try exact s_ab h)
            | (refine qah hS ?_; intro _ _; try cbv)
            | (refine qae hS ?_; try cbv)
            | (refine rowB hS hF hy rfl (by omega) ?_; try cbv)
            | (refine qgc hS (c := 128) (m := 7) (by decide) ?_; intro _ _; cbv)
            | (refine qwm hS hy0.1 hy0.2 ?_; intro _ _; cbv)
            | (refine qmk hS ?_ (by simp only [lo]; omega) (by simp only [hi]; omega); intro _ _; cbv)
            | (refine qcj hS rfl ?_; cbv)
            | (refine qbn hS (c := 2147483648) rfl ?_; intro _ _; cbv))
          rename_i z' hz' a1 ha1 sv hsv
          obtain rfl : z' = z := hz'.trans hz.symm
          refine qpg hS (c := q) (by rw [← hq]; congr 1; simp only [IntKind.bits]; omega) (fun s' hs2 => ?_) (by rw [← hs]; simp only [lo]; omega) (by rw [← hs]; simp only [hi]; omega)
          obtain rfl : s' = s := hs2.trans hs.symm
          cbv
          refine s_add hS (fun u2 hu2 => ?_) (by simp only [lo]; omega) (by simp only [hi]; omega)
          cbv
          repeat' (first
            | (refine s_st hS ?_; try cbv)
            | (refine qab hS ?_ ?_ <;> intro h <;> (try cbv) <;> try exact s_ab h)
            | (refine qah hS ?_; intro _ _; try cbv)
            | (refine qae hS ?_; try cbv)
            | (refine qcj hS rfl ?_; cbv)
            | (refine qbn hS (c := 2147483648) rfl ?_; intro _ _; cbv)
            | (refine rowB hS hF hy rfl (by omega) ?_; try cbv)
            | (refine qwm hS hy0.1 hy0.2 ?_; intro _ _; cbv))
          · obtain ⟨k1, k2, k3⟩ := herr 60 (by decide) (c1 (.inl h))
            exact qqo k1 k2 k3
          · obtain ⟨k1, k2, k3⟩ := herr 60 (by decide) (c1 (.inr (by omega)))
            exact qqo k1 k2 k3
          · rename_i a2 ha2
            obtain ⟨g5, g6, g7⟩ := hok (u + s') (a + 1) (by omega) (c2 (by omega) (by omega))
            obtain ⟨n2, hn2⟩ : ∃ n2, n2 = n - a2 := ⟨_, rfl⟩
            have hRl : n2 = ilen R := by
              rw [g5]; unfold ilen at *; rw [List.length_drop]; omega
            refine qym hS (b := b) a2 n2 (by simp only [Z.v, ← hS, Int.ofNat_eq_natCast, cq, Bool.not_eq_true', Bool.not_eq_false', decide_eq_true_eq, decide_eq_false_iff_not, beq_iff_eq, beq_eq_false_iff_ne, ne_eq]) (by simp only [Z.v, ← hS, Int.ofNat_eq_natCast, cq, Bool.not_eq_true', Bool.not_eq_false', decide_eq_true_eq, decide_eq_false_iff_not, beq_iff_eq, beq_eq_false_iff_ne, ne_eq]; omega) (by omega) (by omega) (by omega) (by omega) rfl hfs fun F2 st hF2 => ?_
            have hPF : cellsB R = F2 := by rw [← hF2, qrq (by omega) (by omega), g5, ha2]
            rw [← hPF, hP]
            cbv
            exact ownP_ok (k := 1) (L := R) hP (by omega) g7 (Nat.le_refl 1) hRl rfl
          · rename_i a2 ha2
            refine ⟨(a2, u2), by dsimp only; omega, ⟨by dsimp only; omega, by dsimp only; omega, by dsimp only; omega, by dsimp only; omega, ?_⟩, rfl, ?_, ?_, ?_⟩
            · dsimp only
              rw [c3 (by omega) (by omega), ha2, hu2, show (7 - (a + 1)).toNat = (6 - a).toNat by omega]
            · cbv; all_goals exact s_sA
            · cbv; all_goals exact s_bA
            · cbv
end Cz
namespace Cz
open Go Go.RowKit Go.Proofs
end Cz
namespace Cz
open Go Go.RowKit Go.Proofs
theorem qyp {b : List Int} (h : Hu.BOk b) (k : Nat) : Hu.BOk (b.drop k) := fun v hv => h v (List.mem_of_mem_drop hv)
theorem qdf {b : List Int} {p : Int} (h : Hu.BOk b) : Hu.BOk (preR b p) := by
  unfold preR
  split
  · exact qyp h _
  · intro v hv; cases hv
theorem qqv {b : List Int} {o n : Int} (h : Hu.BOk b) : Hu.BOk (part b o n) := fun v hv => h v (List.mem_of_mem_drop (List.mem_of_mem_take hv))
theorem qzl {d : List Int} (hd : Hu.BOk d) : Hu.BOk (takeL d) := by
  unfold takeL
  cases ht : Hu.take d with
  | some o => exact (Hu.put_take hd ht).2
  | none => intro v hv; cases hv
theorem qzabv (d : List Int) : takeE d = 0 ∨ takeE d = 70 ∧ takeL d = [] := by
  unfold takeE takeL
  cases Hu.take d with
  | some o => exact .inl rfl
  | none => exact .inr ⟨rfl, rfl⟩
section
variable {S : Sy} {b : List Int} {F : List SV} {k : Nat} {ro lit : Bool} {st zn zk : Z} {l : List Blk} {K : SV → List Blk → Prop}
theorem ptake_u (hS : S0 Tryd.prog = S) (kk p : Int) (hzk : zk.v = kk) (hb : Hu.BOk b) (hn : ilen b ≤ 1000000) (hk1 : 1 ≤ kk) (hk8 : kk ≤ 8) (hp : 2 ^ kk.toNat = p) (hrow : lget l k = .r ro lit st 1 F) (hs : FSub F (cellsB b)) (hz : zn.v = ilen b)
    (hK : ∀ N R E F2 n2 st, preN b p = N → preR b p = R → preE b p = E → cellsB R = F2 → n2 = ilen R → K (.tp [.i .i64 (.y N), .sl (len l) 1 (.l 0) (.y n2) none, .i .i64 (.y E)]) (snoc l (.r false false (.y st) 1 F2))) :
    S.call 96 [.sl k 1 (.l 0) zn none, .i .i64 zk] l K := by
  subst hzk
  exact use_ownP hS (fun _ => k) (ptake_f hb hn hk1 hk8 hp) (.cons (qcm rfl hz) (.cons (qag rfl) .nil)) rfl ⟨⟨_, _, _, _, _, _, _, _, rfl, qad _, hrow, hs⟩, trivial⟩ (by omega) (qad _) rfl rfl (qdp _) fun st => hK _ _ _ _ _ st rfl rfl rfl rfl rfl
end
def tTake (b : List Int) : List Int × List Int × Int :=
  if preE b 128 ≠ 0 then ([], [], preE b 128)
  else if ilen (preR b 128) < preN b 128 then ([], [], 10)
  else if b.getD 0 0 < 128 then (part (preR b 128) 0 (preN b 128), (preR b 128).drop (preN b 128).toNat, 0)
  else if takeE (part (preR b 128) 0 (preN b 128)) = 0 then (takeL (part (preR b 128) 0 (preN b 128)), (preR b 128).drop (preN b 128).toNat, 0)
  else ([], [], 70)
def tS (b : List Int) : List Int := (tTake b).1
def tR (b : List Int) : List Int := (tTake b).2.1
def tE (b : List Int) : Int := (tTake b).2.2
theorem pgo_ok {b : List Int} (hb : Hu.BOk b) : ∀ (f : Nat) (a n : Int), 0 ≤ n → 0 ≤ (pgo b f a n).1
  | 0, a, n, h => by simp [pgo]
  | f + 1, a, n, h => by
    rw [pgo]
    split
    · simp
    · rename_i v hv
      have hv0 := hb v (List.mem_of_getElem? hv)
      have hs : 0 ≤ v % 128 * 2 ^ (7 * (a - 1)).toNat := Int.mul_nonneg (by omega) (Int.le_of_lt (qda _))
      split
      · simp
      · split
        · simp only; omega
        · exact pgo_ok hb f _ _ (by omega)
theorem qkw {b : List Int} {p : Int} (hb : Hu.BOk b) (hp : 1 ≤ p) : 0 ≤ preN b p := by
  unfold preN preI
  cases b with
  | nil => simp
  | cons v b =>
    simp only
    split
    · exact Int.emod_nonneg _ (by omega)
    · exact pgo_ok hb _ _ _ (by omega)
theorem qfk {b : List Int} {p : Int} : ilen (preR b p) ≤ ilen b := by
  unfold preR
  split
  · unfold ilen; rw [List.length_drop]; omega
  · unfold ilen; simp
theorem preE_nil {p : Int} : preE [] p = 10 := rfl
theorem qxa {P : List SV} {x : List UInt8} {e : Int} {z : Z} {l' : List Blk} (hx : x = []) (hP : P = []) (he : e = z.v) : OwnP 1 1 P [.s x] [.i .i64 (.y e)] (.tp [.s [], .re (.slice none 0 0), .i .i64 z]) l' :=
  ⟨_, qas (.cons (sub_s hx.symm) (.cons .rfl (.cons (qag he.symm) .nil))), .inl ⟨rfl, hP⟩⟩
theorem ownS_ok {P : List SV} {L : List Int} {x y : List UInt8} {e : Int} {z q : Z} {k : Nat} {lit : Bool} {st : Z} {l' : List Blk} (hx : x = y) (hP : cellsB L = P) (he : e = z.v) (hk : 1 ≤ k) (hq : q.v = ilen L) (hB : l'[k]? = some (.r false lit st 1 P)) :
    OwnP 1 1 P [.s x] [.i .i64 (.y e)] (.tp [.s y, .sl k 1 (.l 0) q none, .i .i64 z]) l' :=
  ⟨_, qas (.cons (sub_s hx.symm) (.cons .rfl (.cons (qag he.symm) .nil))), qge hP hk hq hB⟩
theorem ttake_f {b : List Int} (hb : Hu.BOk b) (hnb : ilen b ≤ 1000000) :
    (S0 Tryd.prog).call 111 [.sl 0 1 (.l 0) (.y (ilen b)) none] [.r true true (.l 0) 1 (cellsB b)] (OwnP 1 1 (cellsB (tR b)) [.s (strB (tS b))] [.i .i64 (.y (tE b))]) := by
  obtain ⟨n, hn'⟩ : ∃ n, n = ilen b := ⟨_, rfl⟩
  have h0n := qai b
  have hn := hnb
  rw [← hn'] at h0n hn ⊢
  have hpl := qad b
  obtain ⟨N, hN⟩ : ∃ N, preN b 128 = N := ⟨_, rfl⟩
  obtain ⟨E, hE⟩ : ∃ E, preE b 128 = E := ⟨_, rfl⟩
  obtain ⟨R, hR⟩ : ∃ R, preR b 128 = R := ⟨_, rfl⟩
  have hN0 := qkw (p := 128) hb (by decide)
  have hRl := qfk (b := b) (p := 128)
  have hRok := qdf (p := 128) hb
  rw [hN] at hN0
  rw [hR] at hRl hRok
  obtain ⟨x, hx⟩ : ∃ x, x = strB (tS b) := ⟨_, rfl⟩
  obtain ⟨e, he⟩ : ∃ e, e = tE b := ⟨_, rfl⟩
  obtain ⟨Q, hQ⟩ : ∃ Q, Q = tR b := ⟨_, rfl⟩
  have hT : ∀ a c d, tTake b = (a, c, d) → x = strB a ∧ Q = c ∧ e = d := fun a c d h => ⟨by rw [hx]; unfold tS; rw [h], by rw [hQ]; unfold tR; rw [h], by rw [he]; unfold tE; rw [h]⟩
  rw [← hx, ← he, ← hQ]
  clear hx he hQ
  unfold tTake at hT
  rw [hN, hE, hR] at hT
  generalize hF : cellsB b = F at hpl ⊢
  have hfs : FSub F (cellsB b) := by rw [hF]; exact .rfl
  generalize hP : cellsB Q = P
  refine qns hpl ?_
  generalize hS : S0 Tryd.prog = S
  refine qac hS I.qzaax ?_
  cbv
  refine ptake_u hS (b := b) 7 128 rfl hb hnb (by decide) (by decide) rfl rfl hfs hn' fun N1 R1 E1 F2 n2 st hN1 hR1 hE1 hF2 hn2 => ?_
  have e1 : N1 = N := hN1.symm.trans hN
  have e2 : R = R1 := hR.symm.trans hR1
  have e3 : E1 = E := hE1.symm.trans hE
  cbv
  repeat' (first
    | (refine s_st hS ?_; try cbv)
    | (refine qab hS ?_ ?_ <;> intro h <;> (try cbv) <;> try exact s_ab h)
    | (refine qah hS ?_; intro _ _; try cbv)
    | (refine qae hS ?_; try cbv)
    | (refine qcj hS rfl ?_; cbv))
  · obtain ⟨a1, a2, a3⟩ := hT [] [] E (by rw [if_pos (by omega)])
    exact qxa a1 (by rw [← hP, a2]; rfl) (by simp only [Z.v]; omega)
  · obtain ⟨a1, a2, a3⟩ := hT [] [] 10 (by rw [if_neg (by omega), if_pos (by rw [e2]; omega)])
    exact qxa a1 (by rw [← hP, a2]; rfl) a3
  · have hE0 : ¬E ≠ 0 := by omega
    have hRN : ¬ilen R < N := by rw [e2]; omega
    rw [if_neg hE0, if_neg hRN, e2, ← e1] at hT
    rw [← e1] at hN0
    rw [e2] at hRl hRok
    have hn1 : 1 ≤ n := by
      rcases Int.lt_or_le n 1 with h1 | h1
      · exfalso
        have : b = [] := List.length_eq_zero_iff.1 (by unfold ilen at hn'; omega)
        rw [this, preE_nil] at hE
        omega
      · exact h1
    obtain ⟨v, hv⟩ := qfh (l := b) (i := 0) (by omega) (Int.le_refl 0)
    have hb0 := hb v (List.mem_of_getElem? hv)
    have hv0 : b.getD 0 0 = v := by rw [List.getD_eq_getElem?_getD]; simp at hv; rw [hv]; rfl
    rw [hv0] at hT
    have hfs2 : FSub F2 (cellsB R1) := by rw [hF2]; exact .rfl
    obtain ⟨n3, hn3⟩ : ∃ n3, n3 = n2 - N1 := ⟨_, rfl⟩
    obtain ⟨T, hTp⟩ : ∃ T, part R1 0 N1 = T := ⟨_, rfl⟩
    have hTl : ilen T = N1 := by rw [← hTp]; exact qjm (by decide) hN0 (by omega)
    have hTok : Hu.BOk T := hTp ▸ qqv hRok
    rw [hTp] at hT
    refine qam hS rfl I.qrt (by decide +kernel) ?_
    cbv
    repeat' (first
      | (refine s_st hS ?_; try cbv)
      | (refine qab hS ?_ ?_ <;> intro h <;> (try cbv) <;> try exact s_ab h)
      | (refine qah hS ?_; intro _ _; try cbv)
      | (refine qae hS ?_; try cbv)
      | (refine clone_su hS (b := R1) 0 N1 rfl rfl (by decide) hN0 (by omega) (by omega) rfl hfs2 fun F3 st3 hF3 => ?_; cbv)
      | (refine qym hS (b := R1) N1 n3 rfl (by simp only [Z.v, ← hS, Int.ofNat_eq_natCast, cq, Bool.not_eq_true', Bool.not_eq_false', decide_eq_true_eq, decide_eq_false_iff_not, beq_iff_eq, beq_eq_false_iff_ne, ne_eq]; omega) hN0 (by omega) (by omega) (by omega) rfl hfs2 fun F4 st4 hF4 => ?_; cbv)
      | (refine And.intro rfl ?_; try cbv))
    rw [hTp] at hF3
    have hD : part R1 N1 n3 = R1.drop N1.toNat := qrq hN0 (by omega)
    rw [hD] at hF4
    have hDl : n3 = ilen (R1.drop N1.toNat) := by rw [← hD]; exact (qjm hN0 (by omega) (by omega)).symm
    refine rowB hS hF hv rfl (Int.le_refl 0) ?_
    cbv
    refine qwm hS hb0.1 hb0.2 fun r hr => ?_
    cbv
    refine qab hS ?_ ?_ <;> intro h <;> cbv
    · obtain ⟨a1, a2, a3⟩ := hT T (R1.drop N1.toNat) 0 (by rw [if_pos (by omega)])
      refine s_bs hS hTok hF3 hTl.symm ?_
      rw [← a1]
      cbv
      have hPF : F4 = P := by rw [← hF4, ← hP, a2]
      rw [hPF]
      exact ownS_ok (L := R1.drop N1.toNat) rfl (by rw [← a2]; exact hP) a3 (by omega) hDl rfl
    · refine take_u hS (b := T) hTok (by omega) rfl (by rw [hF3]; exact .rfl) hTl.symm fun L F5 n5 st5 e5 hL hF5 hn5 he5 => ?_
      cbv
      repeat' (first
        | (refine s_st hS ?_; try cbv)
        | (refine qab hS ?_ ?_ <;> intro h <;> (try cbv) <;> try exact s_ab h)
        | (refine qah hS ?_; intro _ _; try cbv)
        | (refine qae hS ?_; try cbv)
        | (refine qcj hS rfl ?_; cbv))
      · obtain ⟨a1, a2, a3⟩ := hT (takeL T) (R1.drop N1.toNat) 0 (by rw [if_neg (by omega), if_pos (by rw [he5]; exact h)])
        rw [hL] at a1
        refine s_bs hS (hL ▸ qzl hTok) hF5 hn5 ?_
        rw [← a1]
        cbv
        have hPF : F4 = P := by rw [← hF4, ← hP, a2]
        rw [hPF]
        exact ownS_ok (L := R1.drop N1.toNat) rfl (by rw [← a2]; exact hP) a3 (by omega) hDl rfl
      · have h70 : e5 = 70 := by
          rcases qzabv T with h1 | ⟨h1, _⟩ <;> omega
        obtain ⟨a1, a2, a3⟩ := hT [] [] 70 (by rw [if_neg (by omega), if_neg (by omega)])
        exact qxa a1 (by rw [← hP, a2]; rfl) (by simp only [Z.v]; omega)
end Cz
namespace Cz
open Go Go.RowKit Go.Proofs
end Cz
namespace Cz
open Go Go.RowKit Go.Proofs
theorem or128_all : ∀ n : Fin 256, IntKind.u8.wrap ((BitVec.ofInt 8 (n.val : Int) ||| BitVec.ofInt 8 128).toNat : Int) = ((n.val % 128 + 128 : Nat) : Int) := by decide +kernel
theorem s_or128 {S : Sy} {a : Int} {K : Int → Prop} (hS : S0 Tryd.prog = S) (h0 : 0 ≤ a) (h1 : a < 256) (h : ∀ r, r = a % 128 + 128 → K r) : S.ar .or .u8 a 128 K := by
  refine qps hS _ rfl (h _ ?_)
  have := or128_all ⟨a.toNat, by omega⟩
  simp only [Int.toNat_of_nonneg h0] at this
  rw [show arS .or .u8 a 128 = IntKind.u8.wrap ((BitVec.ofInt 8 a ||| BitVec.ofInt 8 128).toNat : Int) from rfl, this]
  omega
theorem andn_nat (w m u : Nat) (hm : m ≤ w) (hu : u < 2 ^ w) : u &&& (2 ^ w - 1 - (2 ^ m - 1)) = u - u % 2 ^ m := by
  have hp : 2 ^ m ≤ 2 ^ w := Nat.pow_le_pow_right (by omega) hm
  apply Nat.eq_of_testBit_eq
  intro i
  have e1 : 2 ^ w - 1 - (2 ^ m - 1) = 2 ^ m * (2 ^ (w - m) - 1) := by
    rw [Nat.mul_sub, ← Nat.pow_add, show m + (w - m) = w by omega]
    have := Nat.two_pow_pos m
    omega
  have e2 : u - u % 2 ^ m = 2 ^ m * (u / 2 ^ m) := by have := Nat.div_add_mod u (2 ^ m); omega
  rw [e1, e2, Nat.testBit_and, Nat.testBit_two_pow_mul, Nat.testBit_two_pow_mul, Nat.testBit_two_pow_sub_one]
  by_cases h : m ≤ i
  · simp only [h, decide_true, Bool.true_and]
    rw [Nat.testBit_div_two_pow, show i - m + m = i by omega]
    by_cases h2 : i - m < w - m
    · simp [h2]
    · have : u.testBit i = false := Nat.testBit_lt_two_pow (Nat.lt_of_lt_of_le hu (Nat.pow_le_pow_right (by omega) (by omega)))
      simp [this]
  · simp [h]
def sept : Nat → Int → List Int
  | 0, _ => []
  | f + 1, q => if q < 128 then [q] else (q % 128 + 128) :: sept f (q / 128)
def putI (n p up : Int) : List Int := if n < p - 1 then [up - up % p + n] else (up - up % p + (p - 1)) :: sept 5 (n - (p - 1))
theorem s_andn {S : Sy} {a b p : Int} {m : Nat} {K : Int → Prop} (hS : S0 Tryd.prog = S) (hp : (2 : Int) ^ m = p) (hm : m ≤ 8) (hb : b = p - 1) (h0 : 0 ≤ a) (h1 : a < 256) (h : ∀ r, r = a - a % p → K r) : S.ar .andn .u8 a b K := by
  subst hp hb
  refine qps hS _ ?_ (h _ rfl)
  show IntKind.u8.wrap ((BitVec.ofInt 8 a &&& ~~~ BitVec.ofInt 8 ((2 : Int) ^ m - 1)).toNat : Int) = _
  have hle := qhv (m := m) (n := 8) hm
  have hpos := qda m
  have e1 : ((2 : Int) ^ m - 1).toNat = 2 ^ m - 1 := by have := qfl m; omega
  rw [BitVec.toNat_and, BitVec.toNat_not, qdi, qdi, Int.emod_eq_of_lt h0 (by omega), Int.emod_eq_of_lt (a := (2 : Int) ^ m - 1) (by omega) (by omega), e1, andn_nat 8 m _ hm (by omega)]
  have h2 := Int.emod_nonneg a (b := (2 : Int) ^ m) (by omega)
  have h3 : ((a.toNat - a.toNat % 2 ^ m : Nat) : Int) = a - a % 2 ^ m := by
    have h4 := Nat.mod_le a.toNat (2 ^ m)
    have h5 : ((a.toNat % 2 ^ m : Nat) : Int) = a % 2 ^ m := by rw [Int.natCast_emod, Int.toNat_of_nonneg h0, qfl]
    omega
  rw [h3]
  have h6 : a % 2 ^ m ≤ a := by
    have := Int.mul_ediv_add_emod a (2 ^ m)
    have h7 : 0 ≤ (2 : Int) ^ m * (a / 2 ^ m) := Int.mul_nonneg (by omega) (Int.ediv_nonneg h0 (by omega))
    omega
  exact qgv (by simp only [lo]; omega) (by simp only [Cz.hi]; omega)
def septOk (f : Nat) (q : Int) : Prop := 1 ≤ f ∧ 0 ≤ q ∧ q < 128 ^ f
theorem sept_end {f : Nat} {q : Int} (h : septOk f q) (h1 : q < 128) : sept f q = [q] := by
  obtain ⟨f', rfl⟩ : ∃ f', f = f' + 1 := ⟨f - 1, by have := h.1; omega⟩
  rw [sept, if_pos h1]
theorem qzr {f : Nat} {q : Int} (h : septOk f q) (h1 : ¬q < 128) : sept f q = (q % 128 + 128) :: sept (f - 1) (q / 128) ∧ septOk (f - 1) (q / 128) ∧ 2 ≤ f := by
  obtain ⟨h2, h3, h4⟩ := h
  have hf : 2 ≤ f := by
    rcases Nat.lt_or_ge f 2 with h5 | h5
    · have : f = 1 := by omega
      subst this
      simp at h4; omega
    · exact h5
  obtain ⟨f', rfl⟩ : ∃ f', f = f' + 1 := ⟨f - 1, by omega⟩
  simp only [Nat.add_sub_cancel]
  refine ⟨by rw [sept, if_neg h1], ⟨by omega, by omega, ?_⟩, hf⟩
  rw [Int.pow_succ] at h4
  exact Int.ediv_lt_of_lt_mul (by decide) h4
theorem pput_f {n k up p : Int} (hn0 : 0 ≤ n) (hn1 : n < 2147483648) (hk1 : 1 ≤ k) (hk8 : k ≤ 8) (hp : 2 ^ k.toNat = p) (hu0 : 0 ≤ up) (hu1 : up < 256) :
    (S0 Tryd.prog).call 85 [.i .i64 (.y n), .i .i64 (.y k), .i .u8 (.y up)] [] (OwnR 0 1 (cellsB (putI n p up)) true [.i .i64 (.y 0)]) := by
  have hp0 : 2 ≤ p := by have := qhv (m := 1) (n := k.toNat) (by omega); rw [hp] at this; omega
  have hp1 : p ≤ 256 := by have := qhv (m := k.toNat) (n := 8) (by omega); rw [hp] at this; omega
  obtain ⟨w, hw⟩ : ∃ w, w = up % p := ⟨_, rfl⟩
  have hwb : 0 ≤ w ∧ w < p := by rw [hw]; exact ⟨Int.emod_nonneg _ (by omega), Int.emod_lt_of_pos _ (by omega)⟩
  have hw2 : w ≤ up := by
    rw [hw]
    have := Int.mul_ediv_add_emod up p
    have h7 : 0 ≤ p * (up / p) := Int.mul_nonneg (by omega) (Int.ediv_nonneg hu0 (by omega))
    omega
  obtain ⟨fi, hfi⟩ : ∃ fi, fi = up - w := ⟨_, rfl⟩
  have hfp : fi % p = 0 := by
    rw [hfi, hw]
    have := Int.mul_ediv_add_emod up p
    rw [show up - up % p = p * (up / p) by omega]
    exact Int.mul_emod_right _ _
  have hfb : fi + p ≤ 256 := by
    have h8 : ∃ c : Int, 256 = p * c := by
      refine ⟨2 ^ (8 - k.toNat), ?_⟩
      rw [← hp, ← Int.pow_add, show k.toNat + (8 - k.toNat) = 8 by omega]; rfl
    obtain ⟨c, hc⟩ := h8
    have h9 : fi = p * (up / p) := by
      have := Int.mul_ediv_add_emod up p
      omega
    have h10 : up / p < c := by
      rw [Int.ediv_lt_iff_lt_mul (by omega), Int.mul_comm]
      omega
    have h11 : p * (up / p + 1) ≤ p * c := Int.mul_le_mul_of_nonneg_left (by omega) (by omega)
    rw [Int.mul_add] at h11
    omega
  have hput : putI n p up = if n < p - 1 then [fi + n] else (fi + (p - 1)) :: sept 5 (n - (p - 1)) := by unfold putI; rw [← hw, ← hfi]
  generalize hL : putI n p up = L at hput
  generalize hP : cellsB L = P
  generalize hS : S0 Tryd.prog = S
  refine qac hS I.qnc ?_
  cbv
  repeat' (first
    | (refine s_st hS ?_; try cbv)
    | (refine qab hS ?_ ?_ <;> intro h <;> (try cbv) <;> try exact s_ab h)
    | (refine qah hS ?_; intro _ _; try cbv)
    | (refine qae hS ?_; try cbv)
    | (refine qac hS I.qex ?_; cbv)
    | (refine qbn hS (c := 2147483648) rfl ?_; intro _ _; cbv)
    | (refine qpg hS (c := p) (by rw [← hp]; congr 1; simp only [IntKind.bits]; omega) ?_ (by simp only [lo]; omega) (by simp only [hi]; omega); intro _ _; cbv)
    | (refine s_andn hS hp (by omega) (by omega) hu0 hu1 ?_; intro _ _; cbv))
  · rename_i m1 hm1 m0 hm0 f1 hf1
    obtain rfl : f1 = fi := by omega
    refine s_orl hS hp (by omega) hfp (by omega) (by omega) (by simp only [hi]; omega) fun r hr => ?_
    cbv
    rw [if_pos (by omega)] at hput
    refine ⟨_, qas (.cons .rfl (.cons (qag rfl) .nil)), qml (L := L) ?_ hP (Nat.zero_le _) ?_ rfl⟩
    · rw [hput, ← hr]; rfl
    · rw [hput]; rfl
  · rename_i m1 hm1 m0 hm0 f1 hf1
    obtain rfl : f1 = fi := by omega
    refine s_orl hS hp (by omega) hfp (by omega) (by omega) (by simp only [hi]; omega) fun r hr => ?_
    cbv
    rw [if_neg (by omega)] at hput
    repeat' (first
      | (refine s_st hS ?_; try cbv)
      | (refine qab hS ?_ ?_ <;> intro h <;> (try cbv) <;> try exact s_ab h)
      | (refine qah hS ?_; intro _ _; try cbv)
      | (refine qae hS ?_; try cbv)
      | (refine qac hS I.qos ?_; cbv)
      | (refine qhb hS I.qlq ?_; cbv))
    rename_i q0 hq0
    have hok0 : septOk 5 q0 := ⟨by decide, by omega, by show q0 < 34359738368; omega⟩
    have hL0 : L = [r] ++ sept 5 q0 := by rw [hput, hr, hq0, show m0 = p - 1 by omega]; rfl
    clear hput
    refine qaz hS 6 I.qhn (fun x : Nat × Int × Int × Int × List Int × List SV => septOk x.1 x.2.1 ∧ 0 ≤ x.2.1 ∧ x.2.1 < 2147483648 ∧ L = x.2.2.2.2.1 ++ sept x.1 x.2.1 ∧ x.2.2.1 = ilen x.2.2.2.2.1 ∧ x.2.2.1 + x.1 ≤ 6 ∧ x.2.2.2.2.2 = cellsB x.2.2.2.2.1)
      (fun _ => []) (fun x => [(0, .c [.sl 2 1 (.l 0) (.y x.2.2.1) none]), (2, .r false false (.y x.2.2.2.1) 1 x.2.2.2.2.2), (3, .c [.i .u32 (.y x.2.1)])])
      (fun x => x.1) (5, q0, 1, 0, [r], [.i .u8 (.y r)]) rfl ⟨⟨hok0, by dsimp only; omega, by dsimp only; omega, hL0, rfl, by show (1 : Int) + ((5 : Nat) : Int) ≤ 6; decide, rfl⟩, rfl, ?_, ?_, ?_⟩ ?_
    · cbv; all_goals exact s_sA
    · cbv
      refine ⟨.c (.cons (qcm rfl rfl) .nil), .rfl, .r .rfl rfl rfl, .rfl, .rfl, .rfl, trivial⟩
    · cbv
    · intro x
      obtain ⟨f, q, ln, st, B, G⟩ := x
      intro hx
      dsimp only at hx
      cbv
      obtain ⟨g0, g1, g2, g3, g4, g5, g6⟩ := hx
      have hG : ilen G = ln := by rw [g6, qbh, g4]
      have hl0 := qai B
      have hln : ln ≤ 6 := by have : ln + (f : Int) ≤ 6 := g5; omega
      refine qbn hS (c := 128) rfl fun q1 hq1 => ?_
      cbv
      refine qab hS ?_ ?_ <;> intro h <;> cbv
      · obtain ⟨k1, k2, k3⟩ := qzr g0 (by omega)
        refine s_cv8 hS fun y hy => ?_
        cbv
        refine s_or128 hS (by omega) (by omega) fun y2 hy2 => ?_
        cbv
        refine qeb hS rfl rfl ?_
        cbv
        refine qhu hS (by rw [hG]; omega) ?_
        cbv
        repeat' (first
          | (refine s_st hS ?_; try cbv)
          | (refine qab hS ?_ ?_ <;> intro h <;> (try cbv) <;> try exact s_ab h)
          | (refine qah hS ?_; intro _ _; try cbv)
          | (refine qae hS ?_; try cbv)
          | (refine qbn hS (c := 128) rfl ?_; intro _ _; cbv))
        rename_i ln2' q2 hq2
        obtain ⟨ln2, h_ln2⟩ : ∃ ln2, ln2 = ln + 1 := ⟨_, rfl⟩
        obtain ⟨st2, h_st2⟩ : ∃ st2, st2 = S.flen G := ⟨_, rfl⟩
        obtain ⟨G2, h_G2⟩ : ∃ G2, G2 = cellsB (B ++ [y2]) := ⟨_, rfl⟩
        have g5' : ln + (f : Int) ≤ 6 := g5
        have k3' : 2 ≤ f := k3
        have k4 : f - 1 < f := by omega
        have k5 : ln2 + ((f - 1 : Nat) : Int) ≤ 6 := by rw [h_ln2]; omega
        have k6 : 0 ≤ q2 ∧ q2 < 2147483648 := by omega
        refine ⟨(f - 1, q2, ln2, st2, B ++ [y2], G2), k4, ⟨by dsimp only; rw [hq2]; exact k2, k6.1, k6.2, ?_, ?_, k5, h_G2⟩, rfl, ?_, ?_, ?_⟩
        · dsimp only; rw [g3, k1, hq2, show q % 128 + 128 = y2 by omega]; simp
        · dsimp only; rw [h_ln2, g4, qiq]
        · cbv; all_goals exact s_sA
        · cbv
          refine ⟨.c (.cons (qcm rfl (by simp only [Z.v, ← hS, Int.ofNat_eq_natCast, cq, Bool.not_eq_true', Bool.not_eq_false', decide_eq_true_eq, decide_eq_false_iff_not, beq_iff_eq, beq_eq_false_iff_ne, ne_eq]; omega)) .nil), .rfl, qji hS g6.symm h_G2.symm rfl h_st2.symm, .rfl, .rfl, .rfl, trivial⟩
        · cbv
      · have k1 := sept_end g0 (by omega)
        refine s_cv8 hS fun y hy => ?_
        cbv
        refine qeb hS rfl rfl ?_
        cbv
        refine qhu hS (by rw [hG]; omega) ?_
        cbv
        repeat' (first
          | (refine s_st hS ?_; try cbv)
          | (refine qab hS ?_ ?_ <;> intro h <;> (try cbv) <;> try exact s_ab h)
          | (refine qah hS ?_; intro _ _; try cbv)
          | (refine qae hS ?_; try cbv))
        refine ⟨_, qas (.cons .rfl (.cons (qag rfl) .nil)), qzv hS g6.symm hP (show L = B ++ [y] by rw [g3, k1, show y = q by omega]) (Nat.zero_le _) (by simp only [Z.v, ← hS, Int.ofNat_eq_natCast, cq, Bool.not_eq_true', Bool.not_eq_false', decide_eq_true_eq, decide_eq_false_iff_not, beq_iff_eq, beq_eq_false_iff_ne, ne_eq]; omega) rfl⟩
end Cz
namespace Cz
open Go Go.RowKit Go.Proofs
end Cz
namespace Cz
open Go Go.RowKit Go.Proofs
def byS (x : List UInt8) : List Int := x.map fun c => (c.toNat : Int)
theorem qpo (x : List UInt8) : Hu.BOk (byS x) := by
  intro v hv
  unfold byS at hv
  rw [List.mem_map] at hv
  obtain ⟨c, _, rfl⟩ := hv
  have := c.toNat_lt
  omega
theorem qfa (x : List UInt8) : ilen (byS x) = ilen x := by unfold byS ilen; rw [List.length_map]
theorem sb_eq {S : Sy} (hS : S0 Tryd.prog = S) (x : List UInt8) : S.sb x = cellsB (byS x) := by
  subst hS
  rw [qjw]
  unfold byS
  rw [List.map_map]; rfl
theorem qzaca {S : Sy} (hS : S0 Tryd.prog = S) (x : List UInt8) : S.slen x = ilen (byS x) := by rw [qfa, ← hS]; rfl
theorem qwg (x : List UInt8) : strB (byS x) = x := by
  unfold strB byS
  rw [List.map_map]
  conv => rhs; rw [← List.map_id x]
  apply List.map_congr_left
  intro c _
  simp
theorem byS_strB {b : List Int} (h : Hu.BOk b) : byS (strB b) = b := by
  unfold strB byS
  rw [List.map_map]
  conv => rhs; rw [← List.map_id b]
  apply List.map_congr_left
  intro v hv
  have := h v hv
  simp; omega
section
variable {S : Sy} {l : List Blk} {K : SV → List Blk → Prop} {zn zk zu : Z} {n k up : Int}
theorem qve (hS : S0 Tryd.prog = S) (n k up p : Int) (h1 : zn.v = n) (h2 : zk.v = k) (h3 : zu.v = up) (hn0 : 0 ≤ n) (hn1 : n < 2147483648) (hk1 : 1 ≤ k) (hk8 : k ≤ 8) (hp : 2 ^ k.toNat = p) (hu0 : 0 ≤ up) (hu1 : up < 256)
    (hK : ∀ F2 n2 st, cellsB (putI n p up) = F2 → n2 = ilen (putI n p up) → K (.tp [.sl (len l) 1 (.l 0) (.y n2) none, .i .i64 (.y 0)]) (snoc l (.r false false (.y st) 1 F2))) :
    S.call 85 [.i .i64 zn, .i .i64 zk, .i .u8 zu] l K := by
  subst h1 h2 h3
  exact qku hS id (pput_f hn0 hn1 hk1 hk8 hp hu0 hu1) (.cons (qag rfl) (.cons (qag rfl) (.cons (qag rfl) .nil))) rfl trivial (by omega) (qad _) rfl (qdp _) fun st => hK _ _ st rfl rfl
end
theorem sept_len : ∀ (f : Nat) (q : Int), ilen (sept f q) ≤ f
  | 0, q => by simp [sept, ilen]
  | f + 1, q => by
    rw [sept]
    split
    · unfold ilen; simp; omega
    · have := sept_len f (q / 128)
      unfold ilen at this ⊢
      simp only [List.length_cons]; omega
theorem qcz (n p up : Int) : 1 ≤ ilen (putI n p up) ∧ ilen (putI n p up) ≤ 6 := by
  unfold putI
  split
  · exact ⟨Int.le_refl _, by unfold ilen; simp⟩
  · have := sept_len 5 (n - (p - 1))
    have h0 := qai (sept 5 (n - (p - 1)))
    unfold ilen at this h0 ⊢
    simp only [List.length_cons]; omega
theorem qcd {α : Type} (a b : List α) : ilen (a ++ b) = ilen a + ilen b := by unfold ilen; simp
theorem qrb {S : Sy} (hS : S0 Tryd.prog = S) {L : List Int} {F : List SV} {n : Int} (hF : cellsB L = F) (hn : n = ilen L) : S.sub F 0 n 1 = F := by
  subst hS hF hn
  show ((cellsB L).drop (0 * 1)).take ((ilen L).toNat * 1) = _
  have := qbh L
  unfold ilen at *
  rw [List.take_of_length_le (by simp; omega)]; simp
theorem qjg {S : Sy} (hS : S0 Tryd.prog = S) {A B : List Int} {F G : List SV} (hF : F = cellsB A) (hG : G = cellsB B) : S.app F G = cellsB (A ++ B) := by
  subst hS hF hG
  rw [app_eq]; unfold cellsB; rw [List.flatMap_append]
theorem qwz {P X : List SV} {L : List Int} {q : Z} {k : Nat} {lit : Bool} {st : Z} {l' : List Blk} {n0 : Nat} (hX : X = cellsB L) (hP : cellsB L = P) (hk : n0 ≤ k) (hq : q.v = ilen L) (hB : l'[k]? = some (.r false lit st 1 X)) :
    OwnR n0 1 P false [] (.sl k 1 (.l 0) q none) l' := ⟨_, .rfl, qml hX hP hk hq hB⟩
theorem put_ib (b : List Int) : ilen (Hu.put b) ≤ 2 * ilen b + 1 := by
  have h0 := qai b
  have h1 := Hu.qkv b
  have h2 := (qnt (b := b) (j := ilen b) h0).2
  have h3 : bitsI b (ilen b) = Hu.nbits b := by unfold bitsI; rw [qbt (by omega)]
  unfold ilen at *
  omega
def plainT (b : List Int) : List Int := putI (ilen b) 128 0 ++ b
def packT (b : List Int) : List Int := putI (ilen (Hu.put b)) 128 128 ++ Hu.put b
def bestT (b : List Int) : List Int := if shortB b then packT b else plainT b
theorem tall0_f {x : List UInt8} (hx : ilen x ≤ 1000000) :
    (S0 Tryd.prog).call 91 [.s x, .fn (.func 100) [] []] [] (OwnR 0 1 (cellsB (plainT (byS x))) false []) := by
  generalize hP : cellsB (plainT (byS x)) = P
  have h0 := qai (byS x)
  have hxb := qfa x
  generalize hS : S0 Tryd.prog = S
  have hsl := qzaca hS x
  refine qac hS I.qsr ?_
  cbv
  repeat' (first
    | (refine s_st hS ?_; try cbv)
    | (refine qab hS ?_ ?_ <;> intro h <;> (try cbv) <;> try exact s_ab h)
    | (refine qah hS ?_; intro _ _; try cbv)
    | (refine qae hS ?_; try cbv)
    | (refine qac hS I.qpl ?_; cbv)
    | (refine qhb hS I.qkr ?_; cbv)
    | (refine qac hS I.qsq ?_; cbv))
  refine qve hS (ilen (byS x)) 7 0 128 hsl rfl rfl h0 (by omega) (by decide) (by decide) rfl (by decide) (by decide) fun F2 n2 st hF2 hn2 => ?_
  have hpl := qcz (ilen (byS x)) 128 0
  rw [← hn2] at hpl
  have e1 : S.sub F2 0 n2 1 = F2 := qrb hS hF2 hn2
  have e2 : S.sub (S.sb x) 0 (S.slen x) 1 = cellsB (byS x) := by rw [sb_eq hS, hsl]; exact qrb hS rfl rfl
  have hfl : ilen (S.sub F2 0 n2 1) = n2 * 1 := by rw [e1, ← hF2, qbh, hn2]; omega
  cbv
  repeat' (first
    | (refine s_st hS ?_; try cbv)
    | (refine qab hS ?_ ?_ <;> intro h <;> (try cbv) <;> try exact s_ab h)
    | (refine qah hS ?_; intro _ _; try cbv)
    | (refine qae hS ?_; try cbv)
    | (refine qeb hS rfl rfl ?_; cbv)
    | (refine qhu hS hfl ?_; cbv)
    | (refine s_stk hS ?_; try cbv))
  · refine qwz (qjg hS (e1.trans hF2.symm) e2) hP (Nat.zero_le _) ?_ rfl
    rw [qcd, ← hn2, qfa]
    simp only [Z.v, ← hS, Int.ofNat_eq_natCast, cr, Bool.not_eq_true', Bool.not_eq_false', decide_eq_true_eq, decide_eq_false_iff_not, beq_iff_eq, beq_eq_false_iff_ne, ne_eq]
theorem tall1_f {x : List UInt8} (hx : ilen x ≤ 1000000) :
    (S0 Tryd.prog).call 91 [.s x, .fn (.func 102) [] []] [] (OwnR 0 1 (cellsB (packT (byS x))) false []) := by
  generalize hP : cellsB (packT (byS x)) = P
  have h0 := qai (byS x)
  have hxb := qfa x
  generalize hS : S0 Tryd.prog = S
  have hsl := qzaca hS x
  refine qac hS I.qsr ?_
  cbv
  repeat' (first
    | (refine s_st hS ?_; try cbv)
    | (refine qab hS ?_ ?_ <;> intro h <;> (try cbv) <;> try exact s_ab h)
    | (refine qah hS ?_; intro _ _; try cbv)
    | (refine qae hS ?_; try cbv)
    | (refine qac hS I.qpl ?_; cbv)
    | (refine qhb hS I.qkr ?_; cbv)
    | (refine qac hS I.qpw ?_; cbv))
  have hsb := sb_eq hS x
  have hsf : FSub (S.sb x) (cellsB (byS x)) := by rw [hsb]; exact .rfl
  have hpb : ilen (Hu.put (byS x)) ≤ 2000001 := by
    have h1 := put_ib (byS x)
    omega
  have hp0 := qai (Hu.put (byS x))
  refine put_u hS (b := byS x) (qpo x) (by omega) rfl hsf hsl fun F1 n1 st1 hF1 hn1 => ?_
  cbv
  refine qve hS (ilen (Hu.put (byS x))) 7 128 128 hn1 rfl rfl hp0 (by omega) (by decide) (by decide) rfl (by decide) (by decide) fun F2 n2 st hF2 hn2 => ?_
  have hpl := qcz (ilen (Hu.put (byS x))) 128 128
  rw [← hn2] at hpl
  have e1 : S.sub F2 0 n2 1 = F2 := qrb hS hF2 hn2
  have e2 : S.sub F1 0 n1 1 = F1 := qrb hS hF1 hn1
  have hfl : ilen (S.sub F2 0 n2 1) = n2 * 1 := by rw [e1, ← hF2, qbh, hn2]; omega
  cbv
  repeat' (first
    | (refine s_st hS ?_; try cbv)
    | (refine qab hS ?_ ?_ <;> intro h <;> (try cbv) <;> try exact s_ab h)
    | (refine qah hS ?_; intro _ _; try cbv)
    | (refine qae hS ?_; try cbv)
    | (refine qeb hS rfl rfl ?_; cbv)
    | (refine qhu hS hfl ?_; cbv)
    | (refine s_stk hS ?_; try cbv))
  · refine qwz (qjg hS (e1.trans hF2.symm) (e2.trans hF1.symm)) hP (Nat.zero_le _) ?_ rfl
    rw [qcd, ← hn2, ← hn1]
    simp only [Z.v, ← hS, Int.ofNat_eq_natCast, cr, Bool.not_eq_true', Bool.not_eq_false', decide_eq_true_eq, decide_eq_false_iff_not, beq_iff_eq, beq_eq_false_iff_ne, ne_eq]
end Cz
namespace Cz
open Go Go.RowKit Go.Proofs
section
variable {S : Sy} {l : List Blk} {K : SV → List Blk → Prop} {x : List UInt8}
theorem tall0_u (hS : S0 Tryd.prog = S) (hx : ilen x ≤ 1000000)
    (hK : ∀ F2 n2 st, cellsB (plainT (byS x)) = F2 → n2 = ilen (plainT (byS x)) → K (.sl (len l) 1 (.l 0) (.y n2) none) (snoc l (.r false false (.y st) 1 F2))) : S.call 91 [.s x, .fn (.func 100) [] []] l K :=
  qku hS id (tall0_f hx) (.cons .rfl (.cons .rfl .nil)) rfl trivial (by omega) (qad _) rfl (qdp _) fun st => hK _ _ st rfl rfl
theorem tall1_u (hS : S0 Tryd.prog = S) (hx : ilen x ≤ 1000000)
    (hK : ∀ F2 n2 st, cellsB (packT (byS x)) = F2 → n2 = ilen (packT (byS x)) → K (.sl (len l) 1 (.l 0) (.y n2) none) (snoc l (.r false false (.y st) 1 F2))) : S.call 91 [.s x, .fn (.func 102) [] []] l K :=
  qku hS id (tall1_f hx) (.cons .rfl (.cons .rfl .nil)) rfl trivial (by omega) (qad _) rfl (qdp _) fun st => hK _ _ st rfl rfl
end
theorem tbest_f {x : List UInt8} (hx : ilen x ≤ 1000000) :
    (S0 Tryd.prog).call 72 [.s x] [] (OwnR 0 1 (cellsB (bestT (byS x))) false []) := by
  have hL : bestT (byS x) = if shortB (byS x) then packT (byS x) else plainT (byS x) := rfl
  generalize bestT (byS x) = L at hL ⊢
  generalize hP : cellsB L = P
  have hxb := qfa x
  generalize hS : S0 Tryd.prog = S
  have hsl := qzaca hS x
  have hsb := sb_eq hS x
  have hsf : FSub (S.sb x) (cellsB (byS x)) := by rw [hsb]; exact .rfl
  refine qac hS I.qzaay ?_
  cbv
  refine qac hS I.qxr ?_
  cbv
  refine short_u hS (b := byS x) (qpo x) (by omega) rfl hsf hsl fun t ht => ?_
  rw [ht] at hL
  cbv
  refine s_br hS ?_ ?_ <;> intro h <;> cbv
  · rw [h] at hL
    refine qac hS I.quj ?_
    cbv
    refine tall1_u hS hx fun F2 n2 st hF2 hn2 => ?_
    cbv
    exact qwz (L := L) (by rw [hL]; exact hF2.symm) hP (Nat.zero_le _) (by rw [hL]; exact hn2) rfl
  · rw [h] at hL
    refine tall0_u hS hx fun F2 n2 st hF2 hn2 => ?_
    cbv
    exact qwz (L := L) (by rw [hL]; exact hF2.symm) hP (Nat.zero_le _) (by rw [hL]; exact hn2) rfl
end Cz
namespace Cz
open Go Go.RowKit Go.Proofs
theorem s_bsx {S : Sy} (hS : S0 Tryd.prog = S) {l : List Int} {F : List SV} {n : Int} {x : List UInt8} {K : List UInt8 → Prop} (hb : Hu.BOk l) (hF : cellsB l = F) (hn : n = ilen l) (hx : strB l = x) (h : K x) : S.bs F 0 n K := s_bs hS hb hF hn (hx ▸ h)
theorem v_take3 : takeL [49, 141] = [97, 97, 97] ∧ takeE [49, 141] = 0 := by
  have := Hu.take_put [97, 97, 97] (bok1 (by decide))
  rw [show Hu.put [97, 97, 97] = [49, 141] by decide +kernel] at this
  unfold takeL takeE; rw [this]; exact ⟨rfl, rfl⟩
theorem v_take4 : takeE [255] = 70 := by
  have h1 : Hu.bl [255] = List.replicate 8 true := by decide +kernel
  have : Hu.take [255] = none := by
    unfold Hu.take
    rw [h1, Hu.qqt (Hu.sym_ones 8)]
    simp
  unfold takeE; rw [this]; rfl
theorem v1 : tTake [130, 49, 141, 9] = ([97, 97, 97], [9], 0) := by
  unfold tTake
  rw [show preE [130, 49, 141, 9] 128 = 0 by decide +kernel, show preN [130, 49, 141, 9] 128 = 2 by decide +kernel, show preR [130, 49, 141, 9] 128 = [49, 141, 9] by decide +kernel,
    show part [49, 141, 9] 0 2 = [49, 141] by decide +kernel, v_take3.1, v_take3.2]
  decide +kernel
theorem v2 : tTake [2, 97] = ([], [], 10) := by decide +kernel
theorem v3 : tTake [129, 255] = ([], [], 70) := by
  unfold tTake
  rw [show preE [129, 255] 128 = 0 by decide +kernel, show preN [129, 255] 128 = 1 by decide +kernel, show preR [129, 255] 128 = [255] by decide +kernel,
    show part [255] 0 1 = [255] by decide +kernel, v_take4]
  decide +kernel
theorem qrm {n p up : Int} (h0 : 0 ≤ n) (hp : 2 ≤ p) (hp1 : p ≤ 256) (hu : 0 ≤ up - up % p) (hu1 : up - up % p + p ≤ 256) : Hu.BOk (putI n p up) := by
  have hs : ∀ (f : Nat) (q : Int), 0 ≤ q → Hu.BOk (sept f q) := by
    intro f
    induction f with
    | zero => intro q _ v hv; cases hv
    | succ f ih =>
      intro q hq v hv
      rw [sept] at hv
      split at hv
      · rw [List.mem_singleton] at hv; omega
      · rcases List.mem_cons.1 hv with h | h
        · omega
        · exact ih _ (by omega) v h
  intro v hv
  unfold putI at hv
  split at hv
  · rw [List.mem_singleton] at hv; omega
  · rcases List.mem_cons.1 hv with h | h
    · omega
    · exact hs _ _ (by omega) v h
theorem plainT_ok {b : List Int} (hb : Hu.BOk b) : Hu.BOk (plainT b) := by
  intro v hv
  rcases List.mem_append.1 hv with h | h
  · exact qrm (qai b) (by decide) (by decide) (by decide) (by decide) v h
  · exact hb v h
theorem packT_ok (b : List Int) : Hu.BOk (packT b) := by
  intro v hv
  rcases List.mem_append.1 hv with h | h
  · exact qrm (qai _) (by decide) (by decide) (by decide) (by decide) v h
  · exact Hu.put_ok b v h
theorem qyr {b : List Int} (hb : Hu.BOk b) : Hu.BOk (bestT b) := by
  unfold bestT
  split
  · exact packT_ok b
  · exact plainT_ok hb
end Cz
namespace Cz
open Go Go.RowKit Go.Proofs
theorem tT_ok {b : List Int} (hb : Hu.BOk b) : Hu.BOk (tS b) ∧ Hu.BOk (tR b) ∧ ilen (tR b) ≤ ilen b := by
  have h0 := qai b
  have hN := qkw (p := 128) hb (by decide)
  have hd : ∀ k, ilen ((preR b 128).drop k) ≤ ilen b := by
    intro k
    have := qfk (b := b) (p := 128)
    unfold ilen at *
    rw [List.length_drop]; omega
  unfold tS tR tTake
  split
  · exact ⟨fun v hv => by (cases hv), fun v hv => by (cases hv), h0⟩
  · split
    · exact ⟨fun v hv => by (cases hv), fun v hv => by (cases hv), h0⟩
    · split
      · exact ⟨qqv (qdf hb), qyp (qdf hb) _, hd _⟩
      · split
        · exact ⟨qzl (qqv (qdf hb)), qyp (qdf hb) _, hd _⟩
        · exact ⟨fun v hv => by (cases hv), fun v hv => by (cases hv), h0⟩
theorem tR_ok {b : List Int} (hb : Hu.BOk b) : Hu.BOk (tR b) := (tT_ok hb).2.1
end Cz
namespace Cz
open Go Go.RowKit Go.Proofs
theorem get_mid {pre d : List Int} {x a : Int} (h : ilen pre = a) : (pre ++ x :: d)[a.toNat]? = some x := by
  unfold ilen at h
  rw [List.getElem?_append_right (by omega), show a.toNat - pre.length = 0 by omega]; rfl
theorem pgo_sept (d : List Int) : ∀ (f : Nat) (q a n : Int) (g : Nat) (pre : List Int), septOk f q → ilen pre = a → 1 ≤ a → a + f ≤ 6 → 0 ≤ n → n + q * 2 ^ (7 * (a - 1)).toNat < 2147483648 →
    pgo (pre ++ (sept f q ++ d)) (g + f) a n = (n + q * 2 ^ (7 * (a - 1)).toNat, a + ilen (sept f q), 0) := by
  intro f
  induction f with
  | zero => intro q a n g pre h; have := h.1; omega
  | succ f ih =>
    intro q a n g pre hq hp ha haf hn hb
    have h0 := hq.2.1
    have hpos : (0 : Int) < 2 ^ (7 * (a - 1)).toNat := qda _
    by_cases h1 : q < 128
    · rw [sept_end hq h1]
      have hg : (pre ++ ([q] ++ d))[a.toNat]? = some q := get_mid hp
      have hm : q % 128 = q := Int.emod_eq_of_lt h0 h1
      rw [← Nat.add_assoc, pgo_end hg rfl (by rw [hm]; omega) h1, hm]
      rfl
    · obtain ⟨k1, k2, k3⟩ := qzr hq h1
      rw [k1]
      have hg : (pre ++ ((q % 128 + 128) :: sept (f + 1 - 1) (q / 128) ++ d))[a.toNat]? = some (q % 128 + 128) := get_mid hp
      have hm : (q % 128 + 128) % 128 = q % 128 := by omega
      have hp7 : (2 : Int) ^ (7 * (a + 1 - 1)).toNat = 128 * 2 ^ (7 * (a - 1)).toNat := by
        rw [show (7 * (a + 1 - 1)).toNat = 7 + (7 * (a - 1)).toNat by omega, Int.pow_add]; rfl
      have hsum : n + q % 128 * 2 ^ (7 * (a - 1)).toNat + q / 128 * 2 ^ (7 * (a + 1 - 1)).toNat = n + q * 2 ^ (7 * (a - 1)).toNat := by
        rw [hp7]
        generalize (2 : Int) ^ (7 * (a - 1)).toNat = P
        have e : q = q / 128 * 128 + q % 128 := by omega
        have e2 : q * P = q / 128 * (128 * P) + q % 128 * P := by
          conv => lhs; rw [e]
          rw [Int.add_mul, Int.mul_assoc]
        omega
      have hs0 : 0 ≤ q % 128 * 2 ^ (7 * (a - 1)).toNat := Int.mul_nonneg (by omega) (by omega)
      have hs1 : 0 ≤ q / 128 * 2 ^ (7 * (a + 1 - 1)).toNat := Int.mul_nonneg (by omega) (Int.le_of_lt (qda _))
      rw [← Nat.add_assoc, pgo_more hg rfl (by rw [hm]; omega) (by omega), hm]
      have := ih (q / 128) (a + 1) (n + q % 128 * 2 ^ (7 * (a - 1)).toNat) g (pre ++ [q % 128 + 128]) (by simpa using k2) (by unfold ilen at *; simp; omega) (by omega) (by omega) (by omega) (by omega)
      rw [List.append_assoc] at this
      simp only [List.cons_append, List.nil_append, Nat.add_sub_cancel] at this ⊢
      rw [this, hsum]
      unfold ilen
      simp only [List.length_cons, Prod.mk.injEq, true_and, and_true]; omega
theorem pre_put {n p up : Int} (d : List Int) (hn0 : 0 ≤ n) (hn1 : n < 2147483648) (hp0 : 2 ≤ p) (hp1 : p ≤ 256) : preI (putI n p up ++ d) p = (n, ilen (putI n p up), 0) := by
  have hf : (up - up % p) % p = 0 := by
    rw [Int.sub_emod, Int.emod_emod_of_dvd _ (Int.dvd_refl p), Int.sub_self]; rfl
  have hw : ∀ w, 0 ≤ w → w < p → (up - up % p + w) % p = w := by
    intro w h0 h1
    rw [Int.add_emod, hf, Int.zero_add, Int.emod_emod_of_dvd _ (Int.dvd_refl p), Int.emod_eq_of_lt h0 h1]
  unfold putI
  split
  · rename_i h
    unfold preI
    simp only [List.cons_append, List.nil_append]
    rw [hw n hn0 (by omega), if_pos h]; rfl
  · rename_i h
    unfold preI
    simp only [List.cons_append]
    rw [hw (p - 1) (by omega) (by omega), if_neg (by omega)]
    have := pgo_sept d 5 (n - (p - 1)) 1 (p - 1) 1 [up - up % p + (p - 1)] ⟨by decide, by omega, by show n - (p - 1) < 34359738368; omega⟩ rfl (by omega) (by omega) (by omega) (by
      show p - 1 + (n - (p - 1)) * 1 < 2147483648; omega)
    have e : (6 : Nat) = 1 + 5 := rfl
    rw [e]
    have e2 : (up - up % p + (p - 1)) :: (sept 5 (n - (p - 1)) ++ d) = [up - up % p + (p - 1)] ++ (sept 5 (n - (p - 1)) ++ d) := rfl
    rw [e2, this]
    have e3 : (2 : Int) ^ (7 * ((1 : Int) - 1)).toNat = 1 := rfl
    rw [e3]
    unfold ilen
    simp only [List.length_cons, Prod.mk.injEq, and_true]
    constructor <;> omega
theorem qql {n p up : Int} (d : List Int) (hn0 : 0 ≤ n) (hn1 : n < 2147483648) (hp0 : 2 ≤ p) (hp1 : p ≤ 256) : preN (putI n p up ++ d) p = n ∧ preE (putI n p up ++ d) p = 0 ∧ preR (putI n p up ++ d) p = d := by
  have h := pre_put (up := up) d hn0 hn1 hp0 hp1
  have h2 : preE (putI n p up ++ d) p = 0 := by unfold preE; rw [h]
  refine ⟨by unfold preN; rw [h], h2, ?_⟩
  unfold preR
  rw [if_pos h2, h]
  simp only
  unfold ilen
  rw [Int.toNat_natCast, List.drop_left]
theorem qwv {n p up : Int} (d : List Int) (hn0 : 0 ≤ n) (hp0 : 2 ≤ p) : ∃ w, 0 ≤ w ∧ w < p ∧ (putI n p up ++ d).getD 0 0 = up - up % p + w := by
  unfold putI
  split
  · exact ⟨n, hn0, by omega, rfl⟩
  · exact ⟨p - 1, by omega, by omega, rfl⟩
theorem take_plain {b : List Int} (d : List Int) (hn : ilen b ≤ 1000000) : tTake (plainT b ++ d) = (b, d, 0) := by
  obtain ⟨h1, h2, h3⟩ := qql (n := ilen b) (p := 128) (up := 0) (b ++ d) (qai b) (by omega) (by decide) (by decide)
  obtain ⟨w, h4, h5, h6⟩ := qwv (n := ilen b) (p := 128) (up := 0) (b ++ d) (qai b) (by decide)
  unfold plainT tTake
  rw [List.append_assoc, h1, h2, h3, h6]
  have h0 := qai d
  rw [if_neg (by simp), if_neg (by rw [qcd]; omega), if_pos (by omega)]
  unfold part ilen
  simp
theorem take_pack {b : List Int} (hb : Hu.BOk b) (d : List Int) (hn : ilen b ≤ 1000000) : tTake (packT b ++ d) = (b, d, 0) := by
  have hl := put_ib b
  have hln := qai (Hu.put b)
  obtain ⟨h1, h2, h3⟩ := qql (n := ilen (Hu.put b)) (p := 128) (up := 128) (Hu.put b ++ d) hln (by omega) (by decide) (by decide)
  obtain ⟨w, h4, h5, h6⟩ := qwv (n := ilen (Hu.put b)) (p := 128) (up := 128) (Hu.put b ++ d) hln (by decide)
  have ht := Hu.take_put b hb
  unfold packT tTake
  rw [List.append_assoc, h1, h2, h3, h6]
  have h0 := qai d
  have hp : part (Hu.put b ++ d) 0 (ilen (Hu.put b)) = Hu.put b := by unfold part ilen; simp
  rw [if_neg (by simp), if_neg (by rw [qcd]; omega), if_neg (by omega), hp]
  have e1 : takeE (Hu.put b) = 0 := by unfold takeE; rw [ht]; rfl
  have e2 : takeL (Hu.put b) = b := by unfold takeL; rw [ht]; rfl
  rw [if_pos e1, e2]
  unfold ilen; simp
theorem qqz {b : List Int} (hb : Hu.BOk b) (d : List Int) (hn : ilen b ≤ 1000000) : tTake (bestT b ++ d) = (b, d, 0) := by
  unfold bestT; split
  · exact take_pack hb d hn
  · exact take_plain d hn
theorem put_il2 (b : List Int) : ilen (Hu.put b) = (bitsI b (ilen b) + 7) / 8 := by
  have h1 : bitsI b (ilen b) = Hu.nbits b := by unfold bitsI; rw [qbt (by omega)]
  rw [h1]
  have := Hu.qkv b
  unfold ilen; omega
end Cz
namespace Cz
open Go Go.RowKit Go.Proofs
theorem qzadf {a b : List Int} (ha : Hu.BOk a) (hb : Hu.BOk b) : Hu.BOk (a ++ b) := fun v hv => (List.mem_append.1 hv).elim (ha v) (hb v)
end Cz
namespace Cz
open Go Go.RowKit Go.Proofs
namespace Tb
abbrev Fd := List UInt8 × List UInt8
def stL : List Fd :=
   [([58, 109, 101, 116, 104, 111, 100], [71, 69, 84]),
    ([58, 109, 101, 116, 104, 111, 100], [80, 79, 83, 84]),
    ([58, 112, 97, 116, 104], [47]),
    ([58, 115, 99, 104, 101, 109, 101], [104, 116, 116, 112]),
    ([58, 115, 99, 104, 101, 109, 101], [104, 116, 116, 112, 115]),
    ([58, 115, 116, 97, 116, 117, 115], [50, 48, 48]),
    ([58, 115, 116, 97, 116, 117, 115], [50, 48, 52]),
    ([58, 115, 116, 97, 116, 117, 115], [52, 48, 52]),
    ([58, 115, 116, 97, 116, 117, 115], [53, 48, 48]),
    ([97, 99, 99, 101, 112, 116], []),
    ([99, 111, 110, 116, 101, 110, 116, 45, 108, 101, 110, 103, 116, 104], []),
    ([99, 111, 110, 116, 101, 110, 116, 45, 116, 121, 112, 101], []),
    ([99, 111, 111, 107, 105, 101], []),
    ([100, 97, 116, 101], []),
    ([104, 111, 115, 116], []),
    ([108, 111, 99, 97, 116, 105, 111, 110], []),
    ([112, 114, 105, 111, 114, 105, 116, 121], []),
    ([112, 114, 105, 111, 114, 105, 116, 121], [117, 61, 49]),
    ([115, 101, 114, 118, 101, 114], []),
    ([117, 115, 101, 114, 45, 97, 103, 101, 110, 116], [])]
def lineL : List (List UInt8) :=
   [[58, 109, 101, 116, 104, 111, 100, 32, 71, 69, 84],
    [58, 109, 101, 116, 104, 111, 100, 32, 80, 79, 83, 84],
    [58, 112, 97, 116, 104, 32, 47],
    [58, 115, 99, 104, 101, 109, 101, 32, 104, 116, 116, 112],
    [58, 115, 99, 104, 101, 109, 101, 32, 104, 116, 116, 112, 115],
    [58, 115, 116, 97, 116, 117, 115, 32, 50, 48, 48],
    [58, 115, 116, 97, 116, 117, 115, 32, 50, 48, 52],
    [58, 115, 116, 97, 116, 117, 115, 32, 52, 48, 52],
    [58, 115, 116, 97, 116, 117, 115, 32, 53, 48, 48],
    [97, 99, 99, 101, 112, 116],
    [99, 111, 110, 116, 101, 110, 116, 45, 108, 101, 110, 103, 116, 104],
    [99, 111, 110, 116, 101, 110, 116, 45, 116, 121, 112, 101],
    [99, 111, 111, 107, 105, 101],
    [100, 97, 116, 101],
    [104, 111, 115, 116],
    [108, 111, 99, 97, 116, 105, 111, 110],
    [112, 114, 105, 111, 114, 105, 116, 121],
    [112, 114, 105, 111, 114, 105, 116, 121, 32, 117, 61, 49],
    [115, 101, 114, 118, 101, 114],
    [117, 115, 101, 114, 45, 97, 103, 101, 110, 116]]
def joinT : List (List UInt8) → List UInt8
  | [] => []
  | [x] => x
  | x :: y :: r => x ++ 10 :: joinT (y :: r)
def remT (j : Nat) : List UInt8 := joinT (lineL.drop j)
def szF (f : Fd) : Int := ilen f.1 + ilen f.2 + 32
theorem qgy (f : Fd) : 32 ≤ szF f := by have := qai f.1; have := qai f.2; unfold szF; omega
def fullL : List Fd → Int
  | [] => 0
  | f :: r => szF f + fullL r
theorem qfo : ∀ l : List Fd, 0 ≤ fullL l
  | [] => by simp [fullL]
  | f :: r => by have := qgy f; have := qfo r; simp only [fullL]; omega
theorem qis : ∀ l m : List Fd, fullL (l ++ m) = fullL l + fullL m
  | [], m => by simp [fullL]
  | f :: r, m => by simp only [List.cons_append, fullL, qis r m]; omega
theorem qck : ∀ l : List Fd, 32 * ilen l ≤ fullL l
  | [] => by simp [fullL, ilen]
  | f :: r => by have := qgy f; have := qck r; simp only [fullL, ilen, List.length_cons] at *; omega
theorem qeu {l : List Fd} {i : Int} {f : Fd} (h : l[i.toNat]? = some f) (h0 : 0 ≤ i) : fullL (l.take (i + 1).toNat) = fullL (l.take i.toNat) + szF f := by
  rw [qia h h0, qis]; simp [fullL]
theorem qdo (l : List Fd) (n : Nat) : fullL (l.take n) ≤ fullL l := by
  conv => rhs; rw [← List.take_append_drop n l]
  rw [qis]
  have := qfo (l.drop n); omega
theorem qxq {l : List Fd} {i : Nat} {f : Fd} (h : l[i]? = some f) : szF f ≤ fullL l := by
  have h1 := qdo l (i + 1)
  have h2 := qeu (i := i) (by simpa using h) (by omega)
  have h3 := qfo (l.take i)
  rw [show ((i : Int) + 1).toNat = i + 1 by omega] at h2
  simp only [Int.toNat_natCast] at h2
  omega
def rightL (mx : Int) (l : List Fd) : Bool := decide (0 ≤ mx ∧ mx ≤ 4096 ∧ fullL l ≤ mx)
def evN (mx : Int) (l : List Fd) : Nat → Nat
  | 0 => 0
  | n + 1 => if fullL (l.take (n + 1)) ≤ mx then n + 1 else evN mx l n
def evL (mx : Int) (l : List Fd) : List Fd := l.take (evN mx l l.length)
theorem evN_le (mx : Int) (l : List Fd) : ∀ n, evN mx l n ≤ n
  | 0 => Nat.le_refl _
  | n + 1 => by
    simp only [evN]
    split
    · exact Nat.le_refl _
    · exact Nat.le_succ_of_le (evN_le mx l n)
theorem qyc {mx : Int} {l : List Fd} {n : Nat} (h : fullL (l.take n) ≤ mx) : evN mx l n = n := by
  cases n with
  | zero => rfl
  | succ n => rw [evN, if_pos h]
theorem evN_next {mx : Int} {l : List Fd} {n : Nat} (h : ¬fullL (l.take (n + 1)) ≤ mx) : evN mx l (n + 1) = evN mx l n := by rw [evN, if_neg h]
theorem evN_full {mx : Int} {l : List Fd} (h0 : 0 ≤ mx) : ∀ n, fullL (l.take (evN mx l n)) ≤ mx
  | 0 => by simpa [evN, fullL] using h0
  | n + 1 => by
    by_cases h : fullL (l.take (n + 1)) ≤ mx
    · rw [qyc h]; exact h
    · rw [evN_next h]; exact evN_full h0 n
theorem qzabf {mx : Int} {l : List Fd} (h0 : 0 ≤ mx) : fullL (evL mx l) ≤ mx := evN_full h0 _
theorem evL_all {mx : Int} {l : List Fd} (h : fullL l ≤ mx) : evL mx l = l := by
  unfold evL
  rw [qyc (by rw [List.take_length]; exact h), List.take_length]
abbrev Tab := Int × List Fd
def newR (most : Int) : Tab × Int := if most < 0 ∨ 4096 < most then ((0, []), 2) else ((most, []), 0)
def addR (t : Tab) (f : Fd) : Tab × Int := if rightL t.1 t.2 then ((t.1, evL t.1 (f :: t.2)), 0) else ((0, []), 2)
def resR (t : Tab) (most : Int) : Tab × Int := if rightL t.1 t.2 = true ∧ 0 ≤ most ∧ most ≤ 4096 then ((most, evL most t.2), 0) else ((0, []), 2)
def allF (l : List Fd) : List Fd := stL ++ l
def atR (l : List Fd) (i : Int) : Fd × Int := if i < 1 then (([], []), 90) else match (allF l)[(i - 1).toNat]? with
  | some f => (f, 0)
  | none => (([], []), 90)
def fstI (p : Fd → Bool) : List Fd → Int → Int
  | [], _ => 0
  | x :: r, i => if p x then i else fstI p r (i + 1)
def findR (l : List Fd) (f : Fd) : Int × Bool :=
  if fstI (fun x => x == f) (allF l) 1 ≠ 0 then (fstI (fun x => x == f) (allF l) 1, true) else (fstI (fun x => x.1 == f.1) (allF l) 1, false)
theorem qid : stL.length = 20 := rfl
theorem line_facts : ∀ j : Fin 20, idxI (remT j.val) 10 = (if j.val < 19 then ilen (lineL.getD j.val []) else -1) ∧
    (remT j.val).take (lineL.getD j.val []).length = lineL.getD j.val [] ∧ (j.val < 19 → (remT j.val).drop ((lineL.getD j.val []).length + 1) = remT (j.val + 1)) ∧ (j.val = 19 → remT j.val = lineL.getD j.val []) ∧
    (if idxI (lineL.getD j.val []) 32 < 0 then stL.getD j.val ([], []) = (lineL.getD j.val [], []) else
      stL.getD j.val ([], []) = ((lineL.getD j.val []).take (idxI (lineL.getD j.val []) 32).toNat, (lineL.getD j.val []).drop ((idxI (lineL.getD j.val []) 32).toNat + 1))) ∧ ilen (lineL.getD j.val []) ≤ 20 ∧ ilen (remT j.val) ≤ 300 ∧ idxI (lineL.getD j.val []) 32 < ilen (lineL.getD j.val []) := by
  decide +kernel
end Tb
end Cz
namespace Cz
open Go Go.RowKit Go.Proofs
namespace Tb
def fdE (f : Fd) : List SV := [.s f.1, .s f.2]
def cellsF (l : List Fd) : List SV := l.flatMap fdE
theorem qcu (l : List Fd) : plains (cellsF l) = true := qkx (fun _ => rfl) l
theorem qgs (l : List Fd) : (cellsF l).length = l.length * 2 := qxz (enc := fdE) (fun _ => rfl) l
def tabV (mx : Int) (l : List Fd) : SV := .ag [.i .i64 (.y mx), .v false 2 (cellsF l) (.y (ilen l))]
theorem cells_take (l : List Fd) (n : Nat) : (cellsF l).take (n * 2) = cellsF (l.take n) := by
  induction l generalizing n with
  | nil => simp [cellsF]
  | cons f l ih =>
    cases n with
    | zero => simp [cellsF]
    | succ n =>
      have := ih n
      simp only [cellsF, List.flatMap_cons, fdE, List.take_succ_cons] at this ⊢
      rw [show (n + 1) * 2 = n * 2 + 1 + 1 by omega]
      simp only [List.cons_append, List.nil_append, List.take_succ_cons]
      rw [this]
theorem qnz {l' : List Blk} {g : Nat → Nat} {ks : List (Option Nat)} {k : Nat} {len : Z} {cap : Option Z} {lit : Bool} {st : Z} {F : List SV} {lit' : Bool} {n : Z} {l : List Fd} {m : Nat} (hB : l'[k]? = some (.r false lit st 2 F)) (hk : kpOf ks k = none)
    (hF : F = cellsF l) (hm : len.v = m) (hn : len.v = n.v) : Fz l' g ks (.sl k 2 (.l 0) len cap) (.v lit' 2 (cellsF (l.take m)) n) := by
  refine fz_row hB hk ?_ (qcu _) hn
  rw [hF, show (Z.l 0).v.toNat * 2 = 0 from rfl, List.drop_zero, show len.v.toNat = m by omega, cells_take]
inductive TabC (bl : List Blk) : List SV → Int → List Fd → Prop where
  | v {z n : Z} {lit : Bool} {F : List SV} {mx : Int} {l : List Fd} (hz : z.v = mx) (hF : cellsF l = F) (hn : n.v = ilen l) : TabC bl [.i .i64 z, .v lit 2 F n] mx l
  | nil {z : Z} {mx : Int} (hz : z.v = mx) : TabC bl [.i .i64 z, .re (.slice none 0 0)] mx []
  | row {z n st : Z} {k : Nat} {lit : Bool} {cap : Option Z} {F : List SV} {mx : Int} {l l0 : List Fd} (hz : z.v = mx) (hB : lget bl k = .r false lit st 2 F) (hF : cellsF l0 = F) (hl : l = l0.take n.v.toNat) (hn : n.v = ilen l) : TabC bl [.i .i64 z, .sl k 2 (.l 0) n cap] mx l
theorem TabC.fz {bl : List Blk} {cs : List SV} {mx : Int} {l : List Fd} (h : TabC bl cs mx l) {g : Nat → Nat} : FzL bl g [] [.ag cs] [tabV mx l] := by
  cases h with
  | v hz hF hn => exact .cons (.ag (.cons (.sub (qag hz) rfl) (.cons (.sub (qbc hF.symm hn) rfl) .nil))) .nil
  | nil hz => exact .cons (.ag (.cons (.sub (qag hz) rfl) (.cons (.sub (qht (by decide) rfl rfl) rfl) .nil))) .nil
  | @row z n st k lit cap F mx l l0 hz hB hF hl hn =>
    subst hl
    refine .cons (.ag (.cons (.sub (qag hz) rfl) (.cons (qnz (qaq hB (by simp)) rfl hF.symm ?_ hn) .nil))) .nil
    have := qai (l0.take n.v.toNat)
    omega
theorem TabC.sub {cs : List SV} {mx : Int} {l : List Fd} (h : TabC [] cs mx l) : SubL [.ag cs] [tabV mx l] := by
  cases h with
  | v hz hF hn => exact .cons (qdc (.cons (qag hz) (.cons (qbc hF.symm hn) .nil))) .nil
  | nil hz => exact .cons (qdc (.cons (qag hz) (.cons (qht (by decide) rfl rfl) .nil))) .nil
  | row hz hB hF hl hn => simp [lget] at hB
theorem rowF {S : Sy} (hS : S0 Tryd.prog = S) {l : List Fd} {F : List SV} (hF : cellsF l = F) {q : Int} {a b : List UInt8} {K : SV → Prop} (hv : l[q.toNat]? = some (a, b)) (h0 : 0 ≤ q) (h : K (.ag [.s a, .s b])) : S.rd F q 2 0 2 true K :=
  s_rowp hS (enc := fdE) hF hv (fun _ => rfl) h0 (Nat.le_refl _) rfl h
theorem rowF1 {S : Sy} (hS : S0 Tryd.prog = S) {l : List Fd} {F : List SV} (hF : cellsF l = F) {q : Int} {a b : List UInt8} {K : SV → Prop} (hv : l[q.toNat]? = some (a, b)) (h0 : 0 ≤ q) (h : K (.s a)) : S.rd F q 2 0 1 false K :=
  s_rowp hS (enc := fdE) hF hv (fun _ => rfl) h0 (by decide) rfl h
theorem rowF2 {S : Sy} (hS : S0 Tryd.prog = S) {l : List Fd} {F : List SV} (hF : cellsF l = F) {q : Int} {a b : List UInt8} {K : SV → Prop} (hv : l[q.toNat]? = some (a, b)) (h0 : 0 ≤ q) (h : K (.s b)) : S.rd F q 2 1 1 false K :=
  s_rowp hS (enc := fdE) hF hv (fun _ => rfl) h0 (by decide) rfl h
theorem size_f {a b : List UInt8} {n : Int} (hn : n = szF (a, b)) (h : n ≤ 1000000000) : (S0 Tryd.prog).call 22 [.ag [.s a, .s b]] [] (fun y _ => Sub y (.i .i64 (.y n))) := by
  generalize hS : S0 Tryd.prog = S
  have g1 := qai a
  have g2 := qai b
  have hn' : n = ilen a + ilen b + 32 := hn
  refine qac hS I.qxs ?_
  cbv
  repeat' (first
    | (refine s_st hS ?_; try cbv)
    | (refine qab hS ?_ ?_ <;> intro h <;> (try cbv) <;> try exact s_ab h)
    | (refine qah hS ?_; intro _ _; try cbv)
    | (refine qae hS ?_; try cbv)
    | (refine qau hS ?_; intro _ _; try cbv)
    | (refine qcf hS ?_; try cbv)
    | fail)
  refine qag ?_
  simp only [Z.v]; omega
theorem rsize_f {a b : List UInt8} {n : Int} (hn : n = szF (a, b)) (h : n ≤ 1000000000) : (S0 Tryd.prog).call 23 [.ag [.s a, .s b]] [] (fun y _ => Sub y (.i .i64 (.y n))) := by
  generalize hS : S0 Tryd.prog = S
  have g1 := qai a
  have g2 := qai b
  have hn' : n = ilen a + ilen b + 32 := hn
  refine qac hS I.qlr ?_
  cbv
  repeat' (first
    | (refine s_st hS ?_; try cbv)
    | (refine qab hS ?_ ?_ <;> intro h <;> (try cbv) <;> try exact s_ab h)
    | (refine qah hS ?_; intro _ _; try cbv)
    | (refine qae hS ?_; try cbv)
    | (refine qau hS ?_; intro _ _; try cbv)
    | (refine qcf hS ?_; try cbv)
    | fail)
  refine qag ?_
  simp only [Z.v]; omega
section
variable {S : Sy} {bl : List Blk} {K : SV → List Blk → Prop}
theorem size_u (hS : S0 Tryd.prog = S) {a b : List UInt8} (h : szF (a, b) ≤ 1000000000) (hK : ∀ n, n = szF (a, b) → K (.i .i64 (.y n)) bl) : S.call 22 [.ag [.s a, .s b]] bl K :=
  qbe hS (size_f rfl h) .rfl rfl rfl (hK _ rfl)
theorem rsize_u (hS : S0 Tryd.prog = S) {a b : List UInt8} (h : szF (a, b) ≤ 1000000000) (hK : ∀ n, n = szF (a, b) → K (.i .i64 (.y n)) bl) : S.call 23 [.ag [.s a, .s b]] bl K :=
  qbe hS (rsize_f rfl h) .rfl rfl rfl (hK _ rfl)
end
theorem full_f {mx : Int} {l : List Fd} {n : Int} (hn : n = fullL l) (h : n ≤ 100000000) : (S0 Tryd.prog).call 24 [tabV mx l] [] (fun y _ => Sub y (.i .i64 (.y n))) := by
  generalize hF : cellsF l = F
  obtain ⟨m, hm⟩ : ∃ m, m = ilen l := ⟨_, rfl⟩
  have hlen := qck l
  have h0 := qai l
  unfold tabV
  rw [hF, ← hm]
  generalize hS : S0 Tryd.prog = S
  refine qac hS I.qxu ?_
  cbv
  refine qaz hS 1 I.qpb (fun x : Int × Int => 0 ≤ x.1 ∧ x.1 ≤ m ∧ x.2 = fullL (l.take x.1.toNat)) (fun x => [(2, .i .i64 (.y x.2)), (8, .i .i64 (.y x.1))]) (fun _ => []) (fun x => (m - x.1).toNat) (0, 0) rfl
    ⟨⟨Int.le_refl _, by omega, rfl⟩, rfl, ?_, ?_, by cbv⟩ ?_
  · cbv; all_goals exact s_sA
  · cbv; all_goals exact s_bA
  intro x
  obtain ⟨i, s⟩ := x
  intro hx
  dsimp only at hx
  cbv
  obtain ⟨k0, k1, k2⟩ := hx
  have hs0 := qfo (l.take i.toNat)
  have hs1 := qdo l i.toNat
  rw [← k2] at hs0 hs1
  refine qab hS ?_ ?_ <;> intro h <;> cbv
  · obtain ⟨⟨a, b⟩, hp⟩ := qfh (l := l) (i := i) (by omega) k0
    have hsz := qxq hp
    have hsp := qgy (a, b)
    have hnx := qeu hp k0
    rw [← k2] at hnx
    have hs2 := qdo l (i + 1).toNat
    repeat' (first
      | (refine s_st hS ?_; try cbv)
      | (refine qab hS ?_ ?_ <;> intro h <;> (try cbv) <;> try exact s_ab h)
      | (refine qah hS ?_; intro _ _; try cbv)
      | (refine qae hS ?_; try cbv)
      | (refine qau hS ?_; intro _ _; try cbv)
      | (refine qcf hS ?_; try cbv)
      | (refine rowF hS hF hp (by omega) ?_; cbv)
      | (refine size_u hS (by omega) fun n1 hn1 => ?_; cbv)
      | fail)
    rename_i s2 hs2 i2 hi2
    refine ⟨(i2, s2), by dsimp only; omega, ⟨by dsimp only; omega, by dsimp only; omega, by dsimp only; rw [hs2, hi2, hnx]; omega⟩, rfl, ?_, ?_, by cbv⟩
    · cbv; all_goals exact s_sA
    · cbv; all_goals exact s_bA
  · refine qag ?_
    simp only [Z.v]; rw [hn, k2, qbt (by omega)]
theorem rfull_f {mx : Int} {l : List Fd} {n : Int} (hn : n = fullL l) (h : n ≤ 100000000) : (S0 Tryd.prog).call 25 [tabV mx l] [] (fun y _ => Sub y (.i .i64 (.y n))) := by
  generalize hF : cellsF l = F
  obtain ⟨m, hm⟩ : ∃ m, m = ilen l := ⟨_, rfl⟩
  have hlen := qck l
  have h0 := qai l
  unfold tabV
  rw [hF, ← hm]
  generalize hS : S0 Tryd.prog = S
  refine qac hS I.qlt ?_
  cbv
  refine qaz hS 1 I.qho (fun x : Int × Int => 0 ≤ x.1 ∧ x.1 ≤ m ∧ x.2 = fullL (l.take x.1.toNat)) (fun x => [(3, .i .i64 (.y x.2)), (4, .i .i64 (.y x.1))]) (fun _ => []) (fun x => (m - x.1).toNat) (0, 0) rfl
    ⟨⟨Int.le_refl _, by omega, rfl⟩, rfl, ?_, ?_, by cbv⟩ ?_
  · cbv; all_goals exact s_sA
  · cbv; all_goals exact s_bA
  intro x
  obtain ⟨i, s⟩ := x
  intro hx
  dsimp only at hx
  cbv
  obtain ⟨k0, k1, k2⟩ := hx
  have hs0 := qfo (l.take i.toNat)
  have hs1 := qdo l i.toNat
  rw [← k2] at hs0 hs1
  refine qab hS ?_ ?_ <;> intro h <;> cbv
  · obtain ⟨⟨a, b⟩, hp⟩ := qfh (l := l) (i := i) (by omega) k0
    have hsz := qxq hp
    have hsp := qgy (a, b)
    have hnx := qeu hp k0
    rw [← k2] at hnx
    have hs2 := qdo l (i + 1).toNat
    repeat' (first
      | (refine s_st hS ?_; try cbv)
      | (refine qab hS ?_ ?_ <;> intro h <;> (try cbv) <;> try exact s_ab h)
      | (refine qah hS ?_; intro _ _; try cbv)
      | (refine qae hS ?_; try cbv)
      | (refine qau hS ?_; intro _ _; try cbv)
      | (refine qcf hS ?_; try cbv)
      | (refine rowF hS hF hp (by omega) ?_; cbv)
      | (refine rsize_u hS (by omega) fun n1 hn1 => ?_; cbv)
      | fail)
    rename_i s2 hs2 i2 hi2
    refine ⟨(i2, s2), by dsimp only; omega, ⟨by dsimp only; omega, by dsimp only; omega, by dsimp only; rw [hs2, hi2, hnx]; omega⟩, rfl, ?_, ?_, by cbv⟩
    · cbv; all_goals exact s_sA
    · cbv; all_goals exact s_bA
  · refine qag ?_
    simp only [Z.v]; rw [hn, k2, qbt (by omega)]
section
variable {S : Sy} {bl : List Blk} {K : SV → List Blk → Prop} {cs : List SV} {mx : Int} {l : List Fd}
theorem full_u (hS : S0 Tryd.prog = S) (hc : TabC bl cs mx l) (h : fullL l ≤ 100000000) (hK : ∀ n, n = fullL l → K (.i .i64 (.y n)) bl) : S.call 24 [.ag cs] bl K :=
  qcb hS (full_f rfl h) hc.fz rfl rfl (hK _ rfl)
theorem rfull_u (hS : S0 Tryd.prog = S) (hc : TabC bl cs mx l) (h : fullL l ≤ 100000000) (hK : ∀ n, n = fullL l → K (.i .i64 (.y n)) bl) : S.call 25 [.ag cs] bl K :=
  qcb hS (rfull_f rfl h) hc.fz rfl rfl (hK _ rfl)
end
theorem right_f {mx : Int} {l : List Fd} {t : Bool} (ht : rightL mx l = t) (hb : fullL l ≤ 100000000) : (S0 Tryd.prog).call 26 [tabV mx l] [] (fun y _ => Sub y (.b t)) := by
  generalize hF : cellsF l = F
  obtain ⟨m, hm⟩ : ∃ m, m = ilen l := ⟨_, rfl⟩
  unfold tabV
  rw [hF, ← hm]
  generalize hS : S0 Tryd.prog = S
  refine qac hS I.qul ?_
  cbv
  refine qam hS rfl I.qog (by decide +kernel) ?_
  cbv
  repeat' (first
    | (refine s_st hS ?_; try cbv)
    | (refine qab hS ?_ ?_ <;> intro h <;> (try cbv) <;> try exact s_ab h)
    | (refine qah hS ?_; intro _ _; try cbv)
    | (refine qae hS ?_; try cbv)
    | (refine qau hS ?_; intro _ _; try cbv)
    | (refine qcf hS ?_; try cbv)
    | (refine And.intro rfl ?_; try cbv)
    | (refine full_u hS (.v rfl hF hm) hb fun n1 hn1 => ?_; cbv)
    | fail)
  all_goals first | refine qwd ?_ | refine qkl ?_ | refine qca ?_
  all_goals (rw [← ht]; simp only [← hS, Int.ofNat_eq_natCast, cr, rightL, decide_eq_true_eq, decide_eq_false_iff_not, decide_eq_decide] at *; omega)
theorem rright_f {mx : Int} {l : List Fd} {t : Bool} (ht : rightL mx l = t) (hb : fullL l ≤ 100000000) : (S0 Tryd.prog).call 27 [tabV mx l] [] (fun y _ => Sub y (.b t)) := by
  generalize hF : cellsF l = F
  obtain ⟨m, hm⟩ : ∃ m, m = ilen l := ⟨_, rfl⟩
  unfold tabV
  rw [hF, ← hm]
  generalize hS : S0 Tryd.prog = S
  refine qac hS I.qkh ?_
  cbv
  refine qam hS rfl I.qhf (by decide +kernel) ?_
  cbv
  repeat' (first
    | (refine s_st hS ?_; try cbv)
    | (refine qab hS ?_ ?_ <;> intro h <;> (try cbv) <;> try exact s_ab h)
    | (refine qah hS ?_; intro _ _; try cbv)
    | (refine qae hS ?_; try cbv)
    | (refine qau hS ?_; intro _ _; try cbv)
    | (refine qcf hS ?_; try cbv)
    | (refine And.intro rfl ?_; try cbv)
    | (refine rfull_u hS (.v rfl hF hm) hb fun n1 hn1 => ?_; cbv)
    | fail)
  all_goals first | refine qwd ?_ | refine qkl ?_ | refine qca ?_
  all_goals (rw [← ht]; simp only [← hS, Int.ofNat_eq_natCast, cr, rightL, decide_eq_true_eq, decide_eq_false_iff_not, decide_eq_decide] at *; omega)
section
variable {S : Sy} {bl : List Blk} {K : SV → List Blk → Prop} {cs : List SV} {mx : Int} {l : List Fd}
theorem right_u (hS : S0 Tryd.prog = S) (hc : TabC bl cs mx l) (h : fullL l ≤ 100000000) (h1 : rightL mx l = true → K .tt bl) (h2 : rightL mx l = false → K .ff bl) : S.call 26 [.ag cs] bl K := by
  refine qcb hS (qcn (right_f rfl h)) hc.fz rfl (by cases rightL mx l <;> rfl) ?_
  cases hr : rightL mx l
  · exact h2 hr
  · exact h1 hr
theorem rright_u (hS : S0 Tryd.prog = S) (hc : TabC bl cs mx l) (h : fullL l ≤ 100000000) (h1 : rightL mx l = true → K .tt bl) (h2 : rightL mx l = false → K .ff bl) : S.call 27 [.ag cs] bl K := by
  refine qcb hS (qcn (rright_f rfl h)) hc.fz rfl (by cases rightL mx l <;> rfl) ?_
  cases hr : rightL mx l
  · exact h2 hr
  · exact h1 hr
end
theorem tabS {cs : List SV} {mx e : Int} {l : List Fd} {z : Z} (hc : TabC [] cs mx l) (he : z.v = e) : Sub (.tp [.ag cs, .i .i64 z]) (.tp [tabV mx l, .i .i64 (.y e)]) := by
  match hc.sub with
  | .cons h1 _ => exact qas (.cons h1 (.cons (qag he) .nil))
theorem qgx {bl : List Blk} {cs : List SV} {mx e n : Int} {l : List Fd} {F : List SV} {z : Z} (hF : cellsF l = F) (hn : n = ilen l) (he : z.v = e) (hc : TabC bl cs mx l) : Tell (.tp [.ag [.i .i64 (.y mx), .v false 2 F (.y n)], .i .i64 (.y e)]) (.tp [.ag cs, .i .i64 z]) bl := by
  subst hF hn
  exact fun g => match hc.fz (g := g) with
    | .cons h1 _ => .tp (.cons h1 (.cons (.sub (qag he) rfl) .nil))
    | .fsub h hp => by simp [tabV, plains, plainV] at hp
theorem tell_ag {bl : List Blk} {cs : List SV} {mx n : Int} {l : List Fd} {F : List SV} (hF : cellsF l = F) (hn : n = ilen l) (hc : TabC bl cs mx l) : Tell (.ag [.i .i64 (.y mx), .v false 2 F (.y n)]) (.ag cs) bl := by
  subst hF hn
  exact fun g => match hc.fz (g := g) with
    | .cons h1 _ => h1
    | .fsub h hp => by simp [tabV, plains, plainV] at hp
theorem new_f {most mx e : Int} {l : List Fd} (hr : newR most = ((mx, l), e)) : (S0 Tryd.prog).call 19 [.i .i64 (.y most)] [] (fun y _ => Sub y (.tp [tabV mx l, .i .i64 (.y e)])) := by
  unfold newR at hr
  generalize hS : S0 Tryd.prog = S
  refine qac hS I.qzaaz ?_
  cbv
  repeat' (first
    | (refine s_st hS ?_; try cbv)
    | (refine qab hS ?_ ?_ <;> intro h <;> (try cbv) <;> try exact s_ab h)
    | (refine qah hS ?_; intro _ _; try cbv)
    | (refine qae hS ?_; try cbv)
    | (refine qau hS ?_; intro _ _; try cbv)
    | (refine qcf hS ?_; try cbv)
    | fail)
  all_goals first
    | (rw [if_pos (by omega)] at hr; cases hr; exact tabS (.nil rfl) rfl)
    | (rw [if_neg (by omega)] at hr; cases hr; exact tabS (.nil rfl) rfl)
section
variable {S : Sy} {bl : List Blk} {K : SV → List Blk → Prop}
theorem new_u (hS : S0 Tryd.prog = S) {most : Z} (h1 : most.v < 0 ∨ 4096 < most.v → K (.tp [.ag [.i .i64 (.y 0), .v false 2 [] (.y 0)], .i .i64 (.l 2)]) bl) (h2 : 0 ≤ most.v → most.v ≤ 4096 → K (.tp [.ag [.i .i64 (.y most.v), .v false 2 [] (.y 0)], .i .i64 (.l 0)]) bl) :
    S.call 19 [.i .i64 most] bl K := by
  by_cases h : most.v < 0 ∨ 4096 < most.v
  · exact qbe hS (sv := .tp [.ag [.i .i64 (.y 0), .v false 2 [] (.y 0)], .i .i64 (.l 2)]) (qat (new_f (most := most.v) (by unfold newR; rw [if_pos h])) fun x _ hx => ⟨x, .rfl, hx.trans (qas (.cons .rfl (.cons (qag rfl) .nil)))⟩) (.cons (qag rfl) .nil) rfl rfl (h1 h)
  · exact qbe hS (sv := .tp [.ag [.i .i64 (.y most.v), .v false 2 [] (.y 0)], .i .i64 (.l 0)]) (qat (new_f (most := most.v) (by unfold newR; rw [if_neg h])) fun x _ hx => ⟨x, .rfl, hx.trans (qas (.cons .rfl (.cons (qag rfl) .nil)))⟩) (.cons (qag rfl) .nil) rfl rfl (h2 (by omega) (by omega))
end
theorem first2 : ∀ i, i < 2 → ([some 0, some 1] : List (Option Nat))[i]? = some (some i)
  | 0, _ => rfl
  | 1, _ => rfl
  | n + 2, h => by omega
theorem ev_pos {mx k : Int} {l : List Fd} (h0 : 0 ≤ mx) (h : mx < fullL (l.take k.toNat)) : 1 ≤ k := by
  rcases Int.lt_or_le k 1 with h1 | h1
  · rw [show k.toNat = 0 by omega] at h
    simp [fullL] at h
    omega
  · exact h1
theorem ev_end {mx k m e : Int} {l : List Fd} (hm : m = ilen l) (he : e = ilen (evL mx l)) (k0 : 0 ≤ k) (k1 : k ≤ m) (kev : evN mx l m.toNat = evN mx l k.toNat) (h : ¬mx < fullL (l.take k.toNat)) : k = e := by
  have h1 : evN mx l k.toNat = k.toNat := qyc (by omega)
  have h2 : m.toNat = l.length := by rw [hm]; unfold ilen; omega
  rw [he]
  unfold evL
  rw [← h2, kev, h1]
  unfold ilen at *
  rw [List.length_take]
  omega
theorem qzacw {mx k r : Int} {l : List Fd} {m : Int} (hr : r = k - 1) (k1 : 1 ≤ k) (kev : evN mx l m.toNat = evN mx l k.toNat) (h : mx < fullL (l.take k.toNat)) : evN mx l m.toNat = evN mx l r.toNat := by
  rw [kev, show k.toNat = r.toNat + 1 by omega]
  exact evN_next (by rw [show r.toNat + 1 = k.toNat by omega]; omega)
theorem evict_f {mx : Int} {l : List Fd} {F : List SV} {st : Int} (hF : cellsF l = F) (h0 : 0 ≤ mx) (hb : fullL l ≤ 100000000) :
    (S0 Tryd.prog).call 56 [.p 0 0] [.c [.i .i64 (.y mx), .sl 1 2 (.l 0) (.y (ilen l)) none], .r false false (.y st) 2 F]
      (PostB 2 (fun _ g => [.c [.i .i64 (.y mx), .sl (g 1) 2 (.l 0) (.y (ilen (evL mx l))) none], .r false false (.y st) 2 F]) (fun _ => .any)) := by
  obtain ⟨m, hm⟩ : ∃ m, m = ilen l := ⟨_, rfl⟩
  obtain ⟨e, he⟩ : ∃ e, e = ilen (evL mx l) := ⟨_, rfl⟩
  have hm0 := qai l
  have hlen := qck l
  have hpl := qcu l
  rw [hF] at hpl
  rw [← hm, ← he]
  generalize hS : S0 Tryd.prog = S
  have fin : ∀ k : Int, k = e → PostB 2 (fun _ g => [.c [.i .i64 (.y mx), .sl (g 1) 2 (.l 0) (.y e) none], .r false false (.y st) 2 F]) (fun _ => .any) (.tp []) [.c [.i .i64 (.y mx), .sl 1 2 (.l 0) (.y k) none], .r false false (.y st) 2 F] := by
    rintro k rfl
    exact ⟨[some 0, some 1], fun _ => 0, first2, fun g => ⟨⟨⟨_, rfl, rfl, .c (.cons (.sub .rfl rfl) (.cons (.keep (i := 1) rfl rfl rfl) .nil))⟩, rfl, ⟨_, rfl, rfl, .r .rfl hpl rfl⟩, rfl, trivial⟩, .sub qdg rfl⟩⟩
  refine qac hS I.quk ?_
  cbv
  refine full_u hS (.row rfl rfl hF (l := l) (by simp [Z.v, hm, ilen]) (by simp [Z.v, hm])) hb fun f hf0 => ?_
  cbv
  have hf : f = fullL (l.take m.toNat) := by rw [hf0, qbt (by omega)]
  repeat' (first
    | (refine s_st hS ?_; try cbv)
    | (refine qab hS ?_ ?_ <;> intro h <;> (try cbv) <;> try exact s_ab h)
    | (refine qah hS ?_; intro _ _; try cbv)
    | (refine qae hS ?_; try cbv)
    | (refine qau hS ?_; intro _ _; try cbv)
    | (refine qcf hS ?_; try cbv)
    | fail)
  · have k1 := ev_pos h0 (hf ▸ h)
    rename_i r hr
    obtain ⟨⟨a, b⟩, hp⟩ := qfh (l := l) (i := r) (by omega) (by omega)
    have hnx := qeu hp (by omega)
    rw [show r + 1 = m by omega, ← hf] at hnx
    have hn0 := qfo (l.take r.toNat)
    have hsp := qgy (a, b)
    repeat' (first
      | (refine s_st hS ?_; try cbv)
      | (refine qab hS ?_ ?_ <;> intro h <;> (try cbv) <;> try exact s_ab h)
      | (refine qah hS ?_; intro _ _; try cbv)
      | (refine qae hS ?_; try cbv)
      | (refine qau hS ?_; intro _ _; try cbv)
      | (refine qcf hS ?_; try cbv)
      | (refine rowF hS hF hp (by omega) ?_; cbv)
      | (refine size_u hS (by omega) fun n1 hn1 => ?_; cbv)
      | fail)
    rename_i f2 hf2
    refine qzs hS 2 [1, 3, 4, 5, 6, 7, 8, 9, 10, 11, 12, 13, 14, 15, 16, 17, 18, 19, 20, 21, 22, 23, 24, 25, 26, 27, 28, 29, 30, 31, 32, 33, 34, 35, 36, 37, 38]
      (fun x : Int × Int => 0 ≤ x.1 ∧ x.1 ≤ m ∧ x.2 = fullL (l.take x.1.toNat) ∧ evN mx l m.toNat = evN mx l x.1.toNat)
      (fun x => [(2, .i .i64 (.y x.2))]) (fun x => [(0, .c [.i .i64 (.y mx), .sl 1 2 (.l 0) (.y x.1) none])]) (fun x => x.1.toNat) (r, f2) rfl rfl
      ⟨⟨by dsimp only; omega, by dsimp only; omega, by dsimp only; omega, qzacw hr k1 rfl (hf ▸ h)⟩, rfl, ?_, ?_, by cbv⟩ ?_
    · cbv; all_goals exact s_sA
    · cbv; all_goals exact s_bA
    intro x
    obtain ⟨k, g⟩ := x
    intro hx
    dsimp only at hx
    cbv
    obtain ⟨j0, j1, j2, j3⟩ := hx
    repeat' (first
      | (refine s_st hS ?_; try cbv)
      | (refine qab hS ?_ ?_ <;> intro h <;> (try cbv) <;> try exact s_ab h)
      | (refine qah hS ?_; intro _ _; try cbv)
      | (refine qae hS ?_; try cbv)
      | (refine qau hS ?_; intro _ _; try cbv)
      | (refine qcf hS ?_; try cbv)
      | fail)
    · have k1 := ev_pos h0 (j2 ▸ h)
      rename_i r2 hr2
      obtain ⟨⟨a2, b2⟩, hp2⟩ := qfh (l := l) (i := r2) (by omega) (by omega)
      have hnx2 := qeu hp2 (by omega)
      rw [show r2 + 1 = k by omega, ← j2] at hnx2
      have hn02 := qfo (l.take r2.toNat)
      have hsp2 := qgy (a2, b2)
      have hgf := qdo l k.toNat
      rw [← j2] at hgf
      repeat' (first
        | (refine s_st hS ?_; try cbv)
        | (refine qab hS ?_ ?_ <;> intro h <;> (try cbv) <;> try exact s_ab h)
        | (refine qah hS ?_; intro _ _; try cbv)
        | (refine qae hS ?_; try cbv)
        | (refine qau hS ?_; intro _ _; try cbv)
        | (refine qcf hS ?_; try cbv)
        | (refine rowF hS hF hp2 (by omega) ?_; cbv)
        | (refine size_u hS (by omega) fun n2 hn2 => ?_; cbv)
        | fail)
      rename_i f3 hf3
      refine ⟨(r2, f3), by dsimp only; omega, ⟨by dsimp only; omega, by dsimp only; omega, by dsimp only; omega, qzacw hr2 k1 j3 (j2 ▸ h)⟩, rfl, ?_, ?_, by cbv⟩
      · cbv; all_goals exact s_sA
      · cbv; all_goals exact s_bA
    · exact fin _ (ev_end hm he j0 j1 j3 (by rw [← j2]; exact h))
  · exact fin _ (ev_end hm he (by omega) (by omega) rfl (by rw [← hf]; exact h))
section
variable {S : Sy} {bl : List Blk} {K : SV → List Blk → Prop}
theorem evict_u (hS : S0 Tryd.prog = S) {p k : Nat} {z n : Z} {mx : Int} {l : List Fd} {lit : Bool} {st : Z} {F : List SV} (hF : cellsF l = F) (h0 : 0 ≤ mx) (hb : fullL l ≤ 100000000)
    (hK : ∀ e, e = ilen (evL mx l) → K .any (lset (lset bl p (.c [.i .i64 (.y mx), .sl k 2 (.l 0) (.y e) none])) k (.r false false (.y st.v) 2 F)))
    (hp : lget bl p = .c [.i .i64 z, .sl k 2 (.l 0) n none] := by rfl) (hk : lget bl k = .r false lit st 2 F := by rfl) (hne : nodupN [p, k] = true := by rfl) (hz : z.v = mx := by rfl) (hn : n.v = ilen l := by first | assumption | (simp only [Z.v]; omega)) : S.call 56 [.p p 0] bl K := by
  refine use_box hS [p, k] (evict_f (st := st.v) hF h0 hb) rfl hne .rfl ⟨?_, ?_, trivial⟩ rfl fun sts => hK _ rfl
  · simp only [fOf, hp]
    exact .c (.cons (qag hz) (.cons (qcm rfl (by simpa [Z.v] using hn)) .nil)) rfl
  · simp only [fOf, hk]
    exact .r .rfl (hF ▸ qcu l) rfl
end
end Tb
end Cz
namespace Cz
open Go Go.RowKit Go.Proofs
namespace Tb
theorem clone_f {l : List Fd} {F : List SV} {n : Int} (hF : cellsF l = F) (hn : n = ilen l) (hb : n ≤ 100000000) : (S0 Tryd.prog).call 58 [.v false 2 F (.y n)] [] (Kept [(2, F)] (fun m => .sl m 2 (.l 0) (.y n) none)) := by
  have hpl : plains F = true := hF ▸ qcu l
  have hlen : (ilen F : Int) = n * 2 := by rw [← hF, hn]; have := qgs l; unfold ilen; omega
  have h0 := qai l
  generalize hS : S0 Tryd.prog = S
  refine qac hS I.qff ?_
  cbv
  refine s_nil hS (fun h => ?_) ?_
  · cbv
    have : F = [] := by rw [← hF, List.eq_nil_of_length_eq_zero (l := l) (by unfold ilen at hn; omega)]; rfl
    exact ⟨[none], ⟨this, trivial⟩, fun m => .nilk (i := 0) rfl rfl h⟩
  · cbv
    repeat' (first
      | (refine s_st hS ?_; try cbv)
      | (refine qab hS ?_ ?_ <;> intro h <;> (try cbv) <;> try exact s_ab h)
      | (refine qah hS ?_; intro _ _; try cbv)
      | (refine qae hS ?_; try cbv)
      | (refine qau hS ?_; intro _ _; try cbv)
      | (refine qcf hS ?_; try cbv)
      | fail)
    refine ⟨[some 0], ⟨⟨_, _, _, rfl, ?_⟩, rfl, trivial⟩, fun m => .keep (i := 0) rfl rfl ?_⟩
    · subst hS; exact .rfl
    · rfl
section
variable {S : Sy} {bl : List Blk} {K : SV → List Blk → Prop}
theorem clone_u (hS : S0 Tryd.prog = S) {x : SV} {l : List Fd} {n : Int} {F : List SV} (hx : SubL [x] [.v false 2 F (.y n)]) (hF : cellsF l = F) (hn : n = ilen l) (hb : n ≤ 100000000)
    (hK : ∀ st, K (.sl (len bl) 2 (.l 0) (.y n) none) (snoc bl (.r false false (.y st) 2 F))) : S.call 58 [x] bl K :=
  use_kept hS (clone_f hF hn hb) hx rfl ⟨⟨by decide, hF ▸ qcu l⟩, trivial⟩ fun sts => hK _
end
theorem qyd (mx : Int) (l : List Fd) : evL mx l = l.take (ilen (evL mx l)).toNat := by
  have := evN_le mx l l.length
  have h : (ilen (evL mx l)).toNat = evN mx l l.length := by unfold ilen evL; rw [List.length_take]; omega
  rw [h]; rfl
def tabE (mx : Int) (l : List Fd) (e : Int) : SV := .tp [tabV mx l, .i .i64 (.y e)]
theorem res_f {mx most mx' e : Int} {l l' : List Fd} (hr : resR (mx, l) most = ((mx', l'), e)) (hb : fullL l ≤ 100000000) :
    (S0 Tryd.prog).call 30 [tabV mx l, .i .i64 (.y most)] [] (Tell (tabE mx' l' e)) := by
  generalize hF : cellsF l = F
  obtain ⟨m, hm⟩ : ∃ m, m = ilen l := ⟨_, rfl⟩
  have hlen := qck l
  have hm0 := qai l
  unfold tabE tabV
  generalize hF' : cellsF l' = F'
  obtain ⟨m', hm'⟩ : ∃ m, m = ilen l' := ⟨_, rfl⟩
  rw [hF, ← hm, ← hm']
  unfold resR at hr
  dsimp only at hr
  generalize hS : S0 Tryd.prog = S
  refine qac hS I.qst ?_
  cbv
  refine new_u hS (fun h1 => ?_) (fun h1 h2 => ?_) <;> cbv <;> dsimp only [Z.v] at *
  · rw [if_neg (by intro h; omega)] at hr
    cases hr
    exact qgx hF' hm' rfl (.nil rfl)
  · refine right_u hS (.v rfl hF hm) hb (fun h3 => ?_) (fun h3 => ?_) <;> cbv <;> dsimp only [Z.v] at *
    · rw [if_pos ⟨h3, h1, h2⟩] at hr
      refine clone_u hS .rfl hF hm (by omega) fun st => ?_
      cbv
      refine evict_u hS (mx := most) hF h1 hb fun n1 hn1 => ?_
      cbv
      cases hr
      refine qgx hF' hm' rfl (.row rfl rfl hF ?_ hn1)
      dsimp only [Z.v]
      rw [hn1]; exact qyd _ _
    · rw [if_neg (by intro h; rw [h.1] at h3; cases h3)] at hr
      cases hr
      exact qgx hF' hm' rfl (.nil rfl)
theorem add_f {mx mx' e : Int} {l l' : List Fd} {a b : List UInt8} (hr : addR (mx, l) (a, b) = ((mx', l'), e)) (hb : fullL l ≤ 10000000) (hs : szF (a, b) ≤ 10000000) :
    (S0 Tryd.prog).call 28 [tabV mx l, .ag [.s a, .s b]] [] (Tell (tabE mx' l' e)) := by
  generalize hF : cellsF l = F
  obtain ⟨m, hm⟩ : ∃ m, m = ilen l := ⟨_, rfl⟩
  have hlen := qck l
  have hm0 := qai l
  have hfl : ilen F = m * 2 := by rw [← hF, hm]; have := qgs l; unfold ilen; omega
  unfold tabE tabV
  generalize hF' : cellsF l' = F'
  obtain ⟨m', hm'⟩ : ∃ m, m = ilen l' := ⟨_, rfl⟩
  rw [hF, ← hm, ← hm']
  unfold addR at hr
  dsimp only at hr
  generalize hS : S0 Tryd.prog = S
  refine qac hS I.qzaba ?_
  cbv
  refine right_u hS (.v rfl hF hm) (by omega) (fun h3 => ?_) (fun h3 => ?_) <;> cbv <;> dsimp only [Z.v] at *
  · have hmx : 0 ≤ mx := by unfold rightL at h3; have := of_decide_eq_true h3; omega
    rw [if_pos h3] at hr
    repeat' (first
      | (refine s_st hS ?_; try cbv)
      | (refine qab hS ?_ ?_ <;> intro h <;> (try cbv) <;> try exact s_ab h)
      | (refine qah hS ?_; intro _ _; try cbv)
      | (refine qae hS ?_; try cbv)
      | (refine qau hS ?_; intro _ _; try cbv)
      | (refine qcf hS ?_; try cbv)
      | fail)
    have e1 : S.app [.s a, .s b] F = cellsF ((a, b) :: l) := by subst hS; rw [← hF]; rfl
    have e2 : S.pl 1 m = ilen ((a, b) :: l) := by subst hS; rw [hm]; simp only [pl_eq]; simp [ilen]; omega
    have e3 : fullL ((a, b) :: l) = szF (a, b) + fullL l := rfl
    refine evict_u hS (mx := mx) (l := (a, b) :: l) e1.symm hmx (by omega) fun n1 hn1 => ?_
    cbv
    cases hr
    refine qgx hF' hm' rfl (.row rfl rfl e1.symm ?_ hn1)
    dsimp only [Z.v]
    rw [hn1]; exact qyd _ _
  · rw [if_neg (by rw [h3]; simp)] at hr
    cases hr
    exact qgx hF' hm' rfl (.nil rfl)
theorem evicted_f {mx : Int} {l : List Fd} (h0 : 0 ≤ mx) (hb : fullL l ≤ 10000000) : (S0 Tryd.prog).call 57 [tabV mx l] [] (Tell (tabV mx (evL mx l))) := by
  generalize hF : cellsF l = F
  obtain ⟨m, hm⟩ : ∃ m, m = ilen l := ⟨_, rfl⟩
  obtain ⟨e, he⟩ : ∃ e, e = ilen (evL mx l) := ⟨_, rfl⟩
  have hlen := qck l
  have hm0 := qai l
  have hpl := qcu l
  have hfl : ilen F = m * 2 := by rw [← hF, hm]; have := qgs l; unfold ilen; omega
  unfold tabV
  generalize hF' : cellsF (evL mx l) = F'
  rw [hF, ← hm, ← he]
  rw [hF] at hpl
  generalize hS : S0 Tryd.prog = S
  refine qac hS I.qhx ?_
  cbv
  repeat' (first
    | (refine s_st hS ?_; try cbv)
    | (refine qab hS ?_ ?_ <;> intro h <;> (try cbv) <;> try exact s_ab h)
    | (refine qah hS ?_; intro _ _; try cbv)
    | (refine qae hS ?_; try cbv)
    | (refine qau hS ?_; intro _ _; try cbv)
    | (refine qcf hS ?_; try cbv)
    | fail)
  have e1 : S.app [] F = F := by subst hS; rfl
  refine qaz hS 3 I.qfg (fun x : Int => 0 ≤ x ∧ x ≤ m ∧ evN mx l m.toNat = evN mx l x.toNat) (fun _ => []) (fun x => [(0, .c [.i .i64 (.y mx), .sl 2 2 (.l 0) (.y x) none]), (2, .r false false (.y (S.flen [])) 2 F)]) (fun x => x.toNat) m rfl
    ⟨⟨by omega, by omega, rfl⟩, rfl, ?_, ?_, by cbv⟩ ?_
  · cbv; all_goals exact s_sA
  · cbv
    exact ⟨.rfl, .rfl, .r (by subst hS; exact .rfl) rfl hpl, trivial⟩
  intro k hk
  cbv
  obtain ⟨k0, k1, k2⟩ := hk
  have hft := qdo l k.toNat
  refine qam hS rfl I.qfr (by decide +kernel) ?_
  cbv
  repeat' (first
    | (refine s_st hS ?_; try cbv)
    | (refine qab hS ?_ ?_ <;> intro h <;> (try cbv) <;> try exact s_ab h)
    | (refine qah hS ?_; intro _ _; try cbv)
    | (refine qae hS ?_; try cbv)
    | (refine qau hS ?_; intro _ _; try cbv)
    | (refine qcf hS ?_; try cbv)
    | (refine And.intro rfl ?_; try cbv)
    | (refine rfull_u hS (mx := mx) (l := l.take k.toNat) (.row rfl rfl hF rfl (by simp only [Z.v, ilen, List.length_take]; unfold ilen at hm; omega)) (by omega) fun f hf => ?_; cbv)
    | fail)
  · have kp := ev_pos h0 (hf ▸ h)
    rename_i r hr
    repeat' (first
      | (refine s_st hS ?_; try cbv)
      | (refine qab hS ?_ ?_ <;> intro h <;> (try cbv) <;> try exact s_ab h)
      | (refine qah hS ?_; intro _ _; try cbv)
      | (refine qae hS ?_; try cbv)
      | (refine qau hS ?_; intro _ _; try cbv)
      | (refine qcf hS ?_; try cbv)
      | fail)
    refine ⟨r, by omega, ⟨by omega, by omega, qzacw hr kp k2 (hf ▸ h)⟩, rfl, ?_, ?_, by cbv⟩
    · cbv; all_goals exact s_sA
    · cbv; all_goals exact s_bA
  · have hke : k = e := ev_end hm he k0 k1 k2 (hf ▸ h)
    refine tell_ag hF' he (.row rfl rfl hF ?_ (by dsimp only [Z.v]; rw [hke, he]))
    dsimp only [Z.v]
    rw [hke, he]; exact qyd _ _
section
variable {S : Sy} {bl : List Blk} {K : SV → List Blk → Prop} {cs : List SV} {mx : Int} {l : List Fd}
theorem evicted_r (hS : S0 Tryd.prog = S) {z n st : Z} {k : Nat} {lit : Bool} {cap : Option Z} {F : List SV} (hz : z.v = mx) (hF : cellsF l = F) (hn : n.v = ilen l) (h0 : 0 ≤ mx) (hb : fullL l ≤ 10000000)
    (hK : ∀ F n, cellsF (evL mx l) = F → n = ilen (evL mx l) → K (.ag [.i .i64 (.y mx), .v false 2 F (.y n)]) (frzL [k] 0 bl)) (hB : lget bl k = .r false lit st 2 F := by rfl) (hk : kpOf (others [k] (len bl)) k = none := by rfl) :
    S.call 57 [.ag [.i .i64 z, .sl k 2 (.l 0) n cap]] bl K := by
  refine use_frz hS [k] (rows := []) (y := fun _ => tabV mx (evL mx l)) (qat (evicted_f (l := l) h0 hb) fun x l' h => ⟨x, .rfl, [], trivial, fun m => h _⟩) ?_ rfl trivial (fun _ => hK _ _ rfl rfl)
  refine .cons (.ag (.cons (.sub (qag hz) rfl) (.cons ?_ .nil))) .nil
  have := qnz (l' := bl) (g := id) (cap := cap) (lit' := false) (len := n) (n := .y (ilen l)) (m := l.length) (qaq hB (by simp)) hk hF.symm hn hn
  rwa [List.take_length] at this
end
theorem radd_f {mx mx' e : Int} {l l' : List Fd} {a b : List UInt8} (hr : addR (mx, l) (a, b) = ((mx', l'), e)) (hb : fullL l ≤ 1000000) (hs : szF (a, b) ≤ 1000000) :
    (S0 Tryd.prog).call 29 [tabV mx l, .ag [.s a, .s b]] [] (Tell (tabE mx' l' e)) := by
  generalize hF : cellsF l = F
  obtain ⟨m, hm⟩ : ∃ m, m = ilen l := ⟨_, rfl⟩
  have hlen := qck l
  have hm0 := qai l
  have hfl : ilen F = m * 2 := by rw [← hF, hm]; have := qgs l; unfold ilen; omega
  unfold tabE tabV
  generalize hF' : cellsF l' = F'
  obtain ⟨m', hm'⟩ : ∃ m, m = ilen l' := ⟨_, rfl⟩
  rw [hF, ← hm, ← hm']
  unfold addR at hr
  dsimp only at hr
  generalize hS : S0 Tryd.prog = S
  refine qac hS I.qne ?_
  cbv
  refine rright_u hS (.v rfl hF hm) (by omega) (fun h3 => ?_) (fun h3 => ?_) <;> cbv <;> dsimp only [Z.v] at *
  · have hmx : 0 ≤ mx := by unfold rightL at h3; have := of_decide_eq_true h3; omega
    rw [if_pos h3] at hr
    repeat' (first
      | (refine s_st hS ?_; try cbv)
      | (refine qab hS ?_ ?_ <;> intro h <;> (try cbv) <;> try exact s_ab h)
      | (refine qah hS ?_; intro _ _; try cbv)
      | (refine qae hS ?_; try cbv)
      | (refine qau hS ?_; intro _ _; try cbv)
      | (refine qcf hS ?_; try cbv)
      | fail)
    have e1 : S.app [.s a, .s b] F = cellsF ((a, b) :: l) := by subst hS; rw [← hF]; rfl
    have e2 : S.pl 1 m = ilen ((a, b) :: l) := by subst hS; rw [hm]; simp only [pl_eq]; simp [ilen]; omega
    have e3 : fullL ((a, b) :: l) = szF (a, b) + fullL l := rfl
    refine evicted_r hS (mx := mx) (l := (a, b) :: l) rfl e1.symm e2 hmx (by omega) fun F1 n1 hF1 hn1 => ?_
    cbv
    cases hr
    exact qgx hF' hm' rfl (.v rfl hF1 hn1)
  · rw [if_neg (by rw [h3]; simp)] at hr
    repeat' (first
      | (refine s_st hS ?_; try cbv)
      | (refine qab hS ?_ ?_ <;> intro h <;> (try cbv) <;> try exact s_ab h)
      | (refine qah hS ?_; intro _ _; try cbv)
      | (refine qae hS ?_; try cbv)
      | (refine qau hS ?_; intro _ _; try cbv)
      | (refine qcf hS ?_; try cbv)
      | fail)
    cases hr
    exact qgx hF' hm' rfl (.nil rfl)
end Tb
end Cz
namespace Cz
open Go Go.RowKit Go.Proofs
namespace Tb
theorem qzabu {l k : List Fd} {i : Int} {x y : Fd} (hx : l[i.toNat]? = some x) (hy : k[i.toNat]? = some y) (h : x ≠ y) : ¬l = k := by
  intro e; subst e; rw [hx] at hy; cases hy; exact h rfl
theorem qib {l k : List Fd} {i : Int} {x : Fd} (h0 : 0 ≤ i) (hx : l[i.toNat]? = some x) (hy : k[i.toNat]? = some x) (h : l.take i.toNat = k.take i.toNat) : l.take (i + 1).toNat = k.take (i + 1).toNat := by
  rw [qia hx h0, qia hy h0, h]
theorem fields_f {l k : List Fd} {t : Bool} (ht : decide (l = k) = t) (h1 : ilen l ≤ 100000000) (h2 : ilen k ≤ 100000000) : (S0 Tryd.prog).call 37 [.v false 2 (cellsF l) (.y (ilen l)), .v false 2 (cellsF k) (.y (ilen k))] [] (fun y _ => Sub y (.b t)) := by
  generalize hF : cellsF l = F
  generalize hG : cellsF k = G
  obtain ⟨m, hm⟩ : ∃ m, m = ilen l := ⟨_, rfl⟩
  obtain ⟨n, hn⟩ : ∃ n, n = ilen k := ⟨_, rfl⟩
  have h3 := qai l
  have h4 := qai k
  rw [← hm] at h1 h3 ⊢
  rw [← hn] at h2 h4 ⊢
  generalize hS : S0 Tryd.prog = S
  refine qac hS I.qiy ?_
  cbv
  refine qab hS ?_ ?_ <;> intro h <;> cbv
  · have e : t = false := by rw [← ht]; exact decide_eq_false (fun e => by subst e; omega)
    all_goals exact s_sA
  refine qaz hS 0 I.qfx (fun x : Int => 0 ≤ x ∧ x ≤ m ∧ l.take x.toNat = k.take x.toNat) (fun x => [(5, .i .i64 (.y x))]) (fun _ => []) (fun x => (m - x).toNat) 0 rfl
    ⟨⟨Int.le_refl _, by omega, rfl⟩, rfl, ?_, ?_, by cbv⟩ ?_
  · cbv; all_goals exact s_sA
  · cbv; all_goals exact s_bA
  intro i hx
  cbv
  obtain ⟨k0, k1, k2⟩ := hx
  refine s_br hS ?_ ?_ <;> intro h' <;> cbv <;> simp only [← hS, Int.ofNat_eq_natCast, cq, Bool.not_eq_true', Bool.not_eq_false', decide_eq_true_eq, decide_eq_false_iff_not, beq_iff_eq, beq_eq_false_iff_ne, ne_eq] at h'
  · obtain ⟨⟨a, b⟩, hp⟩ := qfh (l := l) (i := i) (by omega) k0
    obtain ⟨⟨c, d⟩, hq⟩ := qfh (l := k) (i := i) (by omega) k0
    refine qam hS rfl I.qgj (by decide +kernel) ?_
    cbv
    repeat' (first
      | (refine s_st hS ?_; try cbv)
      | (refine qab hS ?_ ?_ <;> intro h <;> (try cbv) <;> try exact s_ab h)
      | (refine qah hS ?_; intro _ _; try cbv)
      | (refine qae hS ?_; try cbv)
      | (refine qau hS ?_; intro _ _; try cbv)
      | (refine qcf hS ?_; try cbv)
      | (refine And.intro rfl ?_; try cbv)
      | (refine rowF hS hF hp (by omega) ?_; cbv)
      | (refine rowF hS hG hq (by omega) ?_; cbv)
      | fail)
    · have he : (a, b) = (c, d) := by congr
      rename_i r hr
      refine ⟨r, by omega, ⟨by omega, by omega, ?_⟩, rfl, ?_, ?_, by cbv⟩
      · rw [hr]; exact qib k0 (he ▸ hp) hq k2
      · cbv; all_goals exact s_sA
      · cbv; all_goals exact s_bA
    all_goals
      have e : t = false := by rw [← ht]; exact decide_eq_false (qzabu hp hq (by intro e; cases e; simp_all))
      all_goals exact s_sA
  · have e : t = true := by rw [← ht]; exact decide_eq_true (by rwa [qbt (by omega), qbt (by omega)] at k2)
    all_goals exact s_sA
theorem equal_f {l k : List Fd} {t : Bool} (ht : decide (l = k) = t) (h1 : ilen l ≤ 100000000) (h2 : ilen k ≤ 100000000) : (S0 Tryd.prog).call 60 [.v false 2 (cellsF l) (.y (ilen l)), .v false 2 (cellsF k) (.y (ilen k))] [] (fun y _ => Sub y (.b t)) := by
  generalize hF : cellsF l = F
  generalize hG : cellsF k = G
  obtain ⟨m, hm⟩ : ∃ m, m = ilen l := ⟨_, rfl⟩
  obtain ⟨n, hn⟩ : ∃ n, n = ilen k := ⟨_, rfl⟩
  have h3 := qai l
  have h4 := qai k
  rw [← hm] at h1 h3 ⊢
  rw [← hn] at h2 h4 ⊢
  generalize hS : S0 Tryd.prog = S
  refine qac hS I.qfe ?_
  cbv
  refine qab hS ?_ ?_ <;> intro h <;> cbv
  · have e : t = false := by rw [← ht]; exact decide_eq_false (fun e => by subst e; omega)
    all_goals exact s_sA
  refine qaz hS 0 I.qea (fun x : Int => 0 ≤ x ∧ x ≤ m ∧ l.take x.toNat = k.take x.toNat) (fun x => [(12, .i .i64 (.y m)), (13, .i .i64 (.y x))]) (fun _ => []) (fun x => (m - x).toNat) 0 rfl
    ⟨⟨Int.le_refl _, by omega, rfl⟩, rfl, ?_, ?_, by cbv⟩ ?_
  · cbv; all_goals exact s_sA
  · cbv; all_goals exact s_bA
  intro i hx
  cbv
  obtain ⟨k0, k1, k2⟩ := hx
  refine s_br hS ?_ ?_ <;> intro h' <;> cbv <;> simp only [← hS, Int.ofNat_eq_natCast, cq, Bool.not_eq_true', Bool.not_eq_false', decide_eq_true_eq, decide_eq_false_iff_not, beq_iff_eq, beq_eq_false_iff_ne, ne_eq] at h'
  · obtain ⟨⟨a, b⟩, hp⟩ := qfh (l := l) (i := i) (by omega) k0
    obtain ⟨⟨c, d⟩, hq⟩ := qfh (l := k) (i := i) (by omega) k0
    refine qam hS rfl I.qed (by decide +kernel) ?_
    cbv
    repeat' (first
      | (refine s_st hS ?_; try cbv)
      | (refine qab hS ?_ ?_ <;> intro h <;> (try cbv) <;> try exact s_ab h)
      | (refine qah hS ?_; intro _ _; try cbv)
      | (refine qae hS ?_; try cbv)
      | (refine qau hS ?_; intro _ _; try cbv)
      | (refine qcf hS ?_; try cbv)
      | (refine And.intro rfl ?_; try cbv)
      | (refine rowF hS hF hp (by omega) ?_; cbv)
      | (refine rowF hS hG hq (by omega) ?_; cbv)
      | fail)
    · have he : (a, b) = (c, d) := by congr
      rename_i r hr
      refine ⟨r, by omega, ⟨by omega, by omega, ?_⟩, rfl, ?_, ?_, by cbv⟩
      · rw [hr]; exact qib k0 (he ▸ hp) hq k2
      · cbv; all_goals exact s_sA
      · cbv; all_goals exact s_bA
    all_goals
      have e : t = false := by rw [← ht]; exact decide_eq_false (qzabu hp hq (by intro e; cases e; simp_all))
      all_goals exact s_sA
  · have e : t = true := by rw [← ht]; exact decide_eq_true (by rwa [qbt (by omega), qbt (by omega)] at k2)
    all_goals exact s_sA
section
variable {S : Sy} {bl : List Blk} {K : SV → List Blk → Prop}
theorem fields_u (hS : S0 Tryd.prog = S) {x y : SV} {l k : List Fd} (hc : FzL bl id [] [x, y] [.v false 2 (cellsF l) (.y (ilen l)), .v false 2 (cellsF k) (.y (ilen k))]) (hl : ilen l ≤ 100000000) (hk : ilen k ≤ 100000000) (h1 : l = k → K .tt bl) (h2 : l ≠ k → K .ff bl) :
    S.call 37 [x, y] bl K := by
  by_cases h : l = k
  · exact qcb hS (qcn (fields_f (decide_eq_true h) hl hk)) hc rfl rfl (h1 h)
  · exact qcb hS (qcn (fields_f (decide_eq_false h) hl hk)) hc rfl rfl (h2 h)
theorem equal_u (hS : S0 Tryd.prog = S) {x y : SV} {l k : List Fd} (hc : FzL bl id [] [x, y] [.v false 2 (cellsF l) (.y (ilen l)), .v false 2 (cellsF k) (.y (ilen k))]) (hl : ilen l ≤ 100000000) (hk : ilen k ≤ 100000000) (h1 : l = k → K .tt bl) (h2 : l ≠ k → K .ff bl) :
    S.call 60 [x, y] bl K := by
  by_cases h : l = k
  · exact qcb hS (qcn (equal_f (decide_eq_true h) hl hk)) hc rfl rfl (h1 h)
  · exact qcb hS (qcn (equal_f (decide_eq_false h) hl hk)) hc rfl rfl (h2 h)
end
end Tb
end Cz
namespace Cz
open Go Go.RowKit Go.Proofs
namespace Tb
theorem same_f {mx my : Int} {l k : List Fd} {t : Bool} (ht : decide (mx = my ∧ l = k) = t) (h1 : ilen l ≤ 100000000) (h2 : ilen k ≤ 100000000) : (S0 Tryd.prog).call 36 [tabV mx l, tabV my k] [] (fun y _ => Sub y (.b t)) := by
  unfold tabV
  generalize hF : cellsF l = F
  generalize hG : cellsF k = G
  obtain ⟨m, hm⟩ : ∃ m, m = ilen l := ⟨_, rfl⟩
  obtain ⟨n, hn⟩ : ∃ n, n = ilen k := ⟨_, rfl⟩
  rw [← hm, ← hn]
  generalize hS : S0 Tryd.prog = S
  refine qac hS I.qxt ?_
  cbv
  refine qab hS ?_ ?_ <;> intro h <;> cbv
  · refine equal_u hS (l := l) (k := k) (.cons (.sub (qbc hF.symm hm) rfl) (.cons (.sub (qbc hG.symm hn) rfl) .nil)) h1 h2 (fun he => ?_) (fun he => ?_) <;> cbv
    · have e : t = true := by rw [← ht]; exact decide_eq_true ⟨h, he⟩
      all_goals exact s_sA
    · have e : t = false := by rw [← ht]; exact decide_eq_false fun e => he e.2
      all_goals exact s_sA
  · have e : t = false := by rw [← ht]; exact decide_eq_false fun e => h e.1
    all_goals exact s_sA
theorem rsame_f {mx my : Int} {l k : List Fd} {t : Bool} (ht : decide (mx = my ∧ l = k) = t) (h1 : ilen l ≤ 100000000) (h2 : ilen k ≤ 100000000) : (S0 Tryd.prog).call 21 [tabV mx l, tabV my k] [] (fun y _ => Sub y (.b t)) := by
  unfold tabV
  generalize hF : cellsF l = F
  generalize hG : cellsF k = G
  obtain ⟨m, hm⟩ : ∃ m, m = ilen l := ⟨_, rfl⟩
  obtain ⟨n, hn⟩ : ∃ n, n = ilen k := ⟨_, rfl⟩
  rw [← hm, ← hn]
  generalize hS : S0 Tryd.prog = S
  refine qac hS I.qls ?_
  cbv
  refine qab hS ?_ ?_ <;> intro h <;> cbv
  · refine fields_u hS (l := l) (k := k) (.cons (.sub (qbc hF.symm hm) rfl) (.cons (.sub (qbc hG.symm hn) rfl) .nil)) h1 h2 (fun he => ?_) (fun he => ?_) <;> cbv
    · have e : t = true := by rw [← ht]; exact decide_eq_true ⟨h, he⟩
      all_goals exact s_sA
    · have e : t = false := by rw [← ht]; exact decide_eq_false fun e => he e.2
      all_goals exact s_sA
  · have e : t = false := by rw [← ht]; exact decide_eq_false fun e => h e.1
    all_goals exact s_sA
def shortL (l : List Fd) : Prop := ∀ f, f ∈ l → ilen f.1 ≤ 140737488355328 ∧ ilen f.2 ≤ 140737488355328
theorem full_short {l : List Fd} (h : shortL l) : fullL l ≤ 281474976710688 * ilen l := by
  induction l with
  | nil => simp [fullL, ilen]
  | cons f l ih =>
    have h1 := h f (List.mem_cons_self ..)
    have h2 := ih fun g hg => h g (List.mem_cons_of_mem _ hg)
    simp only [fullL, szF, ilen, List.length_cons] at *
    omega
section
variable {S : Sy} {bl : List Blk} {K : SV → List Blk → Prop} {cs : List SV} {mx my : Int} {l k : List Fd}
theorem fz_two {bl : List Blk} {g : Nat → Nat} {x y a b : SV} (hx : FzL bl g [] [x] [a]) (hy : FzL bl g [] [y] [b]) (ha : plainV a = false) (hb : plainV b = false) : FzL bl g [] [x, y] [a, b] := by
  cases hx with
  | cons h1 _ => cases hy with
    | cons h2 _ => exact .cons h1 (.cons h2 .nil)
    | fsub h hp => simp [plains, hb] at hp
  | fsub h hp => simp [plains, ha] at hp
theorem same_u (hS : S0 Tryd.prog = S) {cs' : List SV} (hc : TabC bl cs mx l) (hc' : TabC bl cs' my k) (hl : ilen l ≤ 100000000) (hk : ilen k ≤ 100000000) (h1 : mx = my → l = k → K .tt bl) (h2 : ¬(mx = my ∧ l = k) → K .ff bl) :
    S.call 36 [.ag cs, .ag cs'] bl K := by
  by_cases h : mx = my ∧ l = k
  · exact qcb hS (qcn (same_f (decide_eq_true h) hl hk)) (fz_two hc.fz hc'.fz rfl rfl) rfl rfl (h1 h.1 h.2)
  · exact qcb hS (qcn (same_f (decide_eq_false h) hl hk)) (fz_two hc.fz hc'.fz rfl rfl) rfl rfl (h2 h)
end
end Tb
end Cz
namespace Cz
open Go Go.RowKit Go.Proofs
namespace Tb
def statR (i : Int) : Fd × Bool := if 1 ≤ i ∧ i ≤ 20 then (stL.getD (i - 1).toNat ([], []), true) else (([], []), false)
theorem qzabz {i : Int} (h1 : 1 ≤ i) (h2 : i ≤ 20) : ∃ a b, stL[(i - 1).toNat]? = some (a, b) ∧ statR i = ((a, b), true) := by
  have h : (i - 1).toNat < stL.length := by rw [qid]; omega
  refine ⟨(stL[(i - 1).toNat]).1, (stL[(i - 1).toNat]).2, List.getElem?_eq_getElem h, ?_⟩
  unfold statR
  rw [if_pos ⟨h1, h2⟩, List.getD_eq_getElem?_getD, List.getElem?_eq_getElem h]; rfl
theorem at_stat {l : List Fd} {i : Int} {a b : List UInt8} (h : statR i = ((a, b), true)) : atR l i = ((a, b), 0) := by
  by_cases hi : 1 ≤ i ∧ i ≤ 20
  · obtain ⟨c, d, hp, hq⟩ := qzabz hi.1 hi.2
    rw [hq] at h; cases h
    unfold atR allF
    rw [if_neg (by omega), List.getElem?_append_left (by rw [qid]; omega), hp]
  · unfold statR at h; rw [if_neg hi] at h; cases h
theorem stat_no {i : Int} {a b : List UInt8} (h : statR i = ((a, b), false)) : ¬(1 ≤ i ∧ i ≤ 20) := by
  intro hi
  obtain ⟨c, d, hp, hq⟩ := qzabz hi.1 hi.2
  rw [hq] at h; cases h
theorem at_row {l : List Fd} {i : Int} (hi : 21 ≤ i) {a b : List UInt8} (hp : l[(i - 21).toNat]? = some (a, b)) : atR l i = ((a, b), 0) := by
  unfold atR allF
  rw [if_neg (by omega), List.getElem?_append_right (by rw [qid]; omega), qid, show (i - 1).toNat - 20 = (i - 21).toNat by omega, hp]
theorem qys {l : List Fd} {i : Int} (hi : i < 1 ∨ ilen l ≤ i - 21) : atR l i = (([], []), 90) := by
  unfold atR
  split
  · rfl
  · unfold allF
    unfold ilen at hi
    rw [List.getElem?_eq_none (by rw [List.length_append, qid]; omega)]
theorem rstat_f {i : Int} {a b : List UInt8} {t : Bool} (hr : statR i = ((a, b), t)) (hl : -9223372036854775808 ≤ i) : (S0 Tryd.prog).call 18 [.i .i64 (.y i)] [] (fun y _ => Sub y (.tp [.ag [.s a, .s b], .b t])) := by
  generalize hS : S0 Tryd.prog = S
  refine qac hS I.qix ?_
  cbv
  refine qab hS ?_ ?_ <;> intro h <;> cbv
  · unfold statR at hr
    rw [if_neg (by omega)] at hr
    cases hr
    repeat' (first
      | (refine s_st hS ?_; try cbv)
      | (refine qab hS ?_ ?_ <;> intro h <;> (try cbv) <;> try exact s_ab h)
      | (refine qah hS ?_; intro _ _; try cbv)
      | (refine qae hS ?_; try cbv)
      | (refine qau hS ?_; intro _ _; try cbv)
      | (refine qcf hS ?_; try cbv)
      | fail)
    all_goals exact s_sA
  · refine s_br hS ?_ ?_ <;> intro h' <;> cbv <;> simp only [← hS, Int.ofNat_eq_natCast, cq, Bool.not_eq_true', Bool.not_eq_false', decide_eq_true_eq, decide_eq_false_iff_not, beq_iff_eq, beq_eq_false_iff_ne, ne_eq] at h'
    · unfold statR at hr
      rw [if_neg (by omega)] at hr
      cases hr
      repeat' (first
        | (refine s_st hS ?_; try cbv)
        | (refine qab hS ?_ ?_ <;> intro h <;> (try cbv) <;> try exact s_ab h)
        | (refine qah hS ?_; intro _ _; try cbv)
        | (refine qae hS ?_; try cbv)
        | (refine qau hS ?_; intro _ _; try cbv)
        | (refine qcf hS ?_; try cbv)
        | fail)
      all_goals exact s_sA
    · obtain ⟨c, d, hp, hq⟩ := qzabz (i := i) (by omega) (by omega)
      rw [hq] at hr
      cases hr
      repeat' (first
        | (refine s_st hS ?_; try cbv)
        | (refine qab hS ?_ ?_ <;> intro h <;> (try cbv) <;> try exact s_ab h)
        | (refine qah hS ?_; intro _ _; try cbv)
        | (refine qae hS ?_; try cbv)
        | (refine qau hS ?_; intro _ _; try cbv)
        | (refine qcf hS ?_; try cbv)
        | fail)
      rename_i r hr
      refine rowF hS (l := stL) rfl (hr ▸ hp) (by omega) ?_
      cbv
      repeat' (first
        | (refine s_st hS ?_; try cbv)
        | (refine qab hS ?_ ?_ <;> intro h <;> (try cbv) <;> try exact s_ab h)
        | (refine qah hS ?_; intro _ _; try cbv)
        | (refine qae hS ?_; try cbv)
        | (refine qau hS ?_; intro _ _; try cbv)
        | (refine qcf hS ?_; try cbv)
        | fail)
      all_goals exact s_sA
theorem rstat_u {S : Sy} {bl : List Blk} {K : SV → List Blk → Prop} (hS : S0 Tryd.prog = S) {z : Z} (hl : -9223372036854775808 ≤ z.v) (h1 : ∀ a b, statR z.v = ((a, b), true) → K (.tp [.ag [.s a, .s b], .tt]) bl) (h2 : statR z.v = (([], []), false) → K (.tp [.ag [.s [], .s []], .ff]) bl) :
    S.call 18 [.i .i64 z] bl K := by
  cases hr : statR z.v with
  | mk f t => cases f with
    | mk a b => cases t with
      | true => exact qbe hS (qcn (rstat_f hr hl)) (.cons (qag rfl) .nil) rfl rfl (h1 a b hr)
      | false =>
        have := stat_no hr
        unfold statR at hr
        rw [if_neg this] at hr
        cases hr
        exact qbe hS (qcn (rstat_f (a := []) (b := []) (t := false) (by unfold statR; rw [if_neg this]) hl)) (.cons (qag rfl) .nil) rfl rfl (h2 (by unfold statR; rw [if_neg this]))
theorem rat_f {mx i e : Int} {l : List Fd} {a b : List UInt8} (hr : atR l i = ((a, b), e)) (hl : -9223372036854775808 ≤ i) (hu : i ≤ 9223372036854775807) (hm : ilen l ≤ 100000000) : (S0 Tryd.prog).call 33 [tabV mx l, .i .i64 (.y i)] [] (fun y _ => Sub y (.tp [.ag [.s a, .s b], .i .i64 (.y e)])) := by
  unfold tabV
  generalize hF : cellsF l = F
  obtain ⟨m, hm'⟩ : ∃ m, m = ilen l := ⟨_, rfl⟩
  have h0 := qai l
  rw [← hm'] at h0 hm ⊢
  generalize hS : S0 Tryd.prog = S
  refine qac hS I.qot ?_
  cbv
  refine rstat_u hS hl (fun c d h => ?_) (fun h => ?_) <;> dsimp only [Z.v] at h <;> cbv
  · rw [at_stat h] at hr
    cases hr
    all_goals exact s_sA
  · have hn := stat_no h
    refine qab hS ?_ ?_ <;> intro h1 <;> cbv
    · rw [qys (.inl (by omega))] at hr
      cases hr
      all_goals exact s_sA
    · repeat' (first
      | (refine s_st hS ?_; try cbv)
      | (refine qab hS ?_ ?_ <;> intro h <;> (try cbv) <;> try exact s_ab h)
      | (refine qah hS ?_; intro _ _; try cbv)
      | (refine qae hS ?_; try cbv)
      | (refine qau hS ?_; intro _ _; try cbv)
      | (refine qcf hS ?_; try cbv)
      | fail)
      · rename_i r hr'
        rw [qys (.inr (by omega))] at hr
        cases hr
        all_goals exact s_sA
      · rename_i r hr'
        obtain ⟨⟨c, d⟩, hp⟩ := qfh (l := l) (i := i - 21) (by omega) (by omega)
        rw [at_row (by omega) hp] at hr
        cases hr
        repeat' (first
          | (refine s_st hS ?_; try cbv)
          | (refine qab hS ?_ ?_ <;> intro h <;> (try cbv) <;> try exact s_ab h)
          | (refine qah hS ?_; intro _ _; try cbv)
          | (refine qae hS ?_; try cbv)
          | (refine qau hS ?_; intro _ _; try cbv)
          | (refine qcf hS ?_; try cbv)
          | fail)
        rename_i q hq
        refine rowF hS hF (show l[r.toNat]? = some (a, b) by rw [hr']; exact hp) (by omega) ?_
        cbv
        repeat' (first
          | (refine s_st hS ?_; try cbv)
          | (refine qab hS ?_ ?_ <;> intro h <;> (try cbv) <;> try exact s_ab h)
          | (refine qah hS ?_; intro _ _; try cbv)
          | (refine qae hS ?_; try cbv)
          | (refine qau hS ?_; intro _ _; try cbv)
          | (refine qcf hS ?_; try cbv)
          | fail)
        all_goals exact s_sA
theorem TabC.fzi {bl : List Blk} {cs : List SV} {mx : Int} {l : List Fd} (h : TabC bl cs mx l) {g : Nat → Nat} {x y : SV} (hx : Sub x y) (hr : refsB (fun _ => false) x = true) : FzL bl g [] [.ag cs, x] [tabV mx l, y] := by
  have h1 := h.fz (g := g)
  cases h1 with
  | cons h1 _ => exact .cons h1 (.cons (.sub hx hr) .nil)
  | fsub h hp => simp [tabV, plains, plainV] at hp
end Tb
end Cz
namespace Cz
open Go Go.RowKit Go.Proofs
namespace Tb
theorem bidx_u {S : Sy} (hS : S0 Tryd.prog = S) {l : List Blk} {K : SV → List Blk → Prop} {x : List UInt8} {z : Z} {T : Int} (hT : idxI x z.v = T) (h : K (.i .i64 (.y T)) l) : S.call 116 [.s x, .i .u8 z] l K := by
  refine qbe hS (sv := .i .i64 (.y T)) (args' := [.s x, .i .u8 (.y z.v)]) ?_ (.cons .rfl (.cons (qag rfl) .nil)) rfl rfl h
  generalize hS : S0 Tryd.prog = S
  refine qac hS I.qdl ?_
  cbv
  refine qbe hS (idx_f x z.v) .rfl rfl rfl ?_
  rw [hT]
  cbv
  exact .rfl
theorem lidx_f (x : List UInt8) (c : UInt8) (hx : ilen x ≤ 140737488355328) : (S0 Tryd.prog).call 108 [.s x, .s [c]] [] (fun y _ => Sub y (.i .i64 (.y (idxI x c.toNat)))) := by
  generalize hT : idxI x c.toNat = T
  generalize hS : S0 Tryd.prog = S
  have h2 : S.sat [c] 0 = c.toNat := by subst hS; rfl
  refine qac hS I.qke ?_
  cbv
  refine qab hS ?_ ?_ <;> intro h <;> cbv
  · exfalso; simp at h
  refine qab hS ?_ ?_ <;> intro h <;> cbv
  · refine qag ?_
    rw [← h] at hT
    simp [idxI] at hT
    exact hT
  refine qab hS ?_ ?_ <;> intro h <;> cbv
  · repeat' (first
    | (refine s_st hS ?_; try cbv)
    | (refine qab hS ?_ ?_ <;> intro h <;> (try cbv) <;> try exact s_ab h)
    | (refine qah hS ?_; intro _ _; try cbv)
    | (refine qae hS ?_; try cbv)
    | (refine qau hS ?_; intro _ _; try cbv)
    | (refine qcf hS ?_; try cbv)
    | fail)
    refine bidx_u hS (T := T) (by rw [← hT]; exact congrArg (idxI x) h2) ?_
    cbv
    all_goals exact s_sA
  · exfalso; simp at h
theorem lidx_u {S : Sy} (hS : S0 Tryd.prog = S) {l : List Blk} {K : SV → List Blk → Prop} {x : List UInt8} {c : UInt8} {T : Int} (hx : ilen x ≤ 140737488355328) (hT : idxI x c.toNat = T) (h : K (.i .i64 (.y T)) l) : S.call 108 [.s x, .s [c]] l K := by
  subst hT
  exact qbe hS (lidx_f x c hx) .rfl rfl rfl h
theorem sidx_u {S : Sy} (hS : S0 Tryd.prog = S) {l : List Blk} {K : SV → List Blk → Prop} {x : List UInt8} {c : UInt8} {T : Int} (hx : ilen x ≤ 140737488355328) (hT : idxI x c.toNat = T) (h : K (.i .i64 (.y T)) l) : S.call 107 [.s x, .s [c]] l K := by
  refine qbe hS (sv := .i .i64 (.y T)) (args' := [.s x, .s [c]]) ?_ .rfl rfl rfl h
  generalize hS : S0 Tryd.prog = S
  refine qac hS I.qpx ?_
  cbv
  refine lidx_u hS hx hT ?_
  cbv
  exact .rfl
def cutR (x : List UInt8) : Fd := if idxI x 32 < 0 then (x, []) else (x.take (idxI x 32).toNat, x.drop ((idxI x 32).toNat + 1))
theorem cut_f (x : List UInt8) {a b : List UInt8} (hr : cutR x = (a, b)) (hx : ilen x ≤ 140737488355328) (hi : idxI x 32 < ilen x) : ∃ t : Bool, (S0 Tryd.prog).call 75 [.s x, .s [32]] [] (fun y _ => Sub y (.tp [.s a, .s b, .b t])) := by
  obtain ⟨T, hT⟩ : ∃ T, idxI x 32 = T := ⟨_, rfl⟩
  unfold cutR at hr
  rw [hT] at hr hi
  obtain ⟨t, ht⟩ : ∃ t, t = decide (0 ≤ T) := ⟨_, rfl⟩
  refine ⟨t, ?_⟩
  generalize hS : S0 Tryd.prog = S
  refine qac hS I.qum ?_
  cbv
  refine qac hS I.qnb ?_
  cbv
  refine lidx_u hS (c := 32) hx hT ?_
  cbv
  refine qab hS ?_ ?_ <;> intro h <;> cbv
  · rw [if_neg (by omega)] at hr
    have hc : ilen ([32] : List UInt8) = 1 := rfl
    have hc2 : (([32] : List UInt8).length : Int) = 1 := rfl
    have hx' : ilen x = x.length := rfl
    refine qam hS rfl I.qii (by decide +kernel) ?_
    cbv
    repeat' (first
      | (refine s_st hS ?_; try cbv)
      | (refine qab hS ?_ ?_ <;> intro h <;> (try cbv) <;> try exact s_ab h)
      | (refine qah hS ?_; intro _ _; try cbv)
      | (refine qae hS ?_; try cbv)
      | (refine qau hS ?_; intro _ _; try cbv)
      | (refine qcf hS ?_; try cbv)
      | (refine And.intro rfl ?_; try cbv)
      | fail)
    cases hr
    rename_i r hr
    have e : t = true := by rw [ht]; exact decide_eq_true h
    have e1 : S.ssub x 0 T = x.take T.toNat := by subst hS; rfl
    have e2 : S.ssub x r (S.slen x) = x.drop (T.toNat + 1) := by
      rw [hr, hc]
      subst hS
      show (x.take x.length).drop (T + 1).toNat = _
      rw [List.take_length, show (T + 1).toNat = T.toNat + 1 by omega]
    rw [← e1, ← e2]
    all_goals exact s_sA
  · rw [if_pos (by omega)] at hr
    cases hr
    have e : t = false := by rw [ht]; exact decide_eq_false h
    all_goals exact s_sA
theorem cut_u {S : Sy} (hS : S0 Tryd.prog = S) {l : List Blk} {K : SV → List Blk → Prop} {x a b : List UInt8} (hr : cutR x = (a, b)) (hx : ilen x ≤ 140737488355328) (hi : idxI x 32 < ilen x) (h : ∀ t, K (.tp [.s a, .s b, .b t]) l) : S.call 75 [.s x, .s [32]] l K := by
  obtain ⟨t, ht⟩ := cut_f x hr hx hi
  exact qbe hS ht .rfl rfl rfl (h t)
theorem line_at {j : Int} (h0 : 0 ≤ j) (h1 : j < 19) : ∃ (L a b : List UInt8), idxI (remT j.toNat) 10 = ilen L ∧ (remT j.toNat).take L.length = L ∧ (remT j.toNat).drop (L.length + 1) = remT (j + 1).toNat ∧ cutR L = (a, b) ∧ stL[j.toNat]? = some (a, b) ∧ ilen L ≤ 20 ∧ ilen (remT j.toNat) ≤ 300 ∧ idxI L 32 < ilen L ∧ ilen L < ilen (remT j.toNat) := by
  have h := line_facts ⟨j.toNat, by omega⟩
  dsimp only at h
  obtain ⟨e1, e2, e3, e4, e5, e6, e7, e8⟩ := h
  have hj : j.toNat < 19 := by omega
  rw [if_pos hj] at e1
  have hs : j.toNat < stL.length := by rw [qid]; omega
  have hst : stL[j.toNat]? = some (stL.getD j.toNat ([], [])) := by rw [List.getD_eq_getElem?_getD, List.getElem?_eq_getElem hs]; rfl
  have hL : ilen (lineL.getD j.toNat []) < ilen (remT j.toNat) := by
    have := e3 hj
    have hd := congrArg List.length e2
    rw [List.length_take] at hd
    rcases Nat.lt_or_ge (lineL.getD j.toNat []).length (remT j.toNat).length with h | h
    · unfold ilen; omega
    · exfalso
      rw [List.drop_eq_nil_of_le (by omega)] at this
      have h2 : ∀ k : Fin 20, remT k.val ≠ [] := by decide +kernel
      exact h2 ⟨j.toNat + 1, by omega⟩ this.symm
  refine ⟨lineL.getD j.toNat [], (stL.getD j.toNat ([], [])).1, (stL.getD j.toNat ([], [])).2, e1, e2, ?_, ?_, hst, e6, e7, e8, hL⟩
  · rw [e3 hj]; congr 1; omega
  · unfold cutR
    by_cases h : idxI (lineL.getD j.toNat []) 32 < 0
    · rw [if_pos h] at e5 ⊢; rw [e5]
    · rw [if_neg h] at e5 ⊢; rw [e5]
theorem line_last {j : Int} (h1 : j = 19) : ∃ (a b : List UInt8), idxI (remT j.toNat) 10 = -1 ∧ cutR (remT j.toNat) = (a, b) ∧ stL[j.toNat]? = some (a, b) ∧ ilen (remT j.toNat) ≤ 300 ∧ idxI (remT j.toNat) 32 < ilen (remT j.toNat) := by
  subst h1
  exact ⟨[117, 115, 101, 114, 45, 97, 103, 101, 110, 116], [], by decide +kernel⟩
theorem at_i {l : List Fd} {i j : Int} {a b : List UInt8} (h0 : 0 ≤ j) (h : (allF l)[j.toNat]? = some (a, b)) (hi : i = j + 1) : atR l i = ((a, b), 0) := by
  unfold atR
  rw [if_neg (by omega), show (i - 1).toNat = j.toNat by omega, h]
theorem all_st {l : List Fd} {j : Int} {f : Fd} (h : stL[j.toNat]? = some f) : (allF l)[j.toNat]? = some f := by
  unfold allF
  have := (List.getElem?_eq_some_iff.1 h).1
  rw [List.getElem?_append_left this, h]
theorem all_row {l : List Fd} {j k : Int} (h0 : 0 ≤ j) (hk : k = j + 20) {f : Fd} (h : l[j.toNat]? = some f) : (allF l)[k.toNat]? = some f := by
  unfold allF
  rw [List.getElem?_append_right (by rw [qid]; omega), qid, show k.toNat - 20 = j.toNat by omega, h]
theorem at_f {mx i e : Int} {l : List Fd} {a b : List UInt8} (hr : atR l i = ((a, b), e)) (hm : ilen l ≤ 100000000) : (S0 Tryd.prog).call 32 [tabV mx l, .i .i64 (.y i)] [] (fun y _ => Sub y (.tp [.ag [.s a, .s b], .i .i64 (.y e)])) := by
  unfold tabV
  generalize hF : cellsF l = F
  obtain ⟨m, hm'⟩ : ∃ m, m = ilen l := ⟨_, rfl⟩
  have h0 := qai l
  rw [← hm'] at h0 hm ⊢
  generalize hS : S0 Tryd.prog = S
  refine qac hS I.qzacs ?_
  cbv
  refine qac hS I.qss ?_
  cbv
  refine qhb hS I.qor ?_
  cbv
  refine qac hS I.qlp ?_
  cbv
  refine qac hS I.qlo ?_
  cbv
  refine qhb hS I.qiu ?_
  cbv
  refine qab hS ?_ ?_ <;> intro h <;> cbv
  · exfalso; simp at h
  have hc : ilen ([10] : List UInt8) = 1 := rfl
  have hc2 : (([10] : List UInt8).length : Int) = 1 := rfl
  refine qaz hS 14 I.qfv (fun x : Int × List UInt8 => 0 ≤ x.1 ∧ x.1 ≤ 19 ∧ (i < 1 ∨ x.1 < i) ∧ x.2 = remT x.1.toNat) (fun _ => []) (fun x => [(8, .c [.i .i64 (.y x.1)]), (9, .c [.s x.2])]) (fun x => (19 - x.1).toNat) (0, remT 0) rfl
    ⟨⟨Int.le_refl _, by dsimp only; omega, by dsimp only; omega, rfl⟩, rfl, ?_, ?_, by cbv⟩ ?_
  · cbv; all_goals exact s_sA
  · cbv; all_goals exact s_bA
  intro x
  obtain ⟨j, s⟩ := x
  intro hx
  dsimp only at hx
  cbv
  obtain ⟨k0, k1, k2, k3⟩ := hx
  have hjj : j < 19 ∨ 19 ≤ j := by omega
  rcases hjj with hj | hj
  · obtain ⟨L, c, d, f1, f2, f3, f4, f5, f6, f7, f8, f9⟩ := line_at k0 hj
    rw [← k3] at f1 f2 f3 f7 f9
    refine sidx_u hS (c := 10) (by omega) f1 ?_
    generalize hn : ilen L = n at *
    have hn0 : 0 ≤ n := hn ▸ qai L
    cbv
    repeat' (first
      | (refine s_st hS ?_; try cbv)
      | (refine qab hS ?_ ?_ <;> intro h <;> (try cbv) <;> try exact s_ab h)
      | (refine qah hS ?_; intro _ _; try cbv)
      | (refine qae hS ?_; try cbv)
      | (refine qau hS ?_; intro _ _; try cbv)
      | (refine qcf hS ?_; try cbv)
      | (refine qeb hS rfl rfl ?_; cbv)
      | fail)
    rename_i r1 hr1 j1 hj1
    have e1 : S.ssub s 0 r1 = L := by
      subst hS
      show (s.take r1.toNat).drop 0 = L
      rw [List.drop_zero, show r1.toNat = L.length by unfold ilen at hn; omega, f2]
    refine cut_u hS (x := S.ssub s 0 r1) (a := c) (b := d) (by rw [e1]; exact f4) (by rw [e1]; omega) (by rw [e1, hn]; exact f8) fun t => ?_
    cbv
    repeat' (first
      | (refine s_st hS ?_; try cbv)
      | (refine qab hS ?_ ?_ <;> intro h <;> (try cbv) <;> try exact s_ab h)
      | (refine qah hS ?_; intro _ _; try cbv)
      | (refine qae hS ?_; try cbv)
      | (refine qau hS ?_; intro _ _; try cbv)
      | (refine qcf hS ?_; try cbv)
      | (refine qeb hS rfl rfl ?_; cbv)
      | fail)
    · rename_i h
      rw [at_i k0 (all_st f5) (by omega)] at hr
      cases hr
      all_goals exact s_sA
    · rename_i h r2 hr2
      refine ⟨(j1, S.ssub s r2 (S.slen s)), by dsimp only; omega, ⟨by dsimp only; omega, by dsimp only; omega, by dsimp only; omega, ?_⟩, rfl, ?_, ?_, by cbv⟩
      · dsimp only
        rw [hj1, ← f3]
        subst hS
        show (s.take s.length).drop r2.toNat = _
        rw [List.take_length, show r2.toNat = L.length + 1 by unfold ilen at hn; omega]
      · cbv; all_goals exact s_sA
      · cbv; all_goals exact s_bA
  · obtain ⟨c, d, f1, f4, f5, f7, f8⟩ := line_last (j := j) (by omega)
    rw [← k3] at f1 f4 f7 f8
    refine sidx_u hS (c := 10) (by omega) f1 ?_
    cbv
    refine s_br hS ?_ ?_ <;> intro h' <;> cbv <;> simp only [← hS, Int.ofNat_eq_natCast, cq, Bool.not_eq_true', Bool.not_eq_false', decide_eq_true_eq, decide_eq_false_iff_not, beq_iff_eq, beq_eq_false_iff_ne, ne_eq] at h'
    · repeat' (first
      | (refine s_st hS ?_; try cbv)
      | (refine qab hS ?_ ?_ <;> intro h <;> (try cbv) <;> try exact s_ab h)
      | (refine qah hS ?_; intro _ _; try cbv)
      | (refine qae hS ?_; try cbv)
      | (refine qau hS ?_; intro _ _; try cbv)
      | (refine qcf hS ?_; try cbv)
      | (refine qeb hS rfl rfl ?_; cbv)
      | fail)
      refine cut_u hS (a := c) (b := d) f4 (by omega) f8 fun t => ?_
      cbv
      repeat' (first
        | (refine s_st hS ?_; try cbv)
        | (refine qab hS ?_ ?_ <;> intro h <;> (try cbv) <;> try exact s_ab h)
        | (refine qah hS ?_; intro _ _; try cbv)
        | (refine qae hS ?_; try cbv)
        | (refine qau hS ?_; intro _ _; try cbv)
        | (refine qcf hS ?_; try cbv)
        | (refine qeb hS rfl rfl ?_; cbv)
        | fail)
      · rename_i h
        rw [at_i k0 (all_st f5) (by omega)] at hr
        cases hr
        all_goals exact s_sA
      · rename_i j1 hj1
        refine qaz hS 15 I.qjd (fun x : Int × Int => 0 ≤ x.1 ∧ x.1 ≤ m ∧ x.2 = x.1 + 20 ∧ (i < 1 ∨ x.2 < i)) (fun x => [(29, .i .i64 (.y x.1))]) (fun x => [(8, .c [.i .i64 (.y x.2)])]) (fun x => (m - x.1).toNat) (0, j1) rfl
          ⟨⟨Int.le_refl _, by dsimp only; omega, by dsimp only; omega, by dsimp only; omega⟩, rfl, ?_, ?_, by cbv⟩ ?_
        · cbv; all_goals exact s_sA
        · cbv; all_goals exact s_bA
        intro x
        obtain ⟨q, u⟩ := x
        intro hx
        dsimp only at hx
        cbv
        obtain ⟨q0, q1, q2, q3⟩ := hx
        refine qab hS ?_ ?_ <;> intro h <;> cbv
        · obtain ⟨⟨v, w⟩, hp⟩ := qfh (l := l) (i := q) (by omega) q0
          repeat' (first
            | (refine s_st hS ?_; try cbv)
            | (refine qab hS ?_ ?_ <;> intro h <;> (try cbv) <;> try exact s_ab h)
            | (refine qah hS ?_; intro _ _; try cbv)
            | (refine qae hS ?_; try cbv)
            | (refine qau hS ?_; intro _ _; try cbv)
            | (refine qcf hS ?_; try cbv)
            | (refine qeb hS rfl rfl ?_; cbv)
            | (refine rowF hS hF hp (by omega) ?_; cbv)
            | fail)
          · rw [at_i (j := u) (by omega) (all_row q0 q2 hp) (by omega)] at hr
            cases hr
            all_goals exact s_sA
          · rename_i u1 hu1 q4 hq4
            refine ⟨(q4, u1), by dsimp only; omega, ⟨by dsimp only; omega, by dsimp only; omega, by dsimp only; omega, by dsimp only; omega⟩, rfl, ?_, ?_, by cbv⟩
            · cbv; all_goals exact s_sA
            · cbv; all_goals exact s_bA
        · repeat' (first
          | (refine s_st hS ?_; try cbv)
          | (refine qab hS ?_ ?_ <;> intro h <;> (try cbv) <;> try exact s_ab h)
          | (refine qah hS ?_; intro _ _; try cbv)
          | (refine qae hS ?_; try cbv)
          | (refine qau hS ?_; intro _ _; try cbv)
          | (refine qcf hS ?_; try cbv)
          | fail)
          rw [qys (by omega)] at hr
          cases hr
          all_goals exact s_sA
    · omega
end Tb
end Cz
namespace Cz
open Go Go.RowKit Go.Proofs
section
variable {α : Type} [DecidableEq α]
def mapE (enc : α → SV) (ms : List (α × Int)) : List (SV × SV) := ms.map fun p => (enc p.1, .i .i64 (.y p.2))
def mget : List (α × Int) → α → Int
  | [], _ => 0
  | (k, v) :: r, a => if a = k then v else mget r a
theorem mget_app (a b : α) (n : Int) : ∀ ms : List (α × Int), (∀ p, p ∈ ms → 1 ≤ p.2) → mget (ms ++ [(b, n)]) a = if mget ms a ≠ 0 then mget ms a else if a = b then n else 0
  | [], _ => by simp [mget]
  | (k, v) :: r, hv => by
    simp only [List.cons_append, mget]
    split
    · have := hv (k, v) (List.mem_cons_self ..)
      dsimp only at this
      rw [if_pos (by omega)]
    · exact mget_app a b n r fun p hp => hv p (List.mem_cons_of_mem _ hp)
end
namespace Tb
theorem fstI_app (p : Fd → Bool) : ∀ (l r : List Fd) (k : Int), 1 ≤ k → fstI p (l ++ r) k = if fstI p l k ≠ 0 then fstI p l k else fstI p r (k + l.length)
  | [], r, k, _ => by simp [fstI]
  | x :: l, r, k, hk => by
    simp only [List.cons_append, fstI]
    split
    · rw [if_pos (by omega)]
    · rw [fstI_app p l r (k + 1) (by omega)]
      simp only [List.length_cons]
      rw [show k + 1 + (l.length : Int) = k + ((l.length + 1 : Nat) : Int) by omega]
end Tb
end Cz
namespace Cz
open Go Go.RowKit Go.Proofs
namespace Tb
def MapG {α : Type} [DecidableEq α] (enc : α → SV) (key : Fd → α) (E : List (SV × SV)) (L : List Fd) : Prop :=
  ∃ ms : List (α × Int), mapE enc ms = E ∧ (∀ p, p ∈ ms → 1 ≤ p.2) ∧ ∀ k, mget ms k = fstI (fun x => decide (key x = k)) L 1
section
variable {α : Type} [DecidableEq α] {enc : α → SV} {key : Fd → α} {E : List (SV × SV)} {L : List Fd}
theorem fst_snoc (p : Fd → Bool) (L : List Fd) (x : Fd) : fstI p (L ++ [x]) 1 = if fstI p L 1 ≠ 0 then fstI p L 1 else if p x then 1 + L.length else 0 := by
  rw [fstI_app p L [x] 1 (Int.le_refl _)]
  simp only [fstI]
theorem MapG.keep (h : MapG enc key E L) {x : Fd} (hx : fstI (fun y => decide (key y = key x)) L 1 ≠ 0) : MapG enc key E (L ++ [x]) := by
  obtain ⟨ms, h1, h2, h3⟩ := h
  refine ⟨ms, h1, h2, fun k => ?_⟩
  rw [h3, fst_snoc]
  split
  · rfl
  · rename_i h0
    split
    · rename_i hk
      exact absurd (by rw [← of_decide_eq_true hk] at h0; omega) hx
    · omega
theorem MapG.put (h : MapG enc key E L) {x : Fd} (hx : fstI (fun y => decide (key y = key x)) L 1 = 0) : MapG enc key (E ++ [(enc (key x), .i .i64 (.y (1 + L.length)))]) (L ++ [x]) := by
  obtain ⟨ms, h1, h2, h3⟩ := h
  refine ⟨ms ++ [(key x, (1 + L.length : Int))], ?_, ?_, fun k => ?_⟩
  · rw [← h1]; simp [mapE]
  · intro p hp
    rcases List.mem_append.1 hp with hp | hp
    · exact h2 p hp
    · rw [List.mem_singleton.1 hp]; dsimp only; omega
  · rw [mget_app _ _ _ _ h2, h3, fst_snoc]
    simp only [decide_eq_true_eq]
    split
    · rfl
    · split
      · rename_i e; rw [if_pos e.symm]
      · rename_i e; rw [if_neg fun e' => e e'.symm]
theorem MapG.nil : MapG enc key [] [] := ⟨[], rfl, fun _ h => by simp at h, fun _ => rfl⟩
end
section
variable {E : List (SV × SV)} {L : List Fd}
theorem MapG.gcN (h : MapG SV.s Prod.fst E L) (m : Nat) : gcM m E = true := by
  obtain ⟨ms, h1, -, -⟩ := h
  subst h1
  induction ms with
  | nil => rfl
  | cons p r ih => exact ih
end
end Tb
end Cz
namespace Cz
open Go Go.RowKit Go.Proofs
namespace Tb
section
variable {S : Sy} {bl : List Blk} {K : SV → List Blk → Prop} {cs : List SV} {mx mx' e n : Int} {l l' : List Fd} {F : List SV} {a b : List UInt8}
theorem qnv (hS : S0 Tryd.prog = S) {g : FuncId} {args args' : List SV} {y y' : SV} (hF : (S0 Tryd.prog).call g args' [] (Tell y)) (ha : SubL args args') (hr : refsBL (fun _ => false) args' = true) (hy : Sub y y') (hK : K y' bl) : S.call g args bl K := by
  subst hS
  exact qat (qdu rfl hF ha hr (K := fun x l' => x = y ∧ l' = bl) ⟨rfl, rfl⟩) fun x l' h => ⟨y', h.1 ▸ hy, h.2 ▸ hK⟩
end
abbrev fa : Fd := ([97], [49])
theorem evL_len (mx : Int) (l : List Fd) : ilen (evL mx l) ≤ ilen l := by unfold ilen evL; rw [List.length_take]; omega
end Tb
end Cz
namespace Cz
open Go Go.RowKit Go.Proofs
namespace Tb
section
variable {S : Sy} {bl : List Blk} {K : SV → List Blk → Prop} {cs : List SV} {mx mx' e n : Int} {l l' : List Fd} {F : List SV} {a b : List UInt8}
theorem tabE_g (hF : cellsF l' = F) (hn : n = ilen l') : Sub (tabE mx' l' e) (.tp [.ag [.i .i64 (.y mx'), .v false 2 F (.y n)], .i .i64 (.y e)]) := by
  subst hF hn; exact .rfl
theorem add_g (hS : S0 Tryd.prog = S) (hc : TabC [] cs mx l) (hr : addR (mx, l) (a, b) = ((mx', l'), e)) (hF : cellsF l' = F) (hn : n = ilen l') (hb : fullL l ≤ 10000000) (hs : szF (a, b) ≤ 10000000)
    (hK : K (.tp [.ag [.i .i64 (.y mx'), .v false 2 F (.y n)], .i .i64 (.y e)]) bl) : S.call 28 [.ag cs, .ag [.s a, .s b]] bl K := by
  refine qnv hS (add_f hr hb hs) ?_ rfl (tabE_g hF hn) hK
  match hc.sub with
  | .cons h _ => exact .cons h .rfl
theorem radd_g (hS : S0 Tryd.prog = S) (hc : TabC [] cs mx l) (hr : addR (mx, l) (a, b) = ((mx', l'), e)) (hF : cellsF l' = F) (hn : n = ilen l') (hb : fullL l ≤ 1000000) (hs : szF (a, b) ≤ 1000000)
    (hK : K (.tp [.ag [.i .i64 (.y mx'), .v false 2 F (.y n)], .i .i64 (.y e)]) bl) : S.call 29 [.ag cs, .ag [.s a, .s b]] bl K := by
  refine qnv hS (radd_f hr hb hs) ?_ rfl (tabE_g hF hn) hK
  match hc.sub with
  | .cons h _ => exact .cons h .rfl
theorem res_g (hS : S0 Tryd.prog = S) (hc : TabC [] cs mx l) {most : Z} (hr : resR (mx, l) most.v = ((mx', l'), e)) (hF : cellsF l' = F) (hn : n = ilen l') (hb : fullL l ≤ 10000000)
    (hK : K (.tp [.ag [.i .i64 (.y mx'), .v false 2 F (.y n)], .i .i64 (.y e)]) bl) : S.call 30 [.ag cs, .i .i64 most] bl K := by
  refine qnv hS (res_f hr (by omega)) ?_ rfl (tabE_g hF hn) hK
  match hc.sub with
  | .cons h _ => exact .cons h (.cons (qag rfl) .nil)
theorem at_g (hS : S0 Tryd.prog = S) {z : Z} (hc : TabC bl cs mx l) (hr : atR l z.v = ((a, b), e)) (hm : ilen l ≤ 100000000) (hK : K (.tp [.ag [.s a, .s b], .i .i64 (.y e)]) bl) : S.call 32 [.ag cs, .i .i64 z] bl K :=
  qcb hS (at_f hr hm) (hc.fzi (qag (b := .y z.v) rfl) rfl) rfl rfl hK
theorem rat_g (hS : S0 Tryd.prog = S) {z : Z} (hc : TabC bl cs mx l) (hr : atR l z.v = ((a, b), e)) (hl : -9223372036854775808 ≤ z.v) (hu : z.v ≤ 9223372036854775807) (hm : ilen l ≤ 100000000) (hK : K (.tp [.ag [.s a, .s b], .i .i64 (.y e)]) bl) : S.call 33 [.ag cs, .i .i64 z] bl K :=
  qcb hS (rat_f hr hl hu hm) (hc.fzi (qag (b := .y z.v) rfl) rfl) rfl rfl hK
theorem right_g (hS : S0 Tryd.prog = S) (hc : TabC bl cs mx l) {t : Bool} (ht : rightL mx l = t) (h : fullL l ≤ 100000000) (hK : K (.b t) bl) : S.call 26 [.ag cs] bl K :=
  qcb hS (right_f ht h) hc.fz rfl rfl hK
theorem rright_g (hS : S0 Tryd.prog = S) (hc : TabC bl cs mx l) {t : Bool} (ht : rightL mx l = t) (h : fullL l ≤ 100000000) (hK : K (.b t) bl) : S.call 27 [.ag cs] bl K :=
  qcb hS (rright_f ht h) hc.fz rfl rfl hK
theorem size_g (hS : S0 Tryd.prog = S) (hn : n = szF (a, b)) (h : n ≤ 1000000000) (hK : K (.i .i64 (.y n)) bl) : S.call 22 [.ag [.s a, .s b]] bl K :=
  qbe hS (size_f hn h) .rfl rfl rfl hK
theorem rsize_g (hS : S0 Tryd.prog = S) (hn : n = szF (a, b)) (h : n ≤ 1000000000) (hK : K (.i .i64 (.y n)) bl) : S.call 23 [.ag [.s a, .s b]] bl K :=
  qbe hS (rsize_f hn h) .rfl rfl rfl hK
theorem qrj (hS : S0 Tryd.prog = S) {cs' : List SV} (hc : TabC bl cs mx l) (hc' : TabC bl cs' mx l) (hl : ilen l ≤ 100000000) (hK : K .tt bl) : S.call 21 [.ag cs, .ag cs'] bl K :=
  qcb hS (qcn (rsame_f (decide_eq_true ⟨rfl, rfl⟩) hl hl)) (fz_two hc.fz hc'.fz rfl rfl) rfl rfl hK
end
end Tb
end Cz
