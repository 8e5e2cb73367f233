/- What the claims of this group lean on, part 6: our engine, the functions' simplified codes, their contracts. No condition. -/
import Derived.Test.YtdbnbknghhpbiaaDoorKV5
set_option linter.unusedSimpArgs false
set_option linter.unusedVariables false
set_option maxRecDepth 100000
set_option maxHeartbeats 4000000
namespace Cz
open Go Go.RowKit Go.Proofs
def bitI (b : List Int) (i : Int) : Int := ((Hu.bl b).getD i.toNat false).toNat
def numI (b : List Int) (i k : Int) : Int := Hu.valB (((Hu.bl b).drop i.toNat).take k.toNat)
theorem bitI_bd (b : List Int) (i : Int) : 0 ≤ bitI b i ∧ bitI b i ≤ 1 := by
  unfold bitI
  cases (Hu.bl b).getD i.toNat false <;> decide
theorem qsm (b : List Int) (i : Int) : numI b i 0 = 0 := rfl
theorem qzabd {b : List Int} {i k : Int} (h0 : 0 ≤ i) (h1 : 0 ≤ k) (h2 : i + k < 8 * ilen b) : numI b i (k + 1) = 2 * numI b i k + bitI b (i + k) := by
  unfold numI bitI
  rw [show (k + 1).toNat = k.toNat + 1 by omega, List.take_add_one]
  have hlt : i.toNat + k.toNat < (Hu.bl b).length := by rw [Hu.qwt]; unfold ilen at h2; omega
  rw [List.getElem?_drop, List.getElem?_eq_getElem hlt, Option.toList_some, Hu.qrr]
  rw [List.getD_eq_getElem?_getD, show (i + k).toNat = i.toNat + k.toNat by omega, List.getElem?_eq_getElem hlt]
  simp
theorem numI_bd {b : List Int} {i k : Int} (h : k ≤ 30) : 0 ≤ numI b i k ∧ numI b i k < 1073741824 := by
  unfold numI
  have h1 := Hu.qlm (((Hu.bl b).drop i.toNat).take k.toNat)
  have h2 : 2 ^ (((Hu.bl b).drop i.toNat).take k.toNat).length ≤ 2 ^ 30 := Nat.pow_le_pow_right (by omega) (by rw [List.length_take]; omega)
  omega
theorem qzaco : ∀ {m n i : Nat}, i < m → (Hu.bitsN m n)[i]? = some (n / 2 ^ (m - 1 - i) % 2 == 1)
  | m + 1, n, i, h => by
    simp only [Hu.bitsN]
    rcases Nat.lt_or_ge i m with hi | hi
    · rw [List.getElem?_append_left (by rw [Hu.qbh]; exact hi), qzaco hi, Nat.div_div_eq_div_mul, ← Nat.pow_succ', show m + 1 - 1 - i = (m - 1 - i).succ by omega]
    · obtain rfl : i = m := by omega
      rw [List.getElem?_append_right (by rw [Hu.qbh]; omega), Hu.qbh]
      simp
theorem bl_get {b : List Int} {q j : Nat} {v : Int} (h : b[q]? = some v) (hj : j < 8) : (Hu.bl b)[q * 8 + j]? = (Hu.bitsN 8 v.toNat)[j]? := by
  induction b generalizing q with
  | nil => simp at h
  | cons u b ih =>
    cases q with
    | zero =>
      simp only [List.getElem?_cons_zero, Option.some.injEq] at h; subst h
      simp only [Hu.bl, List.flatMap_cons, Nat.zero_mul, Nat.zero_add]
      rw [List.getElem?_append_left (by rw [Hu.qbh]; exact hj)]
    | succ q =>
      simp only [List.getElem?_cons_succ] at h
      have := ih h
      simp only [Hu.bl, List.flatMap_cons] at this ⊢
      rw [List.getElem?_append_right (by rw [Hu.qbh]; omega), Hu.qbh, show (q + 1) * 8 + j - 8 = q * 8 + j by omega]
      exact this
theorem bit_of {b : List Int} {i q j v r : Int} (hv : b[q.toNat]? = some v) (hok : Hu.BOk b) (h0 : 0 ≤ i) (hq : q = i / 8) (hj : j = 7 - i % 8) (hr : r = v / 2 ^ j.toNat % 2) : bitI b i = r := by
  have hv0 := hok v (List.mem_of_getElem? hv)
  have e : i.toNat = q.toNat * 8 + (i % 8).toNat := by omega
  unfold bitI
  rw [List.getD_eq_getElem?_getD, e, bl_get hv (by omega), qzaco (by omega), show 8 - 1 - (i % 8).toNat = j.toNat by omega, hr]
  simp only [Option.getD_some]
  have e2 : v / 2 ^ j.toNat % 2 = ((v.toNat / 2 ^ j.toNat % 2 : Nat) : Int) := by
    push_cast
    rw [Int.toNat_of_nonneg hv0.1]
  rw [e2]
  have : v.toNat / 2 ^ j.toNat % 2 = 0 ∨ v.toNat / 2 ^ j.toNat % 2 = 1 := by omega
  rcases this with h | h <;> simp [h]
def okI (b : List Int) (i k : Int) : Bool := decide (0 ≤ i) && decide (i + k ≤ 8 * ilen b)
def resI (b : List Int) (i k : Int) : Int := if okI b i k then numI b i k else 0
theorem okI_t {b : List Int} {i k : Int} (h0 : 0 ≤ i) (h : i + k ≤ 8 * ilen b) : okI b i k = true := by unfold okI; simp [h0, h]
theorem okI_f {b : List Int} {i k : Int} (h : i < 0 ∨ 8 * ilen b < i + k) : okI b i k = false := by
  unfold okI
  rcases h with h | h
  · simp; omega
  · simp; omega
theorem rowB {S : Sy} (hS : S0 Tryd.prog = S) {b : List Int} {F : List SV} (hF : cellsB b = F) {q i v : Int} {K : SV → Prop} (hv : b[q.toNat]? = some v) (hi : i = q) (h0 : 0 ≤ q) (h : K (.i .u8 (.y v))) : S.rd F i 1 0 1 false K := by
  subst hi
  exact s_rowp hS (enc := by1) hF hv (fun _ => rfl) h0 (Nat.le_refl _) rfl h
theorem first_f {b : List Int} {i k r : Int} {t : Bool} (hb : Hu.BOk b) (hn : ilen b ≤ 1000000) (h1 : 1 ≤ k) (h2 : k ≤ 30) (hr : resI b i k = r) (ht : okI b i k = t) :
    (S0 Tryd.prog).call 134 [.sl 0 1 (.l 0) (.y (ilen b)) none, .i .i64 (.y i), .i .i64 (.y k)] [.r true true (.l 0) 1 (cellsB b)] (fun x _ => Sub x (.tp [.i .i64 (.y r), .b t])) := by
  obtain ⟨n, hn'⟩ : ∃ n, n = ilen b := ⟨_, rfl⟩
  rw [← hn'] at hn ⊢
  have hpl := qad b
  generalize hF : cellsB b = F at hpl ⊢
  have h0n := qaf b
  generalize hS : S0 Tryd.prog = S
  refine qac hS I.qvk ?_
  cbv
  repeat' (first
    | (refine s_st hS ?_; try cbv)
    | (refine qab hS ?_ ?_ <;> intro h <;> (try cbv) <;> try exact s_ab h)
    | (refine qai hS ?_; intro _ _; try cbv)
    | (refine qae hS ?_; try cbv)
    | (refine qac hS I.qyu ?_; cbv)
    | (refine qhq hS I.qto ?_; cbv))
  · have e : okI b i k = false := okI_f (.inl (by assumption))
    have e1 : r = 0 := by rw [← hr]; unfold resI; rw [e]; rfl
    have e2 : t = false := by rw [← ht, e]
    all_goals exact s_sA
  · refine qba hS 8 I.qmu (fun x : Int × Int × Int => i ≤ x.1 ∧ x.2.2 = k - (x.1 - i) ∧ 1 ≤ x.2.2 ∧ x.2.1 = numI b i (x.1 - i) ∧ (x.1 = i ∨ x.1 ≤ 8 * n))
      (fun _ => []) (fun x => [(1, .c [.i .i64 (.y x.2.1)]), (3, .c [.i .i64 (.y x.2.2)]), (5, .c [.i .i64 (.y x.1)])])
      (fun x => (8 * n - x.1).toNat) (i, 0, k) rfl ⟨⟨by omega, by dsimp only; omega, by dsimp only; omega, by simp [qsm], .inl rfl⟩, rfl, ?_, ?_, ?_⟩ ?_
    · cbv; all_goals exact s_sA
    · cbv; all_goals exact s_bA
    · cbv; exact qte (qan hpl)
    · intro x
      obtain ⟨j, w, left⟩ := x
      intro hx
      dsimp only at hx
      cbv
      obtain ⟨g0, g1, g2, g3, g4⟩ := hx
      repeat' (first
        | (refine s_st hS ?_; try cbv)
        | (refine qab hS ?_ ?_ <;> intro h <;> (try cbv) <;> try exact s_ab h)
        | (refine qai hS ?_; intro _ _; try cbv)
        | (refine qae hS ?_; try cbv)
        | (refine qbx hS (c := 8) rfl ?_; intro _ _; cbv))
      · obtain ⟨q, hq⟩ : ∃ q, q = j / 8 := ⟨_, rfl⟩
        obtain ⟨v, hv⟩ := qek (l := b) (i := q) (by omega) (by omega)
        have hb0 := hb v (List.mem_of_getElem? hv)
        refine qam hS rfl I.qnl (by decide +kernel) ?_
        cbv
        repeat' (first
          | (refine s_st hS ?_; try cbv)
          | (refine qab hS ?_ ?_ <;> intro h <;> (try cbv) <;> try exact s_ab h)
          | (refine qai hS ?_; intro _ _; try cbv)
          | (refine qae hS ?_; try cbv)
          | (refine qbx hS (c := 8) rfl ?_; intro _ _; cbv)
          | (refine rowB hS hF hv (by omega) (by omega) ?_; try cbv)
          | (refine qgv hS (c := 8) (m := 3) (by decide) ?_; intro _ _; cbv)
          | (refine qgv hS (c := 2) (m := 1) (by decide) ?_; intro _ _; cbv)
          | (refine s_shr hS (by simp only [IntKind.bits]; omega) ?_; intro _ _; cbv)
          | (refine And.intro rfl ?_; try cbv))
        rename_i s1 hs1 s2 hs2 s3 hs3 u hu
        have hbit : bitI b j = u := bit_of hv hb (by omega) hq (j := s2) (by omega) (by rw [hu, hs3])
        have hw : 0 ≤ w ∧ w < 1073741824 := by rw [g3]; exact numI_bd (by omega)
        have hnx := qzabd (b := b) (i := i) (k := j - i) (by omega) (by omega) (by omega)
        rw [← g3, show i + (j - i) = j by omega, hbit] at hnx
        clear hu hs3
        have hu1 := bitI_bd b j
        rw [hbit] at hu1
        refine qev hS rfl rfl ?_
        cbv
        repeat' (first
          | (refine s_st hS ?_; try cbv)
          | (refine qab hS ?_ ?_ <;> intro h <;> (try cbv) <;> try exact s_ab h)
          | (refine qai hS ?_; intro _ _; try cbv)
          | (refine qae hS ?_; try cbv)
          | (refine qpy hS (c := 2) rfl ?_ (by simp only [lo]; omega) (by simp only [hi]; omega); intro _ _; cbv)
          | (refine s_orl hS (c := 2) (m := 1) rfl (by omega) (by omega) (by omega) (by omega) (by simp only [hi]; omega) ?_; intro _ _; cbv))
        · have e : okI b i k = true := okI_t (by omega) (by omega)
          have e1 : r = 2 * w + u := by rw [← hr]; unfold resI; rw [e, show k = j - i + 1 by omega]; simpa using hnx
          have e2 : t = true := by rw [← ht, e]
          all_goals exact s_sA
        · rename_i w2 hw2 l2 hl2 j2 hj2
          refine ⟨(j2, w2, l2), by dsimp only; omega, ⟨by dsimp only; omega, by dsimp only; omega, by dsimp only; omega, by dsimp only; rw [show j2 - i = j - i + 1 by omega, hnx]; omega, .inr (by dsimp only; omega)⟩, rfl, ?_, ?_, ?_⟩
          · cbv; all_goals exact s_sA
          · cbv; all_goals exact s_bA
          · cbv; exact qte (qan hpl)
      · have e : okI b i k = false := okI_f (.inr (by omega))
        have e1 : r = 0 := by rw [← hr]; unfold resI; rw [e]; rfl
        have e2 : t = false := by rw [← ht, e]
        all_goals exact s_sA
def oBitsB (b : List Int) (i k : Int) : Bool := if k = 0 then decide (0 ≤ i) && decide (i ≤ 8 * ilen b) else if k < 0 ∨ 30 < k then false else okI b i k
def oBitsR (b : List Int) (i k : Int) : Int := if oBitsB b i k then numI b i k else 0
theorem oBits_f {b : List Int} {i k r : Int} {t : Bool} (hb : Hu.BOk b) (hn : ilen b ≤ 1000000) (hr : oBitsR b i k = r) (ht : oBitsB b i k = t) :
    (S0 Tryd.prog).call 129 [.sl 0 1 (.l 0) (.y (ilen b)) none, .i .i64 (.y i), .i .i64 (.y k)] [.r true true (.l 0) 1 (cellsB b)] (fun x _ => Sub x (.tp [.i .i64 (.y r), .b t])) := by
  have hc : ∀ (h1 : 1 ≤ k) (h2 : k ≤ 30) (e : t = okI b i k), (S0 Tryd.prog).call 134 [.sl 0 1 (.l 0) (.y (ilen b)) none, .i .i64 (.y i), .i .i64 (.y k)] [.r true true (.l 0) 1 (cellsB b)] (fun x _ => Sub x (.tp [.i .i64 (.y r), .b t])) := by
    intro h1 h2 e
    refine first_f hb hn h1 h2 ?_ e.symm
    rw [← hr]; unfold oBitsR resI; rw [ht, e]
  obtain ⟨n, hn'⟩ : ∃ n, n = ilen b := ⟨_, rfl⟩
  have h0n := qaf b
  rw [← hn'] at hn h0n hc ⊢
  have hpl := qad b
  generalize hF : cellsB b = F at hpl hc ⊢
  generalize hS : S0 Tryd.prog = S
  refine qac hS I.qyv ?_
  cbv
  repeat' (first
    | (refine s_st hS ?_; try cbv)
    | (refine qab hS ?_ ?_ <;> intro h <;> (try cbv) <;> try exact s_ab h)
    | (refine qai hS ?_; intro _ _; try cbv)
    | (refine qae hS ?_; try cbv)
    | (refine qnc hS ?_ (by simp only [lo]; omega) (by simp only [hi]; omega); intro _ _; try cbv))
  · rename_i h0 _ e
    have e1 : r = 0 := by rw [← hr]; unfold oBitsR; rw [h0, qsm]; simp
    have e2 : t = decide (i ≤ 8 * n) := by rw [← ht]; unfold oBitsB; rw [h0, ← hn']; simp [h]
    refine qaw (.cons (qag (by simp only [Z.v]; omega)) (.cons (qwz ?_) .nil))
    simp only [← hS, Int.ofNat_eq_natCast, cq, Bool.not_eq_true', Bool.not_eq_false', decide_eq_true_eq, decide_eq_false_iff_not, beq_iff_eq, beq_eq_false_iff_ne, ne_eq]
    rw [e2, e]
  · have e2 : t = false := by rw [← ht]; unfold oBitsB; simp [*]
    have e1 : r = 0 := by rw [← hr]; unfold oBitsR; rw [ht, e2]; rfl
    all_goals exact s_sA
  · have e2 : t = false := by rw [← ht]; unfold oBitsB; simp [*]
    have e1 : r = 0 := by rw [← hr]; unfold oBitsR; rw [ht, e2]; rfl
    all_goals exact s_sA
  · have e2 : t = false := by rw [← ht]; unfold oBitsB; rw [if_neg (by omega), if_pos (by omega)]
    have e1 : r = 0 := by rw [← hr]; unfold oBitsR; rw [ht, e2]; rfl
    all_goals exact s_sA
  · have e2 : t = okI b i k := by rw [← ht]; unfold oBitsB; rw [if_neg (by omega), if_neg (by omega)]
    refine qel hS id (hc (by omega) (by omega) e2) .rfl rfl ?_ rfl ?_
    · exact ⟨⟨true, .l 0, 1, F, true, true, .l 0, F, rfl, hpl, rfl, .rfl⟩, trivial⟩
    · cbv; all_goals exact s_sA
end Cz
namespace Cz
open Go Go.RowKit Go.Proofs
def bitsI (b : List Int) (k : Int) : Int := Hu.nbits (b.take k.toNat)
theorem zs_len {Zs : List SV} (h : repS 512 [SV.i .i64 (.l 0)] = Zs) : Zs.length = 512 := by rw [← h, qxp, List.length_replicate]
theorem qoc {T : List SV} (h : codeLit = T) : plains T = true := by rw [← h, ← qhi]; exact qvr 256
theorem gc_c {x y : Bool} : x = true → y = true → (match x with | false => false | true => y) = true := by intro hx hy; subst hx; exact hy
theorem gc_m {F : List SV} {ok : Nat → Bool} : refsBL ok F = true → (match F with | [] => true | x :: xs => refsB ok x && refsBL ok xs) = true := by
  intro h
  cases F with
  | nil => rfl
  | cons x xs => simpa only [refsBL] using h
theorem code_at {c j : Nat} (h : c < 256) (hj : j + 1 ≤ 2) : ((upto 256).drop (c * 2 + j)).take 1 = ((cellC c).drop j).take 1 := by
  have e : upto 256 = (List.range 256).flatMap cellC := by simp [upto]
  rw [e]
  exact qzadw (enc := cellC) (sz := 2) (fun _ => rfl) (l := List.range 256) (i := c) (a := c) (by simp [h]) j 1 hj
theorem code_rd1 {S : Sy} (hS : S0 Tryd.prog = S) {T : List SV} (hT : codeLit = T) {c : Int} {K : SV → Prop} (h0 : 0 ≤ c) (h : c < 256) {m : Int} (hm : clsI c = m)
    (h1 : K (.i .i64 (.y m))) : S.rd T c 2 1 1 false K := by
  subst hT hm
  rw [← qhi]
  refine s_rd hS h0 (by rw [qfz (Nat.le_refl _)]; omega) (Nat.le_refl _) (v := .i .i64 (.y (clsI c))) ?_ h1
  rw [code_at (by omega) (by omega)]
  rfl
theorem code_rd0 {S : Sy} (hS : S0 Tryd.prog = S) {T : List SV} (hT : codeLit = T) {c : Int} {K : SV → Prop} (h0 : 0 ≤ c) (h : c < 256) {m : Int} (hm : codeI c = m)
    (h1 : K (.i .i64 (.y m))) : S.rd T c 2 0 1 false K := by
  subst hT hm
  rw [← qhi]
  refine s_rd hS h0 (by rw [qfz (Nat.le_refl _)]; omega) (by omega) (v := .i .i64 (.y (codeI c))) ?_ h1
  rw [code_at (by omega) (by omega)]
  rfl
theorem qzi (c : Int) : 5 ≤ clsI c ∧ clsI c ≤ 11 := by
  unfold clsI
  rcases Hu.qjx c.toNat with h | h | h | h <;> rw [h] <;> decide
theorem qwu {b : List Int} {j v : Int} (hv : b[j.toNat]? = some v) (h0 : 0 ≤ j) : bitsI b (j + 1) = bitsI b j + clsI v := by
  unfold bitsI Hu.nbits Hu.enc clsI
  rw [qir hv h0, List.flatMap_append, List.length_append]
  simp [Hu.cod, Hu.qbh]
theorem qok {b : List Int} {j : Int} (h0 : 0 ≤ j) : 0 ≤ bitsI b j ∧ bitsI b j ≤ 11 * j := by
  unfold bitsI Hu.nbits Hu.enc
  have h1 : ∀ (l : List Int), (l.flatMap fun v => Hu.cod v.toNat).length ≤ 11 * l.length := by
    intro l
    induction l with
    | nil => simp
    | cons v l ih =>
      have := qzi v
      unfold clsI at this
      simp only [List.flatMap_cons, List.length_append, List.length_cons, Hu.cod, Hu.qbh] at ih ⊢
      omega
  have h2 := h1 (b.take j.toNat)
  have h3 : (b.take j.toNat).length ≤ j.toNat := by rw [List.length_take]; omega
  omega
theorem Bits_f {b : List Int} {r : Int} (hb : Hu.BOk b) (hn : ilen b ≤ 1000000) (hr : bitsI b (ilen b) = r) :
    (S0 Tryd.prog).call 101 [.sl 0 1 (.l 0) (.y (ilen b)) none] [.r true true (.l 0) 1 (cellsB b)] (fun x _ => Sub x (.i .i64 (.y r))) := by
  obtain ⟨n, hn'⟩ : ∃ n, n = ilen b := ⟨_, rfl⟩
  have h0n := qaf b
  rw [← hn'] at hn h0n hr ⊢
  have hpl := qad b
  generalize hF : cellsB b = F at hpl ⊢
  have hc := codes_f
  generalize hT : codeLit = T at hc
  have hTl := qua hT
  generalize hS : S0 Tryd.prog = S
  refine qac hS I.qzacf ?_
  unfold I.qzabt
  generalize hZ : repS 512 [SV.i .i64 (.l 0)] = Zs
  have hZn := zs_len hZ
  have hTn : T.length = 512 := by rw [← qcj]; exact hTl
  have hTp := qoc hT
  cbv
  refine qcf hS hc .rfl rfl (by rw [← hT]; rfl) ?_
  cbv
  refine qxg hS (by subst hS; simp only [qzadv, qwq, hTn]; rfl) ?_
  refine s_all hS hZn hTn hTp ?_
  cbv
  refine qba hS 2 I.qqq (fun x : Int × Int => 0 ≤ x.1 ∧ x.1 ≤ n ∧ x.2 = bitsI b x.1)
    (fun x => [(9, .i .i64 (.y x.1)), (2, .i .i64 (.y x.2))]) (fun x => [])
    (fun x => (n - x.1).toNat) (0, 0) rfl ⟨⟨Int.le_refl _, by dsimp only; omega, rfl⟩, rfl, ?_, ?_, ?_⟩ ?_
  · cbv; all_goals exact s_sA
  · cbv; all_goals exact s_bA
  · cbv; exact gc_c (gc_m (qan hpl)) (gc_c (gc_m (qan hTp)) rfl)
  · intro x
    obtain ⟨j, w⟩ := x
    intro hx
    dsimp only at hx
    cbv
    obtain ⟨g0, g1, g2⟩ := hx
    repeat' (first
      | (refine s_st hS ?_; try cbv)
      | (refine qab hS ?_ ?_ <;> intro h <;> (try cbv) <;> try exact s_ab h)
      | (refine qai hS ?_; intro _ _; try cbv)
      | (refine qae hS ?_; try cbv))
    · obtain ⟨v, hv⟩ := qek (l := b) (i := j) (by omega) (by omega)
      have hb0 := hb v (List.mem_of_getElem? hv)
      obtain ⟨m, hm⟩ : ∃ m, clsI v = m := ⟨_, rfl⟩
      have hmb := qzi v
      rw [hm] at hmb
      have hbd := qok (b := b) g0
      have hnx := qwu hv g0
      rw [hm] at hnx
      repeat' (first
        | (refine s_st hS ?_; try cbv)
        | (refine qab hS ?_ ?_ <;> intro h <;> (try cbv) <;> try exact s_ab h)
        | (refine qai hS ?_; intro _ _; try cbv)
        | (refine qae hS ?_; try cbv)
        | (refine rowB hS hF hv rfl (by omega) ?_; try cbv)
        | (refine qwg (qwf hTl) ?_; cbv)
        | (refine code_rd1 hS hT hb0.1 hb0.2 hm ?_; cbv))
      rename_i w2 hw2 j2 hj2
      refine ⟨(j2, w2), by dsimp only; omega, ⟨by dsimp only; omega, by dsimp only; omega, by dsimp only; rw [hj2, hnx]; omega⟩, rfl, ?_, ?_, ?_⟩
      · cbv; all_goals exact s_sA
      · cbv; all_goals exact s_bA
      · cbv; exact gc_c (gc_m (qan hpl)) (gc_c (gc_m (qan hTp)) rfl)
    · have e : w = r := by rw [← hr, g2, show j = n by omega]
      all_goals exact s_sA
end Cz
namespace Cz
open Go Go.RowKit Go.Proofs
def encT (b : List Int) (j : Int) : List Bool := Hu.enc (b.take j.toNat)
def outI (b : List Int) (j q : Int) : List Int := Hu.packs q.toNat (encT b j)
def rowI (b : List Int) (j q : Int) : Int := Hu.valB ((encT b j).drop (8 * q.toNat))
theorem qhy (b : List Int) (j : Int) : ((encT b j).length : Int) = bitsI b j := rfl
theorem qzacj {b : List Int} {j v : Int} (hv : b[j.toNat]? = some v) (h0 : 0 ≤ j) : encT b (j + 1) = encT b j ++ Hu.cod v.toNat := by
  unfold encT Hu.enc
  rw [qir hv h0, List.flatMap_append]
  simp
theorem qox : ∀ (q : Nat) (E : List Bool), Hu.packs (q + 1) E = Hu.packs q E ++ [(Hu.valB ((E.drop (8 * q)).take 8) : Int)]
  | 0, E => by simp [Hu.packs]
  | q + 1, E => by
    rw [Hu.packs, qox q (E.drop 8), Hu.packs, List.drop_drop, show 8 + 8 * q = 8 * (q + 1) by omega]
    rfl
theorem qsj : ∀ (q : Nat) (E D : List Bool), 8 * q ≤ E.length → Hu.packs q (E ++ D) = Hu.packs q E
  | 0, _, _, _ => rfl
  | q + 1, E, D, h => by
    rw [Hu.packs, Hu.packs, List.take_append_of_le_length (by omega), List.drop_append_of_le_length (by omega), qsj q _ _ (by simp; omega)]
theorem qge (k : Nat) : ((2 ^ k : Nat) : Int) = (2 : Int) ^ k := by norm_cast
theorem row_next {b : List Int} {j q v : Int} (hv : b[j.toNat]? = some v) (h0 : 0 ≤ j) (hq : 0 ≤ q) (h : 8 * q ≤ bitsI b j) (hb : 0 ≤ v ∧ v < 256) :
    rowI b (j + 1) q = rowI b j q * 2 ^ (clsI v).toNat + codeI v := by
  unfold rowI
  rw [qzacj hv h0, List.drop_append_of_le_length (by rw [← qhy] at h; omega), Hu.qeh]
  unfold clsI codeI Hu.cod
  rw [Hu.qbh, Hu.qjy _ _ (Hu.qzaeb (by omega))]
  push_cast
  simp
theorem out_next {b : List Int} {j q v : Int} (hv : b[j.toNat]? = some v) (h0 : 0 ≤ j) (hq : 0 ≤ q) (h : 8 * q ≤ bitsI b j) : outI b (j + 1) q = outI b j q := by
  unfold outI
  rw [qzacj hv h0, qsj _ _ _ (by rw [← qhy] at h; omega)]
theorem valB_mod (A B : List Bool) : Hu.valB (A ++ B) % 2 ^ B.length = Hu.valB B := by
  rw [Hu.qeh, Nat.add_comm, Nat.add_mul_mod_self_right, Nat.mod_eq_of_lt (Hu.qlm B)]
theorem valB_div (A B : List Bool) : Hu.valB (A ++ B) / 2 ^ B.length = Hu.valB A := by
  rw [Hu.qeh, Nat.add_comm, Nat.add_mul_div_right _ _ (Nat.two_pow_pos _), Nat.div_eq_of_lt (Hu.qlm B), Nat.zero_add]
theorem row_mask {b : List Int} {j q q0 : Int} (hq0 : 0 ≤ q0) (hq : q0 ≤ q) (h : 8 * q ≤ bitsI b j) : rowI b j q0 % 2 ^ (bitsI b j - 8 * q).toNat = rowI b j q := by
  unfold rowI
  rw [← qhy] at h ⊢
  generalize encT b j = E at h ⊢
  have e : E.drop (8 * q0.toNat) = (E.drop (8 * q0.toNat)).take (8 * (q.toNat - q0.toNat)) ++ E.drop (8 * q.toNat) := by
    conv => lhs; rw [← List.take_append_drop (8 * (q.toNat - q0.toNat)) (E.drop (8 * q0.toNat))]
    rw [List.drop_drop, show 8 * q0.toNat + 8 * (q.toNat - q0.toNat) = 8 * q.toNat by omega]
  have hl : ((E.length : Int) - 8 * q).toNat = (E.drop (8 * q.toNat)).length := by rw [List.length_drop]; omega
  rw [hl, ← qge, ← Int.natCast_emod]
  rw [e, valB_mod]
theorem row_bd {b : List Int} {j q : Int} (hq : 0 ≤ q) (h : 8 * q ≤ bitsI b j) : 0 ≤ rowI b j q ∧ rowI b j q < 2 ^ (bitsI b j - 8 * q).toNat := by
  unfold rowI
  rw [← qhy] at h ⊢
  have h1 := Hu.qlm ((encT b j).drop (8 * q.toNat))
  rw [List.length_drop, show (encT b j).length - 8 * q.toNat = (((encT b j).length : Int) - 8 * q).toNat by omega] at h1
  rw [← qge]
  omega
theorem out_more {b : List Int} {j q q0 r s u x : Int} (hq0 : 0 ≤ q0) (hq : q0 ≤ q) (h : 8 * (q + 1) ≤ bitsI b j) (hr : rowI b j q0 = r) (hu : u = bitsI b j - 8 * (q + 1)) (hs : s = r / 2 ^ u.toNat) (hx : x = s % 256) :
    outI b j (q + 1) = outI b j q ++ [x] := by
  unfold outI
  rw [show (q + 1).toNat = q.toNat + 1 by omega, qox]
  congr 2
  rw [hx, hs, ← hr, hu]
  unfold rowI
  rw [← qhy] at h ⊢
  generalize encT b j = E at h ⊢
  have e1 : E.drop (8 * q0.toNat) = (E.drop (8 * q0.toNat)).take (8 * (q.toNat - q0.toNat)) ++ ((E.drop (8 * q.toNat)).take 8 ++ E.drop (8 * (q.toNat + 1))) := by
    have e2 : E.drop (8 * q.toNat) = (E.drop (8 * q.toNat)).take 8 ++ E.drop (8 * (q.toNat + 1)) := by
      conv => lhs; rw [← List.take_append_drop 8 (E.drop (8 * q.toNat))]
      rw [List.drop_drop, show 8 * q.toNat + 8 = 8 * (q.toNat + 1) by omega]
    rw [← e2]
    conv => lhs; rw [← List.take_append_drop (8 * (q.toNat - q0.toNat)) (E.drop (8 * q0.toNat))]
    rw [List.drop_drop, show 8 * q0.toNat + 8 * (q.toNat - q0.toNat) = 8 * q.toNat by omega]
  have hl : ((E.length : Int) - 8 * (q + 1)).toNat = (E.drop (8 * (q.toNat + 1))).length := by rw [List.length_drop]; omega
  rw [hl, e1, ← List.append_assoc, ← qge, ← Int.natCast_ediv, valB_div]
  have h8 : ((E.drop (8 * q.toNat)).take 8).length = 8 := by rw [List.length_take, List.length_drop]; omega
  have := valB_mod ((E.drop (8 * q0.toNat)).take (8 * (q.toNat - q0.toNat))) ((E.drop (8 * q.toNat)).take 8)
  rw [h8] at this
  rw [← this]
  rfl
theorem put_end0 {b : List Int} {n q : Int} (hn : n = ilen b) (hq : 0 ≤ q) (h : bitsI b n = 8 * q) : Hu.put b = outI b n q := by
  have e : encT b n = Hu.enc b := by unfold encT; rw [qcb (by omega)]
  have hl := qhy b n
  rw [h, e] at hl
  unfold outI Hu.put Hu.pack
  rw [e]
  have : Hu.padded (Hu.enc b) = Hu.enc b := by unfold Hu.padded Hu.pad; rw [show (8 - (Hu.enc b).length % 8) % 8 = 0 by omega]; simp
  rw [this, show (Hu.enc b).length / 8 = q.toNat by omega]
theorem put_end1 {b : List Int} {n q w u x : Int} (hn : n = ilen b) (hq : 0 ≤ q) (hu : u = 8 - (bitsI b n - 8 * q)) (h1 : 0 < bitsI b n - 8 * q) (h2 : bitsI b n - 8 * q < 8) (hr : rowI b n q = w)
    (hx : x = w * 2 ^ u.toNat + (2 ^ u.toNat - 1)) : Hu.put b = outI b n q ++ [x] := by
  have e : encT b n = Hu.enc b := by unfold encT; rw [qcb (by omega)]
  have hl := qhy b n
  rw [e] at hl
  unfold rowI at hr
  unfold outI Hu.put Hu.pack
  rw [Hu.qow, e]
  rw [e] at hr
  rw [show 8 * (((Hu.enc b).length + 7) / 8) / 8 = q.toNat + 1 by omega, qox]
  have hp : Hu.pad (Hu.enc b).length = u.toNat := by unfold Hu.pad; omega
  have e1 : Hu.packs q.toNat (Hu.padded (Hu.enc b)) = Hu.packs q.toNat (Hu.enc b) := by unfold Hu.padded; rw [qsj _ _ _ (by omega)]
  rw [e1]
  congr 2
  unfold Hu.padded
  rw [hp, List.drop_append_of_le_length (by omega), List.take_of_length_le (by simp; omega), Hu.qeh, List.length_replicate, Hu.qmx, hx, ← hr]
  have := Nat.two_pow_pos u.toNat
  rw [← qge, Int.natCast_add, Int.natCast_mul, Int.natCast_sub (by omega)]
  rfl
theorem qya (b : List Int) (j q : Int) (hq : 0 ≤ q) : ilen (outI b j q) = q := by unfold ilen outI; rw [Hu.qsk]; omega
end Cz
namespace Cz
open Go Go.RowKit Go.Proofs
theorem s_cv8 {S : Sy} {P : Program} {a : Int} {K : Int → Prop} (hS : S0 P = S) (h : ∀ r, r = a % 256 → K r) : S.cv .u8 a K := by
  refine s_cve hS _ ?_ (h _ rfl)
  simp [IntKind.wrap, IntKind.bits, IntKind.signed]
theorem qjz {S : Sy} (hS : S0 Tryd.prog = S) {l l' : List Int} {F G : List SV} {x st' : Int} {ro lit : Bool} {st : Z} (hF : cellsB l = F) (hG : cellsB l' = G) (hl : l' = l ++ [x]) (hst : st.v = st') :
    SubB (.r ro lit st 1 (S.app F [.i .u8 (.y x)])) (.r ro false (.y st') 1 G) := by
  subst hS hF hG hl
  refine .r ?_ hst (qad _)
  rw [app_eq]
  have : cellsB l ++ [SV.i .u8 (.y x)] = cellsB (l ++ [x]) := by unfold cellsB; rw [List.flatMap_append]; rfl
  rw [this]
  exact .rfl
theorem qil {S : Sy} (hS : S0 Tryd.prog = S) {q : Int} {sz : Nat} {G : List SV} {k : Unit → Prop} (h : ilen G = q * sz) (hk : k ()) : S.chk (S.cmp .eq (S.sc q sz) (S.flen G)) k := by
  subst hS
  refine qxg rfl ?_ hk
  rw [qwq, sc_eq, qzadv]
  unfold ilen at h
  exact decide_eq_true h.symm
theorem qas (l : List Int) : ilen (cellsB l) = ilen l := by rw [qkn]; simp [ilen]
theorem qzaau {S : Sy} (hS : S0 Tryd.prog = S) {n0 k : Nat} {l L : List Int} {F G : List SV} {x : Int} {lit : Bool} {st nn : Z} {l' : List Blk} (hF : cellsB l = F) (hG : cellsB L = G) (hl : L = l ++ [x]) (hk : n0 ≤ k)
    (hn : nn.v = ilen l + 1) (hB : l'[k]? = some (.r false lit st 1 (S.app F [.i .u8 (.y x)]))) : RowIs n0 1 G (.sl k 1 (.l 0) nn none) l' := by
  subst hS hF hG hl
  have e : (S0 Tryd.prog).app (cellsB l) [SV.i .u8 (.y x)] = cellsB (l ++ [x]) := by rw [app_eq]; unfold cellsB; rw [List.flatMap_append]; rfl
  rw [e] at hB
  refine .inr ⟨k, nn, lit, st, _, hk, rfl, hB, .rfl, qad _, ?_⟩
  have := qas (l ++ [x])
  unfold ilen at this hn
  rw [this, hn]
  simp
theorem qgx {n0 k : Nat} {l : List Int} {G : List SV} {lit : Bool} {st nn : Z} {l' : List Blk} (hG : cellsB l = G) (hk : n0 ≤ k)
    (hn : nn.v = ilen l) (hB : l'[k]? = some (.r false lit st 1 G)) : RowIs n0 1 G (.sl k 1 (.l 0) nn none) l' := by
  subst hG
  refine .inr ⟨k, nn, lit, st, _, hk, rfl, hB, .rfl, qad _, ?_⟩
  have := qas l
  unfold ilen at this hn
  rw [this, hn]
  simp
theorem codeI_bd {v : Int} (h : 0 ≤ v ∧ v < 256) : 0 ≤ codeI v ∧ codeI v < 2 ^ (clsI v).toNat ∧ codeI v < 2048 := by
  have h1 := Hu.qzaeb (c := v.toNat) (by omega)
  have h2 : (2 : Nat) ^ Hu.cls v.toNat ≤ 2 ^ 11 := Nat.pow_le_pow_right (by omega) (by rcases Hu.qjx v.toNat with h | h | h | h <;> omega)
  unfold codeI clsI
  rw [Int.toNat_natCast, ← qge]
  omega
theorem row_bd' {b : List Int} {j q : Int} (hq : 0 ≤ q) (h : 8 * q ≤ bitsI b j) {k : Nat} (hk : bitsI b j - 8 * q ≤ k) : 0 ≤ rowI b j q ∧ rowI b j q < 2 ^ k := by
  have h1 := row_bd hq h
  have h2 := qim (m := (bitsI b j - 8 * q).toNat) (n := k) (by omega)
  omega
theorem put_f {b : List Int} (hb : Hu.BOk b) (hn : ilen b ≤ 1000000) :
    (S0 Tryd.prog).call 103 [.sl 0 1 (.l 0) (.y (ilen b)) none] [.r true true (.l 0) 1 (cellsB b)] (OwnR 1 1 (cellsB (Hu.put b)) false []) := by
  obtain ⟨n, hn'⟩ : ∃ n, n = ilen b := ⟨_, rfl⟩
  have h0n := qaf b
  rw [← hn'] at hn h0n ⊢
  have hpl := qad b
  generalize hF : cellsB b = F at hpl ⊢
  have hc := codes_f
  generalize hT : codeLit = T at hc
  have hTl := qua hT
  have hTn : T.length = 512 := by rw [← qcj]; exact hTl
  have hTp := qoc hT
  generalize hP : cellsB (Hu.put b) = P
  generalize hS : S0 Tryd.prog = S
  refine qac hS I.qzadu ?_
  unfold I.huff_Put
  generalize hZ : repS 512 [SV.i .i64 (.l 0)] = Zs
  have hZn := zs_len hZ
  cbv
  refine qcf hS hc .rfl rfl (by rw [← hT]; rfl) ?_
  cbv
  refine qxg hS (by subst hS; simp only [qzadv, qwq, hTn]; rfl) ?_
  refine s_all hS hZn hTn hTp ?_
  cbv
  refine qvt hS 2 1 (by omega) rfl ?_
  cbv
  refine qba hS 3 I.qtz (fun x : Int × Int × Int × Int × Int × List SV => 0 ≤ x.1 ∧ x.1 ≤ n ∧ 0 ≤ x.2.2.2.1 ∧ x.2.1 = bitsI b x.1 - 8 * x.2.2.2.1 ∧ 0 ≤ x.2.1 ∧ x.2.1 < 8 ∧ x.2.2.1 = rowI b x.1 x.2.2.2.1 ∧ x.2.2.2.2.2 = cellsB (outI b x.1 x.2.2.2.1))
    (fun x => [(12, .i .i64 (.y x.1)), (4, .i .i64 (.y x.2.1)), (3, .i .u64 (.y x.2.2.1)), (2, .sl 2 1 (.l 0) (.y x.2.2.2.1) none)]) (fun x => [(2, .r false false (.y x.2.2.2.2.1) 1 x.2.2.2.2.2)])
    (fun x => (n - x.1).toNat) (0, 0, 0, 0, 0, []) rfl ⟨⟨Int.le_refl _, by dsimp only; omega, by dsimp only; omega, rfl, by dsimp only; omega, by dsimp only; omega, rfl, rfl⟩, rfl, ?_, ?_, ?_⟩ ?_
  · cbv; (repeat' (first | exact qdt | exact Sub.rfl | exact SubL.nil | refine SubL.cons ?_ ?_ | exact qag rfl | exact qcz rfl rfl))
  · cbv; refine ⟨.rfl, .rfl, .r .rfl rfl rfl, trivial⟩
  · cbv; exact gc_c (gc_m (qan hpl)) (gc_c (gc_m (qan hTp)) rfl)
  · intro x
    obtain ⟨j, u, w, q, st, G⟩ := x
    intro hx
    dsimp only at hx
    cbv
    obtain ⟨g0, g1, g2, g3, g4, g5, g6, g7⟩ := hx
    refine qab hS ?_ ?_ <;> intro h <;> cbv
    · obtain ⟨v, hv⟩ := qek (l := b) (i := j) (by omega) (by omega)
      have hb0 := hb v (List.mem_of_getElem? hv)
      obtain ⟨m, hm⟩ : ∃ m, clsI v = m := ⟨_, rfl⟩
      obtain ⟨c, hcv⟩ : ∃ c, codeI v = c := ⟨_, rfl⟩
      have hmb := qzi v
      rw [hm] at hmb
      have hbd := qok (b := b) g0
      have hnx := qwu hv g0
      rw [hm] at hnx
      repeat' (first
        | (refine s_st hS ?_; try cbv)
        | (refine qab hS ?_ ?_ <;> intro h <;> (try cbv) <;> try exact s_ab h)
        | (refine qai hS ?_; intro _ _; try cbv)
        | (refine qae hS ?_; try cbv)
        | (refine rowB hS hF hv rfl (by omega) ?_; try cbv))
      have hcb := codeI_bd hb0
      rw [hcv, hm] at hcb
      have hW := row_next hv g0 g2 (by omega) hb0
      rw [hm, hcv, ← g6] at hW
      have hWb := row_bd' (b := b) (j := j + 1) (q := q) g2 (by omega) (k := 18) (by omega)
      obtain ⟨p, hp⟩ : ∃ p : Int, 2 ^ m.toNat = p := ⟨_, rfl⟩
      rw [hp] at hW hcb
      obtain ⟨W, hWe⟩ : ∃ W, rowI b (j + 1) q = W := ⟨_, rfl⟩
      rw [hWe] at hW hWb
      have hw0 := (row_bd (b := b) (j := j) (q := q) g2 (by omega)).1
      rw [← g6] at hw0
      have hwp : 0 ≤ w * p := Int.mul_nonneg hw0 (by omega)
      refine qam hS rfl I.qum (by decide +kernel) ?_
      cbv
      repeat' (first
        | (refine s_st hS ?_; try cbv)
        | (refine qab hS ?_ ?_ <;> intro h <;> (try cbv) <;> try exact s_ab h)
        | (refine qai hS ?_; intro _ _; try cbv)
        | (refine qae hS ?_; try cbv)
        | (refine rowB hS hF hv rfl (by omega) ?_; try cbv)
        | (refine qwg (qwf hTl) ?_; cbv)
        | (refine code_rd1 hS hT hb0.1 hb0.2 hm ?_; cbv)
        | (refine code_rd0 hS hT hb0.1 hb0.2 hcv ?_; cbv)
        | (refine And.intro rfl ?_; try cbv)
        | (refine qpy hS (c := p) (by rw [← hp]; congr 1; simp only [IntKind.bits]; omega) ?_ (by simp only [lo]; omega) (by simp only [hi]; omega); intro _ _; cbv)
        | (refine s_orl hS hp (by omega) (by simp only [*]; exact Int.mul_emod_left _ _) (by omega) (by omega) (by simp only [hi]; omega) ?_; intro _ _; cbv))
      rename_i r1 hr1 r2 hr2 u1 hu1
      obtain ⟨j1, h_j1⟩ : ∃ j1, j1 = j + 1 := ⟨_, rfl⟩
      rw [← h_j1] at hnx hWe
      have hout : G = cellsB (outI b j1 q) := by rw [g7, h_j1, out_next hv g0 g2 (by omega)]
      have hr2W : rowI b j1 q = r2 := by rw [hWe]; omega
      clear hp hwp hr1 hr2 hW hWe hcb
      refine qba hS 3 I.qty (fun x : Int × Int × Int × List SV => q ≤ x.2.1 ∧ x.1 = bitsI b j1 - 8 * x.2.1 ∧ 0 ≤ x.1 ∧ x.1 ≤ 18 ∧ x.2.2.2 = cellsB (outI b j1 x.2.1))
        (fun x => [(4, .i .i64 (.y x.1)), (2, .sl 2 1 (.l 0) (.y x.2.1) none)]) (fun x => [(2, .r false false (.y x.2.2.1) 1 x.2.2.2)])
        (fun x => x.1.toNat) (u1, q, st, G) rfl ⟨⟨by dsimp only; omega, by dsimp only; omega, by dsimp only; omega, by dsimp only; omega, hout⟩, rfl, ?_, ?_, ?_⟩ ?_
      · cbv; all_goals exact s_sA
      · cbv; all_goals exact s_bA
      · cbv; exact gc_c (gc_m (qan hpl)) (gc_c (gc_m (qan hTp)) rfl)
      · intro x
        obtain ⟨y, q1, st1, G1⟩ := x
        intro hx
        dsimp only at hx
        cbv
        obtain ⟨k0, k1, k2, k3, k4⟩ := hx
        refine qab hS ?_ ?_ <;> intro h <;> cbv
        · have hG1 : ilen G1 = q1 := by rw [k4, qas, qya _ _ _ (by omega)]
          repeat' (first
            | (refine s_st hS ?_; try cbv)
            | (refine qab hS ?_ ?_ <;> intro h <;> (try cbv) <;> try exact s_ab h)
            | (refine qai hS ?_; intro _ _; try cbv)
            | (refine qae hS ?_; try cbv)
            | (refine s_shr hS (by simp only [IntKind.bits]; omega) ?_; intro _ _; cbv)
            | (refine s_cv8 hS ?_; intro _ _; cbv))
          refine qil hS (by rw [hG1]; omega) ?_
          cbv
          repeat' (first
            | (refine s_st hS ?_; try cbv)
            | (refine qab hS ?_ ?_ <;> intro h <;> (try cbv) <;> try exact s_ab h)
            | (refine qai hS ?_; intro _ _; try cbv)
            | (refine qae hS ?_; try cbv))
          rename_i y2 hy2 s2 hs2 x2 hx2
          obtain ⟨q2, h_q2⟩ : ∃ q2, q2 = q1 + 1 := ⟨_, rfl⟩
          obtain ⟨st2, h_st2⟩ : ∃ st2, st2 = S.flen G1 := ⟨_, rfl⟩
          obtain ⟨G2, h_G2⟩ : ∃ G2, G2 = cellsB (outI b j1 q2) := ⟨_, rfl⟩
          refine ⟨(y2, q2, st2, G2), by dsimp only; omega, ⟨by dsimp only; omega, by dsimp only; omega, by dsimp only; omega, by dsimp only; omega, h_G2⟩, rfl, ?_, ?_, ?_⟩
          · cbv; (repeat' (first | exact qdt | exact Sub.rfl | exact SubL.nil | refine SubL.cons ?_ ?_ | exact qag rfl | (refine qcz rfl ?_; simp only [Z.v, ← hS, Int.ofNat_eq_natCast, cq, Bool.not_eq_true', Bool.not_eq_false', decide_eq_true_eq, decide_eq_false_iff_not, beq_iff_eq, beq_eq_false_iff_ne, ne_eq]; omega)))
          · cbv
            refine ⟨.rfl, .rfl, qjz hS k4.symm h_G2.symm ?_ h_st2.symm, trivial⟩
            rw [h_q2]
            exact out_more g2 k0 (by omega) hr2W (by omega) hs2 hx2
          · cbv; exact gc_c (gc_m (qan hpl)) (gc_c (gc_m (qan hTp)) rfl)
        · obtain ⟨p, hp⟩ : ∃ p : Int, 2 ^ y.toNat = p := ⟨_, rfl⟩
          have hp1 : p < 512 := by
            have := qim (m := y.toNat) (n := 8) (by omega)
            rw [hp] at this
            omega
          have hp0 : 0 < p := by rw [← hp]; exact qdm _
          repeat' (first
            | (refine s_st hS ?_; try cbv)
            | (refine qab hS ?_ ?_ <;> intro h <;> (try cbv) <;> try exact s_ab h)
            | (refine qai hS ?_; intro _ _; try cbv)
            | (refine qae hS ?_; try cbv)
            | (refine qpy hS (c := p) (by rw [← hp]; congr 1; simp only [IntKind.bits]; omega) ?_ (by simp only [lo]; omega) (by simp only [hi]; omega); intro _ _; cbv)
            | (refine qgv hS (c := p) (m := y.toNat) ⟨by omega, hp, by simp only [IntKind.bits]; omega⟩ ?_; intro _ _; cbv))
          rename_i s1 hs1 s2 hs2 w3 hw3 j3 hj3
          have hw3' : w3 = rowI b j1 q1 := by rw [hw3, ← hp, ← hr2W, k1, row_mask g2 k0 (by omega)]
          refine ⟨(j3, y, w3, q1, st1, G1), by dsimp only; omega, ⟨by dsimp only; omega, by dsimp only; omega, by dsimp only; omega, ?_, by dsimp only; omega, by dsimp only; omega, ?_, ?_⟩, rfl, ?_, ?_, ?_⟩
          · dsimp only; rw [k1, hj3, ← h_j1]
          · dsimp only; rw [hw3', hj3, ← h_j1]
          · dsimp only; rw [k4, hj3, ← h_j1]
          · cbv; all_goals exact s_sA
          · cbv; all_goals exact s_bA
          · cbv; exact gc_c (gc_m (qan hpl)) (gc_c (gc_m (qan hTp)) rfl)
    · have hG : ilen G = q := by rw [g7, qas, qya _ _ _ (by omega)]
      obtain ⟨p, hp⟩ : ∃ p : Int, 2 ^ (8 - u).toNat = p := ⟨_, rfl⟩
      have hp1 : p < 512 := by
        have := qim (m := (8 - u).toNat) (n := 8) (by omega)
        rw [hp] at this
        omega
      have hp0 : 0 < p := by rw [← hp]; exact qdm _
      have hwb := row_bd' (b := b) (j := j) (q := q) g2 (by omega) (k := u.toNat) (by omega)
      rw [← g6] at hwb
      have hwp0 : 0 ≤ w * p := Int.mul_nonneg hwb.1 (by omega)
      have hwp : w * p + p ≤ 256 := by
        have h1 : (w + 1) * p ≤ 2 ^ u.toNat * p := Int.mul_le_mul_of_nonneg_right (by omega) (by omega)
        have h2 : (2 : Int) ^ u.toNat * p = 256 := by
          rw [← hp, ← Int.pow_add, show u.toNat + (8 - u).toNat = 8 by omega]; rfl
        rw [Int.add_mul] at h1
        omega
      have hbd := qok (b := b) g0
      obtain rfl : j = n := by omega
      repeat' (first
        | (refine s_st hS ?_; try cbv)
        | (refine qab hS ?_ ?_ <;> intro h <;> (try cbv) <;> try exact s_ab h)
        | (refine qai hS ?_; intro _ _; try cbv)
        | (refine qae hS ?_; try cbv)
        | (refine qam hS rfl I.qul (by decide +kernel) ?_; cbv)
        | (refine qpy hS (c := p) (by rw [← hp]; congr 1; simp only [IntKind.bits]; omega) ?_ (by simp only [lo]; omega) (by simp only [hi]; omega); intro _ _; cbv)
        | (refine s_orl hS hp (by omega) (by simp only [*]; exact Int.mul_emod_left _ _) (by omega) (by omega) (by simp only [hi]; omega) ?_; intro _ _; cbv)
        | (refine And.intro rfl ?_; try cbv)
        | (refine qil hS (by rw [hG]; omega) ?_; cbv))
      · rename_i e1 he1 e2 he2 e3 he3 e4 he4 x hx
        refine ⟨_, .rfl, ?_⟩
        have hend := put_end1 (u := 8 - u) (x := x) hn' g2 (by omega) (by omega) (by omega) g6.symm (by rw [hp, hx, he2, he4, he3]; omega)
        exact qzaau hS g7.symm hP hend (by omega) (by rw [qya _ _ _ g2]; simp only [Z.v, ← hS, Int.ofNat_eq_natCast, cq, Bool.not_eq_true', Bool.not_eq_false', decide_eq_true_eq, decide_eq_false_iff_not, beq_iff_eq, beq_eq_false_iff_ne, ne_eq]; omega) rfl
      · have hu0 : u = 0 := by omega
        have hPG : P = G := by rw [g7, ← hP, put_end0 hn' g2 (by omega)]
        refine ⟨_, .rfl, ?_⟩
        rw [hPG]
        exact qgx g7.symm (by omega) (by rw [qya _ _ _ g2]; rfl) rfl
end Cz
namespace Cz
open Go Go.RowKit Go.Proofs
def dropI (b : List Int) (i : Int) : List Bool := (Hu.bl b).drop i.toNat
def at1I (b : List Int) (i m : Int) : Option Nat := if okI b i m then findO (numI b i m) m else none
def decI (b : List Int) (i : Int) : List Int × List Bool := Hu.dec (dropI b i)
theorem qts {b : List Int} {i : Int} (h0 : 0 ≤ i) (h : i ≤ 8 * ilen b) : ((dropI b i).length : Int) = 8 * ilen b - i := by
  unfold dropI ilen at *
  rw [List.length_drop, Hu.qwt]; omega
theorem qkj {b : List Int} {i : Int} (h0 : 0 ≤ i) (m : Nat) : (dropI b i).drop m = dropI b (i + m) := by
  unfold dropI; rw [List.drop_drop, show (i + m).toNat = i.toNat + m by omega]
theorem qeg {b : List Int} {i : Int} (h0 : 0 ≤ i) (m : Nat) (hm : 0 < m := by omega) : Hu.at1 (dropI b i) m = at1I b i m := by
  unfold at1I Hu.at1 okI
  have e : (m ≤ (dropI b i).length) ↔ ((decide (0 ≤ i) && decide (i + m ≤ 8 * ilen b)) = true) := by
    unfold dropI ilen
    rw [List.length_drop, Hu.qwt, Bool.and_eq_true, decide_eq_true_eq, decide_eq_true_eq]
    constructor
    · intro h; constructor <;> omega
    · intro h; omega
  by_cases h : m ≤ (dropI b i).length
  · rw [if_pos h, if_pos (e.1 h)]
    unfold findO numI dropI
    rw [if_pos ⟨by omega, by omega⟩]
    simp
  · rw [if_neg h, if_neg (fun h' => h (e.2 h'))]
theorem dec_5 {b : List Int} {i : Int} (h0 : 0 ≤ i) {c : Nat} (h : at1I b i 5 = some c) : decI b i = ((c : Int) :: (decI b (i + 5)).1, (decI b (i + 5)).2) := by
  unfold decI
  rw [Hu.qkl (c := c) (m := 5) (by unfold Hu.sym; rw [qeg h0 5]; simp [h]), qkj h0]; rfl
theorem dec_6 {b : List Int} {i : Int} (h0 : 0 ≤ i) {c : Nat} (h5 : at1I b i 5 = none) (h : at1I b i 6 = some c) : decI b i = ((c : Int) :: (decI b (i + 6)).1, (decI b (i + 6)).2) := by
  unfold decI
  rw [Hu.qkl (c := c) (m := 6) (by unfold Hu.sym; rw [qeg h0 5, qeg h0 6]; simp [h, h5]), qkj h0]; rfl
theorem dec_7 {b : List Int} {i : Int} (h0 : 0 ≤ i) {c : Nat} (h5 : at1I b i 5 = none) (h6 : at1I b i 6 = none) (h : at1I b i 7 = some c) : decI b i = ((c : Int) :: (decI b (i + 7)).1, (decI b (i + 7)).2) := by
  unfold decI
  rw [Hu.qkl (c := c) (m := 7) (by unfold Hu.sym; rw [qeg h0 5, qeg h0 6, qeg h0 7]; simp [h, h5, h6]), qkj h0]; rfl
theorem dec_11 {b : List Int} {i : Int} (h0 : 0 ≤ i) {c : Nat} (h5 : at1I b i 5 = none) (h6 : at1I b i 6 = none) (h7 : at1I b i 7 = none) (h : at1I b i 11 = some c) : decI b i = ((c : Int) :: (decI b (i + 11)).1, (decI b (i + 11)).2) := by
  unfold decI
  rw [Hu.qkl (c := c) (m := 11) (by unfold Hu.sym; rw [qeg h0 5, qeg h0 6, qeg h0 7, qeg h0 11]; simp [h, h5, h6, h7]), qkj h0]; rfl
theorem qll {b : List Int} {i : Int} (h0 : 0 ≤ i) (h5 : at1I b i 5 = none) (h6 : at1I b i 6 = none) (h7 : at1I b i 7 = none) (h : at1I b i 11 = none) : decI b i = ([], dropI b i) := by
  unfold decI
  exact Hu.qrm (by unfold Hu.sym; rw [qeg h0 5, qeg h0 6, qeg h0 7, qeg h0 11]; simp [h, h5, h6, h7])
theorem qch {b : List Int} {i m : Int} (h : okI b i m = false) : at1I b i m = none := by unfold at1I; rw [h]; rfl
theorem qda {b : List Int} {i m r : Int} (h : okI b i m = true) (hr : numI b i m = r) : at1I b i m = findO r m := by unfold at1I; rw [h, hr]; rfl
theorem qbb {b : List Int} {i m k : Int} (h : okI b i m = false) (h0 : 0 ≤ i) (hk : m ≤ k) : okI b i k = false := by
  unfold okI at h ⊢
  simp only [Bool.and_eq_false_iff, decide_eq_false_iff_not] at h ⊢
  omega
def takeL (b : List Int) : List Int := (Hu.take b).getD []
def takeE (b : List Int) : Int := if (Hu.take b).isSome then 0 else 70
theorem qem {b L : List Int} {i : Int} (h0 : 0 ≤ i) (h : i ≤ 8 * ilen b) (hd : Hu.dec (Hu.bl b) = (L, dropI b i)) (h7 : 7 < 8 * ilen b - i) : takeL b = [] ∧ takeE b = 70 := by
  have : Hu.take b = none := by
    unfold Hu.take
    simp only [hd]
    rw [if_neg]
    have := qts h0 h
    omega
  unfold takeL takeE
  rw [this]; exact ⟨rfl, rfl⟩
theorem numI_all {b : List Int} {i k : Int} (h0 : 0 ≤ i) (h : i ≤ 8 * ilen b) (hk : k = 8 * ilen b - i) : numI b i k = Hu.valB (dropI b i) := by
  unfold numI
  have := qts h0 h
  rw [show ((Hu.bl b).drop i.toNat).take k.toNat = dropI b i by unfold dropI at *; exact List.take_of_length_le (by omega)]
theorem qbw {b L : List Int} {i k : Int} (h0 : 0 ≤ i) (h : i ≤ 8 * ilen b) (hd : Hu.dec (Hu.bl b) = (L, dropI b i)) (hk : k = 8 * ilen b - i) (h7 : k ≤ 7) :
    (numI b i k = 2 ^ k.toNat - 1 → takeL b = L ∧ takeE b = 0) ∧ (numI b i k ≠ 2 ^ k.toNat - 1 → takeL b = [] ∧ takeE b = 70) := by
  have hl := qts h0 h
  rw [numI_all h0 h hk]
  have e : ((Hu.valB (dropI b i) : Int) = 2 ^ k.toNat - 1) ↔ dropI b i = List.replicate (dropI b i).length true := by
    have h1 := Hu.qmx (dropI b i).length
    have hp := Nat.two_pow_pos (dropI b i).length
    rw [show k.toNat = (dropI b i).length by omega, ← qge]
    constructor
    · intro e
      refine Hu.valB_inj (by simp) ?_
      rw [h1]; omega
    · intro e
      rw [e, h1]
      simp only [List.length_replicate]
      omega
  unfold takeL takeE Hu.take
  simp only [hd]
  constructor
  · intro h1
    rw [if_pos ⟨by omega, e.1 h1⟩]; exact ⟨rfl, rfl⟩
  · intro h1
    rw [if_neg (fun h2 => h1 (e.2 h2.2))]; exact ⟨rfl, rfl⟩
theorem qjb {S : Sy} (hS : S0 Tryd.prog = S) {b : List Int} {F : List SV} {n : Int} {zi z : Z} {k : Nat} {ro lit : Bool} {st : Z} {l : List Blk} {K : SV → List Blk → Prop} (hb : Hu.BOk b) (hn : ilen b ≤ 1000000) (hn' : n = ilen b) (hF : cellsB b = F)
    (hrow : lget l k = .r ro lit st 1 F) (i m : Int) (hi : zi.v = i) (hm : z.v = m) (hz1 : 1 ≤ m) (hz2 : m ≤ 30) (h1 : okI b i m = true → ∀ r, numI b i m = r → K (.tp [.i .i64 (.y r), .tt]) l) (h2 : okI b i m = false → ∀ r, K (.tp [.i .i64 (.y r), .ff]) l) :
    S.call 129 [.sl k 1 (.l 0) (.y n) none, .i .i64 zi, .i .i64 z] l K := by
  subst hn' hF hi hm
  have hB : oBitsB b zi.v z.v = okI b zi.v z.v := by unfold oBitsB; rw [if_neg (by omega), if_neg (by omega)]
  have hf := oBits_f (b := b) (i := zi.v) (k := z.v) hb hn rfl rfl
  cases ht : okI b zi.v z.v with
  | true =>
    refine qel hS (fun _ => k) (sv := .tp [.i .i64 (.y (numI b zi.v z.v)), .tt]) (qay hf fun x l' hx => ⟨x, .rfl, hx.trans (qaw (.cons (qag ?_) (.cons (qfd ?_) .nil)))⟩) (.cons .rfl (.cons (qag rfl) (.cons (qag rfl) .nil))) rfl ⟨⟨_, _, _, _, _, _, _, _, rfl, qad b, hrow, .rfl⟩, trivial⟩ rfl (h1 ht _ rfl)
    · unfold oBitsR; rw [hB, ht]; rfl
    · rw [hB, ht]
  | false =>
    refine qel hS (fun _ => k) (sv := .tp [.i .i64 (.y (oBitsR b zi.v z.v)), .ff]) (qay hf fun x l' hx => ⟨x, .rfl, hx.trans (qaw (.cons .rfl (.cons (qea ?_) .nil)))⟩) (.cons .rfl (.cons (qag rfl) (.cons (qag rfl) .nil))) rfl ⟨⟨_, _, _, _, _, _, _, _, rfl, qad b, hrow, .rfl⟩, trivial⟩ rfl (h2 ht _)
    rw [hB, ht]
end Cz
namespace Cz
open Go Go.RowKit Go.Proofs
def tB : IR := match I.qzabr with
  | .seq _ (.scope b) => b
  | _ => .skip
theorem qib (b : List Int) : decI b 0 = Hu.dec (Hu.bl b) := rfl
theorem qqb {b : List Int} {i m : Int} (h : okI b i m = true) : i + m ≤ 8 * ilen b := by
  unfold okI at h
  simp only [Bool.and_eq_true, decide_eq_true_eq] at h
  exact h.2
theorem qji (L : List Int) (c : Int) : ilen (L ++ [c]) = ilen L + 1 := by unfold ilen; simp
theorem gc_k {n : Nat} {es : List (SV × SV)} : norefM es = true → (match es with
      | [] => true
      | (k, v) :: r => refsB (low n) k && refsB (low n) v && gcM n r) = true := by
  intro h
  have := gcM_ok (n := n) h
  cases es with
  | nil => rfl
  | cons e r => simpa only [gcM] using this
theorem qgk {S : Sy} (hS : S0 Tryd.prog = S) {b : List Int} {F : List SV} {n : Int} {zi z : Z} {k : Nat} {ro lit : Bool} {st : Z} {l : List Blk} {K : SV → List Blk → Prop} (hb : Hu.BOk b) (hn : ilen b ≤ 1000000) (hn' : n = ilen b) (hF : cellsB b = F)
    (hrow : lget l k = .r ro lit st 1 F) (i m : Int) (h0 : zi.v = i) (hm : z.v = m) (hi0 : 0 ≤ i) (hz1 : 0 ≤ m) (hz2 : m ≤ 30 ∧ i + m ≤ 8 * n) (h1 : ∀ r, numI b i m = r → K (.tp [.i .i64 (.y r), .tt]) l) :
    S.call 129 [.sl k 1 (.l 0) (.y n) none, .i .i64 zi, .i .i64 z] l K := by
  subst hn' hF h0 hm
  have hB : oBitsB b zi.v z.v = true := by
    unfold oBitsB okI
    by_cases hz : z.v = 0
    · rw [if_pos hz]; simp; omega
    · rw [if_neg hz, if_neg (by omega)]; simp; omega
  have hf := oBits_f (b := b) (i := zi.v) (k := z.v) hb hn rfl rfl
  refine qel hS (fun _ => k) (sv := .tp [.i .i64 (.y (numI b zi.v z.v)), .tt]) (qay hf fun x l' hx => ⟨x, .rfl, hx.trans (qaw (.cons (qag ?_) (.cons (qfd hB) .nil)))⟩) (.cons .rfl (.cons (qag rfl) (.cons (qag rfl) .nil))) rfl ⟨⟨_, _, _, _, _, _, _, _, rfl, qad b, hrow, .rfl⟩, trivial⟩ rfl (h1 _ rfl)
  unfold oBitsR; rw [hB]; rfl
theorem qlf {S : Sy} {k : IntKind} {a : Int} {K : Int → Prop} (hS : S0 Tryd.prog = S) (m : Int) (hm : a = m) (h0 : 0 ≤ m) (h1 : m ≤ 7) (hk : 8 < k.bits) (h : ∀ r, r = 2 ^ m.toNat → 1 ≤ r → r ≤ 128 → K r) : S.ar .shl k 1 a K := by
  subst hm
  have h2 := qim (m := a.toNat) (n := 7) (by omega)
  have h3 := qdm a.toNat
  refine qpy hS (c := 2 ^ a.toNat) ?_ (fun r hr => h r (by omega) (by omega) (by omega)) ?_ ?_
  · rw [Nat.min_eq_left (by omega)]
  · have := qyc k; omega
  · have h4 := hi_bits k
    have h5 := qim (m := 8) (n := k.bits - 1) (by omega)
    omega
theorem qby {P : List SV} {E : Int} {l' : List Blk} (hP : P = []) (hE : E = 70) : OwnR 1 1 P true [.i .i64 (.y E)] (.tp [.re (.slice none 0 0), .i .i64 (.l 70)]) l' :=
  ⟨_, qaw (.cons .rfl (.cons (qag hE.symm) .nil)), .inl ⟨rfl, hP⟩⟩
theorem qep {P G : List SV} {L : List Int} {E : Int} {z st : Z} {lit : Bool} {l' : List Blk} (hP : P = cellsB L) (hE : E = 0) (hG : cellsB L = G) (hz : z.v = ilen L) (hB : l'[2]? = some (.r false lit st 1 G)) :
    OwnR 1 1 P true [.i .i64 (.y E)] (.tp [.sl 2 1 (.l 0) z none, .i .i64 (.l 0)]) l' := by
  refine ⟨_, qaw (.cons .rfl (.cons (qag hE.symm) .nil)), ?_⟩
  rw [hP, hG]
  exact qgx hG (by omega) hz hB
theorem qmy {b : List Int} {F P : List SV} {T : List (SV × SV)} {n E : Int} {S : Sy} (hb : Hu.BOk b) (hnb : ilen b ≤ 1000000) (hn' : n = ilen b) (hF : cellsB b = F) (hP : cellsB (takeL b) = P) (hE : takeE b = E) (hT : knownE 256 = T) (hS : S0 Tryd.prog = S)
    {i1 q1 st1 : Int} {L1 : List Int} {G1 : List SV} (h0 : 0 ≤ i1) (h1 : i1 ≤ 8 * ilen b) (hq : q1 = ilen L1) (hqi : q1 ≤ i1) (hG : G1 = cellsB L1) (hdec : Hu.dec (Hu.bl b) = (L1 ++ (decI b i1).1, (decI b i1).2)) :
    S.jump ⟨none, 1⟩ tB 0 ⟨slots [(0, .sl 0 1 (.l 0) (.y n) none), (4, .m 1), (2, .sl 2 1 (.l 0) (.y q1) none), (5, .i .i64 (.y i1))] (repU 68), []⟩ [.r true true (.l 0) 1 F, .m T, .r false false (.y st1) 1 G1]
      (vret S [.t 2, .t 3] (OwnR 1 1 P true [.i .i64 (.y E)])) := by
  have hn := hnb
  have h0n := qaf b
  rw [← hn'] at hn h0n
  have hpl := qad b
  rw [hF] at hpl
  refine qzaar hS 3 [] (fun x : Int × Int × Int × List Int × List SV => 0 ≤ x.1 ∧ x.1 ≤ 8 * n ∧ x.2.1 = ilen x.2.2.2.1 ∧ x.2.1 ≤ x.1 ∧ x.2.2.2.2 = cellsB x.2.2.2.1 ∧ Hu.dec (Hu.bl b) = (x.2.2.2.1 ++ (decI b x.1).1, (decI b x.1).2))
    (fun x => [(2, .sl 2 1 (.l 0) (.y x.2.1) none), (5, .i .i64 (.y x.1))]) (fun x => [(2, .r false false (.y x.2.2.1) 1 x.2.2.2.2)])
    (fun x => (8 * n - x.1).toNat) (i1, q1, st1, L1, G1) rfl rfl ⟨⟨h0, by dsimp only; omega, hq, hqi, hG, hdec⟩, rfl, ?_, ?_, ?_⟩ ?_
  · cbv; all_goals exact s_sA
  · cbv; all_goals exact s_bA
  · cbv; exact gc_c (gc_m (qan hpl)) (gc_c (gc_k (hT ▸ qbl 256)) rfl)
  intro x
  clear h0 h1 hq hqi hG hdec
  obtain ⟨i, q, st, L, G⟩ := x
  intro hx
  dsimp only at hx
  cbv
  obtain ⟨h0, h1, hq, hqi, hG0, hdec⟩ := hx
  have hG : ilen G = ilen L := by rw [hG0, qas]
  refine qah hS ?_
  cbv
  refine qjb hS hb hnb hn' hF rfl i 5 rfl rfl (by decide) (by decide) (fun hok5 r5 hr5 => ?_) (fun hok5 r5 => ?_)
  · cbv
    refine qdx hS hT (fun c hc c0 c1 => ?_) fun hc => ?_
    · cbv
      have hs : decI b i = ((c.toNat : Int) :: (decI b (i + 5)).1, (decI b (i + 5)).2) := dec_5 (by omega)  (by rw [qda hok5 hr5]; exact hc)
      have hle : i + 5 ≤ 8 * ilen b := qqb hok5
      rw [Int.toNat_of_nonneg c0] at hs
      repeat' (first
        | (refine s_st hS ?_; try cbv)
        | (refine qab hS ?_ ?_ <;> intro h <;> (try cbv) <;> try exact s_ab h)
        | (refine qai hS ?_; intro _ _; try cbv)
        | (refine qae hS ?_; try cbv)
        | (refine qil hS (by rw [hG, ← hq]; omega) ?_; cbv))
      rename_i i2 hi2
      obtain ⟨q2, h_q2⟩ : ∃ q2, q2 = q + 1 := ⟨_, rfl⟩
      obtain ⟨st2, h_st2⟩ : ∃ st2, st2 = S.flen G := ⟨_, rfl⟩
      obtain ⟨G2, h_G2⟩ : ∃ G2, G2 = cellsB (L ++ [c]) := ⟨_, rfl⟩
      refine ⟨(i2, q2, st2, L ++ [c], G2), by dsimp only; omega, ⟨by dsimp only; omega, by dsimp only; omega, ?_, by dsimp only; omega, h_G2, ?_⟩, rfl, ?_, ?_, ?_⟩
      · dsimp only; rw [h_q2, hq, qji]
      · dsimp only; rw [hdec, hs, hi2]; simp
      · cbv; (repeat' (first | exact qdt | exact Sub.rfl | exact SubL.nil | refine SubL.cons ?_ ?_ | exact qag rfl | (refine qcz rfl ?_; simp only [Z.v, ← hS, Int.ofNat_eq_natCast, cq, Bool.not_eq_true', Bool.not_eq_false', decide_eq_true_eq, decide_eq_false_iff_not, beq_iff_eq, beq_eq_false_iff_ne, ne_eq]; omega)))
      · cbv; exact ⟨.rfl, .rfl, qjz hS hG0.symm h_G2.symm rfl h_st2.symm, trivial⟩
      · cbv; exact gc_c (gc_m (qan hpl)) (gc_c (gc_k (hT ▸ qbl 256)) rfl)
    · cbv
      have a5 : at1I b i 5 = none := by rw [qda hok5 hr5]; exact hc
      refine qah hS ?_
      cbv
      refine qjb hS hb hnb hn' hF rfl i 6 rfl rfl (by decide) (by decide) (fun hok6 r6 hr6 => ?_) (fun hok6 r6 => ?_)
      · cbv
        refine qdx hS hT (fun c hc c0 c1 => ?_) fun hc => ?_
        · cbv
          have hs : decI b i = ((c.toNat : Int) :: (decI b (i + 6)).1, (decI b (i + 6)).2) := dec_6 (by omega) a5 (by rw [qda hok6 hr6]; exact hc)
          have hle : i + 6 ≤ 8 * ilen b := qqb hok6
          rw [Int.toNat_of_nonneg c0] at hs
          repeat' (first
            | (refine s_st hS ?_; try cbv)
            | (refine qab hS ?_ ?_ <;> intro h <;> (try cbv) <;> try exact s_ab h)
            | (refine qai hS ?_; intro _ _; try cbv)
            | (refine qae hS ?_; try cbv)
            | (refine qil hS (by rw [hG, ← hq]; omega) ?_; cbv))
          rename_i i2 hi2
          obtain ⟨q2, h_q2⟩ : ∃ q2, q2 = q + 1 := ⟨_, rfl⟩
          obtain ⟨st2, h_st2⟩ : ∃ st2, st2 = S.flen G := ⟨_, rfl⟩
          obtain ⟨G2, h_G2⟩ : ∃ G2, G2 = cellsB (L ++ [c]) := ⟨_, rfl⟩
          refine ⟨(i2, q2, st2, L ++ [c], G2), by dsimp only; omega, ⟨by dsimp only; omega, by dsimp only; omega, ?_, by dsimp only; omega, h_G2, ?_⟩, rfl, ?_, ?_, ?_⟩
          · dsimp only; rw [h_q2, hq, qji]
          · dsimp only; rw [hdec, hs, hi2]; simp
          · cbv; (repeat' (first | exact qdt | exact Sub.rfl | exact SubL.nil | refine SubL.cons ?_ ?_ | exact qag rfl | (refine qcz rfl ?_; simp only [Z.v, ← hS, Int.ofNat_eq_natCast, cq, Bool.not_eq_true', Bool.not_eq_false', decide_eq_true_eq, decide_eq_false_iff_not, beq_iff_eq, beq_eq_false_iff_ne, ne_eq]; omega)))
          · cbv; exact ⟨.rfl, .rfl, qjz hS hG0.symm h_G2.symm rfl h_st2.symm, trivial⟩
          · cbv; exact gc_c (gc_m (qan hpl)) (gc_c (gc_k (hT ▸ qbl 256)) rfl)
        · cbv
          have a6 : at1I b i 6 = none := by rw [qda hok6 hr6]; exact hc
          refine qah hS ?_
          cbv
          refine qjb hS hb hnb hn' hF rfl i 7 rfl rfl (by decide) (by decide) (fun hok7 r7 hr7 => ?_) (fun hok7 r7 => ?_)
          · cbv
            refine qdx hS hT (fun c hc c0 c1 => ?_) fun hc => ?_
            · cbv
              have hs : decI b i = ((c.toNat : Int) :: (decI b (i + 7)).1, (decI b (i + 7)).2) := dec_7 (by omega) a5 a6 (by rw [qda hok7 hr7]; exact hc)
              have hle : i + 7 ≤ 8 * ilen b := qqb hok7
              rw [Int.toNat_of_nonneg c0] at hs
              repeat' (first
                | (refine s_st hS ?_; try cbv)
                | (refine qab hS ?_ ?_ <;> intro h <;> (try cbv) <;> try exact s_ab h)
                | (refine qai hS ?_; intro _ _; try cbv)
                | (refine qae hS ?_; try cbv)
                | (refine qil hS (by rw [hG, ← hq]; omega) ?_; cbv))
              rename_i i2 hi2
              obtain ⟨q2, h_q2⟩ : ∃ q2, q2 = q + 1 := ⟨_, rfl⟩
              obtain ⟨st2, h_st2⟩ : ∃ st2, st2 = S.flen G := ⟨_, rfl⟩
              obtain ⟨G2, h_G2⟩ : ∃ G2, G2 = cellsB (L ++ [c]) := ⟨_, rfl⟩
              refine ⟨(i2, q2, st2, L ++ [c], G2), by dsimp only; omega, ⟨by dsimp only; omega, by dsimp only; omega, ?_, by dsimp only; omega, h_G2, ?_⟩, rfl, ?_, ?_, ?_⟩
              · dsimp only; rw [h_q2, hq, qji]
              · dsimp only; rw [hdec, hs, hi2]; simp
              · cbv; (repeat' (first | exact qdt | exact Sub.rfl | exact SubL.nil | refine SubL.cons ?_ ?_ | exact qag rfl | (refine qcz rfl ?_; simp only [Z.v, ← hS, Int.ofNat_eq_natCast, cq, Bool.not_eq_true', Bool.not_eq_false', decide_eq_true_eq, decide_eq_false_iff_not, beq_iff_eq, beq_eq_false_iff_ne, ne_eq]; omega)))
              · cbv; exact ⟨.rfl, .rfl, qjz hS hG0.symm h_G2.symm rfl h_st2.symm, trivial⟩
              · cbv; exact gc_c (gc_m (qan hpl)) (gc_c (gc_k (hT ▸ qbl 256)) rfl)
            · cbv
              have a7 : at1I b i 7 = none := by rw [qda hok7 hr7]; exact hc
              refine qah hS ?_
              cbv
              refine qjb hS hb hnb hn' hF rfl i 11 rfl rfl (by decide) (by decide) (fun hok11 r11 hr11 => ?_) (fun hok11 r11 => ?_)
              · cbv
                refine qdx hS hT (fun c hc c0 c1 => ?_) fun hc => ?_
                · cbv
                  have hs : decI b i = ((c.toNat : Int) :: (decI b (i + 11)).1, (decI b (i + 11)).2) := dec_11 (by omega) a5 a6 a7 (by rw [qda hok11 hr11]; exact hc)
                  have hle : i + 11 ≤ 8 * ilen b := qqb hok11
                  rw [Int.toNat_of_nonneg c0] at hs
                  repeat' (first
                    | (refine s_st hS ?_; try cbv)
                    | (refine qab hS ?_ ?_ <;> intro h <;> (try cbv) <;> try exact s_ab h)
                    | (refine qai hS ?_; intro _ _; try cbv)
                    | (refine qae hS ?_; try cbv)
                    | (refine qil hS (by rw [hG, ← hq]; omega) ?_; cbv))
                  rename_i i2 hi2
                  obtain ⟨q2, h_q2⟩ : ∃ q2, q2 = q + 1 := ⟨_, rfl⟩
                  obtain ⟨st2, h_st2⟩ : ∃ st2, st2 = S.flen G := ⟨_, rfl⟩
                  obtain ⟨G2, h_G2⟩ : ∃ G2, G2 = cellsB (L ++ [c]) := ⟨_, rfl⟩
                  refine ⟨(i2, q2, st2, L ++ [c], G2), by dsimp only; omega, ⟨by dsimp only; omega, by dsimp only; omega, ?_, by dsimp only; omega, h_G2, ?_⟩, rfl, ?_, ?_, ?_⟩
                  · dsimp only; rw [h_q2, hq, qji]
                  · dsimp only; rw [hdec, hs, hi2]; simp
                  · cbv; (repeat' (first | exact qdt | exact Sub.rfl | exact SubL.nil | refine SubL.cons ?_ ?_ | exact qag rfl | (refine qcz rfl ?_; simp only [Z.v, ← hS, Int.ofNat_eq_natCast, cq, Bool.not_eq_true', Bool.not_eq_false', decide_eq_true_eq, decide_eq_false_iff_not, beq_iff_eq, beq_eq_false_iff_ne, ne_eq]; omega)))
                  · cbv; exact ⟨.rfl, .rfl, qjz hS hG0.symm h_G2.symm rfl h_st2.symm, trivial⟩
                  · cbv; exact gc_c (gc_m (qan hpl)) (gc_c (gc_k (hT ▸ qbl 256)) rfl)
                · cbv
                  have a11 : at1I b i 11 = none := by rw [qda hok11 hr11]; exact hc
                  refine qah hS ?_
                  cbv
                  have hno : decI b i = ([], dropI b i) := qll (by omega) a5 a6 a7 a11
                  have hD : Hu.dec (Hu.bl b) = (L, dropI b i) := by rw [hdec, hno]; simp
                  obtain ⟨k, hk⟩ : ∃ k, k = 8 * ilen b - i := ⟨_, rfl⟩
                  repeat' (first
                    | (refine s_st hS ?_; try cbv)
                    | (refine qab hS ?_ ?_ <;> intro h <;> (try cbv) <;> try exact s_ab h)
                    | (refine qai hS ?_; intro _ _; try cbv)
                    | (refine qae hS ?_; try cbv)
                    | (refine qnc hS ?_ (by simp only [lo]; omega) (by simp only [hi]; omega); intro _ _; cbv)
                    | (refine qcx hS rfl ?_; cbv)
                    | (refine qgk hS hb hnb hn' hF rfl i k (by simp only [Z.v]; omega) (by simp only [Z.v]; omega) (by omega) (by omega) (by omega) (fun r hr => ?_); cbv)
                    | (refine qlf hS k (by omega) (by omega) (by omega) (by decide) (fun p hp hp1 hp2 => ?_); cbv))
                  · have hb7 := qem (i := i) (by omega) (by omega) hD (by omega)
                    exact qby (hP.symm.trans (by rw [hb7.1]; rfl)) (hE.symm.trans hb7.2)
                  · have hte := (qbw (i := i) (by omega) (by omega) hD hk (by omega)).1 (by rw [hr, ← hp]; omega)
                    exact qep (hP.symm.trans (by rw [hte.1])) (hE.symm.trans hte.2) hG0.symm hq rfl
                  · have hte := (qbw (i := i) (by omega) (by omega) hD hk (by omega)).2 (by rw [hr, ← hp]; omega)
                    exact qby (hP.symm.trans (by rw [hte.1]; rfl)) (hE.symm.trans hte.2)
              · cbv
                have a11 : at1I b i 11 = none := qch (qbb hok11 (by omega) (by omega))
                have hno : decI b i = ([], dropI b i) := qll (by omega) a5 a6 a7 a11
                have hD : Hu.dec (Hu.bl b) = (L, dropI b i) := by rw [hdec, hno]; simp
                obtain ⟨k, hk⟩ : ∃ k, k = 8 * ilen b - i := ⟨_, rfl⟩
                repeat' (first
                  | (refine s_st hS ?_; try cbv)
                  | (refine qab hS ?_ ?_ <;> intro h <;> (try cbv) <;> try exact s_ab h)
                  | (refine qai hS ?_; intro _ _; try cbv)
                  | (refine qae hS ?_; try cbv)
                  | (refine qnc hS ?_ (by simp only [lo]; omega) (by simp only [hi]; omega); intro _ _; cbv)
                  | (refine qcx hS rfl ?_; cbv)
                  | (refine qgk hS hb hnb hn' hF rfl i k (by simp only [Z.v]; omega) (by simp only [Z.v]; omega) (by omega) (by omega) (by omega) (fun r hr => ?_); cbv)
                  | (refine qlf hS k (by omega) (by omega) (by omega) (by decide) (fun p hp hp1 hp2 => ?_); cbv))
                · have hb7 := qem (i := i) (by omega) (by omega) hD (by omega)
                  exact qby (hP.symm.trans (by rw [hb7.1]; rfl)) (hE.symm.trans hb7.2)
                · have hte := (qbw (i := i) (by omega) (by omega) hD hk (by omega)).1 (by rw [hr, ← hp]; omega)
                  exact qep (hP.symm.trans (by rw [hte.1])) (hE.symm.trans hte.2) hG0.symm hq rfl
                · have hte := (qbw (i := i) (by omega) (by omega) hD hk (by omega)).2 (by rw [hr, ← hp]; omega)
                  exact qby (hP.symm.trans (by rw [hte.1]; rfl)) (hE.symm.trans hte.2)
          · cbv
            have a7 : at1I b i 7 = none := qch (qbb hok7 (by omega) (by omega))
            have a11 : at1I b i 11 = none := qch (qbb hok7 (by omega) (by omega))
            have hno : decI b i = ([], dropI b i) := qll (by omega) a5 a6 a7 a11
            have hD : Hu.dec (Hu.bl b) = (L, dropI b i) := by rw [hdec, hno]; simp
            obtain ⟨k, hk⟩ : ∃ k, k = 8 * ilen b - i := ⟨_, rfl⟩
            repeat' (first
              | (refine s_st hS ?_; try cbv)
              | (refine qab hS ?_ ?_ <;> intro h <;> (try cbv) <;> try exact s_ab h)
              | (refine qai hS ?_; intro _ _; try cbv)
              | (refine qae hS ?_; try cbv)
              | (refine qnc hS ?_ (by simp only [lo]; omega) (by simp only [hi]; omega); intro _ _; cbv)
              | (refine qcx hS rfl ?_; cbv)
              | (refine qgk hS hb hnb hn' hF rfl i k (by simp only [Z.v]; omega) (by simp only [Z.v]; omega) (by omega) (by omega) (by omega) (fun r hr => ?_); cbv)
              | (refine qlf hS k (by omega) (by omega) (by omega) (by decide) (fun p hp hp1 hp2 => ?_); cbv))
            · have hb7 := qem (i := i) (by omega) (by omega) hD (by omega)
              exact qby (hP.symm.trans (by rw [hb7.1]; rfl)) (hE.symm.trans hb7.2)
            · have hte := (qbw (i := i) (by omega) (by omega) hD hk (by omega)).1 (by rw [hr, ← hp]; omega)
              exact qep (hP.symm.trans (by rw [hte.1])) (hE.symm.trans hte.2) hG0.symm hq rfl
            · have hte := (qbw (i := i) (by omega) (by omega) hD hk (by omega)).2 (by rw [hr, ← hp]; omega)
              exact qby (hP.symm.trans (by rw [hte.1]; rfl)) (hE.symm.trans hte.2)
      · cbv
        have a6 : at1I b i 6 = none := qch (qbb hok6 (by omega) (by omega))
        have a7 : at1I b i 7 = none := qch (qbb hok6 (by omega) (by omega))
        have a11 : at1I b i 11 = none := qch (qbb hok6 (by omega) (by omega))
        have hno : decI b i = ([], dropI b i) := qll (by omega) a5 a6 a7 a11
        have hD : Hu.dec (Hu.bl b) = (L, dropI b i) := by rw [hdec, hno]; simp
        obtain ⟨k, hk⟩ : ∃ k, k = 8 * ilen b - i := ⟨_, rfl⟩
        repeat' (first
          | (refine s_st hS ?_; try cbv)
          | (refine qab hS ?_ ?_ <;> intro h <;> (try cbv) <;> try exact s_ab h)
          | (refine qai hS ?_; intro _ _; try cbv)
          | (refine qae hS ?_; try cbv)
          | (refine qnc hS ?_ (by simp only [lo]; omega) (by simp only [hi]; omega); intro _ _; cbv)
          | (refine qcx hS rfl ?_; cbv)
          | (refine qgk hS hb hnb hn' hF rfl i k (by simp only [Z.v]; omega) (by simp only [Z.v]; omega) (by omega) (by omega) (by omega) (fun r hr => ?_); cbv)
          | (refine qlf hS k (by omega) (by omega) (by omega) (by decide) (fun p hp hp1 hp2 => ?_); cbv))
        · have hb7 := qem (i := i) (by omega) (by omega) hD (by omega)
          exact qby (hP.symm.trans (by rw [hb7.1]; rfl)) (hE.symm.trans hb7.2)
        · have hte := (qbw (i := i) (by omega) (by omega) hD hk (by omega)).1 (by rw [hr, ← hp]; omega)
          exact qep (hP.symm.trans (by rw [hte.1])) (hE.symm.trans hte.2) hG0.symm hq rfl
        · have hte := (qbw (i := i) (by omega) (by omega) hD hk (by omega)).2 (by rw [hr, ← hp]; omega)
          exact qby (hP.symm.trans (by rw [hte.1]; rfl)) (hE.symm.trans hte.2)
  · cbv
    have a5 : at1I b i 5 = none := qch (qbb hok5 (by omega) (by omega))
    have a6 : at1I b i 6 = none := qch (qbb hok5 (by omega) (by omega))
    have a7 : at1I b i 7 = none := qch (qbb hok5 (by omega) (by omega))
    have a11 : at1I b i 11 = none := qch (qbb hok5 (by omega) (by omega))
    have hno : decI b i = ([], dropI b i) := qll (by omega) a5 a6 a7 a11
    have hD : Hu.dec (Hu.bl b) = (L, dropI b i) := by rw [hdec, hno]; simp
    obtain ⟨k, hk⟩ : ∃ k, k = 8 * ilen b - i := ⟨_, rfl⟩
    repeat' (first
      | (refine s_st hS ?_; try cbv)
      | (refine qab hS ?_ ?_ <;> intro h <;> (try cbv) <;> try exact s_ab h)
      | (refine qai hS ?_; intro _ _; try cbv)
      | (refine qae hS ?_; try cbv)
      | (refine qnc hS ?_ (by simp only [lo]; omega) (by simp only [hi]; omega); intro _ _; cbv)
      | (refine qcx hS rfl ?_; cbv)
      | (refine qgk hS hb hnb hn' hF rfl i k (by simp only [Z.v]; omega) (by simp only [Z.v]; omega) (by omega) (by omega) (by omega) (fun r hr => ?_); cbv)
      | (refine qlf hS k (by omega) (by omega) (by omega) (by decide) (fun p hp hp1 hp2 => ?_); cbv))
    · have hb7 := qem (i := i) (by omega) (by omega) hD (by omega)
      exact qby (hP.symm.trans (by rw [hb7.1]; rfl)) (hE.symm.trans hb7.2)
    · have hte := (qbw (i := i) (by omega) (by omega) hD hk (by omega)).1 (by rw [hr, ← hp]; omega)
      exact qep (hP.symm.trans (by rw [hte.1])) (hE.symm.trans hte.2) hG0.symm hq rfl
    · have hte := (qbw (i := i) (by omega) (by omega) hD hk (by omega)).2 (by rw [hr, ← hp]; omega)
      exact qby (hP.symm.trans (by rw [hte.1]; rfl)) (hE.symm.trans hte.2)
theorem take_f {b : List Int} (hb : Hu.BOk b) (hn : ilen b ≤ 1000000) :
    (S0 Tryd.prog).call 122 [.sl 0 1 (.l 0) (.y (ilen b)) none] [.r true true (.l 0) 1 (cellsB b)] (OwnR 1 1 (cellsB (takeL b)) true [.i .i64 (.y (takeE b))]) := by
  obtain ⟨n, hn'⟩ : ∃ n, n = ilen b := ⟨_, rfl⟩
  have h0n := qaf b
  have hnb := hn
  rw [← hn'] at hn h0n ⊢
  have hpl := qad b
  generalize hF : cellsB b = F at hpl ⊢
  generalize hP : cellsB (takeL b) = P
  generalize hE : takeE b = E
  generalize hT : knownE 256 = T
  have hk := known_f hT
  generalize hS : S0 Tryd.prog = S
  refine qac hS I.qzace ?_
  cbv
  refine use_map hS (l0 := []) id hk .nil rfl trivial ?_
  cbv
  refine qvt hS 2 1 (by omega) rfl ?_
  cbv
  refine qah hS ?_
  cbv
  refine qjb hS hb hnb hn' hF rfl 0 5 rfl rfl (by decide) (by decide) (fun hok5 r5 hr5 => ?_) (fun hok5 r5 => ?_)
  · cbv
    refine qdx hS hT (fun c hc c0 c1 => ?_) fun hc => ?_
    · cbv
      have hs : decI b 0 = ((c.toNat : Int) :: (decI b (0 + 5)).1, (decI b (0 + 5)).2) := dec_5 (by omega)  (by rw [qda hok5 hr5]; exact hc)
      have hle : 0 + 5 ≤ 8 * ilen b := qqb hok5
      rw [Int.toNat_of_nonneg c0] at hs
      refine qnq hS 3 rfl ?_ ?_ ?_ (qmy hb hnb hn' hF hP hE hT hS (i1 := 5) (q1 := 1) (st1 := 0) (L1 := [c]) (G1 := [.i .u8 (.y c)]) (by omega) (by omega) rfl (by omega) rfl ?_)
      · cbv; (repeat' (first | exact qdt | exact Sub.rfl | exact SubL.nil | refine SubL.cons ?_ ?_ | exact qag rfl | exact qcz rfl rfl))
      · cbv; exact ⟨.rfl, .rfl, .r .rfl rfl rfl, trivial⟩
      · cbv; exact gc_c (gc_m (qan hpl)) (gc_c (gc_k (hT ▸ qbl 256)) rfl)
      · rw [← qib, hs]; rfl
    · cbv
      have a5 : at1I b 0 5 = none := by rw [qda hok5 hr5]; exact hc
      refine qah hS ?_
      cbv
      refine qjb hS hb hnb hn' hF rfl 0 6 rfl rfl (by decide) (by decide) (fun hok6 r6 hr6 => ?_) (fun hok6 r6 => ?_)
      · cbv
        refine qdx hS hT (fun c hc c0 c1 => ?_) fun hc => ?_
        · cbv
          have hs : decI b 0 = ((c.toNat : Int) :: (decI b (0 + 6)).1, (decI b (0 + 6)).2) := dec_6 (by omega) a5 (by rw [qda hok6 hr6]; exact hc)
          have hle : 0 + 6 ≤ 8 * ilen b := qqb hok6
          rw [Int.toNat_of_nonneg c0] at hs
          refine qnq hS 3 rfl ?_ ?_ ?_ (qmy hb hnb hn' hF hP hE hT hS (i1 := 6) (q1 := 1) (st1 := 0) (L1 := [c]) (G1 := [.i .u8 (.y c)]) (by omega) (by omega) rfl (by omega) rfl ?_)
          · cbv; (repeat' (first | exact qdt | exact Sub.rfl | exact SubL.nil | refine SubL.cons ?_ ?_ | exact qag rfl | exact qcz rfl rfl))
          · cbv; exact ⟨.rfl, .rfl, .r .rfl rfl rfl, trivial⟩
          · cbv; exact gc_c (gc_m (qan hpl)) (gc_c (gc_k (hT ▸ qbl 256)) rfl)
          · rw [← qib, hs]; rfl
        · cbv
          have a6 : at1I b 0 6 = none := by rw [qda hok6 hr6]; exact hc
          refine qah hS ?_
          cbv
          refine qjb hS hb hnb hn' hF rfl 0 7 rfl rfl (by decide) (by decide) (fun hok7 r7 hr7 => ?_) (fun hok7 r7 => ?_)
          · cbv
            refine qdx hS hT (fun c hc c0 c1 => ?_) fun hc => ?_
            · cbv
              have hs : decI b 0 = ((c.toNat : Int) :: (decI b (0 + 7)).1, (decI b (0 + 7)).2) := dec_7 (by omega) a5 a6 (by rw [qda hok7 hr7]; exact hc)
              have hle : 0 + 7 ≤ 8 * ilen b := qqb hok7
              rw [Int.toNat_of_nonneg c0] at hs
              refine qnq hS 3 rfl ?_ ?_ ?_ (qmy hb hnb hn' hF hP hE hT hS (i1 := 7) (q1 := 1) (st1 := 0) (L1 := [c]) (G1 := [.i .u8 (.y c)]) (by omega) (by omega) rfl (by omega) rfl ?_)
              · cbv; (repeat' (first | exact qdt | exact Sub.rfl | exact SubL.nil | refine SubL.cons ?_ ?_ | exact qag rfl | exact qcz rfl rfl))
              · cbv; exact ⟨.rfl, .rfl, .r .rfl rfl rfl, trivial⟩
              · cbv; exact gc_c (gc_m (qan hpl)) (gc_c (gc_k (hT ▸ qbl 256)) rfl)
              · rw [← qib, hs]; rfl
            · cbv
              have a7 : at1I b 0 7 = none := by rw [qda hok7 hr7]; exact hc
              refine qah hS ?_
              cbv
              refine qjb hS hb hnb hn' hF rfl 0 11 rfl rfl (by decide) (by decide) (fun hok11 r11 hr11 => ?_) (fun hok11 r11 => ?_)
              · cbv
                refine qdx hS hT (fun c hc c0 c1 => ?_) fun hc => ?_
                · cbv
                  have hs : decI b 0 = ((c.toNat : Int) :: (decI b (0 + 11)).1, (decI b (0 + 11)).2) := dec_11 (by omega) a5 a6 a7 (by rw [qda hok11 hr11]; exact hc)
                  have hle : 0 + 11 ≤ 8 * ilen b := qqb hok11
                  rw [Int.toNat_of_nonneg c0] at hs
                  refine qnq hS 3 rfl ?_ ?_ ?_ (qmy hb hnb hn' hF hP hE hT hS (i1 := 11) (q1 := 1) (st1 := 0) (L1 := [c]) (G1 := [.i .u8 (.y c)]) (by omega) (by omega) rfl (by omega) rfl ?_)
                  · cbv; (repeat' (first | exact qdt | exact Sub.rfl | exact SubL.nil | refine SubL.cons ?_ ?_ | exact qag rfl | exact qcz rfl rfl))
                  · cbv; exact ⟨.rfl, .rfl, .r .rfl rfl rfl, trivial⟩
                  · cbv; exact gc_c (gc_m (qan hpl)) (gc_c (gc_k (hT ▸ qbl 256)) rfl)
                  · rw [← qib, hs]; rfl
                · cbv
                  have a11 : at1I b 0 11 = none := by rw [qda hok11 hr11]; exact hc
                  refine qah hS ?_
                  cbv
                  have hno : decI b 0 = ([], dropI b 0) := qll (by omega) a5 a6 a7 a11
                  have hD : Hu.dec (Hu.bl b) = ([], dropI b 0) := by rw [← qib, hno]
                  obtain ⟨k, hk⟩ : ∃ k, k = 8 * ilen b - 0 := ⟨_, rfl⟩
                  repeat' (first
                    | (refine s_st hS ?_; try cbv)
                    | (refine qab hS ?_ ?_ <;> intro h <;> (try cbv) <;> try exact s_ab h)
                    | (refine qai hS ?_; intro _ _; try cbv)
                    | (refine qae hS ?_; try cbv)
                    | (refine qnc hS ?_ (by simp only [lo]; omega) (by simp only [hi]; omega); intro _ _; cbv)
                    | (refine qcx hS rfl ?_; cbv)
                    | (refine qgk hS hb hnb hn' hF rfl 0 k (by simp only [Z.v]; omega) (by simp only [Z.v]; omega) (by omega) (by omega) (by omega) (fun r hr => ?_); cbv)
                    | (refine qlf hS k (by omega) (by omega) (by omega) (by decide) (fun p hp hp1 hp2 => ?_); cbv))
                  · have hb7 := qem (i := 0) (by omega) (by omega) hD (by omega)
                    exact qby (hP.symm.trans (by rw [hb7.1]; rfl)) (hE.symm.trans hb7.2)
                  · have hte := (qbw (i := 0) (by omega) (by omega) hD hk (by omega)).1 (by rw [hr, ← hp]; omega)
                    exact qep (hP.symm.trans (by rw [hte.1])) (hE.symm.trans hte.2) rfl rfl rfl
                  · have hte := (qbw (i := 0) (by omega) (by omega) hD hk (by omega)).2 (by rw [hr, ← hp]; omega)
                    exact qby (hP.symm.trans (by rw [hte.1]; rfl)) (hE.symm.trans hte.2)
              · cbv
                have a11 : at1I b 0 11 = none := qch (qbb hok11 (by omega) (by omega))
                have hno : decI b 0 = ([], dropI b 0) := qll (by omega) a5 a6 a7 a11
                have hD : Hu.dec (Hu.bl b) = ([], dropI b 0) := by rw [← qib, hno]
                obtain ⟨k, hk⟩ : ∃ k, k = 8 * ilen b - 0 := ⟨_, rfl⟩
                repeat' (first
                  | (refine s_st hS ?_; try cbv)
                  | (refine qab hS ?_ ?_ <;> intro h <;> (try cbv) <;> try exact s_ab h)
                  | (refine qai hS ?_; intro _ _; try cbv)
                  | (refine qae hS ?_; try cbv)
                  | (refine qnc hS ?_ (by simp only [lo]; omega) (by simp only [hi]; omega); intro _ _; cbv)
                  | (refine qcx hS rfl ?_; cbv)
                  | (refine qgk hS hb hnb hn' hF rfl 0 k (by simp only [Z.v]; omega) (by simp only [Z.v]; omega) (by omega) (by omega) (by omega) (fun r hr => ?_); cbv)
                  | (refine qlf hS k (by omega) (by omega) (by omega) (by decide) (fun p hp hp1 hp2 => ?_); cbv))
                · have hb7 := qem (i := 0) (by omega) (by omega) hD (by omega)
                  exact qby (hP.symm.trans (by rw [hb7.1]; rfl)) (hE.symm.trans hb7.2)
                · have hte := (qbw (i := 0) (by omega) (by omega) hD hk (by omega)).1 (by rw [hr, ← hp]; omega)
                  exact qep (hP.symm.trans (by rw [hte.1])) (hE.symm.trans hte.2) rfl rfl rfl
                · have hte := (qbw (i := 0) (by omega) (by omega) hD hk (by omega)).2 (by rw [hr, ← hp]; omega)
                  exact qby (hP.symm.trans (by rw [hte.1]; rfl)) (hE.symm.trans hte.2)
          · cbv
            have a7 : at1I b 0 7 = none := qch (qbb hok7 (by omega) (by omega))
            have a11 : at1I b 0 11 = none := qch (qbb hok7 (by omega) (by omega))
            have hno : decI b 0 = ([], dropI b 0) := qll (by omega) a5 a6 a7 a11
            have hD : Hu.dec (Hu.bl b) = ([], dropI b 0) := by rw [← qib, hno]
            obtain ⟨k, hk⟩ : ∃ k, k = 8 * ilen b - 0 := ⟨_, rfl⟩
            repeat' (first
              | (refine s_st hS ?_; try cbv)
              | (refine qab hS ?_ ?_ <;> intro h <;> (try cbv) <;> try exact s_ab h)
              | (refine qai hS ?_; intro _ _; try cbv)
              | (refine qae hS ?_; try cbv)
              | (refine qnc hS ?_ (by simp only [lo]; omega) (by simp only [hi]; omega); intro _ _; cbv)
              | (refine qcx hS rfl ?_; cbv)
              | (refine qgk hS hb hnb hn' hF rfl 0 k (by simp only [Z.v]; omega) (by simp only [Z.v]; omega) (by omega) (by omega) (by omega) (fun r hr => ?_); cbv)
              | (refine qlf hS k (by omega) (by omega) (by omega) (by decide) (fun p hp hp1 hp2 => ?_); cbv))
            · have hb7 := qem (i := 0) (by omega) (by omega) hD (by omega)
              exact qby (hP.symm.trans (by rw [hb7.1]; rfl)) (hE.symm.trans hb7.2)
            · have hte := (qbw (i := 0) (by omega) (by omega) hD hk (by omega)).1 (by rw [hr, ← hp]; omega)
              exact qep (hP.symm.trans (by rw [hte.1])) (hE.symm.trans hte.2) rfl rfl rfl
            · have hte := (qbw (i := 0) (by omega) (by omega) hD hk (by omega)).2 (by rw [hr, ← hp]; omega)
              exact qby (hP.symm.trans (by rw [hte.1]; rfl)) (hE.symm.trans hte.2)
      · cbv
        have a6 : at1I b 0 6 = none := qch (qbb hok6 (by omega) (by omega))
        have a7 : at1I b 0 7 = none := qch (qbb hok6 (by omega) (by omega))
        have a11 : at1I b 0 11 = none := qch (qbb hok6 (by omega) (by omega))
        have hno : decI b 0 = ([], dropI b 0) := qll (by omega) a5 a6 a7 a11
        have hD : Hu.dec (Hu.bl b) = ([], dropI b 0) := by rw [← qib, hno]
        obtain ⟨k, hk⟩ : ∃ k, k = 8 * ilen b - 0 := ⟨_, rfl⟩
        repeat' (first
          | (refine s_st hS ?_; try cbv)
          | (refine qab hS ?_ ?_ <;> intro h <;> (try cbv) <;> try exact s_ab h)
          | (refine qai hS ?_; intro _ _; try cbv)
          | (refine qae hS ?_; try cbv)
          | (refine qnc hS ?_ (by simp only [lo]; omega) (by simp only [hi]; omega); intro _ _; cbv)
          | (refine qcx hS rfl ?_; cbv)
          | (refine qgk hS hb hnb hn' hF rfl 0 k (by simp only [Z.v]; omega) (by simp only [Z.v]; omega) (by omega) (by omega) (by omega) (fun r hr => ?_); cbv)
          | (refine qlf hS k (by omega) (by omega) (by omega) (by decide) (fun p hp hp1 hp2 => ?_); cbv))
        · have hb7 := qem (i := 0) (by omega) (by omega) hD (by omega)
          exact qby (hP.symm.trans (by rw [hb7.1]; rfl)) (hE.symm.trans hb7.2)
        · have hte := (qbw (i := 0) (by omega) (by omega) hD hk (by omega)).1 (by rw [hr, ← hp]; omega)
          exact qep (hP.symm.trans (by rw [hte.1])) (hE.symm.trans hte.2) rfl rfl rfl
        · have hte := (qbw (i := 0) (by omega) (by omega) hD hk (by omega)).2 (by rw [hr, ← hp]; omega)
          exact qby (hP.symm.trans (by rw [hte.1]; rfl)) (hE.symm.trans hte.2)
  · cbv
    have a5 : at1I b 0 5 = none := qch (qbb hok5 (by omega) (by omega))
    have a6 : at1I b 0 6 = none := qch (qbb hok5 (by omega) (by omega))
    have a7 : at1I b 0 7 = none := qch (qbb hok5 (by omega) (by omega))
    have a11 : at1I b 0 11 = none := qch (qbb hok5 (by omega) (by omega))
    have hno : decI b 0 = ([], dropI b 0) := qll (by omega) a5 a6 a7 a11
    have hD : Hu.dec (Hu.bl b) = ([], dropI b 0) := by rw [← qib, hno]
    obtain ⟨k, hk⟩ : ∃ k, k = 8 * ilen b - 0 := ⟨_, rfl⟩
    repeat' (first
      | (refine s_st hS ?_; try cbv)
      | (refine qab hS ?_ ?_ <;> intro h <;> (try cbv) <;> try exact s_ab h)
      | (refine qai hS ?_; intro _ _; try cbv)
      | (refine qae hS ?_; try cbv)
      | (refine qnc hS ?_ (by simp only [lo]; omega) (by simp only [hi]; omega); intro _ _; cbv)
      | (refine qcx hS rfl ?_; cbv)
      | (refine qgk hS hb hnb hn' hF rfl 0 k (by simp only [Z.v]; omega) (by simp only [Z.v]; omega) (by omega) (by omega) (by omega) (fun r hr => ?_); cbv)
      | (refine qlf hS k (by omega) (by omega) (by omega) (by decide) (fun p hp hp1 hp2 => ?_); cbv))
    · have hb7 := qem (i := 0) (by omega) (by omega) hD (by omega)
      exact qby (hP.symm.trans (by rw [hb7.1]; rfl)) (hE.symm.trans hb7.2)
    · have hte := (qbw (i := 0) (by omega) (by omega) hD hk (by omega)).1 (by rw [hr, ← hp]; omega)
      exact qep (hP.symm.trans (by rw [hte.1])) (hE.symm.trans hte.2) rfl rfl rfl
    · have hte := (qbw (i := 0) (by omega) (by omega) hD hk (by omega)).2 (by rw [hr, ← hp]; omega)
      exact qby (hP.symm.trans (by rw [hte.1]; rfl)) (hE.symm.trans hte.2)
end Cz
namespace Cz
open Go Go.RowKit Go.Proofs
def satI (x : List UInt8) (i : Int) : Int := (x.getD i.toNat 0).toNat
theorem sat_eq {P : Program} {x : List UInt8} {i : Int} : (S0 P).sat x i = satI x i := rfl
theorem qzadc {x : List UInt8} {i : Nat} {c : Int} (h0 : 0 ≤ c) (h : c < 256) : satI x i = c ↔ (x.getD i 0 == c.toNat.toUInt8) = true := by
  unfold satI
  rw [Int.toNat_natCast, beq_iff_eq]
  constructor
  · intro e
    apply UInt8.toNat_inj.1
    rw [UInt8.toNat_ofNat', ← e, Int.toNat_natCast]
    have := (x.getD i 0).toNat_lt
    omega
  · intro e
    rw [e]
    simp only [Nat.toUInt8, UInt8.toNat_ofNat']
    omega
theorem idx_found {x : List UInt8} {c j : Int} (h0 : 0 ≤ c) (h : c < 256) (hj0 : 0 ≤ j) (hj : j < ilen x) (hn : ∀ i : Nat, (i : Int) < j → satI x i ≠ c) (he : satI x j = c) : idxI x c = j := by
  unfold idxI
  have : (List.range x.length).find? (fun i => x.getD i 0 == c.toNat.toUInt8) = some j.toNat := by
    rw [List.find?_range_eq_some]
    have he' : (x.getD j.toNat 0 == c.toNat.toUInt8) = true := (qzadc h0 h).1 (by rw [Int.toNat_of_nonneg hj0]; exact he)
    refine ⟨he', by simp only [List.mem_range]; unfold ilen at hj; omega, ?_⟩
    intro i hi
    have h1 := hn i (by omega)
    rw [Ne, qzadc h0 h] at h1
    simpa using h1
  rw [this]
  show ((j.toNat : Nat) : Int) = j
  omega
theorem idx_none {x : List UInt8} {c : Int} (h0 : 0 ≤ c) (h : c < 256) (hn : ∀ i : Nat, (i : Int) < ilen x → satI x i ≠ c) : idxI x c = -1 := by
  unfold idxI
  have : (List.range x.length).find? (fun i => x.getD i 0 == c.toNat.toUInt8) = none := by
    rw [List.find?_eq_none]
    intro i hi
    simp only [List.mem_range] at hi
    have h1 := hn i (by unfold ilen; omega)
    rw [Ne, qzadc h0 h] at h1
    exact h1
  rw [this]
theorem nc (n : Nat) : NatCast.natCast n = (n : Int) := rfl
theorem place_f {x : List UInt8} {c r : Int} (hx : ilen x ≤ 1000) (h0 : 0 ≤ c) (hc : c < 256) (hr : idxI x c = r) : (S0 Tryd.prog).call 137 [.s x, .i .u8 (.y c)] [] (fun y _ => Sub y (.i .i64 (.y r))) := by
  have hnx : (S0 Tryd.prog).slen x = ilen x := rfl
  rw [slen_eq] at hnx
  have hx0 := qaf x
  generalize hS : S0 Tryd.prog = S
  refine qac hS I.qkz ?_
  cbv
  refine qba hS 0 I.qhh (fun j : Int => 0 ≤ j ∧ j ≤ ilen x ∧ ∀ i : Nat, (i : Int) < j → satI x i ≠ c)
    (fun j => [(5, .i .i64 (.y j))]) (fun _ => []) (fun j => (ilen x - j).toNat) 0 rfl ⟨⟨Int.le_refl _, by omega, fun i hi => by omega⟩, rfl, ?_, ?_, by cbv⟩ ?_
  · cbv; all_goals exact s_sA
  · cbv; all_goals exact s_bA
  intro j hj
  cbv
  obtain ⟨g0, g1, g2'⟩ := hj
  have g2 : ∀ i : Nat, (i : Int) < j → satI x i ≠ c := g2'
  repeat' (first
    | (refine s_st hS ?_; try cbv)
    | (refine qab hS ?_ ?_ <;> intro h <;> (try cbv) <;> try exact s_ab h)
    | (refine qai hS ?_; intro _ _; try cbv)
    | (refine qae hS ?_; try cbv))
  · refine qag ?_
    rw [sat_eq] at h
    simp only [Z.v]
    rw [← hr]; exact (idx_found h0 hc g0 (by omega) g2 h).symm
  · rw [sat_eq] at h
    rename_i j2 hj2
    have g3 : ∀ i : Nat, (i : Int) < j2 → satI x i ≠ c := by
      intro i hi
      rcases Int.lt_or_le i j with hl | hl
      · exact g2 i hl
      · have e : (i : Int) = j := by omega
        rw [e]; exact h
    refine ⟨j2, by omega, ⟨by omega, by omega, g3⟩, rfl, ?_, ?_, by cbv⟩
    · cbv; all_goals exact s_sA
    · cbv; all_goals exact s_bA
  · refine qag ?_
    simp only [Z.v]
    have g2 : ∀ i : Nat, (i : Int) < j → satI x i ≠ c := g2'
    simp only [nc] at *
    rw [← hr]; exact (idx_none h0 hc fun i hi => g2 i (by omega)).symm
theorem qec {S : Sy} (hS : S0 Tryd.prog = S) {l : List Blk} {K : SV → List Blk → Prop} {x : List UInt8} {c : Z} (hx : ilen x ≤ 1000) (h0 : 0 ≤ c.v) (h : c.v < 256) (hK : ∀ r, idxI x c.v = r → K (.i .i64 (.y r)) l) :
    S.call 137 [.s x, .i .u8 c] l K :=
  qcf hS (place_f (c := c.v) hx h0 h rfl) (.cons .rfl (.cons (qag rfl) .nil)) rfl rfl (hK _ rfl)
def w18 : List UInt8 := [45, 47, 48, 49, 50, 51, 97, 99, 101, 105, 110, 111, 114, 115, 116, 117, 46, 52, 53, 54, 55, 56, 57, 58, 98, 100, 102, 103, 104, 108, 109, 112, 65, 66, 67, 68, 69, 70, 71, 72, 106, 107, 113, 118, 119, 120, 121, 122]
theorem w18_all : (List.range 256).all (fun n => has w18 n == !(Hu.cls n == 11)) = true := by decide +kernel
theorem w18_at {c : Int} (h0 : 0 ≤ c) (h : c < 256) : (Hu.cls c.toNat = 11 ∧ idxI w18 c < 0) ∨ (Hu.cls c.toNat ≠ 11 ∧ 0 ≤ idxI w18 c) := by
  obtain ⟨n, rfl⟩ : ∃ n : Nat, c = n := ⟨c.toNat, by omega⟩
  have h1 := List.all_eq_true.1 w18_all n (by simp; omega)
  simp only [Int.toNat_natCast] at *
  by_cases e : Hu.cls n = 11
  · exact .inl ⟨e, qgl (by simpa [e] using h1)⟩
  · exact .inr ⟨e, qri (by rw [beq_iff_eq] at h1; rw [h1]; simp [e])⟩
theorem idx_all : (List.range 256).all (fun n => (!(Hu.cls n == 5) || (idxI w5 n == (Hu.codeOf n : Int))) && ((!(Hu.cls n == 6) || (32 + idxI w6 n == (Hu.codeOf n : Int))) && (!(Hu.cls n == 7) || (96 + idxI w7 n == (Hu.codeOf n : Int))))) = true := by decide +kernel
theorem idx_code {c : Int} (h0 : 0 ≤ c) (h : c < 256) : (Hu.cls c.toNat = 5 → idxI w5 c = codeI c) ∧ (Hu.cls c.toNat = 6 → 32 + idxI w6 c = codeI c) ∧ (Hu.cls c.toNat = 7 → 96 + idxI w7 c = codeI c) := by
  obtain ⟨n, rfl⟩ : ∃ n : Nat, c = n := ⟨c.toNat, by omega⟩
  have h1 := List.all_eq_true.1 idx_all n (by simp; omega)
  simp only [Bool.and_eq_true, Bool.or_eq_true, Bool.not_eq_true', beq_eq_false_iff_ne, beq_iff_eq] at h1
  unfold codeI
  simp only [Int.toNat_natCast] at *
  exact ⟨fun e => h1.1.resolve_left (by simp [e]), fun e => h1.2.1.resolve_left (by simp [e]), fun e => h1.2.2.resolve_left (by simp [e])⟩
theorem others_f {c r : Int} (h0 : 0 ≤ c) (hc : c < 256) (hr : cntI 11 c = r) : (S0 Tryd.prog).call 138 [.i .u8 (.y c)] [] (fun y _ => Sub y (.i .i64 (.y r))) := by
  generalize hS : S0 Tryd.prog = S
  refine qac hS I.qjr ?_
  cbv
  refine qba hS 0 I.qgq (fun x : Int × Int => 0 ≤ x.1 ∧ x.1 ≤ c ∧ x.2 = cntI 11 x.1)
    (fun x => [(4, .i .i64 (.y x.1)), (3, .i .i64 (.y x.2))]) (fun _ => []) (fun x => (c - x.1).toNat) (0, 0) rfl ⟨⟨Int.le_refl _, by dsimp only; omega, rfl⟩, rfl, ?_, ?_, by cbv⟩ ?_
  · cbv; all_goals exact s_sA
  · cbv; all_goals exact s_bA
  intro x
  obtain ⟨j, w⟩ := x
  intro hx
  dsimp only at hx
  cbv
  obtain ⟨g0, g1, g2⟩ := hx
  have hw : 0 ≤ w ∧ w ≤ j := by rw [g2]; exact qig g0
  refine s_cvi hS ?_ (by simp only [lo]; omega) (by simp only [hi]; omega)
  cbv
  refine qab hS ?_ ?_ <;> intro h <;> cbv
  · repeat' (first
    | (refine s_st hS ?_; try cbv)
    | (refine qab hS ?_ ?_ <;> intro h <;> (try cbv) <;> try exact s_ab h)
    | (refine qai hS ?_; intro _ _; try cbv)
    | (refine qae hS ?_; try cbv))
    rcases w18_at g0 (by omega) with ⟨e, hq⟩ | ⟨e, hq⟩
    · refine qec hS (by decide) g0 (by simp only [Z.v]; omega) fun r18 h18 => ?_
      replace h18 : r18 < 0 := by rw [← h18]; exact hq
      cbv
      repeat' (first
        | (refine s_st hS ?_; try cbv)
        | (refine qab hS ?_ ?_ <;> intro h <;> (try cbv) <;> try exact s_ab h)
        | (refine qai hS ?_; intro _ _; try cbv)
        | (refine qae hS ?_; try cbv))
      rename_i w2 hw2 j2 hj2
      have n11 := qaq (m := 11) g0
      rw [if_pos e, ← hj2] at n11
      have g2 : w = cntI 11 j := g2
      refine ⟨(j2, w2), by dsimp only; omega, ⟨by dsimp only; omega, by dsimp only; omega, by dsimp only; omega⟩, rfl, ?_, ?_, by cbv⟩
      · cbv; all_goals exact s_sA
      · cbv; all_goals exact s_bA
    · refine qec hS (by decide) g0 (by simp only [Z.v]; omega) fun r18 h18 => ?_
      replace h18 : 0 ≤ r18 := by rw [← h18]; exact hq
      cbv
      repeat' (first
        | (refine s_st hS ?_; try cbv)
        | (refine qab hS ?_ ?_ <;> intro h <;> (try cbv) <;> try exact s_ab h)
        | (refine qai hS ?_; intro _ _; try cbv)
        | (refine qae hS ?_; try cbv))
      rename_i j2 hj2
      have n11 := qaq (m := 11) g0
      rw [if_neg e, ← hj2] at n11
      have g2 : w = cntI 11 j := g2
      refine ⟨(j2, w), by dsimp only; omega, ⟨by dsimp only; omega, by dsimp only; omega, by dsimp only; omega⟩, rfl, ?_, ?_, by cbv⟩
      · cbv; all_goals exact s_sA
      · cbv; all_goals exact s_bA
  · refine qag ?_
    simp only [Z.v]
    rw [← hr, g2, show j = c by omega]
theorem others_u {S : Sy} (hS : S0 Tryd.prog = S) {l : List Blk} {K : SV → List Blk → Prop} {c : Z} (h0 : 0 ≤ c.v) (h : c.v < 256) (hK : ∀ r, cntI 11 c.v = r → K (.i .i64 (.y r)) l) :
    S.call 138 [.i .u8 c] l K :=
  qcf hS (others_f (c := c.v) h0 h rfl) (.cons (qag rfl) .nil) rfl rfl (hK _ rfl)
theorem rCode_f {c a m : Int} (h0 : 0 ≤ c) (hc : c < 256) (ha : codeI c = a) (hm : clsI c = m) : (S0 Tryd.prog).call 135 [.i .u8 (.y c)] [] (fun x _ => Sub x (.tp [.i .i64 (.y a), .i .i64 (.y m)])) := by
  obtain ⟨x5, x6, x7⟩ := idx_code h0 hc
  have cb := codeI_bd ⟨h0, hc⟩
  rw [ha] at x5 x6 x7 cb
  generalize hS : S0 Tryd.prog = S
  refine qac hS I.qmp ?_
  cbv
  rcases idx_at h0 hc with ⟨e, i5, i6, i7⟩ | ⟨e, i5, i6, i7⟩ | ⟨e, i5, i6, i7⟩ | ⟨e, i5, i6, i7⟩
  · have x5 := x5 e
    have em : m = 5 := by rw [← hm]; unfold clsI; rw [e]; rfl
    refine qec hS (by decide) h0 hc fun r h => ?_
    replace h : r = idxI w5 c := h.symm
    cbv
    repeat' (first
      | (refine s_st hS ?_; try cbv)
      | (refine qab hS ?_ ?_ <;> intro h <;> (try cbv) <;> try exact s_ab h)
      | (refine qai hS ?_; intro _ _; try cbv)
      | (refine qae hS ?_; try cbv))
    refine qec hS (by decide) h0 hc fun s h => ?_
    replace h : s = idxI w5 c := h.symm
    cbv
    all_goals exact s_sA
  · have x6 := x6 e
    have em : m = 6 := by rw [← hm]; unfold clsI; rw [e]; rfl
    refine qec hS (by decide) h0 hc fun r h => ?_
    replace h : r = idxI w5 c := h.symm
    cbv
    repeat' (first
      | (refine s_st hS ?_; try cbv)
      | (refine qab hS ?_ ?_ <;> intro h <;> (try cbv) <;> try exact s_ab h)
      | (refine qai hS ?_; intro _ _; try cbv)
      | (refine qae hS ?_; try cbv))
    refine qec hS (by decide) h0 hc fun r h => ?_
    replace h : r = idxI w6 c := h.symm
    cbv
    repeat' (first
      | (refine s_st hS ?_; try cbv)
      | (refine qab hS ?_ ?_ <;> intro h <;> (try cbv) <;> try exact s_ab h)
      | (refine qai hS ?_; intro _ _; try cbv)
      | (refine qae hS ?_; try cbv))
    refine qec hS (by decide) h0 hc fun s h => ?_
    replace h : s = idxI w6 c := h.symm
    cbv
    repeat' (first
      | (refine s_st hS ?_; try cbv)
      | (refine qab hS ?_ ?_ <;> intro h <;> (try cbv) <;> try exact s_ab h)
      | (refine qai hS ?_; intro _ _; try cbv)
      | (refine qae hS ?_; try cbv))
    all_goals exact s_sA
  · have x7 := x7 e
    have em : m = 7 := by rw [← hm]; unfold clsI; rw [e]; rfl
    refine qec hS (by decide) h0 hc fun r h => ?_
    replace h : r = idxI w5 c := h.symm
    cbv
    repeat' (first
      | (refine s_st hS ?_; try cbv)
      | (refine qab hS ?_ ?_ <;> intro h <;> (try cbv) <;> try exact s_ab h)
      | (refine qai hS ?_; intro _ _; try cbv)
      | (refine qae hS ?_; try cbv))
    refine qec hS (by decide) h0 hc fun r h => ?_
    replace h : r = idxI w6 c := h.symm
    cbv
    repeat' (first
      | (refine s_st hS ?_; try cbv)
      | (refine qab hS ?_ ?_ <;> intro h <;> (try cbv) <;> try exact s_ab h)
      | (refine qai hS ?_; intro _ _; try cbv)
      | (refine qae hS ?_; try cbv))
    refine qec hS (by decide) h0 hc fun r h => ?_
    replace h : r = idxI w7 c := h.symm
    cbv
    repeat' (first
      | (refine s_st hS ?_; try cbv)
      | (refine qab hS ?_ ?_ <;> intro h <;> (try cbv) <;> try exact s_ab h)
      | (refine qai hS ?_; intro _ _; try cbv)
      | (refine qae hS ?_; try cbv))
    refine qec hS (by decide) h0 hc fun s h => ?_
    replace h : s = idxI w7 c := h.symm
    cbv
    repeat' (first
      | (refine s_st hS ?_; try cbv)
      | (refine qab hS ?_ ?_ <;> intro h <;> (try cbv) <;> try exact s_ab h)
      | (refine qai hS ?_; intro _ _; try cbv)
      | (refine qae hS ?_; try cbv))
    all_goals exact s_sA
  · have x11 : a = 1792 + cntI 11 c := by rw [← ha, qkm e]; rfl
    have em : m = 11 := by rw [← hm]; unfold clsI; rw [e]; rfl
    refine qec hS (by decide) h0 hc fun r h => ?_
    replace h : r = idxI w5 c := h.symm
    cbv
    repeat' (first
      | (refine s_st hS ?_; try cbv)
      | (refine qab hS ?_ ?_ <;> intro h <;> (try cbv) <;> try exact s_ab h)
      | (refine qai hS ?_; intro _ _; try cbv)
      | (refine qae hS ?_; try cbv))
    refine qec hS (by decide) h0 hc fun r h => ?_
    replace h : r = idxI w6 c := h.symm
    cbv
    repeat' (first
      | (refine s_st hS ?_; try cbv)
      | (refine qab hS ?_ ?_ <;> intro h <;> (try cbv) <;> try exact s_ab h)
      | (refine qai hS ?_; intro _ _; try cbv)
      | (refine qae hS ?_; try cbv))
    refine qec hS (by decide) h0 hc fun r h => ?_
    replace h : r = idxI w7 c := h.symm
    cbv
    repeat' (first
      | (refine s_st hS ?_; try cbv)
      | (refine qab hS ?_ ?_ <;> intro h <;> (try cbv) <;> try exact s_ab h)
      | (refine qai hS ?_; intro _ _; try cbv)
      | (refine qae hS ?_; try cbv))
    refine others_u hS h0 hc fun s h => ?_
    replace h : s = cntI 11 c := h.symm
    cbv
    repeat' (first
      | (refine s_st hS ?_; try cbv)
      | (refine qab hS ?_ ?_ <;> intro h <;> (try cbv) <;> try exact s_ab h)
      | (refine qai hS ?_; intro _ _; try cbv)
      | (refine qae hS ?_; try cbv))
    all_goals exact s_sA
theorem rCode_u {S : Sy} (hS : S0 Tryd.prog = S) {l : List Blk} {K : SV → List Blk → Prop} {c : Z} (h0 : 0 ≤ c.v) (h : c.v < 256) (hK : ∀ a m, codeI c.v = a → clsI c.v = m → K (.tp [.i .i64 (.y a), .i .i64 (.y m)]) l) :
    S.call 135 [.i .u8 c] l K :=
  qcf hS (rCode_f (c := c.v) h0 h rfl rfl) (.cons (qag rfl) .nil) rfl rfl (hK _ _ rfl rfl)
theorem find_at {a m i : Int} (h0 : 0 ≤ i) (h : i < 256) (h1 : codeI i = a) (h2 : clsI i = m) : findR a m = i ∧ findB a m = true := by
  have : findO a m = some i.toNat := by
    unfold findO codeI clsI at *
    rw [← h1, ← h2, if_pos ⟨by omega, by omega⟩]
    simp only [Int.toNat_natCast]
    exact Hu.qtq (by omega)
  unfold findR findB
  rw [this]
  refine ⟨?_, rfl⟩
  show ((i.toNat : Nat) : Int) = i
  omega
theorem find_not {a m : Int} (h : ∀ i : Int, 0 ≤ i → i < 256 → ¬(codeI i = a ∧ clsI i = m)) : findR a m = 0 ∧ findB a m = false := by
  have : findO a m = none := by
    cases hf : findO a m with
    | none => rfl
    | some c => obtain ⟨h1, h2, h3⟩ := qpm hf; exact absurd ⟨h2, h3⟩ (h c (by omega) (by omega))
  unfold findR findB
  rw [this]; exact ⟨rfl, rfl⟩
theorem rOf_f {a m r : Int} {b : Bool} (hr : findR a m = r) (hb : findB a m = b) : (S0 Tryd.prog).call 132 [.i .i64 (.y a), .i .i64 (.y m)] [] (fun x _ => Sub x (.tp [.i .u8 (.y r), .b b])) := by
  generalize hS : S0 Tryd.prog = S
  refine qac hS I.qpl ?_
  cbv
  refine qba hS 0 I.qjw (fun j : Int => 0 ≤ j ∧ j ≤ 256 ∧ ∀ i : Int, 0 ≤ i → i < j → ¬(codeI i = a ∧ clsI i = m))
    (fun j => [(6, .i .i64 (.y j))]) (fun _ => []) (fun j => (256 - j).toNat) 0 rfl ⟨⟨Int.le_refl _, by omega, fun i h h' => by omega⟩, rfl, ?_, ?_, by cbv⟩ ?_
  · cbv; all_goals exact s_sA
  · cbv; all_goals exact s_bA
  intro j hj
  cbv
  obtain ⟨g0, g1, g2⟩ := hj
  refine qab hS ?_ ?_ <;> intro h <;> cbv
  · repeat' (first
    | (refine s_st hS ?_; try cbv)
    | (refine qab hS ?_ ?_ <;> intro h <;> (try cbv) <;> try exact s_ab h)
    | (refine qai hS ?_; intro _ _; try cbv)
    | (refine qae hS ?_; try cbv)
    | (refine rCode_u hS g0 (by simp only [Z.v]; omega) fun x y hx hy => ?_; cbv))
    · rename_i e1 e2
      have hf := find_at (a := a) (m := m) g0 (by assumption) (hx.trans (by assumption)) (hy.trans (by assumption))
      have e1 : r = j := by rw [← hr, hf.1]
      have e2 : b = true := by rw [← hb, hf.2]
      all_goals exact s_sA
    · rename_i e1 j2 hj2
      refine ⟨j2, by omega, ⟨by omega, by omega, fun i h0 h1 => ?_⟩, rfl, ?_, ?_, by cbv⟩
      · rcases Int.lt_or_le i j with hl | hl
        · exact g2 i h0 hl
        · obtain rfl : i = j := by omega
          rintro ⟨e3, e4⟩
          exact absurd (hy.symm.trans e4) (by assumption)
      · cbv; all_goals exact s_sA
      · cbv; all_goals exact s_bA
    · rename_i j2 hj2
      refine ⟨j2, by omega, ⟨by omega, by omega, fun i h0 h1 => ?_⟩, rfl, ?_, ?_, by cbv⟩
      · rcases Int.lt_or_le i j with hl | hl
        · exact g2 i h0 hl
        · obtain rfl : i = j := by omega
          rintro ⟨e3, e4⟩
          exact absurd (hx.symm.trans e3) (by assumption)
      · cbv; all_goals exact s_sA
      · cbv; all_goals exact s_bA
  · have := find_not (a := a) (m := m) fun i h0 h1 => g2 i h0 (by omega)
    have e1 : r = 0 := by rw [← hr, this.1]
    have e2 : b = false := by rw [← hb, this.2]
    all_goals exact s_sA
end Cz
namespace Cz
open Go Go.RowKit Go.Proofs
theorem s_quo {S : Sy} {k : IntKind} {a b : Int} {K : Int → Prop} (hS : S0 Tryd.prog = S) (h0 : 0 ≤ a) (hb : 0 < b) (h1 : a ≤ Cz.hi k) (h : ∀ r, r = a / b → K r) : S.ar .quo k a b K := by
  refine qqk hS _ ?_ (h _ rfl)
  show k.wrap (a.tdiv b) = _
  rw [Int.tdiv_eq_ediv_of_nonneg h0]
  have h2 := Int.ediv_nonneg h0 (by omega : 0 ≤ b)
  have h3 := Int.ediv_le_self b h0
  exact qhm (by have := qyc k; omega) (by omega)
theorem s_rem {S : Sy} {k : IntKind} {a b : Int} {K : Int → Prop} (hS : S0 Tryd.prog = S) (h0 : 0 ≤ a) (h : ∀ r, r = a % b → K r) : S.ar .rem k a b K := by
  refine qqk hS _ ?_ (h _ rfl)
  show a.tmod b = _
  exact Int.tmod_eq_emod_of_nonneg h0
def shortB (b : List Int) : Bool := decide ((bitsI b (ilen b) + 7) / 8 < ilen b)
theorem Shorter_f {b : List Int} {t : Bool} (hb : Hu.BOk b) (hn : ilen b ≤ 1000000) (ht : shortB b = t) :
    (S0 Tryd.prog).call 89 [.sl 0 1 (.l 0) (.y (ilen b)) none] [.r true true (.l 0) 1 (cellsB b)] (fun x _ => Sub x (.b t)) := by
  have hB := Bits_f hb hn rfl
  obtain ⟨r, hr⟩ : ∃ r, bitsI b (ilen b) = r := ⟨_, rfl⟩
  have hrb := qok (b := b) (qaf b)
  obtain ⟨n, hn'⟩ : ∃ n, ilen b = n := ⟨_, rfl⟩
  have h0n := qaf b
  have ht' : t = decide ((r + 7) / 8 < n) := by rw [← ht, ← hr, ← hn']; rfl
  rw [hr] at hrb hB
  rw [hn'] at hn h0n hrb hB ⊢
  have hpl := qad b
  generalize hF : cellsB b = F at hpl hB ⊢
  generalize hS : S0 Tryd.prog = S
  refine qac hS I.qtp ?_
  cbv
  refine qel hS id hB .rfl rfl ⟨⟨true, .l 0, 1, F, true, true, .l 0, F, rfl, hpl, rfl, .rfl⟩, trivial⟩ rfl ?_
  cbv
  repeat' (first
    | (refine s_st hS ?_; try cbv)
    | (refine qab hS ?_ ?_ <;> intro h <;> (try cbv) <;> try exact s_ab h)
    | (refine qai hS ?_; intro _ _; try cbv)
    | (refine qae hS ?_; try cbv)
    | (refine qbx hS (c := 8) rfl ?_; intro _ _; cbv))
  rename_i e
  refine qwz ?_
  simp only [← hS, Int.ofNat_eq_natCast, cq, Bool.not_eq_true', Bool.not_eq_false', decide_eq_true_eq, decide_eq_false_iff_not, beq_iff_eq, beq_eq_false_iff_ne, ne_eq]
  rw [ht']
  congr 2
  omega
def shrI (v k : Int) : Int := v / 2 ^ k.toNat
def bitB (b : List Int) (i : Int) : Bool := okI b i 1
def bitR (b : List Int) (i : Int) : Int := if bitB b i then bitI b i else 0
theorem Bit_f {b : List Int} {i r : Int} {t : Bool} (hb : Hu.BOk b) (hn : ilen b ≤ 1000000) (hi64 : i ≤ 9223372036854775807) (hr : bitR b i = r) (ht : bitB b i = t) :
    (S0 Tryd.prog).call 133 [.sl 0 1 (.l 0) (.y (ilen b)) none, .i .i64 (.y i)] [.r true true (.l 0) 1 (cellsB b)] (fun x _ => Sub x (.tp [.i .i64 (.y r), .b t])) := by
  obtain ⟨n, hn'⟩ : ∃ n, n = ilen b := ⟨_, rfl⟩
  have h0n := qaf b
  rw [← hn'] at hn h0n ⊢
  have hpl := qad b
  generalize hF : cellsB b = F at hpl ⊢
  generalize hS : S0 Tryd.prog = S
  refine qac hS I.qnw ?_
  cbv
  repeat' (first
    | (refine s_st hS ?_; try cbv)
    | (refine qab hS ?_ ?_ <;> intro h <;> (try cbv) <;> try exact s_ab h)
    | (refine qai hS ?_; intro _ _; try cbv)
    | (refine qae hS ?_; try cbv)
    | (refine s_quo hS (by omega) (by omega) (by simp only [hi]; omega) ?_; intro _ _; cbv))
  · have e2 : t = false := by rw [← ht]; exact okI_f (.inl h)
    have e1 : r = 0 := by rw [← hr]; unfold bitR; rw [ht, e2]; rfl
    all_goals exact s_sA
  · have e2 : t = false := by rw [← ht]; exact okI_f (.inr (by omega))
    have e1 : r = 0 := by rw [← hr]; unfold bitR; rw [ht, e2]; rfl
    all_goals exact s_sA
  · have e2 : t = true := by rw [← ht]; exact okI_t (by omega) (by omega)
    have e1 : r = bitI b i := by rw [← hr]; unfold bitR; rw [ht, e2]; rfl
    rename_i q1 hq1 q hq
    obtain ⟨v, hv⟩ := qek (l := b) (i := q) (by omega) (by omega)
    have hb0 := hb v (List.mem_of_getElem? hv)
    repeat' (first
      | (refine s_st hS ?_; try cbv)
      | (refine qab hS ?_ ?_ <;> intro h <;> (try cbv) <;> try exact s_ab h)
      | (refine qai hS ?_; intro _ _; try cbv)
      | (refine qae hS ?_; try cbv)
      | (refine rowB hS hF hv rfl (by omega) ?_; try cbv))
    obtain ⟨sh, hsh⟩ : ∃ sh, sh = 7 - i % 8 := ⟨_, rfl⟩
    refine qba hS 1 I.qip (fun x : Int × Int => 0 ≤ x.1 ∧ x.1 ≤ sh ∧ x.2 = shrI v x.1)
      (fun x => [(7, .i .i64 (.y x.1)), (6, .i .i64 (.y x.2))]) (fun x => [])
      (fun x => (sh - x.1).toNat) (0, v) rfl ⟨⟨Int.le_refl _, by dsimp only; omega, by simp [shrI]⟩, rfl, ?_, ?_, ?_⟩ ?_
    · cbv; all_goals exact s_sA
    · cbv; all_goals exact s_bA
    · cbv; exact gc_c (gc_m (qan hpl)) rfl
    · intro x
      obtain ⟨k, w⟩ := x
      intro hx
      dsimp only at hx
      cbv
      obtain ⟨g0, g1, g2⟩ := hx
      unfold shrI at g2
      have hw : 0 ≤ w ∧ w < 256 := by
        rw [g2]
        have h1 := Int.ediv_nonneg hb0.1 (by have := qdm k.toNat; omega : (0 : Int) ≤ 2 ^ k.toNat)
        have h2 := Int.ediv_le_self ((2 : Int) ^ k.toNat) hb0.1
        omega
      have hw2 : w / 2 = shrI v (k + 1) := by
        unfold shrI
        rw [g2, Int.ediv_ediv_of_nonneg (by have := qdm k.toNat; omega), show (k + 1).toNat = k.toNat + 1 by omega, Int.pow_succ]
      have hend : k = sh → bitI b i = w % 2 := fun e => bit_of hv hb (by omega) hq (j := k) (by omega) (by rw [g2])
      clear g2
      repeat' (first
        | (refine s_st hS ?_; try cbv)
        | (refine qab hS ?_ ?_ <;> intro h <;> (try cbv) <;> try exact s_ab h)
        | (refine qai hS ?_; intro _ _; try cbv)
        | (refine qae hS ?_; try cbv)
        | (refine s_rem hS (by omega) ?_; intro _ _; cbv)
        | (refine s_quo hS (by omega) (by omega) (by simp only [hi]; omega) ?_; intro _ _; cbv))
      · rename_i w2 hw2' k2 hk2
        refine ⟨(k2, w2), by dsimp only; omega, ⟨by dsimp only; omega, by dsimp only; omega, ?_⟩, rfl, ?_, ?_, ?_⟩
        · dsimp only; rw [hw2', hk2]; exact hw2
        · cbv; all_goals exact s_sA
        · cbv; all_goals exact s_bA
        · cbv; exact gc_c (gc_m (qan hpl)) rfl
      · have := hend (by omega)
        all_goals exact s_sA
theorem Bit_u {S : Sy} (hS : S0 Tryd.prog = S) {b : List Int} {F : List SV} {n : Int} {zi : Z} {k : Nat} {ro lit : Bool} {st : Z} {l : List Blk} {K : SV → List Blk → Prop} (hb : Hu.BOk b) (hn : ilen b ≤ 1000000) (hn' : n = ilen b) (hF : cellsB b = F)
    (hrow : lget l k = .r ro lit st 1 F) (i : Int) (hzi : zi.v = i) (h0 : 0 ≤ i) (h8 : i < 8 * n) (h1 : ∀ r, bitI b i = r → K (.tp [.i .i64 (.y r), .tt]) l) :
    S.call 133 [.sl k 1 (.l 0) (.y n) none, .i .i64 zi] l K := by
  subst hn' hF hzi
  have hB : bitB b zi.v = true := okI_t h0 (by omega)
  have hf := Bit_f (b := b) (i := zi.v) hb hn (by omega) rfl rfl
  refine qel hS (fun _ => k) (sv := .tp [.i .i64 (.y (bitI b zi.v)), .tt]) (qay hf fun x l' hx => ⟨x, .rfl, hx.trans (qaw (.cons (qag ?_) (.cons (qfd hB) .nil)))⟩) (.cons .rfl (.cons (qag rfl) .nil)) rfl ⟨⟨_, _, _, _, _, _, _, _, rfl, qad b, hrow, .rfl⟩, trivial⟩ rfl (h1 _ rfl)
  unfold bitR; rw [hB]; rfl
theorem rBitsO_f {b : List Int} {i k r : Int} {t : Bool} (hb : Hu.BOk b) (hn : ilen b ≤ 1000000) (hr : oBitsR b i k = r) (ht : oBitsB b i k = t) :
    (S0 Tryd.prog).call 127 [.sl 0 1 (.l 0) (.y (ilen b)) none, .i .i64 (.y i), .i .i64 (.y k)] [.r true true (.l 0) 1 (cellsB b)] (fun x _ => Sub x (.tp [.i .i64 (.y r), .b t])) := by
  obtain ⟨n, hn'⟩ : ∃ n, n = ilen b := ⟨_, rfl⟩
  have hnb := hn
  have h0n := qaf b
  have hyes : 0 ≤ k → k ≤ 30 → 0 ≤ i → i + k ≤ 8 * n → t = true ∧ r = numI b i k := by
    intro h1 h2 h3 h4
    have e2 : t = true := by
      rw [← ht]; unfold oBitsB
      split
      · simp; omega
      · rw [if_neg (by omega)]; exact okI_t h3 (by omega)
    exact ⟨e2, by rw [← hr]; unfold oBitsR; rw [ht, e2]; rfl⟩
  have hno : (k < 0 ∨ 30 < k ∨ i < 0 ∨ 8 * n < i + k ∨ 8 * n < i) → t = false ∧ r = 0 := by
    intro h1
    have e2 : t = false := by
      rw [← ht]; unfold oBitsB
      split
      · rename_i hk; simp; omega
      · split
        · rfl
        · exact okI_f (by omega)
    exact ⟨e2, by rw [← hr]; unfold oBitsR; rw [ht, e2]; rfl⟩
  rw [← hn'] at hn h0n ⊢
  have hpl := qad b
  generalize hF : cellsB b = F at hpl ⊢
  generalize hS : S0 Tryd.prog = S
  refine qac hS I.qmr ?_
  cbv
  repeat' (first
    | (refine s_st hS ?_; try cbv)
    | (refine qab hS ?_ ?_ <;> intro h <;> (try cbv) <;> try exact s_ab h)
    | (refine qai hS ?_; intro _ _; try cbv)
    | (refine qae hS ?_; try cbv)
    | (refine qnc hS ?_ (by simp only [lo]; omega) (by simp only [hi]; omega); intro _ _; try cbv))
  · obtain ⟨e2, e1⟩ := hno (by omega); all_goals exact s_sA
  · obtain ⟨e2, e1⟩ := hno (by omega); all_goals exact s_sA
  · obtain ⟨e2, e1⟩ := hno (by omega); all_goals exact s_sA
  · obtain ⟨e2, e1⟩ := hno (by omega); all_goals exact s_sA
  · obtain ⟨e2, e1⟩ := hno (by omega); all_goals exact s_sA
  · obtain ⟨e2, e1⟩ := hyes (by omega) (by omega) (by omega) (by omega)
    refine qba hS 1 I.qif (fun x : Int × Int => 0 ≤ x.1 ∧ x.1 ≤ k ∧ x.2 = numI b i x.1)
      (fun x => [(9, .i .i64 (.y x.1)), (8, .i .i64 (.y x.2))]) (fun x => [])
      (fun x => (k - x.1).toNat) (0, 0) rfl ⟨⟨Int.le_refl _, by dsimp only; omega, by simp [qsm]⟩, rfl, ?_, ?_, ?_⟩ ?_
    · cbv; all_goals exact s_sA
    · cbv; all_goals exact s_bA
    · cbv; exact gc_c (gc_m (qan hpl)) rfl
    · intro x
      obtain ⟨j, w⟩ := x
      intro hx
      dsimp only at hx
      cbv
      obtain ⟨g0, g1, g2⟩ := hx
      have hw : 0 ≤ w ∧ w < 1073741824 := by rw [g2]; exact numI_bd (by omega)
      repeat' (first
        | (refine s_st hS ?_; try cbv)
        | (refine qab hS ?_ ?_ <;> intro h <;> (try cbv) <;> try exact s_ab h)
        | (refine qai hS ?_; intro _ _; try cbv)
        | (refine qae hS ?_; try cbv)
        | (refine Bit_u hS hb hnb hn' hF rfl (i + j) (by simp only [Z.v]; omega) (by omega) (by omega) fun u hu => ?_; have hu1 := bitI_bd b (i + j); rw [hu] at hu1; cbv)
        | (refine qnc hS ?_ (by simp only [lo]; omega) (by simp only [hi]; omega); intro _ _; try cbv))
      · rename_i w1 hw1 w2 hw2 j2 hj2
        have hnx := qzabd (b := b) (i := i) (k := j) (by omega) g0 (by omega)
        refine ⟨(j2, w2), by dsimp only; omega, ⟨by dsimp only; omega, by dsimp only; omega, ?_⟩, rfl, ?_, ?_, ?_⟩
        · dsimp only; rw [hj2, hnx, hu, ← g2]; omega
        · cbv; all_goals exact s_sA
        · cbv; all_goals exact s_bA
        · cbv; exact gc_c (gc_m (qan hpl)) rfl
      · have e3 : w = r := by rw [e1, g2, show j = k by omega]
        all_goals exact s_sA
def strB (l : List Int) : List UInt8 := l.map fun v => v.toNat.toUInt8
theorem s_bs {S : Sy} (hS : S0 Tryd.prog = S) {l : List Int} {F : List SV} {n : Int} {K : List UInt8 → Prop} (hb : Hu.BOk l) (hF : cellsB l = F) (hn : n = ilen l) (h : K (strB l)) : S.bs F 0 n K := by
  subst hS hF hn
  refine ⟨Int.le_refl _, qaf l, strB l, ⟨by simp [strB, ilen], ?_⟩, h⟩
  intro q c hc
  unfold strB at hc
  rw [List.getElem?_map, Option.map_eq_some_iff] at hc
  obtain ⟨v, hv, rfl⟩ := hc
  refine ⟨.y v, ?_, ?_⟩
  · rw [show (0 : Int).toNat + q = q by simp]; exact cellsB_get hv
  · have := hb v (List.mem_of_getElem? hv)
    simp only [Z.v, Nat.toUInt8, UInt8.toNat_ofNat']
    omega
theorem Same_f {a b : List Int} (ha : Hu.BOk a) (hb : Hu.BOk b) (hab : a = b) :
    (S0 Tryd.prog).call 46 [.sl 0 1 (.l 0) (.y (ilen a)) none, .sl 1 1 (.l 0) (.y (ilen b)) none] [.r true true (.l 0) 1 (cellsB a), .r true true (.l 0) 1 (cellsB b)] (fun x _ => Sub x .tt) := by
  obtain ⟨n, hn⟩ : ∃ n, n = ilen a := ⟨_, rfl⟩
  obtain ⟨m, hm⟩ : ∃ m, m = ilen b := ⟨_, rfl⟩
  rw [← hn, ← hm]
  generalize hF : cellsB a = F
  generalize hG : cellsB b = G
  generalize hS : S0 Tryd.prog = S
  have hs : strB a = strB b := by rw [hab]
  generalize hx : strB a = x at hs
  generalize hy : strB b = y at hs
  refine qac hS I.qmq ?_
  cbv
  refine s_bs hS ha hF hn ?_
  rw [hx]
  cbv
  refine s_bs hS hb hG hm ?_
  rw [hy, ← hs]
  cbv
  refine qfd ?_
  simp only [← hS, Int.ofNat_eq_natCast, cq, Bool.not_eq_true', Bool.not_eq_false', decide_eq_true_eq, decide_eq_false_iff_not, beq_iff_eq, beq_eq_false_iff_ne, ne_eq]
end Cz
namespace Cz
open Go Go.RowKit Go.Proofs
end Cz
namespace Cz
open Go Go.RowKit Go.Proofs
theorem qxs {S : Sy} (hS : S0 Tryd.prog = S) {b : List Int} {F : List SV} {n : Int} {zi z : Z} {k : Nat} {ro lit : Bool} {st : Z} {l : List Blk} {K : SV → List Blk → Prop} (hb : Hu.BOk b) (hn : ilen b ≤ 1000000) (hn' : n = ilen b) (hF : cellsB b = F)
    (hrow : lget l k = .r ro lit st 1 F) (i m : Int) (hi : zi.v = i) (hm : z.v = m) (hz1 : 1 ≤ m) (hz2 : m ≤ 30) (h1 : okI b i m = true → ∀ r, numI b i m = r → K (.tp [.i .i64 (.y r), .tt]) l) (h2 : okI b i m = false → ∀ r, K (.tp [.i .i64 (.y r), .ff]) l) :
    S.call 127 [.sl k 1 (.l 0) (.y n) none, .i .i64 zi, .i .i64 z] l K := by
  subst hn' hF hi hm
  have hB : oBitsB b zi.v z.v = okI b zi.v z.v := by unfold oBitsB; rw [if_neg (by omega), if_neg (by omega)]
  have hf := rBitsO_f (b := b) (i := zi.v) (k := z.v) hb hn rfl rfl
  cases ht : okI b zi.v z.v with
  | true =>
    refine qel hS (fun _ => k) (sv := .tp [.i .i64 (.y (numI b zi.v z.v)), .tt]) (qay hf fun x l' hx => ⟨x, .rfl, hx.trans (qaw (.cons (qag ?_) (.cons (qfd ?_) .nil)))⟩) (.cons .rfl (.cons (qag rfl) (.cons (qag rfl) .nil))) rfl ⟨⟨_, _, _, _, _, _, _, _, rfl, qad b, hrow, .rfl⟩, trivial⟩ rfl (h1 ht _ rfl)
    · unfold oBitsR; rw [hB, ht]; rfl
    · rw [hB, ht]
  | false =>
    refine qel hS (fun _ => k) (sv := .tp [.i .i64 (.y (oBitsR b zi.v z.v)), .ff]) (qay hf fun x l' hx => ⟨x, .rfl, hx.trans (qaw (.cons .rfl (.cons (qea ?_) .nil)))⟩) (.cons .rfl (.cons (qag rfl) (.cons (qag rfl) .nil))) rfl ⟨⟨_, _, _, _, _, _, _, _, rfl, qad b, hrow, .rfl⟩, trivial⟩ rfl (h2 ht _)
    rw [hB, ht]
theorem rof_u {S : Sy} (hS : S0 Tryd.prog = S) {l : List Blk} {K : SV → List Blk → Prop} {za zm : Z} (a m : Int) (ha : za.v = a) (hm : zm.v = m) (h1 : ∀ c : Int, findO a m = some c.toNat → 0 ≤ c → c < 256 → K (.tp [.i .u8 (.y c), .tt]) l)
    (h2 : findO a m = none → ∀ c, K (.tp [.i .u8 (.y c), .ff]) l) : S.call 132 [.i .i64 za, .i .i64 zm] l K := by
  subst ha hm
  have hf := rOf_f (a := za.v) (m := zm.v) rfl rfl
  cases h : findO za.v zm.v with
  | some c =>
    obtain ⟨hc, _, _⟩ := qpm h
    refine qcf hS (sv := .tp [.i .u8 (.y c), .tt]) (qay hf fun x l' hx => ⟨x, .rfl, hx.trans (qaw (.cons (qag ?_) (.cons (qfd ?_) .nil)))⟩) (.cons (qag rfl) (.cons (qag rfl) .nil)) rfl rfl (h1 c (by simpa using h) (by omega) (by omega))
    · unfold findR; rw [h]
    · unfold findB; rw [h]; rfl
  | none =>
    refine qcf hS (sv := .tp [.i .u8 (.y (findR za.v zm.v)), .ff]) (qay hf fun x l' hx => ⟨x, .rfl, hx.trans (qaw (.cons .rfl (.cons (qea ?_) .nil)))⟩) (.cons (qag rfl) (.cons (qag rfl) .nil)) rfl rfl (h2 h _)
    unfold findB; rw [h]; rfl
def nextR (b : List Int) (i : Int) : Int × Int := match at1I b i 5 with
  | some c => (c, 5)
  | none => match at1I b i 6 with
    | some c => (c, 6)
    | none => match at1I b i 7 with
      | some c => (c, 7)
      | none => match at1I b i 11 with
        | some c => (c, 11)
        | none => (0, 0)
theorem next_f {b : List Int} {i c m : Int} (hb : Hu.BOk b) (hnb : ilen b ≤ 1000000) (h0 : 0 ≤ i) (hr : nextR b i = (c, m)) :
    (S0 Tryd.prog).call 126 [.sl 0 1 (.l 0) (.y (ilen b)) none, .i .i64 (.y i)] [.r true true (.l 0) 1 (cellsB b)] (fun x _ => Sub x (.tp [.i .u8 (.y c), .i .i64 (.y m)])) := by
  obtain ⟨n, hn'⟩ : ∃ n, n = ilen b := ⟨_, rfl⟩
  have h0n := qaf b
  rw [← hn'] at h0n ⊢
  unfold nextR at hr
  have hpl := qad b
  generalize hF : cellsB b = F at hpl ⊢
  generalize hS : S0 Tryd.prog = S
  refine qac hS I.qmo ?_
  cbv
  refine qah hS ?_
  cbv
  refine qxs hS hb hnb hn' hF rfl i 5 rfl rfl (by decide) (by decide) (fun hok r hr1 => ?_) (fun hok r => ?_)
  · cbv
    refine rof_u hS r 5 rfl rfl (fun d hd d0 d1 => ?_) (fun hd d => ?_)
    · have a5 : at1I b i 5 = some d.toNat := by rw [qda hok hr1]; exact hd
      simp only [a5] at hr
      have hrc : c = d := by have := congrArg Prod.fst hr; simp only [Int.toNat_of_nonneg d0] at this; exact this.symm
      have hrm := congrArg Prod.snd hr
      simp only at hrm
      clear hr hok hr1 hd
      cbv
      repeat' (first
        | (refine s_st hS ?_; try cbv)
        | (refine qab hS ?_ ?_ <;> intro h <;> (try cbv) <;> try exact s_ab h)
        | (refine qai hS ?_; intro _ _; try cbv)
        | (refine qae hS ?_; try cbv)
        | (refine qam hS rfl I.qcg (by decide +kernel) ?_; cbv)
        | (refine And.intro rfl ?_; try cbv))
      exact qaw (.cons (qag (by simp only [Z.v]; omega)) (.cons (qag (by simp only [Z.v]; omega)) .nil))
    · have a5 : at1I b i 5 = none := by rw [qda hok hr1]; exact hd
      cbv
      refine qah hS ?_
      cbv
      refine qxs hS hb hnb hn' hF rfl i 6 rfl rfl (by decide) (by decide) (fun hok r hr1 => ?_) (fun hok r => ?_)
      · cbv
        refine rof_u hS r 6 rfl rfl (fun d hd d0 d1 => ?_) (fun hd d => ?_)
        · have a6 : at1I b i 6 = some d.toNat := by rw [qda hok hr1]; exact hd
          simp only [a5, a6] at hr
          have hrc : c = d := by have := congrArg Prod.fst hr; simp only [Int.toNat_of_nonneg d0] at this; exact this.symm
          have hrm := congrArg Prod.snd hr
          simp only at hrm
          clear hr hok hr1 hd
          cbv
          repeat' (first
            | (refine s_st hS ?_; try cbv)
            | (refine qab hS ?_ ?_ <;> intro h <;> (try cbv) <;> try exact s_ab h)
            | (refine qai hS ?_; intro _ _; try cbv)
            | (refine qae hS ?_; try cbv)
            | (refine qam hS rfl I.qcg (by decide +kernel) ?_; cbv)
            | (refine And.intro rfl ?_; try cbv))
          exact qaw (.cons (qag (by simp only [Z.v]; omega)) (.cons (qag (by simp only [Z.v]; omega)) .nil))
        · have a6 : at1I b i 6 = none := by rw [qda hok hr1]; exact hd
          cbv
          refine qah hS ?_
          cbv
          refine qxs hS hb hnb hn' hF rfl i 7 rfl rfl (by decide) (by decide) (fun hok r hr1 => ?_) (fun hok r => ?_)
          · cbv
            refine rof_u hS r 7 rfl rfl (fun d hd d0 d1 => ?_) (fun hd d => ?_)
            · have a7 : at1I b i 7 = some d.toNat := by rw [qda hok hr1]; exact hd
              simp only [a5, a6, a7] at hr
              have hrc : c = d := by have := congrArg Prod.fst hr; simp only [Int.toNat_of_nonneg d0] at this; exact this.symm
              have hrm := congrArg Prod.snd hr
              simp only at hrm
              clear hr hok hr1 hd
              cbv
              repeat' (first
                | (refine s_st hS ?_; try cbv)
                | (refine qab hS ?_ ?_ <;> intro h <;> (try cbv) <;> try exact s_ab h)
                | (refine qai hS ?_; intro _ _; try cbv)
                | (refine qae hS ?_; try cbv)
                | (refine qam hS rfl I.qcg (by decide +kernel) ?_; cbv)
                | (refine And.intro rfl ?_; try cbv))
              exact qaw (.cons (qag (by simp only [Z.v]; omega)) (.cons (qag (by simp only [Z.v]; omega)) .nil))
            · have a7 : at1I b i 7 = none := by rw [qda hok hr1]; exact hd
              cbv
              refine qah hS ?_
              cbv
              refine qxs hS hb hnb hn' hF rfl i 11 rfl rfl (by decide) (by decide) (fun hok r hr1 => ?_) (fun hok r => ?_)
              · cbv
                refine rof_u hS r 11 rfl rfl (fun d hd d0 d1 => ?_) (fun hd d => ?_)
                · have a11 : at1I b i 11 = some d.toNat := by rw [qda hok hr1]; exact hd
                  simp only [a5, a6, a7, a11] at hr
                  have hrc : c = d := by have := congrArg Prod.fst hr; simp only [Int.toNat_of_nonneg d0] at this; exact this.symm
                  have hrm := congrArg Prod.snd hr
                  simp only at hrm
                  clear hr hok hr1 hd
                  cbv
                  repeat' (first
                    | (refine s_st hS ?_; try cbv)
                    | (refine qab hS ?_ ?_ <;> intro h <;> (try cbv) <;> try exact s_ab h)
                    | (refine qai hS ?_; intro _ _; try cbv)
                    | (refine qae hS ?_; try cbv)
                    | (refine qam hS rfl I.qcg (by decide +kernel) ?_; cbv)
                    | (refine And.intro rfl ?_; try cbv))
                  exact qaw (.cons (qag (by simp only [Z.v]; omega)) (.cons (qag (by simp only [Z.v]; omega)) .nil))
                · have a11 : at1I b i 11 = none := by rw [qda hok hr1]; exact hd
                  cbv
                  refine qah hS ?_
                  cbv
                  simp only [a5, a6, a7, a11] at hr
                  cases hr
                  exact qaw (.cons (qag rfl) (.cons (qag rfl) .nil))
              · cbv
                have a11 : at1I b i 11 = none := qch (qbb hok (by omega) (by omega))
                simp only [a5, a6, a7, a11] at hr
                cases hr
                exact qaw (.cons (qag rfl) (.cons (qag rfl) .nil))
          · cbv
            have a7 : at1I b i 7 = none := qch (qbb hok (by omega) (by omega))
            have a11 : at1I b i 11 = none := qch (qbb hok (by omega) (by omega))
            simp only [a5, a6, a7, a11] at hr
            cases hr
            exact qaw (.cons (qag rfl) (.cons (qag rfl) .nil))
      · cbv
        have a6 : at1I b i 6 = none := qch (qbb hok (by omega) (by omega))
        have a7 : at1I b i 7 = none := qch (qbb hok (by omega) (by omega))
        have a11 : at1I b i 11 = none := qch (qbb hok (by omega) (by omega))
        simp only [a5, a6, a7, a11] at hr
        cases hr
        exact qaw (.cons (qag rfl) (.cons (qag rfl) .nil))
  · cbv
    have a5 : at1I b i 5 = none := qch (qbb hok (by omega) (by omega))
    have a6 : at1I b i 6 = none := qch (qbb hok (by omega) (by omega))
    have a7 : at1I b i 7 = none := qch (qbb hok (by omega) (by omega))
    have a11 : at1I b i 11 = none := qch (qbb hok (by omega) (by omega))
    simp only [a5, a6, a7, a11] at hr
    cases hr
    exact qaw (.cons (qag rfl) (.cons (qag rfl) .nil))
end Cz
namespace Cz
open Go Go.RowKit Go.Proofs
end Cz
namespace Cz
open Go Go.RowKit Go.Proofs
end Cz
namespace Cz
open Go Go.RowKit Go.Proofs
end Cz
namespace Cz
open Go Go.RowKit Go.Proofs
theorem qee (L : List Int) : ilen L * ((1 : Nat) : Int) = (cellsB L).length := by
  have := qas L
  unfold ilen at this ⊢
  rw [this]; simp
section
variable {S : Sy} {b : List Int} {F : List SV} {k : Nat} {ro lit : Bool} {st zn : Z} {l : List Blk} {K : SV → List Blk → Prop}
theorem put_u (hS : S0 Tryd.prog = S) (hb : Hu.BOk b) (hn : ilen b ≤ 1000000) (hrow : lget l k = .r ro lit st 1 F) (hs : FSub F (cellsB b)) (hz : zn.v = ilen b)
    (hK : ∀ F2 n2 st, cellsB (Hu.put b) = F2 → n2 = ilen (Hu.put b) → K (.sl (len l) 1 (.l 0) (.y n2) none) (snoc l (.r false false (.y st) 1 F2))) : S.call 103 [.sl k 1 (.l 0) zn none] l K :=
  qln hS (fun _ => k) (put_f hb hn) (.cons (qcz rfl hz) .nil) rfl ⟨⟨_, _, _, _, _, _, _, _, rfl, qad _, hrow, hs⟩, trivial⟩ (by omega) (qad _) rfl (qee _) fun st => hK _ _ st rfl rfl
theorem take_u (hS : S0 Tryd.prog = S) (hb : Hu.BOk b) (hn : ilen b ≤ 1000000) (hrow : lget l k = .r ro lit st 1 F) (hs : FSub F (cellsB b)) (hz : zn.v = ilen b)
    (hK : ∀ L F2 n2 st e, takeL b = L → cellsB L = F2 → n2 = ilen L → takeE b = e → K (.tp [.sl (len l) 1 (.l 0) (.y n2) none, .i .i64 (.y e)]) (snoc l (.r false false (.y st) 1 F2))) : S.call 122 [.sl k 1 (.l 0) zn none] l K :=
  qln hS (fun _ => k) (take_f hb hn) (.cons (qcz rfl hz) .nil) rfl ⟨⟨_, _, _, _, _, _, _, _, rfl, qad _, hrow, hs⟩, trivial⟩ (by omega) (qad _) rfl (qee _) fun st => hK _ _ _ st _ rfl rfl rfl rfl
theorem short_u (hS : S0 Tryd.prog = S) (hb : Hu.BOk b) (hn : ilen b ≤ 1000000) (hrow : lget l k = .r ro lit st 1 F) (hs : FSub F (cellsB b)) (hz : zn.v = ilen b)
    (hK : ∀ t, shortB b = t → K (.b t) l) : S.call 89 [.sl k 1 (.l 0) zn none] l K :=
  qel hS (fun _ => k) (Shorter_f hb hn rfl) (.cons (qcz rfl hz) .nil) rfl ⟨⟨_, _, _, _, _, _, _, _, rfl, qad _, hrow, hs⟩, trivial⟩ rfl (hK _ rfl)
theorem same_u {a : List Int} {G : List SV} {k' : Nat} {ro' lit' : Bool} {st' zm : Z} (hS : S0 Tryd.prog = S) (ha : Hu.BOk a) (hab : a = b) (hrow : lget l k = .r ro lit st 1 F) (hs : FSub F (cellsB a)) (hz : zn.v = ilen a)
    (hrow' : lget l k' = .r ro' lit' st' 1 G) (hs' : FSub G (cellsB b)) (hz' : zm.v = ilen b) (hK : K .tt l) : S.call 46 [.sl k 1 (.l 0) zn none, .sl k' 1 (.l 0) zm none] l K :=
  qel hS (fun j => if j = 0 then k else k') (Same_f ha (hab ▸ ha) hab) (.cons (qcz rfl hz) (.cons (qcz rfl hz') .nil)) rfl
    ⟨⟨_, _, _, _, _, _, _, _, rfl, qad _, hrow, hs⟩, ⟨_, _, _, _, _, _, _, _, rfl, qad _, hrow', hs'⟩, trivial⟩ rfl hK
end
theorem bok1 {l : List Int} (h : l.all (fun v => decide (0 ≤ v) && decide (v < 256)) = true) : Hu.BOk l := by
  intro v hv
  have := List.all_eq_true.1 h v hv
  simpa using this
end Cz
namespace Cz
open Go Go.RowKit Go.Proofs
theorem s_nilx {S : Sy} {n : Int} {k1 k2 : Unit → Prop} (hS : S0 Tryd.prog = S) (h1 : n = 0 → k1 ()) (h2 : k2 ()) : S.nil n k1 k2 := by subst hS; exact ⟨h1, h2⟩
def part (b : List Int) (o n : Int) : List Int := (b.drop o.toNat).take n.toNat
theorem sub_part {S : Sy} (hS : S0 Tryd.prog = S) {b : List Int} {F : List SV} {o n : Int} (hF : cellsB b = F) : S.app [] (S.sub F o n 1) = cellsB (part b o n) := by
  subst hS hF
  show [] ++ ((cellsB b).drop (o.toNat * 1)).take (n.toNat * 1) = _
  simp only [List.nil_append, Nat.mul_one, part, qkn, List.map_take, List.map_drop]
theorem qkd {b : List Int} {o n : Int} (h0 : 0 ≤ o) (h1 : 0 ≤ n) (h2 : o + n ≤ ilen b) : ilen (part b o n) = n := by
  unfold part ilen at *
  rw [List.length_take, List.length_drop]; omega
theorem qoj {P : Program} {g : FuncId} {args : List SV} {F : List SV} {sz : Nat} {K : SV → List Blk → Prop} (hp : plains F = true) (h : (S0 P).call g args [.r true false (.l 0) sz F] K) : (S0 P).call g args [.r true true (.l 0) sz F] K := by
  intro N W0 ρ W vals hR hd
  exact h N W0 ρ W vals (hR.sub rfl fun k B' hB => by
    cases k with
    | zero => simp only [List.getElem?_cons_zero, Option.some.injEq] at hB; subst hB; exact ⟨_, rfl, .r .rfl rfl hp⟩
    | succ k => simp at hB) hd
theorem qnd {n0 k : Nat} {L : List Int} {X P : List SV} {lit : Bool} {st nn : Z} {l' : List Blk} (hX : X = cellsB L) (hP : cellsB L = P) (hk : n0 ≤ k) (hn : nn.v = ilen L) (hB : l'[k]? = some (.r false lit st 1 X)) : RowIs n0 1 P (.sl k 1 (.l 0) nn none) l' := by
  rw [hX, hP] at hB
  exact qgx hP hk hn hB
theorem clone_b {b : List Int} {o n : Int} (h0 : 0 ≤ o) (h1 : 0 ≤ n) (h2 : o + n ≤ ilen b) (h3 : ilen b ≤ 1000000) :
    (S0 Tryd.prog).call 110 [.sl 0 1 (.y o) (.y n) none] [.r true true (.l 0) 1 (cellsB b)] (OwnR 1 1 (cellsB (part b o n)) false []) := by
  have hl := qkd h0 h1 h2
  have hpl := qad b
  generalize hF : cellsB b = F at hpl ⊢
  generalize hP : cellsB (part b o n) = P
  refine qoj hpl ?_
  generalize hS : S0 Tryd.prog = S
  refine qac hS I.qvl ?_
  cbv
  refine s_nilx hS ?_ ?_
  · intro h
    cbv
    refine ⟨_, .rfl, .inl ⟨rfl, ?_⟩⟩
    rw [← hP, h]; unfold part; simp [cellsB]
  · cbv
    refine qil hS (G := []) (by rfl) ?_
    cbv
    repeat' (first
      | (refine s_st hS ?_; try cbv)
      | (refine qab hS ?_ ?_ <;> intro h <;> (try cbv) <;> try exact s_ab h)
      | (refine qai hS ?_; intro _ _; try cbv)
      | (refine qae hS ?_; try cbv))
    exact ⟨_, .rfl, qnd (sub_part hS hF) hP (Nat.le_refl 1) (by rw [hl]; rfl) rfl⟩
theorem clone_s {b : List Int} {o n : Int} (h0 : 0 ≤ o) (h1 : 0 ≤ n) (h2 : o + n ≤ ilen b) (h3 : ilen b ≤ 1000000) :
    (S0 Tryd.prog).call 121 [.sl 0 1 (.y o) (.y n) none] [.r true true (.l 0) 1 (cellsB b)] (OwnR 1 1 (cellsB (part b o n)) false []) := by
  have hl := qkd h0 h1 h2
  have hpl := qad b
  generalize hF : cellsB b = F at hpl ⊢
  generalize hP : cellsB (part b o n) = P
  refine qoj hpl ?_
  generalize hS : S0 Tryd.prog = S
  refine qac hS I.qfh ?_
  cbv
  refine s_nilx hS ?_ ?_
  · intro h
    cbv
    refine ⟨_, .rfl, .inl ⟨rfl, ?_⟩⟩
    rw [← hP, h]; unfold part; simp [cellsB]
  · cbv
    refine qil hS (G := []) (by rfl) ?_
    cbv
    repeat' (first
      | (refine s_st hS ?_; try cbv)
      | (refine qab hS ?_ ?_ <;> intro h <;> (try cbv) <;> try exact s_ab h)
      | (refine qai hS ?_; intro _ _; try cbv)
      | (refine qae hS ?_; try cbv))
    exact ⟨_, .rfl, qnd (sub_part hS hF) hP (Nat.le_refl 1) (by rw [hl]; rfl) rfl⟩
section
variable {S : Sy} {b : List Int} {F : List SV} {k : Nat} {ro lit : Bool} {st zo zn : Z} {l : List Blk} {K : SV → List Blk → Prop}
theorem qzj (hS : S0 Tryd.prog = S) (o n : Int) (ho : zo.v = o) (hn : zn.v = n) (h0 : 0 ≤ o) (h1 : 0 ≤ n) (h2 : o + n ≤ ilen b) (h3 : ilen b ≤ 1000000) (hrow : lget l k = .r ro lit st 1 F) (hs : FSub F (cellsB b))
    (hK : ∀ F2 st, cellsB (part b o n) = F2 → K (.sl (len l) 1 (.l 0) (.y n) none) (snoc l (.r false false (.y st) 1 F2))) : S.call 110 [.sl k 1 zo zn none] l K := by
  have hc := qee (part b o n)
  rw [qkd h0 h1 h2] at hc
  exact qln hS (fun _ => k) (clone_b h0 h1 h2 h3) (.cons (qcz ho hn) .nil) rfl ⟨⟨_, _, _, _, _, _, _, _, rfl, qad _, hrow, hs⟩, trivial⟩ (by omega) (qad _) rfl hc fun st => hK _ st rfl
theorem clone_su (hS : S0 Tryd.prog = S) (o n : Int) (ho : zo.v = o) (hn : zn.v = n) (h0 : 0 ≤ o) (h1 : 0 ≤ n) (h2 : o + n ≤ ilen b) (h3 : ilen b ≤ 1000000) (hrow : lget l k = .r ro lit st 1 F) (hs : FSub F (cellsB b))
    (hK : ∀ F2 st, cellsB (part b o n) = F2 → K (.sl (len l) 1 (.l 0) (.y n) none) (snoc l (.r false false (.y st) 1 F2))) : S.call 121 [.sl k 1 zo zn none] l K := by
  have hc := qee (part b o n)
  rw [qkd h0 h1 h2] at hc
  exact qln hS (fun _ => k) (clone_s h0 h1 h2 h3) (.cons (qcz ho hn) .nil) rfl ⟨⟨_, _, _, _, _, _, _, _, rfl, qad _, hrow, hs⟩, trivial⟩ (by omega) (qad _) rfl hc fun st => hK _ st rfl
end
def pgo (b : List Int) : Nat → Int → Int → Int × Int × Int
  | 0, _, _ => (0, 0, 60)
  | f + 1, at', n => match b[at'.toNat]? with
    | none => (0, 0, 10)
    | some v =>
      if 5 < at' ∨ 2147483648 ≤ n + v % 128 * 2 ^ (7 * (at' - 1)).toNat then (0, 0, 60)
      else if v < 128 then (n + v % 128 * 2 ^ (7 * (at' - 1)).toNat, at' + 1, 0)
      else pgo b f (at' + 1) (n + v % 128 * 2 ^ (7 * (at' - 1)).toNat)
def preI (b : List Int) (p : Int) : Int × Int × Int := match b with
  | [] => (0, 0, 10)
  | v :: _ => if v % p < p - 1 then (v % p, 1, 0) else pgo b 6 1 (p - 1)
def preN (b : List Int) (p : Int) : Int := (preI b p).1
def preE (b : List Int) (p : Int) : Int := (preI b p).2.2
def preR (b : List Int) (p : Int) : List Int := if preE b p = 0 then b.drop (preI b p).2.1.toNat else []
theorem pgo_none {b : List Int} {f : Nat} {a n : Int} (h0 : 0 ≤ a) (h : ilen b ≤ a) : pgo b (f + 1) a n = (0, 0, 10) := by
  rw [pgo, List.getElem?_eq_none (by unfold ilen at h; omega)]
theorem pgo_long {b : List Int} {f : Nat} {a n v s : Int} (hv : b[a.toNat]? = some v) (hs : s = v % 128 * 2 ^ (7 * (a - 1)).toNat) (h : 5 < a ∨ 2147483648 ≤ n + s) : pgo b (f + 1) a n = (0, 0, 60) := by
  rw [pgo, hv]; simp only [← hs]; rw [if_pos h]
theorem pgo_end {b : List Int} {f : Nat} {a n v s : Int} (hv : b[a.toNat]? = some v) (hs : s = v % 128 * 2 ^ (7 * (a - 1)).toNat) (h : ¬(5 < a ∨ 2147483648 ≤ n + s)) (h2 : v < 128) : pgo b (f + 1) a n = (n + s, a + 1, 0) := by
  rw [pgo, hv]; simp only [← hs]; rw [if_neg h, if_pos h2]
theorem pgo_more {b : List Int} {f : Nat} {a n v s : Int} (hv : b[a.toNat]? = some v) (hs : s = v % 128 * 2 ^ (7 * (a - 1)).toNat) (h : ¬(5 < a ∨ 2147483648 ≤ n + s)) (h2 : ¬v < 128) : pgo b (f + 1) a n = pgo b f (a + 1) (n + s) := by
  rw [pgo, hv]; simp only [← hs]; rw [if_neg h, if_neg h2]
end Cz
namespace Cz
open Go Go.RowKit Go.Proofs
theorem and128_all : ∀ n : Fin 256, IntKind.u8.wrap ((BitVec.ofInt 8 (n.val : Int) &&& BitVec.ofInt 8 128).toNat : Int) = if n.val < 128 then 0 else 128 := by decide +kernel
theorem qxi {S : Sy} {a : Int} {K : Int → Prop} (hS : S0 Tryd.prog = S) (h0 : 0 ≤ a) (h1 : a < 256) (h : ∀ r, (a < 128 ∧ r = 0 ∨ 128 ≤ a ∧ r = 128) → K r) : S.ar .and .u8 a 128 K := by
  refine qqk hS _ rfl (h _ ?_)
  have := and128_all ⟨a.toNat, by omega⟩
  simp only [Int.toNat_of_nonneg h0] at this
  show (a < 128 ∧ IntKind.u8.wrap ((BitVec.ofInt 8 a &&& BitVec.ofInt 8 128).toNat : Int) = 0) ∨ _
  rw [show arS .and .u8 a 128 = IntKind.u8.wrap ((BitVec.ofInt 8 a &&& BitVec.ofInt 8 128).toNat : Int) from rfl, this]
  by_cases h2 : a < 128
  · left; refine ⟨h2, ?_⟩; rw [if_pos (by omega)]
  · right; refine ⟨by omega, ?_⟩; rw [if_neg (by omega)]
theorem qrh {P : List SV} {N E e : Int} {l' : List Blk} (hP : P = []) (hN : N = 0) (hE : E = e) : OwnP 1 1 P [.i .i64 (.y N)] [.i .i64 (.y E)] (.tp [.i .i64 (.l 0), .re (.slice none 0 0), .i .i64 (.l e)]) l' :=
  ⟨_, qaw (.cons (qag hN.symm) (.cons .rfl (.cons (qag hE.symm) .nil))), .inl ⟨rfl, hP⟩⟩
theorem ownP_ok {P : List SV} {L : List Int} {N E n q : Int} {k : Nat} {lit : Bool} {st : Z} {l' : List Blk} (hP : cellsB L = P) (hN : N = n) (hE : E = 0) (hk : 1 ≤ k) (hq : q = ilen L) (hB : l'[k]? = some (.r false lit st 1 P)) :
    OwnP 1 1 P [.i .i64 (.y N)] [.i .i64 (.y E)] (.tp [.i .i64 (.y n), .sl k 1 (.l 0) (.y q) none, .i .i64 (.l 0)]) l' :=
  ⟨_, qaw (.cons (qag hN.symm) (.cons .rfl (.cons (qag hE.symm) .nil))), qgx hP hk hq hB⟩
theorem qsi {b : List Int} {o n : Int} (h0 : 0 ≤ o) (h : ilen b ≤ o + n) : part b o n = b.drop o.toNat := by
  unfold part; exact List.take_of_length_le (by rw [List.length_drop]; unfold ilen at h; omega)
theorem ptake_f {b : List Int} {k p : Int} (hb : Hu.BOk b) (hnb : ilen b ≤ 1000000) (hk1 : 1 ≤ k) (hk8 : k ≤ 8) (hp : 2 ^ k.toNat = p) :
    (S0 Tryd.prog).call 96 [.sl 0 1 (.l 0) (.y (ilen b)) none, .i .i64 (.y k)] [.r true true (.l 0) 1 (cellsB b)] (OwnP 1 1 (cellsB (preR b p)) [.i .i64 (.y (preN b p))] [.i .i64 (.y (preE b p))]) := by
  obtain ⟨n, hn'⟩ : ∃ n, n = ilen b := ⟨_, rfl⟩
  have h0n := qaf b
  have hn := hnb
  rw [← hn'] at h0n hn ⊢
  have hp0 : 2 ≤ p := by have := qim (m := 1) (n := k.toNat) (by omega); rw [hp] at this; omega
  have hp1 : p ≤ 256 := by have := qim (m := k.toNat) (n := 8) (by omega); rw [hp] at this; omega
  have hpl := qad b
  obtain ⟨J0, hJ⟩ : ∃ J0, J0 = preI b p := ⟨_, rfl⟩
  obtain ⟨N, hN⟩ : ∃ N, N = preN b p := ⟨_, rfl⟩
  obtain ⟨E, hE⟩ : ∃ E, E = preE b p := ⟨_, rfl⟩
  obtain ⟨R, hR⟩ : ∃ R, R = preR b p := ⟨_, rfl⟩
  rw [← hN, ← hE, ← hR]
  have herr : ∀ e, e ≠ 0 → J0 = (0, 0, e) → cellsB R = [] ∧ N = 0 ∧ E = e := by
    intro e he h
    rw [hJ] at h
    unfold preR at hR
    have h2 : preE b p = e := by unfold preE; rw [h]
    rw [h2, if_neg he] at hR
    exact ⟨by rw [hR]; rfl, by rw [hN]; unfold preN; rw [h], hE.trans h2⟩
  have hok : ∀ n' a, 0 ≤ a → J0 = (n', a, 0) → R = b.drop a.toNat ∧ N = n' ∧ E = 0 := by
    intro n' a _ h
    rw [hJ] at h
    unfold preR at hR
    have h2 : preE b p = 0 := by unfold preE; rw [h]
    rw [h2, if_pos rfl, h] at hR
    exact ⟨hR, by rw [hN]; unfold preN; rw [h], hE.trans h2⟩
  have hJ0 : n = 0 → J0 = (0, 0, 10) := by
    intro h
    have : b = [] := List.length_eq_zero_iff.1 (by unfold ilen at hn'; omega)
    rw [hJ, this]; rfl
  have hJ1 : ∀ v, b[(0 : Int).toNat]? = some v → (v % p < p - 1 → J0 = (v % p, 1, 0)) ∧ (¬v % p < p - 1 → J0 = pgo b 6 1 (p - 1)) := by
    intro v hv
    rw [hJ]
    cases b with
    | nil => simp at hv
    | cons w b =>
      simp at hv; subst hv
      unfold preI
      exact ⟨fun h => by simp only [if_pos h], fun h => by simp only [if_neg h]⟩
  clear hN hE hR hJ
  generalize hF : cellsB b = F at hpl ⊢
  have hfs : FSub F (cellsB b) := by rw [hF]; exact .rfl
  generalize hP : cellsB R = P at herr ⊢
  refine qoj hpl ?_
  generalize hS : S0 Tryd.prog = S
  refine qac hS I.qvj ?_
  cbv
  refine qac hS I.qfo ?_
  cbv
  repeat' (first
    | (refine s_st hS ?_; try cbv)
    | (refine qab hS ?_ ?_ <;> intro h <;> (try cbv) <;> try exact s_ab h)
    | (refine qai hS ?_; intro _ _; try cbv)
    | (refine qae hS ?_; try cbv)
    | (refine qcx hS rfl ?_; cbv)
    | (refine qpy hS (c := p) (by rw [← hp]; congr 1; simp only [IntKind.bits]; omega) ?_ (by simp only [lo]; omega) (by simp only [hi]; omega); intro _ _; cbv))
  · obtain ⟨g1, g2, g3⟩ := herr 10 (by decide) (hJ0 h)
    exact qrh g1 g2 g3
  · rename_i e1 he1 m0 hm0
    have hm1 : m0 = p - 1 := by omega
    obtain ⟨v, hv⟩ := qek (l := b) (i := 0) (by omega) (Int.le_refl 0)
    have hb0 := hb v (List.mem_of_getElem? hv)
    obtain ⟨j1, j2⟩ := hJ1 v hv
    clear hJ1
    obtain ⟨w, hw⟩ : ∃ w, w = v % p := ⟨_, rfl⟩
    have hwb : 0 ≤ w ∧ w < p := by rw [hw]; exact ⟨Int.emod_nonneg _ (by omega), Int.emod_lt_of_pos _ (by omega)⟩
    rw [← hw] at j1 j2
    refine rowB hS hF hv rfl (Int.le_refl 0) ?_
    cbv
    refine s_cvi hS ?_ (by simp only [lo]; omega) (by simp only [hi]; omega)
    cbv
    refine qgv hS (c := p) (m := k.toNat) ⟨hm1, hp, by simp only [IntKind.bits]; omega⟩ fun w' hw' => ?_
    obtain rfl : w' = w := hw'.trans hw.symm
    cbv
    refine qab hS ?_ ?_ <;> intro h <;> cbv
    · obtain ⟨g1, g2, g3⟩ := hok w' 1 (by decide) (j1 (by omega))
      repeat' (first
        | (refine s_st hS ?_; try cbv)
        | (refine qab hS ?_ ?_ <;> intro h <;> (try cbv) <;> try exact s_ab h)
        | (refine qai hS ?_; intro _ _; try cbv)
        | (refine qae hS ?_; try cbv))
      obtain ⟨n1, hn1⟩ : ∃ n1, n1 = n - 1 := ⟨_, rfl⟩
      refine qzj hS (b := b) 1 n1 (by simp only [Z.v, ← hS, Int.ofNat_eq_natCast, cq, Bool.not_eq_true', Bool.not_eq_false', decide_eq_true_eq, decide_eq_false_iff_not, beq_iff_eq, beq_eq_false_iff_ne, ne_eq]) (by simp only [Z.v, ← hS, Int.ofNat_eq_natCast, cq, Bool.not_eq_true', Bool.not_eq_false', decide_eq_true_eq, decide_eq_false_iff_not, beq_iff_eq, beq_eq_false_iff_ne, ne_eq]; omega) (by decide) (by omega) (by omega) (by omega) rfl hfs fun F2 st hF2 => ?_
      have hPF : cellsB R = F2 := by rw [← hF2, qsi (by decide) (by omega), g1]
      cbv
      rw [← hPF, hP]
      refine ownP_ok (k := 1) (L := R) hP g2 g3 (Nat.le_refl 1) ?_ rfl
      rw [g1]; unfold ilen at *; rw [List.length_drop]; simp; omega
    · have j3 := j2 (by omega)
      refine qba hS 1 I.qob (fun x : Int × Int => 1 ≤ x.1 ∧ x.1 ≤ 6 ∧ 0 ≤ x.2 ∧ x.2 < 2147483648 ∧ J0 = pgo b (7 - x.1).toNat x.1 x.2)
        (fun x => [(8, .i .i64 (.y x.1)), (4, .i .i64 (.y x.2))]) (fun x => [])
        (fun x => (7 - x.1).toNat) (1, w') rfl ⟨⟨Int.le_refl _, by dsimp only; omega, hwb.1, by dsimp only; omega, ?_⟩, rfl, ?_, ?_, ?_⟩ ?_
      · dsimp only; rw [j3, show p - 1 = w' by omega]; rfl
      · cbv; all_goals exact s_sA
      · cbv; all_goals exact s_bA
      · cbv
      · intro x
        obtain ⟨a, u⟩ := x
        intro hx
        dsimp only at hx
        cbv
        obtain ⟨g0, g1, g2, g3, g4'⟩ := hx
        have g4 : J0 = pgo b ((6 - a).toNat + 1) a u := by rw [show (6 - a).toNat + 1 = (7 - a).toNat by omega]; exact g4'
        clear g4'
        refine qab hS ?_ ?_ <;> intro h <;> cbv
        · refine qcx hS rfl ?_
          cbv
          obtain ⟨k1, k2, k3⟩ := herr 10 (by decide) (g4.trans (pgo_none (by omega) (by omega)))
          exact qrh k1 k2 k3
        · obtain ⟨y, hy⟩ := qek (l := b) (i := a) (by omega) (by omega)
          have hy0 := hb y (List.mem_of_getElem? hy)
          obtain ⟨q, hq⟩ : ∃ q : Int, 2 ^ (7 * (a - 1)).toNat = q := ⟨_, rfl⟩
          have hq0 : 0 < q := by rw [← hq]; exact qdm _
          have hq1 : q ≤ 34359738368 := by have := qim (m := (7 * (a - 1)).toNat) (n := 35) (by omega); rw [hq] at this; omega
          obtain ⟨z, hz⟩ : ∃ z, z = y % 128 := ⟨_, rfl⟩
          obtain ⟨s, hs⟩ : ∃ s, s = z * q := ⟨_, rfl⟩
          have hs0 : 0 ≤ s := by rw [hs]; exact Int.mul_nonneg (by omega) (by omega)
          have hs1 : s ≤ 127 * 34359738368 := by
            rw [hs]
            have h1 : z * q ≤ 127 * q := Int.mul_le_mul_of_nonneg_right (by omega) (by omega)
            omega
          have hs' : s = y % 128 * 2 ^ (7 * (a - 1)).toNat := by rw [hs, hz, hq]
          have c1 : (5 < a ∨ 2147483648 ≤ u + s) → J0 = (0, 0, 60) := fun h => g4.trans (pgo_long hy hs' h)
          have c2 : ¬(5 < a ∨ 2147483648 ≤ u + s) → y < 128 → J0 = (u + s, a + 1, 0) := fun h h2 => g4.trans (pgo_end hy hs' h h2)
          have c3 : ¬(5 < a ∨ 2147483648 ≤ u + s) → ¬y < 128 → J0 = pgo b (6 - a).toNat (a + 1) (u + s) := fun h h2 => g4.trans (pgo_more hy hs' h h2)
          clear g4 hs'
          repeat' (first
            | (refine s_st hS ?_; try cbv)
            | (refine qab hS ?_ ?_ <;> intro h <;> (try cbv) <;> try exact s_ab h)
            | (refine qai hS ?_; intro _ _; try cbv)
            | (refine qae hS ?_; try cbv)
            | (refine rowB hS hF hy rfl (by omega) ?_; try cbv)
            | (refine qgv hS (c := 128) (m := 7) (by decide) ?_; intro _ _; cbv)
            | (refine qxi hS hy0.1 hy0.2 ?_; intro _ _; cbv)
            | (refine qnc hS ?_ (by simp only [lo]; omega) (by simp only [hi]; omega); intro _ _; cbv)
            | (refine qcx hS rfl ?_; cbv)
            | (refine qbx hS (c := 2147483648) rfl ?_; intro _ _; cbv))
          rename_i z' hz' a1 ha1 sv hsv
          obtain rfl : z' = z := hz'.trans hz.symm
          refine qpy hS (c := q) (by rw [← hq]; congr 1; simp only [IntKind.bits]; omega) (fun s' hs2 => ?_) (by rw [← hs]; simp only [lo]; omega) (by rw [← hs]; simp only [hi]; omega)
          obtain rfl : s' = s := hs2.trans hs.symm
          cbv
          refine s_add hS (fun u2 hu2 => ?_) (by simp only [lo]; omega) (by simp only [hi]; omega)
          cbv
          repeat' (first
            | (refine s_st hS ?_; try cbv)
            | (refine qab hS ?_ ?_ <;> intro h <;> (try cbv) <;> try exact s_ab h)
            | (refine qai hS ?_; intro _ _; try cbv)
            | (refine qae hS ?_; try cbv)
            | (refine qcx hS rfl ?_; cbv)
            | (refine qbx hS (c := 2147483648) rfl ?_; intro _ _; cbv)
            | (refine rowB hS hF hy rfl (by omega) ?_; try cbv)
            | (refine qxi hS hy0.1 hy0.2 ?_; intro _ _; cbv))
          · obtain ⟨k1, k2, k3⟩ := herr 60 (by decide) (c1 (.inl h))
            exact qrh k1 k2 k3
          · obtain ⟨k1, k2, k3⟩ := herr 60 (by decide) (c1 (.inr (by omega)))
            exact qrh k1 k2 k3
          · rename_i a2 ha2
            obtain ⟨g5, g6, g7⟩ := hok (u + s') (a + 1) (by omega) (c2 (by omega) (by omega))
            obtain ⟨n2, hn2⟩ : ∃ n2, n2 = n - a2 := ⟨_, rfl⟩
            have hRl : n2 = ilen R := by
              rw [g5]; unfold ilen at *; rw [List.length_drop]; omega
            refine qzj hS (b := b) a2 n2 (by simp only [Z.v, ← hS, Int.ofNat_eq_natCast, cq, Bool.not_eq_true', Bool.not_eq_false', decide_eq_true_eq, decide_eq_false_iff_not, beq_iff_eq, beq_eq_false_iff_ne, ne_eq]) (by simp only [Z.v, ← hS, Int.ofNat_eq_natCast, cq, Bool.not_eq_true', Bool.not_eq_false', decide_eq_true_eq, decide_eq_false_iff_not, beq_iff_eq, beq_eq_false_iff_ne, ne_eq]; omega) (by omega) (by omega) (by omega) (by omega) rfl hfs fun F2 st hF2 => ?_
            have hPF : cellsB R = F2 := by rw [← hF2, qsi (by omega) (by omega), g5, ha2]
            rw [← hPF, hP]
            cbv
            exact ownP_ok (k := 1) (L := R) hP (by omega) g7 (Nat.le_refl 1) hRl rfl
          · rename_i a2 ha2
            refine ⟨(a2, u2), by dsimp only; omega, ⟨by dsimp only; omega, by dsimp only; omega, by dsimp only; omega, by dsimp only; omega, ?_⟩, rfl, ?_, ?_, ?_⟩
            · dsimp only
              rw [c3 (by omega) (by omega), ha2, hu2, show (7 - (a + 1)).toNat = (6 - a).toNat by omega]
            · cbv; all_goals exact s_sA
            · cbv; all_goals exact s_bA
            · cbv
end Cz
namespace Cz
open Go Go.RowKit Go.Proofs
end Cz
namespace Cz
open Go Go.RowKit Go.Proofs
theorem qzm {b : List Int} (h : Hu.BOk b) (k : Nat) : Hu.BOk (b.drop k) := fun v hv => h v (List.mem_of_mem_drop hv)
theorem qds {b : List Int} {p : Int} (h : Hu.BOk b) : Hu.BOk (preR b p) := by
  unfold preR
  split
  · exact qzm h _
  · intro v hv; cases hv
theorem qro {b : List Int} {o n : Int} (h : Hu.BOk b) : Hu.BOk (part b o n) := fun v hv => h v (List.mem_of_mem_drop (List.mem_of_mem_take hv))
theorem qzaaj {d : List Int} (hd : Hu.BOk d) : Hu.BOk (takeL d) := by
  unfold takeL
  cases ht : Hu.take d with
  | some o => exact (Hu.put_take hd ht).2
  | none => intro v hv; cases hv
theorem qzacx (d : List Int) : takeE d = 0 ∨ takeE d = 70 ∧ takeL d = [] := by
  unfold takeE takeL
  cases Hu.take d with
  | some o => exact .inl rfl
  | none => exact .inr ⟨rfl, rfl⟩
section
variable {S : Sy} {b : List Int} {F : List SV} {k : Nat} {ro lit : Bool} {st zn zk : Z} {l : List Blk} {K : SV → List Blk → Prop}
theorem ptake_u (hS : S0 Tryd.prog = S) (kk p : Int) (hzk : zk.v = kk) (hb : Hu.BOk b) (hn : ilen b ≤ 1000000) (hk1 : 1 ≤ kk) (hk8 : kk ≤ 8) (hp : 2 ^ kk.toNat = p) (hrow : lget l k = .r ro lit st 1 F) (hs : FSub F (cellsB b)) (hz : zn.v = ilen b)
    (hK : ∀ N R E F2 n2 st, preN b p = N → preR b p = R → preE b p = E → cellsB R = F2 → n2 = ilen R → K (.tp [.i .i64 (.y N), .sl (len l) 1 (.l 0) (.y n2) none, .i .i64 (.y E)]) (snoc l (.r false false (.y st) 1 F2))) :
    S.call 96 [.sl k 1 (.l 0) zn none, .i .i64 zk] l K := by
  subst hzk
  exact use_ownP hS (fun _ => k) (ptake_f hb hn hk1 hk8 hp) (.cons (qcz rfl hz) (.cons (qag rfl) .nil)) rfl ⟨⟨_, _, _, _, _, _, _, _, rfl, qad _, hrow, hs⟩, trivial⟩ (by omega) (qad _) rfl rfl (qee _) fun st => hK _ _ _ _ _ st rfl rfl rfl rfl rfl
end
def tTake (b : List Int) : List Int × List Int × Int :=
  if preE b 128 ≠ 0 then ([], [], preE b 128)
  else if ilen (preR b 128) < preN b 128 then ([], [], 10)
  else if b.getD 0 0 < 128 then (part (preR b 128) 0 (preN b 128), (preR b 128).drop (preN b 128).toNat, 0)
  else if takeE (part (preR b 128) 0 (preN b 128)) = 0 then (takeL (part (preR b 128) 0 (preN b 128)), (preR b 128).drop (preN b 128).toNat, 0)
  else ([], [], 70)
def tS (b : List Int) : List Int := (tTake b).1
def tR (b : List Int) : List Int := (tTake b).2.1
def tE (b : List Int) : Int := (tTake b).2.2
theorem pgo_ok {b : List Int} (hb : Hu.BOk b) : ∀ (f : Nat) (a n : Int), 0 ≤ n → 0 ≤ (pgo b f a n).1
  | 0, a, n, h => by simp [pgo]
  | f + 1, a, n, h => by
    rw [pgo]
    split
    · simp
    · rename_i v hv
      have hv0 := hb v (List.mem_of_getElem? hv)
      have hs : 0 ≤ v % 128 * 2 ^ (7 * (a - 1)).toNat := Int.mul_nonneg (by omega) (Int.le_of_lt (qdm _))
      split
      · simp
      · split
        · simp only; omega
        · exact pgo_ok hb f _ _ (by omega)
theorem qiz {b : List Int} {p : Int} (hb : Hu.BOk b) (hp : 1 ≤ p) : 0 ≤ preN b p := by
  unfold preN preI
  cases b with
  | nil => simp
  | cons v b =>
    simp only
    split
    · exact Int.emod_nonneg _ (by omega)
    · exact pgo_ok hb _ _ _ (by omega)
theorem qgd {b : List Int} {p : Int} : ilen (preR b p) ≤ ilen b := by
  unfold preR
  split
  · unfold ilen; rw [List.length_drop]; omega
  · unfold ilen; simp
theorem preE_nil {p : Int} : preE [] p = 10 := rfl
theorem qxy {P : List SV} {x : List UInt8} {e : Int} {z : Z} {l' : List Blk} (hx : x = []) (hP : P = []) (he : e = z.v) : OwnP 1 1 P [.s x] [.i .i64 (.y e)] (.tp [.s [], .re (.slice none 0 0), .i .i64 z]) l' :=
  ⟨_, qaw (.cons (sub_s hx.symm) (.cons .rfl (.cons (qag he.symm) .nil))), .inl ⟨rfl, hP⟩⟩
theorem ownS_ok {P : List SV} {L : List Int} {x y : List UInt8} {e : Int} {z q : Z} {k : Nat} {lit : Bool} {st : Z} {l' : List Blk} (hx : x = y) (hP : cellsB L = P) (he : e = z.v) (hk : 1 ≤ k) (hq : q.v = ilen L) (hB : l'[k]? = some (.r false lit st 1 P)) :
    OwnP 1 1 P [.s x] [.i .i64 (.y e)] (.tp [.s y, .sl k 1 (.l 0) q none, .i .i64 z]) l' :=
  ⟨_, qaw (.cons (sub_s hx.symm) (.cons .rfl (.cons (qag he.symm) .nil))), qgx hP hk hq hB⟩
theorem ttake_f {b : List Int} (hb : Hu.BOk b) (hnb : ilen b ≤ 1000000) :
    (S0 Tryd.prog).call 111 [.sl 0 1 (.l 0) (.y (ilen b)) none] [.r true true (.l 0) 1 (cellsB b)] (OwnP 1 1 (cellsB (tR b)) [.s (strB (tS b))] [.i .i64 (.y (tE b))]) := by
  obtain ⟨n, hn'⟩ : ∃ n, n = ilen b := ⟨_, rfl⟩
  have h0n := qaf b
  have hn := hnb
  rw [← hn'] at h0n hn ⊢
  have hpl := qad b
  obtain ⟨N, hN⟩ : ∃ N, preN b 128 = N := ⟨_, rfl⟩
  obtain ⟨E, hE⟩ : ∃ E, preE b 128 = E := ⟨_, rfl⟩
  obtain ⟨R, hR⟩ : ∃ R, preR b 128 = R := ⟨_, rfl⟩
  have hN0 := qiz (p := 128) hb (by decide)
  have hRl := qgd (b := b) (p := 128)
  have hRok := qds (p := 128) hb
  rw [hN] at hN0
  rw [hR] at hRl hRok
  obtain ⟨x, hx⟩ : ∃ x, x = strB (tS b) := ⟨_, rfl⟩
  obtain ⟨e, he⟩ : ∃ e, e = tE b := ⟨_, rfl⟩
  obtain ⟨Q, hQ⟩ : ∃ Q, Q = tR b := ⟨_, rfl⟩
  have hT : ∀ a c d, tTake b = (a, c, d) → x = strB a ∧ Q = c ∧ e = d := fun a c d h => ⟨by rw [hx]; unfold tS; rw [h], by rw [hQ]; unfold tR; rw [h], by rw [he]; unfold tE; rw [h]⟩
  rw [← hx, ← he, ← hQ]
  clear hx he hQ
  unfold tTake at hT
  rw [hN, hE, hR] at hT
  generalize hF : cellsB b = F at hpl ⊢
  have hfs : FSub F (cellsB b) := by rw [hF]; exact .rfl
  generalize hP : cellsB Q = P
  refine qoj hpl ?_
  generalize hS : S0 Tryd.prog = S
  refine qac hS I.qzaca ?_
  cbv
  refine ptake_u hS (b := b) 7 128 rfl hb hnb (by decide) (by decide) rfl rfl hfs hn' fun N1 R1 E1 F2 n2 st hN1 hR1 hE1 hF2 hn2 => ?_
  have e1 : N1 = N := hN1.symm.trans hN
  have e2 : R = R1 := hR.symm.trans hR1
  have e3 : E1 = E := hE1.symm.trans hE
  cbv
  repeat' (first
    | (refine s_st hS ?_; try cbv)
    | (refine qab hS ?_ ?_ <;> intro h <;> (try cbv) <;> try exact s_ab h)
    | (refine qai hS ?_; intro _ _; try cbv)
    | (refine qae hS ?_; try cbv)
    | (refine qcx hS rfl ?_; cbv))
  · obtain ⟨a1, a2, a3⟩ := hT [] [] E (by rw [if_pos (by omega)])
    exact qxy a1 (by rw [← hP, a2]; rfl) (by simp only [Z.v]; omega)
  · obtain ⟨a1, a2, a3⟩ := hT [] [] 10 (by rw [if_neg (by omega), if_pos (by rw [e2]; omega)])
    exact qxy a1 (by rw [← hP, a2]; rfl) a3
  · have hE0 : ¬E ≠ 0 := by omega
    have hRN : ¬ilen R < N := by rw [e2]; omega
    rw [if_neg hE0, if_neg hRN, e2, ← e1] at hT
    rw [← e1] at hN0
    rw [e2] at hRl hRok
    have hn1 : 1 ≤ n := by
      rcases Int.lt_or_le n 1 with h1 | h1
      · exfalso
        have : b = [] := List.length_eq_zero_iff.1 (by unfold ilen at hn'; omega)
        rw [this, preE_nil] at hE
        omega
      · exact h1
    obtain ⟨v, hv⟩ := qek (l := b) (i := 0) (by omega) (Int.le_refl 0)
    have hb0 := hb v (List.mem_of_getElem? hv)
    have hv0 : b.getD 0 0 = v := by rw [List.getD_eq_getElem?_getD]; simp at hv; rw [hv]; rfl
    rw [hv0] at hT
    have hfs2 : FSub F2 (cellsB R1) := by rw [hF2]; exact .rfl
    obtain ⟨n3, hn3⟩ : ∃ n3, n3 = n2 - N1 := ⟨_, rfl⟩
    obtain ⟨T, hTp⟩ : ∃ T, part R1 0 N1 = T := ⟨_, rfl⟩
    have hTl : ilen T = N1 := by rw [← hTp]; exact qkd (by decide) hN0 (by omega)
    have hTok : Hu.BOk T := hTp ▸ qro hRok
    rw [hTp] at hT
    refine qam hS rfl I.qsl (by decide +kernel) ?_
    cbv
    repeat' (first
      | (refine s_st hS ?_; try cbv)
      | (refine qab hS ?_ ?_ <;> intro h <;> (try cbv) <;> try exact s_ab h)
      | (refine qai hS ?_; intro _ _; try cbv)
      | (refine qae hS ?_; try cbv)
      | (refine clone_su hS (b := R1) 0 N1 rfl rfl (by decide) hN0 (by omega) (by omega) rfl hfs2 fun F3 st3 hF3 => ?_; cbv)
      | (refine qzj hS (b := R1) N1 n3 rfl (by simp only [Z.v, ← hS, Int.ofNat_eq_natCast, cq, Bool.not_eq_true', Bool.not_eq_false', decide_eq_true_eq, decide_eq_false_iff_not, beq_iff_eq, beq_eq_false_iff_ne, ne_eq]; omega) hN0 (by omega) (by omega) (by omega) rfl hfs2 fun F4 st4 hF4 => ?_; cbv)
      | (refine And.intro rfl ?_; try cbv))
    rw [hTp] at hF3
    have hD : part R1 N1 n3 = R1.drop N1.toNat := qsi hN0 (by omega)
    rw [hD] at hF4
    have hDl : n3 = ilen (R1.drop N1.toNat) := by rw [← hD]; exact (qkd hN0 (by omega) (by omega)).symm
    refine rowB hS hF hv rfl (Int.le_refl 0) ?_
    cbv
    refine qxi hS hb0.1 hb0.2 fun r hr => ?_
    cbv
    refine qab hS ?_ ?_ <;> intro h <;> cbv
    · obtain ⟨a1, a2, a3⟩ := hT T (R1.drop N1.toNat) 0 (by rw [if_pos (by omega)])
      refine s_bs hS hTok hF3 hTl.symm ?_
      rw [← a1]
      cbv
      have hPF : F4 = P := by rw [← hF4, ← hP, a2]
      rw [hPF]
      exact ownS_ok (L := R1.drop N1.toNat) rfl (by rw [← a2]; exact hP) a3 (by omega) hDl rfl
    · refine take_u hS (b := T) hTok (by omega) rfl (by rw [hF3]; exact .rfl) hTl.symm fun L F5 n5 st5 e5 hL hF5 hn5 he5 => ?_
      cbv
      repeat' (first
        | (refine s_st hS ?_; try cbv)
        | (refine qab hS ?_ ?_ <;> intro h <;> (try cbv) <;> try exact s_ab h)
        | (refine qai hS ?_; intro _ _; try cbv)
        | (refine qae hS ?_; try cbv)
        | (refine qcx hS rfl ?_; cbv))
      · obtain ⟨a1, a2, a3⟩ := hT (takeL T) (R1.drop N1.toNat) 0 (by rw [if_neg (by omega), if_pos (by rw [he5]; exact h)])
        rw [hL] at a1
        refine s_bs hS (hL ▸ qzaaj hTok) hF5 hn5 ?_
        rw [← a1]
        cbv
        have hPF : F4 = P := by rw [← hF4, ← hP, a2]
        rw [hPF]
        exact ownS_ok (L := R1.drop N1.toNat) rfl (by rw [← a2]; exact hP) a3 (by omega) hDl rfl
      · have h70 : e5 = 70 := by
          rcases qzacx T with h1 | ⟨h1, _⟩ <;> omega
        obtain ⟨a1, a2, a3⟩ := hT [] [] 70 (by rw [if_neg (by omega), if_neg (by omega)])
        exact qxy a1 (by rw [← hP, a2]; rfl) (by simp only [Z.v]; omega)
end Cz
namespace Cz
open Go Go.RowKit Go.Proofs
end Cz
namespace Cz
open Go Go.RowKit Go.Proofs
theorem or128_all : ∀ n : Fin 256, IntKind.u8.wrap ((BitVec.ofInt 8 (n.val : Int) ||| BitVec.ofInt 8 128).toNat : Int) = ((n.val % 128 + 128 : Nat) : Int) := by decide +kernel
theorem s_or128 {S : Sy} {a : Int} {K : Int → Prop} (hS : S0 Tryd.prog = S) (h0 : 0 ≤ a) (h1 : a < 256) (h : ∀ r, r = a % 128 + 128 → K r) : S.ar .or .u8 a 128 K := by
  refine qqk hS _ rfl (h _ ?_)
  have := or128_all ⟨a.toNat, by omega⟩
  simp only [Int.toNat_of_nonneg h0] at this
  rw [show arS .or .u8 a 128 = IntKind.u8.wrap ((BitVec.ofInt 8 a ||| BitVec.ofInt 8 128).toNat : Int) from rfl, this]
  omega
theorem andn_nat (w m u : Nat) (hm : m ≤ w) (hu : u < 2 ^ w) : u &&& (2 ^ w - 1 - (2 ^ m - 1)) = u - u % 2 ^ m := by
  have hp : 2 ^ m ≤ 2 ^ w := Nat.pow_le_pow_right (by omega) hm
  apply Nat.eq_of_testBit_eq
  intro i
  have e1 : 2 ^ w - 1 - (2 ^ m - 1) = 2 ^ m * (2 ^ (w - m) - 1) := by
    rw [Nat.mul_sub, ← Nat.pow_add, show m + (w - m) = w by omega]
    have := Nat.two_pow_pos m
    omega
  have e2 : u - u % 2 ^ m = 2 ^ m * (u / 2 ^ m) := by have := Nat.div_add_mod u (2 ^ m); omega
  rw [e1, e2, Nat.testBit_and, Nat.testBit_two_pow_mul, Nat.testBit_two_pow_mul, Nat.testBit_two_pow_sub_one]
  by_cases h : m ≤ i
  · simp only [h, decide_true, Bool.true_and]
    rw [Nat.testBit_div_two_pow, show i - m + m = i by omega]
    by_cases h2 : i - m < w - m
    · simp [h2]
    · have : u.testBit i = false := Nat.testBit_lt_two_pow (Nat.lt_of_lt_of_le hu (Nat.pow_le_pow_right (by omega) (by omega)))
      simp [this]
  · simp [h]
def sept : Nat → Int → List Int
  | 0, _ => []
  | f + 1, q => if q < 128 then [q] else (q % 128 + 128) :: sept f (q / 128)
def putI (n p up : Int) : List Int := if n < p - 1 then [up - up % p + n] else (up - up % p + (p - 1)) :: sept 5 (n - (p - 1))
theorem s_andn {S : Sy} {a b p : Int} {m : Nat} {K : Int → Prop} (hS : S0 Tryd.prog = S) (hp : (2 : Int) ^ m = p) (hm : m ≤ 8) (hb : b = p - 1) (h0 : 0 ≤ a) (h1 : a < 256) (h : ∀ r, r = a - a % p → K r) : S.ar .andn .u8 a b K := by
  subst hp hb
  refine qqk hS _ ?_ (h _ rfl)
  show IntKind.u8.wrap ((BitVec.ofInt 8 a &&& ~~~ BitVec.ofInt 8 ((2 : Int) ^ m - 1)).toNat : Int) = _
  have hle := qim (m := m) (n := 8) hm
  have hpos := qdm m
  have e1 : ((2 : Int) ^ m - 1).toNat = 2 ^ m - 1 := by have := qge m; omega
  rw [BitVec.toNat_and, BitVec.toNat_not, qdv, qdv, Int.emod_eq_of_lt h0 (by omega), Int.emod_eq_of_lt (a := (2 : Int) ^ m - 1) (by omega) (by omega), e1, andn_nat 8 m _ hm (by omega)]
  have h2 := Int.emod_nonneg a (b := (2 : Int) ^ m) (by omega)
  have h3 : ((a.toNat - a.toNat % 2 ^ m : Nat) : Int) = a - a % 2 ^ m := by
    have h4 := Nat.mod_le a.toNat (2 ^ m)
    have h5 : ((a.toNat % 2 ^ m : Nat) : Int) = a % 2 ^ m := by rw [Int.natCast_emod, Int.toNat_of_nonneg h0, qge]
    omega
  rw [h3]
  have h6 : a % 2 ^ m ≤ a := by
    have := Int.mul_ediv_add_emod a (2 ^ m)
    have h7 : 0 ≤ (2 : Int) ^ m * (a / 2 ^ m) := Int.mul_nonneg (by omega) (Int.ediv_nonneg h0 (by omega))
    omega
  exact qhm (by simp only [lo]; omega) (by simp only [Cz.hi]; omega)
def septOk (f : Nat) (q : Int) : Prop := 1 ≤ f ∧ 0 ≤ q ∧ q < 128 ^ f
theorem sept_end {f : Nat} {q : Int} (h : septOk f q) (h1 : q < 128) : sept f q = [q] := by
  obtain ⟨f', rfl⟩ : ∃ f', f = f' + 1 := ⟨f - 1, by have := h.1; omega⟩
  rw [sept, if_pos h1]
theorem qzaaq {f : Nat} {q : Int} (h : septOk f q) (h1 : ¬q < 128) : sept f q = (q % 128 + 128) :: sept (f - 1) (q / 128) ∧ septOk (f - 1) (q / 128) ∧ 2 ≤ f := by
  obtain ⟨h2, h3, h4⟩ := h
  have hf : 2 ≤ f := by
    rcases Nat.lt_or_ge f 2 with h5 | h5
    · have : f = 1 := by omega
      subst this
      simp at h4; omega
    · exact h5
  obtain ⟨f', rfl⟩ : ∃ f', f = f' + 1 := ⟨f - 1, by omega⟩
  simp only [Nat.add_sub_cancel]
  refine ⟨by rw [sept, if_neg h1], ⟨by omega, by omega, ?_⟩, hf⟩
  rw [Int.pow_succ] at h4
  exact Int.ediv_lt_of_lt_mul (by decide) h4
theorem pput_f {n k up p : Int} (hn0 : 0 ≤ n) (hn1 : n < 2147483648) (hk1 : 1 ≤ k) (hk8 : k ≤ 8) (hp : 2 ^ k.toNat = p) (hu0 : 0 ≤ up) (hu1 : up < 256) :
    (S0 Tryd.prog).call 85 [.i .i64 (.y n), .i .i64 (.y k), .i .u8 (.y up)] [] (OwnR 0 1 (cellsB (putI n p up)) true [.i .i64 (.y 0)]) := by
  have hp0 : 2 ≤ p := by have := qim (m := 1) (n := k.toNat) (by omega); rw [hp] at this; omega
  have hp1 : p ≤ 256 := by have := qim (m := k.toNat) (n := 8) (by omega); rw [hp] at this; omega
  obtain ⟨w, hw⟩ : ∃ w, w = up % p := ⟨_, rfl⟩
  have hwb : 0 ≤ w ∧ w < p := by rw [hw]; exact ⟨Int.emod_nonneg _ (by omega), Int.emod_lt_of_pos _ (by omega)⟩
  have hw2 : w ≤ up := by
    rw [hw]
    have := Int.mul_ediv_add_emod up p
    have h7 : 0 ≤ p * (up / p) := Int.mul_nonneg (by omega) (Int.ediv_nonneg hu0 (by omega))
    omega
  obtain ⟨fi, hfi⟩ : ∃ fi, fi = up - w := ⟨_, rfl⟩
  have hfp : fi % p = 0 := by
    rw [hfi, hw]
    have := Int.mul_ediv_add_emod up p
    rw [show up - up % p = p * (up / p) by omega]
    exact Int.mul_emod_right _ _
  have hfb : fi + p ≤ 256 := by
    have h8 : ∃ c : Int, 256 = p * c := by
      refine ⟨2 ^ (8 - k.toNat), ?_⟩
      rw [← hp, ← Int.pow_add, show k.toNat + (8 - k.toNat) = 8 by omega]; rfl
    obtain ⟨c, hc⟩ := h8
    have h9 : fi = p * (up / p) := by
      have := Int.mul_ediv_add_emod up p
      omega
    have h10 : up / p < c := by
      rw [Int.ediv_lt_iff_lt_mul (by omega), Int.mul_comm]
      omega
    have h11 : p * (up / p + 1) ≤ p * c := Int.mul_le_mul_of_nonneg_left (by omega) (by omega)
    rw [Int.mul_add] at h11
    omega
  have hput : putI n p up = if n < p - 1 then [fi + n] else (fi + (p - 1)) :: sept 5 (n - (p - 1)) := by unfold putI; rw [← hw, ← hfi]
  generalize hL : putI n p up = L at hput
  generalize hP : cellsB L = P
  generalize hS : S0 Tryd.prog = S
  refine qac hS I.qnu ?_
  cbv
  repeat' (first
    | (refine s_st hS ?_; try cbv)
    | (refine qab hS ?_ ?_ <;> intro h <;> (try cbv) <;> try exact s_ab h)
    | (refine qai hS ?_; intro _ _; try cbv)
    | (refine qae hS ?_; try cbv)
    | (refine qac hS I.qfo ?_; cbv)
    | (refine qbx hS (c := 2147483648) rfl ?_; intro _ _; cbv)
    | (refine qpy hS (c := p) (by rw [← hp]; congr 1; simp only [IntKind.bits]; omega) ?_ (by simp only [lo]; omega) (by simp only [hi]; omega); intro _ _; cbv)
    | (refine s_andn hS hp (by omega) (by omega) hu0 hu1 ?_; intro _ _; cbv))
  · rename_i m1 hm1 m0 hm0 f1 hf1
    obtain rfl : f1 = fi := by omega
    refine s_orl hS hp (by omega) hfp (by omega) (by omega) (by simp only [hi]; omega) fun r hr => ?_
    cbv
    rw [if_pos (by omega)] at hput
    refine ⟨_, qaw (.cons .rfl (.cons (qag rfl) .nil)), qnd (L := L) ?_ hP (Nat.zero_le _) ?_ rfl⟩
    · rw [hput, ← hr]; rfl
    · rw [hput]; rfl
  · rename_i m1 hm1 m0 hm0 f1 hf1
    obtain rfl : f1 = fi := by omega
    refine s_orl hS hp (by omega) hfp (by omega) (by omega) (by simp only [hi]; omega) fun r hr => ?_
    cbv
    rw [if_neg (by omega)] at hput
    repeat' (first
      | (refine s_st hS ?_; try cbv)
      | (refine qab hS ?_ ?_ <;> intro h <;> (try cbv) <;> try exact s_ab h)
      | (refine qai hS ?_; intro _ _; try cbv)
      | (refine qae hS ?_; try cbv)
      | (refine qac hS I.qpk ?_; cbv)
      | (refine qhq hS I.qmj ?_; cbv))
    rename_i q0 hq0
    have hok0 : septOk 5 q0 := ⟨by decide, by omega, by show q0 < 34359738368; omega⟩
    have hL0 : L = [r] ++ sept 5 q0 := by rw [hput, hr, hq0, show m0 = p - 1 by omega]; rfl
    clear hput
    refine qba hS 6 I.qic (fun x : Nat × Int × Int × Int × List Int × List SV => septOk x.1 x.2.1 ∧ 0 ≤ x.2.1 ∧ x.2.1 < 2147483648 ∧ L = x.2.2.2.2.1 ++ sept x.1 x.2.1 ∧ x.2.2.1 = ilen x.2.2.2.2.1 ∧ x.2.2.1 + x.1 ≤ 6 ∧ x.2.2.2.2.2 = cellsB x.2.2.2.2.1)
      (fun _ => []) (fun x => [(0, .c [.sl 2 1 (.l 0) (.y x.2.2.1) none]), (2, .r false false (.y x.2.2.2.1) 1 x.2.2.2.2.2), (3, .c [.i .u32 (.y x.2.1)])])
      (fun x => x.1) (5, q0, 1, 0, [r], [.i .u8 (.y r)]) rfl ⟨⟨hok0, by dsimp only; omega, by dsimp only; omega, hL0, rfl, by show (1 : Int) + ((5 : Nat) : Int) ≤ 6; decide, rfl⟩, rfl, ?_, ?_, ?_⟩ ?_
    · cbv; all_goals exact s_sA
    · cbv
      refine ⟨.c (.cons (qcz rfl rfl) .nil), .rfl, .r .rfl rfl rfl, .rfl, .rfl, .rfl, trivial⟩
    · cbv
    · intro x
      obtain ⟨f, q, ln, st, B, G⟩ := x
      intro hx
      dsimp only at hx
      cbv
      obtain ⟨g0, g1, g2, g3, g4, g5, g6⟩ := hx
      have hG : ilen G = ln := by rw [g6, qas, g4]
      have hl0 := qaf B
      have hln : ln ≤ 6 := by have : ln + (f : Int) ≤ 6 := g5; omega
      refine qbx hS (c := 128) rfl fun q1 hq1 => ?_
      cbv
      refine qab hS ?_ ?_ <;> intro h <;> cbv
      · obtain ⟨k1, k2, k3⟩ := qzaaq g0 (by omega)
        refine s_cv8 hS fun y hy => ?_
        cbv
        refine s_or128 hS (by omega) (by omega) fun y2 hy2 => ?_
        cbv
        refine qev hS rfl rfl ?_
        cbv
        refine qil hS (by rw [hG]; omega) ?_
        cbv
        repeat' (first
          | (refine s_st hS ?_; try cbv)
          | (refine qab hS ?_ ?_ <;> intro h <;> (try cbv) <;> try exact s_ab h)
          | (refine qai hS ?_; intro _ _; try cbv)
          | (refine qae hS ?_; try cbv)
          | (refine qbx hS (c := 128) rfl ?_; intro _ _; cbv))
        rename_i ln2' q2 hq2
        obtain ⟨ln2, h_ln2⟩ : ∃ ln2, ln2 = ln + 1 := ⟨_, rfl⟩
        obtain ⟨st2, h_st2⟩ : ∃ st2, st2 = S.flen G := ⟨_, rfl⟩
        obtain ⟨G2, h_G2⟩ : ∃ G2, G2 = cellsB (B ++ [y2]) := ⟨_, rfl⟩
        have g5' : ln + (f : Int) ≤ 6 := g5
        have k3' : 2 ≤ f := k3
        have k4 : f - 1 < f := by omega
        have k5 : ln2 + ((f - 1 : Nat) : Int) ≤ 6 := by rw [h_ln2]; omega
        have k6 : 0 ≤ q2 ∧ q2 < 2147483648 := by omega
        refine ⟨(f - 1, q2, ln2, st2, B ++ [y2], G2), k4, ⟨by dsimp only; rw [hq2]; exact k2, k6.1, k6.2, ?_, ?_, k5, h_G2⟩, rfl, ?_, ?_, ?_⟩
        · dsimp only; rw [g3, k1, hq2, show q % 128 + 128 = y2 by omega]; simp
        · dsimp only; rw [h_ln2, g4, qji]
        · cbv; all_goals exact s_sA
        · cbv
          refine ⟨.c (.cons (qcz rfl (by simp only [Z.v, ← hS, Int.ofNat_eq_natCast, cq, Bool.not_eq_true', Bool.not_eq_false', decide_eq_true_eq, decide_eq_false_iff_not, beq_iff_eq, beq_eq_false_iff_ne, ne_eq]; omega)) .nil), .rfl, qjz hS g6.symm h_G2.symm rfl h_st2.symm, .rfl, .rfl, .rfl, trivial⟩
        · cbv
      · have k1 := sept_end g0 (by omega)
        refine s_cv8 hS fun y hy => ?_
        cbv
        refine qev hS rfl rfl ?_
        cbv
        refine qil hS (by rw [hG]; omega) ?_
        cbv
        repeat' (first
          | (refine s_st hS ?_; try cbv)
          | (refine qab hS ?_ ?_ <;> intro h <;> (try cbv) <;> try exact s_ab h)
          | (refine qai hS ?_; intro _ _; try cbv)
          | (refine qae hS ?_; try cbv))
        refine ⟨_, qaw (.cons .rfl (.cons (qag rfl) .nil)), qzaau hS g6.symm hP (show L = B ++ [y] by rw [g3, k1, show y = q by omega]) (Nat.zero_le _) (by simp only [Z.v, ← hS, Int.ofNat_eq_natCast, cq, Bool.not_eq_true', Bool.not_eq_false', decide_eq_true_eq, decide_eq_false_iff_not, beq_iff_eq, beq_eq_false_iff_ne, ne_eq]; omega) rfl⟩
end Cz
namespace Cz
open Go Go.RowKit Go.Proofs
end Cz
namespace Cz
open Go Go.RowKit Go.Proofs
def byS (x : List UInt8) : List Int := x.map fun c => (c.toNat : Int)
theorem qws (x : List UInt8) : Hu.BOk (byS x) := by
  intro v hv
  unfold byS at hv
  rw [List.mem_map] at hv
  obtain ⟨c, _, rfl⟩ := hv
  have := c.toNat_lt
  omega
theorem qgr (x : List UInt8) : ilen (byS x) = ilen x := by unfold byS ilen; rw [List.length_map]
theorem sb_eq {S : Sy} (hS : S0 Tryd.prog = S) (x : List UInt8) : S.sb x = cellsB (byS x) := by
  subst hS
  rw [qkn]
  unfold byS
  rw [List.map_map]; rfl
theorem qzadb {S : Sy} (hS : S0 Tryd.prog = S) (x : List UInt8) : S.slen x = ilen (byS x) := by rw [qgr, ← hS]; rfl
theorem strB_byS (x : List UInt8) : strB (byS x) = x := by
  unfold strB byS
  rw [List.map_map]
  conv => rhs; rw [← List.map_id x]
  apply List.map_congr_left
  intro c _
  simp
theorem byS_strB {b : List Int} (h : Hu.BOk b) : byS (strB b) = b := by
  unfold strB byS
  rw [List.map_map]
  conv => rhs; rw [← List.map_id b]
  apply List.map_congr_left
  intro v hv
  have := h v hv
  simp; omega
section
variable {S : Sy} {l : List Blk} {K : SV → List Blk → Prop} {zn zk zu : Z} {n k up : Int}
theorem qvy (hS : S0 Tryd.prog = S) (n k up p : Int) (h1 : zn.v = n) (h2 : zk.v = k) (h3 : zu.v = up) (hn0 : 0 ≤ n) (hn1 : n < 2147483648) (hk1 : 1 ≤ k) (hk8 : k ≤ 8) (hp : 2 ^ k.toNat = p) (hu0 : 0 ≤ up) (hu1 : up < 256)
    (hK : ∀ F2 n2 st, cellsB (putI n p up) = F2 → n2 = ilen (putI n p up) → K (.tp [.sl (len l) 1 (.l 0) (.y n2) none, .i .i64 (.y 0)]) (snoc l (.r false false (.y st) 1 F2))) :
    S.call 85 [.i .i64 zn, .i .i64 zk, .i .u8 zu] l K := by
  subst h1 h2 h3
  exact qln hS id (pput_f hn0 hn1 hk1 hk8 hp hu0 hu1) (.cons (qag rfl) (.cons (qag rfl) (.cons (qag rfl) .nil))) rfl trivial (by omega) (qad _) rfl (qee _) fun st => hK _ _ st rfl rfl
end
theorem sept_len : ∀ (f : Nat) (q : Int), ilen (sept f q) ≤ f
  | 0, q => by simp [sept, ilen]
  | f + 1, q => by
    rw [sept]
    split
    · unfold ilen; simp; omega
    · have := sept_len f (q / 128)
      unfold ilen at this ⊢
      simp only [List.length_cons]; omega
theorem qeb (n p up : Int) : 1 ≤ ilen (putI n p up) ∧ ilen (putI n p up) ≤ 6 := by
  unfold putI
  split
  · exact ⟨Int.le_refl _, by unfold ilen; simp⟩
  · have := sept_len 5 (n - (p - 1))
    have h0 := qaf (sept 5 (n - (p - 1)))
    unfold ilen at this h0 ⊢
    simp only [List.length_cons]; omega
theorem qar {α : Type} (a b : List α) : ilen (a ++ b) = ilen a + ilen b := by unfold ilen; simp
theorem qru {S : Sy} (hS : S0 Tryd.prog = S) {L : List Int} {F : List SV} {n : Int} (hF : cellsB L = F) (hn : n = ilen L) : S.sub F 0 n 1 = F := by
  subst hS hF hn
  show ((cellsB L).drop (0 * 1)).take ((ilen L).toNat * 1) = _
  have := qas L
  unfold ilen at *
  rw [List.take_of_length_le (by simp; omega)]; simp
theorem qcn {S : Sy} (hS : S0 Tryd.prog = S) {A B : List Int} {F G : List SV} (hF : F = cellsB A) (hG : G = cellsB B) : S.app F G = cellsB (A ++ B) := by
  subst hS hF hG
  rw [app_eq]; unfold cellsB; rw [List.flatMap_append]
theorem qxx {P X : List SV} {L : List Int} {q : Z} {k : Nat} {lit : Bool} {st : Z} {l' : List Blk} {n0 : Nat} (hX : X = cellsB L) (hP : cellsB L = P) (hk : n0 ≤ k) (hq : q.v = ilen L) (hB : l'[k]? = some (.r false lit st 1 X)) :
    OwnR n0 1 P false [] (.sl k 1 (.l 0) q none) l' := ⟨_, .rfl, qnd hX hP hk hq hB⟩
theorem put_ib (b : List Int) : ilen (Hu.put b) ≤ 2 * ilen b + 1 := by
  have h0 := qaf b
  have h1 := Hu.qlo b
  have h2 := (qok (b := b) (j := ilen b) h0).2
  have h3 : bitsI b (ilen b) = Hu.nbits b := by unfold bitsI; rw [qcb (by omega)]
  unfold ilen at *
  omega
def plainT (b : List Int) : List Int := putI (ilen b) 128 0 ++ b
def packT (b : List Int) : List Int := putI (ilen (Hu.put b)) 128 128 ++ Hu.put b
def bestT (b : List Int) : List Int := if shortB b then packT b else plainT b
theorem tall0_f {x : List UInt8} (hx : ilen x ≤ 1000000) :
    (S0 Tryd.prog).call 91 [.s x, .fn (.func 100) [] []] [] (OwnR 0 1 (cellsB (plainT (byS x))) false []) := by
  generalize hP : cellsB (plainT (byS x)) = P
  have h0 := qaf (byS x)
  have hxb := qgr x
  generalize hS : S0 Tryd.prog = S
  have hsl := qzadb hS x
  refine qac hS I.qtl ?_
  cbv
  repeat' (first
    | (refine s_st hS ?_; try cbv)
    | (refine qab hS ?_ ?_ <;> intro h <;> (try cbv) <;> try exact s_ab h)
    | (refine qai hS ?_; intro _ _; try cbv)
    | (refine qae hS ?_; try cbv)
    | (refine qac hS I.qqe ?_; cbv)
    | (refine qhq hS I.qlk ?_; cbv)
    | (refine qac hS I.qtk ?_; cbv))
  refine qvy hS (ilen (byS x)) 7 0 128 hsl rfl rfl h0 (by omega) (by decide) (by decide) rfl (by decide) (by decide) fun F2 n2 st hF2 hn2 => ?_
  have hpl := qeb (ilen (byS x)) 128 0
  rw [← hn2] at hpl
  have e1 : S.sub F2 0 n2 1 = F2 := qru hS hF2 hn2
  have e2 : S.sub (S.sb x) 0 (S.slen x) 1 = cellsB (byS x) := by rw [sb_eq hS, hsl]; exact qru hS rfl rfl
  have hfl : ilen (S.sub F2 0 n2 1) = n2 * 1 := by rw [e1, ← hF2, qas, hn2]; omega
  cbv
  repeat' (first
    | (refine s_st hS ?_; try cbv)
    | (refine qab hS ?_ ?_ <;> intro h <;> (try cbv) <;> try exact s_ab h)
    | (refine qai hS ?_; intro _ _; try cbv)
    | (refine qae hS ?_; try cbv)
    | (refine qev hS rfl rfl ?_; cbv)
    | (refine qil hS hfl ?_; cbv)
    | (refine s_stk hS ?_; try cbv))
  · refine qxx (qcn hS (e1.trans hF2.symm) e2) hP (Nat.zero_le _) ?_ rfl
    rw [qar, ← hn2, qgr]
    simp only [Z.v, ← hS, Int.ofNat_eq_natCast, cr, Bool.not_eq_true', Bool.not_eq_false', decide_eq_true_eq, decide_eq_false_iff_not, beq_iff_eq, beq_eq_false_iff_ne, ne_eq]
theorem tall1_f {x : List UInt8} (hx : ilen x ≤ 1000000) :
    (S0 Tryd.prog).call 91 [.s x, .fn (.func 102) [] []] [] (OwnR 0 1 (cellsB (packT (byS x))) false []) := by
  generalize hP : cellsB (packT (byS x)) = P
  have h0 := qaf (byS x)
  have hxb := qgr x
  generalize hS : S0 Tryd.prog = S
  have hsl := qzadb hS x
  refine qac hS I.qtl ?_
  cbv
  repeat' (first
    | (refine s_st hS ?_; try cbv)
    | (refine qab hS ?_ ?_ <;> intro h <;> (try cbv) <;> try exact s_ab h)
    | (refine qai hS ?_; intro _ _; try cbv)
    | (refine qae hS ?_; try cbv)
    | (refine qac hS I.qqe ?_; cbv)
    | (refine qhq hS I.qlk ?_; cbv)
    | (refine qac hS I.qqo ?_; cbv))
  have hsb := sb_eq hS x
  have hsf : FSub (S.sb x) (cellsB (byS x)) := by rw [hsb]; exact .rfl
  have hpb : ilen (Hu.put (byS x)) ≤ 2000001 := by
    have h1 := put_ib (byS x)
    omega
  have hp0 := qaf (Hu.put (byS x))
  refine put_u hS (b := byS x) (qws x) (by omega) rfl hsf hsl fun F1 n1 st1 hF1 hn1 => ?_
  cbv
  refine qvy hS (ilen (Hu.put (byS x))) 7 128 128 hn1 rfl rfl hp0 (by omega) (by decide) (by decide) rfl (by decide) (by decide) fun F2 n2 st hF2 hn2 => ?_
  have hpl := qeb (ilen (Hu.put (byS x))) 128 128
  rw [← hn2] at hpl
  have e1 : S.sub F2 0 n2 1 = F2 := qru hS hF2 hn2
  have e2 : S.sub F1 0 n1 1 = F1 := qru hS hF1 hn1
  have hfl : ilen (S.sub F2 0 n2 1) = n2 * 1 := by rw [e1, ← hF2, qas, hn2]; omega
  cbv
  repeat' (first
    | (refine s_st hS ?_; try cbv)
    | (refine qab hS ?_ ?_ <;> intro h <;> (try cbv) <;> try exact s_ab h)
    | (refine qai hS ?_; intro _ _; try cbv)
    | (refine qae hS ?_; try cbv)
    | (refine qev hS rfl rfl ?_; cbv)
    | (refine qil hS hfl ?_; cbv)
    | (refine s_stk hS ?_; try cbv))
  · refine qxx (qcn hS (e1.trans hF2.symm) (e2.trans hF1.symm)) hP (Nat.zero_le _) ?_ rfl
    rw [qar, ← hn2, ← hn1]
    simp only [Z.v, ← hS, Int.ofNat_eq_natCast, cr, Bool.not_eq_true', Bool.not_eq_false', decide_eq_true_eq, decide_eq_false_iff_not, beq_iff_eq, beq_eq_false_iff_ne, ne_eq]
end Cz
namespace Cz
open Go Go.RowKit Go.Proofs
section
variable {S : Sy} {l : List Blk} {K : SV → List Blk → Prop} {x : List UInt8}
theorem tall0_u (hS : S0 Tryd.prog = S) (hx : ilen x ≤ 1000000)
    (hK : ∀ F2 n2 st, cellsB (plainT (byS x)) = F2 → n2 = ilen (plainT (byS x)) → K (.sl (len l) 1 (.l 0) (.y n2) none) (snoc l (.r false false (.y st) 1 F2))) : S.call 91 [.s x, .fn (.func 100) [] []] l K :=
  qln hS id (tall0_f hx) (.cons .rfl (.cons .rfl .nil)) rfl trivial (by omega) (qad _) rfl (qee _) fun st => hK _ _ st rfl rfl
theorem tall1_u (hS : S0 Tryd.prog = S) (hx : ilen x ≤ 1000000)
    (hK : ∀ F2 n2 st, cellsB (packT (byS x)) = F2 → n2 = ilen (packT (byS x)) → K (.sl (len l) 1 (.l 0) (.y n2) none) (snoc l (.r false false (.y st) 1 F2))) : S.call 91 [.s x, .fn (.func 102) [] []] l K :=
  qln hS id (tall1_f hx) (.cons .rfl (.cons .rfl .nil)) rfl trivial (by omega) (qad _) rfl (qee _) fun st => hK _ _ st rfl rfl
end
theorem tbest_f {x : List UInt8} (hx : ilen x ≤ 1000000) :
    (S0 Tryd.prog).call 72 [.s x] [] (OwnR 0 1 (cellsB (bestT (byS x))) false []) := by
  have hL : bestT (byS x) = if shortB (byS x) then packT (byS x) else plainT (byS x) := rfl
  generalize bestT (byS x) = L at hL ⊢
  generalize hP : cellsB L = P
  have hxb := qgr x
  generalize hS : S0 Tryd.prog = S
  have hsl := qzadb hS x
  have hsb := sb_eq hS x
  have hsf : FSub (S.sb x) (cellsB (byS x)) := by rw [hsb]; exact .rfl
  refine qac hS I.qzacb ?_
  cbv
  refine qac hS I.qyq ?_
  cbv
  refine short_u hS (b := byS x) (qws x) (by omega) rfl hsf hsl fun t ht => ?_
  rw [ht] at hL
  cbv
  refine s_br hS ?_ ?_ <;> intro h <;> cbv
  · rw [h] at hL
    refine qac hS I.qvf ?_
    cbv
    refine tall1_u hS hx fun F2 n2 st hF2 hn2 => ?_
    cbv
    exact qxx (L := L) (by rw [hL]; exact hF2.symm) hP (Nat.zero_le _) (by rw [hL]; exact hn2) rfl
  · rw [h] at hL
    refine tall0_u hS hx fun F2 n2 st hF2 hn2 => ?_
    cbv
    exact qxx (L := L) (by rw [hL]; exact hF2.symm) hP (Nat.zero_le _) (by rw [hL]; exact hn2) rfl
end Cz
namespace Cz
open Go Go.RowKit Go.Proofs
theorem s_bsx {S : Sy} (hS : S0 Tryd.prog = S) {l : List Int} {F : List SV} {n : Int} {x : List UInt8} {K : List UInt8 → Prop} (hb : Hu.BOk l) (hF : cellsB l = F) (hn : n = ilen l) (hx : strB l = x) (h : K x) : S.bs F 0 n K := s_bs hS hb hF hn (hx ▸ h)
theorem v_take3 : takeL [49, 141] = [97, 97, 97] ∧ takeE [49, 141] = 0 := by
  have := Hu.take_put [97, 97, 97] (bok1 (by decide))
  rw [show Hu.put [97, 97, 97] = [49, 141] by decide +kernel] at this
  unfold takeL takeE; rw [this]; exact ⟨rfl, rfl⟩
theorem v_take4 : takeE [255] = 70 := by
  have h1 : Hu.bl [255] = List.replicate 8 true := by decide +kernel
  have : Hu.take [255] = none := by
    unfold Hu.take
    rw [h1, Hu.qrm (Hu.sym_ones 8)]
    simp
  unfold takeE; rw [this]; rfl
theorem v1 : tTake [130, 49, 141, 9] = ([97, 97, 97], [9], 0) := by
  unfold tTake
  rw [show preE [130, 49, 141, 9] 128 = 0 by decide +kernel, show preN [130, 49, 141, 9] 128 = 2 by decide +kernel, show preR [130, 49, 141, 9] 128 = [49, 141, 9] by decide +kernel,
    show part [49, 141, 9] 0 2 = [49, 141] by decide +kernel, v_take3.1, v_take3.2]
  decide +kernel
theorem v2 : tTake [2, 97] = ([], [], 10) := by decide +kernel
theorem v3 : tTake [129, 255] = ([], [], 70) := by
  unfold tTake
  rw [show preE [129, 255] 128 = 0 by decide +kernel, show preN [129, 255] 128 = 1 by decide +kernel, show preR [129, 255] 128 = [255] by decide +kernel,
    show part [255] 0 1 = [255] by decide +kernel, v_take4]
  decide +kernel
theorem v4 : tTake [0] = ([], [], 0) := by decide +kernel
theorem qse {n p up : Int} (h0 : 0 ≤ n) (hp : 2 ≤ p) (hp1 : p ≤ 256) (hu : 0 ≤ up - up % p) (hu1 : up - up % p + p ≤ 256) : Hu.BOk (putI n p up) := by
  have hs : ∀ (f : Nat) (q : Int), 0 ≤ q → Hu.BOk (sept f q) := by
    intro f
    induction f with
    | zero => intro q _ v hv; cases hv
    | succ f ih =>
      intro q hq v hv
      rw [sept] at hv
      split at hv
      · rw [List.mem_singleton] at hv; omega
      · rcases List.mem_cons.1 hv with h | h
        · omega
        · exact ih _ (by omega) v h
  intro v hv
  unfold putI at hv
  split at hv
  · rw [List.mem_singleton] at hv; omega
  · rcases List.mem_cons.1 hv with h | h
    · omega
    · exact hs _ _ (by omega) v h
theorem plainT_ok {b : List Int} (hb : Hu.BOk b) : Hu.BOk (plainT b) := by
  intro v hv
  rcases List.mem_append.1 hv with h | h
  · exact qse (qaf b) (by decide) (by decide) (by decide) (by decide) v h
  · exact hb v h
theorem packT_ok (b : List Int) : Hu.BOk (packT b) := by
  intro v hv
  rcases List.mem_append.1 hv with h | h
  · exact qse (qaf _) (by decide) (by decide) (by decide) (by decide) v h
  · exact Hu.put_ok b v h
theorem bestT_ok {b : List Int} (hb : Hu.BOk b) : Hu.BOk (bestT b) := by
  unfold bestT
  split
  · exact packT_ok b
  · exact plainT_ok hb
end Cz
namespace Cz
open Go Go.RowKit Go.Proofs
theorem tT_ok {b : List Int} (hb : Hu.BOk b) : Hu.BOk (tS b) ∧ Hu.BOk (tR b) ∧ ilen (tR b) ≤ ilen b := by
  have h0 := qaf b
  have hN := qiz (p := 128) hb (by decide)
  have hd : ∀ k, ilen ((preR b 128).drop k) ≤ ilen b := by
    intro k
    have := qgd (b := b) (p := 128)
    unfold ilen at *
    rw [List.length_drop]; omega
  unfold tS tR tTake
  split
  · exact ⟨fun v hv => by (cases hv), fun v hv => by (cases hv), h0⟩
  · split
    · exact ⟨fun v hv => by (cases hv), fun v hv => by (cases hv), h0⟩
    · split
      · exact ⟨qro (qds hb), qzm (qds hb) _, hd _⟩
      · split
        · exact ⟨qzaaj (qro (qds hb)), qzm (qds hb) _, hd _⟩
        · exact ⟨fun v hv => by (cases hv), fun v hv => by (cases hv), h0⟩
theorem tR_ok {b : List Int} (hb : Hu.BOk b) : Hu.BOk (tR b) := (tT_ok hb).2.1
end Cz
namespace Cz
open Go Go.RowKit Go.Proofs
theorem get_mid {pre d : List Int} {x a : Int} (h : ilen pre = a) : (pre ++ x :: d)[a.toNat]? = some x := by
  unfold ilen at h
  rw [List.getElem?_append_right (by omega), show a.toNat - pre.length = 0 by omega]; rfl
theorem pgo_sept (d : List Int) : ∀ (f : Nat) (q a n : Int) (g : Nat) (pre : List Int), septOk f q → ilen pre = a → 1 ≤ a → a + f ≤ 6 → 0 ≤ n → n + q * 2 ^ (7 * (a - 1)).toNat < 2147483648 →
    pgo (pre ++ (sept f q ++ d)) (g + f) a n = (n + q * 2 ^ (7 * (a - 1)).toNat, a + ilen (sept f q), 0) := by
  intro f
  induction f with
  | zero => intro q a n g pre h; have := h.1; omega
  | succ f ih =>
    intro q a n g pre hq hp ha haf hn hb
    have h0 := hq.2.1
    have hpos : (0 : Int) < 2 ^ (7 * (a - 1)).toNat := qdm _
    by_cases h1 : q < 128
    · rw [sept_end hq h1]
      have hg : (pre ++ ([q] ++ d))[a.toNat]? = some q := get_mid hp
      have hm : q % 128 = q := Int.emod_eq_of_lt h0 h1
      rw [← Nat.add_assoc, pgo_end hg rfl (by rw [hm]; omega) h1, hm]
      rfl
    · obtain ⟨k1, k2, k3⟩ := qzaaq hq h1
      rw [k1]
      have hg : (pre ++ ((q % 128 + 128) :: sept (f + 1 - 1) (q / 128) ++ d))[a.toNat]? = some (q % 128 + 128) := get_mid hp
      have hm : (q % 128 + 128) % 128 = q % 128 := by omega
      have hp7 : (2 : Int) ^ (7 * (a + 1 - 1)).toNat = 128 * 2 ^ (7 * (a - 1)).toNat := by
        rw [show (7 * (a + 1 - 1)).toNat = 7 + (7 * (a - 1)).toNat by omega, Int.pow_add]; rfl
      have hsum : n + q % 128 * 2 ^ (7 * (a - 1)).toNat + q / 128 * 2 ^ (7 * (a + 1 - 1)).toNat = n + q * 2 ^ (7 * (a - 1)).toNat := by
        rw [hp7]
        generalize (2 : Int) ^ (7 * (a - 1)).toNat = P
        have e : q = q / 128 * 128 + q % 128 := by omega
        have e2 : q * P = q / 128 * (128 * P) + q % 128 * P := by
          conv => lhs; rw [e]
          rw [Int.add_mul, Int.mul_assoc]
        omega
      have hs0 : 0 ≤ q % 128 * 2 ^ (7 * (a - 1)).toNat := Int.mul_nonneg (by omega) (by omega)
      have hs1 : 0 ≤ q / 128 * 2 ^ (7 * (a + 1 - 1)).toNat := Int.mul_nonneg (by omega) (Int.le_of_lt (qdm _))
      rw [← Nat.add_assoc, pgo_more hg rfl (by rw [hm]; omega) (by omega), hm]
      have := ih (q / 128) (a + 1) (n + q % 128 * 2 ^ (7 * (a - 1)).toNat) g (pre ++ [q % 128 + 128]) (by simpa using k2) (by unfold ilen at *; simp; omega) (by omega) (by omega) (by omega) (by omega)
      rw [List.append_assoc] at this
      simp only [List.cons_append, List.nil_append, Nat.add_sub_cancel] at this ⊢
      rw [this, hsum]
      unfold ilen
      simp only [List.length_cons, Prod.mk.injEq, true_and, and_true]; omega
theorem pre_put {n p up : Int} (d : List Int) (hn0 : 0 ≤ n) (hn1 : n < 2147483648) (hp0 : 2 ≤ p) (hp1 : p ≤ 256) : preI (putI n p up ++ d) p = (n, ilen (putI n p up), 0) := by
  have hf : (up - up % p) % p = 0 := by
    rw [Int.sub_emod, Int.emod_emod_of_dvd _ (Int.dvd_refl p), Int.sub_self]; rfl
  have hw : ∀ w, 0 ≤ w → w < p → (up - up % p + w) % p = w := by
    intro w h0 h1
    rw [Int.add_emod, hf, Int.zero_add, Int.emod_emod_of_dvd _ (Int.dvd_refl p), Int.emod_eq_of_lt h0 h1]
  unfold putI
  split
  · rename_i h
    unfold preI
    simp only [List.cons_append, List.nil_append]
    rw [hw n hn0 (by omega), if_pos h]; rfl
  · rename_i h
    unfold preI
    simp only [List.cons_append]
    rw [hw (p - 1) (by omega) (by omega), if_neg (by omega)]
    have := pgo_sept d 5 (n - (p - 1)) 1 (p - 1) 1 [up - up % p + (p - 1)] ⟨by decide, by omega, by show n - (p - 1) < 34359738368; omega⟩ rfl (by omega) (by omega) (by omega) (by
      show p - 1 + (n - (p - 1)) * 1 < 2147483648; omega)
    have e : (6 : Nat) = 1 + 5 := rfl
    rw [e]
    have e2 : (up - up % p + (p - 1)) :: (sept 5 (n - (p - 1)) ++ d) = [up - up % p + (p - 1)] ++ (sept 5 (n - (p - 1)) ++ d) := rfl
    rw [e2, this]
    have e3 : (2 : Int) ^ (7 * ((1 : Int) - 1)).toNat = 1 := rfl
    rw [e3]
    unfold ilen
    simp only [List.length_cons, Prod.mk.injEq, and_true]
    constructor <;> omega
theorem qre {n p up : Int} (d : List Int) (hn0 : 0 ≤ n) (hn1 : n < 2147483648) (hp0 : 2 ≤ p) (hp1 : p ≤ 256) : preN (putI n p up ++ d) p = n ∧ preE (putI n p up ++ d) p = 0 ∧ preR (putI n p up ++ d) p = d := by
  have h := pre_put (up := up) d hn0 hn1 hp0 hp1
  have h2 : preE (putI n p up ++ d) p = 0 := by unfold preE; rw [h]
  refine ⟨by unfold preN; rw [h], h2, ?_⟩
  unfold preR
  rw [if_pos h2, h]
  simp only
  unfold ilen
  rw [Int.toNat_natCast, List.drop_left]
theorem qxt {n p up : Int} (d : List Int) (hn0 : 0 ≤ n) (hp0 : 2 ≤ p) : ∃ w, 0 ≤ w ∧ w < p ∧ (putI n p up ++ d).getD 0 0 = up - up % p + w := by
  unfold putI
  split
  · exact ⟨n, hn0, by omega, rfl⟩
  · exact ⟨p - 1, by omega, by omega, rfl⟩
theorem take_plain {b : List Int} (d : List Int) (hn : ilen b ≤ 1000000) : tTake (plainT b ++ d) = (b, d, 0) := by
  obtain ⟨h1, h2, h3⟩ := qre (n := ilen b) (p := 128) (up := 0) (b ++ d) (qaf b) (by omega) (by decide) (by decide)
  obtain ⟨w, h4, h5, h6⟩ := qxt (n := ilen b) (p := 128) (up := 0) (b ++ d) (qaf b) (by decide)
  unfold plainT tTake
  rw [List.append_assoc, h1, h2, h3, h6]
  have h0 := qaf d
  rw [if_neg (by simp), if_neg (by rw [qar]; omega), if_pos (by omega)]
  unfold part ilen
  simp
theorem take_pack {b : List Int} (hb : Hu.BOk b) (d : List Int) (hn : ilen b ≤ 1000000) : tTake (packT b ++ d) = (b, d, 0) := by
  have hl := put_ib b
  have hln := qaf (Hu.put b)
  obtain ⟨h1, h2, h3⟩ := qre (n := ilen (Hu.put b)) (p := 128) (up := 128) (Hu.put b ++ d) hln (by omega) (by decide) (by decide)
  obtain ⟨w, h4, h5, h6⟩ := qxt (n := ilen (Hu.put b)) (p := 128) (up := 128) (Hu.put b ++ d) hln (by decide)
  have ht := Hu.take_put b hb
  unfold packT tTake
  rw [List.append_assoc, h1, h2, h3, h6]
  have h0 := qaf d
  have hp : part (Hu.put b ++ d) 0 (ilen (Hu.put b)) = Hu.put b := by unfold part ilen; simp
  rw [if_neg (by simp), if_neg (by rw [qar]; omega), if_neg (by omega), hp]
  have e1 : takeE (Hu.put b) = 0 := by unfold takeE; rw [ht]; rfl
  have e2 : takeL (Hu.put b) = b := by unfold takeL; rw [ht]; rfl
  rw [if_pos e1, e2]
  unfold ilen; simp
theorem qzaai {b : List Int} (hb : Hu.BOk b) (d : List Int) (hn : ilen b ≤ 1000000) : tTake (bestT b ++ d) = (b, d, 0) := by
  unfold bestT; split
  · exact take_pack hb d hn
  · exact take_plain d hn
theorem put_il2 (b : List Int) : ilen (Hu.put b) = (bitsI b (ilen b) + 7) / 8 := by
  have h1 : bitsI b (ilen b) = Hu.nbits b := by unfold bitsI; rw [qcb (by omega)]
  rw [h1]
  have := Hu.qlo b
  unfold ilen; omega
end Cz
namespace Cz
open Go Go.RowKit Go.Proofs
theorem qef {a b : List Int} (ha : Hu.BOk a) (hb : Hu.BOk b) : Hu.BOk (a ++ b) := fun v hv => (List.mem_append.1 hv).elim (ha v) (hb v)
end Cz
namespace Cz
open Go Go.RowKit Go.Proofs
namespace Tb
theorem at_none {l : List Fd} {i : Int} (hi : i < 1 ∨ ilen l ≤ i - 21) : atR l i = (([], []), 90) := by
  unfold atR
  split
  · rfl
  · unfold allF
    unfold ilen at hi
    rw [List.getElem?_eq_none (by rw [List.length_append, qxe]; omega)]
theorem TabC.fzi {bl : List Blk} {cs : List SV} {mx : Int} {l : List Fd} (h : TabC bl cs mx l) {g : Nat → Nat} {x y : SV} (hx : Sub x y) (hr : refsB (fun _ => false) x = true) : FzL bl g [] [.ag cs, x] [tabV mx l, y] := by
  have h1 := h.fz (g := g)
  cases h1 with
  | cons h1 _ => exact .cons h1 (.cons (.sub hx hr) .nil)
  | fsub h hp => simp [tabV, plains, plainV] at hp
end Tb
end Cz
namespace Cz
open Go Go.RowKit Go.Proofs
namespace Tb
theorem bidx_u {S : Sy} (hS : S0 Tryd.prog = S) {l : List Blk} {K : SV → List Blk → Prop} {x : List UInt8} {z : Z} {T : Int} (hT : idxI x z.v = T) (h : K (.i .i64 (.y T)) l) : S.call 116 [.s x, .i .u8 z] l K := by
  refine qcf hS (sv := .i .i64 (.y T)) (args' := [.s x, .i .u8 (.y z.v)]) ?_ (.cons .rfl (.cons (qag rfl) .nil)) rfl rfl h
  generalize hS : S0 Tryd.prog = S
  refine qac hS I.qdy ?_
  cbv
  refine qcf hS (idx_f x z.v) .rfl rfl rfl ?_
  rw [hT]
  cbv
  exact .rfl
theorem lidx_f (x : List UInt8) (c : UInt8) (hx : ilen x ≤ 140737488355328) : (S0 Tryd.prog).call 108 [.s x, .s [c]] [] (fun y _ => Sub y (.i .i64 (.y (idxI x c.toNat)))) := by
  generalize hT : idxI x c.toNat = T
  generalize hS : S0 Tryd.prog = S
  have h2 : S.sat [c] 0 = c.toNat := by subst hS; rfl
  refine qac hS I.qkv ?_
  cbv
  refine qab hS ?_ ?_ <;> intro h <;> cbv
  · exfalso; simp at h
  refine qab hS ?_ ?_ <;> intro h <;> cbv
  · refine qag ?_
    rw [← h] at hT
    simp [idxI] at hT
    exact hT
  refine qab hS ?_ ?_ <;> intro h <;> cbv
  · repeat' (first
    | (refine s_st hS ?_; try cbv)
    | (refine qab hS ?_ ?_ <;> intro h <;> (try cbv) <;> try exact s_ab h)
    | (refine qai hS ?_; intro _ _; try cbv)
    | (refine qae hS ?_; try cbv)
    | (refine qau hS ?_; intro _ _; try cbv)
    | (refine qdi hS ?_; try cbv)
    | fail)
    refine bidx_u hS (T := T) (by rw [← hT]; exact congrArg (idxI x) h2) ?_
    cbv
    all_goals exact s_sA
  · exfalso; simp at h
theorem lidx_u {S : Sy} (hS : S0 Tryd.prog = S) {l : List Blk} {K : SV → List Blk → Prop} {x : List UInt8} {c : UInt8} {T : Int} (hx : ilen x ≤ 140737488355328) (hT : idxI x c.toNat = T) (h : K (.i .i64 (.y T)) l) : S.call 108 [.s x, .s [c]] l K := by
  subst hT
  exact qcf hS (lidx_f x c hx) .rfl rfl rfl h
theorem sidx_u {S : Sy} (hS : S0 Tryd.prog = S) {l : List Blk} {K : SV → List Blk → Prop} {x : List UInt8} {c : UInt8} {T : Int} (hx : ilen x ≤ 140737488355328) (hT : idxI x c.toNat = T) (h : K (.i .i64 (.y T)) l) : S.call 107 [.s x, .s [c]] l K := by
  refine qcf hS (sv := .i .i64 (.y T)) (args' := [.s x, .s [c]]) ?_ .rfl rfl rfl h
  generalize hS : S0 Tryd.prog = S
  refine qac hS I.qqp ?_
  cbv
  refine lidx_u hS hx hT ?_
  cbv
  exact .rfl
def cutR (x : List UInt8) : Fd := if idxI x 32 < 0 then (x, []) else (x.take (idxI x 32).toNat, x.drop ((idxI x 32).toNat + 1))
theorem cut_f (x : List UInt8) {a b : List UInt8} (hr : cutR x = (a, b)) (hx : ilen x ≤ 140737488355328) (hi : idxI x 32 < ilen x) : ∃ t : Bool, (S0 Tryd.prog).call 75 [.s x, .s [32]] [] (fun y _ => Sub y (.tp [.s a, .s b, .b t])) := by
  obtain ⟨T, hT⟩ : ∃ T, idxI x 32 = T := ⟨_, rfl⟩
  unfold cutR at hr
  rw [hT] at hr hi
  obtain ⟨t, ht⟩ : ∃ t, t = decide (0 ≤ T) := ⟨_, rfl⟩
  refine ⟨t, ?_⟩
  generalize hS : S0 Tryd.prog = S
  refine qac hS I.qvi ?_
  cbv
  refine qac hS I.qnt ?_
  cbv
  refine lidx_u hS (c := 32) hx hT ?_
  cbv
  refine qab hS ?_ ?_ <;> intro h <;> cbv
  · rw [if_neg (by omega)] at hr
    have hc : ilen ([32] : List UInt8) = 1 := rfl
    have hc2 : (([32] : List UInt8).length : Int) = 1 := rfl
    have hx' : ilen x = x.length := rfl
    refine qam hS rfl I.qja (by decide +kernel) ?_
    cbv
    repeat' (first
      | (refine s_st hS ?_; try cbv)
      | (refine qab hS ?_ ?_ <;> intro h <;> (try cbv) <;> try exact s_ab h)
      | (refine qai hS ?_; intro _ _; try cbv)
      | (refine qae hS ?_; try cbv)
      | (refine qau hS ?_; intro _ _; try cbv)
      | (refine qdi hS ?_; try cbv)
      | (refine And.intro rfl ?_; try cbv)
      | fail)
    cases hr
    rename_i r hr
    have e : t = true := by rw [ht]; exact decide_eq_true h
    have e1 : S.ssub x 0 T = x.take T.toNat := by subst hS; rfl
    have e2 : S.ssub x r (S.slen x) = x.drop (T.toNat + 1) := by
      rw [hr, hc]
      subst hS
      show (x.take x.length).drop (T + 1).toNat = _
      rw [List.take_length, show (T + 1).toNat = T.toNat + 1 by omega]
    rw [← e1, ← e2]
    all_goals exact s_sA
  · rw [if_pos (by omega)] at hr
    cases hr
    have e : t = false := by rw [ht]; exact decide_eq_false h
    all_goals exact s_sA
theorem cut_u {S : Sy} (hS : S0 Tryd.prog = S) {l : List Blk} {K : SV → List Blk → Prop} {x a b : List UInt8} (hr : cutR x = (a, b)) (hx : ilen x ≤ 140737488355328) (hi : idxI x 32 < ilen x) (h : ∀ t, K (.tp [.s a, .s b, .b t]) l) : S.call 75 [.s x, .s [32]] l K := by
  obtain ⟨t, ht⟩ := cut_f x hr hx hi
  exact qcf hS ht .rfl rfl rfl (h t)
theorem line_at {j : Int} (h0 : 0 ≤ j) (h1 : j < 19) : ∃ (L a b : List UInt8), idxI (remT j.toNat) 10 = ilen L ∧ (remT j.toNat).take L.length = L ∧ (remT j.toNat).drop (L.length + 1) = remT (j + 1).toNat ∧ cutR L = (a, b) ∧ stL[j.toNat]? = some (a, b) ∧ ilen L ≤ 20 ∧ ilen (remT j.toNat) ≤ 300 ∧ idxI L 32 < ilen L ∧ ilen L < ilen (remT j.toNat) := by
  have h := line_facts ⟨j.toNat, by omega⟩
  dsimp only at h
  obtain ⟨e1, e2, e3, e4, e5, e6, e7, e8⟩ := h
  have hj : j.toNat < 19 := by omega
  rw [if_pos hj] at e1
  have hs : j.toNat < stL.length := by rw [qxe]; omega
  have hst : stL[j.toNat]? = some (stL.getD j.toNat ([], [])) := by rw [List.getD_eq_getElem?_getD, List.getElem?_eq_getElem hs]; rfl
  have hL : ilen (lineL.getD j.toNat []) < ilen (remT j.toNat) := by
    have := e3 hj
    have hd := congrArg List.length e2
    rw [List.length_take] at hd
    rcases Nat.lt_or_ge (lineL.getD j.toNat []).length (remT j.toNat).length with h | h
    · unfold ilen; omega
    · exfalso
      rw [List.drop_eq_nil_of_le (by omega)] at this
      have h2 : ∀ k : Fin 20, remT k.val ≠ [] := by decide +kernel
      exact h2 ⟨j.toNat + 1, by omega⟩ this.symm
  refine ⟨lineL.getD j.toNat [], (stL.getD j.toNat ([], [])).1, (stL.getD j.toNat ([], [])).2, e1, e2, ?_, ?_, hst, e6, e7, e8, hL⟩
  · rw [e3 hj]; congr 1; omega
  · unfold cutR
    by_cases h : idxI (lineL.getD j.toNat []) 32 < 0
    · rw [if_pos h] at e5 ⊢; rw [e5]
    · rw [if_neg h] at e5 ⊢; rw [e5]
theorem line_last {j : Int} (h1 : j = 19) : ∃ (a b : List UInt8), idxI (remT j.toNat) 10 = -1 ∧ cutR (remT j.toNat) = (a, b) ∧ stL[j.toNat]? = some (a, b) ∧ ilen (remT j.toNat) ≤ 300 ∧ idxI (remT j.toNat) 32 < ilen (remT j.toNat) := by
  subst h1
  exact ⟨[117, 115, 101, 114, 45, 97, 103, 101, 110, 116], [], by decide +kernel⟩
theorem at_i {l : List Fd} {i j : Int} {a b : List UInt8} (h0 : 0 ≤ j) (h : (allF l)[j.toNat]? = some (a, b)) (hi : i = j + 1) : atR l i = ((a, b), 0) := by
  unfold atR
  rw [if_neg (by omega), show (i - 1).toNat = j.toNat by omega, h]
theorem all_st {l : List Fd} {j : Int} {f : Fd} (h : stL[j.toNat]? = some f) : (allF l)[j.toNat]? = some f := by
  unfold allF
  have := (List.getElem?_eq_some_iff.1 h).1
  rw [List.getElem?_append_left this, h]
theorem all_row {l : List Fd} {j k : Int} (h0 : 0 ≤ j) (hk : k = j + 20) {f : Fd} (h : l[j.toNat]? = some f) : (allF l)[k.toNat]? = some f := by
  unfold allF
  rw [List.getElem?_append_right (by rw [qxe]; omega), qxe, show k.toNat - 20 = j.toNat by omega, h]
theorem at_f {mx i e : Int} {l : List Fd} {a b : List UInt8} (hr : atR l i = ((a, b), e)) (hm : ilen l ≤ 100000000) : (S0 Tryd.prog).call 32 [tabV mx l, .i .i64 (.y i)] [] (fun y _ => Sub y (.tp [.ag [.s a, .s b], .i .i64 (.y e)])) := by
  unfold tabV
  generalize hF : cellsF l = F
  obtain ⟨m, hm'⟩ : ∃ m, m = ilen l := ⟨_, rfl⟩
  have h0 := qaf l
  rw [← hm'] at h0 hm ⊢
  generalize hS : S0 Tryd.prog = S
  refine qac hS I.qzadt ?_
  cbv
  refine qac hS I.qtm ?_
  cbv
  refine qhq hS I.qpj ?_
  cbv
  refine qac hS I.qmi ?_
  cbv
  refine qac hS I.qmh ?_
  cbv
  refine qhq hS I.qjm ?_
  cbv
  refine qab hS ?_ ?_ <;> intro h <;> cbv
  · exfalso; simp at h
  have hc : ilen ([10] : List UInt8) = 1 := rfl
  have hc2 : (([10] : List UInt8).length : Int) = 1 := rfl
  refine qba hS 14 I.qgn (fun x : Int × List UInt8 => 0 ≤ x.1 ∧ x.1 ≤ 19 ∧ (i < 1 ∨ x.1 < i) ∧ x.2 = remT x.1.toNat) (fun _ => []) (fun x => [(8, .c [.i .i64 (.y x.1)]), (9, .c [.s x.2])]) (fun x => (19 - x.1).toNat) (0, remT 0) rfl
    ⟨⟨Int.le_refl _, by dsimp only; omega, by dsimp only; omega, rfl⟩, rfl, ?_, ?_, by cbv⟩ ?_
  · cbv; all_goals exact s_sA
  · cbv; all_goals exact s_bA
  intro x
  obtain ⟨j, s⟩ := x
  intro hx
  dsimp only at hx
  cbv
  obtain ⟨k0, k1, k2, k3⟩ := hx
  have hjj : j < 19 ∨ 19 ≤ j := by omega
  rcases hjj with hj | hj
  · obtain ⟨L, c, d, f1, f2, f3, f4, f5, f6, f7, f8, f9⟩ := line_at k0 hj
    rw [← k3] at f1 f2 f3 f7 f9
    refine sidx_u hS (c := 10) (by omega) f1 ?_
    generalize hn : ilen L = n at *
    have hn0 : 0 ≤ n := hn ▸ qaf L
    cbv
    repeat' (first
      | (refine s_st hS ?_; try cbv)
      | (refine qab hS ?_ ?_ <;> intro h <;> (try cbv) <;> try exact s_ab h)
      | (refine qai hS ?_; intro _ _; try cbv)
      | (refine qae hS ?_; try cbv)
      | (refine qau hS ?_; intro _ _; try cbv)
      | (refine qdi hS ?_; try cbv)
      | (refine qev hS rfl rfl ?_; cbv)
      | fail)
    rename_i r1 hr1 j1 hj1
    have e1 : S.ssub s 0 r1 = L := by
      subst hS
      show (s.take r1.toNat).drop 0 = L
      rw [List.drop_zero, show r1.toNat = L.length by unfold ilen at hn; omega, f2]
    refine cut_u hS (x := S.ssub s 0 r1) (a := c) (b := d) (by rw [e1]; exact f4) (by rw [e1]; omega) (by rw [e1, hn]; exact f8) fun t => ?_
    cbv
    repeat' (first
      | (refine s_st hS ?_; try cbv)
      | (refine qab hS ?_ ?_ <;> intro h <;> (try cbv) <;> try exact s_ab h)
      | (refine qai hS ?_; intro _ _; try cbv)
      | (refine qae hS ?_; try cbv)
      | (refine qau hS ?_; intro _ _; try cbv)
      | (refine qdi hS ?_; try cbv)
      | (refine qev hS rfl rfl ?_; cbv)
      | fail)
    · rename_i h
      rw [at_i k0 (all_st f5) (by omega)] at hr
      cases hr
      all_goals exact s_sA
    · rename_i h r2 hr2
      refine ⟨(j1, S.ssub s r2 (S.slen s)), by dsimp only; omega, ⟨by dsimp only; omega, by dsimp only; omega, by dsimp only; omega, ?_⟩, rfl, ?_, ?_, by cbv⟩
      · dsimp only
        rw [hj1, ← f3]
        subst hS
        show (s.take s.length).drop r2.toNat = _
        rw [List.take_length, show r2.toNat = L.length + 1 by unfold ilen at hn; omega]
      · cbv; all_goals exact s_sA
      · cbv; all_goals exact s_bA
  · obtain ⟨c, d, f1, f4, f5, f7, f8⟩ := line_last (j := j) (by omega)
    rw [← k3] at f1 f4 f7 f8
    refine sidx_u hS (c := 10) (by omega) f1 ?_
    cbv
    refine s_br hS ?_ ?_ <;> intro h' <;> cbv <;> simp only [← hS, Int.ofNat_eq_natCast, cq, Bool.not_eq_true', Bool.not_eq_false', decide_eq_true_eq, decide_eq_false_iff_not, beq_iff_eq, beq_eq_false_iff_ne, ne_eq] at h'
    · repeat' (first
      | (refine s_st hS ?_; try cbv)
      | (refine qab hS ?_ ?_ <;> intro h <;> (try cbv) <;> try exact s_ab h)
      | (refine qai hS ?_; intro _ _; try cbv)
      | (refine qae hS ?_; try cbv)
      | (refine qau hS ?_; intro _ _; try cbv)
      | (refine qdi hS ?_; try cbv)
      | (refine qev hS rfl rfl ?_; cbv)
      | fail)
      refine cut_u hS (a := c) (b := d) f4 (by omega) f8 fun t => ?_
      cbv
      repeat' (first
        | (refine s_st hS ?_; try cbv)
        | (refine qab hS ?_ ?_ <;> intro h <;> (try cbv) <;> try exact s_ab h)
        | (refine qai hS ?_; intro _ _; try cbv)
        | (refine qae hS ?_; try cbv)
        | (refine qau hS ?_; intro _ _; try cbv)
        | (refine qdi hS ?_; try cbv)
        | (refine qev hS rfl rfl ?_; cbv)
        | fail)
      · rename_i h
        rw [at_i k0 (all_st f5) (by omega)] at hr
        cases hr
        all_goals exact s_sA
      · rename_i j1 hj1
        refine qba hS 15 I.qjv (fun x : Int × Int => 0 ≤ x.1 ∧ x.1 ≤ m ∧ x.2 = x.1 + 20 ∧ (i < 1 ∨ x.2 < i)) (fun x => [(29, .i .i64 (.y x.1))]) (fun x => [(8, .c [.i .i64 (.y x.2)])]) (fun x => (m - x.1).toNat) (0, j1) rfl
          ⟨⟨Int.le_refl _, by dsimp only; omega, by dsimp only; omega, by dsimp only; omega⟩, rfl, ?_, ?_, by cbv⟩ ?_
        · cbv; all_goals exact s_sA
        · cbv; all_goals exact s_bA
        intro x
        obtain ⟨q, u⟩ := x
        intro hx
        dsimp only at hx
        cbv
        obtain ⟨q0, q1, q2, q3⟩ := hx
        refine qab hS ?_ ?_ <;> intro h <;> cbv
        · obtain ⟨⟨v, w⟩, hp⟩ := qek (l := l) (i := q) (by omega) q0
          repeat' (first
            | (refine s_st hS ?_; try cbv)
            | (refine qab hS ?_ ?_ <;> intro h <;> (try cbv) <;> try exact s_ab h)
            | (refine qai hS ?_; intro _ _; try cbv)
            | (refine qae hS ?_; try cbv)
            | (refine qau hS ?_; intro _ _; try cbv)
            | (refine qdi hS ?_; try cbv)
            | (refine qev hS rfl rfl ?_; cbv)
            | (refine rowF hS hF hp (by omega) ?_; cbv)
            | fail)
          · rw [at_i (j := u) (by omega) (all_row q0 q2 hp) (by omega)] at hr
            cases hr
            all_goals exact s_sA
          · rename_i u1 hu1 q4 hq4
            refine ⟨(q4, u1), by dsimp only; omega, ⟨by dsimp only; omega, by dsimp only; omega, by dsimp only; omega, by dsimp only; omega⟩, rfl, ?_, ?_, by cbv⟩
            · cbv; all_goals exact s_sA
            · cbv; all_goals exact s_bA
        · repeat' (first
          | (refine s_st hS ?_; try cbv)
          | (refine qab hS ?_ ?_ <;> intro h <;> (try cbv) <;> try exact s_ab h)
          | (refine qai hS ?_; intro _ _; try cbv)
          | (refine qae hS ?_; try cbv)
          | (refine qau hS ?_; intro _ _; try cbv)
          | (refine qdi hS ?_; try cbv)
          | fail)
          rw [at_none (by omega)] at hr
          cases hr
          all_goals exact s_sA
    · omega
end Tb
end Cz
namespace Cz
open Go Go.RowKit Go.Proofs
section
variable {α : Type} [DecidableEq α]
def mapE (enc : α → SV) (ms : List (α × Int)) : List (SV × SV) := ms.map fun p => (enc p.1, .i .i64 (.y p.2))
def mget : List (α × Int) → α → Int
  | [], _ => 0
  | (k, v) :: r, a => if a = k then v else mget r a
theorem mget_app (a b : α) (n : Int) : ∀ ms : List (α × Int), (∀ p, p ∈ ms → 1 ≤ p.2) → mget (ms ++ [(b, n)]) a = if mget ms a ≠ 0 then mget ms a else if a = b then n else 0
  | [], _ => by simp [mget]
  | (k, v) :: r, hv => by
    simp only [List.cons_append, mget]
    split
    · have := hv (k, v) (List.mem_cons_self ..)
      dsimp only at this
      rw [if_pos (by omega)]
    · exact mget_app a b n r fun p hp => hv p (List.mem_cons_of_mem _ hp)
end
namespace Tb
theorem fstI_app (p : Fd → Bool) : ∀ (l r : List Fd) (k : Int), 1 ≤ k → fstI p (l ++ r) k = if fstI p l k ≠ 0 then fstI p l k else fstI p r (k + l.length)
  | [], r, k, _ => by simp [fstI]
  | x :: l, r, k, hk => by
    simp only [List.cons_append, fstI]
    split
    · rw [if_pos (by omega)]
    · rw [fstI_app p l r (k + 1) (by omega)]
      simp only [List.length_cons]
      rw [show k + 1 + (l.length : Int) = k + ((l.length + 1 : Nat) : Int) by omega]
end Tb
end Cz
namespace Cz
open Go Go.RowKit Go.Proofs
namespace Tb
def MapG {α : Type} [DecidableEq α] (enc : α → SV) (key : Fd → α) (E : List (SV × SV)) (L : List Fd) : Prop :=
  ∃ ms : List (α × Int), mapE enc ms = E ∧ (∀ p, p ∈ ms → 1 ≤ p.2) ∧ ∀ k, mget ms k = fstI (fun x => decide (key x = k)) L 1
section
variable {α : Type} [DecidableEq α] {enc : α → SV} {key : Fd → α} {E : List (SV × SV)} {L : List Fd}
theorem fst_snoc (p : Fd → Bool) (L : List Fd) (x : Fd) : fstI p (L ++ [x]) 1 = if fstI p L 1 ≠ 0 then fstI p L 1 else if p x then 1 + L.length else 0 := by
  rw [fstI_app p L [x] 1 (Int.le_refl _)]
  simp only [fstI]
theorem MapG.keep (h : MapG enc key E L) {x : Fd} (hx : fstI (fun y => decide (key y = key x)) L 1 ≠ 0) : MapG enc key E (L ++ [x]) := by
  obtain ⟨ms, h1, h2, h3⟩ := h
  refine ⟨ms, h1, h2, fun k => ?_⟩
  rw [h3, fst_snoc]
  split
  · rfl
  · rename_i h0
    split
    · rename_i hk
      exact absurd (by rw [← of_decide_eq_true hk] at h0; omega) hx
    · omega
theorem MapG.put (h : MapG enc key E L) {x : Fd} (hx : fstI (fun y => decide (key y = key x)) L 1 = 0) : MapG enc key (E ++ [(enc (key x), .i .i64 (.y (1 + L.length)))]) (L ++ [x]) := by
  obtain ⟨ms, h1, h2, h3⟩ := h
  refine ⟨ms ++ [(key x, (1 + L.length : Int))], ?_, ?_, fun k => ?_⟩
  · rw [← h1]; simp [mapE]
  · intro p hp
    rcases List.mem_append.1 hp with hp | hp
    · exact h2 p hp
    · rw [List.mem_singleton.1 hp]; dsimp only; omega
  · rw [mget_app _ _ _ _ h2, h3, fst_snoc]
    simp only [decide_eq_true_eq]
    split
    · rfl
    · split
      · rename_i e; rw [if_pos e.symm]
      · rename_i e; rw [if_neg fun e' => e e'.symm]
theorem MapG.nil : MapG enc key [] [] := ⟨[], rfl, fun _ h => by simp at h, fun _ => rfl⟩
end
section
variable {E : List (SV × SV)} {L : List Fd}
theorem MapG.gcN (h : MapG SV.s Prod.fst E L) (m : Nat) : gcM m E = true := by
  obtain ⟨ms, h1, -, -⟩ := h
  subst h1
  induction ms with
  | nil => rfl
  | cons p r ih => exact ih
end
end Tb
end Cz
namespace Cz
open Go Go.RowKit Go.Proofs
namespace Tb
section
variable {S : Sy} {bl : List Blk} {K : SV → List Blk → Prop} {cs : List SV} {mx mx' e n : Int} {l l' : List Fd} {F : List SV} {a b : List UInt8}
theorem qom (hS : S0 Tryd.prog = S) {g : FuncId} {args args' : List SV} {y y' : SV} (hF : (S0 Tryd.prog).call g args' [] (Tell y)) (ha : SubL args args') (hr : refsBL (fun _ => false) args' = true) (hy : Sub y y') (hK : K y' bl) : S.call g args bl K := by
  subst hS
  exact qay (qdz rfl hF ha hr (K := fun x l' => x = y ∧ l' = bl) ⟨rfl, rfl⟩) fun x l' h => ⟨y', h.1 ▸ hy, h.2 ▸ hK⟩
end
abbrev fa : Fd := ([97], [49])
theorem right_ev {mx : Int} {l : List Fd} (h0 : 0 ≤ mx) (h1 : mx ≤ 4096) : rightL mx (evL mx l) = true := decide_eq_true ⟨h0, h1, qtr h0⟩
end Tb
end Cz
namespace Cz
open Go Go.RowKit Go.Proofs
namespace Tb
section
variable {S : Sy} {bl : List Blk} {K : SV → List Blk → Prop} {cs : List SV} {mx mx' e n : Int} {l l' : List Fd} {F : List SV} {a b : List UInt8}
theorem tabE_g (hF : cellsF l' = F) (hn : n = ilen l') : Sub (tabE mx' l' e) (.tp [.ag [.i .i64 (.y mx'), .v false 2 F (.y n)], .i .i64 (.y e)]) := by
  subst hF hn; exact .rfl
theorem add_g (hS : S0 Tryd.prog = S) (hc : TabC [] cs mx l) (hr : addR (mx, l) (a, b) = ((mx', l'), e)) (hF : cellsF l' = F) (hn : n = ilen l') (hb : fullL l ≤ 10000000) (hs : szF (a, b) ≤ 10000000)
    (hK : K (.tp [.ag [.i .i64 (.y mx'), .v false 2 F (.y n)], .i .i64 (.y e)]) bl) : S.call 28 [.ag cs, .ag [.s a, .s b]] bl K := by
  refine qom hS (add_f hr hb hs) ?_ rfl (tabE_g hF hn) hK
  match hc.sub with
  | .cons h _ => exact .cons h .rfl
theorem res_g (hS : S0 Tryd.prog = S) (hc : TabC [] cs mx l) {most : Z} (hr : resR (mx, l) most.v = ((mx', l'), e)) (hF : cellsF l' = F) (hn : n = ilen l') (hb : fullL l ≤ 10000000)
    (hK : K (.tp [.ag [.i .i64 (.y mx'), .v false 2 F (.y n)], .i .i64 (.y e)]) bl) : S.call 30 [.ag cs, .i .i64 most] bl K := by
  refine qom hS (res_f hr (by omega)) ?_ rfl (tabE_g hF hn) hK
  match hc.sub with
  | .cons h _ => exact .cons h (.cons (qag rfl) .nil)
theorem rres_g (hS : S0 Tryd.prog = S) (hc : TabC [] cs mx l) {most : Z} (hr : resR (mx, l) most.v = ((mx', l'), e)) (hF : cellsF l' = F) (hn : n = ilen l') (hb : fullL l ≤ 10000000)
    (hK : K (.tp [.ag [.i .i64 (.y mx'), .v false 2 F (.y n)], .i .i64 (.y e)]) bl) : S.call 31 [.ag cs, .i .i64 most] bl K := by
  refine qom hS (rres_f hr hb) ?_ rfl (tabE_g hF hn) hK
  match hc.sub with
  | .cons h _ => exact .cons h (.cons (qag rfl) .nil)
theorem at_g (hS : S0 Tryd.prog = S) {z : Z} (hc : TabC bl cs mx l) (hr : atR l z.v = ((a, b), e)) (hm : ilen l ≤ 100000000) (hK : K (.tp [.ag [.s a, .s b], .i .i64 (.y e)]) bl) : S.call 32 [.ag cs, .i .i64 z] bl K :=
  qco hS (at_f hr hm) (hc.fzi (qag (b := .y z.v) rfl) rfl) rfl rfl hK
theorem right_g (hS : S0 Tryd.prog = S) (hc : TabC bl cs mx l) {t : Bool} (ht : rightL mx l = t) (h : fullL l ≤ 100000000) (hK : K (.b t) bl) : S.call 26 [.ag cs] bl K :=
  qco hS (right_f ht h) hc.fz rfl rfl hK
theorem qcm (hS : S0 Tryd.prog = S) (hc : TabC bl cs mx l) {t : Bool} (ht : rightL mx l = t) (h : fullL l ≤ 100000000) (hK : K (.b t) bl) : S.call 27 [.ag cs] bl K :=
  qco hS (rright_f ht h) hc.fz rfl rfl hK
theorem size_g (hS : S0 Tryd.prog = S) (hn : n = szF (a, b)) (h : n ≤ 1000000000000000000) (hK : K (.i .i64 (.y n)) bl) : S.call 22 [.ag [.s a, .s b]] bl K :=
  qcf hS (size_f hn h) .rfl rfl rfl hK
theorem qxk (hS : S0 Tryd.prog = S) {cs' : List SV} (hc : TabC bl cs mx l) (hc' : TabC bl cs' mx l) (hl : ilen l ≤ 100000000) (hK : K .tt bl) : S.call 21 [.ag cs, .ag cs'] bl K :=
  qco hS (qdr (rsame_f (decide_eq_true ⟨rfl, rfl⟩) hl hl)) (fz_two hc.fz hc'.fz rfl rfl) rfl rfl hK
end
end Tb
end Cz
namespace Cz
open Go Go.RowKit
def Ctx (C : SV → SV) : Prop := ∀ (ρ : Nms) (s : SV) (v : Value), den ρ (C s) v → ∃ u, den ρ s u ∧ ∀ (ρ' : Nms) (s' : SV), ρ'.fz = ρ.fz → den ρ' s' u → den ρ' (C s') v
section
variable {P : Program} {l : List Blk}
theorem call_one {C : SV → SV} (hC : Ctx C) {sz : Nat} {F : List SV} {n : Int} {g : FuncId} {args : List SV}
    (hF : (S0 P).call g args [] (fun x l' => ∃ (j : Nat) (lit : Bool) (st z : Z) (F' : List SV), x = C (.sl j sz (.l 0) z none) ∧ l'[j]? = some (.r false lit st sz F') ∧ plains F' = true ∧ F'.take (z.v.toNat * sz) = F ∧ z.v = n)) :
    (S0 P).call g args [] (fun x l' => ∃ (j : Nat) (z : Z), x = C (.sl j sz (.l 0) z none) ∧ l'[j]? = some (.r false false (.l 0) sz F) ∧ z.v = n) := by
  intro N W0 ρ W vals hR hd
  refine NextR.mono ?_ (hF N W0 ρ W vals hR hd)
  rintro v W' ⟨ρ', x, l', ⟨j, lit, st, z, F', rfl, hB, hp, hFF, hz⟩, hle, hll, hR', hdv⟩
  obtain ⟨u, hu, hback⟩ := hC _ _ _ hdv
  have hj := (List.getElem?_eq_some_iff.1 hB).1
  obtain ⟨hsz, hvs, _, hown⟩ := hR'.blk j _ hB
  obtain ⟨cur, _, _, hown2, _, _⟩ := hown rfl
  simp only [den] at hu
  obtain ⟨h0, h1, vw, hvw, hin, hs⟩ := hu
  have e0 : (Z.l 0).v.toNat = 0 := rfl
  rw [e0] at hs hin
  rw [Nat.zero_add] at hin
  -- the slice's own view
  have key : ∃ vw0 : View, vw0.n = F.length ∧ vw0.n ≤ vw0.cap * sz ∧ (∀ a, vw0.base = some a → vw.base = some a) ∧ ViewOk W' ρ' F vw0 ∧ OwnOk N W' vw0 (vw0.cap * sz) ∧ (0 + z.v.toNat) * sz ≤ vw0.n ∧ SlVal vw0 sz 0 z.v.toNat (Option.map Z.v none) u := by
    have empty : z.v.toNat = 0 → (∃ a', u = .slice a' 0 0) → ∃ vw0 : View, vw0.n = F.length ∧ vw0.n ≤ vw0.cap * sz ∧ (∀ a, vw0.base = some a → vw.base = some a) ∧ ViewOk W' ρ' F vw0 ∧ OwnOk N W' vw0 (vw0.cap * sz) ∧ (0 + z.v.toNat) * sz ≤ vw0.n ∧ SlVal vw0 sz 0 z.v.toNat (Option.map Z.v none) u := by
      intro hz0 ha
      have hF0 : F = [] := by rw [← hFF, hz0]; simp
      subst hF0
      exact ⟨⟨none, 0, 0⟩, rfl, Nat.zero_le _, (fun a h => by cases h), ⟨Nat.zero_le _, fun _ => ⟨rfl, rfl⟩, fun q x hq _ => by simp at hq⟩, (fun a h => by cases h), by rw [hz0]; simp, ⟨rfl, hz0, ha⟩⟩
    have hv := hvs vw hvw
    unfold SlVal at hs
    cases hb : vw.base with
    | none =>
      rw [hb] at hs
      rw [← hb] at *
      exact empty hs.2.1 hs.2.2
    | some a =>
      rw [hb] at hs
      rcases hs with ⟨c, e, hc, hc2, hc3⟩ | ⟨h2, h3, _⟩
      · have hlen : F.length = z.v.toNat * sz := by rw [← hFF, List.length_take]; have := hv.1; omega
        refine ⟨⟨some a, z.v.toNat * sz, c⟩, hlen.symm, Nat.mul_le_mul_right _ hc, fun b h => by rw [← h], ⟨by rw [hlen]; exact Nat.le_refl _, fun h => by (cases h), fun q x hq hx => ?_⟩, ?_, by rw [Nat.zero_add]; exact Nat.le_refl _, ?_⟩
        · have hq' : q < z.v.toNat * sz := hq
          have : F'[q]? = some x := by rw [← hFF, List.getElem?_take_of_lt hq'] at hx; exact hx
          obtain ⟨a', w, g1, g2, g3⟩ := hv.2.2 q x (by omega) this
          rw [hb] at g1
          exact ⟨a', w, g1, g2, g3⟩
        · have hc4 : c = vw.cap := by have h5 : 0 + c = vw.cap := hc3; omega
          intro b hb'
          have := hown2 vw hvw b (by rw [hb]; exact hb')
          rw [hc4]; exact this
        · unfold SlVal
          refine .inl ⟨c, e, hc, by rw [Nat.zero_add]; exact Nat.le_refl _, ?_⟩
          simp only [Option.map_none, Nat.zero_add]
      · exact hb ▸ empty h2 h3
  obtain ⟨vw0, k1, k2, k3, k4, k5, k6, k7⟩ := key
  let ρ2 : Nms := ⟨fun k => if k = j then [vw0] else ρ' k, ρ'.fz, ρ'.q⟩
  have hj2 : ρ2 j = [vw0] := by simp [ρ2]
  have ho2 : ∀ k, k ≠ j → ρ2 k = ρ' k := fun k hk => by simp [ρ2, hk]
  have hpF : plains F = true := by rw [← hFF]; exact qnj fun x hx => qcd hp x (List.mem_of_mem_take hx)
  have hat : ∀ (k : Nat) (B : Blk), ((List.replicate l'.length Blk.dead).set j (.r false false (.l 0) sz F))[k]? = some B → B.wr = true → k = j ∧ B = .r false false (.l 0) sz F := by
    intro k B hk hw
    by_cases e : k = j
    · subst e
      rw [List.getElem?_set_self (by simpa using hj)] at hk
      exact ⟨rfl, (Option.some.inj hk).symm⟩
    · rw [List.getElem?_set_ne (fun h => e h.symm), List.getElem?_replicate] at hk
      split at hk
      · cases hk; cases hw
      · cases hk
  refine ⟨ρ2, C (.sl j sz (.l 0) z none), (List.replicate l'.length Blk.dead).set j (.r false false (.l 0) sz F), ⟨j, z, rfl, ?_, hz⟩, ⟨fun k hk => absurd hk (Nat.not_lt_zero k), hle.fz, hle.fq, hle.q⟩, by simp, ⟨hR'.below, hR'.le, ?_, ?_, ?_, ?_, ?_, hR'.qN, hR'.fin, ?_⟩, ?_⟩
  · rw [List.getElem?_set_self (by simpa using hj)]
  · intro k hk
    simp only [List.length_set, List.length_replicate] at hk
    rw [ho2 k (by omega)]; exact hR'.out k hk
  · intro k vw' a hv ha
    by_cases e : k = j
    · subst e
      rw [hj2, List.mem_singleton] at hv; subst hv
      exact hR'.ids k vw a hvw (k3 a ha)
    · rw [ho2 k e] at hv; exact hR'.ids k vw' a hv ha
  · intro k B hk
    by_cases e : k = j
    · subst e
      rw [List.getElem?_set_self (by simpa using hj)] at hk
      simp only [Option.some.injEq] at hk; subst hk
      refine ⟨hsz, fun vw' hv => ?_, fun _ x hx => qcd hpF x hx, fun _ => ⟨vw0, by rw [hj2]; simp, k1, fun vw' hv => ?_, k2, fun vw' hv => ?_⟩⟩
      · rw [hj2, List.mem_singleton] at hv; subst hv
        exact ViewOk.plain (ρ := ρ') ρ2 (fun _ _ _ h => h) hpF k4
      · rw [hj2, List.mem_singleton] at hv; subst hv; exact k5
      · rw [hj2, List.mem_singleton] at hv; subst hv; exact .inl ⟨rfl, rfl⟩
    · rw [List.getElem?_set_ne (fun h => e h.symm), List.getElem?_replicate] at hk
      split at hk
      · cases hk; trivial
      · cases hk
  · intro k k' B vw1 vw2 a a' hB' hw hne hv hv' ha ha'
    obtain ⟨rfl, _⟩ := hat k B hB' hw
    rw [hj2, List.mem_singleton] at hv; subst hv
    rw [ho2 k' (fun e => hne e.symm)] at hv'
    exact hR'.sep k k' _ vw vw2 a a' hB rfl hne hvw hv' (k3 a ha) ha'
  · intro k B vw1 a hB' hw hv ha
    obtain ⟨rfl, _⟩ := hat k B hB' hw
    rw [hj2, List.mem_singleton] at hv; subst hv
    exact hR'.own k _ vw a hB rfl hvw (k3 a ha)
  · intro k B vw1 a hB' hw hv ha o
    obtain ⟨rfl, _⟩ := hat k B hB' hw
    rw [hj2, List.mem_singleton] at hv; subst hv
    exact hR'.fsep k _ vw a hB rfl hvw (k3 a ha) o
  · refine hback ρ2 _ rfl ?_
    simp only [den]
    exact ⟨h0, h1, vw0, by rw [hj2]; simp, by rw [e0]; exact k6, by rw [e0]; exact k7⟩
end
section
variable {P : Program} {l : List Blk}
theorem use_one {S : Sy} (hS : S0 P = S) {C : SV → SV} (hC : Ctx C) (hCz : ∀ (l' : List Blk) (j m : Nat) (z z' : Z) (sz : Nat), z.v = z'.v → Fz l' (fun i => m + i) [some j] (C (.sl j sz (.l 0) z none)) (C (.sl m sz (.l 0) z' none))) {sz : Nat} {F : List SV} {n : Int} {g : FuncId} {args args' : List SV} {K : SV → List Blk → Prop}
    (hF : (S0 P).call g args' [] (fun x l' => ∃ (j : Nat) (lit : Bool) (st z : Z) (F' : List SV), x = C (.sl j sz (.l 0) z none) ∧ l'[j]? = some (.r false lit st sz F') ∧ plains F' = true ∧ F'.take (z.v.toNat * sz) = F ∧ z.v = n)) (ha : SubL args args')
    (hr : refsBL (fun _ => false) args' = true) (hsz : 0 < sz) (hp : plains F = true) (hK : K (C (.sl (len l) sz (.l 0) (.y n) none)) (snoc l (.r false false (.y 0) sz F))) : S.call g args l K := by
  subst hS
  refine qoi ha (qwr (Z := fun sts => sts 0 = 0) (rows := [(sz, F)]) (y := fun m => C (.sl m sz (.l 0) (.y n) none)) (qay (call_one hC hF) fun x l' h => ⟨x, .rfl, ?_⟩) hr ⟨⟨hsz, hp⟩, trivial⟩ fun sts hz => ?_)
  · obtain ⟨j, z, rfl, hj, hz⟩ := h
    refine ⟨[some j], ⟨⟨_, _, _, hj, .rfl⟩, rfl, trivial⟩, fun m => hCz l' j m z (.y n) sz hz, ?_⟩
    simp only [stsOf, List.getElem?_cons_zero, hj]
    rfl
  · have : rowBs sts [(sz, F)] 0 = [.r false false (.y 0) sz F] := by simp only [rowBs, hz]
    rw [this]
    rw [qca, qbt] at hK
    exact hK
end
end Cz
namespace Cz
open Go Go.RowKit Go.Proofs
namespace Pa
def upP (w : Int) : Int := if w = 1 then 64 else if w = 2 then 16 else 0
def bitP (w : Int) : Int := if w = 1 then 6 else 4
def powP (w : Int) : Int := if w = 1 then 64 else 16
theorem of_f {w u k : Int} (hu : u = upP w) (hk : k = bitP w) : (S0 Tryd.prog).call 70 [.i .i64 (.y w)] [] (fun y _ => Sub y (.ag [.i .i64 (.y u), .i .i64 (.y k)])) := by
  generalize hS : S0 Tryd.prog = S
  refine qac hS I.qzabz ?_
  cbv
  refine qac hS I.qvb ?_
  cbv
  refine qdc hS rfl I.qoq (by decide +kernel) ?_
  cbv
  refine ⟨?_, ?_⟩ <;> cbv
  all_goals
    repeat' (first
      | (refine qbr hS rfl ?_; try cbv)
      | (refine s_ck hS ?_; try cbv)
      | (refine qab hS ?_ ?_ <;> intro h <;> (try cbv) <;> try exact s_ab h)
      | (refine s_ad hS ?_; intro _ _; try cbv)
      | (refine s_sb hS ?_; intro _ _; try cbv)
      | (refine qau hS ?_; intro _ _; try cbv)
      | (refine qae hS ?_; try cbv)
      | (refine qbs hS ?_; try cbv)
      | (refine s_lk hS ?_; try cbv)
      | (refine s_mu hS ?_; try cbv)
      | fail)
    all_goals exact qdn (.cons (qag (by simp only [Z.v]; rw [hu]; unfold upP; split <;> (try split) <;> omega)) (.cons (qag (by simp only [Z.v]; rw [hk]; unfold bitP; split <;> omega)) .nil))
theorem of_u {S : Sy} {bl : List Blk} {K : SV → List Blk → Prop} (hS : S0 Tryd.prog = S) {z : Z} {w : Int} (hz : z.v = w) (hK : ∀ u k, u = upP w → k = bitP w → K (.ag [.i .i64 (.y u), .i .i64 (.y k)]) bl) : S.call 70 [.i .i64 z] bl K :=
  qcf hS (of_f (w := w) rfl rfl) (.cons (qag hz) .nil) rfl rfl (hK _ _ rfl rfl)
theorem repS_len (z : List SV) : ∀ n, (repS n z).length = n * z.length
  | 0 => by simp [repS]
  | n + 1 => by rw [repS, qdo, List.length_append, repS_len z n, Nat.add_mul]; omega
theorem qos {z : List SV} (h : plains z = true) : ∀ n, plains (repS n z) = true
  | 0 => rfl
  | n + 1 => by rw [repS, qdo]; exact qhs h (qos h n)
theorem s_mkg {S : Sy} {zero : List SV} {n c : Int} {K : List SV → Prop} (hS : S0 Tryd.prog = S) (hc : n = c) (h0 : 0 ≤ n) (h1 : n ≤ 65536) (hz : plains zero = true) (h : ∀ F, F.length = n.toNat * zero.length → plains F = true → K F) : S.mkr zero n c K :=
  s_mk hS hc h0 h1 (qos hz _) (h _ (repS_len _ _) (qos hz _))
theorem grow_f {n : Int} (h0 : 0 < n) (h1 : n ≤ 65536) : (S0 Tryd.prog).call 87 [.re (.slice none 0 0), .i .i64 (.y n)] [] (fun x l' => ∃ (j : Nat) (lit : Bool) (st z : Z) (F' : List SV), x = (.sl j 1 (.l 0) z none) ∧ l'[j]? = some (.r false lit st 1 F') ∧ plains F' = true ∧ F'.take (z.v.toNat * 1) = [] ∧ z.v = 0) := by
  generalize hS : S0 Tryd.prog = S
  refine qac hS I.qfn ?_
  cbv
  repeat' (first
    | (refine qbr hS rfl ?_; try cbv)
    | (refine s_ck hS ?_; try cbv)
    | (refine qab hS ?_ ?_ <;> intro h <;> (try cbv) <;> try exact s_ab h)
    | (refine s_ad hS ?_; intro _ _; try cbv)
    | (refine s_sb hS ?_; intro _ _; try cbv)
    | (refine qau hS ?_; intro _ _; try cbv)
    | (refine qae hS ?_; try cbv)
    | (refine s_mkg hS rfl (by omega) (by omega) rfl fun F hF hp => ?_; cbv)
    | (refine qbs hS ?_; try cbv)
    | (refine s_lk hS ?_; try cbv)
    | (refine s_mu hS ?_; try cbv)
    | fail)
  exact ⟨0, false, .l 0, .l 0, F, rfl, rfl, hp, rfl, rfl⟩
theorem grow_u {S : Sy} {bl : List Blk} {K : SV → List Blk → Prop} (hS : S0 Tryd.prog = S) {z : Z} (h0 : 0 < z.v) (h1 : z.v ≤ 65536) (hK : K (.sl (len bl) 1 (.l 0) (.y 0) none) (snoc bl (.r false false (.y 0) 1 []))) : S.call 87 [.re (.slice none 0 0), .i .i64 z] bl K :=
  use_one hS (C := fun s => s) (fun ρ s v d => ⟨v, d, fun _ _ _ d' => d'⟩) (fun l' j m z z' sz h => .keep (i := 0) rfl rfl h) (grow_f h0 h1) (.cons .rfl (.cons (qag rfl) .nil)) rfl (by decide) rfl hK
theorem tell_own {g : FuncId} {args : List SV} {F : List SV} {n : Int} (hF : (S0 Tryd.prog).call g args [] (OwnR 0 1 F false [])) (hpl : plains F = true) (hn : n * 1 = F.length) : (S0 Tryd.prog).call g args [] (Tell (.v false 1 F (.y n))) := by
  refine qay hF fun x l' ⟨y, hs, hr⟩ => ⟨y, hs, ?_⟩
  rcases hr with ⟨rfl, rfl⟩ | ⟨k, m, lit, st, F', _, rfl, hB, hsub, hp, hm⟩
  · exact fun g => .nil (by decide) (by simp only [Z.v]; simpa using hn)
  · have hmn : m.v = n := by omega
    have hl : F'.length = F.length := hsub.1
    have e : (F'.drop ((Z.l 0).v.toNat * 1)).take (m.v.toNat * 1) = F' := by
      rw [show (Z.l 0).v.toNat * 1 = 0 from rfl, List.drop_zero, List.take_of_length_le (by omega)]
    exact fun g => .row hB rfl (.fsub (by rw [e]; exact hsub) hpl) hpl hmn
end Pa
end Cz
namespace Cz
open Go Go.RowKit Go.Proofs
namespace Pa
open Tb
abbrev Fd := Tb.Fd
theorem up_bd (w : Int) : 0 ≤ upP w ∧ upP w ≤ 64 ∧ 4 ≤ bitP w ∧ bitP w ≤ 6 ∧ 2 ^ (bitP w).toNat = powP w := by
  unfold upP bitP powP
  split
  · exact ⟨by decide, by decide, by decide, by decide, rfl⟩
  · split <;> exact ⟨by decide, by decide, by decide, by decide, rfl⟩
def nmB (i : Int) (b : List UInt8) (w : Int) : List Int := putI i (powP w) (upP w) ++ bestT (byS b)
def fldB (f : Fd) (w : Int) : List Int := putI 0 (powP w) (upP w) ++ bestT (byS f.1) ++ bestT (byS f.2)
def idxB (i : Int) : List Int := putI i 128 128
def sizB (n : Int) : List Int := putI n 32 32
structure Nx where
  e : Int
  sized : Bool
  added : Bool
  size : Int
  f : Fd
  rest : List Int
def nxE (e : Int) : Nx := ⟨e, false, false, 0, ([], []), []⟩
def powU (c : Int) : Int := if 128 ≤ c then 128 else if 64 ≤ c then 64 else if 32 ≤ c then 32 else 16
def litU (l : List Fd) (a : Bool) (i : Int) (b : List Int) : Nx :=
  if 0 < i then
    if (atR l i).2 ≠ 0 then nxE (atR l i).2 else if tE b ≠ 0 then nxE (tE b) else ⟨0, false, a, 0, ((atR l i).1.1, strB (tS b)), tR b⟩
  else if tE b ≠ 0 then nxE (tE b) else if tE (tR b) ≠ 0 then nxE (tE (tR b)) else ⟨0, false, a, 0, (strB (tS b), strB (tS (tR b))), tR (tR b)⟩
def nxtC (l : List Fd) (c n : Int) (r : List Int) : Nx :=
  if 128 ≤ c then (if (atR l n).2 ≠ 0 then nxE (atR l n).2 else ⟨0, false, false, 0, (atR l n).1, r⟩)
  else if 64 ≤ c then litU l true n r
  else if 32 ≤ c then ⟨0, true, false, n, ([], []), r⟩
  else litU l false n r
def nxtU (l : List Fd) (b : List Int) : Nx :=
  if preE b (powU (b.getD 0 0)) ≠ 0 then nxE (preE b (powU (b.getD 0 0))) else nxtC l (b.getD 0 0) (preN b (powU (b.getD 0 0))) (preR b (powU (b.getD 0 0)))
structure Un where
  b : List Int
  mx : Int
  l : List Fd
  out : List Fd
  size : Int
def tellU (s : Un) (x : Nx) : Un :=
  ⟨x.rest, s.mx, if x.added then evL s.mx (x.f :: s.l) else s.l, if 2000 < s.size + szF x.f then s.out else s.out ++ [x.f], s.size + szF x.f⟩
def stepU (most : Int) (s : Un) (x : Nx) : Int × Un :=
  if x.e ≠ 0 then (x.e, s)
  else if x.sized then (if 0 < s.size ∨ most < x.size then (100, s) else (0, ⟨x.rest, x.size, evL x.size s.l, s.out, s.size⟩))
  else (0, tellU s x)
def runU (most : Int) : Nat → Un → Int × Un
  | 0, s => (0, s)
  | n + 1, s => if s.b = [] then (0, s) else if (stepU most s (nxtU s.l s.b)).1 ≠ 0 then stepU most s (nxtU s.l s.b) else runU most n (stepU most s (nxtU s.l s.b)).2
def blkU (t : Tab) (most : Int) (b : List Int) : (List Fd × Bool × Tab) × Int :=
  if rightL t.1 t.2 = true ∧ 0 ≤ most ∧ most ≤ 4096 then
    (if (runU most b.length ⟨b, t.1, t.2, [], 0⟩).1 ≠ 0 then (([], false, (0, [])), (runU most b.length ⟨b, t.1, t.2, [], 0⟩).1)
    else (((runU most b.length ⟨b, t.1, t.2, [], 0⟩).2.out, decide (2000 < (runU most b.length ⟨b, t.1, t.2, [], 0⟩).2.size), ((runU most b.length ⟨b, t.1, t.2, [], 0⟩).2.mx, (runU most b.length ⟨b, t.1, t.2, [], 0⟩).2.l)), 0))
  else (([], false, (0, [])), 2)
theorem pgo_ge {b : List Int} : ∀ (f : Nat) (a n : Int), 1 ≤ a → (pgo b f a n).2.2 = 0 → a < (pgo b f a n).2.1
  | 0, _, _, _, h => by simp [pgo] at h
  | f + 1, a, n, h0, h => by
    rw [pgo] at h ⊢
    split at h
    · simp at h
    · split at h
      · simp at h
      · split at h
        · rename_i h1 h2; rw [if_neg h1, if_pos h2]; dsimp only; omega
        · rename_i h1 h2
          rw [if_neg h1, if_neg h2]
          have := pgo_ge f (a + 1) _ (by omega) h
          omega
theorem preR_lt {b : List Int} {p : Int} (h : preE b p = 0) : ilen (preR b p) < ilen b := by
  have h0 := qaf b
  unfold preR
  rw [if_pos h]
  unfold preE at h
  cases b with
  | nil => simp [preI] at h
  | cons v b =>
    have h1 : 1 ≤ (preI (v :: b) p).2.1 := by
      unfold preI at h ⊢
      dsimp only at h ⊢
      split
      · exact Int.le_refl _
      · rename_i h2
        rw [if_neg h2] at h
        have := pgo_ge _ _ _ (by decide) h
        omega
    unfold ilen
    rw [List.length_drop, List.length_cons]
    omega
theorem litU_ok {l : List Fd} {a : Bool} {i : Int} {b : List Int} (hb : Hu.BOk b) (h : (litU l a i b).e = 0) : Hu.BOk (litU l a i b).rest ∧ ilen (litU l a i b).rest ≤ ilen b ∧ (litU l a i b).sized = false := by
  obtain ⟨h1, h2, h3⟩ := tT_ok hb
  obtain ⟨g1, g2, g3⟩ := tT_ok h2
  revert h
  unfold litU
  split
  · split
    · intro h; rename_i h1; exact absurd h h1
    · split
      · intro h; rename_i h1; exact absurd h h1
      · intro _; exact ⟨h2, h3, rfl⟩
  · split
    · intro h; rename_i h1; exact absurd h h1
    · split
      · intro h; rename_i h1; exact absurd h h1
      · intro _; exact ⟨g2, by dsimp only; omega, rfl⟩
theorem qwc {l : List Fd} {b : List Int} (hb : Hu.BOk b) (h : (nxtU l b).e = 0) : Hu.BOk (nxtU l b).rest ∧ ilen (nxtU l b).rest < ilen b := by
  unfold nxtU at h ⊢
  split at h
  · rename_i h1; exact absurd h h1
  · rename_i h1
    rw [if_neg h1]
    have hlt := preR_lt (b := b) (p := powU (b.getD 0 0)) (by simpa using h1)
    have hok := qds (p := powU (b.getD 0 0)) hb
    revert h
    unfold nxtC
    split
    · split
      · intro h; rename_i h1; exact absurd h h1
      · intro _; exact ⟨hok, hlt⟩
    · split
      · intro h
        have := litU_ok hok h
        exact ⟨this.1, by omega⟩
      · split
        · intro _; exact ⟨hok, hlt⟩
        · intro h
          have := litU_ok hok h
          exact ⟨this.1, by omega⟩
theorem qiu {most : Int} {s : Un} {x : Nx} (h : (stepU most s x).1 = 0) : x.e = 0 ∧ (stepU most s x).2.b = x.rest := by
  unfold stepU at h ⊢
  split at h
  · rename_i h1; exact absurd h h1
  · rename_i h1
    refine ⟨by simpa using h1, ?_⟩
    rw [if_neg h1]
    split at h
    · split at h
      · simp at h
      · rename_i h2 h3; rw [if_pos h2, if_neg h3]
    · rename_i h2; rw [if_neg h2]; rfl
theorem run_two (most : Int) : ∀ (n m : Nat) (s : Un), m ≤ n → Hu.BOk s.b → s.b.length ≤ m → runU most n s = runU most m s
  | 0, m, s, h, _, _ => by rw [show m = 0 by omega]
  | n + 1, 0, s, _, _, h => by
    have hs : s.b = [] := List.length_eq_zero_iff.1 (by omega)
    simp only [runU, hs, if_true]
  | n + 1, m + 1, s, hm, hb, h => by
    simp only [runU]
    split
    · rfl
    · split
      · rfl
      · rename_i h0 h1
        have h1 : (stepU most s (nxtU s.l s.b)).1 = 0 := by simpa using h1
        obtain ⟨h2, h3⟩ := qiu h1
        obtain ⟨h4, h5⟩ := qwc hb h2
        exact run_two most n m _ (by omega) (by rw [h3]; exact h4) (by rw [h3]; unfold ilen at h5; omega)
theorem run_more (most : Int) (n : Nat) (s : Un) (hb : Hu.BOk s.b) (h : s.b.length ≤ n) : runU most n s = runU most s.b.length s := run_two most n _ s h hb (Nat.le_refl _)
def goU (most : Int) (s : Un) : Int × Un := runU most s.b.length s
theorem qlj {most : Int} {s : Un} (h : s.b = []) : goU most s = (0, s) := by unfold goU; rw [h]; rfl
theorem qqd {most : Int} {s : Un} (h : s.b ≠ []) (h1 : (stepU most s (nxtU s.l s.b)).1 ≠ 0) : goU most s = stepU most s (nxtU s.l s.b) := by
  unfold goU
  obtain ⟨n, hn⟩ : ∃ n, s.b.length = n + 1 := ⟨s.b.length - 1, by have := List.length_pos_iff.2 h; omega⟩
  rw [hn, runU, if_neg h, if_pos h1]
theorem qjj {most : Int} {s : Un} (hb : Hu.BOk s.b) (h : s.b ≠ []) (h1 : (stepU most s (nxtU s.l s.b)).1 = 0) : goU most s = goU most (stepU most s (nxtU s.l s.b)).2 := by
  unfold goU
  obtain ⟨n, hn⟩ : ∃ n, s.b.length = n + 1 := ⟨s.b.length - 1, by have := List.length_pos_iff.2 h; omega⟩
  obtain ⟨h2, h3⟩ := qiu h1
  obtain ⟨h4, h5⟩ := qwc hb h2
  rw [hn, runU, if_neg h, if_neg (by simpa using h1), run_more most n _ (by rw [h3]; exact h4) (by rw [h3]; unfold ilen at h5; omega)]
theorem blk_go {t : Tab} {most : Int} {b : List Int} : blkU t most b = if rightL t.1 t.2 = true ∧ 0 ≤ most ∧ most ≤ 4096 then
    (if (goU most ⟨b, t.1, t.2, [], 0⟩).1 ≠ 0 then (([], false, (0, [])), (goU most ⟨b, t.1, t.2, [], 0⟩).1)
    else (((goU most ⟨b, t.1, t.2, [], 0⟩).2.out, decide (2000 < (goU most ⟨b, t.1, t.2, [], 0⟩).2.size), ((goU most ⟨b, t.1, t.2, [], 0⟩).2.mx, (goU most ⟨b, t.1, t.2, [], 0⟩).2.l)), 0))
  else (([], false, (0, [])), 2) := rfl
theorem tE_of {b d x : List Int} (h : tTake b = (x, d, 0)) : tE b = 0 ∧ tS b = x ∧ tR b = d := by unfold tE tS tR; rw [h]; exact ⟨rfl, rfl, rfl⟩
theorem lit_own {l : List Fd} {a : Bool} {f : Fd} {d : List Int} (ha : ilen f.1 ≤ 1000000) (hb : ilen f.2 ≤ 1000000) : litU l a 0 (bestT (byS f.1) ++ (bestT (byS f.2) ++ d)) = ⟨0, false, a, 0, f, d⟩ := by
  obtain ⟨e1, e2, e3⟩ := tE_of (qzaai (qws f.1) (bestT (byS f.2) ++ d) (by rw [qgr]; exact ha))
  obtain ⟨g1, g2, g3⟩ := tE_of (qzaai (qws f.2) d (by rw [qgr]; exact hb))
  unfold litU
  rw [if_neg (by decide), if_neg (by simp [e1]), e3, if_neg (by simp [g1]), e2, g2, g3, strB_byS, strB_byS]
theorem nxt_way {l : List Fd} {i w : Int} {d : List Int} (h0 : 0 ≤ i) (h1 : i < 2147483648) : nxtU l (putI i (powP w) (upP w) ++ d) = litU l (decide (w = 1)) i d := by
  have key : ∀ p u : Int, 2 ≤ p → p ≤ 256 → (∀ x, 0 ≤ x → x < p → powU (u - u % p + x) = p ∧ ∀ n r, nxtC l (u - u % p + x) n r = litU l (decide (w = 1)) n r) → nxtU l (putI i p u ++ d) = litU l (decide (w = 1)) i d := by
    intro p u hp0 hp1 hx
    obtain ⟨x, x0, x1, hx2⟩ := qxt (up := u) (p := p) d h0 hp0
    obtain ⟨g1, g2, g3⟩ := qre (up := u) d h0 h1 hp0 hp1
    obtain ⟨k1, k2⟩ := hx x x0 x1
    unfold nxtU
    rw [hx2, k1, g2, if_neg (by simp), g1, g3, k2]
  unfold powP upP
  split
  · refine key 64 64 (by decide) (by decide) fun x x0 x1 => ⟨?_, fun n r => ?_⟩
    · unfold powU; rw [if_neg (by omega), if_pos (by omega)]
    · unfold nxtC; rw [if_neg (by omega), if_pos (by omega)]
      rename_i hw; rw [decide_eq_true hw]
  · split
    · refine key 16 16 (by decide) (by decide) fun x x0 x1 => ⟨?_, fun n r => ?_⟩
      · unfold powU; rw [if_neg (by omega), if_neg (by omega), if_neg (by omega)]
      · unfold nxtC; rw [if_neg (by omega), if_neg (by omega), if_neg (by omega)]
        rename_i hw _; rw [decide_eq_false hw]
    · refine key 16 0 (by decide) (by decide) fun x x0 x1 => ⟨?_, fun n r => ?_⟩
      · unfold powU; rw [if_neg (by omega), if_neg (by omega), if_neg (by omega)]
      · unfold nxtC; rw [if_neg (by omega), if_neg (by omega), if_neg (by omega)]
        rename_i hw _; rw [decide_eq_false hw]
theorem qzadl {l : List Fd} {n : Int} {d : List Int} (h0 : 0 ≤ n) (h1 : n < 2147483648) : nxtU l (sizB n ++ d) = ⟨0, true, false, n, ([], []), d⟩ := by
  unfold sizB
  obtain ⟨x, x0, x1, hx2⟩ := qxt (up := 32) (p := 32) d h0 (by decide)
  obtain ⟨g1, g2, g3⟩ := qre (up := 32) (p := 32) d h0 h1 (by decide) (by decide)
  have e : powU (32 - 32 % 32 + x) = 32 := by unfold powU; rw [if_neg (by omega), if_neg (by omega), if_pos (by omega)]
  unfold nxtU
  rw [hx2, e, g2, if_neg (by simp), g1, g3]
  unfold nxtC
  rw [if_neg (by omega), if_neg (by omega), if_pos (by omega)]
theorem bok_way {i w : Int} (h0 : 0 ≤ i) : Hu.BOk (putI i (powP w) (upP w)) := by
  unfold powP upP
  split
  · exact qse h0 (by decide) (by decide) (by decide) (by decide)
  · split <;> exact qse h0 (by decide) (by decide) (by decide) (by decide)
theorem qzaef {w : Int} {f : Fd} : Hu.BOk (fldB f w) := qef (qef (bok_way (by decide)) (bestT_ok (qws _))) (bestT_ok (qws _))
theorem quc {i : Int} (h0 : 0 ≤ i) : Hu.BOk (sizB i) := qse h0 (by decide) (by decide) (by decide) (by decide)
theorem qsf {i p u : Int} : putI i p u ≠ [] := by
  have := (qeb i p u).1
  intro h; rw [h] at this; simp [ilen] at this
theorem qbn {mx : Int} {l : List Fd} (h : rightL mx l = true) : ilen l ≤ 128 := by
  have h' := of_decide_eq_true h
  have := qbq l
  omega
theorem qzaay (b : List Int) : ilen (bestT b) ≤ ilen b + 6 := by
  have h0 := qaf b
  unfold bestT
  split
  · rename_i h
    unfold shortB at h
    have h := of_decide_eq_true h
    unfold packT
    have h1 := qeb (ilen (Hu.put b)) 128 128
    have h2 := Hu.qlo b
    have h3 : bitsI b (ilen b) = Hu.nbits b := by unfold bitsI; rw [qcb (by omega)]
    have h4 := qaf (Hu.put b)
    rw [qar]
    unfold ilen at *
    omega
  · unfold plainT
    have h1 := qeb (ilen b) 128 0
    rw [qar]
    omega
end Pa
end Cz
namespace Cz
open Go Go.RowKit Go.Proofs
namespace Pa
theorem best_t {x : List UInt8} (hx : ilen x ≤ 1000000) : (S0 Tryd.prog).call 72 [.s x] [] (Tell (.v false 1 (cellsB (bestT (byS x))) (.y (ilen (bestT (byS x)))))) := tell_own (tbest_f hx) (qad _) (qee _)
theorem qzn (b : List Int) : 1 ≤ ilen (bestT b) ∧ ilen (bestT b) ≤ ilen b + 6 := by
  have h0 := qaf b
  unfold bestT
  split
  · rename_i h
    unfold shortB at h
    have h := of_decide_eq_true h
    unfold packT
    have h1 := qeb (ilen (Hu.put b)) 128 128
    have h2 := Hu.qlo b
    have h3 : bitsI b (ilen b) = Hu.nbits b := by unfold bitsI; rw [qcb (by omega)]
    have h4 := qaf (Hu.put b)
    rw [qar]
    unfold ilen at *
    omega
  · unfold plainT
    have h1 := qeb (ilen b) 128 0
    rw [qar]
    omega
section
variable {S : Sy} {bl : List Blk} {K : SV → List Blk → Prop}
theorem best_g (hS : S0 Tryd.prog = S) {x : List UInt8} {F : List SV} {n : Int} (hx : ilen x ≤ 1000000) (hF : cellsB (bestT (byS x)) = F) (hn : n = ilen (bestT (byS x))) (hK : K (.v false 1 F (.y n)) bl) : S.call 72 [.s x] bl K := by
  subst hF hn
  exact qdz hS (best_t hx) (.cons .rfl .nil) rfl hK
end
def C0 (s : SV) : SV := s
def C1 (e : Int) (s : SV) : SV := .tp [s, .i .i64 (.y e)]
theorem c0_ctx : Ctx C0 := fun _ _ v d => ⟨v, d, fun _ _ _ d' => d'⟩
def OwnB (C : SV → SV) (L : List Int) (x : SV) (l' : List Blk) : Prop := ∃ (j : Nat) (lit : Bool) (st z : Z) (F' : List SV), Sub x (C (.sl j 1 (.l 0) z none)) ∧ l'[j]? = some (.r false lit st 1 F') ∧ plains F' = true ∧ F'.take (z.v.toNat * 1) = cellsB L ∧ z.v = ilen L
theorem qxz {C : SV → SV} {L : List Int} {l' : List Blk} {j : Nat} {lit : Bool} {st z : Z} {F : List SV} {x : SV} (hx : Sub x (C (.sl j 1 (.l 0) z none))) (hB : l'[j]? = some (.r false lit st 1 F)) (hF : F = cellsB L) (hz : z.v = ilen L) : OwnB C L x l' := by
  refine ⟨j, lit, st, z, F, hx, hB, hF ▸ qad L, ?_, hz⟩
  rw [hF, List.take_of_length_le]
  have := qas L
  unfold ilen at *
  omega
theorem fz_own {L : List Int} {l' : List Blk} {j : Nat} {lit : Bool} {st z : Z} {F' : List SV} (hB : l'[j]? = some (.r false lit st 1 F')) (h : F'.take (z.v.toNat * 1) = cellsB L) (hz : z.v = ilen L) (g : Nat → Nat) : Fz l' g [] (.sl j 1 (.l 0) z none) (.v false 1 (cellsB L) (.y (ilen L))) := by
  refine .row hB rfl (.fsub ?_ (qad L)) (qad L) hz
  rw [show (Z.l 0).v.toNat * 1 = 0 from rfl, List.drop_zero, h]
  exact .rfl
theorem own_eq {C : SV → SV} {g : FuncId} {args : List SV} {L : List Int} (h : (S0 Tryd.prog).call g args [] (OwnB C L)) :
    (S0 Tryd.prog).call g args [] (fun x l' => ∃ (j : Nat) (lit : Bool) (st z : Z) (F' : List SV), x = C (.sl j 1 (.l 0) z none) ∧ l'[j]? = some (.r false lit st 1 F') ∧ plains F' = true ∧ F'.take (z.v.toNat * 1) = cellsB L ∧ z.v = ilen L) :=
  qay h fun x l' ⟨j, lit, st, z, F', hs, hB, h0, h1, h2⟩ => ⟨_, hs, j, lit, st, z, F', rfl, hB, h0, h1, h2⟩
theorem own_t1 {g : FuncId} {args : List SV} {L : List Int} {F : List SV} {n e : Int} (h : (S0 Tryd.prog).call g args [] (OwnB (C1 e) L)) (hF : cellsB L = F) (hn : n = ilen L) : (S0 Tryd.prog).call g args [] (Tell (.tp [.v false 1 F (.y n), .i .i64 (.y e)])) := by
  subst hF hn
  refine qay h fun x l' h => ?_
  obtain ⟨j, lit, st, z, F', hs, hB, _, h1, h2⟩ := h
  refine ⟨_, hs, ?_⟩
  exact fun g => .tp (.cons (fz_own hB h1 h2 g) (.cons (.sub .rfl rfl) .nil))
section
variable {S : Sy} {bl : List Blk} {K : SV → List Blk → Prop} {g : FuncId} {args args' : List SV} {L : List Int} {F : List SV} {n e : Int}
theorem own_u0 (hS : S0 Tryd.prog = S) (h : (S0 Tryd.prog).call g args' [] (OwnB C0 L)) (ha : SubL args args') (hr : refsBL (fun _ => false) args' = true) (hF : cellsB L = F) (hn : n = ilen L)
    (hK : K (.sl (len bl) 1 (.l 0) (.y n) none) (snoc bl (.r false false (.y 0) 1 F))) : S.call g args bl K := by
  subst hF hn
  exact use_one hS c0_ctx (fun l' j m z z' sz h => .keep (i := 0) rfl rfl h) (own_eq h) ha hr (by decide) (qad _) hK
end
theorem idx_o {i : Int} (h0 : 0 ≤ i) (h1 : i < 2147483648) : (S0 Tryd.prog).call 53 [.i .i64 (.y i)] [] (OwnB (C1 0) (idxB i)) := by
  obtain ⟨L, hL⟩ : ∃ L, idxB i = L := ⟨_, rfl⟩
  rw [hL]
  generalize hS : S0 Tryd.prog = S
  refine qac hS I.qpi ?_
  cbv
  refine qac hS I.qed ?_
  cbv
  repeat' (first
    | (refine qbr hS rfl ?_; try cbv)
    | (refine s_ck hS ?_; try cbv)
    | (refine qab hS ?_ ?_ <;> intro h <;> (try cbv) <;> try exact s_ab h)
    | (refine s_ad hS ?_; intro _ _; try cbv)
    | (refine s_sb hS ?_; intro _ _; try cbv)
    | (refine qau hS ?_; intro _ _; try cbv)
    | (refine qae hS ?_; try cbv)
    | (refine qvy hS i 7 128 128 rfl rfl rfl h0 h1 (by decide) (by decide) rfl (by decide) (by decide) fun F2 n2 st hF2 hn2 => ?_; cbv)
    | (refine qbs hS ?_; try cbv)
    | (refine s_lk hS ?_; try cbv)
    | (refine s_mu hS ?_; try cbv)
    | fail)
  exact qxz (z := .y n2) .rfl rfl (hL ▸ hF2.symm) (hL ▸ hn2)
theorem siz_o {i : Int} (h0 : 0 ≤ i) (h1 : i < 2147483648) : (S0 Tryd.prog).call 55 [.i .i64 (.y i)] [] (OwnB (C1 0) (sizB i)) := by
  obtain ⟨L, hL⟩ : ∃ L, sizB i = L := ⟨_, rfl⟩
  rw [hL]
  generalize hS : S0 Tryd.prog = S
  refine qac hS I.qjk ?_
  cbv
  refine qac hS I.qed ?_
  cbv
  repeat' (first
    | (refine qbr hS rfl ?_; try cbv)
    | (refine s_ck hS ?_; try cbv)
    | (refine qab hS ?_ ?_ <;> intro h <;> (try cbv) <;> try exact s_ab h)
    | (refine s_ad hS ?_; intro _ _; try cbv)
    | (refine s_sb hS ?_; intro _ _; try cbv)
    | (refine qau hS ?_; intro _ _; try cbv)
    | (refine qae hS ?_; try cbv)
    | (refine qvy hS i 5 32 32 rfl rfl rfl h0 h1 (by decide) (by decide) rfl (by decide) (by decide) fun F2 n2 st hF2 hn2 => ?_; cbv)
    | (refine qbs hS ?_; try cbv)
    | (refine s_lk hS ?_; try cbv)
    | (refine s_mu hS ?_; try cbv)
    | fail)
  exact qxz (z := .y n2) .rfl rfl (hL ▸ hF2.symm) (hL ▸ hn2)
theorem named_o {i w : Int} {b : List UInt8} (h0 : 0 < i) (h1 : i < 2147483648) (hb : ilen b ≤ 1000000) :
    (S0 Tryd.prog).call 54 [.i .i64 (.y i), .s b, .i .i64 (.y w)] [] (OwnB (C1 0) (nmB i b w)) := by
  obtain ⟨L, hL⟩ : ∃ L, nmB i b w = L := ⟨_, rfl⟩
  rw [hL]
  obtain ⟨B, hB⟩ : ∃ B, cellsB (bestT (byS b)) = B := ⟨_, rfl⟩
  obtain ⟨m, hm⟩ : ∃ m, m = ilen (bestT (byS b)) := ⟨_, rfl⟩
  have hm1 := qzn (byS b)
  rw [← hm, qgr] at hm1
  generalize hS : S0 Tryd.prog = S
  refine qac hS I.qti ?_
  cbv
  refine of_u hS (w := w) rfl fun u k hu hk => ?_
  obtain ⟨u0, u1, k0, k1, hp⟩ := up_bd w
  rw [← hu] at u0 u1
  rw [← hk] at k0 k1 hp
  cbv
  refine qac hS I.qed ?_
  cbv
  repeat' (first
    | (refine qbr hS rfl ?_; try cbv)
    | (refine s_ck hS ?_; try cbv)
    | (refine qab hS ?_ ?_ <;> intro h <;> (try cbv) <;> try exact s_ab h)
    | (refine s_ad hS ?_; intro _ _; try cbv)
    | (refine s_sb hS ?_; intro _ _; try cbv)
    | (refine qau hS ?_; intro _ _; try cbv)
    | (refine qae hS ?_; try cbv)
    | (refine qvy hS i k u (powP w) rfl rfl rfl (by omega) h1 (by omega) (by omega) hp (by omega) (by omega) fun F2 n2 st hF2 hn2 => ?_; cbv)
    | (refine qbs hS ?_; try cbv)
    | (refine s_lk hS ?_; try cbv)
    | (refine s_mu hS ?_; try cbv)
    | fail)
  have hpl := qeb i (powP w) u
  rw [← hn2] at hpl
  have hfl : ilen F2 = n2 := by rw [← hF2, qas, hn2]
  refine best_g hS hb hB hm ?_
  cbv
  repeat' (first
    | (refine qbr hS rfl ?_; try cbv)
    | (refine s_ck hS ?_; try cbv)
    | (refine qab hS ?_ ?_ <;> intro h <;> (try cbv) <;> try exact s_ab h)
    | (refine s_ad hS ?_; intro _ _; try cbv)
    | (refine s_sb hS ?_; intro _ _; try cbv)
    | (refine qau hS ?_; intro _ _; try cbv)
    | (refine qae hS ?_; try cbv)
    | (refine qbs hS ?_; try cbv)
    | (refine s_lk hS ?_; try cbv)
    | (refine s_mu hS ?_; try cbv)
    | fail)
  have e1 : S.app F2 B = cellsB L := by rw [← hL]; unfold nmB; rw [← hu]; exact qcn hS hF2.symm hB.symm
  have e2 : S.pl n2 m = ilen L := by rw [← hL]; unfold nmB; rw [← hu, qar, ← hn2, ← hm]; subst hS; rfl
  exact qxz (z := .y (S.pl n2 m)) (qaw (.cons .rfl (.cons (qag rfl) .nil))) rfl e1 e2
theorem qor {S : Sy} {a b : Int} {k : Unit → Prop} (hS : S0 Tryd.prog = S) (e : a = b) (h : k ()) : S.chk (S.cmp .eq a b) k := qxg hS (by subst hS; rw [qwq]; exact decide_eq_true e) h
theorem fld_o {w : Int} {a b : List UInt8} (hab : ilen a + ilen b ≤ 60000) :
    (S0 Tryd.prog).call 52 [.ag [.s a, .s b], .i .i64 (.y w)] [] (OwnB C0 (fldB (a, b) w)) := by
  obtain ⟨L, hL⟩ : ∃ L, fldB (a, b) w = L := ⟨_, rfl⟩
  rw [hL]
  have h0a := qaf a
  have h0b := qaf b
  have ha : ilen a ≤ 1000000 := by omega
  have hb : ilen b ≤ 1000000 := by omega
  obtain ⟨A, hA⟩ : ∃ B, cellsB (bestT (byS a)) = B := ⟨_, rfl⟩
  obtain ⟨ma, hma⟩ : ∃ m, m = ilen (bestT (byS a)) := ⟨_, rfl⟩
  have hm0 := qzn (byS a)
  rw [← hma, qgr] at hm0
  obtain ⟨B, hB⟩ : ∃ B, cellsB (bestT (byS b)) = B := ⟨_, rfl⟩
  obtain ⟨m, hm⟩ : ∃ m, m = ilen (bestT (byS b)) := ⟨_, rfl⟩
  have hm1 := qzn (byS b)
  rw [← hm, qgr] at hm1
  generalize hS : S0 Tryd.prog = S
  refine qac hS I.qtj ?_
  cbv
  refine of_u hS (w := w) rfl fun u k hu hk => ?_
  obtain ⟨u0, u1, k0, k1, hp⟩ := up_bd w
  rw [← hu] at u0 u1
  rw [← hk] at k0 k1 hp
  cbv
  refine qac hS I.qed ?_
  cbv
  repeat' (first
    | (refine qbr hS rfl ?_; try cbv)
    | (refine s_ck hS ?_; try cbv)
    | (refine qab hS ?_ ?_ <;> intro h <;> (try cbv) <;> try exact s_ab h)
    | (refine s_ad hS ?_; intro _ _; try cbv)
    | (refine s_sb hS ?_; intro _ _; try cbv)
    | (refine qau hS ?_; intro _ _; try cbv)
    | (refine qae hS ?_; try cbv)
    | (refine qvy hS 0 k u (powP w) rfl rfl rfl (by omega) (by omega) (by omega) (by omega) hp (by omega) (by omega) fun F2 n2 st hF2 hn2 => ?_; cbv)
    | (refine qbs hS ?_; try cbv)
    | (refine s_lk hS ?_; try cbv)
    | (refine s_mu hS ?_; try cbv)
    | fail)
  have hpl := qeb 0 (powP w) u
  rw [← hn2] at hpl
  have hfl : ilen F2 = n2 := by rw [← hF2, qas, hn2]
  have hal : ilen A = ma := by rw [← hA, qas, hma]
  have hbl : ilen B = m := by rw [← hB, qas, hm]
  have hs1 : S.app [] (S.sub F2 0 n2 1) = F2 := by rw [qru hS hF2 hn2, qcq hS]
  have c1 : S.sc (S.pl 0 n2) 1 = S.flen (S.app [] (S.sub F2 0 n2 1)) := by rw [hs1]; subst hS; show (0 + n2) * 1 = ilen F2; omega
  have c2 : S.sc (S.pl (S.pl 0 n2) ma) 1 = S.flen (S.app (S.app [] (S.sub F2 0 n2 1)) A) := by rw [hs1]; subst hS; show (0 + n2 + ma) * 1 = ilen (F2 ++ A); rw [qar]; omega
  refine qam hS rfl I.qnk (by decide +kernel) ?_
  cbv
  refine best_g hS ha hA hma ?_
  cbv
  refine best_g hS hb hB hm ?_
  cbv
  repeat' (first
    | (refine qbr hS rfl ?_; try cbv)
    | (refine s_ck hS ?_; try cbv)
    | (refine qab hS ?_ ?_ <;> intro h <;> (try cbv) <;> try exact s_ab h)
    | (refine s_ad hS ?_; intro _ _; try cbv)
    | (refine s_sb hS ?_; intro _ _; try cbv)
    | (refine qau hS ?_; intro _ _; try cbv)
    | (refine qae hS ?_; try cbv)
    | (refine qbs hS ?_; try cbv)
    | (refine s_lk hS ?_; try cbv)
    | (refine s_mu hS ?_; try cbv)
    | fail)
  refine qac hS I.qez ?_
  cbv
  repeat' (first
    | (refine qbr hS rfl ?_; try cbv)
    | (refine s_ck hS ?_; try cbv)
    | (refine qab hS ?_ ?_ <;> intro h <;> (try cbv) <;> try exact s_ab h)
    | (refine s_ad hS ?_; intro _ _; try cbv)
    | (refine s_sb hS ?_; intro _ _; try cbv)
    | (refine qau hS ?_; intro _ _; try cbv)
    | (refine qae hS ?_; try cbv)
    | (refine qor hS c1 ?_; cbv)
    | (refine qor hS c2 ?_; cbv)
    | (refine qah hS ?_; cbv)
    | (refine grow_u hS (by simp only [Z.v]; omega) (by simp only [Z.v]; omega) ?_; cbv)
    | (refine qbs hS ?_; try cbv)
    | (refine s_lk hS ?_; try cbv)
    | (refine s_mu hS ?_; try cbv)
    | fail)
  have e1 : S.app (S.app (S.app [] (S.sub F2 0 n2 1)) A) B = cellsB L := by
    rw [← hL]; rw [hs1, qcn hS hF2.symm hA.symm, qcn hS rfl hB.symm]; unfold fldB; rw [← hu]
  have e2 : S.pl (S.pl (S.pl 0 n2) ma) m = ilen L := by
    rw [← hL]; unfold fldB; rw [← hu, qar, qar, ← hn2, ← hm, ← hma]; subst hS; show 0 + n2 + ma + m = _; omega
  exact qxz (z := .y (S.pl (S.pl (S.pl 0 n2) ma) m)) .rfl rfl e1 e2
theorem pput_e {n k up : Int} (hn0 : n < 0 ∨ 2147483648 ≤ n) (l0 : -9223372036854775808 ≤ n) (u0 : n ≤ 9223372036854775807) (hk1 : 1 ≤ k) (hk8 : k ≤ 8) :
    (S0 Tryd.prog).call 85 [.i .i64 (.y n), .i .i64 (.y k), .i .u8 (.y up)] [] (fun x _ => Sub x (.tp [.re (.slice none 0 0), .i .i64 (.y 2)])) := by
  generalize hS : S0 Tryd.prog = S
  refine qac hS I.qnu ?_
  cbv
  repeat' (first
    | (refine qbr hS rfl ?_; try cbv)
    | (refine s_ck hS ?_; try cbv)
    | (refine qab hS ?_ ?_ <;> intro h <;> (try cbv) <;> try exact s_ab h)
    | (refine s_ad hS ?_; intro _ _; try cbv)
    | (refine s_sb hS ?_; intro _ _; try cbv)
    | (refine qau hS ?_; intro _ _; try cbv)
    | (refine qae hS ?_; try cbv)
    | (refine qac hS I.qfo ?_; cbv)
    | (refine qbx hS (c := 2147483648) rfl ?_; intro _ _; cbv)
    | (refine qbs hS ?_; try cbv)
    | (refine s_lk hS ?_; try cbv)
    | (refine s_mu hS ?_; try cbv)
    | fail)
  all_goals first
    | (exfalso; omega)
    | exact qaw (.cons .rfl (.cons (qag rfl) .nil))
end Pa
end Cz
namespace Cz
open Go Go.RowKit
section
variable {P : Program} {l : List Blk}
theorem Rel.reblk {N : Nat → Prop} {W0 W : World} {ρ : Nms} (hR : Rel P N W0 ρ l W) {k : Nat} {cs cs' : List SV} (hB : l[k]? = some (.c cs)) (hlen : cs'.length = cs.length)
    (hd : ∀ (q : Nat) (x' : SV), cs'[q]? = some x' → ∃ x, cs[q]? = some x ∧ ∀ v, den ρ x v → den ρ x' v) : Rel P N W0 ρ (l.set k (.c cs')) W := by
  have hk := (List.getElem?_eq_some_iff.1 hB).1
  have hat : ∀ (j : Nat) (B : Blk), (l.set k (.c cs'))[j]? = some B → B.wr = true → ∃ B0, l[j]? = some B0 ∧ B0.wr = true := by
    intro j B h hw
    by_cases e : j = k
    · subst e; exact ⟨_, hB, rfl⟩
    · rw [List.getElem?_set_ne (fun h => e h.symm)] at h; exact ⟨B, h, hw⟩
  refine ⟨hR.below, hR.le, fun j hj => hR.out j (by simpa using hj), hR.ids, fun j B h => ?_, fun j j' B vw vw' a a' h hw hne hv hv' ha ha' => ?_, fun j B vw a h hw hv ha => ?_, hR.qN, hR.fin, fun j B vw a h hw hv ha => ?_⟩
  · by_cases e : j = k
    · subst e
      rw [List.getElem?_set_self hk] at h
      simp only [Option.some.injEq] at h; subst h
      obtain ⟨b, h1, h2, h3⟩ := hR.blk j _ hB
      refine ⟨b, by rw [h1, hlen], ?_, by rw [hlen]; exact h3⟩
      refine ⟨by rw [hlen]; exact h2.1, fun hb => by (cases hb), fun q x' hq hx' => ?_⟩
      obtain ⟨x, hx, hdx⟩ := hd q x' hx'
      obtain ⟨a, v, g1, g2, g3⟩ := h2.2.2 q x (by simpa [hlen] using hq) hx
      exact ⟨a, v, g1, g2, hdx v g3⟩
    · rw [List.getElem?_set_ne (fun h => e h.symm)] at h
      exact hR.blk j B h
  · obtain ⟨B0, g1, g2⟩ := hat j B h hw
    exact hR.sep j j' B0 vw vw' a a' g1 g2 hne hv hv' ha ha'
  · obtain ⟨B0, g1, g2⟩ := hat j B h hw
    exact hR.own j B0 vw a g1 g2 hv ha
  · obtain ⟨B0, g1, g2⟩ := hat j B h hw
    exact hR.fsep j B0 vw a g1 g2 hv ha
theorem qzadd {S : Sy} (hS : S0 P = S) (k q sz : Nat) {cs : List SV} {cx : Cx} {b : IR} {K : VK} {e : Env} (hsz : 0 < sz) (hB : lget l k = .c cs) (hq : nth cs q = .re (.slice none 0 0))
    (h : S.loop cx b e (snoc (lset l k (.c (put cs q (nilRow l sz)))) (.r false true (.l 0) sz [])) K) : S.loop cx b e l K := by
  subst hS
  have hB' := qav hB (by simp)
  have hk := (List.getElem?_eq_some_iff.1 hB').1
  rw [qbt, qci] at h
  intro c kl hc N W0 ρ rr a W hs hr hm
  have hle : Le l.length ρ (upd ρ l.length [⟨none, 0, 0⟩]) := qen (Nat.le_refl _)
  have hE : EnvOk (upd ρ l.length [⟨none, 0, 0⟩]) e.vs a.tmps := hs.env.le hle hs.rel.out
  have hM : MkOk (upd ρ l.length [⟨none, 0, 0⟩]) e.mks a.defers := MkOk.le hle hs.rel.out _ _ hs.mks
  have hG := hs.rel.ghost false hsz
  have hR := hG.reblk (k := k) (cs := cs) (cs' := put cs q (nilRow l sz)) (by rw [List.getElem?_append_left hk]; exact hB') (by rw [qdd, List.length_set]) (by
    intro j x' hx'
    by_cases hj : j = q
    · subst hj
      have hlt : j < cs.length := by have := (List.getElem?_eq_some_iff.1 hx').1; rw [qdd, List.length_set] at this; exact this
      rw [qdd, List.getElem?_set_self hlt] at hx'
      simp only [Option.some.injEq] at hx'; subst hx'
      refine ⟨_, List.getElem?_eq_getElem hlt, fun v hd => ?_⟩
      have : cs[j] = .re (.slice none 0 0) := by rw [qdw, List.getD_eq_getElem?_getD, List.getElem?_eq_getElem hlt] at hq; exact hq
      rw [this] at hd
      simp only [den] at hd
      rw [hd.1]; exact qkk (by rw [qak]; simp)
    · rw [qdd, List.getElem?_set_ne (fun e => hj e.symm)] at hx'
      exact ⟨x', hx', fun _ h => h⟩)
  rw [List.set_append_left _ _ hk] at hR
  exact Wp.mono (h c kl hc N W0 _ rr a W ⟨hR, hE, hM⟩ (hr.le (qen hm)) (by simp; omega)) fun _ _ _ q => q.le (qen hm)
end
theorem s_qA {p : Prop} (h : p := by repeat' (first | exact trivial | exact SubB.rfl | exact Sub.rfl | refine And.intro ?_ ?_ | (exact SubB.c (by with_reducible assumption)) | refine SubB.c ?_ | exact SubB.r .rfl rfl rfl | exact SubB.r .rfl rfl (by assumption) | exact SubM.nil | refine SubM.cons ?_ ?_ ?_ | refine SubB.m ?_ | exact qdt | exact SubL.nil | refine SubL.cons ?_ ?_ | exact qag rfl | refine qaw ?_ | refine qdn ?_ | exact qcz rfl rfl | exact qbe rfl rfl | exact qlc rfl | exact qcl rfl | exact qfd rfl | exact qea rfl | (refine qag ?_; simp only [Z.v]; omega) | (refine qwz ?_; assumption) | (refine qlc ?_; assumption) | (refine qcl ?_; assumption))) : p := h
end Cz
namespace Cz
open Go Go.RowKit Go.Proofs
namespace Pa
theorem qzabw {l' : List Blk} {g : Nat → Nat} {ks : List (Option Nat)} : ∀ {vs : List SV}, refsBL (fun _ => false) vs = true → FzL l' g ks vs vs
  | [], _ => .nil
  | x :: xs, h => by
    simp only [refsBL, Bool.and_eq_true] at h
    exact .cons (.sub .rfl h.1) (qzabw h.2)
theorem fzL_mid {l' : List Blk} {g : Nat → Nat} {ks : List (Option Nat)} {y y' : SV} {vs : List SV} (hy : Fz l' g ks y y') (hv : refsBL (fun _ => false) vs = true) : ∀ {pre : List SV}, refsBL (fun _ => false) pre = true → FzL l' g ks (pre ++ y :: vs) (pre ++ y' :: vs)
  | [], _ => .cons hy (qzabw hv)
  | x :: xs, h => by
    simp only [refsBL, Bool.and_eq_true] at h
    exact .cons (.sub .rfl h.1) (fzL_mid hy hv h.2)
theorem qzaag {g : FuncId} {rest : List SV} {b : List Int} {F : List SV} {pre vs : List SV} {n : Int} (h : (S0 Tryd.prog).call g (.sl 0 1 (.l 0) (.y (ilen b)) none :: rest) [.r true true (.l 0) 1 (cellsB b)] (OwnP 1 1 F pre vs)) (hpl : plains F = true) (hn : n * 1 = F.length)
    (hr : refsBL (fun _ => false) rest = true) (hpre : refsBL (fun _ => false) pre = true) (hvs : refsBL (fun _ => false) vs = true) : (S0 Tryd.prog).call g (.v false 1 (cellsB b) (.y (ilen b)) :: rest) [] (Tell (mkP pre vs (.v false 1 F (.y n)))) := by
  refine s_thaw rfl 0 (args := .v false 1 (cellsB b) (.y (ilen b)) :: rest) (lit := false) (sz := 1) (F := cellsB b) (n := .y (ilen b)) rfl (by simp only [refsBL, refsB, Bool.true_and]; exact qbu (fun _ h => by cases h) _ hr) ?_
  show (S0 Tryd.prog).call g (.sl 0 1 (.l 0) (.y (ilen b)) none :: rest) [.r true false (.l 0) 1 (cellsB b)] _
  have h2 : (S0 Tryd.prog).call g (.sl 0 1 (.l 0) (.y (ilen b)) none :: rest) [.r true false (.l 0) 1 (cellsB b)] (OwnP 1 1 F pre vs) := by
    intro N W0 ρ W vals hR hd
    exact h N W0 ρ W vals (hR.sub rfl fun k B' hB => by
      cases k with
      | zero => simp only [List.getElem?_cons_zero, Option.some.injEq] at hB; subst hB; exact ⟨_, rfl, .r .rfl rfl (qad b)⟩
      | succ k => simp at hB) hd
  refine qay h2 fun x l' ⟨y, hs, hy⟩ => ⟨_, hs, fun g => ?_⟩
  have hy2 : Fz l' g [] y (.v false 1 F (.y n)) := by
    rcases hy with ⟨rfl, hF⟩ | ⟨k, m, lit, st, F', _, rfl, hB, hsub, hp', hm⟩
    · subst hF
      exact .nil (by decide) (by simp only [Z.v]; simpa using hn)
    · refine .row hB rfl (.fsub ?_ hpl) hpl (show m.v = n by omega)
      rw [show (Z.l 0).v.toNat * 1 = 0 from rfl, List.drop_zero, List.take_of_length_le]
      · exact hsub
      · have := hsub.1; omega
  unfold mkP
  rw [qdo, qdo]
  exact .tp (fzL_mid hy2 hvs hpre)
section
variable {S : Sy} {bl : List Blk} {K : SV → List Blk → Prop} {b R : List Int} {N e n kk p : Int} {F : List SV} {x : SV}
theorem qiy (hS : S0 Tryd.prog = S) (kk p : Int) {zk : Z} (hzk : zk.v = kk) (hx : Sub x (.v false 1 (cellsB b) (.y (ilen b)))) (hb : Hu.BOk b) (hl : ilen b ≤ 1000000) (hk1 : 1 ≤ kk) (hk8 : kk ≤ 8) (hp : 2 ^ kk.toNat = p) (hN : preN b p = N) (hE : preE b p = e) (hR : preR b p = R) (hF : cellsB R = F) (hn : n = ilen R)
    (hK : K (.tp [.i .i64 (.y N), .v false 1 F (.y n), .i .i64 (.y e)]) bl) : S.call 96 [x, .i .i64 zk] bl K := by
  subst hN hE hR hF hn
  exact qdz hS (qzaag (ptake_f hb hl hk1 hk8 hp) (qad _) (qee _) rfl rfl rfl) (.cons hx (.cons (qag hzk) .nil)) rfl hK
theorem qwx (hS : S0 Tryd.prog = S) {t : List UInt8} (hx : Sub x (.v false 1 (cellsB b) (.y (ilen b)))) (hb : Hu.BOk b) (hl : ilen b ≤ 1000000) (ht : strB (tS b) = t) (hE : tE b = e) (hR : tR b = R) (hF : cellsB R = F) (hn : n = ilen R)
    (hK : K (.tp [.s t, .v false 1 F (.y n), .i .i64 (.y e)]) bl) : S.call 111 [x] bl K := by
  subst ht hE hR hF hn
  exact qdz hS (qzaag (ttake_f hb hl) (qad _) (qee _) rfl rfl rfl) (.cons hx .nil) rfl hK
end
end Pa
end Cz
namespace Cz
open Go Go.RowKit Go.Proofs
namespace Pa
open Tb
theorem takeL_len {d : List Int} (hd : Hu.BOk d) : ilen (takeL d) ≤ 8 * ilen d := by
  have h0 := qaf d
  have htd : (takeE d = 0 ∧ Hu.put (takeL d) = d ∧ Hu.BOk (takeL d)) ∨ (takeE d = 70 ∧ takeL d = []) := by
    cases ht : Hu.take d with
    | some o =>
      obtain ⟨h1, h2⟩ := Hu.put_take hd ht
      refine .inl ?_
      unfold takeL takeE; rw [ht]; exact ⟨rfl, h1, h2⟩
    | none => refine .inr ?_; unfold takeL takeE; rw [ht]; exact ⟨rfl, rfl⟩
  rcases htd with ⟨_, h1, h2⟩ | ⟨_, h1⟩
  · have h3 := put_il2 (takeL d)
    rw [h1] at h3
    have h4 : 5 * ilen (takeL d) ≤ bitsI (takeL d) (ilen (takeL d)) := by
      rw [show bitsI (takeL d) (ilen (takeL d)) = Hu.nbits (takeL d) by unfold bitsI; rw [qcb (by omega)]]
      unfold Hu.nbits Hu.enc
      generalize takeL d = l
      induction l with
      | nil => simp [ilen]
      | cons v l ih =>
        have := qzi v
        unfold clsI at this
        unfold ilen at ih ⊢
        simp only [List.flatMap_cons, List.length_append, List.length_cons, Hu.cod, Hu.qbh] at ih ⊢
        omega
    omega
  · rw [h1, qke]; omega
theorem tS_len {b : List Int} (hb : Hu.BOk b) : ilen (tS b) ≤ 8 * ilen b := by
  have h0 := qaf b
  have hR := qgd (b := b) (p := 128)
  have hp : ∀ n, ilen (part (preR b 128) 0 n) ≤ ilen b := by
    intro n
    unfold part ilen at *
    rw [List.length_take, List.length_drop]; omega
  unfold tS tTake
  split
  · rw [qke]; omega
  · split
    · rw [qke]; omega
    · split
      · have := hp (preN b 128); dsimp only; omega
      · split
        · have h1 := takeL_len (qro (o := 0) (n := preN b 128) (qds (p := 128) hb))
          have := hp (preN b 128); dsimp only; omega
        · rw [qke]; omega
theorem qxb (b : List Int) : ilen (strB b) = ilen b := by unfold strB ilen; rw [List.length_map]
theorem at_len {l : List Fd} {i m : Int} (hl : fullL l ≤ m) (hm : 100 ≤ m) : szF (atR l i).1 ≤ m := by
  unfold atR
  split
  · show szF ([], []) ≤ m
    simp [szF, ilen]; omega
  · split
    · rename_i f hf
      unfold allF at hf
      rcases Nat.lt_or_ge (i - 1).toNat stL.length with h | h
      · rw [List.getElem?_append_left h] at hf
        have hall : ∀ f ∈ stL, szF f ≤ 100 := by decide
        have := hall f (List.mem_of_getElem? hf)
        show szF f ≤ m
        omega
      · rw [List.getElem?_append_right h] at hf
        have := qtf hf
        show szF f ≤ m
        omega
    · show szF ([], []) ≤ m
      simp [szF, ilen]; omega
theorem lit_len {l : List Fd} {a : Bool} {i : Int} {b : List Int} (hb : Hu.BOk b) (hl : fullL l ≤ 4096) : szF (litU l a i b).f ≤ 16 * ilen b + 5000 := by
  have h0 := qaf b
  obtain ⟨g1, g2, g3⟩ := tT_ok hb
  have h1 := tS_len hb
  have h2 := tS_len g2
  have h3 : szF (atR l i).1 ≤ 4096 := at_len hl (by decide)
  have hz : szF (nxE 0).f = 32 := rfl
  have h4 := qaf (atR l i).1.1
  have h5 := qaf (atR l i).1.2
  unfold szF at h3
  unfold litU
  split
  · split
    · show szF ([], []) ≤ _; simp [szF, ilen]; unfold ilen at h0; omega
    · split
      · show szF ([], []) ≤ _; simp [szF, ilen]; unfold ilen at h0; omega
      · unfold szF; dsimp only; rw [qxb]; omega
  · split
    · show szF ([], []) ≤ _; simp [szF, ilen]; unfold ilen at h0; omega
    · split
      · show szF ([], []) ≤ _; simp [szF, ilen]; unfold ilen at h0; omega
      · unfold szF; dsimp only; rw [qxb, qxb]; omega
theorem nxt_len {l : List Fd} {b : List Int} (hb : Hu.BOk b) (hl : fullL l ≤ 4096) : szF (nxtU l b).f ≤ 16 * ilen b + 5000 := by
  have h0 := qaf b
  have hlt := qgd (b := b) (p := powU (b.getD 0 0))
  have hok := qds (p := powU (b.getD 0 0)) hb
  have hz : ∀ e, szF (nxE e).f ≤ 16 * ilen b + 5000 := fun e => by show szF ([], []) ≤ _; simp [szF, ilen]; unfold ilen at h0; omega
  have ha : szF (atR l (preN b (powU (b.getD 0 0)))).1 ≤ 4096 := at_len hl (by decide)
  have hL := fun a => lit_len (l := l) (a := a) (i := preN b (powU (b.getD 0 0))) hok hl
  unfold nxtU
  split
  · exact hz _
  · unfold nxtC
    split
    · split
      · exact hz _
      · show szF (atR l _).1 ≤ _; omega
    · split
      · have := hL true; omega
      · split
        · exact hz 0
        · have := hL false; omega
theorem pgo_lt {b : List Int} : ∀ (f : Nat) (a n : Int), (pgo b f a n).1 < 2147483648
  | 0, a, n => by simp [pgo]
  | f + 1, a, n => by
    rw [pgo]
    split
    · simp
    · split
      · simp
      · split
        · dsimp only; omega
        · exact pgo_lt f _ _
theorem qxu {b : List Int} {p : Int} (hp : 1 ≤ p) (hp1 : p ≤ 256) : preN b p < 2147483648 := by
  unfold preN preI
  split
  · simp
  · split
    · dsimp only; omega
    · exact pgo_lt _ _ _
theorem step_e {most : Int} {s : Un} {x : Nx} (h : x.e ≠ 0) : stepU most s x = (x.e, s) := by unfold stepU; rw [if_pos h]
theorem qzaam {most : Int} {s : Un} {x : Nx} (h : x.e = 0) (h2 : x.sized = false) : stepU most s x = (0, tellU s x) := by unfold stepU; rw [if_neg (by simpa using h), if_neg (by simp [h2])]
theorem qrw {most : Int} {s : Un} {x : Nx} (h : x.e = 0) (h2 : x.sized = true) : stepU most s x = if 0 < s.size ∨ most < x.size then (100, s) else (0, ⟨x.rest, x.size, evL x.size s.l, s.out, s.size⟩) := by unfold stepU; rw [if_neg (by simpa using h), if_pos h2]
theorem go_E {most e : Int} {s t : Un} {x : Nx} (hx : nxtU s.l s.b = x) (hb : s.b ≠ []) (hg : goU most s = (e, t)) (h : (stepU most s x).1 ≠ 0) : e = (stepU most s x).1 := by
  subst hx
  rw [qqd hb h] at hg
  rw [hg]
theorem go_S {most e : Int} {s t u : Un} {x : Nx} (hx : nxtU s.l s.b = x) (hok : Hu.BOk s.b) (hb : s.b ≠ []) (hg : goU most s = (e, t)) (h : stepU most s x = (0, u)) : goU most u = (e, t) := by
  subst hx
  have h1 : (stepU most s (nxtU s.l s.b)).1 = 0 := by rw [h]
  rw [qjj hok hb h1, h] at hg
  exact hg
structure UnOk (B : Int) (s : Un) : Prop where
  b : Hu.BOk s.b
  len : ilen s.b ≤ 60000
  right : rightL s.mx s.l = true
  s0 : 0 ≤ s.size
  size : s.size + 17000000 * ilen s.b ≤ B
  o1 : fullL s.out ≤ s.size
  o2 : fullL s.out ≤ 2000
theorem qzadj {B : Int} {s : Un} {x : Nx} (h : UnOk B s) (hx : nxtU s.l s.b = x) (he : x.e = 0) : Hu.BOk x.rest ∧ ilen x.rest < ilen s.b := by
  subst hx; exact qwc h.b he
theorem ok_tell {B : Int} {s : Un} {x : Nx} (h : UnOk B s) (hx : nxtU s.l s.b = x) (he : x.e = 0) : UnOk B (tellU s x) := by
  obtain ⟨h1, h2⟩ := qzadj h hx he
  have hr := of_decide_eq_true h.right
  have hl := nxt_len (l := s.l) h.b (by omega)
  rw [hx] at hl
  have hp := qeu x.f
  have hn := h.len
  have hs := h.size
  have hs0 := h.s0
  have ho1 := h.o1
  have ho2 := h.o2
  refine ⟨h1, by dsimp only [tellU]; omega, ?_, by dsimp only [tellU]; omega, by dsimp only [tellU]; omega, ?_, ?_⟩
  · dsimp only [tellU]
    split
    · exact decide_eq_true ⟨hr.1, hr.2.1, qtr hr.1⟩
    · exact h.right
  · dsimp only [tellU]
    split
    · omega
    · rw [qes]; simp only [fullL]; omega
  · dsimp only [tellU]
    split
    · omega
    · rw [qes]; simp only [fullL]; omega
theorem ok_size {B most : Int} {s : Un} {x : Nx} (h : UnOk B s) (hx : nxtU s.l s.b = x) (he : x.e = 0) (hm : most ≤ 4096) (h0 : 0 ≤ x.size) (h1 : x.size ≤ most) : UnOk B ⟨x.rest, x.size, evL x.size s.l, s.out, s.size⟩ := by
  obtain ⟨g1, g2⟩ := qzadj h hx he
  have hn := h.len
  have hs := h.size
  exact ⟨g1, by dsimp only; omega, decide_eq_true ⟨h0, by dsimp only; omega, qtr h0⟩, h.s0, by dsimp only; omega, h.o1, h.o2⟩
end Pa
end Cz
namespace Cz
open Go Go.RowKit Go.Proofs
namespace Pa
open Tb
structure Wx where
  f : Fd
  sized : Bool
  added : Bool
  size : Int
  rest : List Int
  e : Int
def valW (l : List Fd) (i : Int) (b : List Int) : Fd × List Int × Int :=
  if 0 < i then (if (atR l i).2 ≠ 0 then ((atR l i).1, b, (atR l i).2) else (((atR l i).1.1, strB (tS b)), tR b, tE b))
  else if tE b ≠ 0 then ((strB (tS b), []), tR b, tE b) else ((strB (tS b), strB (tS (tR b))), tR (tR b), tE (tR b))
def nextW (l : List Fd) (b : List Int) : Wx :=
  if preE b (powU (b.getD 0 0)) ≠ 0 then ⟨([], []), false, false, 0, [], preE b (powU (b.getD 0 0))⟩
  else if powU (b.getD 0 0) = 128 then ⟨(atR l (preN b 128)).1, false, false, 0, preR b 128, (atR l (preN b 128)).2⟩
  else if powU (b.getD 0 0) = 32 then ⟨([], []), true, false, preN b 32, preR b 32, 0⟩
  else ⟨(valW l (preN b (powU (b.getD 0 0))) (preR b (powU (b.getD 0 0)))).1, false, decide (powU (b.getD 0 0) = 64), 0, (valW l (preN b (powU (b.getD 0 0))) (preR b (powU (b.getD 0 0)))).2.1, (valW l (preN b (powU (b.getD 0 0))) (preR b (powU (b.getD 0 0)))).2.2⟩
theorem val_lit (l : List Fd) (a : Bool) (i : Int) (b : List Int) : (litU l a i b).e = (valW l i b).2.2 ∧ ((valW l i b).2.2 = 0 → litU l a i b = ⟨0, false, a, 0, (valW l i b).1, (valW l i b).2.1⟩) := by
  unfold litU valW
  split
  · split
    · rename_i h; exact ⟨rfl, fun h1 => absurd h1 h⟩
    · split
      · rename_i h; exact ⟨rfl, fun h1 => absurd h1 h⟩
      · rename_i h; exact ⟨(show (0 : Int) = tE b by omega), fun _ => rfl⟩
  · split
    · rename_i h; exact ⟨rfl, fun h1 => absurd h1 h⟩
    · split
      · rename_i h; exact ⟨rfl, fun h1 => absurd h1 h⟩
      · rename_i h; exact ⟨(show (0 : Int) = tE (tR b) by omega), fun _ => rfl⟩
theorem next_nxt (l : List Fd) (b : List Int) : (nxtU l b).e = (nextW l b).e ∧ ((nextW l b).e = 0 → nxtU l b = ⟨0, (nextW l b).sized, (nextW l b).added, (nextW l b).size, (nextW l b).f, (nextW l b).rest⟩) := by
  unfold nxtU nextW
  obtain ⟨c, hc⟩ : ∃ c, b.getD 0 0 = c := ⟨_, rfl⟩
  rw [hc]
  split
  · rename_i h; exact ⟨rfl, fun h1 => absurd h1 h⟩
  · unfold nxtC
    by_cases h7 : 128 ≤ c
    · have e : powU c = 128 := by unfold powU; rw [if_pos h7]
      rw [if_pos h7, e, if_pos rfl]
      split
      · rename_i h; exact ⟨rfl, fun h1 => absurd h1 h⟩
      · rename_i h; exact ⟨(show (0 : Int) = (atR l (preN b 128)).2 by omega), fun _ => rfl⟩
    · rw [if_neg h7]
      by_cases h6 : 64 ≤ c
      · have e : powU c = 64 := by unfold powU; rw [if_neg h7, if_pos h6]
        rw [if_pos h6, e, if_neg (by decide), if_neg (by decide)]
        exact val_lit l true (preN b 64) (preR b 64)
      · rw [if_neg h6]
        by_cases h5 : 32 ≤ c
        · have e : powU c = 32 := by unfold powU; rw [if_neg h7, if_neg h6, if_pos h5]
          rw [if_pos h5, e, if_neg (by decide), if_pos rfl]
          exact ⟨rfl, fun _ => rfl⟩
        · have e : powU c = 16 := by unfold powU; rw [if_neg h7, if_neg h6, if_neg h5]
          rw [if_neg h5, e, if_neg (by decide), if_neg (by decide)]
          exact val_lit l false (preN b 16) (preR b 16)
end Pa
end Cz
