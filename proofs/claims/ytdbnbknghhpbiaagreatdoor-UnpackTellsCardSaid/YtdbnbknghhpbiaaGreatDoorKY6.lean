/- What the claims of this group lean on, part 6: our engine, the functions' simplified codes, their contracts. No condition. -/
import Derived.Test.YtdbnbknghhpbiaaGreatDoorKY5
set_option linter.unusedSimpArgs false
set_option linter.unusedVariables false
set_option maxRecDepth 100000
set_option maxHeartbeats 4000000
namespace Cz
open Go Go.RowKit Go.Proofs
def bitI (b : List Int) (i : Int) : Int := ((Hu.bl b).getD i.toNat false).toNat
def numI (b : List Int) (i k : Int) : Int := Hu.valB (((Hu.bl b).drop i.toNat).take k.toNat)
theorem bitI_bd (b : List Int) (i : Int) : 0 ≤ bitI b i ∧ bitI b i ≤ 1 := by
  unfold bitI
  cases (Hu.bl b).getD i.toNat false <;> decide
theorem qwi (b : List Int) (i : Int) : numI b i 0 = 0 := rfl
theorem qzaet {b : List Int} {i k : Int} (h0 : 0 ≤ i) (h1 : 0 ≤ k) (h2 : i + k < 8 * ilen b) : numI b i (k + 1) = 2 * numI b i k + bitI b (i + k) := by
  unfold numI bitI
  rw [show (k + 1).toNat = k.toNat + 1 by omega, List.take_add_one]
  have hlt : i.toNat + k.toNat < (Hu.bl b).length := by rw [Hu.qzaax]; unfold ilen at h2; omega
  rw [List.getElem?_drop, List.getElem?_eq_getElem hlt, Option.toList_some, Hu.qvi]
  rw [List.getD_eq_getElem?_getD, show (i + k).toNat = i.toNat + k.toNat by omega, List.getElem?_eq_getElem hlt]
  simp
theorem numI_bd {b : List Int} {i k : Int} (h : k ≤ 30) : 0 ≤ numI b i k ∧ numI b i k < 1073741824 := by
  unfold numI
  have h1 := Hu.qkl (((Hu.bl b).drop i.toNat).take k.toNat)
  have h2 : 2 ^ (((Hu.bl b).drop i.toNat).take k.toNat).length ≤ 2 ^ 30 := Nat.pow_le_pow_right (by omega) (by rw [List.length_take]; omega)
  omega
theorem qyd : ∀ {m n i : Nat}, i < m → (Hu.bitsN m n)[i]? = some (n / 2 ^ (m - 1 - i) % 2 == 1)
  | m + 1, n, i, h => by
    simp only [Hu.bitsN]
    rcases Nat.lt_or_ge i m with hi | hi
    · rw [List.getElem?_append_left (by rw [Hu.qbg]; exact hi), qyd hi, Nat.div_div_eq_div_mul, ← Nat.pow_succ', show m + 1 - 1 - i = (m - 1 - i).succ by omega]
    · obtain rfl : i = m := by omega
      rw [List.getElem?_append_right (by rw [Hu.qbg]; omega), Hu.qbg]
      simp
theorem bl_get {b : List Int} {q j : Nat} {v : Int} (h : b[q]? = some v) (hj : j < 8) : (Hu.bl b)[q * 8 + j]? = (Hu.bitsN 8 v.toNat)[j]? := by
  induction b generalizing q with
  | nil => simp at h
  | cons u b ih =>
    cases q with
    | zero =>
      simp only [List.getElem?_cons_zero, Option.some.injEq] at h; subst h
      simp only [Hu.bl, List.flatMap_cons, Nat.zero_mul, Nat.zero_add]
      rw [List.getElem?_append_left (by rw [Hu.qbg]; exact hj)]
    | succ q =>
      simp only [List.getElem?_cons_succ] at h
      have := ih h
      simp only [Hu.bl, List.flatMap_cons] at this ⊢
      rw [List.getElem?_append_right (by rw [Hu.qbg]; omega), Hu.qbg, show (q + 1) * 8 + j - 8 = q * 8 + j by omega]
      exact this
theorem bit_of {b : List Int} {i q j v r : Int} (hv : b[q.toNat]? = some v) (hok : Hu.BOk b) (h0 : 0 ≤ i) (hq : q = i / 8) (hj : j = 7 - i % 8) (hr : r = v / 2 ^ j.toNat % 2) : bitI b i = r := by
  have hv0 := hok v (List.mem_of_getElem? hv)
  have e : i.toNat = q.toNat * 8 + (i % 8).toNat := by omega
  unfold bitI
  rw [List.getD_eq_getElem?_getD, e, bl_get hv (by omega), qyd (by omega), show 8 - 1 - (i % 8).toNat = j.toNat by omega, hr]
  simp only [Option.getD_some]
  have e2 : v / 2 ^ j.toNat % 2 = ((v.toNat / 2 ^ j.toNat % 2 : Nat) : Int) := by
    push_cast
    rw [Int.toNat_of_nonneg hv0.1]
  rw [e2]
  have : v.toNat / 2 ^ j.toNat % 2 = 0 ∨ v.toNat / 2 ^ j.toNat % 2 = 1 := by omega
  rcases this with h | h <;> simp [h]
def okI (b : List Int) (i k : Int) : Bool := decide (0 ≤ i) && decide (i + k ≤ 8 * ilen b)
def resI (b : List Int) (i k : Int) : Int := if okI b i k then numI b i k else 0
theorem okI_t {b : List Int} {i k : Int} (h0 : 0 ≤ i) (h : i + k ≤ 8 * ilen b) : okI b i k = true := by unfold okI; simp [h0, h]
theorem okI_f {b : List Int} {i k : Int} (h : i < 0 ∨ 8 * ilen b < i + k) : okI b i k = false := by
  unfold okI
  rcases h with h | h
  · simp; omega
  · simp; omega
theorem rowB {S : Sy} (hS : S0 Tryz.prog = S) {b : List Int} {F : List SV} (hF : cellsB b = F) {q i v : Int} {K : SV → Prop} (hv : b[q.toNat]? = some v) (hi : i = q) (h0 : 0 ≤ q) (h : K (.i .u8 (.y v))) : S.rd F i 1 0 1 false K := by
  subst hi
  exact s_rowp hS (enc := by1) hF hv (fun _ => rfl) h0 (Nat.le_refl _) rfl h
theorem first_f {b : List Int} {i k r : Int} {t : Bool} (hb : Hu.BOk b) (hn : ilen b ≤ 1000000) (h1 : 1 ≤ k) (h2 : k ≤ 30) (hr : resI b i k = r) (ht : okI b i k = t) :
    (S0 Tryz.prog).call 140 [.sl 0 1 (.l 0) (.y (ilen b)) none, .i .i64 (.y i), .i .i64 (.y k)] [.r true true (.l 0) 1 (cellsB b)] (fun x _ => Sub x (.tp [.i .i64 (.y r), .b t])) := by
  obtain ⟨n, hn'⟩ : ∃ n, n = ilen b := ⟨_, rfl⟩
  rw [← hn'] at hn ⊢
  have hpl := qab b
  generalize hF : cellsB b = F at hpl ⊢
  have h0n := qah b
  generalize hS : S0 Tryz.prog = S
  refine qaa hS I.qzl ?_
  cbv
  repeat' (first | (refine qai hS ?_ ?_ <;> intro h <;> (try cbv) <;> try exact s_ab h) | (refine qaa hS I.qzacn ?_; cbv) | (refine qiy hS I.qxj ?_; cbv) | fail)
  · have e : okI b i k = false := okI_f (.inl (by assumption))
    have e1 : r = 0 := by rw [← hr]; unfold resI; rw [e]; rfl
    have e2 : t = false := by rw [← ht, e]
    all_goals exact s_sA
  · refine qav hS 8 I.qpw (fun x : Int × Int × Int => i ≤ x.1 ∧ x.2.2 = k - (x.1 - i) ∧ 1 ≤ x.2.2 ∧ x.2.1 = numI b i (x.1 - i) ∧ (x.1 = i ∨ x.1 ≤ 8 * n))
      (fun _ => []) (fun x => [(1, .c [.i .i64 (.y x.2.1)]), (3, .c [.i .i64 (.y x.2.2)]), (5, .c [.i .i64 (.y x.1)])])
      (fun x => (8 * n - x.1).toNat) (i, 0, k) rfl ⟨⟨by omega, by dsimp only; omega, by dsimp only; omega, by simp [qwi], .inl rfl⟩, rfl, ?_, ?_, ?_⟩ ?_
    · cbv; all_goals exact s_sA
    · cbv; all_goals exact s_bA
    · cbv; exact qxa (qak hpl)
    · intro x
      obtain ⟨j, w, left⟩ := x
      intro hx
      dsimp only at hx
      cbv
      obtain ⟨g0, g1, g2, g3, g4⟩ := hx
      repeat' (first | (refine qai hS ?_ ?_ <;> intro h <;> (try cbv) <;> try exact s_ab h) | (refine qcs hS (c := 8) rfl ?_; intro _ _; cbv) | fail)
      · obtain ⟨q, hq⟩ : ∃ q, q = j / 8 := ⟨_, rfl⟩
        obtain ⟨v, hv⟩ := qei (l := b) (i := q) (by omega) (by omega)
        have hb0 := hb v (List.mem_of_getElem? hv)
        refine qbn hS rfl I.qqo (by decide +kernel) ?_
        cbv
        repeat' (first | (refine s_st hS ?_; try cbv) | (refine qax hS ?_; intro _ _; try cbv) | (refine qcs hS (c := 8) rfl ?_; intro _ _; cbv) | (refine rowB hS hF hv (by omega) (by omega) ?_; try cbv) | (refine qhw hS (c := 8) (m := 3) (by decide) ?_; intro _ _; cbv) | (refine qhw hS (c := 2) (m := 1) (by decide) ?_; intro _ _; cbv) | (refine s_shr hS (by simp only [IntKind.bits]; omega) ?_; intro _ _; cbv) | fail)
        rename_i s1 hs1 s2 hs2 s3 hs3 u hu
        have hbit : bitI b j = u := bit_of hv hb (by omega) hq (j := s2) (by omega) (by rw [hu, hs3])
        have hw : 0 ≤ w ∧ w < 1073741824 := by rw [g3]; exact numI_bd (by omega)
        have hnx := qzaet (b := b) (i := i) (k := j - i) (by omega) (by omega) (by omega)
        rw [← g3, show i + (j - i) = j by omega, hbit] at hnx
        clear hu hs3
        have hu1 := bitI_bd b j
        rw [hbit] at hu1
        refine qfp hS rfl rfl ?_
        cbv
        repeat' (first | (refine qai hS ?_ ?_ <;> intro h <;> (try cbv) <;> try exact s_ab h) | (refine qax hS ?_; intro _ _; try cbv) | (refine qbr hS ?_; try cbv) | (refine qfz hS (c := 2) rfl ?_ (by simp only [lo]; omega) (by simp only [hi]; omega); intro _ _; cbv) | (refine s_orl hS (c := 2) (m := 1) rfl (by omega) (by omega) (by omega) (by omega) (by simp only [hi]; omega) ?_; intro _ _; cbv) | fail)
        · have e : okI b i k = true := okI_t (by omega) (by omega)
          have e1 : r = 2 * w + u := by rw [← hr]; unfold resI; rw [e, show k = j - i + 1 by omega]; simpa using hnx
          have e2 : t = true := by rw [← ht, e]
          all_goals exact s_sA
        · rename_i w2 hw2 l2 hl2 j2 hj2
          refine ⟨(j2, w2, l2), by dsimp only; omega, ⟨by dsimp only; omega, by dsimp only; omega, by dsimp only; omega, by dsimp only; rw [show j2 - i = j - i + 1 by omega, hnx]; omega, .inr (by dsimp only; omega)⟩, rfl, ?_, ?_, ?_⟩
          · cbv; all_goals exact s_sA
          · cbv; all_goals exact s_bA
          · cbv; exact qxa (qak hpl)
      · have e : okI b i k = false := okI_f (.inr (by omega))
        have e1 : r = 0 := by rw [← hr]; unfold resI; rw [e]; rfl
        have e2 : t = false := by rw [← ht, e]
        all_goals exact s_sA
def oBitsB (b : List Int) (i k : Int) : Bool := if k = 0 then decide (0 ≤ i) && decide (i ≤ 8 * ilen b) else if k < 0 ∨ 30 < k then false else okI b i k
def oBitsR (b : List Int) (i k : Int) : Int := if oBitsB b i k then numI b i k else 0
theorem oBits_f {b : List Int} {i k r : Int} {t : Bool} (hb : Hu.BOk b) (hn : ilen b ≤ 1000000) (hr : oBitsR b i k = r) (ht : oBitsB b i k = t) :
    (S0 Tryz.prog).call 133 [.sl 0 1 (.l 0) (.y (ilen b)) none, .i .i64 (.y i), .i .i64 (.y k)] [.r true true (.l 0) 1 (cellsB b)] (fun x _ => Sub x (.tp [.i .i64 (.y r), .b t])) := by
  have hc : ∀ (h1 : 1 ≤ k) (h2 : k ≤ 30) (e : t = okI b i k), (S0 Tryz.prog).call 140 [.sl 0 1 (.l 0) (.y (ilen b)) none, .i .i64 (.y i), .i .i64 (.y k)] [.r true true (.l 0) 1 (cellsB b)] (fun x _ => Sub x (.tp [.i .i64 (.y r), .b t])) := by
    intro h1 h2 e
    refine first_f hb hn h1 h2 ?_ e.symm
    rw [← hr]; unfold oBitsR resI; rw [ht, e]
  obtain ⟨n, hn'⟩ : ∃ n, n = ilen b := ⟨_, rfl⟩
  have h0n := qah b
  rw [← hn'] at hn h0n hc ⊢
  have hpl := qab b
  generalize hF : cellsB b = F at hpl hc ⊢
  generalize hS : S0 Tryz.prog = S
  refine qaa hS I.qzaco ?_
  cbv
  repeat' (first | (refine qai hS ?_ ?_ <;> intro h <;> (try cbv) <;> try exact s_ab h) | (refine qjy hS ?_ (by simp only [lo]; omega) (by simp only [hi]; omega); intro _ _; try cbv) | fail)
  · rename_i h0 _ e
    have e1 : r = 0 := by rw [← hr]; unfold oBitsR; rw [h0, qwi]; simp
    have e2 : t = decide (i ≤ 8 * n) := by rw [← ht]; unfold oBitsB; rw [h0, ← hn']; simp [h]
    refine qar (.cons (qae (by simp only [Z.v]; omega)) (.cons (qqd ?_) .nil))
    simp only [← hS, Int.ofNat_eq_natCast, cq, Bool.not_eq_true', Bool.not_eq_false', decide_eq_true_eq, decide_eq_false_iff_not, beq_iff_eq, beq_eq_false_iff_ne, ne_eq]
    rw [e2, e]
  · have e2 : t = false := by rw [← ht]; unfold oBitsB; simp [*]
    have e1 : r = 0 := by rw [← hr]; unfold oBitsR; rw [ht, e2]; rfl
    all_goals exact s_sA
  · have e2 : t = false := by rw [← ht]; unfold oBitsB; simp [*]
    have e1 : r = 0 := by rw [← hr]; unfold oBitsR; rw [ht, e2]; rfl
    all_goals exact s_sA
  · have e2 : t = false := by rw [← ht]; unfold oBitsB; rw [if_neg (by omega), if_pos (by omega)]
    have e1 : r = 0 := by rw [← hr]; unfold oBitsR; rw [ht, e2]; rfl
    all_goals exact s_sA
  · have e2 : t = okI b i k := by rw [← ht]; unfold oBitsB; rw [if_neg (by omega), if_neg (by omega)]
    refine qda hS id (hc (by omega) (by omega) e2) .rfl rfl ?_ rfl ?_
    · exact ⟨⟨true, .l 0, 1, F, true, true, .l 0, F, rfl, hpl, rfl, .rfl⟩, trivial⟩
    · cbv; all_goals exact s_sA
end Cz
namespace Cz
open Go Go.RowKit Go.Proofs
def bitsI (b : List Int) (k : Int) : Int := Hu.nbits (b.take k.toNat)
theorem zs_len {Zs : List SV} (h : repS 512 [SV.i .i64 (.l 0)] = Zs) : Zs.length = 512 := by rw [← h, qzabm, List.length_replicate]
theorem qrm {T : List SV} (h : codeLit = T) : plains T = true := by rw [← h, ← qim]; exact qzu 256
theorem gc_c {x y : Bool} : x = true → y = true → (match x with | false => false | true => y) = true := by intro hx hy; subst hx; exact hy
theorem gc_m {F : List SV} {ok : Nat → Bool} : refsBL ok F = true → (match F with | [] => true | x :: xs => refsB ok x && refsBL ok xs) = true := by
  intro h
  cases F with
  | nil => rfl
  | cons x xs => simpa only [refsBL] using h
theorem code_at {c j : Nat} (h : c < 256) (hj : j + 1 ≤ 2) : ((upto 256).drop (c * 2 + j)).take 1 = ((cellC c).drop j).take 1 := by
  have e : upto 256 = (List.range 256).flatMap cellC := by simp [upto]
  rw [e]
  exact qzahn (enc := cellC) (sz := 2) (fun _ => rfl) (l := List.range 256) (i := c) (a := c) (by simp [h]) j 1 hj
theorem code_rd1 {S : Sy} (hS : S0 Tryz.prog = S) {T : List SV} (hT : codeLit = T) {c : Int} {K : SV → Prop} (h0 : 0 ≤ c) (h : c < 256) {m : Int} (hm : clsI c = m)
    (h1 : K (.i .i64 (.y m))) : S.rd T c 2 1 1 false K := by
  subst hT hm
  rw [← qim]
  refine s_rd hS h0 (by rw [qgy (Nat.le_refl _)]; omega) (Nat.le_refl _) (v := .i .i64 (.y (clsI c))) ?_ h1
  rw [code_at (by omega) (by omega)]
  rfl
theorem code_rd0 {S : Sy} (hS : S0 Tryz.prog = S) {T : List SV} (hT : codeLit = T) {c : Int} {K : SV → Prop} (h0 : 0 ≤ c) (h : c < 256) {m : Int} (hm : codeI c = m)
    (h1 : K (.i .i64 (.y m))) : S.rd T c 2 0 1 false K := by
  subst hT hm
  rw [← qim]
  refine s_rd hS h0 (by rw [qgy (Nat.le_refl _)]; omega) (by omega) (v := .i .i64 (.y (codeI c))) ?_ h1
  rw [code_at (by omega) (by omega)]
  rfl
theorem qtc (c : Int) : 5 ≤ clsI c ∧ clsI c ≤ 11 := by
  unfold clsI
  rcases Hu.qme c.toNat with h | h | h | h <;> rw [h] <;> decide
theorem qmz {b : List Int} {j v : Int} (hv : b[j.toNat]? = some v) (h0 : 0 ≤ j) : bitsI b (j + 1) = bitsI b j + clsI v := by
  unfold bitsI Hu.nbits Hu.enc clsI
  rw [qkn hv h0, List.flatMap_append, List.length_append]
  simp [Hu.cod, Hu.qbg]
theorem qhi {b : List Int} {j : Int} (h0 : 0 ≤ j) : 0 ≤ bitsI b j ∧ bitsI b j ≤ 11 * j := by
  unfold bitsI Hu.nbits Hu.enc
  have h1 : ∀ (l : List Int), (l.flatMap fun v => Hu.cod v.toNat).length ≤ 11 * l.length := by
    intro l
    induction l with
    | nil => simp
    | cons v l ih =>
      have := qtc v
      unfold clsI at this
      simp only [List.flatMap_cons, List.length_append, List.length_cons, Hu.cod, Hu.qbg] at ih ⊢
      omega
  have h2 := h1 (b.take j.toNat)
  have h3 : (b.take j.toNat).length ≤ j.toNat := by rw [List.length_take]; omega
  omega
theorem Bits_f {b : List Int} {r : Int} (hb : Hu.BOk b) (hn : ilen b ≤ 1000000) (hr : bitsI b (ilen b) = r) :
    (S0 Tryz.prog).call 100 [.sl 0 1 (.l 0) (.y (ilen b)) none] [.r true true (.l 0) 1 (cellsB b)] (fun x _ => Sub x (.i .i64 (.y r))) := by
  obtain ⟨n, hn'⟩ : ∃ n, n = ilen b := ⟨_, rfl⟩
  have h0n := qah b
  rw [← hn'] at hn h0n hr ⊢
  have hpl := qab b
  generalize hF : cellsB b = F at hpl ⊢
  have hc := codes_f
  generalize hT : codeLit = T at hc
  have hTl := qxv hT
  generalize hS : S0 Tryz.prog = S
  refine qaa hS I.qzafu ?_
  unfold I.qzafh
  generalize hZ : repS 512 [SV.i .i64 (.l 0)] = Zs
  have hZn := zs_len hZ
  have hTn : T.length = 512 := by rw [← qcj]; exact hTl
  have hTp := qrm hT
  cbv
  refine qbf hS hc .rfl rfl (by rw [← hT]; rfl) ?_
  cbv
  refine qzabh hS (by subst hS; simp only [qzahm, qzaat, hTn]; rfl) ?_
  refine s_all hS hZn hTn hTp ?_
  cbv
  refine qav hS 2 I.qub (fun x : Int × Int => 0 ≤ x.1 ∧ x.1 ≤ n ∧ x.2 = bitsI b x.1)
    (fun x => [(9, .i .i64 (.y x.1)), (2, .i .i64 (.y x.2))]) (fun x => [])
    (fun x => (n - x.1).toNat) (0, 0) rfl ⟨⟨Int.le_refl _, by dsimp only; omega, rfl⟩, rfl, ?_, ?_, ?_⟩ ?_
  · cbv; all_goals exact s_sA
  · cbv; all_goals exact s_bA
  · cbv; exact gc_c (gc_m (qak hpl)) (gc_c (gc_m (qak hTp)) rfl)
  · intro x
    obtain ⟨j, w⟩ := x
    intro hx
    dsimp only at hx
    cbv
    obtain ⟨g0, g1, g2⟩ := hx
    repeat' (first | (refine s_st hS ?_; try cbv) | (refine qai hS ?_ ?_ <;> intro h <;> (try cbv) <;> try exact s_ab h) | fail)
    · obtain ⟨v, hv⟩ := qei (l := b) (i := j) (by omega) (by omega)
      have hb0 := hb v (List.mem_of_getElem? hv)
      obtain ⟨m, hm⟩ : ∃ m, clsI v = m := ⟨_, rfl⟩
      have hmb := qtc v
      rw [hm] at hmb
      have hbd := qhi (b := b) g0
      have hnx := qmz hv g0
      rw [hm] at hnx
      repeat' (first | (refine s_st hS ?_; try cbv) | (refine qax hS ?_; intro _ _; try cbv) | (refine rowB hS hF hv rfl (by omega) ?_; try cbv) | (refine qzaaj (qzaai hTl) ?_; cbv) | (refine code_rd1 hS hT hb0.1 hb0.2 hm ?_; cbv) | fail)
      rename_i w2 hw2 j2 hj2
      refine ⟨(j2, w2), by dsimp only; omega, ⟨by dsimp only; omega, by dsimp only; omega, by dsimp only; rw [hj2, hnx]; omega⟩, rfl, ?_, ?_, ?_⟩
      · cbv; all_goals exact s_sA
      · cbv; all_goals exact s_bA
      · cbv; exact gc_c (gc_m (qak hpl)) (gc_c (gc_m (qak hTp)) rfl)
    · have e : w = r := by rw [← hr, g2, show j = n by omega]
      all_goals exact s_sA
end Cz
namespace Cz
open Go Go.RowKit Go.Proofs
def encT (b : List Int) (j : Int) : List Bool := Hu.enc (b.take j.toNat)
def outI (b : List Int) (j q : Int) : List Int := Hu.packs q.toNat (encT b j)
def rowI (b : List Int) (j q : Int) : Int := Hu.valB ((encT b j).drop (8 * q.toNat))
theorem qjj (b : List Int) (j : Int) : ((encT b j).length : Int) = bitsI b j := rfl
theorem qxm {b : List Int} {j v : Int} (hv : b[j.toNat]? = some v) (h0 : 0 ≤ j) : encT b (j + 1) = encT b j ++ Hu.cod v.toNat := by
  unfold encT Hu.enc
  rw [qkn hv h0, List.flatMap_append]
  simp
theorem qsg : ∀ (q : Nat) (E : List Bool), Hu.packs (q + 1) E = Hu.packs q E ++ [(Hu.valB ((E.drop (8 * q)).take 8) : Int)]
  | 0, E => by simp [Hu.packs]
  | q + 1, E => by
    rw [Hu.packs, qsg q (E.drop 8), Hu.packs, List.drop_drop, show 8 + 8 * q = 8 * (q + 1) by omega]
    rfl
theorem qwe : ∀ (q : Nat) (E D : List Bool), 8 * q ≤ E.length → Hu.packs q (E ++ D) = Hu.packs q E
  | 0, _, _, _ => rfl
  | q + 1, E, D, h => by
    rw [Hu.packs, Hu.packs, List.take_append_of_le_length (by omega), List.drop_append_of_le_length (by omega), qwe q _ _ (by simp; omega)]
theorem qee (k : Nat) : ((2 ^ k : Nat) : Int) = (2 : Int) ^ k := by norm_cast
theorem row_next {b : List Int} {j q v : Int} (hv : b[j.toNat]? = some v) (h0 : 0 ≤ j) (hq : 0 ≤ q) (h : 8 * q ≤ bitsI b j) (hb : 0 ≤ v ∧ v < 256) :
    rowI b (j + 1) q = rowI b j q * 2 ^ (clsI v).toNat + codeI v := by
  unfold rowI
  rw [qxm hv h0, List.drop_append_of_le_length (by rw [← qjj] at h; omega), Hu.qem]
  unfold clsI codeI Hu.cod
  rw [Hu.qbg, Hu.qmf _ _ (Hu.qzaht (by omega))]
  push_cast
  simp
theorem out_next {b : List Int} {j q v : Int} (hv : b[j.toNat]? = some v) (h0 : 0 ≤ j) (hq : 0 ≤ q) (h : 8 * q ≤ bitsI b j) : outI b (j + 1) q = outI b j q := by
  unfold outI
  rw [qxm hv h0, qwe _ _ _ (by rw [← qjj] at h; omega)]
theorem valB_mod (A B : List Bool) : Hu.valB (A ++ B) % 2 ^ B.length = Hu.valB B := by
  rw [Hu.qem, Nat.add_comm, Nat.add_mul_mod_self_right, Nat.mod_eq_of_lt (Hu.qkl B)]
theorem valB_div (A B : List Bool) : Hu.valB (A ++ B) / 2 ^ B.length = Hu.valB A := by
  rw [Hu.qem, Nat.add_comm, Nat.add_mul_div_right _ _ (Nat.two_pow_pos _), Nat.div_eq_of_lt (Hu.qkl B), Nat.zero_add]
theorem row_mask {b : List Int} {j q q0 : Int} (hq0 : 0 ≤ q0) (hq : q0 ≤ q) (h : 8 * q ≤ bitsI b j) : rowI b j q0 % 2 ^ (bitsI b j - 8 * q).toNat = rowI b j q := by
  unfold rowI
  rw [← qjj] at h ⊢
  generalize encT b j = E at h ⊢
  have e : E.drop (8 * q0.toNat) = (E.drop (8 * q0.toNat)).take (8 * (q.toNat - q0.toNat)) ++ E.drop (8 * q.toNat) := by
    conv => lhs; rw [← List.take_append_drop (8 * (q.toNat - q0.toNat)) (E.drop (8 * q0.toNat))]
    rw [List.drop_drop, show 8 * q0.toNat + 8 * (q.toNat - q0.toNat) = 8 * q.toNat by omega]
  have hl : ((E.length : Int) - 8 * q).toNat = (E.drop (8 * q.toNat)).length := by rw [List.length_drop]; omega
  rw [hl, ← qee, ← Int.natCast_emod]
  rw [e, valB_mod]
theorem row_bd {b : List Int} {j q : Int} (hq : 0 ≤ q) (h : 8 * q ≤ bitsI b j) : 0 ≤ rowI b j q ∧ rowI b j q < 2 ^ (bitsI b j - 8 * q).toNat := by
  unfold rowI
  rw [← qjj] at h ⊢
  have h1 := Hu.qkl ((encT b j).drop (8 * q.toNat))
  rw [List.length_drop, show (encT b j).length - 8 * q.toNat = (((encT b j).length : Int) - 8 * q).toNat by omega] at h1
  rw [← qee]
  omega
theorem out_more {b : List Int} {j q q0 r s u x : Int} (hq0 : 0 ≤ q0) (hq : q0 ≤ q) (h : 8 * (q + 1) ≤ bitsI b j) (hr : rowI b j q0 = r) (hu : u = bitsI b j - 8 * (q + 1)) (hs : s = r / 2 ^ u.toNat) (hx : x = s % 256) :
    outI b j (q + 1) = outI b j q ++ [x] := by
  unfold outI
  rw [show (q + 1).toNat = q.toNat + 1 by omega, qsg]
  congr 2
  rw [hx, hs, ← hr, hu]
  unfold rowI
  rw [← qjj] at h ⊢
  generalize encT b j = E at h ⊢
  have e1 : E.drop (8 * q0.toNat) = (E.drop (8 * q0.toNat)).take (8 * (q.toNat - q0.toNat)) ++ ((E.drop (8 * q.toNat)).take 8 ++ E.drop (8 * (q.toNat + 1))) := by
    have e2 : E.drop (8 * q.toNat) = (E.drop (8 * q.toNat)).take 8 ++ E.drop (8 * (q.toNat + 1)) := by
      conv => lhs; rw [← List.take_append_drop 8 (E.drop (8 * q.toNat))]
      rw [List.drop_drop, show 8 * q.toNat + 8 = 8 * (q.toNat + 1) by omega]
    rw [← e2]
    conv => lhs; rw [← List.take_append_drop (8 * (q.toNat - q0.toNat)) (E.drop (8 * q0.toNat))]
    rw [List.drop_drop, show 8 * q0.toNat + 8 * (q.toNat - q0.toNat) = 8 * q.toNat by omega]
  have hl : ((E.length : Int) - 8 * (q + 1)).toNat = (E.drop (8 * (q.toNat + 1))).length := by rw [List.length_drop]; omega
  rw [hl, e1, ← List.append_assoc, ← qee, ← Int.natCast_ediv, valB_div]
  have h8 : ((E.drop (8 * q.toNat)).take 8).length = 8 := by rw [List.length_take, List.length_drop]; omega
  have := valB_mod ((E.drop (8 * q0.toNat)).take (8 * (q.toNat - q0.toNat))) ((E.drop (8 * q.toNat)).take 8)
  rw [h8] at this
  rw [← this]
  rfl
theorem put_end0 {b : List Int} {n q : Int} (hn : n = ilen b) (hq : 0 ≤ q) (h : bitsI b n = 8 * q) : Hu.put b = outI b n q := by
  have e : encT b n = Hu.enc b := by unfold encT; rw [qca (by omega)]
  have hl := qjj b n
  rw [h, e] at hl
  unfold outI Hu.put Hu.pack
  rw [e]
  have : Hu.padded (Hu.enc b) = Hu.enc b := by unfold Hu.padded Hu.pad; rw [show (8 - (Hu.enc b).length % 8) % 8 = 0 by omega]; simp
  rw [this, show (Hu.enc b).length / 8 = q.toNat by omega]
theorem put_end1 {b : List Int} {n q w u x : Int} (hn : n = ilen b) (hq : 0 ≤ q) (hu : u = 8 - (bitsI b n - 8 * q)) (h1 : 0 < bitsI b n - 8 * q) (h2 : bitsI b n - 8 * q < 8) (hr : rowI b n q = w)
    (hx : x = w * 2 ^ u.toNat + (2 ^ u.toNat - 1)) : Hu.put b = outI b n q ++ [x] := by
  have e : encT b n = Hu.enc b := by unfold encT; rw [qca (by omega)]
  have hl := qjj b n
  rw [e] at hl
  unfold rowI at hr
  unfold outI Hu.put Hu.pack
  rw [Hu.qml, e]
  rw [e] at hr
  rw [show 8 * (((Hu.enc b).length + 7) / 8) / 8 = q.toNat + 1 by omega, qsg]
  have hp : Hu.pad (Hu.enc b).length = u.toNat := by unfold Hu.pad; omega
  have e1 : Hu.packs q.toNat (Hu.padded (Hu.enc b)) = Hu.packs q.toNat (Hu.enc b) := by unfold Hu.padded; rw [qwe _ _ _ (by omega)]
  rw [e1]
  congr 2
  unfold Hu.padded
  rw [hp, List.drop_append_of_le_length (by omega), List.take_of_length_le (by simp; omega), Hu.qem, List.length_replicate, Hu.qkk, hx, ← hr]
  have := Nat.two_pow_pos u.toNat
  rw [← qee, Int.natCast_add, Int.natCast_mul, Int.natCast_sub (by omega)]
  rfl
theorem qzabu (b : List Int) (j q : Int) (hq : 0 ≤ q) : ilen (outI b j q) = q := by unfold ilen outI; rw [Hu.qeg]; omega
end Cz
namespace Cz
open Go Go.RowKit Go.Proofs
theorem s_cv8 {S : Sy} {P : Program} {a : Int} {K : Int → Prop} (hS : S0 P = S) (h : ∀ r, r = a % 256 → K r) : S.cv .u8 a K := by
  refine s_cve hS _ ?_ (h _ rfl)
  simp [IntKind.wrap, IntKind.bits, IntKind.signed]
theorem qha {S : Sy} (hS : S0 Tryz.prog = S) {l l' : List Int} {F G : List SV} {x st' : Int} {ro lit : Bool} {st : Z} (hF : cellsB l = F) (hG : cellsB l' = G) (hl : l' = l ++ [x]) (hst : st.v = st') :
    SubB (.r ro lit st 1 (S.app F [.i .u8 (.y x)])) (.r ro false (.y st') 1 G) := by
  subst hS hF hG hl
  refine .r ?_ hst (qab _)
  rw [app_eq]
  have : cellsB l ++ [SV.i .u8 (.y x)] = cellsB (l ++ [x]) := by unfold cellsB; rw [List.flatMap_append]; rfl
  rw [this]
  exact .rfl
theorem qeb {S : Sy} (hS : S0 Tryz.prog = S) {q : Int} {sz : Nat} {G : List SV} {k : Unit → Prop} (h : ilen G = q * sz) (hk : k ()) : S.chk (S.cmp .eq (S.sc q sz) (S.flen G)) k := by
  subst hS
  refine qzabh rfl ?_ hk
  rw [qzaat, sc_eq, qzahm]
  unfold ilen at h
  exact decide_eq_true h.symm
theorem qat (l : List Int) : ilen (cellsB l) = ilen l := by rw [qdy]; simp [ilen]
theorem qvx {S : Sy} (hS : S0 Tryz.prog = S) {n0 k : Nat} {l L : List Int} {F G : List SV} {x : Int} {lit : Bool} {st nn : Z} {l' : List Blk} (hF : cellsB l = F) (hG : cellsB L = G) (hl : L = l ++ [x]) (hk : n0 ≤ k)
    (hn : nn.v = ilen l + 1) (hB : l'[k]? = some (.r false lit st 1 (S.app F [.i .u8 (.y x)]))) : RowIs n0 1 G (.sl k 1 (.l 0) nn none) l' := by
  subst hS hF hG hl
  have e : (S0 Tryz.prog).app (cellsB l) [SV.i .u8 (.y x)] = cellsB (l ++ [x]) := by rw [app_eq]; unfold cellsB; rw [List.flatMap_append]; rfl
  rw [e] at hB
  refine .inr ⟨k, nn, lit, st, _, hk, rfl, hB, .rfl, qab _, ?_⟩
  have := qat (l ++ [x])
  unfold ilen at this hn
  rw [this, hn]
  simp
theorem qdu {n0 k : Nat} {l : List Int} {G : List SV} {lit : Bool} {st nn : Z} {l' : List Blk} (hG : cellsB l = G) (hk : n0 ≤ k)
    (hn : nn.v = ilen l) (hB : l'[k]? = some (.r false lit st 1 G)) : RowIs n0 1 G (.sl k 1 (.l 0) nn none) l' := by
  subst hG
  refine .inr ⟨k, nn, lit, st, _, hk, rfl, hB, .rfl, qab _, ?_⟩
  have := qat l
  unfold ilen at this hn
  rw [this, hn]
  simp
theorem qzada {v : Int} (h : 0 ≤ v ∧ v < 256) : 0 ≤ codeI v ∧ codeI v < 2 ^ (clsI v).toNat ∧ codeI v < 2048 := by
  have h1 := Hu.qzaht (c := v.toNat) (by omega)
  have h2 : (2 : Nat) ^ Hu.cls v.toNat ≤ 2 ^ 11 := Nat.pow_le_pow_right (by omega) (by rcases Hu.qme v.toNat with h | h | h | h <;> omega)
  unfold codeI clsI
  rw [Int.toNat_natCast, ← qee]
  omega
theorem row_bd' {b : List Int} {j q : Int} (hq : 0 ≤ q) (h : 8 * q ≤ bitsI b j) {k : Nat} (hk : bitsI b j - 8 * q ≤ k) : 0 ≤ rowI b j q ∧ rowI b j q < 2 ^ k := by
  have h1 := row_bd hq h
  have h2 := qed (m := (bitsI b j - 8 * q).toNat) (n := k) (by omega)
  omega
theorem put_f {b : List Int} (hb : Hu.BOk b) (hn : ilen b ≤ 1000000) :
    (S0 Tryz.prog).call 102 [.sl 0 1 (.l 0) (.y (ilen b)) none] [.r true true (.l 0) 1 (cellsB b)] (OwnR 1 1 (cellsB (Hu.put b)) false []) := by
  obtain ⟨n, hn'⟩ : ∃ n, n = ilen b := ⟨_, rfl⟩
  have h0n := qah b
  rw [← hn'] at hn h0n ⊢
  have hpl := qab b
  generalize hF : cellsB b = F at hpl ⊢
  have hc := codes_f
  generalize hT : codeLit = T at hc
  have hTl := qxv hT
  have hTn : T.length = 512 := by rw [← qcj]; exact hTl
  have hTp := qrm hT
  generalize hP : cellsB (Hu.put b) = P
  generalize hS : S0 Tryz.prog = S
  refine qaa hS I.qzahl ?_
  unfold I.huff_Put
  generalize hZ : repS 512 [SV.i .i64 (.l 0)] = Zs
  have hZn := zs_len hZ
  cbv
  refine qbf hS hc .rfl rfl (by rw [← hT]; rfl) ?_
  cbv
  refine qzabh hS (by subst hS; simp only [qzahm, qzaat, hTn]; rfl) ?_
  refine s_all hS hZn hTn hTp ?_
  cbv
  refine qmi hS 2 1 (by omega) rfl ?_
  cbv
  refine qav hS 3 I.qxu (fun x : Int × Int × Int × Int × Int × List SV => 0 ≤ x.1 ∧ x.1 ≤ n ∧ 0 ≤ x.2.2.2.1 ∧ x.2.1 = bitsI b x.1 - 8 * x.2.2.2.1 ∧ 0 ≤ x.2.1 ∧ x.2.1 < 8 ∧ x.2.2.1 = rowI b x.1 x.2.2.2.1 ∧ x.2.2.2.2.2 = cellsB (outI b x.1 x.2.2.2.1))
    (fun x => [(12, .i .i64 (.y x.1)), (4, .i .i64 (.y x.2.1)), (3, .i .u64 (.y x.2.2.1)), (2, .sl 2 1 (.l 0) (.y x.2.2.2.1) none)]) (fun x => [(2, .r false false (.y x.2.2.2.2.1) 1 x.2.2.2.2.2)])
    (fun x => (n - x.1).toNat) (0, 0, 0, 0, 0, []) rfl ⟨⟨Int.le_refl _, by dsimp only; omega, by dsimp only; omega, rfl, by dsimp only; omega, by dsimp only; omega, rfl, rfl⟩, rfl, ?_, ?_, ?_⟩ ?_
  · cbv; (repeat' (first | exact qci | exact Sub.rfl | exact SubL.nil | refine SubL.cons ?_ ?_ | exact qae rfl | exact qbw rfl rfl))
  · cbv; refine ⟨.rfl, .rfl, .r .rfl rfl rfl, trivial⟩
  · cbv; exact gc_c (gc_m (qak hpl)) (gc_c (gc_m (qak hTp)) rfl)
  · intro x
    obtain ⟨j, u, w, q, st, G⟩ := x
    intro hx
    dsimp only at hx
    cbv
    obtain ⟨g0, g1, g2, g3, g4, g5, g6, g7⟩ := hx
    refine qai hS ?_ ?_ <;> intro h <;> cbv
    · obtain ⟨v, hv⟩ := qei (l := b) (i := j) (by omega) (by omega)
      have hb0 := hb v (List.mem_of_getElem? hv)
      obtain ⟨m, hm⟩ : ∃ m, clsI v = m := ⟨_, rfl⟩
      obtain ⟨c, hcv⟩ : ∃ c, codeI v = c := ⟨_, rfl⟩
      have hmb := qtc v
      rw [hm] at hmb
      have hbd := qhi (b := b) g0
      have hnx := qmz hv g0
      rw [hm] at hnx
      repeat' (first | (refine s_st hS ?_; try cbv) | (refine rowB hS hF hv rfl (by omega) ?_; try cbv) | fail)
      have hcb := qzada hb0
      rw [hcv, hm] at hcb
      have hW := row_next hv g0 g2 (by omega) hb0
      rw [hm, hcv, ← g6] at hW
      have hWb := row_bd' (b := b) (j := j + 1) (q := q) g2 (by omega) (k := 18) (by omega)
      obtain ⟨p, hp⟩ : ∃ p : Int, 2 ^ m.toNat = p := ⟨_, rfl⟩
      rw [hp] at hW hcb
      obtain ⟨W, hWe⟩ : ∃ W, rowI b (j + 1) q = W := ⟨_, rfl⟩
      rw [hWe] at hW hWb
      have hw0 := (row_bd (b := b) (j := j) (q := q) g2 (by omega)).1
      rw [← g6] at hw0
      have hwp : 0 ≤ w * p := Int.mul_nonneg hw0 (by omega)
      refine qbn hS rfl I.qyo (by decide +kernel) ?_
      cbv
      repeat' (first | (refine s_st hS ?_; try cbv) | (refine qax hS ?_; intro _ _; try cbv) | (refine qbr hS ?_; try cbv) | (refine qzaaj (qzaai hTl) ?_; cbv) | (refine code_rd1 hS hT hb0.1 hb0.2 hm ?_; cbv) | (refine code_rd0 hS hT hb0.1 hb0.2 hcv ?_; cbv) | (refine qfz hS (c := p) (by rw [← hp]; congr 1; simp only [IntKind.bits]; omega) ?_ (by simp only [lo]; omega) (by simp only [hi]; omega); intro _ _; cbv) | (refine s_orl hS hp (by omega) (by simp only [*]; exact Int.mul_emod_left _ _) (by omega) (by omega) (by simp only [hi]; omega) ?_; intro _ _; cbv) | fail)
      rename_i r1 hr1 r2 hr2 u1 hu1
      obtain ⟨j1, h_j1⟩ : ∃ j1, j1 = j + 1 := ⟨_, rfl⟩
      rw [← h_j1] at hnx hWe
      have hout : G = cellsB (outI b j1 q) := by rw [g7, h_j1, out_next hv g0 g2 (by omega)]
      have hr2W : rowI b j1 q = r2 := by rw [hWe]; omega
      clear hp hwp hr1 hr2 hW hWe hcb
      refine qav hS 3 I.qxt (fun x : Int × Int × Int × List SV => q ≤ x.2.1 ∧ x.1 = bitsI b j1 - 8 * x.2.1 ∧ 0 ≤ x.1 ∧ x.1 ≤ 18 ∧ x.2.2.2 = cellsB (outI b j1 x.2.1))
        (fun x => [(4, .i .i64 (.y x.1)), (2, .sl 2 1 (.l 0) (.y x.2.1) none)]) (fun x => [(2, .r false false (.y x.2.2.1) 1 x.2.2.2)])
        (fun x => x.1.toNat) (u1, q, st, G) rfl ⟨⟨by dsimp only; omega, by dsimp only; omega, by dsimp only; omega, by dsimp only; omega, hout⟩, rfl, ?_, ?_, ?_⟩ ?_
      · cbv; all_goals exact s_sA
      · cbv; all_goals exact s_bA
      · cbv; exact gc_c (gc_m (qak hpl)) (gc_c (gc_m (qak hTp)) rfl)
      · intro x
        obtain ⟨y, q1, st1, G1⟩ := x
        intro hx
        dsimp only at hx
        cbv
        obtain ⟨k0, k1, k2, k3, k4⟩ := hx
        refine qai hS ?_ ?_ <;> intro h <;> cbv
        · have hG1 : ilen G1 = q1 := by rw [k4, qat, qzabu _ _ _ (by omega)]
          repeat' (first | (refine s_st hS ?_; try cbv) | (refine qax hS ?_; intro _ _; try cbv) | (refine s_shr hS (by simp only [IntKind.bits]; omega) ?_; intro _ _; cbv) | (refine s_cv8 hS ?_; intro _ _; cbv) | fail)
          refine qeb hS (by rw [hG1]; omega) ?_
          cbv
          repeat' (first | (refine s_st hS ?_; try cbv) | fail)
          rename_i y2 hy2 s2 hs2 x2 hx2
          obtain ⟨q2, h_q2⟩ : ∃ q2, q2 = q1 + 1 := ⟨_, rfl⟩
          obtain ⟨st2, h_st2⟩ : ∃ st2, st2 = S.flen G1 := ⟨_, rfl⟩
          obtain ⟨G2, h_G2⟩ : ∃ G2, G2 = cellsB (outI b j1 q2) := ⟨_, rfl⟩
          refine ⟨(y2, q2, st2, G2), by dsimp only; omega, ⟨by dsimp only; omega, by dsimp only; omega, by dsimp only; omega, by dsimp only; omega, h_G2⟩, rfl, ?_, ?_, ?_⟩
          · cbv; (repeat' (first | exact qci | exact Sub.rfl | exact SubL.nil | refine SubL.cons ?_ ?_ | exact qae rfl | (refine qbw rfl ?_; simp only [Z.v, ← hS, Int.ofNat_eq_natCast, cq, Bool.not_eq_true', Bool.not_eq_false', decide_eq_true_eq, decide_eq_false_iff_not, beq_iff_eq, beq_eq_false_iff_ne, ne_eq]; omega)))
          · cbv
            refine ⟨.rfl, .rfl, qha hS k4.symm h_G2.symm ?_ h_st2.symm, trivial⟩
            rw [h_q2]
            exact out_more g2 k0 (by omega) hr2W (by omega) hs2 hx2
          · cbv; exact gc_c (gc_m (qak hpl)) (gc_c (gc_m (qak hTp)) rfl)
        · obtain ⟨p, hp⟩ : ∃ p : Int, 2 ^ y.toNat = p := ⟨_, rfl⟩
          have hp1 : p < 512 := by
            have := qed (m := y.toNat) (n := 8) (by omega)
            rw [hp] at this
            omega
          have hp0 : 0 < p := by rw [← hp]; exact qcp _
          repeat' (first | (refine s_st hS ?_; try cbv) | (refine qax hS ?_; intro _ _; try cbv) | (refine qfz hS (c := p) (by rw [← hp]; congr 1; simp only [IntKind.bits]; omega) ?_ (by simp only [lo]; omega) (by simp only [hi]; omega); intro _ _; cbv) | (refine qhw hS (c := p) (m := y.toNat) ⟨by omega, hp, by simp only [IntKind.bits]; omega⟩ ?_; intro _ _; cbv) | fail)
          rename_i s1 hs1 s2 hs2 w3 hw3 j3 hj3
          have hw3' : w3 = rowI b j1 q1 := by rw [hw3, ← hp, ← hr2W, k1, row_mask g2 k0 (by omega)]
          refine ⟨(j3, y, w3, q1, st1, G1), by dsimp only; omega, ⟨by dsimp only; omega, by dsimp only; omega, by dsimp only; omega, ?_, by dsimp only; omega, by dsimp only; omega, ?_, ?_⟩, rfl, ?_, ?_, ?_⟩
          · dsimp only; rw [k1, hj3, ← h_j1]
          · dsimp only; rw [hw3', hj3, ← h_j1]
          · dsimp only; rw [k4, hj3, ← h_j1]
          · cbv; all_goals exact s_sA
          · cbv; all_goals exact s_bA
          · cbv; exact gc_c (gc_m (qak hpl)) (gc_c (gc_m (qak hTp)) rfl)
    · have hG : ilen G = q := by rw [g7, qat, qzabu _ _ _ (by omega)]
      obtain ⟨p, hp⟩ : ∃ p : Int, 2 ^ (8 - u).toNat = p := ⟨_, rfl⟩
      have hp1 : p < 512 := by
        have := qed (m := (8 - u).toNat) (n := 8) (by omega)
        rw [hp] at this
        omega
      have hp0 : 0 < p := by rw [← hp]; exact qcp _
      have hwb := row_bd' (b := b) (j := j) (q := q) g2 (by omega) (k := u.toNat) (by omega)
      rw [← g6] at hwb
      have hwp0 : 0 ≤ w * p := Int.mul_nonneg hwb.1 (by omega)
      have hwp : w * p + p ≤ 256 := by
        have h1 : (w + 1) * p ≤ 2 ^ u.toNat * p := Int.mul_le_mul_of_nonneg_right (by omega) (by omega)
        have h2 : (2 : Int) ^ u.toNat * p = 256 := by
          rw [← hp, ← Int.pow_add, show u.toNat + (8 - u).toNat = 8 by omega]; rfl
        rw [Int.add_mul] at h1
        omega
      have hbd := qhi (b := b) g0
      obtain rfl : j = n := by omega
      repeat' (first | (refine s_st hS ?_; try cbv) | (refine qai hS ?_ ?_ <;> intro h <;> (try cbv) <;> try exact s_ab h) | (refine qax hS ?_; intro _ _; try cbv) | (refine qbr hS ?_; try cbv) | (refine qbn hS rfl I.qyn (by decide +kernel) ?_; cbv) | (refine qfz hS (c := p) (by rw [← hp]; congr 1; simp only [IntKind.bits]; omega) ?_ (by simp only [lo]; omega) (by simp only [hi]; omega); intro _ _; cbv) | (refine s_orl hS hp (by omega) (by simp only [*]; exact Int.mul_emod_left _ _) (by omega) (by omega) (by simp only [hi]; omega) ?_; intro _ _; cbv) | (refine qeb hS (by rw [hG]; omega) ?_; cbv) | fail)
      · rename_i e1 he1 e2 he2 e3 he3 e4 he4 x hx
        refine ⟨_, .rfl, ?_⟩
        have hend := put_end1 (u := 8 - u) (x := x) hn' g2 (by omega) (by omega) (by omega) g6.symm (by rw [hp, hx, he2, he4, he3]; omega)
        exact qvx hS g7.symm hP hend (by omega) (by rw [qzabu _ _ _ g2]; simp only [Z.v, ← hS, Int.ofNat_eq_natCast, cq, Bool.not_eq_true', Bool.not_eq_false', decide_eq_true_eq, decide_eq_false_iff_not, beq_iff_eq, beq_eq_false_iff_ne, ne_eq]; omega) rfl
      · have hu0 : u = 0 := by omega
        have hPG : P = G := by rw [g7, ← hP, put_end0 hn' g2 (by omega)]
        refine ⟨_, .rfl, ?_⟩
        rw [hPG]
        exact qdu g7.symm (by omega) (by rw [qzabu _ _ _ g2]; rfl) rfl
end Cz
namespace Cz
open Go Go.RowKit Go.Proofs
def dropI (b : List Int) (i : Int) : List Bool := (Hu.bl b).drop i.toNat
def at1I (b : List Int) (i m : Int) : Option Nat := if okI b i m then findO (numI b i m) m else none
def decI (b : List Int) (i : Int) : List Int × List Bool := Hu.dec (dropI b i)
theorem qxn {b : List Int} {i : Int} (h0 : 0 ≤ i) (h : i ≤ 8 * ilen b) : ((dropI b i).length : Int) = 8 * ilen b - i := by
  unfold dropI ilen at *
  rw [List.length_drop, Hu.qzaax]; omega
theorem qmu {b : List Int} {i : Int} (h0 : 0 ≤ i) (m : Nat) : (dropI b i).drop m = dropI b (i + m) := by
  unfold dropI; rw [List.drop_drop, show (i + m).toNat = i.toNat + m by omega]
theorem qej {b : List Int} {i : Int} (h0 : 0 ≤ i) (m : Nat) (hm : 0 < m := by omega) : Hu.at1 (dropI b i) m = at1I b i m := by
  unfold at1I Hu.at1 okI
  have e : (m ≤ (dropI b i).length) ↔ ((decide (0 ≤ i) && decide (i + m ≤ 8 * ilen b)) = true) := by
    unfold dropI ilen
    rw [List.length_drop, Hu.qzaax, Bool.and_eq_true, decide_eq_true_eq, decide_eq_true_eq]
    constructor
    · intro h; constructor <;> omega
    · intro h; omega
  by_cases h : m ≤ (dropI b i).length
  · rw [if_pos h, if_pos (e.1 h)]
    unfold findO numI dropI
    rw [if_pos ⟨by omega, by omega⟩]
    simp
  · rw [if_neg h, if_neg (fun h' => h (e.2 h'))]
theorem qzadk {b : List Int} {i m : Int} {c : Nat} (h : at1I b i m = some c) : okI b i m = true := by
  unfold at1I at h
  split at h
  · assumption
  · cases h
theorem dec_5 {b : List Int} {i : Int} (h0 : 0 ≤ i) {c : Nat} (h : at1I b i 5 = some c) : decI b i = ((c : Int) :: (decI b (i + 5)).1, (decI b (i + 5)).2) := by
  unfold decI
  rw [Hu.qmw (c := c) (m := 5) (by unfold Hu.sym; rw [qej h0 5]; simp [h]), qmu h0]; rfl
theorem dec_6 {b : List Int} {i : Int} (h0 : 0 ≤ i) {c : Nat} (h5 : at1I b i 5 = none) (h : at1I b i 6 = some c) : decI b i = ((c : Int) :: (decI b (i + 6)).1, (decI b (i + 6)).2) := by
  unfold decI
  rw [Hu.qmw (c := c) (m := 6) (by unfold Hu.sym; rw [qej h0 5, qej h0 6]; simp [h, h5]), qmu h0]; rfl
theorem dec_7 {b : List Int} {i : Int} (h0 : 0 ≤ i) {c : Nat} (h5 : at1I b i 5 = none) (h6 : at1I b i 6 = none) (h : at1I b i 7 = some c) : decI b i = ((c : Int) :: (decI b (i + 7)).1, (decI b (i + 7)).2) := by
  unfold decI
  rw [Hu.qmw (c := c) (m := 7) (by unfold Hu.sym; rw [qej h0 5, qej h0 6, qej h0 7]; simp [h, h5, h6]), qmu h0]; rfl
theorem dec_11 {b : List Int} {i : Int} (h0 : 0 ≤ i) {c : Nat} (h5 : at1I b i 5 = none) (h6 : at1I b i 6 = none) (h7 : at1I b i 7 = none) (h : at1I b i 11 = some c) : decI b i = ((c : Int) :: (decI b (i + 11)).1, (decI b (i + 11)).2) := by
  unfold decI
  rw [Hu.qmw (c := c) (m := 11) (by unfold Hu.sym; rw [qej h0 5, qej h0 6, qej h0 7, qej h0 11]; simp [h, h5, h6, h7]), qmu h0]; rfl
theorem qma {b : List Int} {i : Int} (h0 : 0 ≤ i) (h5 : at1I b i 5 = none) (h6 : at1I b i 6 = none) (h7 : at1I b i 7 = none) (h : at1I b i 11 = none) : decI b i = ([], dropI b i) := by
  unfold decI
  exact Hu.qve (by unfold Hu.sym; rw [qej h0 5, qej h0 6, qej h0 7, qej h0 11]; simp [h, h5, h6, h7])
theorem qch {b : List Int} {i m : Int} (h : okI b i m = false) : at1I b i m = none := by unfold at1I; rw [h]; rfl
theorem qdd {b : List Int} {i m r : Int} (h : okI b i m = true) (hr : numI b i m = r) : at1I b i m = findO r m := by unfold at1I; rw [h, hr]; rfl
theorem qbc {b : List Int} {i m k : Int} (h : okI b i m = false) (h0 : 0 ≤ i) (hk : m ≤ k) : okI b i k = false := by
  unfold okI at h ⊢
  simp only [Bool.and_eq_false_iff, decide_eq_false_iff_not] at h ⊢
  omega
def takeL (b : List Int) : List Int := (Hu.take b).getD []
def takeE (b : List Int) : Int := if (Hu.take b).isSome then 0 else 70
theorem qdz {b L : List Int} {i : Int} (h0 : 0 ≤ i) (h : i ≤ 8 * ilen b) (hd : Hu.dec (Hu.bl b) = (L, dropI b i)) (h7 : 7 < 8 * ilen b - i) : takeL b = [] ∧ takeE b = 70 := by
  have : Hu.take b = none := by
    unfold Hu.take
    simp only [hd]
    rw [if_neg]
    have := qxn h0 h
    omega
  unfold takeL takeE
  rw [this]; exact ⟨rfl, rfl⟩
theorem numI_all {b : List Int} {i k : Int} (h0 : 0 ≤ i) (h : i ≤ 8 * ilen b) (hk : k = 8 * ilen b - i) : numI b i k = Hu.valB (dropI b i) := by
  unfold numI
  have := qxn h0 h
  rw [show ((Hu.bl b).drop i.toNat).take k.toNat = dropI b i by unfold dropI at *; exact List.take_of_length_le (by omega)]
theorem qbp {b L : List Int} {i k : Int} (h0 : 0 ≤ i) (h : i ≤ 8 * ilen b) (hd : Hu.dec (Hu.bl b) = (L, dropI b i)) (hk : k = 8 * ilen b - i) (h7 : k ≤ 7) :
    (numI b i k = 2 ^ k.toNat - 1 → takeL b = L ∧ takeE b = 0) ∧ (numI b i k ≠ 2 ^ k.toNat - 1 → takeL b = [] ∧ takeE b = 70) := by
  have hl := qxn h0 h
  rw [numI_all h0 h hk]
  have e : ((Hu.valB (dropI b i) : Int) = 2 ^ k.toNat - 1) ↔ dropI b i = List.replicate (dropI b i).length true := by
    have h1 := Hu.qkk (dropI b i).length
    have hp := Nat.two_pow_pos (dropI b i).length
    rw [show k.toNat = (dropI b i).length by omega, ← qee]
    constructor
    · intro e
      refine Hu.valB_inj (by simp) ?_
      rw [h1]; omega
    · intro e
      rw [e, h1]
      simp only [List.length_replicate]
      omega
  unfold takeL takeE Hu.take
  simp only [hd]
  constructor
  · intro h1
    rw [if_pos ⟨by omega, e.1 h1⟩]; exact ⟨rfl, rfl⟩
  · intro h1
    rw [if_neg (fun h2 => h1 (e.2 h2.2))]; exact ⟨rfl, rfl⟩
theorem qle {S : Sy} (hS : S0 Tryz.prog = S) {b : List Int} {F : List SV} {n : Int} {zi z : Z} {k : Nat} {ro lit : Bool} {st : Z} {l : List Blk} {K : SV → List Blk → Prop} (hb : Hu.BOk b) (hn : ilen b ≤ 1000000) (hn' : n = ilen b) (hF : cellsB b = F)
    (hrow : lget l k = .r ro lit st 1 F) (i m : Int) (hi : zi.v = i) (hm : z.v = m) (hz1 : 1 ≤ m) (hz2 : m ≤ 30) (h1 : okI b i m = true → ∀ r, numI b i m = r → K (.tp [.i .i64 (.y r), .tt]) l) (h2 : okI b i m = false → ∀ r, K (.tp [.i .i64 (.y r), .ff]) l) :
    S.call 133 [.sl k 1 (.l 0) (.y n) none, .i .i64 zi, .i .i64 z] l K := by
  subst hn' hF hi hm
  have hB : oBitsB b zi.v z.v = okI b zi.v z.v := by unfold oBitsB; rw [if_neg (by omega), if_neg (by omega)]
  have hf := oBits_f (b := b) (i := zi.v) (k := z.v) hb hn rfl rfl
  cases ht : okI b zi.v z.v with
  | true =>
    refine qda hS (fun _ => k) (sv := .tp [.i .i64 (.y (numI b zi.v z.v)), .tt]) (qaw hf fun x l' hx => ⟨x, .rfl, hx.trans (qar (.cons (qae ?_) (.cons (qes ?_) .nil)))⟩) (.cons .rfl (.cons (qae rfl) (.cons (qae rfl) .nil))) rfl ⟨⟨_, _, _, _, _, _, _, _, rfl, qab b, hrow, .rfl⟩, trivial⟩ rfl (h1 ht _ rfl)
    · unfold oBitsR; rw [hB, ht]; rfl
    · rw [hB, ht]
  | false =>
    refine qda hS (fun _ => k) (sv := .tp [.i .i64 (.y (oBitsR b zi.v z.v)), .ff]) (qaw hf fun x l' hx => ⟨x, .rfl, hx.trans (qar (.cons .rfl (.cons (qea ?_) .nil)))⟩) (.cons .rfl (.cons (qae rfl) (.cons (qae rfl) .nil))) rfl ⟨⟨_, _, _, _, _, _, _, _, rfl, qab b, hrow, .rfl⟩, trivial⟩ rfl (h2 ht _)
    rw [hB, ht]
end Cz
namespace Cz
open Go Go.RowKit Go.Proofs
def tB : IR := match I.qzaff with
  | .seq _ (.scope b) => b
  | _ => .skip
theorem qho (b : List Int) : decI b 0 = Hu.dec (Hu.bl b) := rfl
theorem qjx {b : List Int} {i m : Int} (h : okI b i m = true) : i + m ≤ 8 * ilen b := by
  unfold okI at h
  simp only [Bool.and_eq_true, decide_eq_true_eq] at h
  exact h.2
theorem qgf (L : List Int) (c : Int) : ilen (L ++ [c]) = ilen L + 1 := by unfold ilen; simp
theorem gc_k {n : Nat} {es : List (SV × SV)} : norefM es = true → (match es with
      | [] => true
      | (k, v) :: r => refsB (low n) k && refsB (low n) v && gcM n r) = true := by
  intro h
  have := gcM_ok (n := n) h
  cases es with
  | nil => rfl
  | cons e r => simpa only [gcM] using this
theorem qhl {S : Sy} (hS : S0 Tryz.prog = S) {b : List Int} {F : List SV} {n : Int} {zi z : Z} {k : Nat} {ro lit : Bool} {st : Z} {l : List Blk} {K : SV → List Blk → Prop} (hb : Hu.BOk b) (hn : ilen b ≤ 1000000) (hn' : n = ilen b) (hF : cellsB b = F)
    (hrow : lget l k = .r ro lit st 1 F) (i m : Int) (h0 : zi.v = i) (hm : z.v = m) (hi0 : 0 ≤ i) (hz1 : 0 ≤ m) (hz2 : m ≤ 30 ∧ i + m ≤ 8 * n) (h1 : ∀ r, numI b i m = r → K (.tp [.i .i64 (.y r), .tt]) l) :
    S.call 133 [.sl k 1 (.l 0) (.y n) none, .i .i64 zi, .i .i64 z] l K := by
  subst hn' hF h0 hm
  have hB : oBitsB b zi.v z.v = true := by
    unfold oBitsB okI
    by_cases hz : z.v = 0
    · rw [if_pos hz]; simp; omega
    · rw [if_neg hz, if_neg (by omega)]; simp; omega
  have hf := oBits_f (b := b) (i := zi.v) (k := z.v) hb hn rfl rfl
  refine qda hS (fun _ => k) (sv := .tp [.i .i64 (.y (numI b zi.v z.v)), .tt]) (qaw hf fun x l' hx => ⟨x, .rfl, hx.trans (qar (.cons (qae ?_) (.cons (qes hB) .nil)))⟩) (.cons .rfl (.cons (qae rfl) (.cons (qae rfl) .nil))) rfl ⟨⟨_, _, _, _, _, _, _, _, rfl, qab b, hrow, .rfl⟩, trivial⟩ rfl (h1 _ rfl)
  unfold oBitsR; rw [hB]; rfl
theorem qks {S : Sy} {k : IntKind} {a : Int} {K : Int → Prop} (hS : S0 Tryz.prog = S) (m : Int) (hm : a = m) (h0 : 0 ≤ m) (h1 : m ≤ 7) (hk : 8 < k.bits) (h : ∀ r, r = 2 ^ m.toNat → 1 ≤ r → r ≤ 128 → K r) : S.ar .shl k 1 a K := by
  subst hm
  have h2 := qed (m := a.toNat) (n := 7) (by omega)
  have h3 := qcp a.toNat
  refine qfz hS (c := 2 ^ a.toNat) ?_ (fun r hr => h r (by omega) (by omega) (by omega)) ?_ ?_
  · rw [Nat.min_eq_left (by omega)]
  · have := qzabw k; omega
  · have h4 := hi_bits k
    have h5 := qed (m := 8) (n := k.bits - 1) (by omega)
    omega
theorem qbq {P : List SV} {E : Int} {l' : List Blk} (hP : P = []) (hE : E = 70) : OwnR 1 1 P true [.i .i64 (.y E)] (.tp [.re (.slice none 0 0), .i .i64 (.l 70)]) l' :=
  ⟨_, qar (.cons .rfl (.cons (qae hE.symm) .nil)), .inl ⟨rfl, hP⟩⟩
theorem qex {P G : List SV} {L : List Int} {E : Int} {z st : Z} {lit : Bool} {l' : List Blk} (hP : P = cellsB L) (hE : E = 0) (hG : cellsB L = G) (hz : z.v = ilen L) (hB : l'[2]? = some (.r false lit st 1 G)) :
    OwnR 1 1 P true [.i .i64 (.y E)] (.tp [.sl 2 1 (.l 0) z none, .i .i64 (.l 0)]) l' := by
  refine ⟨_, qar (.cons .rfl (.cons (qae hE.symm) .nil)), ?_⟩
  rw [hP, hG]
  exact qdu hG (by omega) hz hB
theorem qqc {b : List Int} {F P : List SV} {T : List (SV × SV)} {n E : Int} {S : Sy} (hb : Hu.BOk b) (hnb : ilen b ≤ 1000000) (hn' : n = ilen b) (hF : cellsB b = F) (hP : cellsB (takeL b) = P) (hE : takeE b = E) (hT : knownE 256 = T) (hS : S0 Tryz.prog = S)
    {i1 q1 st1 : Int} {L1 : List Int} {G1 : List SV} (h0 : 0 ≤ i1) (h1 : i1 ≤ 8 * ilen b) (hq : q1 = ilen L1) (hqi : q1 ≤ i1) (hG : G1 = cellsB L1) (hdec : Hu.dec (Hu.bl b) = (L1 ++ (decI b i1).1, (decI b i1).2)) :
    S.jump ⟨none, 1⟩ tB 0 ⟨slots [(0, .sl 0 1 (.l 0) (.y n) none), (4, .m 1), (2, .sl 2 1 (.l 0) (.y q1) none), (5, .i .i64 (.y i1))] (repU 68), []⟩ [.r true true (.l 0) 1 F, .m T, .r false false (.y st1) 1 G1]
      (vret S [.t 2, .t 3] (OwnR 1 1 P true [.i .i64 (.y E)])) := by
  have hn := hnb
  have h0n := qah b
  rw [← hn'] at hn h0n
  have hpl := qab b
  rw [hF] at hpl
  refine qzaej hS 3 [] (fun x : Int × Int × Int × List Int × List SV => 0 ≤ x.1 ∧ x.1 ≤ 8 * n ∧ x.2.1 = ilen x.2.2.2.1 ∧ x.2.1 ≤ x.1 ∧ x.2.2.2.2 = cellsB x.2.2.2.1 ∧ Hu.dec (Hu.bl b) = (x.2.2.2.1 ++ (decI b x.1).1, (decI b x.1).2))
    (fun x => [(2, .sl 2 1 (.l 0) (.y x.2.1) none), (5, .i .i64 (.y x.1))]) (fun x => [(2, .r false false (.y x.2.2.1) 1 x.2.2.2.2)])
    (fun x => (8 * n - x.1).toNat) (i1, q1, st1, L1, G1) rfl rfl ⟨⟨h0, by dsimp only; omega, hq, hqi, hG, hdec⟩, rfl, ?_, ?_, ?_⟩ ?_
  · cbv; all_goals exact s_sA
  · cbv; all_goals exact s_bA
  · cbv; exact gc_c (gc_m (qak hpl)) (gc_c (gc_k (hT ▸ qbl 256)) rfl)
  intro x
  clear h0 h1 hq hqi hG hdec
  obtain ⟨i, q, st, L, G⟩ := x
  intro hx
  dsimp only at hx
  cbv
  obtain ⟨h0, h1, hq, hqi, hG0, hdec⟩ := hx
  have hG : ilen G = ilen L := by rw [hG0, qat]
  refine qag hS ?_
  cbv
  refine qle hS hb hnb hn' hF rfl i 5 rfl rfl (by decide) (by decide) (fun hok5 r5 hr5 => ?_) (fun hok5 r5 => ?_)
  · cbv
    refine qdv hS hT (fun c hc c0 c1 => ?_) fun hc => ?_
    · cbv
      have hs : decI b i = ((c.toNat : Int) :: (decI b (i + 5)).1, (decI b (i + 5)).2) := dec_5 (by omega)  (by rw [qdd hok5 hr5]; exact hc)
      have hle : i + 5 ≤ 8 * ilen b := qjx hok5
      rw [Int.toNat_of_nonneg c0] at hs
      repeat' (first | (refine s_st hS ?_; try cbv) | (refine qax hS ?_; intro _ _; try cbv) | (refine qeb hS (by rw [hG, ← hq]; omega) ?_; cbv) | fail)
      rename_i i2 hi2
      obtain ⟨q2, h_q2⟩ : ∃ q2, q2 = q + 1 := ⟨_, rfl⟩
      obtain ⟨st2, h_st2⟩ : ∃ st2, st2 = S.flen G := ⟨_, rfl⟩
      obtain ⟨G2, h_G2⟩ : ∃ G2, G2 = cellsB (L ++ [c]) := ⟨_, rfl⟩
      refine ⟨(i2, q2, st2, L ++ [c], G2), by dsimp only; omega, ⟨by dsimp only; omega, by dsimp only; omega, ?_, by dsimp only; omega, h_G2, ?_⟩, rfl, ?_, ?_, ?_⟩
      · dsimp only; rw [h_q2, hq, qgf]
      · dsimp only; rw [hdec, hs, hi2]; simp
      · cbv; (repeat' (first | exact qci | exact Sub.rfl | exact SubL.nil | refine SubL.cons ?_ ?_ | exact qae rfl | (refine qbw rfl ?_; simp only [Z.v, ← hS, Int.ofNat_eq_natCast, cq, Bool.not_eq_true', Bool.not_eq_false', decide_eq_true_eq, decide_eq_false_iff_not, beq_iff_eq, beq_eq_false_iff_ne, ne_eq]; omega)))
      · cbv; exact ⟨.rfl, .rfl, qha hS hG0.symm h_G2.symm rfl h_st2.symm, trivial⟩
      · cbv; exact gc_c (gc_m (qak hpl)) (gc_c (gc_k (hT ▸ qbl 256)) rfl)
    · cbv
      have a5 : at1I b i 5 = none := by rw [qdd hok5 hr5]; exact hc
      refine qag hS ?_
      cbv
      refine qle hS hb hnb hn' hF rfl i 6 rfl rfl (by decide) (by decide) (fun hok6 r6 hr6 => ?_) (fun hok6 r6 => ?_)
      · cbv
        refine qdv hS hT (fun c hc c0 c1 => ?_) fun hc => ?_
        · cbv
          have hs : decI b i = ((c.toNat : Int) :: (decI b (i + 6)).1, (decI b (i + 6)).2) := dec_6 (by omega) a5 (by rw [qdd hok6 hr6]; exact hc)
          have hle : i + 6 ≤ 8 * ilen b := qjx hok6
          rw [Int.toNat_of_nonneg c0] at hs
          repeat' (first | (refine s_st hS ?_; try cbv) | (refine qax hS ?_; intro _ _; try cbv) | (refine qeb hS (by rw [hG, ← hq]; omega) ?_; cbv) | fail)
          rename_i i2 hi2
          obtain ⟨q2, h_q2⟩ : ∃ q2, q2 = q + 1 := ⟨_, rfl⟩
          obtain ⟨st2, h_st2⟩ : ∃ st2, st2 = S.flen G := ⟨_, rfl⟩
          obtain ⟨G2, h_G2⟩ : ∃ G2, G2 = cellsB (L ++ [c]) := ⟨_, rfl⟩
          refine ⟨(i2, q2, st2, L ++ [c], G2), by dsimp only; omega, ⟨by dsimp only; omega, by dsimp only; omega, ?_, by dsimp only; omega, h_G2, ?_⟩, rfl, ?_, ?_, ?_⟩
          · dsimp only; rw [h_q2, hq, qgf]
          · dsimp only; rw [hdec, hs, hi2]; simp
          · cbv; (repeat' (first | exact qci | exact Sub.rfl | exact SubL.nil | refine SubL.cons ?_ ?_ | exact qae rfl | (refine qbw rfl ?_; simp only [Z.v, ← hS, Int.ofNat_eq_natCast, cq, Bool.not_eq_true', Bool.not_eq_false', decide_eq_true_eq, decide_eq_false_iff_not, beq_iff_eq, beq_eq_false_iff_ne, ne_eq]; omega)))
          · cbv; exact ⟨.rfl, .rfl, qha hS hG0.symm h_G2.symm rfl h_st2.symm, trivial⟩
          · cbv; exact gc_c (gc_m (qak hpl)) (gc_c (gc_k (hT ▸ qbl 256)) rfl)
        · cbv
          have a6 : at1I b i 6 = none := by rw [qdd hok6 hr6]; exact hc
          refine qag hS ?_
          cbv
          refine qle hS hb hnb hn' hF rfl i 7 rfl rfl (by decide) (by decide) (fun hok7 r7 hr7 => ?_) (fun hok7 r7 => ?_)
          · cbv
            refine qdv hS hT (fun c hc c0 c1 => ?_) fun hc => ?_
            · cbv
              have hs : decI b i = ((c.toNat : Int) :: (decI b (i + 7)).1, (decI b (i + 7)).2) := dec_7 (by omega) a5 a6 (by rw [qdd hok7 hr7]; exact hc)
              have hle : i + 7 ≤ 8 * ilen b := qjx hok7
              rw [Int.toNat_of_nonneg c0] at hs
              repeat' (first | (refine s_st hS ?_; try cbv) | (refine qax hS ?_; intro _ _; try cbv) | (refine qeb hS (by rw [hG, ← hq]; omega) ?_; cbv) | fail)
              rename_i i2 hi2
              obtain ⟨q2, h_q2⟩ : ∃ q2, q2 = q + 1 := ⟨_, rfl⟩
              obtain ⟨st2, h_st2⟩ : ∃ st2, st2 = S.flen G := ⟨_, rfl⟩
              obtain ⟨G2, h_G2⟩ : ∃ G2, G2 = cellsB (L ++ [c]) := ⟨_, rfl⟩
              refine ⟨(i2, q2, st2, L ++ [c], G2), by dsimp only; omega, ⟨by dsimp only; omega, by dsimp only; omega, ?_, by dsimp only; omega, h_G2, ?_⟩, rfl, ?_, ?_, ?_⟩
              · dsimp only; rw [h_q2, hq, qgf]
              · dsimp only; rw [hdec, hs, hi2]; simp
              · cbv; (repeat' (first | exact qci | exact Sub.rfl | exact SubL.nil | refine SubL.cons ?_ ?_ | exact qae rfl | (refine qbw rfl ?_; simp only [Z.v, ← hS, Int.ofNat_eq_natCast, cq, Bool.not_eq_true', Bool.not_eq_false', decide_eq_true_eq, decide_eq_false_iff_not, beq_iff_eq, beq_eq_false_iff_ne, ne_eq]; omega)))
              · cbv; exact ⟨.rfl, .rfl, qha hS hG0.symm h_G2.symm rfl h_st2.symm, trivial⟩
              · cbv; exact gc_c (gc_m (qak hpl)) (gc_c (gc_k (hT ▸ qbl 256)) rfl)
            · cbv
              have a7 : at1I b i 7 = none := by rw [qdd hok7 hr7]; exact hc
              refine qag hS ?_
              cbv
              refine qle hS hb hnb hn' hF rfl i 11 rfl rfl (by decide) (by decide) (fun hok11 r11 hr11 => ?_) (fun hok11 r11 => ?_)
              · cbv
                refine qdv hS hT (fun c hc c0 c1 => ?_) fun hc => ?_
                · cbv
                  have hs : decI b i = ((c.toNat : Int) :: (decI b (i + 11)).1, (decI b (i + 11)).2) := dec_11 (by omega) a5 a6 a7 (by rw [qdd hok11 hr11]; exact hc)
                  have hle : i + 11 ≤ 8 * ilen b := qjx hok11
                  rw [Int.toNat_of_nonneg c0] at hs
                  repeat' (first | (refine s_st hS ?_; try cbv) | (refine qax hS ?_; intro _ _; try cbv) | (refine qeb hS (by rw [hG, ← hq]; omega) ?_; cbv) | fail)
                  rename_i i2 hi2
                  obtain ⟨q2, h_q2⟩ : ∃ q2, q2 = q + 1 := ⟨_, rfl⟩
                  obtain ⟨st2, h_st2⟩ : ∃ st2, st2 = S.flen G := ⟨_, rfl⟩
                  obtain ⟨G2, h_G2⟩ : ∃ G2, G2 = cellsB (L ++ [c]) := ⟨_, rfl⟩
                  refine ⟨(i2, q2, st2, L ++ [c], G2), by dsimp only; omega, ⟨by dsimp only; omega, by dsimp only; omega, ?_, by dsimp only; omega, h_G2, ?_⟩, rfl, ?_, ?_, ?_⟩
                  · dsimp only; rw [h_q2, hq, qgf]
                  · dsimp only; rw [hdec, hs, hi2]; simp
                  · cbv; (repeat' (first | exact qci | exact Sub.rfl | exact SubL.nil | refine SubL.cons ?_ ?_ | exact qae rfl | (refine qbw rfl ?_; simp only [Z.v, ← hS, Int.ofNat_eq_natCast, cq, Bool.not_eq_true', Bool.not_eq_false', decide_eq_true_eq, decide_eq_false_iff_not, beq_iff_eq, beq_eq_false_iff_ne, ne_eq]; omega)))
                  · cbv; exact ⟨.rfl, .rfl, qha hS hG0.symm h_G2.symm rfl h_st2.symm, trivial⟩
                  · cbv; exact gc_c (gc_m (qak hpl)) (gc_c (gc_k (hT ▸ qbl 256)) rfl)
                · cbv
                  have a11 : at1I b i 11 = none := by rw [qdd hok11 hr11]; exact hc
                  refine qag hS ?_
                  cbv
                  have hno : decI b i = ([], dropI b i) := qma (by omega) a5 a6 a7 a11
                  have hD : Hu.dec (Hu.bl b) = (L, dropI b i) := by rw [hdec, hno]; simp
                  obtain ⟨k, hk⟩ : ∃ k, k = 8 * ilen b - i := ⟨_, rfl⟩
                  repeat' (first | (refine s_st hS ?_; try cbv) | (refine qai hS ?_ ?_ <;> intro h <;> (try cbv) <;> try exact s_ab h) | (refine qax hS ?_; intro _ _; try cbv) | (refine qjy hS ?_ (by simp only [lo]; omega) (by simp only [hi]; omega); intro _ _; cbv) | (refine qek hS rfl ?_; cbv) | (refine qhl hS hb hnb hn' hF rfl i k (by simp only [Z.v]; omega) (by simp only [Z.v]; omega) (by omega) (by omega) (by omega) (fun r hr => ?_); cbv) | (refine qks hS k (by omega) (by omega) (by omega) (by decide) (fun p hp hp1 hp2 => ?_); cbv) | fail)
                  · have hb7 := qdz (i := i) (by omega) (by omega) hD (by omega)
                    exact qbq (hP.symm.trans (by rw [hb7.1]; rfl)) (hE.symm.trans hb7.2)
                  · have hte := (qbp (i := i) (by omega) (by omega) hD hk (by omega)).1 (by rw [hr, ← hp]; omega)
                    exact qex (hP.symm.trans (by rw [hte.1])) (hE.symm.trans hte.2) hG0.symm hq rfl
                  · have hte := (qbp (i := i) (by omega) (by omega) hD hk (by omega)).2 (by rw [hr, ← hp]; omega)
                    exact qbq (hP.symm.trans (by rw [hte.1]; rfl)) (hE.symm.trans hte.2)
              · cbv
                have a11 : at1I b i 11 = none := qch (qbc hok11 (by omega) (by omega))
                have hno : decI b i = ([], dropI b i) := qma (by omega) a5 a6 a7 a11
                have hD : Hu.dec (Hu.bl b) = (L, dropI b i) := by rw [hdec, hno]; simp
                obtain ⟨k, hk⟩ : ∃ k, k = 8 * ilen b - i := ⟨_, rfl⟩
                repeat' (first | (refine s_st hS ?_; try cbv) | (refine qai hS ?_ ?_ <;> intro h <;> (try cbv) <;> try exact s_ab h) | (refine qax hS ?_; intro _ _; try cbv) | (refine qjy hS ?_ (by simp only [lo]; omega) (by simp only [hi]; omega); intro _ _; cbv) | (refine qek hS rfl ?_; cbv) | (refine qhl hS hb hnb hn' hF rfl i k (by simp only [Z.v]; omega) (by simp only [Z.v]; omega) (by omega) (by omega) (by omega) (fun r hr => ?_); cbv) | (refine qks hS k (by omega) (by omega) (by omega) (by decide) (fun p hp hp1 hp2 => ?_); cbv) | fail)
                · have hb7 := qdz (i := i) (by omega) (by omega) hD (by omega)
                  exact qbq (hP.symm.trans (by rw [hb7.1]; rfl)) (hE.symm.trans hb7.2)
                · have hte := (qbp (i := i) (by omega) (by omega) hD hk (by omega)).1 (by rw [hr, ← hp]; omega)
                  exact qex (hP.symm.trans (by rw [hte.1])) (hE.symm.trans hte.2) hG0.symm hq rfl
                · have hte := (qbp (i := i) (by omega) (by omega) hD hk (by omega)).2 (by rw [hr, ← hp]; omega)
                  exact qbq (hP.symm.trans (by rw [hte.1]; rfl)) (hE.symm.trans hte.2)
          · cbv
            have a7 : at1I b i 7 = none := qch (qbc hok7 (by omega) (by omega))
            have a11 : at1I b i 11 = none := qch (qbc hok7 (by omega) (by omega))
            have hno : decI b i = ([], dropI b i) := qma (by omega) a5 a6 a7 a11
            have hD : Hu.dec (Hu.bl b) = (L, dropI b i) := by rw [hdec, hno]; simp
            obtain ⟨k, hk⟩ : ∃ k, k = 8 * ilen b - i := ⟨_, rfl⟩
            repeat' (first | (refine s_st hS ?_; try cbv) | (refine qai hS ?_ ?_ <;> intro h <;> (try cbv) <;> try exact s_ab h) | (refine qax hS ?_; intro _ _; try cbv) | (refine qjy hS ?_ (by simp only [lo]; omega) (by simp only [hi]; omega); intro _ _; cbv) | (refine qek hS rfl ?_; cbv) | (refine qhl hS hb hnb hn' hF rfl i k (by simp only [Z.v]; omega) (by simp only [Z.v]; omega) (by omega) (by omega) (by omega) (fun r hr => ?_); cbv) | (refine qks hS k (by omega) (by omega) (by omega) (by decide) (fun p hp hp1 hp2 => ?_); cbv) | fail)
            · have hb7 := qdz (i := i) (by omega) (by omega) hD (by omega)
              exact qbq (hP.symm.trans (by rw [hb7.1]; rfl)) (hE.symm.trans hb7.2)
            · have hte := (qbp (i := i) (by omega) (by omega) hD hk (by omega)).1 (by rw [hr, ← hp]; omega)
              exact qex (hP.symm.trans (by rw [hte.1])) (hE.symm.trans hte.2) hG0.symm hq rfl
            · have hte := (qbp (i := i) (by omega) (by omega) hD hk (by omega)).2 (by rw [hr, ← hp]; omega)
              exact qbq (hP.symm.trans (by rw [hte.1]; rfl)) (hE.symm.trans hte.2)
      · cbv
        have a6 : at1I b i 6 = none := qch (qbc hok6 (by omega) (by omega))
        have a7 : at1I b i 7 = none := qch (qbc hok6 (by omega) (by omega))
        have a11 : at1I b i 11 = none := qch (qbc hok6 (by omega) (by omega))
        have hno : decI b i = ([], dropI b i) := qma (by omega) a5 a6 a7 a11
        have hD : Hu.dec (Hu.bl b) = (L, dropI b i) := by rw [hdec, hno]; simp
        obtain ⟨k, hk⟩ : ∃ k, k = 8 * ilen b - i := ⟨_, rfl⟩
        repeat' (first | (refine s_st hS ?_; try cbv) | (refine qai hS ?_ ?_ <;> intro h <;> (try cbv) <;> try exact s_ab h) | (refine qax hS ?_; intro _ _; try cbv) | (refine qjy hS ?_ (by simp only [lo]; omega) (by simp only [hi]; omega); intro _ _; cbv) | (refine qek hS rfl ?_; cbv) | (refine qhl hS hb hnb hn' hF rfl i k (by simp only [Z.v]; omega) (by simp only [Z.v]; omega) (by omega) (by omega) (by omega) (fun r hr => ?_); cbv) | (refine qks hS k (by omega) (by omega) (by omega) (by decide) (fun p hp hp1 hp2 => ?_); cbv) | fail)
        · have hb7 := qdz (i := i) (by omega) (by omega) hD (by omega)
          exact qbq (hP.symm.trans (by rw [hb7.1]; rfl)) (hE.symm.trans hb7.2)
        · have hte := (qbp (i := i) (by omega) (by omega) hD hk (by omega)).1 (by rw [hr, ← hp]; omega)
          exact qex (hP.symm.trans (by rw [hte.1])) (hE.symm.trans hte.2) hG0.symm hq rfl
        · have hte := (qbp (i := i) (by omega) (by omega) hD hk (by omega)).2 (by rw [hr, ← hp]; omega)
          exact qbq (hP.symm.trans (by rw [hte.1]; rfl)) (hE.symm.trans hte.2)
  · cbv
    have a5 : at1I b i 5 = none := qch (qbc hok5 (by omega) (by omega))
    have a6 : at1I b i 6 = none := qch (qbc hok5 (by omega) (by omega))
    have a7 : at1I b i 7 = none := qch (qbc hok5 (by omega) (by omega))
    have a11 : at1I b i 11 = none := qch (qbc hok5 (by omega) (by omega))
    have hno : decI b i = ([], dropI b i) := qma (by omega) a5 a6 a7 a11
    have hD : Hu.dec (Hu.bl b) = (L, dropI b i) := by rw [hdec, hno]; simp
    obtain ⟨k, hk⟩ : ∃ k, k = 8 * ilen b - i := ⟨_, rfl⟩
    repeat' (first | (refine s_st hS ?_; try cbv) | (refine qai hS ?_ ?_ <;> intro h <;> (try cbv) <;> try exact s_ab h) | (refine qax hS ?_; intro _ _; try cbv) | (refine qjy hS ?_ (by simp only [lo]; omega) (by simp only [hi]; omega); intro _ _; cbv) | (refine qek hS rfl ?_; cbv) | (refine qhl hS hb hnb hn' hF rfl i k (by simp only [Z.v]; omega) (by simp only [Z.v]; omega) (by omega) (by omega) (by omega) (fun r hr => ?_); cbv) | (refine qks hS k (by omega) (by omega) (by omega) (by decide) (fun p hp hp1 hp2 => ?_); cbv) | fail)
    · have hb7 := qdz (i := i) (by omega) (by omega) hD (by omega)
      exact qbq (hP.symm.trans (by rw [hb7.1]; rfl)) (hE.symm.trans hb7.2)
    · have hte := (qbp (i := i) (by omega) (by omega) hD hk (by omega)).1 (by rw [hr, ← hp]; omega)
      exact qex (hP.symm.trans (by rw [hte.1])) (hE.symm.trans hte.2) hG0.symm hq rfl
    · have hte := (qbp (i := i) (by omega) (by omega) hD hk (by omega)).2 (by rw [hr, ← hp]; omega)
      exact qbq (hP.symm.trans (by rw [hte.1]; rfl)) (hE.symm.trans hte.2)
theorem take_f {b : List Int} (hb : Hu.BOk b) (hn : ilen b ≤ 1000000) :
    (S0 Tryz.prog).call 121 [.sl 0 1 (.l 0) (.y (ilen b)) none] [.r true true (.l 0) 1 (cellsB b)] (OwnR 1 1 (cellsB (takeL b)) true [.i .i64 (.y (takeE b))]) := by
  obtain ⟨n, hn'⟩ : ∃ n, n = ilen b := ⟨_, rfl⟩
  have h0n := qah b
  have hnb := hn
  rw [← hn'] at hn h0n ⊢
  have hpl := qab b
  generalize hF : cellsB b = F at hpl ⊢
  generalize hP : cellsB (takeL b) = P
  generalize hE : takeE b = E
  generalize hT : knownE 256 = T
  have hk := known_f hT
  generalize hS : S0 Tryz.prog = S
  refine qaa hS I.qzaft ?_
  cbv
  refine use_map hS (l0 := []) id hk .nil rfl trivial ?_
  cbv
  refine qmi hS 2 1 (by omega) rfl ?_
  cbv
  refine qag hS ?_
  cbv
  refine qle hS hb hnb hn' hF rfl 0 5 rfl rfl (by decide) (by decide) (fun hok5 r5 hr5 => ?_) (fun hok5 r5 => ?_)
  · cbv
    refine qdv hS hT (fun c hc c0 c1 => ?_) fun hc => ?_
    · cbv
      have hs : decI b 0 = ((c.toNat : Int) :: (decI b (0 + 5)).1, (decI b (0 + 5)).2) := dec_5 (by omega)  (by rw [qdd hok5 hr5]; exact hc)
      have hle : 0 + 5 ≤ 8 * ilen b := qjx hok5
      rw [Int.toNat_of_nonneg c0] at hs
      refine qqy hS 3 rfl ?_ ?_ ?_ (qqc hb hnb hn' hF hP hE hT hS (i1 := 5) (q1 := 1) (st1 := 0) (L1 := [c]) (G1 := [.i .u8 (.y c)]) (by omega) (by omega) rfl (by omega) rfl ?_)
      · cbv; (repeat' (first | exact qci | exact Sub.rfl | exact SubL.nil | refine SubL.cons ?_ ?_ | exact qae rfl | exact qbw rfl rfl))
      · cbv; exact ⟨.rfl, .rfl, .r .rfl rfl rfl, trivial⟩
      · cbv; exact gc_c (gc_m (qak hpl)) (gc_c (gc_k (hT ▸ qbl 256)) rfl)
      · rw [← qho, hs]; rfl
    · cbv
      have a5 : at1I b 0 5 = none := by rw [qdd hok5 hr5]; exact hc
      refine qag hS ?_
      cbv
      refine qle hS hb hnb hn' hF rfl 0 6 rfl rfl (by decide) (by decide) (fun hok6 r6 hr6 => ?_) (fun hok6 r6 => ?_)
      · cbv
        refine qdv hS hT (fun c hc c0 c1 => ?_) fun hc => ?_
        · cbv
          have hs : decI b 0 = ((c.toNat : Int) :: (decI b (0 + 6)).1, (decI b (0 + 6)).2) := dec_6 (by omega) a5 (by rw [qdd hok6 hr6]; exact hc)
          have hle : 0 + 6 ≤ 8 * ilen b := qjx hok6
          rw [Int.toNat_of_nonneg c0] at hs
          refine qqy hS 3 rfl ?_ ?_ ?_ (qqc hb hnb hn' hF hP hE hT hS (i1 := 6) (q1 := 1) (st1 := 0) (L1 := [c]) (G1 := [.i .u8 (.y c)]) (by omega) (by omega) rfl (by omega) rfl ?_)
          · cbv; (repeat' (first | exact qci | exact Sub.rfl | exact SubL.nil | refine SubL.cons ?_ ?_ | exact qae rfl | exact qbw rfl rfl))
          · cbv; exact ⟨.rfl, .rfl, .r .rfl rfl rfl, trivial⟩
          · cbv; exact gc_c (gc_m (qak hpl)) (gc_c (gc_k (hT ▸ qbl 256)) rfl)
          · rw [← qho, hs]; rfl
        · cbv
          have a6 : at1I b 0 6 = none := by rw [qdd hok6 hr6]; exact hc
          refine qag hS ?_
          cbv
          refine qle hS hb hnb hn' hF rfl 0 7 rfl rfl (by decide) (by decide) (fun hok7 r7 hr7 => ?_) (fun hok7 r7 => ?_)
          · cbv
            refine qdv hS hT (fun c hc c0 c1 => ?_) fun hc => ?_
            · cbv
              have hs : decI b 0 = ((c.toNat : Int) :: (decI b (0 + 7)).1, (decI b (0 + 7)).2) := dec_7 (by omega) a5 a6 (by rw [qdd hok7 hr7]; exact hc)
              have hle : 0 + 7 ≤ 8 * ilen b := qjx hok7
              rw [Int.toNat_of_nonneg c0] at hs
              refine qqy hS 3 rfl ?_ ?_ ?_ (qqc hb hnb hn' hF hP hE hT hS (i1 := 7) (q1 := 1) (st1 := 0) (L1 := [c]) (G1 := [.i .u8 (.y c)]) (by omega) (by omega) rfl (by omega) rfl ?_)
              · cbv; (repeat' (first | exact qci | exact Sub.rfl | exact SubL.nil | refine SubL.cons ?_ ?_ | exact qae rfl | exact qbw rfl rfl))
              · cbv; exact ⟨.rfl, .rfl, .r .rfl rfl rfl, trivial⟩
              · cbv; exact gc_c (gc_m (qak hpl)) (gc_c (gc_k (hT ▸ qbl 256)) rfl)
              · rw [← qho, hs]; rfl
            · cbv
              have a7 : at1I b 0 7 = none := by rw [qdd hok7 hr7]; exact hc
              refine qag hS ?_
              cbv
              refine qle hS hb hnb hn' hF rfl 0 11 rfl rfl (by decide) (by decide) (fun hok11 r11 hr11 => ?_) (fun hok11 r11 => ?_)
              · cbv
                refine qdv hS hT (fun c hc c0 c1 => ?_) fun hc => ?_
                · cbv
                  have hs : decI b 0 = ((c.toNat : Int) :: (decI b (0 + 11)).1, (decI b (0 + 11)).2) := dec_11 (by omega) a5 a6 a7 (by rw [qdd hok11 hr11]; exact hc)
                  have hle : 0 + 11 ≤ 8 * ilen b := qjx hok11
                  rw [Int.toNat_of_nonneg c0] at hs
                  refine qqy hS 3 rfl ?_ ?_ ?_ (qqc hb hnb hn' hF hP hE hT hS (i1 := 11) (q1 := 1) (st1 := 0) (L1 := [c]) (G1 := [.i .u8 (.y c)]) (by omega) (by omega) rfl (by omega) rfl ?_)
                  · cbv; (repeat' (first | exact qci | exact Sub.rfl | exact SubL.nil | refine SubL.cons ?_ ?_ | exact qae rfl | exact qbw rfl rfl))
                  · cbv; exact ⟨.rfl, .rfl, .r .rfl rfl rfl, trivial⟩
                  · cbv; exact gc_c (gc_m (qak hpl)) (gc_c (gc_k (hT ▸ qbl 256)) rfl)
                  · rw [← qho, hs]; rfl
                · cbv
                  have a11 : at1I b 0 11 = none := by rw [qdd hok11 hr11]; exact hc
                  refine qag hS ?_
                  cbv
                  have hno : decI b 0 = ([], dropI b 0) := qma (by omega) a5 a6 a7 a11
                  have hD : Hu.dec (Hu.bl b) = ([], dropI b 0) := by rw [← qho, hno]
                  obtain ⟨k, hk⟩ : ∃ k, k = 8 * ilen b - 0 := ⟨_, rfl⟩
                  repeat' (first | (refine s_st hS ?_; try cbv) | (refine qai hS ?_ ?_ <;> intro h <;> (try cbv) <;> try exact s_ab h) | (refine qax hS ?_; intro _ _; try cbv) | (refine qjy hS ?_ (by simp only [lo]; omega) (by simp only [hi]; omega); intro _ _; cbv) | (refine qek hS rfl ?_; cbv) | (refine qhl hS hb hnb hn' hF rfl 0 k (by simp only [Z.v]; omega) (by simp only [Z.v]; omega) (by omega) (by omega) (by omega) (fun r hr => ?_); cbv) | (refine qks hS k (by omega) (by omega) (by omega) (by decide) (fun p hp hp1 hp2 => ?_); cbv) | fail)
                  · have hb7 := qdz (i := 0) (by omega) (by omega) hD (by omega)
                    exact qbq (hP.symm.trans (by rw [hb7.1]; rfl)) (hE.symm.trans hb7.2)
                  · have hte := (qbp (i := 0) (by omega) (by omega) hD hk (by omega)).1 (by rw [hr, ← hp]; omega)
                    exact qex (hP.symm.trans (by rw [hte.1])) (hE.symm.trans hte.2) rfl rfl rfl
                  · have hte := (qbp (i := 0) (by omega) (by omega) hD hk (by omega)).2 (by rw [hr, ← hp]; omega)
                    exact qbq (hP.symm.trans (by rw [hte.1]; rfl)) (hE.symm.trans hte.2)
              · cbv
                have a11 : at1I b 0 11 = none := qch (qbc hok11 (by omega) (by omega))
                have hno : decI b 0 = ([], dropI b 0) := qma (by omega) a5 a6 a7 a11
                have hD : Hu.dec (Hu.bl b) = ([], dropI b 0) := by rw [← qho, hno]
                obtain ⟨k, hk⟩ : ∃ k, k = 8 * ilen b - 0 := ⟨_, rfl⟩
                repeat' (first | (refine s_st hS ?_; try cbv) | (refine qai hS ?_ ?_ <;> intro h <;> (try cbv) <;> try exact s_ab h) | (refine qax hS ?_; intro _ _; try cbv) | (refine qjy hS ?_ (by simp only [lo]; omega) (by simp only [hi]; omega); intro _ _; cbv) | (refine qek hS rfl ?_; cbv) | (refine qhl hS hb hnb hn' hF rfl 0 k (by simp only [Z.v]; omega) (by simp only [Z.v]; omega) (by omega) (by omega) (by omega) (fun r hr => ?_); cbv) | (refine qks hS k (by omega) (by omega) (by omega) (by decide) (fun p hp hp1 hp2 => ?_); cbv) | fail)
                · have hb7 := qdz (i := 0) (by omega) (by omega) hD (by omega)
                  exact qbq (hP.symm.trans (by rw [hb7.1]; rfl)) (hE.symm.trans hb7.2)
                · have hte := (qbp (i := 0) (by omega) (by omega) hD hk (by omega)).1 (by rw [hr, ← hp]; omega)
                  exact qex (hP.symm.trans (by rw [hte.1])) (hE.symm.trans hte.2) rfl rfl rfl
                · have hte := (qbp (i := 0) (by omega) (by omega) hD hk (by omega)).2 (by rw [hr, ← hp]; omega)
                  exact qbq (hP.symm.trans (by rw [hte.1]; rfl)) (hE.symm.trans hte.2)
          · cbv
            have a7 : at1I b 0 7 = none := qch (qbc hok7 (by omega) (by omega))
            have a11 : at1I b 0 11 = none := qch (qbc hok7 (by omega) (by omega))
            have hno : decI b 0 = ([], dropI b 0) := qma (by omega) a5 a6 a7 a11
            have hD : Hu.dec (Hu.bl b) = ([], dropI b 0) := by rw [← qho, hno]
            obtain ⟨k, hk⟩ : ∃ k, k = 8 * ilen b - 0 := ⟨_, rfl⟩
            repeat' (first | (refine s_st hS ?_; try cbv) | (refine qai hS ?_ ?_ <;> intro h <;> (try cbv) <;> try exact s_ab h) | (refine qax hS ?_; intro _ _; try cbv) | (refine qjy hS ?_ (by simp only [lo]; omega) (by simp only [hi]; omega); intro _ _; cbv) | (refine qek hS rfl ?_; cbv) | (refine qhl hS hb hnb hn' hF rfl 0 k (by simp only [Z.v]; omega) (by simp only [Z.v]; omega) (by omega) (by omega) (by omega) (fun r hr => ?_); cbv) | (refine qks hS k (by omega) (by omega) (by omega) (by decide) (fun p hp hp1 hp2 => ?_); cbv) | fail)
            · have hb7 := qdz (i := 0) (by omega) (by omega) hD (by omega)
              exact qbq (hP.symm.trans (by rw [hb7.1]; rfl)) (hE.symm.trans hb7.2)
            · have hte := (qbp (i := 0) (by omega) (by omega) hD hk (by omega)).1 (by rw [hr, ← hp]; omega)
              exact qex (hP.symm.trans (by rw [hte.1])) (hE.symm.trans hte.2) rfl rfl rfl
            · have hte := (qbp (i := 0) (by omega) (by omega) hD hk (by omega)).2 (by rw [hr, ← hp]; omega)
              exact qbq (hP.symm.trans (by rw [hte.1]; rfl)) (hE.symm.trans hte.2)
      · cbv
        have a6 : at1I b 0 6 = none := qch (qbc hok6 (by omega) (by omega))
        have a7 : at1I b 0 7 = none := qch (qbc hok6 (by omega) (by omega))
        have a11 : at1I b 0 11 = none := qch (qbc hok6 (by omega) (by omega))
        have hno : decI b 0 = ([], dropI b 0) := qma (by omega) a5 a6 a7 a11
        have hD : Hu.dec (Hu.bl b) = ([], dropI b 0) := by rw [← qho, hno]
        obtain ⟨k, hk⟩ : ∃ k, k = 8 * ilen b - 0 := ⟨_, rfl⟩
        repeat' (first | (refine s_st hS ?_; try cbv) | (refine qai hS ?_ ?_ <;> intro h <;> (try cbv) <;> try exact s_ab h) | (refine qax hS ?_; intro _ _; try cbv) | (refine qjy hS ?_ (by simp only [lo]; omega) (by simp only [hi]; omega); intro _ _; cbv) | (refine qek hS rfl ?_; cbv) | (refine qhl hS hb hnb hn' hF rfl 0 k (by simp only [Z.v]; omega) (by simp only [Z.v]; omega) (by omega) (by omega) (by omega) (fun r hr => ?_); cbv) | (refine qks hS k (by omega) (by omega) (by omega) (by decide) (fun p hp hp1 hp2 => ?_); cbv) | fail)
        · have hb7 := qdz (i := 0) (by omega) (by omega) hD (by omega)
          exact qbq (hP.symm.trans (by rw [hb7.1]; rfl)) (hE.symm.trans hb7.2)
        · have hte := (qbp (i := 0) (by omega) (by omega) hD hk (by omega)).1 (by rw [hr, ← hp]; omega)
          exact qex (hP.symm.trans (by rw [hte.1])) (hE.symm.trans hte.2) rfl rfl rfl
        · have hte := (qbp (i := 0) (by omega) (by omega) hD hk (by omega)).2 (by rw [hr, ← hp]; omega)
          exact qbq (hP.symm.trans (by rw [hte.1]; rfl)) (hE.symm.trans hte.2)
  · cbv
    have a5 : at1I b 0 5 = none := qch (qbc hok5 (by omega) (by omega))
    have a6 : at1I b 0 6 = none := qch (qbc hok5 (by omega) (by omega))
    have a7 : at1I b 0 7 = none := qch (qbc hok5 (by omega) (by omega))
    have a11 : at1I b 0 11 = none := qch (qbc hok5 (by omega) (by omega))
    have hno : decI b 0 = ([], dropI b 0) := qma (by omega) a5 a6 a7 a11
    have hD : Hu.dec (Hu.bl b) = ([], dropI b 0) := by rw [← qho, hno]
    obtain ⟨k, hk⟩ : ∃ k, k = 8 * ilen b - 0 := ⟨_, rfl⟩
    repeat' (first | (refine s_st hS ?_; try cbv) | (refine qai hS ?_ ?_ <;> intro h <;> (try cbv) <;> try exact s_ab h) | (refine qax hS ?_; intro _ _; try cbv) | (refine qjy hS ?_ (by simp only [lo]; omega) (by simp only [hi]; omega); intro _ _; cbv) | (refine qek hS rfl ?_; cbv) | (refine qhl hS hb hnb hn' hF rfl 0 k (by simp only [Z.v]; omega) (by simp only [Z.v]; omega) (by omega) (by omega) (by omega) (fun r hr => ?_); cbv) | (refine qks hS k (by omega) (by omega) (by omega) (by decide) (fun p hp hp1 hp2 => ?_); cbv) | fail)
    · have hb7 := qdz (i := 0) (by omega) (by omega) hD (by omega)
      exact qbq (hP.symm.trans (by rw [hb7.1]; rfl)) (hE.symm.trans hb7.2)
    · have hte := (qbp (i := 0) (by omega) (by omega) hD hk (by omega)).1 (by rw [hr, ← hp]; omega)
      exact qex (hP.symm.trans (by rw [hte.1])) (hE.symm.trans hte.2) rfl rfl rfl
    · have hte := (qbp (i := 0) (by omega) (by omega) hD hk (by omega)).2 (by rw [hr, ← hp]; omega)
      exact qbq (hP.symm.trans (by rw [hte.1]; rfl)) (hE.symm.trans hte.2)
end Cz
namespace Cz
open Go Go.RowKit Go.Proofs
def satI (x : List UInt8) (i : Int) : Int := (x.getD i.toNat 0).toNat
theorem sat_eq {P : Program} {x : List UInt8} {i : Int} : (S0 P).sat x i = satI x i := rfl
theorem qzagu {x : List UInt8} {i : Nat} {c : Int} (h0 : 0 ≤ c) (h : c < 256) : satI x i = c ↔ (x.getD i 0 == c.toNat.toUInt8) = true := by
  unfold satI
  rw [Int.toNat_natCast, beq_iff_eq]
  constructor
  · intro e
    apply UInt8.toNat_inj.1
    rw [UInt8.toNat_ofNat', ← e, Int.toNat_natCast]
    have := (x.getD i 0).toNat_lt
    omega
  · intro e
    rw [e]
    simp only [Nat.toUInt8, UInt8.toNat_ofNat']
    omega
theorem idx_found {x : List UInt8} {c j : Int} (h0 : 0 ≤ c) (h : c < 256) (hj0 : 0 ≤ j) (hj : j < ilen x) (hn : ∀ i : Nat, (i : Int) < j → satI x i ≠ c) (he : satI x j = c) : idxI x c = j := by
  unfold idxI
  have : (List.range x.length).find? (fun i => x.getD i 0 == c.toNat.toUInt8) = some j.toNat := by
    rw [List.find?_range_eq_some]
    have he' : (x.getD j.toNat 0 == c.toNat.toUInt8) = true := (qzagu h0 h).1 (by rw [Int.toNat_of_nonneg hj0]; exact he)
    refine ⟨he', by simp only [List.mem_range]; unfold ilen at hj; omega, ?_⟩
    intro i hi
    have h1 := hn i (by omega)
    rw [Ne, qzagu h0 h] at h1
    simpa using h1
  rw [this]
  show ((j.toNat : Nat) : Int) = j
  omega
theorem idx_none {x : List UInt8} {c : Int} (h0 : 0 ≤ c) (h : c < 256) (hn : ∀ i : Nat, (i : Int) < ilen x → satI x i ≠ c) : idxI x c = -1 := by
  unfold idxI
  have : (List.range x.length).find? (fun i => x.getD i 0 == c.toNat.toUInt8) = none := by
    rw [List.find?_eq_none]
    intro i hi
    simp only [List.mem_range] at hi
    have h1 := hn i (by unfold ilen; omega)
    rw [Ne, qzagu h0 h] at h1
    exact h1
  rw [this]
theorem nc (n : Nat) : NatCast.natCast n = (n : Int) := rfl
theorem place_f {x : List UInt8} {c r : Int} (hx : ilen x ≤ 1000) (h0 : 0 ≤ c) (hc : c < 256) (hr : idxI x c = r) : (S0 Tryz.prog).call 124 [.s x, .i .u8 (.y c)] [] (fun y _ => Sub y (.i .i64 (.y r))) := by
  have hnx : (S0 Tryz.prog).slen x = ilen x := rfl
  rw [slen_eq] at hnx
  have hx0 := qah x
  generalize hS : S0 Tryz.prog = S
  refine qaa hS I.qnt ?_
  cbv
  refine qav hS 0 I.qil (fun j : Int => 0 ≤ j ∧ j ≤ ilen x ∧ ∀ i : Nat, (i : Int) < j → satI x i ≠ c)
    (fun j => [(5, .i .i64 (.y j))]) (fun _ => []) (fun j => (ilen x - j).toNat) 0 rfl ⟨⟨Int.le_refl _, by omega, fun i hi => by omega⟩, rfl, ?_, ?_, by cbv⟩ ?_
  · cbv; all_goals exact s_sA
  · cbv; all_goals exact s_bA
  intro j hj
  cbv
  obtain ⟨g0, g1, g2'⟩ := hj
  have g2 : ∀ i : Nat, (i : Int) < j → satI x i ≠ c := g2'
  repeat' (first | (refine s_st hS ?_; try cbv) | (refine qai hS ?_ ?_ <;> intro h <;> (try cbv) <;> try exact s_ab h) | (refine qax hS ?_; intro _ _; try cbv) | fail)
  · refine qae ?_
    rw [sat_eq] at h
    simp only [Z.v]
    rw [← hr]; exact (idx_found h0 hc g0 (by omega) g2 h).symm
  · rw [sat_eq] at h
    rename_i j2 hj2
    have g3 : ∀ i : Nat, (i : Int) < j2 → satI x i ≠ c := by
      intro i hi
      rcases Int.lt_or_le i j with hl | hl
      · exact g2 i hl
      · have e : (i : Int) = j := by omega
        rw [e]; exact h
    refine ⟨j2, by omega, ⟨by omega, by omega, g3⟩, rfl, ?_, ?_, by cbv⟩
    · cbv; all_goals exact s_sA
    · cbv; all_goals exact s_bA
  · refine qae ?_
    simp only [Z.v]
    have g2 : ∀ i : Nat, (i : Int) < j → satI x i ≠ c := g2'
    simp only [nc] at *
    rw [← hr]; exact (idx_none h0 hc fun i hi => g2 i (by omega)).symm
theorem qef {S : Sy} (hS : S0 Tryz.prog = S) {l : List Blk} {K : SV → List Blk → Prop} {x : List UInt8} {c : Z} (hx : ilen x ≤ 1000) (h0 : 0 ≤ c.v) (h : c.v < 256) (hK : ∀ r, idxI x c.v = r → K (.i .i64 (.y r)) l) :
    S.call 124 [.s x, .i .u8 c] l K :=
  qbf hS (place_f (c := c.v) hx h0 h rfl) (.cons .rfl (.cons (qae rfl) .nil)) rfl rfl (hK _ rfl)
def w18 : List UInt8 := [45, 47, 48, 49, 50, 51, 97, 99, 101, 105, 110, 111, 114, 115, 116, 117, 46, 52, 53, 54, 55, 56, 57, 58, 98, 100, 102, 103, 104, 108, 109, 112, 65, 66, 67, 68, 69, 70, 71, 72, 106, 107, 113, 118, 119, 120, 121, 122]
theorem w18_all : (List.range 256).all (fun n => has w18 n == !(Hu.cls n == 11)) = true := by decide +kernel
theorem w18_at {c : Int} (h0 : 0 ≤ c) (h : c < 256) : (Hu.cls c.toNat = 11 ∧ idxI w18 c < 0) ∨ (Hu.cls c.toNat ≠ 11 ∧ 0 ≤ idxI w18 c) := by
  obtain ⟨n, rfl⟩ : ∃ n : Nat, c = n := ⟨c.toNat, by omega⟩
  have h1 := List.all_eq_true.1 w18_all n (by simp; omega)
  simp only [Int.toNat_natCast] at *
  by_cases e : Hu.cls n = 11
  · exact .inl ⟨e, qhm (by simpa [e] using h1)⟩
  · exact .inr ⟨e, qvb (by rw [beq_iff_eq] at h1; rw [h1]; simp [e])⟩
theorem idx_all : (List.range 256).all (fun n => (!(Hu.cls n == 5) || (idxI w5 n == (Hu.codeOf n : Int))) && ((!(Hu.cls n == 6) || (32 + idxI w6 n == (Hu.codeOf n : Int))) && (!(Hu.cls n == 7) || (96 + idxI w7 n == (Hu.codeOf n : Int))))) = true := by decide +kernel
theorem idx_code {c : Int} (h0 : 0 ≤ c) (h : c < 256) : (Hu.cls c.toNat = 5 → idxI w5 c = codeI c) ∧ (Hu.cls c.toNat = 6 → 32 + idxI w6 c = codeI c) ∧ (Hu.cls c.toNat = 7 → 96 + idxI w7 c = codeI c) := by
  obtain ⟨n, rfl⟩ : ∃ n : Nat, c = n := ⟨c.toNat, by omega⟩
  have h1 := List.all_eq_true.1 idx_all n (by simp; omega)
  simp only [Bool.and_eq_true, Bool.or_eq_true, Bool.not_eq_true', beq_eq_false_iff_ne, beq_iff_eq] at h1
  unfold codeI
  simp only [Int.toNat_natCast] at *
  exact ⟨fun e => h1.1.resolve_left (by simp [e]), fun e => h1.2.1.resolve_left (by simp [e]), fun e => h1.2.2.resolve_left (by simp [e])⟩
theorem others_f {c r : Int} (h0 : 0 ≤ c) (hc : c < 256) (hr : cntI 11 c = r) : (S0 Tryz.prog).call 125 [.i .u8 (.y c)] [] (fun y _ => Sub y (.i .i64 (.y r))) := by
  generalize hS : S0 Tryz.prog = S
  refine qaa hS I.qlx ?_
  cbv
  refine qav hS 0 I.qhs (fun x : Int × Int => 0 ≤ x.1 ∧ x.1 ≤ c ∧ x.2 = cntI 11 x.1)
    (fun x => [(4, .i .i64 (.y x.1)), (3, .i .i64 (.y x.2))]) (fun _ => []) (fun x => (c - x.1).toNat) (0, 0) rfl ⟨⟨Int.le_refl _, by dsimp only; omega, rfl⟩, rfl, ?_, ?_, by cbv⟩ ?_
  · cbv; all_goals exact s_sA
  · cbv; all_goals exact s_bA
  intro x
  obtain ⟨j, w⟩ := x
  intro hx
  dsimp only at hx
  cbv
  obtain ⟨g0, g1, g2⟩ := hx
  have hw : 0 ≤ w ∧ w ≤ j := by rw [g2]; exact qjs g0
  refine s_cvi hS ?_ (by simp only [lo]; omega) (by simp only [hi]; omega)
  cbv
  refine qai hS ?_ ?_ <;> intro h <;> cbv
  · repeat' (first | (refine qbr hS ?_; try cbv) | fail)
    rcases w18_at g0 (by omega) with ⟨e, hq⟩ | ⟨e, hq⟩
    · refine qef hS (by decide) g0 (by simp only [Z.v]; omega) fun r18 h18 => ?_
      replace h18 : r18 < 0 := by rw [← h18]; exact hq
      cbv
      repeat' (first | (refine qai hS ?_ ?_ <;> intro h <;> (try cbv) <;> try exact s_ab h) | (refine qax hS ?_; intro _ _; try cbv) | fail)
      rename_i w2 hw2 j2 hj2
      have n11 := qas (m := 11) g0
      rw [if_pos e, ← hj2] at n11
      have g2 : w = cntI 11 j := g2
      refine ⟨(j2, w2), by dsimp only; omega, ⟨by dsimp only; omega, by dsimp only; omega, by dsimp only; omega⟩, rfl, ?_, ?_, by cbv⟩
      · cbv; all_goals exact s_sA
      · cbv; all_goals exact s_bA
    · refine qef hS (by decide) g0 (by simp only [Z.v]; omega) fun r18 h18 => ?_
      replace h18 : 0 ≤ r18 := by rw [← h18]; exact hq
      cbv
      repeat' (first | (refine qai hS ?_ ?_ <;> intro h <;> (try cbv) <;> try exact s_ab h) | (refine qax hS ?_; intro _ _; try cbv) | fail)
      rename_i j2 hj2
      have n11 := qas (m := 11) g0
      rw [if_neg e, ← hj2] at n11
      have g2 : w = cntI 11 j := g2
      refine ⟨(j2, w), by dsimp only; omega, ⟨by dsimp only; omega, by dsimp only; omega, by dsimp only; omega⟩, rfl, ?_, ?_, by cbv⟩
      · cbv; all_goals exact s_sA
      · cbv; all_goals exact s_bA
  · refine qae ?_
    simp only [Z.v]
    rw [← hr, g2, show j = c by omega]
theorem others_u {S : Sy} (hS : S0 Tryz.prog = S) {l : List Blk} {K : SV → List Blk → Prop} {c : Z} (h0 : 0 ≤ c.v) (h : c.v < 256) (hK : ∀ r, cntI 11 c.v = r → K (.i .i64 (.y r)) l) :
    S.call 125 [.i .u8 c] l K :=
  qbf hS (others_f (c := c.v) h0 h rfl) (.cons (qae rfl) .nil) rfl rfl (hK _ rfl)
theorem rCode_f {c a m : Int} (h0 : 0 ≤ c) (hc : c < 256) (ha : codeI c = a) (hm : clsI c = m) : (S0 Tryz.prog).call 114 [.i .u8 (.y c)] [] (fun x _ => Sub x (.tp [.i .i64 (.y a), .i .i64 (.y m)])) := by
  obtain ⟨x5, x6, x7⟩ := idx_code h0 hc
  have cb := qzada ⟨h0, hc⟩
  rw [ha] at x5 x6 x7 cb
  generalize hS : S0 Tryz.prog = S
  refine qaa hS I.qpp ?_
  cbv
  rcases idx_at h0 hc with ⟨e, i5, i6, i7⟩ | ⟨e, i5, i6, i7⟩ | ⟨e, i5, i6, i7⟩ | ⟨e, i5, i6, i7⟩
  · have x5 := x5 e
    have em : m = 5 := by rw [← hm]; unfold clsI; rw [e]; rfl
    refine qef hS (by decide) h0 hc fun r h => ?_
    replace h : r = idxI w5 c := h.symm
    cbv
    repeat' (first | (refine qai hS ?_ ?_ <;> intro h <;> (try cbv) <;> try exact s_ab h) | fail)
    refine qef hS (by decide) h0 hc fun s h => ?_
    replace h : s = idxI w5 c := h.symm
    cbv
    all_goals exact s_sA
  · have x6 := x6 e
    have em : m = 6 := by rw [← hm]; unfold clsI; rw [e]; rfl
    refine qef hS (by decide) h0 hc fun r h => ?_
    replace h : r = idxI w5 c := h.symm
    cbv
    repeat' (first | (refine qai hS ?_ ?_ <;> intro h <;> (try cbv) <;> try exact s_ab h) | fail)
    refine qef hS (by decide) h0 hc fun r h => ?_
    replace h : r = idxI w6 c := h.symm
    cbv
    repeat' (first | (refine qai hS ?_ ?_ <;> intro h <;> (try cbv) <;> try exact s_ab h) | fail)
    refine qef hS (by decide) h0 hc fun s h => ?_
    replace h : s = idxI w6 c := h.symm
    cbv
    repeat' (first | (refine qax hS ?_; intro _ _; try cbv) | fail)
    all_goals exact s_sA
  · have x7 := x7 e
    have em : m = 7 := by rw [← hm]; unfold clsI; rw [e]; rfl
    refine qef hS (by decide) h0 hc fun r h => ?_
    replace h : r = idxI w5 c := h.symm
    cbv
    repeat' (first | (refine qai hS ?_ ?_ <;> intro h <;> (try cbv) <;> try exact s_ab h) | fail)
    refine qef hS (by decide) h0 hc fun r h => ?_
    replace h : r = idxI w6 c := h.symm
    cbv
    repeat' (first | (refine qai hS ?_ ?_ <;> intro h <;> (try cbv) <;> try exact s_ab h) | fail)
    refine qef hS (by decide) h0 hc fun r h => ?_
    replace h : r = idxI w7 c := h.symm
    cbv
    repeat' (first | (refine qai hS ?_ ?_ <;> intro h <;> (try cbv) <;> try exact s_ab h) | fail)
    refine qef hS (by decide) h0 hc fun s h => ?_
    replace h : s = idxI w7 c := h.symm
    cbv
    repeat' (first | (refine qax hS ?_; intro _ _; try cbv) | fail)
    all_goals exact s_sA
  · have x11 : a = 1792 + cntI 11 c := by rw [← ha, qmx e]; rfl
    have em : m = 11 := by rw [← hm]; unfold clsI; rw [e]; rfl
    refine qef hS (by decide) h0 hc fun r h => ?_
    replace h : r = idxI w5 c := h.symm
    cbv
    repeat' (first | (refine qai hS ?_ ?_ <;> intro h <;> (try cbv) <;> try exact s_ab h) | fail)
    refine qef hS (by decide) h0 hc fun r h => ?_
    replace h : r = idxI w6 c := h.symm
    cbv
    repeat' (first | (refine qai hS ?_ ?_ <;> intro h <;> (try cbv) <;> try exact s_ab h) | fail)
    refine qef hS (by decide) h0 hc fun r h => ?_
    replace h : r = idxI w7 c := h.symm
    cbv
    repeat' (first | (refine qai hS ?_ ?_ <;> intro h <;> (try cbv) <;> try exact s_ab h) | fail)
    refine others_u hS h0 hc fun s h => ?_
    replace h : s = cntI 11 c := h.symm
    cbv
    repeat' (first | (refine qax hS ?_; intro _ _; try cbv) | fail)
    all_goals exact s_sA
theorem qzaha {S : Sy} (hS : S0 Tryz.prog = S) {l : List Blk} {K : SV → List Blk → Prop} {c : Z} (h0 : 0 ≤ c.v) (h : c.v < 256) (hK : ∀ a m, codeI c.v = a → clsI c.v = m → K (.tp [.i .i64 (.y a), .i .i64 (.y m)]) l) :
    S.call 114 [.i .u8 c] l K :=
  qbf hS (rCode_f (c := c.v) h0 h rfl rfl) (.cons (qae rfl) .nil) rfl rfl (hK _ _ rfl rfl)
theorem find_at {a m i : Int} (h0 : 0 ≤ i) (h : i < 256) (h1 : codeI i = a) (h2 : clsI i = m) : findR a m = i ∧ findB a m = true := by
  have : findO a m = some i.toNat := by
    unfold findO codeI clsI at *
    rw [← h1, ← h2, if_pos ⟨by omega, by omega⟩]
    simp only [Int.toNat_natCast]
    exact Hu.qxl (by omega)
  unfold findR findB
  rw [this]
  refine ⟨?_, rfl⟩
  show ((i.toNat : Nat) : Int) = i
  omega
theorem find_not {a m : Int} (h : ∀ i : Int, 0 ≤ i → i < 256 → ¬(codeI i = a ∧ clsI i = m)) : findR a m = 0 ∧ findB a m = false := by
  have : findO a m = none := by
    cases hf : findO a m with
    | none => rfl
    | some c => obtain ⟨h1, h2, h3⟩ := qmq hf; exact absurd ⟨h2, h3⟩ (h c (by omega) (by omega))
  unfold findR findB
  rw [this]; exact ⟨rfl, rfl⟩
theorem rOf_f {a m r : Int} {b : Bool} (hr : findR a m = r) (hb : findB a m = b) : (S0 Tryz.prog).call 141 [.i .i64 (.y a), .i .i64 (.y m)] [] (fun x _ => Sub x (.tp [.i .u8 (.y r), .b b])) := by
  generalize hS : S0 Tryz.prog = S
  refine qaa hS I.qsw ?_
  cbv
  refine qav hS 0 I.qmd (fun j : Int => 0 ≤ j ∧ j ≤ 256 ∧ ∀ i : Int, 0 ≤ i → i < j → ¬(codeI i = a ∧ clsI i = m))
    (fun j => [(6, .i .i64 (.y j))]) (fun _ => []) (fun j => (256 - j).toNat) 0 rfl ⟨⟨Int.le_refl _, by omega, fun i h h' => by omega⟩, rfl, ?_, ?_, by cbv⟩ ?_
  · cbv; all_goals exact s_sA
  · cbv; all_goals exact s_bA
  intro j hj
  cbv
  obtain ⟨g0, g1, g2⟩ := hj
  refine qai hS ?_ ?_ <;> intro h <;> cbv
  · repeat' (first | (refine qai hS ?_ ?_ <;> intro h <;> (try cbv) <;> try exact s_ab h) | (refine qax hS ?_; intro _ _; try cbv) | (refine qbr hS ?_; try cbv) | (refine qzaha hS g0 (by simp only [Z.v]; omega) fun x y hx hy => ?_; cbv) | fail)
    · rename_i e1 e2
      have hf := find_at (a := a) (m := m) g0 (by assumption) (hx.trans (by assumption)) (hy.trans (by assumption))
      have e1 : r = j := by rw [← hr, hf.1]
      have e2 : b = true := by rw [← hb, hf.2]
      all_goals exact s_sA
    · rename_i e1 j2 hj2
      refine ⟨j2, by omega, ⟨by omega, by omega, fun i h0 h1 => ?_⟩, rfl, ?_, ?_, by cbv⟩
      · rcases Int.lt_or_le i j with hl | hl
        · exact g2 i h0 hl
        · obtain rfl : i = j := by omega
          rintro ⟨e3, e4⟩
          exact absurd (hy.symm.trans e4) (by assumption)
      · cbv; all_goals exact s_sA
      · cbv; all_goals exact s_bA
    · rename_i j2 hj2
      refine ⟨j2, by omega, ⟨by omega, by omega, fun i h0 h1 => ?_⟩, rfl, ?_, ?_, by cbv⟩
      · rcases Int.lt_or_le i j with hl | hl
        · exact g2 i h0 hl
        · obtain rfl : i = j := by omega
          rintro ⟨e3, e4⟩
          exact absurd (hx.symm.trans e3) (by assumption)
      · cbv; all_goals exact s_sA
      · cbv; all_goals exact s_bA
  · have := find_not (a := a) (m := m) fun i h0 h1 => g2 i h0 (by omega)
    have e1 : r = 0 := by rw [← hr, this.1]
    have e2 : b = false := by rw [← hb, this.2]
    all_goals exact s_sA
end Cz
namespace Cz
open Go Go.RowKit Go.Proofs
theorem qzaei {S : Sy} {k : IntKind} {a b : Int} {K : Int → Prop} (hS : S0 Tryz.prog = S) (h0 : 0 ≤ a) (hb : 0 < b) (h1 : a ≤ Cz.hi k) (h : ∀ r, r = a / b → K r) : S.ar .quo k a b K := by
  refine qtv hS _ ?_ (h _ rfl)
  show k.wrap (a.tdiv b) = _
  rw [Int.tdiv_eq_ediv_of_nonneg h0]
  have h2 := Int.ediv_nonneg h0 (by omega : 0 ≤ b)
  have h3 := Int.ediv_le_self b h0
  exact qit (by have := qzabw k; omega) (by omega)
theorem qzagv {S : Sy} {k : IntKind} {a b : Int} {K : Int → Prop} (hS : S0 Tryz.prog = S) (h0 : 0 ≤ a) (h : ∀ r, r = a % b → K r) : S.ar .rem k a b K := by
  refine qtv hS _ ?_ (h _ rfl)
  show a.tmod b = _
  exact Int.tmod_eq_emod_of_nonneg h0
theorem rBits_f {b : List Int} {r : Int} (hb : Hu.BOk b) (hn : ilen b ≤ 1000000) (hr : bitsI b (ilen b) = r) :
    (S0 Tryz.prog).call 104 [.sl 0 1 (.l 0) (.y (ilen b)) none] [.r true true (.l 0) 1 (cellsB b)] (fun x _ => Sub x (.i .i64 (.y r))) := by
  obtain ⟨n, hn'⟩ : ∃ n, n = ilen b := ⟨_, rfl⟩
  have h0n := qah b
  rw [← hn'] at hn h0n hr ⊢
  have hpl := qab b
  generalize hF : cellsB b = F at hpl ⊢
  generalize hS : S0 Tryz.prog = S
  refine qaa hS I.qpq ?_
  cbv
  refine qav hS 1 I.qjp (fun x : Int × Int => 0 ≤ x.1 ∧ x.1 ≤ n ∧ x.2 = bitsI b x.1)
    (fun x => [(4, .i .i64 (.y x.1)), (3, .i .i64 (.y x.2))]) (fun x => [])
    (fun x => (n - x.1).toNat) (0, 0) rfl ⟨⟨Int.le_refl _, by dsimp only; omega, rfl⟩, rfl, ?_, ?_, ?_⟩ ?_
  · cbv; all_goals exact s_sA
  · cbv; all_goals exact s_bA
  · cbv; exact gc_c (gc_m (qak hpl)) rfl
  · intro x
    obtain ⟨j, w⟩ := x
    intro hx
    dsimp only at hx
    cbv
    obtain ⟨g0, g1, g2⟩ := hx
    repeat' (first | (refine s_st hS ?_; try cbv) | (refine qai hS ?_ ?_ <;> intro h <;> (try cbv) <;> try exact s_ab h) | fail)
    · obtain ⟨v, hv⟩ := qei (l := b) (i := j) (by omega) (by omega)
      have hb0 := hb v (List.mem_of_getElem? hv)
      obtain ⟨m, hm⟩ : ∃ m, clsI v = m := ⟨_, rfl⟩
      have hmb := qtc v
      rw [hm] at hmb
      have hbd := qhi (b := b) g0
      have hnx := qmz hv g0
      rw [hm] at hnx
      repeat' (first | (refine qax hS ?_; intro _ _; try cbv) | (refine rowB hS hF hv rfl (by omega) ?_; try cbv) | (refine qzaha hS hb0.1 hb0.2 fun a m' ha hm' => ?_; obtain rfl : m' = m := hm'.symm.trans hm; cbv) | fail)
      rename_i w2 hw2 j2 hj2
      refine ⟨(j2, w2), by dsimp only; omega, ⟨by dsimp only; omega, by dsimp only; omega, by dsimp only; rw [hj2, hnx]; omega⟩, rfl, ?_, ?_, ?_⟩
      · cbv; all_goals exact s_sA
      · cbv; all_goals exact s_bA
      · cbv; exact gc_c (gc_m (qak hpl)) rfl
    · have e : w = r := by rw [← hr, g2, show j = n by omega]
      all_goals exact s_sA
def shortB (b : List Int) : Bool := decide ((bitsI b (ilen b) + 7) / 8 < ilen b)
theorem Shorter_f {b : List Int} {t : Bool} (hb : Hu.BOk b) (hn : ilen b ≤ 1000000) (ht : shortB b = t) :
    (S0 Tryz.prog).call 81 [.sl 0 1 (.l 0) (.y (ilen b)) none] [.r true true (.l 0) 1 (cellsB b)] (fun x _ => Sub x (.b t)) := by
  have hB := Bits_f hb hn rfl
  obtain ⟨r, hr⟩ : ∃ r, bitsI b (ilen b) = r := ⟨_, rfl⟩
  have hrb := qhi (b := b) (qah b)
  obtain ⟨n, hn'⟩ : ∃ n, ilen b = n := ⟨_, rfl⟩
  have h0n := qah b
  have ht' : t = decide ((r + 7) / 8 < n) := by rw [← ht, ← hr, ← hn']; rfl
  rw [hr] at hrb hB
  rw [hn'] at hn h0n hrb hB ⊢
  have hpl := qab b
  generalize hF : cellsB b = F at hpl hB ⊢
  generalize hS : S0 Tryz.prog = S
  refine qaa hS I.qxk ?_
  cbv
  refine qda hS id hB .rfl rfl ⟨⟨true, .l 0, 1, F, true, true, .l 0, F, rfl, hpl, rfl, .rfl⟩, trivial⟩ rfl ?_
  cbv
  repeat' (first | (refine qax hS ?_; intro _ _; try cbv) | (refine qcs hS (c := 8) rfl ?_; intro _ _; cbv) | fail)
  rename_i e
  refine qqd ?_
  simp only [← hS, Int.ofNat_eq_natCast, cq, Bool.not_eq_true', Bool.not_eq_false', decide_eq_true_eq, decide_eq_false_iff_not, beq_iff_eq, beq_eq_false_iff_ne, ne_eq]
  rw [ht']
  congr 2
  omega
theorem rShorter_f {b : List Int} {t : Bool} (hb : Hu.BOk b) (hn : ilen b ≤ 1000000) (ht : shortB b = t) :
    (S0 Tryz.prog).call 84 [.sl 0 1 (.l 0) (.y (ilen b)) none] [.r true true (.l 0) 1 (cellsB b)] (fun x _ => Sub x (.b t)) := by
  have hB := rBits_f hb hn rfl
  obtain ⟨r, hr⟩ : ∃ r, bitsI b (ilen b) = r := ⟨_, rfl⟩
  have hrb := qhi (b := b) (qah b)
  obtain ⟨n, hn'⟩ : ∃ n, ilen b = n := ⟨_, rfl⟩
  have h0n := qah b
  have ht' : t = decide ((r + 7) / 8 < n) := by rw [← ht, ← hr, ← hn']; rfl
  rw [hr] at hrb hB
  rw [hn'] at hn h0n hrb hB ⊢
  have hpl := qab b
  generalize hF : cellsB b = F at hpl hB ⊢
  generalize hS : S0 Tryz.prog = S
  refine qaa hS I.qke ?_
  cbv
  refine qda hS id hB .rfl rfl ⟨⟨true, .l 0, 1, F, true, true, .l 0, F, rfl, hpl, rfl, .rfl⟩, trivial⟩ rfl ?_
  cbv
  repeat' (first | (refine qax hS ?_; intro _ _; try cbv) | (refine qzaei hS (by omega) (by omega) (by simp only [hi]; omega) ?_; intro _ _; cbv) | fail)
  rename_i e
  refine qqd ?_
  simp only [← hS, Int.ofNat_eq_natCast, cq, Bool.not_eq_true', Bool.not_eq_false', decide_eq_true_eq, decide_eq_false_iff_not, beq_iff_eq, beq_eq_false_iff_ne, ne_eq]
  rw [ht']
  congr 2
  omega
def shrI (v k : Int) : Int := v / 2 ^ k.toNat
def bitB (b : List Int) (i : Int) : Bool := okI b i 1
def bitR (b : List Int) (i : Int) : Int := if bitB b i then bitI b i else 0
theorem Bit_f {b : List Int} {i r : Int} {t : Bool} (hb : Hu.BOk b) (hn : ilen b ≤ 1000000) (hi64 : i ≤ 9223372036854775807) (hr : bitR b i = r) (ht : bitB b i = t) :
    (S0 Tryz.prog).call 126 [.sl 0 1 (.l 0) (.y (ilen b)) none, .i .i64 (.y i)] [.r true true (.l 0) 1 (cellsB b)] (fun x _ => Sub x (.tp [.i .i64 (.y r), .b t])) := by
  obtain ⟨n, hn'⟩ : ∃ n, n = ilen b := ⟨_, rfl⟩
  have h0n := qah b
  rw [← hn'] at hn h0n ⊢
  have hpl := qab b
  generalize hF : cellsB b = F at hpl ⊢
  generalize hS : S0 Tryz.prog = S
  refine qaa hS I.qrg ?_
  cbv
  repeat' (first | (refine s_st hS ?_; try cbv) | (refine qai hS ?_ ?_ <;> intro h <;> (try cbv) <;> try exact s_ab h) | (refine qzaei hS (by omega) (by omega) (by simp only [hi]; omega) ?_; intro _ _; cbv) | fail)
  · have e2 : t = false := by rw [← ht]; exact okI_f (.inl h)
    have e1 : r = 0 := by rw [← hr]; unfold bitR; rw [ht, e2]; rfl
    all_goals exact s_sA
  · have e2 : t = false := by rw [← ht]; exact okI_f (.inr (by omega))
    have e1 : r = 0 := by rw [← hr]; unfold bitR; rw [ht, e2]; rfl
    all_goals exact s_sA
  · have e2 : t = true := by rw [← ht]; exact okI_t (by omega) (by omega)
    have e1 : r = bitI b i := by rw [← hr]; unfold bitR; rw [ht, e2]; rfl
    rename_i q1 hq1 q hq
    obtain ⟨v, hv⟩ := qei (l := b) (i := q) (by omega) (by omega)
    have hb0 := hb v (List.mem_of_getElem? hv)
    repeat' (first | (refine qbr hS ?_; try cbv) | (refine rowB hS hF hv rfl (by omega) ?_; try cbv) | fail)
    obtain ⟨sh, hsh⟩ : ∃ sh, sh = 7 - i % 8 := ⟨_, rfl⟩
    refine qav hS 1 I.qki (fun x : Int × Int => 0 ≤ x.1 ∧ x.1 ≤ sh ∧ x.2 = shrI v x.1)
      (fun x => [(7, .i .i64 (.y x.1)), (6, .i .i64 (.y x.2))]) (fun x => [])
      (fun x => (sh - x.1).toNat) (0, v) rfl ⟨⟨Int.le_refl _, by dsimp only; omega, by simp [shrI]⟩, rfl, ?_, ?_, ?_⟩ ?_
    · cbv; all_goals exact s_sA
    · cbv; all_goals exact s_bA
    · cbv; exact gc_c (gc_m (qak hpl)) rfl
    · intro x
      obtain ⟨k, w⟩ := x
      intro hx
      dsimp only at hx
      cbv
      obtain ⟨g0, g1, g2⟩ := hx
      unfold shrI at g2
      have hw : 0 ≤ w ∧ w < 256 := by
        rw [g2]
        have h1 := Int.ediv_nonneg hb0.1 (by have := qcp k.toNat; omega : (0 : Int) ≤ 2 ^ k.toNat)
        have h2 := Int.ediv_le_self ((2 : Int) ^ k.toNat) hb0.1
        omega
      have hw2 : w / 2 = shrI v (k + 1) := by
        unfold shrI
        rw [g2, Int.ediv_ediv_of_nonneg (by have := qcp k.toNat; omega), show (k + 1).toNat = k.toNat + 1 by omega, Int.pow_succ]
      have hend : k = sh → bitI b i = w % 2 := fun e => bit_of hv hb (by omega) hq (j := k) (by omega) (by rw [g2])
      clear g2
      repeat' (first | (refine qai hS ?_ ?_ <;> intro h <;> (try cbv) <;> try exact s_ab h) | (refine qax hS ?_; intro _ _; try cbv) | (refine qzagv hS (by omega) ?_; intro _ _; cbv) | (refine qzaei hS (by omega) (by omega) (by simp only [hi]; omega) ?_; intro _ _; cbv) | fail)
      · rename_i w2 hw2' k2 hk2
        refine ⟨(k2, w2), by dsimp only; omega, ⟨by dsimp only; omega, by dsimp only; omega, ?_⟩, rfl, ?_, ?_, ?_⟩
        · dsimp only; rw [hw2', hk2]; exact hw2
        · cbv; all_goals exact s_sA
        · cbv; all_goals exact s_bA
        · cbv; exact gc_c (gc_m (qak hpl)) rfl
      · have := hend (by omega)
        all_goals exact s_sA
theorem Bit_u {S : Sy} (hS : S0 Tryz.prog = S) {b : List Int} {F : List SV} {n : Int} {zi : Z} {k : Nat} {ro lit : Bool} {st : Z} {l : List Blk} {K : SV → List Blk → Prop} (hb : Hu.BOk b) (hn : ilen b ≤ 1000000) (hn' : n = ilen b) (hF : cellsB b = F)
    (hrow : lget l k = .r ro lit st 1 F) (i : Int) (hzi : zi.v = i) (h0 : 0 ≤ i) (h8 : i < 8 * n) (h1 : ∀ r, bitI b i = r → K (.tp [.i .i64 (.y r), .tt]) l) :
    S.call 126 [.sl k 1 (.l 0) (.y n) none, .i .i64 zi] l K := by
  subst hn' hF hzi
  have hB : bitB b zi.v = true := okI_t h0 (by omega)
  have hf := Bit_f (b := b) (i := zi.v) hb hn (by omega) rfl rfl
  refine qda hS (fun _ => k) (sv := .tp [.i .i64 (.y (bitI b zi.v)), .tt]) (qaw hf fun x l' hx => ⟨x, .rfl, hx.trans (qar (.cons (qae ?_) (.cons (qes hB) .nil)))⟩) (.cons .rfl (.cons (qae rfl) .nil)) rfl ⟨⟨_, _, _, _, _, _, _, _, rfl, qab b, hrow, .rfl⟩, trivial⟩ rfl (h1 _ rfl)
  unfold bitR; rw [hB]; rfl
theorem rBitsO_f {b : List Int} {i k r : Int} {t : Bool} (hb : Hu.BOk b) (hn : ilen b ≤ 1000000) (hr : oBitsR b i k = r) (ht : oBitsB b i k = t) :
    (S0 Tryz.prog).call 135 [.sl 0 1 (.l 0) (.y (ilen b)) none, .i .i64 (.y i), .i .i64 (.y k)] [.r true true (.l 0) 1 (cellsB b)] (fun x _ => Sub x (.tp [.i .i64 (.y r), .b t])) := by
  obtain ⟨n, hn'⟩ : ∃ n, n = ilen b := ⟨_, rfl⟩
  have hnb := hn
  have h0n := qah b
  have hyes : 0 ≤ k → k ≤ 30 → 0 ≤ i → i + k ≤ 8 * n → t = true ∧ r = numI b i k := by
    intro h1 h2 h3 h4
    have e2 : t = true := by
      rw [← ht]; unfold oBitsB
      split
      · simp; omega
      · rw [if_neg (by omega)]; exact okI_t h3 (by omega)
    exact ⟨e2, by rw [← hr]; unfold oBitsR; rw [ht, e2]; rfl⟩
  have hno : (k < 0 ∨ 30 < k ∨ i < 0 ∨ 8 * n < i + k ∨ 8 * n < i) → t = false ∧ r = 0 := by
    intro h1
    have e2 : t = false := by
      rw [← ht]; unfold oBitsB
      split
      · rename_i hk; simp; omega
      · split
        · rfl
        · exact okI_f (by omega)
    exact ⟨e2, by rw [← hr]; unfold oBitsR; rw [ht, e2]; rfl⟩
  rw [← hn'] at hn h0n ⊢
  have hpl := qab b
  generalize hF : cellsB b = F at hpl ⊢
  generalize hS : S0 Tryz.prog = S
  refine qaa hS I.qpt ?_
  cbv
  repeat' (first | (refine qai hS ?_ ?_ <;> intro h <;> (try cbv) <;> try exact s_ab h) | (refine qax hS ?_; intro _ _; try cbv) | (refine qjy hS ?_ (by simp only [lo]; omega) (by simp only [hi]; omega); intro _ _; try cbv) | fail)
  · obtain ⟨e2, e1⟩ := hno (by omega); all_goals exact s_sA
  · obtain ⟨e2, e1⟩ := hno (by omega); all_goals exact s_sA
  · obtain ⟨e2, e1⟩ := hno (by omega); all_goals exact s_sA
  · obtain ⟨e2, e1⟩ := hno (by omega); all_goals exact s_sA
  · obtain ⟨e2, e1⟩ := hno (by omega); all_goals exact s_sA
  · obtain ⟨e2, e1⟩ := hyes (by omega) (by omega) (by omega) (by omega)
    refine qav hS 1 I.qjr (fun x : Int × Int => 0 ≤ x.1 ∧ x.1 ≤ k ∧ x.2 = numI b i x.1)
      (fun x => [(9, .i .i64 (.y x.1)), (8, .i .i64 (.y x.2))]) (fun x => [])
      (fun x => (k - x.1).toNat) (0, 0) rfl ⟨⟨Int.le_refl _, by dsimp only; omega, by simp [qwi]⟩, rfl, ?_, ?_, ?_⟩ ?_
    · cbv; all_goals exact s_sA
    · cbv; all_goals exact s_bA
    · cbv; exact gc_c (gc_m (qak hpl)) rfl
    · intro x
      obtain ⟨j, w⟩ := x
      intro hx
      dsimp only at hx
      cbv
      obtain ⟨g0, g1, g2⟩ := hx
      have hw : 0 ≤ w ∧ w < 1073741824 := by rw [g2]; exact numI_bd (by omega)
      repeat' (first | (refine qai hS ?_ ?_ <;> intro h <;> (try cbv) <;> try exact s_ab h) | (refine qax hS ?_; intro _ _; try cbv) | (refine Bit_u hS hb hnb hn' hF rfl (i + j) (by simp only [Z.v]; omega) (by omega) (by omega) fun u hu => ?_; have hu1 := bitI_bd b (i + j); rw [hu] at hu1; cbv) | (refine qjy hS ?_ (by simp only [lo]; omega) (by simp only [hi]; omega); intro _ _; try cbv) | fail)
      · rename_i w1 hw1 w2 hw2 j2 hj2
        have hnx := qzaet (b := b) (i := i) (k := j) (by omega) g0 (by omega)
        refine ⟨(j2, w2), by dsimp only; omega, ⟨by dsimp only; omega, by dsimp only; omega, ?_⟩, rfl, ?_, ?_, ?_⟩
        · dsimp only; rw [hj2, hnx, hu, ← g2]; omega
        · cbv; all_goals exact s_sA
        · cbv; all_goals exact s_bA
        · cbv; exact gc_c (gc_m (qak hpl)) rfl
      · have e3 : w = r := by rw [e1, g2, show j = k by omega]
        all_goals exact s_sA
def strB (l : List Int) : List UInt8 := l.map fun v => v.toNat.toUInt8
theorem s_bs {S : Sy} (hS : S0 Tryz.prog = S) {l : List Int} {F : List SV} {n : Int} {K : List UInt8 → Prop} (hb : Hu.BOk l) (hF : cellsB l = F) (hn : n = ilen l) (h : K (strB l)) : S.bs F 0 n K := by
  subst hS hF hn
  refine ⟨Int.le_refl _, qah l, strB l, ⟨by simp [strB, ilen], ?_⟩, h⟩
  intro q c hc
  unfold strB at hc
  rw [List.getElem?_map, Option.map_eq_some_iff] at hc
  obtain ⟨v, hv, rfl⟩ := hc
  refine ⟨.y v, ?_, ?_⟩
  · rw [show (0 : Int).toNat + q = q by simp]; exact qzaav hv
  · have := hb v (List.mem_of_getElem? hv)
    simp only [Z.v, Nat.toUInt8, UInt8.toNat_ofNat']
    omega
theorem Same_f {a b : List Int} (ha : Hu.BOk a) (hb : Hu.BOk b) (hab : a = b) :
    (S0 Tryz.prog).call 10 [.sl 0 1 (.l 0) (.y (ilen a)) none, .sl 1 1 (.l 0) (.y (ilen b)) none] [.r true true (.l 0) 1 (cellsB a), .r true true (.l 0) 1 (cellsB b)] (fun x _ => Sub x .tt) := by
  obtain ⟨n, hn⟩ : ∃ n, n = ilen a := ⟨_, rfl⟩
  obtain ⟨m, hm⟩ : ∃ m, m = ilen b := ⟨_, rfl⟩
  rw [← hn, ← hm]
  generalize hF : cellsB a = F
  generalize hG : cellsB b = G
  generalize hS : S0 Tryz.prog = S
  have hs : strB a = strB b := by rw [hab]
  generalize hx : strB a = x at hs
  generalize hy : strB b = y at hs
  refine qaa hS I.qps ?_
  cbv
  refine s_bs hS ha hF hn ?_
  rw [hx]
  cbv
  refine s_bs hS hb hG hm ?_
  rw [hy, ← hs]
  cbv
  refine qes ?_
  simp only [← hS, Int.ofNat_eq_natCast, cq, Bool.not_eq_true', Bool.not_eq_false', decide_eq_true_eq, decide_eq_false_iff_not, beq_iff_eq, beq_eq_false_iff_ne, ne_eq]
end Cz
namespace Cz
open Go Go.RowKit Go.Proofs
def layN (N : Nat) (E : List Bool) : List Int := Hu.packs N (E ++ List.replicate (8 * N - E.length) false)
def layB (E : List Bool) : List Int := layN ((E.length + 7) / 8) E
theorem layN_len (N : Nat) (E : List Bool) : ilen (layN N E) = N := by unfold layN ilen; rw [Hu.qeg]
theorem layN_ok (N : Nat) (E : List Bool) : Hu.BOk (layN N E) := Hu.qzabs _ _
theorem layB_len (E : List Bool) : ilen (layB E) = ((E.length + 7) / 8 : Nat) := layN_len _ _
theorem qlb : ∀ (N : Nat) (X : List Bool) (j : Nat), j < N → (Hu.packs N X)[j]? = some ((Hu.valB ((X.drop (8 * j)).take 8) : Nat) : Int)
  | 0, _, _, h => by omega
  | N + 1, X, 0, _ => by simp [Hu.packs]
  | N + 1, X, j + 1, h => by
    simp only [Hu.packs, List.getElem?_cons_succ]
    rw [qlb N _ j (by omega), List.drop_drop, show 8 + 8 * j = 8 * (j + 1) by omega]
theorem valB_set : ∀ (Y : List Bool) (q : Nat) (b : Bool), q < Y.length → Y[q]? = some false → Hu.valB (Y.set q b) = Hu.valB Y + b.toNat * 2 ^ (Y.length - 1 - q)
  | [], q, _, h, _ => by simp at h
  | y :: Y, 0, b, _, hf => by
    simp only [List.getElem?_cons_zero, Option.some.injEq] at hf; subst hf
    simp only [List.set_cons_zero, Hu.qkm, List.length_cons]
    simp
    omega
  | y :: Y, q + 1, b, h, hf => by
    simp only [List.getElem?_cons_succ] at hf
    simp only [List.length_cons] at h
    simp only [List.set_cons_succ, Hu.qkm, List.length_cons, List.length_set]
    rw [valB_set Y q b (by omega) hf, show Y.length + 1 - 1 - (q + 1) = Y.length - 1 - q by omega]
    omega
theorem layN_set {N k : Nat} {E : List Bool} {b : Bool} (hk : E.length = k) (h : k < 8 * N) :
    ∃ v, (layN N E)[k / 8]? = some v ∧ 0 ≤ v ∧ v + b.toNat * 2 ^ (7 - k % 8) < 256 ∧ layN N (E ++ [b]) = (layN N E).set (k / 8) (v + b.toNat * 2 ^ (7 - k % 8)) := by
  have hX : E ++ [b] ++ List.replicate (8 * N - (E ++ [b]).length) false = (E ++ List.replicate (8 * N - E.length) false).set k b := by
    rw [List.set_append_right _ _ (by omega), hk, Nat.sub_self, show 8 * N - k = (8 * N - (k + 1)) + 1 by omega, List.replicate_succ, List.set_cons_zero]
    simp [hk]
  have hl : (E ++ List.replicate (8 * N - E.length) false).length = 8 * N := by simp; omega
  have hf : (E ++ List.replicate (8 * N - E.length) false)[k]? = some false := by
    rw [List.getElem?_append_right (by omega), hk, Nat.sub_self, List.getElem?_replicate, if_pos (by omega)]
  generalize hXe : E ++ List.replicate (8 * N - E.length) false = X at hX hl hf
  have hY : ((X.drop (8 * (k / 8))).take 8).length = 8 := by rw [List.length_take, List.length_drop]; omega
  have hq : ((X.drop (8 * (k / 8))).take 8)[k % 8]? = some false := by
    rw [List.getElem?_take_of_lt (by omega), List.getElem?_drop, show 8 * (k / 8) + k % 8 = k by omega]; exact hf
  have hset : ((X.set k b).drop (8 * (k / 8))).take 8 = ((X.drop (8 * (k / 8))).take 8).set (k % 8) b := by
    rw [List.drop_set, if_neg (by omega), List.take_set, show k - 8 * (k / 8) = k % 8 by omega]
  have hv := valB_set _ (k % 8) b (by rw [hY]; omega) hq
  rw [hY] at hv
  have hlt := Hu.qkl (((X.drop (8 * (k / 8))).take 8).set (k % 8) b)
  rw [List.length_set, hY, hv] at hlt
  refine ⟨(Hu.valB ((X.drop (8 * (k / 8))).take 8) : Nat), ?_, by omega, ?_, ?_⟩
  · unfold layN; rw [hXe]; exact qlb N X _ (by omega)
  · rw [← qee]
    have : ((b.toNat * 2 ^ (7 - k % 8) : Nat) : Int) = (b.toNat : Int) * ((2 ^ (7 - k % 8) : Nat) : Int) := by push_cast; rfl
    rw [← this]
    have e : 8 - 1 - k % 8 = 7 - k % 8 := by omega
    rw [e] at hlt
    omega
  · unfold layN
    rw [hX, hXe]
    apply List.ext_getElem?
    intro j
    rcases Nat.lt_or_ge j N with hj | hj
    · rw [qlb N _ j hj]
      by_cases hjk : j = k / 8
      · subst hjk
        rw [List.getElem?_set_self (by rw [Hu.qeg]; omega), hset, hv, ← qee]
        have e : 8 - 1 - k % 8 = 7 - k % 8 := by omega
        rw [e]
        push_cast
        rfl
      · rw [List.getElem?_set_ne (fun e => hjk e.symm), qlb N _ j hj]
        congr 3
        rw [List.drop_set]
        split
        · rfl
        · rw [List.take_set]
          rename_i h1
          rw [List.set_eq_of_length_le]
          rw [List.length_take, List.length_drop]
          omega
    · rw [List.getElem?_eq_none (by rw [Hu.qeg]; omega), List.getElem?_eq_none (by rw [List.length_set, Hu.qeg]; omega)]
theorem layN_zero (N : Nat) : layN N [] = List.replicate N 0 := by
  unfold layN
  simp only [List.nil_append, List.length_nil, Nat.sub_zero]
  apply List.ext_getElem?
  intro j
  rcases Nat.lt_or_ge j N with hj | hj
  · rw [qlb N _ j hj, List.getElem?_replicate, if_pos hj]
    congr 1
    rw [List.drop_replicate, List.take_replicate]
    have : ∀ m, Hu.valB (List.replicate m false) = 0 := by
      intro m
      induction m with
      | zero => rfl
      | succ m ih => rw [List.replicate_succ, Hu.qkm, ih]; simp
    rw [this]; rfl
  · rw [List.getElem?_eq_none (by rw [Hu.qeg]; omega), List.getElem?_eq_none (by simp; omega)]
theorem layB_bit {E : List Bool} {i : Int} (h0 : 0 ≤ i) (h : i < E.length) : bitI (layB E) i = ((E.getD i.toNat false).toNat : Nat) := by
  unfold bitI layB layN
  rw [Hu.qzadh _ _ (by simp; omega), List.getD_eq_getElem?_getD, List.getElem?_append_left (by omega), ← List.getD_eq_getElem?_getD]
theorem code_bit {m c i : Int} (h0 : 0 ≤ i) (h : i < m) (hc : 0 ≤ c) : c / 2 ^ (m - 1 - i).toNat % 2 = (((Hu.bitsN m.toNat c.toNat).getD i.toNat false).toNat : Nat) := by
  rw [List.getD_eq_getElem?_getD, qyd (by omega), show m.toNat - 1 - i.toNat = (m - 1 - i).toNat by omega, Option.getD_some]
  have e2 : c / 2 ^ (m - 1 - i).toNat % 2 = ((c.toNat / 2 ^ (m - 1 - i).toNat % 2 : Nat) : Int) := by
    push_cast
    rw [Int.toNat_of_nonneg hc]
  rw [e2]
  have : c.toNat / 2 ^ (m - 1 - i).toNat % 2 = 0 ∨ c.toNat / 2 ^ (m - 1 - i).toNat % 2 = 1 := by omega
  rcases this with h | h <;> simp [h]
end Cz
namespace Cz
open Go Go.RowKit Go.Proofs
theorem qzabp {S : Sy} (hS : S0 Tryz.prog = S) {b : List Int} {F : List SV} {n : Int} {zi z : Z} {k : Nat} {ro lit : Bool} {st : Z} {l : List Blk} {K : SV → List Blk → Prop} (hb : Hu.BOk b) (hn : ilen b ≤ 1000000) (hn' : n = ilen b) (hF : cellsB b = F)
    (hrow : lget l k = .r ro lit st 1 F) (i m : Int) (hi : zi.v = i) (hm : z.v = m) (hz1 : 1 ≤ m) (hz2 : m ≤ 30) (h1 : okI b i m = true → ∀ r, numI b i m = r → K (.tp [.i .i64 (.y r), .tt]) l) (h2 : okI b i m = false → ∀ r, K (.tp [.i .i64 (.y r), .ff]) l) :
    S.call 135 [.sl k 1 (.l 0) (.y n) none, .i .i64 zi, .i .i64 z] l K := by
  subst hn' hF hi hm
  have hB : oBitsB b zi.v z.v = okI b zi.v z.v := by unfold oBitsB; rw [if_neg (by omega), if_neg (by omega)]
  have hf := rBitsO_f (b := b) (i := zi.v) (k := z.v) hb hn rfl rfl
  cases ht : okI b zi.v z.v with
  | true =>
    refine qda hS (fun _ => k) (sv := .tp [.i .i64 (.y (numI b zi.v z.v)), .tt]) (qaw hf fun x l' hx => ⟨x, .rfl, hx.trans (qar (.cons (qae ?_) (.cons (qes ?_) .nil)))⟩) (.cons .rfl (.cons (qae rfl) (.cons (qae rfl) .nil))) rfl ⟨⟨_, _, _, _, _, _, _, _, rfl, qab b, hrow, .rfl⟩, trivial⟩ rfl (h1 ht _ rfl)
    · unfold oBitsR; rw [hB, ht]; rfl
    · rw [hB, ht]
  | false =>
    refine qda hS (fun _ => k) (sv := .tp [.i .i64 (.y (oBitsR b zi.v z.v)), .ff]) (qaw hf fun x l' hx => ⟨x, .rfl, hx.trans (qar (.cons .rfl (.cons (qea ?_) .nil)))⟩) (.cons .rfl (.cons (qae rfl) (.cons (qae rfl) .nil))) rfl ⟨⟨_, _, _, _, _, _, _, _, rfl, qab b, hrow, .rfl⟩, trivial⟩ rfl (h2 ht _)
    rw [hB, ht]
theorem rbits_v {S : Sy} (hS : S0 Tryz.prog = S) {b : List Int} {F : List SV} {n : Int} {zi z : Z} {k : Nat} {ro lit : Bool} {st : Z} {l : List Blk} {K : SV → List Blk → Prop} (hb : Hu.BOk b) (hn : ilen b ≤ 1000000) (hn' : n = ilen b) (hF : cellsB b = F)
    (hrow : lget l k = .r ro lit st 1 F) (i m : Int) (h0 : zi.v = i) (hm : z.v = m) (hi0 : 0 ≤ i) (hz1 : 0 ≤ m) (hz2 : m ≤ 30 ∧ i + m ≤ 8 * n) (h1 : ∀ r, numI b i m = r → K (.tp [.i .i64 (.y r), .tt]) l) :
    S.call 135 [.sl k 1 (.l 0) (.y n) none, .i .i64 zi, .i .i64 z] l K := by
  subst hn' hF h0 hm
  have hB : oBitsB b zi.v z.v = true := by
    unfold oBitsB okI
    by_cases hz : z.v = 0
    · rw [if_pos hz]; simp; omega
    · rw [if_neg hz, if_neg (by omega)]; simp; omega
  have hf := rBitsO_f (b := b) (i := zi.v) (k := z.v) hb hn rfl rfl
  refine qda hS (fun _ => k) (sv := .tp [.i .i64 (.y (numI b zi.v z.v)), .tt]) (qaw hf fun x l' hx => ⟨x, .rfl, hx.trans (qar (.cons (qae ?_) (.cons (qes hB) .nil)))⟩) (.cons .rfl (.cons (qae rfl) (.cons (qae rfl) .nil))) rfl ⟨⟨_, _, _, _, _, _, _, _, rfl, qab b, hrow, .rfl⟩, trivial⟩ rfl (h1 _ rfl)
  unfold oBitsR; rw [hB]; rfl
theorem rof_u {S : Sy} (hS : S0 Tryz.prog = S) {l : List Blk} {K : SV → List Blk → Prop} {za zm : Z} (a m : Int) (ha : za.v = a) (hm : zm.v = m) (h1 : ∀ c : Int, findO a m = some c.toNat → 0 ≤ c → c < 256 → K (.tp [.i .u8 (.y c), .tt]) l)
    (h2 : findO a m = none → ∀ c, K (.tp [.i .u8 (.y c), .ff]) l) : S.call 141 [.i .i64 za, .i .i64 zm] l K := by
  subst ha hm
  have hf := rOf_f (a := za.v) (m := zm.v) rfl rfl
  cases h : findO za.v zm.v with
  | some c =>
    obtain ⟨hc, _, _⟩ := qmq h
    refine qbf hS (sv := .tp [.i .u8 (.y c), .tt]) (qaw hf fun x l' hx => ⟨x, .rfl, hx.trans (qar (.cons (qae ?_) (.cons (qes ?_) .nil)))⟩) (.cons (qae rfl) (.cons (qae rfl) .nil)) rfl rfl (h1 c (by simpa using h) (by omega) (by omega))
    · unfold findR; rw [h]
    · unfold findB; rw [h]; rfl
  | none =>
    refine qbf hS (sv := .tp [.i .u8 (.y (findR za.v zm.v)), .ff]) (qaw hf fun x l' hx => ⟨x, .rfl, hx.trans (qar (.cons .rfl (.cons (qea ?_) .nil)))⟩) (.cons (qae rfl) (.cons (qae rfl) .nil)) rfl rfl (h2 h _)
    unfold findB; rw [h]; rfl
def nextR (b : List Int) (i : Int) : Int × Int := match at1I b i 5 with
  | some c => (c, 5)
  | none => match at1I b i 6 with
    | some c => (c, 6)
    | none => match at1I b i 7 with
      | some c => (c, 7)
      | none => match at1I b i 11 with
        | some c => (c, 11)
        | none => (0, 0)
theorem next_some {b : List Int} {i c m : Int} (h0 : 0 ≤ i) (h : nextR b i = (c, m)) (hm : m ≠ 0) : 0 ≤ c ∧ c < 256 ∧ 5 ≤ m ∧ m ≤ 11 ∧ i + m ≤ 8 * ilen b ∧ decI b i = (c :: (decI b (i + m)).1, (decI b (i + m)).2) := by
  unfold nextR at h
  have hc : ∀ {q : Int} {d : Nat}, at1I b i q = some d → d < 256 := fun {q d} h => by
    unfold at1I at h
    split at h
    · exact (qmq h).1
    · cases h
  cases h5 : at1I b i 5 with
  | some d => rw [h5] at h; cases h; have := hc h5; exact ⟨by omega, by omega, by omega, by omega, qjx (qzadk h5), dec_5 h0 h5⟩
  | none =>
    rw [h5] at h
    cases h6 : at1I b i 6 with
    | some d => rw [h6] at h; cases h; have := hc h6; exact ⟨by omega, by omega, by omega, by omega, qjx (qzadk h6), dec_6 h0 h5 h6⟩
    | none =>
      rw [h6] at h
      cases h7 : at1I b i 7 with
      | some d => rw [h7] at h; cases h; have := hc h7; exact ⟨by omega, by omega, by omega, by omega, qjx (qzadk h7), dec_7 h0 h5 h6 h7⟩
      | none =>
        rw [h7] at h
        cases h11 : at1I b i 11 with
        | some d => rw [h11] at h; cases h; have := hc h11; exact ⟨by omega, by omega, by omega, by omega, qjx (qzadk h11), dec_11 h0 h5 h6 h7 h11⟩
        | none => rw [h11] at h; cases h; exact absurd rfl hm
theorem next_none {b : List Int} {i c : Int} (h0 : 0 ≤ i) (h : nextR b i = (c, 0)) : decI b i = ([], dropI b i) := by
  unfold nextR at h
  cases h5 : at1I b i 5 with
  | some d => rw [h5] at h; cases h
  | none =>
    rw [h5] at h
    cases h6 : at1I b i 6 with
    | some d => rw [h6] at h; cases h
    | none =>
      rw [h6] at h
      cases h7 : at1I b i 7 with
      | some d => rw [h7] at h; cases h
      | none =>
        rw [h7] at h
        cases h11 : at1I b i 11 with
        | some d => rw [h11] at h; cases h
        | none => exact qma h0 h5 h6 h7 h11
theorem next_f {b : List Int} {i c m : Int} (hb : Hu.BOk b) (hnb : ilen b ≤ 1000000) (h0 : 0 ≤ i) (hr : nextR b i = (c, m)) :
    (S0 Tryz.prog).call 134 [.sl 0 1 (.l 0) (.y (ilen b)) none, .i .i64 (.y i)] [.r true true (.l 0) 1 (cellsB b)] (fun x _ => Sub x (.tp [.i .u8 (.y c), .i .i64 (.y m)])) := by
  obtain ⟨n, hn'⟩ : ∃ n, n = ilen b := ⟨_, rfl⟩
  have h0n := qah b
  rw [← hn'] at h0n ⊢
  unfold nextR at hr
  have hpl := qab b
  generalize hF : cellsB b = F at hpl ⊢
  generalize hS : S0 Tryz.prog = S
  refine qaa hS I.qpn ?_
  cbv
  refine qag hS ?_
  cbv
  refine qzabp hS hb hnb hn' hF rfl i 5 rfl rfl (by decide) (by decide) (fun hok r hr1 => ?_) (fun hok r => ?_)
  · cbv
    refine rof_u hS r 5 rfl rfl (fun d hd d0 d1 => ?_) (fun hd d => ?_)
    · have a5 : at1I b i 5 = some d.toNat := by rw [qdd hok hr1]; exact hd
      simp only [a5] at hr
      have hrc : c = d := by have := congrArg Prod.fst hr; simp only [Int.toNat_of_nonneg d0] at this; exact this.symm
      have hrm := congrArg Prod.snd hr
      simp only at hrm
      clear hr hok hr1 hd
      cbv
      repeat' (first | (refine qbn hS rfl I.qcf (by decide +kernel) ?_; cbv) | fail)
      exact qar (.cons (qae (by simp only [Z.v]; omega)) (.cons (qae (by simp only [Z.v]; omega)) .nil))
    · have a5 : at1I b i 5 = none := by rw [qdd hok hr1]; exact hd
      cbv
      refine qag hS ?_
      cbv
      refine qzabp hS hb hnb hn' hF rfl i 6 rfl rfl (by decide) (by decide) (fun hok r hr1 => ?_) (fun hok r => ?_)
      · cbv
        refine rof_u hS r 6 rfl rfl (fun d hd d0 d1 => ?_) (fun hd d => ?_)
        · have a6 : at1I b i 6 = some d.toNat := by rw [qdd hok hr1]; exact hd
          simp only [a5, a6] at hr
          have hrc : c = d := by have := congrArg Prod.fst hr; simp only [Int.toNat_of_nonneg d0] at this; exact this.symm
          have hrm := congrArg Prod.snd hr
          simp only at hrm
          clear hr hok hr1 hd
          cbv
          repeat' (first | (refine qbn hS rfl I.qcf (by decide +kernel) ?_; cbv) | fail)
          exact qar (.cons (qae (by simp only [Z.v]; omega)) (.cons (qae (by simp only [Z.v]; omega)) .nil))
        · have a6 : at1I b i 6 = none := by rw [qdd hok hr1]; exact hd
          cbv
          refine qag hS ?_
          cbv
          refine qzabp hS hb hnb hn' hF rfl i 7 rfl rfl (by decide) (by decide) (fun hok r hr1 => ?_) (fun hok r => ?_)
          · cbv
            refine rof_u hS r 7 rfl rfl (fun d hd d0 d1 => ?_) (fun hd d => ?_)
            · have a7 : at1I b i 7 = some d.toNat := by rw [qdd hok hr1]; exact hd
              simp only [a5, a6, a7] at hr
              have hrc : c = d := by have := congrArg Prod.fst hr; simp only [Int.toNat_of_nonneg d0] at this; exact this.symm
              have hrm := congrArg Prod.snd hr
              simp only at hrm
              clear hr hok hr1 hd
              cbv
              repeat' (first | (refine qbn hS rfl I.qcf (by decide +kernel) ?_; cbv) | fail)
              exact qar (.cons (qae (by simp only [Z.v]; omega)) (.cons (qae (by simp only [Z.v]; omega)) .nil))
            · have a7 : at1I b i 7 = none := by rw [qdd hok hr1]; exact hd
              cbv
              refine qag hS ?_
              cbv
              refine qzabp hS hb hnb hn' hF rfl i 11 rfl rfl (by decide) (by decide) (fun hok r hr1 => ?_) (fun hok r => ?_)
              · cbv
                refine rof_u hS r 11 rfl rfl (fun d hd d0 d1 => ?_) (fun hd d => ?_)
                · have a11 : at1I b i 11 = some d.toNat := by rw [qdd hok hr1]; exact hd
                  simp only [a5, a6, a7, a11] at hr
                  have hrc : c = d := by have := congrArg Prod.fst hr; simp only [Int.toNat_of_nonneg d0] at this; exact this.symm
                  have hrm := congrArg Prod.snd hr
                  simp only at hrm
                  clear hr hok hr1 hd
                  cbv
                  repeat' (first | (refine qbn hS rfl I.qcf (by decide +kernel) ?_; cbv) | fail)
                  exact qar (.cons (qae (by simp only [Z.v]; omega)) (.cons (qae (by simp only [Z.v]; omega)) .nil))
                · have a11 : at1I b i 11 = none := by rw [qdd hok hr1]; exact hd
                  cbv
                  refine qag hS ?_
                  cbv
                  simp only [a5, a6, a7, a11] at hr
                  cases hr
                  exact qar (.cons (qae rfl) (.cons (qae rfl) .nil))
              · cbv
                have a11 : at1I b i 11 = none := qch (qbc hok (by omega) (by omega))
                simp only [a5, a6, a7, a11] at hr
                cases hr
                exact qar (.cons (qae rfl) (.cons (qae rfl) .nil))
          · cbv
            have a7 : at1I b i 7 = none := qch (qbc hok (by omega) (by omega))
            have a11 : at1I b i 11 = none := qch (qbc hok (by omega) (by omega))
            simp only [a5, a6, a7, a11] at hr
            cases hr
            exact qar (.cons (qae rfl) (.cons (qae rfl) .nil))
      · cbv
        have a6 : at1I b i 6 = none := qch (qbc hok (by omega) (by omega))
        have a7 : at1I b i 7 = none := qch (qbc hok (by omega) (by omega))
        have a11 : at1I b i 11 = none := qch (qbc hok (by omega) (by omega))
        simp only [a5, a6, a7, a11] at hr
        cases hr
        exact qar (.cons (qae rfl) (.cons (qae rfl) .nil))
  · cbv
    have a5 : at1I b i 5 = none := qch (qbc hok (by omega) (by omega))
    have a6 : at1I b i 6 = none := qch (qbc hok (by omega) (by omega))
    have a7 : at1I b i 7 = none := qch (qbc hok (by omega) (by omega))
    have a11 : at1I b i 11 = none := qch (qbc hok (by omega) (by omega))
    simp only [a5, a6, a7, a11] at hr
    cases hr
    exact qar (.cons (qae rfl) (.cons (qae rfl) .nil))
end Cz
namespace Cz
open Go Go.RowKit Go.Proofs
def lenB (E : List Bool) : Int := E.length
theorem lenB_nn (E : List Bool) : 0 ≤ lenB E := by unfold lenB; omega
theorem lenB_lay (E : List Bool) : ilen (layB E) = (lenB E + 7) / 8 := by rw [layB_len]; unfold lenB; omega
theorem zero_sub : ∀ n, SubL (repS n [.i .u8 (.l 0)]) (cellsB (List.replicate n 0))
  | 0 => .nil
  | n + 1 => .cons (qae rfl) (zero_sub n)
theorem qzp : ∀ n, plains (repS n [.i .u8 (.l 0)]) = true
  | 0 => rfl
  | n + 1 => by simpa [repS, catS, plains, plainV] using qzp n
theorem qzaau {L : List Int} {q : Nat} {x : Int} : repl (cellsB L) (q * 1 + 0) [.i .u8 (.y x)] = cellsB (L.set q x) := by
  rw [qdy, qdy, List.map_set, Nat.mul_one, Nat.add_zero]
  simp only [repl, qck]
def eI (E : List Bool) (i : Int) : Int := (E.getD i.toNat false).toNat
theorem eI_bd (E : List Bool) (i : Int) : 0 ≤ eI E i ∧ eI E i ≤ 1 := by
  unfold eI
  cases E.getD i.toNat false <;> decide
theorem lay_step {E : List Bool} {N : Nat} {j q sh p u : Int} {L : List Int} (h0 : 0 ≤ j) (h1 : j < lenB E) (hN : lenB E ≤ 8 * N) (hL : L = layN N (E.take j.toNat)) (hq : q = j / 8) (hsh : sh = 7 - j % 8) (hp : 2 ^ sh.toNat = p) (hu : eI E j = u) :
    ∃ v, L[q.toNat]? = some v ∧ 0 ≤ v ∧ v < 256 ∧ 0 ≤ u * p ∧ v + u * p < 256 ∧ ∀ x, x = v + u * p → layN N (E.take (j + 1).toNat) = L.set q.toNat x := by
  have hlen : (E.take j.toNat).length = j.toNat := by unfold lenB at h1; rw [List.length_take]; omega
  have hlt : j.toNat < E.length := by unfold lenB at h1; omega
  obtain ⟨v, h2, h3, h4, h5⟩ := layN_set (N := N) (E := E.take j.toNat) (b := E.getD j.toNat false) hlen (by unfold lenB at *; omega)
  have e1 : (7 - j.toNat % 8) = sh.toNat := by omega
  rw [e1, hp] at h4 h5
  have hu' : ((E.getD j.toNat false).toNat : Int) = u := hu
  rw [hu'] at h4 h5
  have hp0 : 0 < p := by rw [← hp]; exact qcp _
  have hub := eI_bd E j
  rw [hu] at hub
  have hup : 0 ≤ u * p := Int.mul_nonneg hub.1 (by omega)
  have e2 : j.toNat / 8 = q.toNat := by omega
  rw [e2] at h2 h5
  refine ⟨v, by rw [hL]; exact h2, h3, by omega, hup, h4, fun x hx => ?_⟩
  rw [hx, hL, ← h5, show (j + 1).toNat = j.toNat + 1 by omega, List.take_add_one, List.getD_eq_getElem?_getD, List.getElem?_eq_getElem hlt]
  rfl
theorem eI_left {E D : List Bool} {i : Int} (h0 : 0 ≤ i) (h : i < lenB E) : bitI (layB E) i = eI (E ++ D) i := by
  unfold lenB at h
  rw [layB_bit h0 h]
  unfold eI
  rw [List.getD_eq_getElem?_getD, List.getD_eq_getElem?_getD, List.getElem?_append_left (by omega)]
theorem eI_right {E : List Bool} {i m c : Int} (h : lenB E ≤ i) (h2 : i < lenB E + m) (hc : 0 ≤ c) : c / 2 ^ (lenB E + m - 1 - i).toNat % 2 = eI (E ++ Hu.bitsN m.toNat c.toNat) i := by
  have := code_bit (m := m) (c := c) (i := i - lenB E) (by omega) (by omega) hc
  unfold eI
  unfold lenB at *
  rw [List.getD_eq_getElem?_getD, List.getElem?_append_right (by omega), ← List.getD_eq_getElem?_getD, show i.toNat - E.length = (i - (E.length : Int)).toNat by omega, ← this]
  rw [show (m - 1 - (i - (E.length : Int))).toNat = ((E.length : Int) + m - 1 - i).toNat by omega]
theorem Lay_f {E : List Bool} {c m : Int} (hE : lenB E ≤ 100000) (hm0 : 0 ≤ m) (hm : m ≤ 30) (hc0 : 0 ≤ c) (hc : c < 2 ^ m.toNat) :
    (S0 Tryz.prog).call 115 [.sl 0 1 (.l 0) (.y (ilen (layB E))) none, .i .i64 (.y (lenB E)), .i .i64 (.y c), .i .i64 (.y m)] [.r true true (.l 0) 1 (cellsB (layB E))]
      (OwnR 1 1 (cellsB (layB (E ++ Hu.bitsN m.toNat c.toNat))) true [.i .i64 (.y (lenB E + m)), .i .i64 (.y 0)]) := by
  have hbe : Hu.BOk (layB E) := layN_ok _ _
  have hpl := qab (layB E)
  have hlen := lenB_lay E
  obtain ⟨n, hn'⟩ : ∃ n, n = ilen (layB E) := ⟨_, rfl⟩
  obtain ⟨e, he⟩ : ∃ e, e = lenB E := ⟨_, rfl⟩
  have he0 := lenB_nn E
  obtain ⟨E2, hE2⟩ : ∃ E2, E2 = E ++ Hu.bitsN m.toNat c.toNat := ⟨_, rfl⟩
  have hl2 : lenB E2 = e + m := by rw [he, hE2]; unfold lenB; rw [List.length_append, Hu.qbg]; omega
  have hnb : ilen (layB E) ≤ 1000000 := by omega
  have hbit1 : ∀ i, 0 ≤ i → i < e → bitI (layB E) i = eI E2 i := fun i h0 h1 => by rw [hE2]; exact eI_left h0 (by omega)
  have hbit2 : ∀ i, e ≤ i → i < e + m → c / 2 ^ (e + m - 1 - i).toNat % 2 = eI E2 i := fun i h0 h1 => by rw [hE2, he]; exact eI_right (by omega) (by omega) hc0
  rw [← hE2]
  rw [← hn'] at hlen ⊢
  rw [← he] at hlen hE he0 ⊢
  obtain ⟨p, hp⟩ : ∃ p : Int, 2 ^ m.toNat = p := ⟨_, rfl⟩
  rw [hp] at hc
  have hp0 : 0 < p := by rw [← hp]; exact qcp _
  have hp1 : p ≤ 1073741824 := by have := qed (m := m.toNat) (n := 30) (by omega); rw [hp] at this; omega
  obtain ⟨e2, he2⟩ : ∃ e2, e2 = e + m := ⟨_, rfl⟩
  rw [← he2] at hl2 ⊢
  obtain ⟨N, hN⟩ : ∃ N, N = ((e2 + 7) / 8).toNat := ⟨_, rfl⟩
  have hlay : layB E2 = layN N E2 := by unfold layB; congr 1; unfold lenB at hl2; omega
  rw [hlay]
  generalize hP : cellsB (layN N E2) = P
  generalize hF : cellsB (layB E) = F at hpl ⊢
  generalize hS : S0 Tryz.prog = S
  refine qaa hS I.qrf ?_
  cbv
  repeat' (first | (refine s_st hS ?_; try cbv) | (refine qai hS ?_ ?_ <;> intro h <;> (try cbv) <;> try exact s_ab h) | (refine qax hS ?_; intro _ _; try cbv) | (refine qbr hS ?_; try cbv) | (refine qjy hS ?_ (by simp only [lo]; omega) (by simp only [hi]; omega); intro _ _; try cbv) | (refine qfz hS (c := p) (by rw [← hp]; congr 1; simp only [IntKind.bits]; omega) ?_ (by simp only [lo]; omega) (by simp only [hi]; omega); intro _ _; cbv) | (refine qzaei hS (by omega) (by omega) (by simp only [hi]; omega) ?_; intro _ _; cbv) | fail)
  rename_i f2 hf2 f3 hf3 f4 hf4
  have hf4N : f4.toNat = N := by rw [hN]; congr 1; omega
  refine s_mk hS rfl (by omega) (by omega) (qzp _) ?_
  rw [hf4N]
  obtain ⟨G0, hG0⟩ : ∃ G0, G0 = cellsB (layN N (E2.take (0 : Int).toNat)) := ⟨_, rfl⟩
  have hs0 : FSub (repS N [.i .u8 (.l 0)]) G0 := by
    rw [hG0, show E2.take (0 : Int).toNat = [] by simp, layN_zero]; exact (zero_sub N).fsub
  have hp0 : plains G0 = true := by rw [hG0]; exact qab _
  generalize repS N [SV.i .u8 (.l 0)] = Z0 at hs0
  cbv
  refine qav hS 2 I.qkh (fun x : Int × List Int × List SV => 0 ≤ x.1 ∧ x.1 ≤ e2 ∧ x.2.1 = layN N (E2.take x.1.toNat) ∧ x.2.2 = cellsB x.2.1)
    (fun x => [(13, .i .i64 (.y x.1))]) (fun x => [(1, .r false false (.l 0) 1 x.2.2)])
    (fun x => (e2 - x.1).toNat) (0, layN N (E2.take (0 : Int).toNat), G0) rfl ⟨⟨Int.le_refl _, by dsimp only; omega, rfl, hG0⟩, rfl, ?_, ?_, ?_⟩ ?_
  · cbv; all_goals exact s_sA
  · cbv; exact ⟨.rfl, .r hs0 rfl hp0, trivial⟩
  · cbv; exact gc_c (gc_m (qak hpl)) rfl
  · intro x
    obtain ⟨j, L, G⟩ := x
    intro hx
    dsimp only at hx
    cbv
    obtain ⟨g0, g1, g2, g3⟩ := hx
    refine qai hS ?_ ?_ <;> intro h <;> cbv
    · obtain ⟨q, hq⟩ : ∃ q, q = j / 8 := ⟨_, rfl⟩
      obtain ⟨sh, hsh⟩ : ∃ sh, sh = 7 - j % 8 := ⟨_, rfl⟩
      obtain ⟨pw, hpw⟩ : ∃ pw : Int, 2 ^ sh.toNat = pw := ⟨_, rfl⟩
      obtain ⟨u, hu⟩ : ∃ u, eI E2 j = u := ⟨_, rfl⟩
      have hub := eI_bd E2 j
      rw [hu] at hub
      obtain ⟨v, k1, k2, k3, k4, k5, k6⟩ := lay_step (N := N) g0 (by omega) (by omega) g2 hq hsh hpw hu
      have b1 : j < e → bitI (layB E) j = u := fun hj => by rw [hbit1 j g0 hj, hu]
      have b2 : e ≤ j → c / 2 ^ (e + m - 1 - j).toNat % 2 = u := fun hj => by rw [hbit2 j hj (by omega), hu]
      have hgl : q < N := by omega
      have hGl : G.length = N := by rw [g3, qdy, List.length_map, g2]; unfold layN; rw [Hu.qeg]
      clear hbit1 hbit2 g2
      repeat' (first | (refine s_st hS ?_; try cbv) | (refine qai hS ?_ ?_ <;> intro h <;> (try cbv) <;> try exact s_ab h) | (refine qax hS ?_; intro _ _; try cbv) | (refine qbr hS ?_; try cbv) | fail)
      · refine Bit_u hS hbe hnb hn' hF rfl j rfl g0 (by omega) fun r hr => ?_
        obtain rfl : r = u := hr.symm.trans (b1 (by assumption))
        cbv
        repeat' (first | (refine s_st hS ?_; try cbv) | (refine qax hS ?_; intro _ _; try cbv) | (refine qbr hS ?_; try cbv) | (refine qzaei hS (by omega) (by omega) (by simp only [hi]; omega) ?_; intro _ _; cbv) | (refine rowB hS g3.symm k1 (by omega) (by omega) ?_; try cbv) | (refine qzagv hS (by omega) ?_; intro _ _; cbv) | (refine qfz hS (c := pw) (by rw [← hpw]; congr 1; simp only [IntKind.bits]; omega) ?_ (by simp only [lo]; omega) (by simp only [hi]; omega); intro _ _; cbv) | (refine s_wr' hS (by omega) (by omega) (Nat.le_refl 1) rfl fun F' hF' => ?_; cbv) | fail)
        rename_i x hx j2 hj2
        obtain ⟨L2, hL2⟩ : ∃ L2, L2 = L.set q.toNat x := ⟨_, rfl⟩
        obtain ⟨G2, hG2⟩ : ∃ G2, G2 = cellsB L2 := ⟨_, rfl⟩
        have hFG : F' = G2 := by
          rw [← hF', hG2, hL2, ← qzaau, g3]
          congr 2
          omega
        refine ⟨(j2, L2, G2), by dsimp only; omega, ⟨by dsimp only; omega, by dsimp only; omega, ?_, hG2⟩, rfl, ?_, ?_, ?_⟩
        · dsimp only; rw [hL2, hj2]; exact (k6 x (by omega)).symm
        · cbv; all_goals exact s_sA
        · cbv; refine ⟨.rfl, ?_, trivial⟩; rw [hFG]; exact .rfl
        · cbv; exact gc_c (gc_m (qak hpl)) rfl
      · refine s_shr hS (by simp only [IntKind.bits]; omega) fun r hr => ?_
        have hr0 : 0 ≤ r := by rw [hr]; exact Int.ediv_nonneg (by omega) (Int.le_of_lt (qcp _))
        cbv
        refine qzagv hS hr0 fun r2 hr2 => ?_
        obtain rfl : r2 = u := by
          rw [← b2 (by omega), hr2, hr]
          congr 3
          omega
        cbv
        repeat' (first | (refine s_st hS ?_; try cbv) | (refine qax hS ?_; intro _ _; try cbv) | (refine qbr hS ?_; try cbv) | (refine qzaei hS (by omega) (by omega) (by simp only [hi]; omega) ?_; intro _ _; cbv) | (refine rowB hS g3.symm k1 (by omega) (by omega) ?_; try cbv) | (refine qzagv hS (by omega) ?_; intro _ _; cbv) | (refine qfz hS (c := pw) (by rw [← hpw]; congr 1; simp only [IntKind.bits]; omega) ?_ (by simp only [lo]; omega) (by simp only [hi]; omega); intro _ _; cbv) | (refine s_wr' hS (by omega) (by omega) (Nat.le_refl 1) rfl fun F' hF' => ?_; cbv) | fail)
        rename_i x hx j2 hj2
        obtain ⟨L2, hL2⟩ : ∃ L2, L2 = L.set q.toNat x := ⟨_, rfl⟩
        obtain ⟨G2, hG2⟩ : ∃ G2, G2 = cellsB L2 := ⟨_, rfl⟩
        have hFG : F' = G2 := by
          rw [← hF', hG2, hL2, ← qzaau, g3]
          congr 2
          omega
        refine ⟨(j2, L2, G2), by dsimp only; omega, ⟨by dsimp only; omega, by dsimp only; omega, ?_, hG2⟩, rfl, ?_, ?_, ?_⟩
        · dsimp only; rw [hL2, hj2]; exact (k6 x (by omega)).symm
        · cbv; all_goals exact s_sA
        · cbv; refine ⟨.rfl, ?_, trivial⟩; rw [hFG]; exact .rfl
        · cbv; exact gc_c (gc_m (qak hpl)) rfl
    · have hPG : P = G := by
        rw [g3, ← hP, g2, List.take_of_length_le]
        unfold lenB at hl2
        omega
      refine ⟨.sl 1 1 (.l 0) (.y f4) none, qar (.cons .rfl (.cons (qae (by simp only [Z.v]; omega)) (.cons (qae rfl) .nil))), ?_⟩
      rw [hPG]
      exact qdu g3.symm (Nat.le_refl 1) (by rw [g2, layN_len]; simp only [Z.v]; omega) rfl
end Cz
namespace Cz
open Go Go.RowKit Go.Proofs
theorem lay_u {S : Sy} (hS : S0 Tryz.prog = S) {E : List Bool} {c m : Int} {k : Nat} {F : List SV} {ro lit : Bool} {st zn zu zc zm : Z} {l : List Blk} {K : SV → List Blk → Prop} (hE : lenB E ≤ 100000) (hF : cellsB (layB E) = F)
    (hrow : lget l k = .r ro lit st 1 F) (hn : zn.v = ilen (layB E)) (hu : zu.v = lenB E) (hzc : zc.v = c) (hzm : zm.v = m) (hm0 : 0 ≤ m) (hm : m ≤ 30) (hc0 : 0 ≤ c) (hc : c < 2 ^ m.toNat)
    (hK : ∀ E2 n2 F2 st u2, E2 = E ++ Hu.bitsN m.toNat c.toNat → cellsB (layB E2) = F2 → n2 = ilen (layB E2) → u2 = lenB E + m → K (.tp [.sl (len l) 1 (.l 0) (.y n2) none, .i .i64 (.y u2), .i .i64 (.y 0)]) (snoc l (.r false false (.y st) 1 F2))) :
    S.call 115 [.sl k 1 (.l 0) zn none, .i .i64 zu, .i .i64 zc, .i .i64 zm] l K := by
  subst hzc hzm hF
  refine qfc hS (fun _ => k) (Lay_f hE hm0 hm hc0 hc) (.cons (qbw rfl hn) (.cons (qae hu) (.cons (qae rfl) (.cons (qae rfl) .nil)))) rfl ⟨⟨_, _, _, _, _, _, _, _, rfl, qab _, hrow, .rfl⟩, trivial⟩ (by omega) (qab _) rfl (n := ilen (layB (E ++ Hu.bitsN zm.v.toNat zc.v.toNat))) ?_ fun st => hK _ _ _ st _ rfl rfl rfl rfl
  have := qat (layB (E ++ Hu.bitsN zm.v.toNat zc.v.toNat))
  unfold ilen at this ⊢
  rw [this]; simp
theorem bits_ones (k : Nat) : Hu.bitsN k (2 ^ k - 1) = List.replicate k true := by
  have := Hu.qis (List.replicate k true)
  rwa [List.length_replicate, Hu.qkk] at this
theorem lay_put {b : List Int} {E2 : List Bool} {k c : Int} (h : E2 = Hu.enc b ++ Hu.bitsN k.toNat c.toNat) (hk : k = 8 * ((lenB (Hu.enc b) + 7) / 8) - lenB (Hu.enc b)) (hc : c = 2 ^ k.toNat - 1) : layB E2 = Hu.put b := by
  have hc' : c.toNat = 2 ^ k.toNat - 1 := by rw [hc, ← qee]; omega
  rw [hc', bits_ones] at h
  unfold lenB at hk
  have hp : k.toNat = Hu.pad (Hu.enc b).length := by unfold Hu.pad; omega
  unfold Hu.put Hu.pack layB layN Hu.padded
  rw [h, hp]
  have hl : (Hu.enc b ++ List.replicate (Hu.pad (Hu.enc b).length) true).length = 8 * (((Hu.enc b).length + 7) / 8) := Hu.qml _
  rw [hl]
  rw [show (8 * (((Hu.enc b).length + 7) / 8) + 7) / 8 = ((Hu.enc b).length + 7) / 8 by omega, Nat.sub_self, show 8 * (((Hu.enc b).length + 7) / 8) / 8 = ((Hu.enc b).length + 7) / 8 by omega]
  simp
theorem encT_0 (b : List Int) : encT b 0 = [] := by unfold encT; simp [Hu.enc]
theorem pl_m {F : List SV} : plains F = true → (match F with | [] => true | x :: xs => plainV x && plains xs) = true := by
  intro h
  cases F with
  | nil => rfl
  | cons x xs => simpa only [plains] using h
theorem rput_f {b : List Int} (hb : Hu.BOk b) (hn : ilen b ≤ 5000) :
    (S0 Tryz.prog).call 105 [.sl 0 1 (.l 0) (.y (ilen b)) none] [.r true true (.l 0) 1 (cellsB b)] (OwnR 1 1 (cellsB (Hu.put b)) false []) := by
  obtain ⟨n, hn'⟩ : ∃ n, n = ilen b := ⟨_, rfl⟩
  have h0n := qah b
  rw [← hn'] at hn h0n ⊢
  have hpl := qab b
  generalize hF : cellsB b = F at hpl ⊢
  generalize hP : cellsB (Hu.put b) = P
  generalize hS : S0 Tryz.prog = S
  refine qaa hS I.qre ?_
  cbv
  refine qmi hS 3 1 (by omega) rfl ?_
  cbv
  refine s_loop_ren hS 2 I.qkf (fun x : Int × Int × Int × Int × List SV => 0 ≤ x.1 ∧ x.1 ≤ n ∧ x.2.1 = bitsI b x.1 ∧ x.2.2.1 = ilen (layB (encT b x.1)) ∧ x.2.2.2.2 = cellsB (layB (encT b x.1)))
    (fun x => [(5, .i .i64 (.y x.1)), (4, .i .i64 (.y x.2.1)), (3, .sl 1 1 (.l 0) (.y x.2.2.1) none)]) (fun x => [(1, .r false false (.y x.2.2.2.1) 1 x.2.2.2.2)])
    (fun x => (n - x.1).toNat) (0, 0, 0, 0, []) rfl rfl (fun _ => rfl) ⟨⟨Int.le_refl _, by dsimp only; omega, by dsimp only; rfl, by dsimp only; rw [encT_0]; rfl, by dsimp only; rw [encT_0]; rfl⟩, rfl, ?_, ?_, ?_⟩ ?_
  · cbv; (repeat' (first | exact qci | exact Sub.rfl | exact SubL.nil | refine SubL.cons ?_ ?_ | exact qae rfl | exact qbw rfl rfl))
  · cbv; exact ⟨.rfl, .r .rfl rfl rfl, trivial⟩
  · cbv; exact gc_c (gc_m (qak hpl)) rfl
  · intro x
    obtain ⟨j, u, nn, st, G⟩ := x
    intro hx
    dsimp only at hx
    cbv
    obtain ⟨g0, g1, g2, g3, g4⟩ := hx
    have hbd := qhi (b := b) g0
    rw [← g2] at hbd
    refine qai hS ?_ ?_ <;> intro h <;> cbv
    · obtain ⟨v, hv⟩ := qei (l := b) (i := j) (by omega) (by omega)
      have hb0 := hb v (List.mem_of_getElem? hv)
      obtain ⟨m, hm⟩ : ∃ m, clsI v = m := ⟨_, rfl⟩
      obtain ⟨c, hcv⟩ : ∃ c, codeI v = c := ⟨_, rfl⟩
      have hmb := qtc v
      have hcb := qzada hb0
      have hnx := qmz hv g0
      have hen := qxm hv g0
      have hco : Hu.cod v.toNat = Hu.bitsN m.toNat c.toNat := by rw [← hm, ← hcv]; rfl
      rw [hco] at hen
      rw [hm] at hmb hnx hcb
      rw [hcv] at hcb
      have hlE : lenB (encT b j) = u := g2.symm
      repeat' (first | (refine s_st hS ?_; try cbv) | (refine rowB hS hF hv rfl (by omega) ?_; try cbv) | (refine qzaha hS hb0.1 hb0.2 fun c' m' hc' hm' => ?_; obtain rfl : c' = c := hc'.symm.trans hcv; obtain rfl : m' = m := hm'.symm.trans hm; cbv) | fail)
      refine lay_u hS (E := encT b j) (c := c') (m := m') (by omega) g4.symm rfl (by simp only [Z.v]; exact g3) (by simp only [Z.v]; omega) rfl rfl (by omega) (by omega) hcb.1 hcb.2.1 fun E2 n2 F2 st2 u2 hE2 hF2 hn2 hu2 => ?_
      cbv
      repeat' (first | (refine qax hS ?_; intro _ _; try cbv) | fail)
      rename_i j2 hj2
      rw [← hen, ← hj2] at hE2
      refine ⟨(j2, u2, n2, st2, F2), 1, 2, by decide, by decide, by dsimp only; omega, ⟨by dsimp only; omega, by dsimp only; omega, by dsimp only; rw [hj2, hnx]; omega, by dsimp only; rw [hn2, hE2], by dsimp only; rw [← hF2, hE2]⟩, rfl, ?_, ?_, ?_⟩
      · cbv; all_goals exact s_sA
      · cbv
        exact ⟨.inr ⟨.rfl, pl_m hpl, trivial⟩, .inr ⟨.rfl, pl_m (by rw [← hF2]; exact qab _), trivial⟩, trivial⟩
      · cbv; exact gc_c (gc_m (qak hpl)) rfl
    · obtain rfl : j = n := by omega
      have hee : encT b j = Hu.enc b := by unfold encT; rw [qca (by omega)]
      have hlE : lenB (Hu.enc b) = u := by rw [← hee]; exact g2.symm
      have hnn : nn = (u + 7) / 8 := by rw [g3, lenB_lay, hee, hlE]
      obtain ⟨k, hk⟩ : ∃ k, k = 8 * nn - u := ⟨_, rfl⟩
      obtain ⟨p, hp⟩ : ∃ p : Int, 2 ^ k.toNat = p := ⟨_, rfl⟩
      have hp0 : 0 < p := by rw [← hp]; exact qcp _
      have hp1 : p ≤ 128 := by have := qed (m := k.toNat) (n := 7) (by omega); rw [hp] at this; omega
      repeat' (first | (refine s_st hS ?_; try cbv) | (refine qax hS ?_; intro _ _; try cbv) | (refine qbr hS ?_; try cbv) | (refine qjy hS ?_ (by simp only [lo]; omega) (by simp only [hi]; omega); intro _ _; try cbv) | (refine qfz hS (c := p) (by rw [← hp]; congr 1; simp only [IntKind.bits]; omega) ?_ (by simp only [lo]; omega) (by simp only [hi]; omega); intro _ _; cbv) | fail)
      rename_i a1 ha1 k1 hk1 a3 ha3 c1 hc1
      have hkk : k1 = k := by omega
      refine lay_u hS (E := encT b j) (c := c1) (m := k1) (by rw [hee]; omega) g4.symm rfl (by simp only [Z.v]; exact g3) (by simp only [Z.v]; rw [hee]; omega) rfl rfl (by omega) (by omega) (by omega) (by rw [hkk, hp]; omega) fun E2 n2 F2 st2 u2 hE2 hF2 hn2 hu2 => ?_
      cbv
      rw [hee] at hE2
      have hPF : P = F2 := by rw [← hP, ← hF2, lay_put hE2 (by rw [hlE]; omega) (by rw [hkk, hp]; omega)]
      refine ⟨_, .rfl, ?_⟩
      rw [hPF]
      exact qdu hF2 (by omega) hn2 rfl
end Cz
namespace Cz
open Go Go.RowKit Go.Proofs
theorem next_u {S : Sy} (hS : S0 Tryz.prog = S) {b : List Int} {F : List SV} {n : Int} {zi : Z} {k : Nat} {ro lit : Bool} {st : Z} {l : List Blk} {K : SV → List Blk → Prop} (hb : Hu.BOk b) (hn : ilen b ≤ 1000000) (hn' : n = ilen b) (hF : cellsB b = F)
    (hrow : lget l k = .r ro lit st 1 F) (i : Int) (hi : zi.v = i) (h0 : 0 ≤ i) (h1 : ∀ c m, nextR b i = (c, m) → K (.tp [.i .u8 (.y c), .i .i64 (.y m)]) l) :
    S.call 134 [.sl k 1 (.l 0) (.y n) none, .i .i64 zi] l K := by
  subst hn' hF hi
  exact qda hS (fun _ => k) (next_f (b := b) (i := zi.v) hb hn h0 rfl) (.cons .rfl (.cons (qae rfl) .nil)) rfl ⟨⟨_, _, _, _, _, _, _, _, rfl, qab b, hrow, .rfl⟩, trivial⟩ rfl (h1 _ _ rfl)
theorem rend_some {P G : List SV} {L : List Int} {E : Int} {z st : Z} {lit : Bool} {l' : List Blk} (hP : P = cellsB L) (hE : E = 0) (hG : cellsB L = G) (hz : z.v = ilen L) (hB : l'[1]? = some (.r false lit st 1 G)) :
    OwnR 1 1 P true [.i .i64 (.y E)] (.tp [.sl 1 1 (.l 0) z none, .i .i64 (.l 0)]) l' := by
  refine ⟨_, qar (.cons .rfl (.cons (qae hE.symm) .nil)), ?_⟩
  rw [hP, hG]
  exact qdu hG (by omega) hz hB
theorem rtake_f {b : List Int} (hb : Hu.BOk b) (hn : ilen b ≤ 1000000) :
    (S0 Tryz.prog).call 122 [.sl 0 1 (.l 0) (.y (ilen b)) none] [.r true true (.l 0) 1 (cellsB b)] (OwnR 1 1 (cellsB (takeL b)) true [.i .i64 (.y (takeE b))]) := by
  obtain ⟨n, hn'⟩ : ∃ n, n = ilen b := ⟨_, rfl⟩
  have h0n := qah b
  have hnb := hn
  rw [← hn'] at hn h0n ⊢
  have hpl := qab b
  generalize hF : cellsB b = F at hpl ⊢
  generalize hP : cellsB (takeL b) = P
  generalize hE : takeE b = E
  generalize hS : S0 Tryz.prog = S
  refine qaa hS I.qpo ?_
  cbv
  refine qmi hS 4 1 (by omega) rfl ?_
  cbv
  refine qav hS 2 I.qjo (fun x : Int × Int × Int × List Int × List SV => 0 ≤ x.1 ∧ x.1 ≤ 8 * n ∧ x.2.1 = ilen x.2.2.2.1 ∧ x.2.1 ≤ x.1 ∧ x.2.2.2.2 = cellsB x.2.2.2.1 ∧ Hu.dec (Hu.bl b) = (x.2.2.2.1 ++ (decI b x.1).1, (decI b x.1).2))
    (fun x => [(4, .sl 1 1 (.l 0) (.y x.2.1) none), (5, .i .i64 (.y x.1))]) (fun x => [(1, .r false false (.y x.2.2.1) 1 x.2.2.2.2)])
    (fun x => (8 * n - x.1).toNat) (0, 0, 0, [], []) rfl ⟨⟨Int.le_refl _, by dsimp only; omega, rfl, Int.le_refl _, rfl, by dsimp only; rw [qho]; rfl⟩, rfl, ?_, ?_, ?_⟩ ?_
  · cbv; (repeat' (first | exact qci | exact Sub.rfl | exact SubL.nil | refine SubL.cons ?_ ?_ | exact qae rfl | exact qbw rfl rfl))
  · cbv; exact ⟨.rfl, .r .rfl rfl rfl, trivial⟩
  · cbv; exact gc_c (gc_m (qak hpl)) rfl
  intro x
  obtain ⟨i, q, st, L, G⟩ := x
  intro hx
  dsimp only at hx
  cbv
  obtain ⟨h0, h1, hq, hqi, hG0, hdec⟩ := hx
  have hG : ilen G = ilen L := by rw [hG0, qat]
  refine next_u hS hb hnb hn' hF rfl i rfl h0 fun c m hcm => ?_
  cbv
  refine qai hS ?_ ?_ <;> intro h <;> cbv
  · have hno : decI b i = ([], dropI b i) := next_none h0 (c := c) (by rw [hcm, h])
    have hD : Hu.dec (Hu.bl b) = (L, dropI b i) := by rw [hdec, hno]; simp
    obtain ⟨k, hk⟩ : ∃ k, k = 8 * ilen b - i := ⟨_, rfl⟩
    repeat' (first | (refine s_st hS ?_; try cbv) | (refine qai hS ?_ ?_ <;> intro h <;> (try cbv) <;> try exact s_ab h) | (refine qax hS ?_; intro _ _; try cbv) | (refine qbr hS ?_; try cbv) | (refine qjy hS ?_ (by simp only [lo]; omega) (by simp only [hi]; omega); intro _ _; cbv) | (refine rbits_v hS hb hnb hn' hF rfl i k (by simp only [Z.v]) (by simp only [Z.v]; omega) (by omega) (by omega) (by omega) (fun r hr => ?_); cbv) | (refine qks hS k (by omega) (by omega) (by omega) (by decide) (fun p hp hp1 hp2 => ?_); cbv) | fail)
    · have hb7 := qdz (i := i) (by omega) (by omega) hD (by omega)
      exact qbq (hP.symm.trans (by rw [hb7.1]; rfl)) (hE.symm.trans hb7.2)
    · have hne : r ≠ p - 1 := by first | omega | (simp at h; omega)
      have hte := (qbp (i := i) (by omega) (by omega) hD hk (by omega)).2 (by rw [hr, ← hp]; exact hne)
      exact qbq (hP.symm.trans (by rw [hte.1]; rfl)) (hE.symm.trans hte.2)
    · have heq : r = p - 1 := by first | omega | (simp at h; omega)
      have hte := (qbp (i := i) (by omega) (by omega) hD hk (by omega)).1 (by rw [hr, ← hp]; exact heq)
      exact rend_some (hP.symm.trans (by rw [hte.1])) (hE.symm.trans hte.2) hG0.symm hq rfl
  · obtain ⟨c0, c1, m5, m11, hle, hs⟩ := next_some h0 hcm h
    repeat' (first | (refine s_st hS ?_; try cbv) | (refine qax hS ?_; intro _ _; try cbv) | (refine qeb hS (by rw [hG, ← hq]; omega) ?_; cbv) | fail)
    rename_i i2 hi2
    obtain ⟨q2, h_q2⟩ : ∃ q2, q2 = q + 1 := ⟨_, rfl⟩
    obtain ⟨st2, h_st2⟩ : ∃ st2, st2 = S.flen G := ⟨_, rfl⟩
    obtain ⟨G2, h_G2⟩ : ∃ G2, G2 = cellsB (L ++ [c]) := ⟨_, rfl⟩
    refine ⟨(i2, q2, st2, L ++ [c], G2), by dsimp only; omega, ⟨by dsimp only; omega, by dsimp only; omega, ?_, by dsimp only; omega, h_G2, ?_⟩, rfl, ?_, ?_, ?_⟩
    · dsimp only; rw [h_q2, hq, qgf]
    · dsimp only; rw [hdec, hs, hi2]; simp
    · cbv; (repeat' (first | exact qci | exact Sub.rfl | exact SubL.nil | refine SubL.cons ?_ ?_ | exact qae rfl | (refine qbw rfl ?_; simp only [Z.v, ← hS, Int.ofNat_eq_natCast, cq, Bool.not_eq_true', Bool.not_eq_false', decide_eq_true_eq, decide_eq_false_iff_not, beq_iff_eq, beq_eq_false_iff_ne, ne_eq]; omega)))
    · cbv; exact ⟨.rfl, qha hS hG0.symm h_G2.symm rfl h_st2.symm, trivial⟩
    · cbv; exact gc_c (gc_m (qak hpl)) rfl
end Cz
namespace Cz
open Go Go.RowKit Go.Proofs
theorem qby (L : List Int) : ilen L * ((1 : Nat) : Int) = (cellsB L).length := by
  have := qat L
  unfold ilen at this ⊢
  rw [this]; simp
section
variable {S : Sy} {b : List Int} {F : List SV} {k : Nat} {ro lit : Bool} {st zn : Z} {l : List Blk} {K : SV → List Blk → Prop}
theorem put_u (hS : S0 Tryz.prog = S) (hb : Hu.BOk b) (hn : ilen b ≤ 1000000) (hrow : lget l k = .r ro lit st 1 F) (hs : FSub F (cellsB b)) (hz : zn.v = ilen b)
    (hK : ∀ F2 n2 st, cellsB (Hu.put b) = F2 → n2 = ilen (Hu.put b) → K (.sl (len l) 1 (.l 0) (.y n2) none) (snoc l (.r false false (.y st) 1 F2))) : S.call 102 [.sl k 1 (.l 0) zn none] l K :=
  qfc hS (fun _ => k) (put_f hb hn) (.cons (qbw rfl hz) .nil) rfl ⟨⟨_, _, _, _, _, _, _, _, rfl, qab _, hrow, hs⟩, trivial⟩ (by omega) (qab _) rfl (qby _) fun st => hK _ _ st rfl rfl
theorem rput_u (hS : S0 Tryz.prog = S) (hb : Hu.BOk b) (hn : ilen b ≤ 5000) (hrow : lget l k = .r ro lit st 1 F) (hs : FSub F (cellsB b)) (hz : zn.v = ilen b)
    (hK : ∀ F2 n2 st, cellsB (Hu.put b) = F2 → n2 = ilen (Hu.put b) → K (.sl (len l) 1 (.l 0) (.y n2) none) (snoc l (.r false false (.y st) 1 F2))) : S.call 105 [.sl k 1 (.l 0) zn none] l K :=
  qfc hS (fun _ => k) (rput_f hb hn) (.cons (qbw rfl hz) .nil) rfl ⟨⟨_, _, _, _, _, _, _, _, rfl, qab _, hrow, hs⟩, trivial⟩ (by omega) (qab _) rfl (qby _) fun st => hK _ _ st rfl rfl
theorem take_u (hS : S0 Tryz.prog = S) (hb : Hu.BOk b) (hn : ilen b ≤ 1000000) (hrow : lget l k = .r ro lit st 1 F) (hs : FSub F (cellsB b)) (hz : zn.v = ilen b)
    (hK : ∀ L F2 n2 st e, takeL b = L → cellsB L = F2 → n2 = ilen L → takeE b = e → K (.tp [.sl (len l) 1 (.l 0) (.y n2) none, .i .i64 (.y e)]) (snoc l (.r false false (.y st) 1 F2))) : S.call 121 [.sl k 1 (.l 0) zn none] l K :=
  qfc hS (fun _ => k) (take_f hb hn) (.cons (qbw rfl hz) .nil) rfl ⟨⟨_, _, _, _, _, _, _, _, rfl, qab _, hrow, hs⟩, trivial⟩ (by omega) (qab _) rfl (qby _) fun st => hK _ _ _ st _ rfl rfl rfl rfl
theorem short_u (hS : S0 Tryz.prog = S) (hb : Hu.BOk b) (hn : ilen b ≤ 1000000) (hrow : lget l k = .r ro lit st 1 F) (hs : FSub F (cellsB b)) (hz : zn.v = ilen b)
    (hK : ∀ t, shortB b = t → K (.b t) l) : S.call 81 [.sl k 1 (.l 0) zn none] l K :=
  qda hS (fun _ => k) (Shorter_f hb hn rfl) (.cons (qbw rfl hz) .nil) rfl ⟨⟨_, _, _, _, _, _, _, _, rfl, qab _, hrow, hs⟩, trivial⟩ rfl (hK _ rfl)
theorem rshort_u (hS : S0 Tryz.prog = S) (hb : Hu.BOk b) (hn : ilen b ≤ 1000000) (hrow : lget l k = .r ro lit st 1 F) (hs : FSub F (cellsB b)) (hz : zn.v = ilen b)
    (hK : ∀ t, shortB b = t → K (.b t) l) : S.call 84 [.sl k 1 (.l 0) zn none] l K :=
  qda hS (fun _ => k) (rShorter_f hb hn rfl) (.cons (qbw rfl hz) .nil) rfl ⟨⟨_, _, _, _, _, _, _, _, rfl, qab _, hrow, hs⟩, trivial⟩ rfl (hK _ rfl)
theorem same_u {a : List Int} {G : List SV} {k' : Nat} {ro' lit' : Bool} {st' zm : Z} (hS : S0 Tryz.prog = S) (ha : Hu.BOk a) (hab : a = b) (hrow : lget l k = .r ro lit st 1 F) (hs : FSub F (cellsB a)) (hz : zn.v = ilen a)
    (hrow' : lget l k' = .r ro' lit' st' 1 G) (hs' : FSub G (cellsB b)) (hz' : zm.v = ilen b) (hK : K .tt l) : S.call 10 [.sl k 1 (.l 0) zn none, .sl k' 1 (.l 0) zm none] l K :=
  qda hS (fun j => if j = 0 then k else k') (Same_f ha (hab ▸ ha) hab) (.cons (qbw rfl hz) (.cons (qbw rfl hz') .nil)) rfl
    ⟨⟨_, _, _, _, _, _, _, _, rfl, qab _, hrow, hs⟩, ⟨_, _, _, _, _, _, _, _, rfl, qab _, hrow', hs'⟩, trivial⟩ rfl hK
end
theorem bok1 {l : List Int} (h : l.all (fun v => decide (0 ≤ v) && decide (v < 256)) = true) : Hu.BOk l := by
  intro v hv
  have := List.all_eq_true.1 h v hv
  simpa using this
end Cz
namespace Cz
open Go Go.RowKit Go.Proofs
theorem s_nilx {S : Sy} {n : Int} {k1 k2 : Unit → Prop} (hS : S0 Tryz.prog = S) (h1 : n = 0 → k1 ()) (h2 : k2 ()) : S.nil n k1 k2 := by subst hS; exact ⟨h1, h2⟩
def part (b : List Int) (o n : Int) : List Int := (b.drop o.toNat).take n.toNat
theorem quv {S : Sy} (hS : S0 Tryz.prog = S) {b : List Int} {F : List SV} {o n : Int} (hF : cellsB b = F) : S.app [] (S.sub F o n 1) = cellsB (part b o n) := by
  subst hS hF
  show [] ++ ((cellsB b).drop (o.toNat * 1)).take (n.toNat * 1) = _
  simp only [List.nil_append, Nat.mul_one, part, qdy, List.map_take, List.map_drop]
theorem qeu {b : List Int} {o n : Int} (h0 : 0 ≤ o) (h1 : 0 ≤ n) (h2 : o + n ≤ ilen b) : ilen (part b o n) = n := by
  unfold part ilen at *
  rw [List.length_take, List.length_drop]; omega
theorem qiq {P : Program} {g : FuncId} {args : List SV} {F : List SV} {sz : Nat} {K : SV → List Blk → Prop} (hp : plains F = true) (h : (S0 P).call g args [.r true false (.l 0) sz F] K) : (S0 P).call g args [.r true true (.l 0) sz F] K := by
  intro N W0 ρ W vals hR hd
  exact h N W0 ρ W vals (hR.sub rfl fun k B' hB => by
    cases k with
    | zero => simp only [List.getElem?_cons_zero, Option.some.injEq] at hB; subst hB; exact ⟨_, rfl, .r .rfl rfl hp⟩
    | succ k => simp at hB) hd
theorem qga {n0 k : Nat} {L : List Int} {X P : List SV} {lit : Bool} {st nn : Z} {l' : List Blk} (hX : X = cellsB L) (hP : cellsB L = P) (hk : n0 ≤ k) (hn : nn.v = ilen L) (hB : l'[k]? = some (.r false lit st 1 X)) : RowIs n0 1 P (.sl k 1 (.l 0) nn none) l' := by
  rw [hX, hP] at hB
  exact qdu hP hk hn hB
theorem clone_b {b : List Int} {o n : Int} (h0 : 0 ≤ o) (h1 : 0 ≤ n) (h2 : o + n ≤ ilen b) (h3 : ilen b ≤ 1000000) :
    (S0 Tryz.prog).call 108 [.sl 0 1 (.y o) (.y n) none] [.r true true (.l 0) 1 (cellsB b)] (OwnR 1 1 (cellsB (part b o n)) false []) := by
  have hl := qeu h0 h1 h2
  have hpl := qab b
  generalize hF : cellsB b = F at hpl ⊢
  generalize hP : cellsB (part b o n) = P
  refine qiq hpl ?_
  generalize hS : S0 Tryz.prog = S
  refine qaa hS I.qzm ?_
  cbv
  refine s_nilx hS ?_ ?_
  · intro h
    cbv
    refine ⟨_, .rfl, .inl ⟨rfl, ?_⟩⟩
    rw [← hP, h]; unfold part; simp [cellsB]
  · cbv
    refine qeb hS (G := []) (by rfl) ?_
    cbv
    repeat' (first | (refine s_st hS ?_; try cbv) | fail)
    exact ⟨_, .rfl, qga (quv hS hF) hP (Nat.le_refl 1) (by rw [hl]; rfl) rfl⟩
theorem clone_s {b : List Int} {o n : Int} (h0 : 0 ≤ o) (h1 : 0 ≤ n) (h2 : o + n ≤ ilen b) (h3 : ilen b ≤ 1000000) :
    (S0 Tryz.prog).call 120 [.sl 0 1 (.y o) (.y n) none] [.r true true (.l 0) 1 (cellsB b)] (OwnR 1 1 (cellsB (part b o n)) false []) := by
  have hl := qeu h0 h1 h2
  have hpl := qab b
  generalize hF : cellsB b = F at hpl ⊢
  generalize hP : cellsB (part b o n) = P
  refine qiq hpl ?_
  generalize hS : S0 Tryz.prog = S
  refine qaa hS I.qft ?_
  cbv
  refine s_nilx hS ?_ ?_
  · intro h
    cbv
    refine ⟨_, .rfl, .inl ⟨rfl, ?_⟩⟩
    rw [← hP, h]; unfold part; simp [cellsB]
  · cbv
    refine qeb hS (G := []) (by rfl) ?_
    cbv
    repeat' (first | (refine s_st hS ?_; try cbv) | fail)
    exact ⟨_, .rfl, qga (quv hS hF) hP (Nat.le_refl 1) (by rw [hl]; rfl) rfl⟩
section
variable {S : Sy} {b : List Int} {F : List SV} {k : Nat} {ro lit : Bool} {st zo zn : Z} {l : List Blk} {K : SV → List Blk → Prop}
theorem qzadd (hS : S0 Tryz.prog = S) (o n : Int) (ho : zo.v = o) (hn : zn.v = n) (h0 : 0 ≤ o) (h1 : 0 ≤ n) (h2 : o + n ≤ ilen b) (h3 : ilen b ≤ 1000000) (hrow : lget l k = .r ro lit st 1 F) (hs : FSub F (cellsB b))
    (hK : ∀ F2 st, cellsB (part b o n) = F2 → K (.sl (len l) 1 (.l 0) (.y n) none) (snoc l (.r false false (.y st) 1 F2))) : S.call 108 [.sl k 1 zo zn none] l K := by
  have hc := qby (part b o n)
  rw [qeu h0 h1 h2] at hc
  exact qfc hS (fun _ => k) (clone_b h0 h1 h2 h3) (.cons (qbw ho hn) .nil) rfl ⟨⟨_, _, _, _, _, _, _, _, rfl, qab _, hrow, hs⟩, trivial⟩ (by omega) (qab _) rfl hc fun st => hK _ st rfl
theorem clone_su (hS : S0 Tryz.prog = S) (o n : Int) (ho : zo.v = o) (hn : zn.v = n) (h0 : 0 ≤ o) (h1 : 0 ≤ n) (h2 : o + n ≤ ilen b) (h3 : ilen b ≤ 1000000) (hrow : lget l k = .r ro lit st 1 F) (hs : FSub F (cellsB b))
    (hK : ∀ F2 st, cellsB (part b o n) = F2 → K (.sl (len l) 1 (.l 0) (.y n) none) (snoc l (.r false false (.y st) 1 F2))) : S.call 120 [.sl k 1 zo zn none] l K := by
  have hc := qby (part b o n)
  rw [qeu h0 h1 h2] at hc
  exact qfc hS (fun _ => k) (clone_s h0 h1 h2 h3) (.cons (qbw ho hn) .nil) rfl ⟨⟨_, _, _, _, _, _, _, _, rfl, qab _, hrow, hs⟩, trivial⟩ (by omega) (qab _) rfl hc fun st => hK _ st rfl
end
def pgo (b : List Int) : Nat → Int → Int → Int × Int × Int
  | 0, _, _ => (0, 0, 60)
  | f + 1, at', n => match b[at'.toNat]? with
    | none => (0, 0, 10)
    | some v =>
      if 5 < at' ∨ 2147483648 ≤ n + v % 128 * 2 ^ (7 * (at' - 1)).toNat then (0, 0, 60)
      else if v < 128 then (n + v % 128 * 2 ^ (7 * (at' - 1)).toNat, at' + 1, 0)
      else pgo b f (at' + 1) (n + v % 128 * 2 ^ (7 * (at' - 1)).toNat)
def preI (b : List Int) (p : Int) : Int × Int × Int := match b with
  | [] => (0, 0, 10)
  | v :: _ => if v % p < p - 1 then (v % p, 1, 0) else pgo b 6 1 (p - 1)
def preN (b : List Int) (p : Int) : Int := (preI b p).1
def preE (b : List Int) (p : Int) : Int := (preI b p).2.2
def preR (b : List Int) (p : Int) : List Int := if preE b p = 0 then b.drop (preI b p).2.1.toNat else []
theorem pgo_none {b : List Int} {f : Nat} {a n : Int} (h0 : 0 ≤ a) (h : ilen b ≤ a) : pgo b (f + 1) a n = (0, 0, 10) := by
  rw [pgo, List.getElem?_eq_none (by unfold ilen at h; omega)]
theorem pgo_long {b : List Int} {f : Nat} {a n v s : Int} (hv : b[a.toNat]? = some v) (hs : s = v % 128 * 2 ^ (7 * (a - 1)).toNat) (h : 5 < a ∨ 2147483648 ≤ n + s) : pgo b (f + 1) a n = (0, 0, 60) := by
  rw [pgo, hv]; simp only [← hs]; rw [if_pos h]
theorem pgo_end {b : List Int} {f : Nat} {a n v s : Int} (hv : b[a.toNat]? = some v) (hs : s = v % 128 * 2 ^ (7 * (a - 1)).toNat) (h : ¬(5 < a ∨ 2147483648 ≤ n + s)) (h2 : v < 128) : pgo b (f + 1) a n = (n + s, a + 1, 0) := by
  rw [pgo, hv]; simp only [← hs]; rw [if_neg h, if_pos h2]
theorem pgo_more {b : List Int} {f : Nat} {a n v s : Int} (hv : b[a.toNat]? = some v) (hs : s = v % 128 * 2 ^ (7 * (a - 1)).toNat) (h : ¬(5 < a ∨ 2147483648 ≤ n + s)) (h2 : ¬v < 128) : pgo b (f + 1) a n = pgo b f (a + 1) (n + s) := by
  rw [pgo, hv]; simp only [← hs]; rw [if_neg h, if_neg h2]
end Cz
namespace Cz
open Go Go.RowKit Go.Proofs
theorem and128_all : ∀ n : Fin 256, IntKind.u8.wrap ((BitVec.ofInt 8 (n.val : Int) &&& BitVec.ofInt 8 128).toNat : Int) = if n.val < 128 then 0 else 128 := by decide +kernel
theorem s_and128 {S : Sy} {a : Int} {K : Int → Prop} (hS : S0 Tryz.prog = S) (h0 : 0 ≤ a) (h1 : a < 256) (h : ∀ r, (a < 128 ∧ r = 0 ∨ 128 ≤ a ∧ r = 128) → K r) : S.ar .and .u8 a 128 K := by
  refine qtv hS _ rfl (h _ ?_)
  have := and128_all ⟨a.toNat, by omega⟩
  simp only [Int.toNat_of_nonneg h0] at this
  show (a < 128 ∧ IntKind.u8.wrap ((BitVec.ofInt 8 a &&& BitVec.ofInt 8 128).toNat : Int) = 0) ∨ _
  rw [show arS .and .u8 a 128 = IntKind.u8.wrap ((BitVec.ofInt 8 a &&& BitVec.ofInt 8 128).toNat : Int) from rfl, this]
  by_cases h2 : a < 128
  · left; refine ⟨h2, ?_⟩; rw [if_pos (by omega)]
  · right; refine ⟨by omega, ?_⟩; rw [if_neg (by omega)]
theorem qhb {P : List SV} {N E e : Int} {l' : List Blk} (hP : P = []) (hN : N = 0) (hE : E = e) : OwnP 1 1 P [.i .i64 (.y N)] [.i .i64 (.y E)] (.tp [.i .i64 (.l 0), .re (.slice none 0 0), .i .i64 (.l e)]) l' :=
  ⟨_, qar (.cons (qae hN.symm) (.cons .rfl (.cons (qae hE.symm) .nil))), .inl ⟨rfl, hP⟩⟩
theorem ownP_ok {P : List SV} {L : List Int} {N E n q : Int} {k : Nat} {lit : Bool} {st : Z} {l' : List Blk} (hP : cellsB L = P) (hN : N = n) (hE : E = 0) (hk : 1 ≤ k) (hq : q = ilen L) (hB : l'[k]? = some (.r false lit st 1 P)) :
    OwnP 1 1 P [.i .i64 (.y N)] [.i .i64 (.y E)] (.tp [.i .i64 (.y n), .sl k 1 (.l 0) (.y q) none, .i .i64 (.l 0)]) l' :=
  ⟨_, qar (.cons (qae hN.symm) (.cons .rfl (.cons (qae hE.symm) .nil))), qdu hP hk hq hB⟩
theorem qla {b : List Int} {o n : Int} (h0 : 0 ≤ o) (h : ilen b ≤ o + n) : part b o n = b.drop o.toNat := by
  unfold part; exact List.take_of_length_le (by rw [List.length_drop]; unfold ilen at h; omega)
theorem ptake_f {b : List Int} {k p : Int} (hb : Hu.BOk b) (hnb : ilen b ≤ 1000000) (hk1 : 1 ≤ k) (hk8 : k ≤ 8) (hp : 2 ^ k.toNat = p) :
    (S0 Tryz.prog).call 92 [.sl 0 1 (.l 0) (.y (ilen b)) none, .i .i64 (.y k)] [.r true true (.l 0) 1 (cellsB b)] (OwnP 1 1 (cellsB (preR b p)) [.i .i64 (.y (preN b p))] [.i .i64 (.y (preE b p))]) := by
  obtain ⟨n, hn'⟩ : ∃ n, n = ilen b := ⟨_, rfl⟩
  have h0n := qah b
  have hn := hnb
  rw [← hn'] at h0n hn ⊢
  have hp0 : 2 ≤ p := by have := qed (m := 1) (n := k.toNat) (by omega); rw [hp] at this; omega
  have hp1 : p ≤ 256 := by have := qed (m := k.toNat) (n := 8) (by omega); rw [hp] at this; omega
  have hpl := qab b
  obtain ⟨J0, hJ⟩ : ∃ J0, J0 = preI b p := ⟨_, rfl⟩
  obtain ⟨N, hN⟩ : ∃ N, N = preN b p := ⟨_, rfl⟩
  obtain ⟨E, hE⟩ : ∃ E, E = preE b p := ⟨_, rfl⟩
  obtain ⟨R, hR⟩ : ∃ R, R = preR b p := ⟨_, rfl⟩
  rw [← hN, ← hE, ← hR]
  have herr : ∀ e, e ≠ 0 → J0 = (0, 0, e) → cellsB R = [] ∧ N = 0 ∧ E = e := by
    intro e he h
    rw [hJ] at h
    unfold preR at hR
    have h2 : preE b p = e := by unfold preE; rw [h]
    rw [h2, if_neg he] at hR
    exact ⟨by rw [hR]; rfl, by rw [hN]; unfold preN; rw [h], hE.trans h2⟩
  have hok : ∀ n' a, 0 ≤ a → J0 = (n', a, 0) → R = b.drop a.toNat ∧ N = n' ∧ E = 0 := by
    intro n' a _ h
    rw [hJ] at h
    unfold preR at hR
    have h2 : preE b p = 0 := by unfold preE; rw [h]
    rw [h2, if_pos rfl, h] at hR
    exact ⟨hR, by rw [hN]; unfold preN; rw [h], hE.trans h2⟩
  have hJ0 : n = 0 → J0 = (0, 0, 10) := by
    intro h
    have : b = [] := List.length_eq_zero_iff.1 (by unfold ilen at hn'; omega)
    rw [hJ, this]; rfl
  have hJ1 : ∀ v, b[(0 : Int).toNat]? = some v → (v % p < p - 1 → J0 = (v % p, 1, 0)) ∧ (¬v % p < p - 1 → J0 = pgo b 6 1 (p - 1)) := by
    intro v hv
    rw [hJ]
    cases b with
    | nil => simp at hv
    | cons w b =>
      simp at hv; subst hv
      unfold preI
      exact ⟨fun h => by simp only [if_pos h], fun h => by simp only [if_neg h]⟩
  clear hN hE hR hJ
  generalize hF : cellsB b = F at hpl ⊢
  have hfs : FSub F (cellsB b) := by rw [hF]; exact .rfl
  generalize hP : cellsB R = P at herr ⊢
  refine qiq hpl ?_
  generalize hS : S0 Tryz.prog = S
  refine qaa hS I.qzk ?_
  cbv
  refine qaa hS I.qgi ?_
  cbv
  repeat' (first | (refine s_st hS ?_; try cbv) | (refine qai hS ?_ ?_ <;> intro h <;> (try cbv) <;> try exact s_ab h) | (refine qax hS ?_; intro _ _; try cbv) | (refine qek hS rfl ?_; cbv) | (refine qfz hS (c := p) (by rw [← hp]; congr 1; simp only [IntKind.bits]; omega) ?_ (by simp only [lo]; omega) (by simp only [hi]; omega); intro _ _; cbv) | fail)
  · obtain ⟨g1, g2, g3⟩ := herr 10 (by decide) (hJ0 h)
    exact qhb g1 g2 g3
  · rename_i e1 he1 m0 hm0
    have hm1 : m0 = p - 1 := by omega
    obtain ⟨v, hv⟩ := qei (l := b) (i := 0) (by omega) (Int.le_refl 0)
    have hb0 := hb v (List.mem_of_getElem? hv)
    obtain ⟨j1, j2⟩ := hJ1 v hv
    clear hJ1
    obtain ⟨w, hw⟩ : ∃ w, w = v % p := ⟨_, rfl⟩
    have hwb : 0 ≤ w ∧ w < p := by rw [hw]; exact ⟨Int.emod_nonneg _ (by omega), Int.emod_lt_of_pos _ (by omega)⟩
    rw [← hw] at j1 j2
    refine rowB hS hF hv rfl (Int.le_refl 0) ?_
    cbv
    refine s_cvi hS ?_ (by simp only [lo]; omega) (by simp only [hi]; omega)
    cbv
    refine qhw hS (c := p) (m := k.toNat) ⟨hm1, hp, by simp only [IntKind.bits]; omega⟩ fun w' hw' => ?_
    obtain rfl : w' = w := hw'.trans hw.symm
    cbv
    refine qai hS ?_ ?_ <;> intro h <;> cbv
    · obtain ⟨g1, g2, g3⟩ := hok w' 1 (by decide) (j1 (by omega))
      repeat' (first | (refine s_st hS ?_; try cbv) | fail)
      obtain ⟨n1, hn1⟩ : ∃ n1, n1 = n - 1 := ⟨_, rfl⟩
      refine qzadd hS (b := b) 1 n1 (by simp only [Z.v, ← hS, Int.ofNat_eq_natCast, cq, Bool.not_eq_true', Bool.not_eq_false', decide_eq_true_eq, decide_eq_false_iff_not, beq_iff_eq, beq_eq_false_iff_ne, ne_eq]) (by simp only [Z.v, ← hS, Int.ofNat_eq_natCast, cq, Bool.not_eq_true', Bool.not_eq_false', decide_eq_true_eq, decide_eq_false_iff_not, beq_iff_eq, beq_eq_false_iff_ne, ne_eq]; omega) (by decide) (by omega) (by omega) (by omega) rfl hfs fun F2 st hF2 => ?_
      have hPF : cellsB R = F2 := by rw [← hF2, qla (by decide) (by omega), g1]
      cbv
      rw [← hPF, hP]
      refine ownP_ok (k := 1) (L := R) hP g2 g3 (Nat.le_refl 1) ?_ rfl
      rw [g1]; unfold ilen at *; rw [List.length_drop]; simp; omega
    · have j3 := j2 (by omega)
      refine qav hS 1 I.qrl (fun x : Int × Int => 1 ≤ x.1 ∧ x.1 ≤ 6 ∧ 0 ≤ x.2 ∧ x.2 < 2147483648 ∧ J0 = pgo b (7 - x.1).toNat x.1 x.2)
        (fun x => [(8, .i .i64 (.y x.1)), (4, .i .i64 (.y x.2))]) (fun x => [])
        (fun x => (7 - x.1).toNat) (1, w') rfl ⟨⟨Int.le_refl _, by dsimp only; omega, hwb.1, by dsimp only; omega, ?_⟩, rfl, ?_, ?_, ?_⟩ ?_
      · dsimp only; rw [j3, show p - 1 = w' by omega]; rfl
      · cbv; all_goals exact s_sA
      · cbv; all_goals exact s_bA
      · cbv
      · intro x
        obtain ⟨a, u⟩ := x
        intro hx
        dsimp only at hx
        cbv
        obtain ⟨g0, g1, g2, g3, g4'⟩ := hx
        have g4 : J0 = pgo b ((6 - a).toNat + 1) a u := by rw [show (6 - a).toNat + 1 = (7 - a).toNat by omega]; exact g4'
        clear g4'
        refine qai hS ?_ ?_ <;> intro h <;> cbv
        · refine qek hS rfl ?_
          cbv
          obtain ⟨k1, k2, k3⟩ := herr 10 (by decide) (g4.trans (pgo_none (by omega) (by omega)))
          exact qhb k1 k2 k3
        · obtain ⟨y, hy⟩ := qei (l := b) (i := a) (by omega) (by omega)
          have hy0 := hb y (List.mem_of_getElem? hy)
          obtain ⟨q, hq⟩ : ∃ q : Int, 2 ^ (7 * (a - 1)).toNat = q := ⟨_, rfl⟩
          have hq0 : 0 < q := by rw [← hq]; exact qcp _
          have hq1 : q ≤ 34359738368 := by have := qed (m := (7 * (a - 1)).toNat) (n := 35) (by omega); rw [hq] at this; omega
          obtain ⟨z, hz⟩ : ∃ z, z = y % 128 := ⟨_, rfl⟩
          obtain ⟨s, hs⟩ : ∃ s, s = z * q := ⟨_, rfl⟩
          have hs0 : 0 ≤ s := by rw [hs]; exact Int.mul_nonneg (by omega) (by omega)
          have hs1 : s ≤ 127 * 34359738368 := by
            rw [hs]
            have h1 : z * q ≤ 127 * q := Int.mul_le_mul_of_nonneg_right (by omega) (by omega)
            omega
          have hs' : s = y % 128 * 2 ^ (7 * (a - 1)).toNat := by rw [hs, hz, hq]
          have c1 : (5 < a ∨ 2147483648 ≤ u + s) → J0 = (0, 0, 60) := fun h => g4.trans (pgo_long hy hs' h)
          have c2 : ¬(5 < a ∨ 2147483648 ≤ u + s) → y < 128 → J0 = (u + s, a + 1, 0) := fun h h2 => g4.trans (pgo_end hy hs' h h2)
          have c3 : ¬(5 < a ∨ 2147483648 ≤ u + s) → ¬y < 128 → J0 = pgo b (6 - a).toNat (a + 1) (u + s) := fun h h2 => g4.trans (pgo_more hy hs' h h2)
          clear g4 hs'
          repeat' (first | (refine s_st hS ?_; try cbv) | (refine qax hS ?_; intro _ _; try cbv) | (refine qbr hS ?_; try cbv) | (refine rowB hS hF hy rfl (by omega) ?_; try cbv) | (refine qhw hS (c := 128) (m := 7) (by decide) ?_; intro _ _; cbv) | (refine qjy hS ?_ (by simp only [lo]; omega) (by simp only [hi]; omega); intro _ _; cbv) | fail)
          rename_i z' hz' a1 ha1 sv hsv
          obtain rfl : z' = z := hz'.trans hz.symm
          refine qfz hS (c := q) (by rw [← hq]; congr 1; simp only [IntKind.bits]; omega) (fun s' hs2 => ?_) (by rw [← hs]; simp only [lo]; omega) (by rw [← hs]; simp only [hi]; omega)
          obtain rfl : s' = s := hs2.trans hs.symm
          cbv
          refine s_add hS (fun u2 hu2 => ?_) (by simp only [lo]; omega) (by simp only [hi]; omega)
          cbv
          repeat' (first | (refine s_st hS ?_; try cbv) | (refine qai hS ?_ ?_ <;> intro h <;> (try cbv) <;> try exact s_ab h) | (refine qax hS ?_; intro _ _; try cbv) | (refine qek hS rfl ?_; cbv) | (refine qcs hS (c := 2147483648) rfl ?_; intro _ _; cbv) | (refine rowB hS hF hy rfl (by omega) ?_; try cbv) | (refine s_and128 hS hy0.1 hy0.2 ?_; intro _ _; cbv) | fail)
          · obtain ⟨k1, k2, k3⟩ := herr 60 (by decide) (c1 (.inl h))
            exact qhb k1 k2 k3
          · obtain ⟨k1, k2, k3⟩ := herr 60 (by decide) (c1 (.inr (by omega)))
            exact qhb k1 k2 k3
          · rename_i a2 ha2
            obtain ⟨g5, g6, g7⟩ := hok (u + s') (a + 1) (by omega) (c2 (by omega) (by omega))
            obtain ⟨n2, hn2⟩ : ∃ n2, n2 = n - a2 := ⟨_, rfl⟩
            have hRl : n2 = ilen R := by
              rw [g5]; unfold ilen at *; rw [List.length_drop]; omega
            refine qzadd hS (b := b) a2 n2 (by simp only [Z.v, ← hS, Int.ofNat_eq_natCast, cq, Bool.not_eq_true', Bool.not_eq_false', decide_eq_true_eq, decide_eq_false_iff_not, beq_iff_eq, beq_eq_false_iff_ne, ne_eq]) (by simp only [Z.v, ← hS, Int.ofNat_eq_natCast, cq, Bool.not_eq_true', Bool.not_eq_false', decide_eq_true_eq, decide_eq_false_iff_not, beq_iff_eq, beq_eq_false_iff_ne, ne_eq]; omega) (by omega) (by omega) (by omega) (by omega) rfl hfs fun F2 st hF2 => ?_
            have hPF : cellsB R = F2 := by rw [← hF2, qla (by omega) (by omega), g5, ha2]
            rw [← hPF, hP]
            cbv
            exact ownP_ok (k := 1) (L := R) hP (by omega) g7 (Nat.le_refl 1) hRl rfl
          · rename_i a2 ha2
            refine ⟨(a2, u2), by dsimp only; omega, ⟨by dsimp only; omega, by dsimp only; omega, by dsimp only; omega, by dsimp only; omega, ?_⟩, rfl, ?_, ?_, ?_⟩
            · dsimp only
              rw [c3 (by omega) (by omega), ha2, hu2, show (7 - (a + 1)).toNat = (6 - a).toNat by omega]
            · cbv; all_goals exact s_sA
            · cbv; all_goals exact s_bA
            · cbv
end Cz
namespace Cz
open Go Go.RowKit Go.Proofs
theorem rptake_f {b : List Int} {k p : Int} (hb : Hu.BOk b) (hnb : ilen b ≤ 1000000) (hk1 : 1 ≤ k) (hk8 : k ≤ 8) (hp : 2 ^ k.toNat = p) :
    (S0 Tryz.prog).call 95 [.sl 0 1 (.l 0) (.y (ilen b)) none, .i .i64 (.y k)] [.r true true (.l 0) 1 (cellsB b)] (OwnP 1 1 (cellsB (preR b p)) [.i .i64 (.y (preN b p))] [.i .i64 (.y (preE b p))]) := by
  obtain ⟨n, hn'⟩ : ∃ n, n = ilen b := ⟨_, rfl⟩
  have h0n := qah b
  have hn := hnb
  rw [← hn'] at h0n hn ⊢
  have hp0 : 2 ≤ p := by have := qed (m := 1) (n := k.toNat) (by omega); rw [hp] at this; omega
  have hp1 : p ≤ 256 := by have := qed (m := k.toNat) (n := 8) (by omega); rw [hp] at this; omega
  have hpl := qab b
  obtain ⟨J0, hJ⟩ : ∃ J0, J0 = preI b p := ⟨_, rfl⟩
  obtain ⟨N, hN⟩ : ∃ N, N = preN b p := ⟨_, rfl⟩
  obtain ⟨E, hE⟩ : ∃ E, E = preE b p := ⟨_, rfl⟩
  obtain ⟨R, hR⟩ : ∃ R, R = preR b p := ⟨_, rfl⟩
  rw [← hN, ← hE, ← hR]
  have herr : ∀ e, e ≠ 0 → J0 = (0, 0, e) → cellsB R = [] ∧ N = 0 ∧ E = e := by
    intro e he h
    rw [hJ] at h
    unfold preR at hR
    have h2 : preE b p = e := by unfold preE; rw [h]
    rw [h2, if_neg he] at hR
    exact ⟨by rw [hR]; rfl, by rw [hN]; unfold preN; rw [h], hE.trans h2⟩
  have hok : ∀ n' a, 0 ≤ a → J0 = (n', a, 0) → R = b.drop a.toNat ∧ N = n' ∧ E = 0 := by
    intro n' a _ h
    rw [hJ] at h
    unfold preR at hR
    have h2 : preE b p = 0 := by unfold preE; rw [h]
    rw [h2, if_pos rfl, h] at hR
    exact ⟨hR, by rw [hN]; unfold preN; rw [h], hE.trans h2⟩
  have hJ0 : n = 0 → J0 = (0, 0, 10) := by
    intro h
    have : b = [] := List.length_eq_zero_iff.1 (by unfold ilen at hn'; omega)
    rw [hJ, this]; rfl
  have hJ1 : ∀ v, b[(0 : Int).toNat]? = some v → (v % p < p - 1 → J0 = (v % p, 1, 0)) ∧ (¬v % p < p - 1 → J0 = pgo b 6 1 (p - 1)) := by
    intro v hv
    rw [hJ]
    cases b with
    | nil => simp at hv
    | cons w b =>
      simp at hv; subst hv
      unfold preI
      exact ⟨fun h => by simp only [if_pos h], fun h => by simp only [if_neg h]⟩
  clear hN hE hR hJ
  generalize hF : cellsB b = F at hpl ⊢
  have hfs : FSub F (cellsB b) := by rw [hF]; exact .rfl
  generalize hP : cellsB R = P at herr ⊢
  refine qiq hpl ?_
  generalize hS : S0 Tryz.prog = S
  refine qaa hS I.qpr ?_
  cbv
  repeat' (first | (refine s_st hS ?_; try cbv) | (refine qai hS ?_ ?_ <;> intro h <;> (try cbv) <;> try exact s_ab h) | (refine qax hS ?_; intro _ _; try cbv) | (refine qbr hS ?_; try cbv) | (refine qaa hS I.qgj ?_; cbv) | (refine qfz hS (c := p) (by rw [← hp]; congr 1; simp only [IntKind.bits]; omega) ?_ (by simp only [lo]; omega) (by simp only [hi]; omega); intro _ _; cbv) | fail)
  · obtain ⟨g1, g2, g3⟩ := herr 10 (by decide) (hJ0 h)
    exact qhb g1 g2 g3
  · rename_i e1 he1 m0 hm0
    have hm1 : m0 = p - 1 := by omega
    obtain ⟨v, hv⟩ := qei (l := b) (i := 0) (by omega) (Int.le_refl 0)
    have hb0 := hb v (List.mem_of_getElem? hv)
    obtain ⟨j1, j2⟩ := hJ1 v hv
    clear hJ1
    obtain ⟨w, hw⟩ : ∃ w, w = v % p := ⟨_, rfl⟩
    have hwb : 0 ≤ w ∧ w < p := by rw [hw]; exact ⟨Int.emod_nonneg _ (by omega), Int.emod_lt_of_pos _ (by omega)⟩
    rw [← hw] at j1 j2
    refine rowB hS hF hv rfl (Int.le_refl 0) ?_
    cbv
    refine s_cvi hS ?_ (by simp only [lo]; omega) (by simp only [hi]; omega)
    cbv
    refine s_add hS (fun p' hp' => ?_) (by simp only [lo]; omega) (by simp only [hi]; omega)
    have hpp : p' = p := by omega
    cbv
    repeat' (first | (refine s_st hS ?_; try cbv) | fail)
    refine qzagv hS (by omega) fun w' hw' => ?_
    obtain rfl : w' = w := by rw [hw', hpp, hw]
    cbv
    obtain ⟨t, ht⟩ : ∃ t, decide (w' = m0) = t := ⟨_, rfl⟩
    have ht1 : t = true → J0 = pgo b 6 1 (p - 1) := fun h => j2 (by rw [← ht] at h; simp only [decide_eq_true_eq] at h; omega)
    have ht2 : t = false → J0 = (w', 1, 0) := fun h => j1 (by rw [← ht] at h; simp only [decide_eq_false_iff_not] at h; omega)
    have ht3 : t = true → w' = p - 1 := fun h => by rw [← ht] at h; simp only [decide_eq_true_eq] at h; omega
    refine qav hS 1 I.qjq (fun x : Int × Int × Bool × Int => 1 ≤ x.1 ∧ x.1 ≤ n ∧ 0 ≤ x.2.1 ∧ x.2.1 < 2147483648 ∧ (x.2.2.1 = true → x.1 ≤ 6 ∧ x.2.2.2 = 7 * (x.1 - 1) ∧ J0 = pgo b (7 - x.1).toNat x.1 x.2.1) ∧ (x.2.2.1 = false → J0 = (x.2.1, x.1, 0)))
      (fun x => [(9, .i .i64 (.y x.1)), (8, .i .i64 (.y x.2.1)), (10, .b x.2.2.1), (11, .i .i64 (.y x.2.2.2))]) (fun x => [])
      (fun x => if x.2.2.1 then (8 - x.1).toNat else 0) (1, w', t, 0) rfl ⟨⟨Int.le_refl _, by dsimp only; omega, hwb.1, by dsimp only; omega, fun h => ⟨by dsimp only; omega, by dsimp only; omega, by dsimp only; rw [ht1 h, ht3 h]; rfl⟩, ht2⟩, rfl, ?_, ?_, ?_⟩ ?_
    · cbv; (repeat' (first | exact qci | exact Sub.rfl | exact SubL.nil | refine SubL.cons ?_ ?_ | exact qae rfl | (refine qqd ?_; simp only [← hS, Int.ofNat_eq_natCast, cq, Bool.not_eq_true', Bool.not_eq_false', decide_eq_true_eq, decide_eq_false_iff_not, beq_iff_eq, beq_eq_false_iff_ne, ne_eq]; assumption)))
    · cbv; all_goals exact s_bA
    · cbv
    · intro x
      obtain ⟨a, u, tt, sf⟩ := x
      intro hx
      dsimp only at hx
      cbv
      obtain ⟨g0, g1, g2, g3, gt, gf⟩ := hx
      refine s_br hS ?_ ?_ <;> intro h <;> cbv
      · obtain ⟨g5, g6, g4'⟩ := gt h
        clear gt gf
        have g4 : J0 = pgo b ((6 - a).toNat + 1) a u := by rw [show (6 - a).toNat + 1 = (7 - a).toNat by omega]; exact g4'
        clear g4'
        refine qai hS ?_ ?_ <;> intro h <;> cbv
        · obtain ⟨k1, k2, k3⟩ := herr 10 (by decide) (g4.trans (pgo_none (by omega) (by omega)))
          exact qhb k1 k2 k3
        · obtain ⟨y, hy⟩ := qei (l := b) (i := a) (by omega) (by omega)
          have hy0 := hb y (List.mem_of_getElem? hy)
          obtain ⟨q, hq⟩ : ∃ q : Int, 2 ^ (7 * (a - 1)).toNat = q := ⟨_, rfl⟩
          have hq0 : 0 < q := by rw [← hq]; exact qcp _
          have hq1 : q ≤ 34359738368 := by have := qed (m := (7 * (a - 1)).toNat) (n := 35) (by omega); rw [hq] at this; omega
          obtain ⟨z, hz⟩ : ∃ z, z = y % 128 := ⟨_, rfl⟩
          obtain ⟨s, hs⟩ : ∃ s, s = z * q := ⟨_, rfl⟩
          have hs0 : 0 ≤ s := by rw [hs]; exact Int.mul_nonneg (by omega) (by omega)
          have hs1 : s ≤ 127 * 34359738368 := by
            rw [hs]
            have h1 : z * q ≤ 127 * q := Int.mul_le_mul_of_nonneg_right (by omega) (by omega)
            omega
          have hs' : s = y % 128 * 2 ^ (7 * (a - 1)).toNat := by rw [hs, hz, hq]
          have c1 : (5 < a ∨ 2147483648 ≤ u + s) → J0 = (0, 0, 60) := fun h => g4.trans (pgo_long hy hs' h)
          have c2 : ¬(5 < a ∨ 2147483648 ≤ u + s) → y < 128 → J0 = (u + s, a + 1, 0) := fun h h2 => g4.trans (pgo_end hy hs' h h2)
          have c3 : ¬(5 < a ∨ 2147483648 ≤ u + s) → ¬y < 128 → J0 = pgo b (6 - a).toNat (a + 1) (u + s) := fun h h2 => g4.trans (pgo_more hy hs' h h2)
          clear g4 hs'
          repeat' (first | (refine s_st hS ?_; try cbv) | (refine qbr hS ?_; try cbv) | (refine rowB hS hF hy rfl (by omega) ?_; try cbv) | (refine qzagv hS (by omega) ?_; intro _ _; cbv) | fail)
          rename_i z' hz'
          obtain rfl : z' = z := hz'.trans hz.symm
          refine qfz hS (c := q) (by rw [← hq]; congr 1; simp only [IntKind.bits]; omega) (fun s' hs2 => ?_) (by rw [← hs]; simp only [lo]; omega) (by rw [← hs]; simp only [hi]; omega)
          obtain rfl : s' = s := hs2.trans hs.symm
          cbv
          refine s_add hS (fun u2 hu2 => ?_) (by simp only [lo]; omega) (by simp only [hi]; omega)
          cbv
          repeat' (first | (refine s_st hS ?_; try cbv) | (refine qai hS ?_ ?_ <;> intro h <;> (try cbv) <;> try exact s_ab h) | (refine qax hS ?_; intro _ _; try cbv) | (refine rowB hS hF hy rfl (by omega) ?_; try cbv) | fail)
          · obtain ⟨k1, k2, k3⟩ := herr 60 (by decide) (c1 (.inl (by omega)))
            exact qhb k1 k2 k3
          · obtain ⟨k1, k2, k3⟩ := herr 60 (by decide) (c1 (.inr (by omega)))
            exact qhb k1 k2 k3
          · rename_i htt _ _ _ a2 ha2 sf2 hsf2
            obtain ⟨t2, ht2'⟩ : ∃ t2, decide (128 ≤ y) = t2 := ⟨_, rfl⟩
            refine ⟨(a2, u2, t2, sf2), ?_, ⟨by dsimp only; omega, by dsimp only; omega, by dsimp only; omega, by dsimp only; omega, fun h => ?_, fun h => ?_⟩, rfl, ?_, ?_, ?_⟩
            · dsimp only
              have : tt = true := by assumption
              rw [this]
              simp only [if_true]
              split <;> omega
            · dsimp only at h ⊢
              have hy2 : 128 ≤ y := by rw [← ht2'] at h; simpa using h
              exact ⟨by omega, by omega, by rw [c3 (by omega) (by omega), ha2, hu2, show (7 - (a + 1)).toNat = (6 - a).toNat by omega]⟩
            · dsimp only at h ⊢
              have hy2 : ¬128 ≤ y := by rw [← ht2'] at h; simpa using h
              rw [c2 (by omega) (by omega), ha2, hu2]
            · cbv; (repeat' (first | exact qci | exact Sub.rfl | exact SubL.nil | refine SubL.cons ?_ ?_ | exact qae rfl | (refine qqd ?_; simp only [← hS, Int.ofNat_eq_natCast, cq, Bool.not_eq_true', Bool.not_eq_false', decide_eq_true_eq, decide_eq_false_iff_not, beq_iff_eq, beq_eq_false_iff_ne, ne_eq]; assumption)))
            · cbv; all_goals exact s_bA
            · cbv
      · have g4 := gf h
        obtain ⟨g5, g6, g7⟩ := hok u a (by omega) g4
        repeat' (first | (refine s_st hS ?_; try cbv) | (refine qeb hS (G := []) (by rfl) ?_; cbv) | fail)
        have e : S.mi n a = n - a := by rw [← hS]; rfl
        have hX := quv hS hF (o := a) (n := S.mi n a)
        have hPR : part b a (S.mi n a) = R := by rw [g5, qla (by omega) (by omega)]
        rw [hPR] at hX
        refine ⟨_, qar (.cons (qae g6.symm) (.cons .rfl (.cons (qae g7.symm) .nil))), qga hX hP (Nat.le_refl 1) ?_ rfl⟩
        show S.mi n a = ilen R
        rw [e, g5]; unfold ilen at *; rw [List.length_drop]; omega
end Cz
namespace Cz
open Go Go.RowKit Go.Proofs
theorem qzadg {b : List Int} (h : Hu.BOk b) (k : Nat) : Hu.BOk (b.drop k) := fun v hv => h v (List.mem_of_mem_drop hv)
theorem qcw {b : List Int} {p : Int} (h : Hu.BOk b) : Hu.BOk (preR b p) := by
  unfold preR
  split
  · exact qzadg h _
  · intro v hv; cases hv
theorem qmy {b : List Int} {o n : Int} (h : Hu.BOk b) : Hu.BOk (part b o n) := fun v hv => h v (List.mem_of_mem_drop (List.mem_of_mem_take hv))
theorem qvj {d : List Int} (hd : Hu.BOk d) : Hu.BOk (takeL d) := by
  unfold takeL
  cases ht : Hu.take d with
  | some o => exact (Hu.put_take hd ht).2
  | none => intro v hv; cases hv
theorem qvk (d : List Int) : takeE d = 0 ∨ takeE d = 70 ∧ takeL d = [] := by
  unfold takeE takeL
  cases Hu.take d with
  | some o => exact .inl rfl
  | none => exact .inr ⟨rfl, rfl⟩
section
variable {S : Sy} {b : List Int} {F : List SV} {k : Nat} {ro lit : Bool} {st zn zk : Z} {l : List Blk} {K : SV → List Blk → Prop}
theorem ptake_u (hS : S0 Tryz.prog = S) (kk p : Int) (hzk : zk.v = kk) (hb : Hu.BOk b) (hn : ilen b ≤ 1000000) (hk1 : 1 ≤ kk) (hk8 : kk ≤ 8) (hp : 2 ^ kk.toNat = p) (hrow : lget l k = .r ro lit st 1 F) (hs : FSub F (cellsB b)) (hz : zn.v = ilen b)
    (hK : ∀ N R E F2 n2 st, preN b p = N → preR b p = R → preE b p = E → cellsB R = F2 → n2 = ilen R → K (.tp [.i .i64 (.y N), .sl (len l) 1 (.l 0) (.y n2) none, .i .i64 (.y E)]) (snoc l (.r false false (.y st) 1 F2))) :
    S.call 92 [.sl k 1 (.l 0) zn none, .i .i64 zk] l K := by
  subst hzk
  exact use_ownP hS (fun _ => k) (ptake_f hb hn hk1 hk8 hp) (.cons (qbw rfl hz) (.cons (qae rfl) .nil)) rfl ⟨⟨_, _, _, _, _, _, _, _, rfl, qab _, hrow, hs⟩, trivial⟩ (by omega) (qab _) rfl rfl (qby _) fun st => hK _ _ _ _ _ st rfl rfl rfl rfl rfl
theorem rptake_u (hS : S0 Tryz.prog = S) (kk p : Int) (hzk : zk.v = kk) (hb : Hu.BOk b) (hn : ilen b ≤ 1000000) (hk1 : 1 ≤ kk) (hk8 : kk ≤ 8) (hp : 2 ^ kk.toNat = p) (hrow : lget l k = .r ro lit st 1 F) (hs : FSub F (cellsB b)) (hz : zn.v = ilen b)
    (hK : ∀ N R E F2 n2 st, preN b p = N → preR b p = R → preE b p = E → cellsB R = F2 → n2 = ilen R → K (.tp [.i .i64 (.y N), .sl (len l) 1 (.l 0) (.y n2) none, .i .i64 (.y E)]) (snoc l (.r false false (.y st) 1 F2))) :
    S.call 95 [.sl k 1 (.l 0) zn none, .i .i64 zk] l K := by
  subst hzk
  exact use_ownP hS (fun _ => k) (rptake_f hb hn hk1 hk8 hp) (.cons (qbw rfl hz) (.cons (qae rfl) .nil)) rfl ⟨⟨_, _, _, _, _, _, _, _, rfl, qab _, hrow, hs⟩, trivial⟩ (by omega) (qab _) rfl rfl (qby _) fun st => hK _ _ _ _ _ st rfl rfl rfl rfl rfl
end
def tTake (b : List Int) : List Int × List Int × Int :=
  if preE b 128 ≠ 0 then ([], [], preE b 128)
  else if ilen (preR b 128) < preN b 128 then ([], [], 10)
  else if b.getD 0 0 < 128 then (part (preR b 128) 0 (preN b 128), (preR b 128).drop (preN b 128).toNat, 0)
  else if takeE (part (preR b 128) 0 (preN b 128)) = 0 then (takeL (part (preR b 128) 0 (preN b 128)), (preR b 128).drop (preN b 128).toNat, 0)
  else ([], [], 70)
def tS (b : List Int) : List Int := (tTake b).1
def tR (b : List Int) : List Int := (tTake b).2.1
def tE (b : List Int) : Int := (tTake b).2.2
theorem pgo_ok {b : List Int} (hb : Hu.BOk b) : ∀ (f : Nat) (a n : Int), 0 ≤ n → 0 ≤ (pgo b f a n).1
  | 0, a, n, h => by simp [pgo]
  | f + 1, a, n, h => by
    rw [pgo]
    split
    · simp
    · rename_i v hv
      have hv0 := hb v (List.mem_of_getElem? hv)
      have hs : 0 ≤ v % 128 * 2 ^ (7 * (a - 1)).toNat := Int.mul_nonneg (by omega) (Int.le_of_lt (qcp _))
      split
      · simp
      · split
        · simp only; omega
        · exact pgo_ok hb f _ _ (by omega)
theorem qen {b : List Int} {p : Int} (hb : Hu.BOk b) (hp : 1 ≤ p) : 0 ≤ preN b p := by
  unfold preN preI
  cases b with
  | nil => simp
  | cons v b =>
    simp only
    split
    · exact Int.emod_nonneg _ (by omega)
    · exact pgo_ok hb _ _ _ (by omega)
theorem qec {b : List Int} {p : Int} : ilen (preR b p) ≤ ilen b := by
  unfold preR
  split
  · unfold ilen; rw [List.length_drop]; omega
  · unfold ilen; simp
theorem preE_nil {p : Int} : preE [] p = 10 := rfl
theorem qmm {P : List SV} {x : List UInt8} {e : Int} {z : Z} {l' : List Blk} (hx : x = []) (hP : P = []) (he : e = z.v) : OwnP 1 1 P [.s x] [.i .i64 (.y e)] (.tp [.s [], .re (.slice none 0 0), .i .i64 z]) l' :=
  ⟨_, qar (.cons (sub_s hx.symm) (.cons .rfl (.cons (qae he.symm) .nil))), .inl ⟨rfl, hP⟩⟩
theorem ownS_ok {P : List SV} {L : List Int} {x y : List UInt8} {e : Int} {z q : Z} {k : Nat} {lit : Bool} {st : Z} {l' : List Blk} (hx : x = y) (hP : cellsB L = P) (he : e = z.v) (hk : 1 ≤ k) (hq : q.v = ilen L) (hB : l'[k]? = some (.r false lit st 1 P)) :
    OwnP 1 1 P [.s x] [.i .i64 (.y e)] (.tp [.s y, .sl k 1 (.l 0) q none, .i .i64 z]) l' :=
  ⟨_, qar (.cons (sub_s hx.symm) (.cons .rfl (.cons (qae he.symm) .nil))), qdu hP hk hq hB⟩
theorem ttake_f {b : List Int} (hb : Hu.BOk b) (hnb : ilen b ≤ 1000000) :
    (S0 Tryz.prog).call 109 [.sl 0 1 (.l 0) (.y (ilen b)) none] [.r true true (.l 0) 1 (cellsB b)] (OwnP 1 1 (cellsB (tR b)) [.s (strB (tS b))] [.i .i64 (.y (tE b))]) := by
  obtain ⟨n, hn'⟩ : ∃ n, n = ilen b := ⟨_, rfl⟩
  have h0n := qah b
  have hn := hnb
  rw [← hn'] at h0n hn ⊢
  have hpl := qab b
  obtain ⟨N, hN⟩ : ∃ N, preN b 128 = N := ⟨_, rfl⟩
  obtain ⟨E, hE⟩ : ∃ E, preE b 128 = E := ⟨_, rfl⟩
  obtain ⟨R, hR⟩ : ∃ R, preR b 128 = R := ⟨_, rfl⟩
  have hN0 := qen (p := 128) hb (by decide)
  have hRl := qec (b := b) (p := 128)
  have hRok := qcw (p := 128) hb
  rw [hN] at hN0
  rw [hR] at hRl hRok
  obtain ⟨x, hx⟩ : ∃ x, x = strB (tS b) := ⟨_, rfl⟩
  obtain ⟨e, he⟩ : ∃ e, e = tE b := ⟨_, rfl⟩
  obtain ⟨Q, hQ⟩ : ∃ Q, Q = tR b := ⟨_, rfl⟩
  have hT : ∀ a c d, tTake b = (a, c, d) → x = strB a ∧ Q = c ∧ e = d := fun a c d h => ⟨by rw [hx]; unfold tS; rw [h], by rw [hQ]; unfold tR; rw [h], by rw [he]; unfold tE; rw [h]⟩
  rw [← hx, ← he, ← hQ]
  clear hx he hQ
  unfold tTake at hT
  rw [hN, hE, hR] at hT
  generalize hF : cellsB b = F at hpl ⊢
  have hfs : FSub F (cellsB b) := by rw [hF]; exact .rfl
  generalize hP : cellsB Q = P
  refine qiq hpl ?_
  generalize hS : S0 Tryz.prog = S
  refine qaa hS I.qzafp ?_
  cbv
  refine ptake_u hS (b := b) 7 128 rfl hb hnb (by decide) (by decide) rfl rfl hfs hn' fun N1 R1 E1 F2 n2 st hN1 hR1 hE1 hF2 hn2 => ?_
  have e1 : N1 = N := hN1.symm.trans hN
  have e2 : R = R1 := hR.symm.trans hR1
  have e3 : E1 = E := hE1.symm.trans hE
  cbv
  repeat' (first | (refine qai hS ?_ ?_ <;> intro h <;> (try cbv) <;> try exact s_ab h) | (refine qek hS rfl ?_; cbv) | fail)
  · obtain ⟨a1, a2, a3⟩ := hT [] [] E (by rw [if_pos (by omega)])
    exact qmm a1 (by rw [← hP, a2]; rfl) (by simp only [Z.v]; omega)
  · obtain ⟨a1, a2, a3⟩ := hT [] [] 10 (by rw [if_neg (by omega), if_pos (by rw [e2]; omega)])
    exact qmm a1 (by rw [← hP, a2]; rfl) a3
  · have hE0 : ¬E ≠ 0 := by omega
    have hRN : ¬ilen R < N := by rw [e2]; omega
    rw [if_neg hE0, if_neg hRN, e2, ← e1] at hT
    rw [← e1] at hN0
    rw [e2] at hRl hRok
    have hn1 : 1 ≤ n := by
      rcases Int.lt_or_le n 1 with h1 | h1
      · exfalso
        have : b = [] := List.length_eq_zero_iff.1 (by unfold ilen at hn'; omega)
        rw [this, preE_nil] at hE
        omega
      · exact h1
    obtain ⟨v, hv⟩ := qei (l := b) (i := 0) (by omega) (Int.le_refl 0)
    have hb0 := hb v (List.mem_of_getElem? hv)
    have hv0 : b.getD 0 0 = v := by rw [List.getD_eq_getElem?_getD]; simp at hv; rw [hv]; rfl
    rw [hv0] at hT
    have hfs2 : FSub F2 (cellsB R1) := by rw [hF2]; exact .rfl
    obtain ⟨n3, hn3⟩ : ∃ n3, n3 = n2 - N1 := ⟨_, rfl⟩
    obtain ⟨T, hTp⟩ : ∃ T, part R1 0 N1 = T := ⟨_, rfl⟩
    have hTl : ilen T = N1 := by rw [← hTp]; exact qeu (by decide) hN0 (by omega)
    have hTok : Hu.BOk T := hTp ▸ qmy hRok
    rw [hTp] at hT
    refine qbn hS rfl I.qwg (by decide +kernel) ?_
    cbv
    repeat' (first | (refine s_st hS ?_; try cbv) | (refine clone_su hS (b := R1) 0 N1 rfl rfl (by decide) hN0 (by omega) (by omega) rfl hfs2 fun F3 st3 hF3 => ?_; cbv) | (refine qzadd hS (b := R1) N1 n3 rfl (by simp only [Z.v, ← hS, Int.ofNat_eq_natCast, cq, Bool.not_eq_true', Bool.not_eq_false', decide_eq_true_eq, decide_eq_false_iff_not, beq_iff_eq, beq_eq_false_iff_ne, ne_eq]; omega) hN0 (by omega) (by omega) (by omega) rfl hfs2 fun F4 st4 hF4 => ?_; cbv) | fail)
    rw [hTp] at hF3
    have hD : part R1 N1 n3 = R1.drop N1.toNat := qla hN0 (by omega)
    rw [hD] at hF4
    have hDl : n3 = ilen (R1.drop N1.toNat) := by rw [← hD]; exact (qeu hN0 (by omega) (by omega)).symm
    refine rowB hS hF hv rfl (Int.le_refl 0) ?_
    cbv
    refine s_and128 hS hb0.1 hb0.2 fun r hr => ?_
    cbv
    refine qai hS ?_ ?_ <;> intro h <;> cbv
    · obtain ⟨a1, a2, a3⟩ := hT T (R1.drop N1.toNat) 0 (by rw [if_pos (by omega)])
      refine s_bs hS hTok hF3 hTl.symm ?_
      rw [← a1]
      cbv
      have hPF : F4 = P := by rw [← hF4, ← hP, a2]
      rw [hPF]
      exact ownS_ok (L := R1.drop N1.toNat) rfl (by rw [← a2]; exact hP) a3 (by omega) hDl rfl
    · refine take_u hS (b := T) hTok (by omega) rfl (by rw [hF3]; exact .rfl) hTl.symm fun L F5 n5 st5 e5 hL hF5 hn5 he5 => ?_
      cbv
      repeat' (first | (refine qai hS ?_ ?_ <;> intro h <;> (try cbv) <;> try exact s_ab h) | fail)
      · obtain ⟨a1, a2, a3⟩ := hT (takeL T) (R1.drop N1.toNat) 0 (by rw [if_neg (by omega), if_pos (by rw [he5]; exact h)])
        rw [hL] at a1
        refine s_bs hS (hL ▸ qvj hTok) hF5 hn5 ?_
        rw [← a1]
        cbv
        have hPF : F4 = P := by rw [← hF4, ← hP, a2]
        rw [hPF]
        exact ownS_ok (L := R1.drop N1.toNat) rfl (by rw [← a2]; exact hP) a3 (by omega) hDl rfl
      · have h70 : e5 = 70 := by
          rcases qvk T with h1 | ⟨h1, _⟩ <;> omega
        obtain ⟨a1, a2, a3⟩ := hT [] [] 70 (by rw [if_neg (by omega), if_neg (by omega)])
        exact qmm a1 (by rw [← hP, a2]; rfl) (by simp only [Z.v]; omega)
end Cz
namespace Cz
open Go Go.RowKit Go.Proofs
theorem cells_part (b : List Int) (o n : Nat) : ((cellsB b).drop (o * 1)).take (n * 1) = cellsB ((b.drop o).take n) := by
  simp only [qdy, Nat.mul_one, List.map_take, List.map_drop]
theorem s_bsp {S : Sy} (hS : S0 Tryz.prog = S) {R T : List Int} {F : List SV} {n : Int} {K : List UInt8 → Prop} (hb : Hu.BOk R) (hF : cellsB R = F) (hT : part R 0 n = T) (h0 : 0 ≤ n) (h1 : n ≤ ilen R) (h : K (strB T)) : S.bs F 0 n K := by
  subst hS hF hT
  have hl := qeu (b := R) (o := 0) (n := n) (by decide) h0 (by omega)
  refine ⟨Int.le_refl _, h0, strB (part R 0 n), ⟨?_, ?_⟩, h⟩
  · unfold strB; rw [List.length_map]; unfold ilen at hl; omega
  · intro q c hc
    unfold strB at hc
    rw [List.getElem?_map, Option.map_eq_some_iff] at hc
    obtain ⟨v, hv, rfl⟩ := hc
    have hq : R[q]? = some v := by
      unfold part at hv
      rw [List.getElem?_take] at hv
      split at hv
      · rw [List.getElem?_drop] at hv; simpa using hv
      · cases hv
    refine ⟨.y v, ?_, ?_⟩
    · rw [show (0 : Int).toNat + q = q by simp]; exact qzaav hq
    · have := hb v (List.mem_of_getElem? hq)
      simp only [Z.v, Nat.toUInt8, UInt8.toNat_ofNat']
      omega
theorem rtake_cut {S : Sy} (hS : S0 Tryz.prog = S) {R T : List Int} {F : List SV} {k : Nat} {ro lit : Bool} {st zn : Z} {l : List Blk} {K : SV → List Blk → Prop} {n : Int} (hR : Hu.BOk R) (hn : ilen R ≤ 1000000) (hrow : lget l k = .r ro lit st 1 F) (hs : FSub F (cellsB R))
    (hz : zn.v = n) (h0 : 0 ≤ n) (h1 : n ≤ ilen R) (hT : part R 0 n = T)
    (hK : ∀ L F2 n2 st e, takeL T = L → cellsB L = F2 → n2 = ilen L → takeE T = e → K (.tp [.sl (len l) 1 (.l 0) (.y n2) none, .i .i64 (.y e)]) (snoc l (.r false false (.y st) 1 F2))) : S.call 122 [.sl k 1 (.l 0) zn none] l K := by
  have hTl : ilen T = n := by rw [← hT]; exact qeu (by decide) h0 (by omega)
  have hTok : Hu.BOk T := hT ▸ qmy hR
  have hf := rtake_f hTok (by omega)
  refine use_cut hS (o := 0) (m := T.length) (F1 := cellsB R) hf hrow hs (qab R) rfl (by rw [hz]; exact hTl.symm) ?_ ?_ (by omega) (qab _) rfl (qby _) fun st => hK _ _ _ st _ rfl rfl rfl rfl
  · rw [cells_part, ← hT]
    unfold part at *
    congr 1
    simp only [Int.toNat_zero, List.drop_zero] at *
    rw [← hT] at hTl
    unfold ilen at hTl h1
    rw [List.length_take] at hTl ⊢
    rw [List.take_eq_take_iff]
    omega
  · have := qat R
    unfold ilen at *
    omega
theorem ownS_val {P X : List SV} {L : List Int} {x y : List UInt8} {e : Int} {z q : Z} {k : Nat} {lit : Bool} {st : Z} {l' : List Blk} (hx : x = y) (hX : X = cellsB L) (hP : cellsB L = P) (he : e = z.v) (hk : 1 ≤ k) (hq : q.v = ilen L) (hB : l'[k]? = some (.r false lit st 1 X)) :
    OwnP 1 1 P [.s x] [.i .i64 (.y e)] (.tp [.s y, .sl k 1 (.l 0) q none, .i .i64 z]) l' :=
  ⟨_, qar (.cons (sub_s hx.symm) (.cons .rfl (.cons (qae he.symm) .nil))), qga hX hP hk hq hB⟩
theorem rttake_f {b : List Int} (hb : Hu.BOk b) (hnb : ilen b ≤ 1000000) :
    (S0 Tryz.prog).call 110 [.sl 0 1 (.l 0) (.y (ilen b)) none] [.r true true (.l 0) 1 (cellsB b)] (OwnP 1 1 (cellsB (tR b)) [.s (strB (tS b))] [.i .i64 (.y (tE b))]) := by
  obtain ⟨n, hn'⟩ : ∃ n, n = ilen b := ⟨_, rfl⟩
  have h0n := qah b
  have hn := hnb
  rw [← hn'] at h0n hn ⊢
  have hpl := qab b
  obtain ⟨N, hN⟩ : ∃ N, preN b 128 = N := ⟨_, rfl⟩
  obtain ⟨E, hE⟩ : ∃ E, preE b 128 = E := ⟨_, rfl⟩
  obtain ⟨R, hR⟩ : ∃ R, preR b 128 = R := ⟨_, rfl⟩
  have hN0 := qen (p := 128) hb (by decide)
  have hRl := qec (b := b) (p := 128)
  have hRok := qcw (p := 128) hb
  rw [hN] at hN0
  rw [hR] at hRl hRok
  obtain ⟨x, hx⟩ : ∃ x, x = strB (tS b) := ⟨_, rfl⟩
  obtain ⟨e, he⟩ : ∃ e, e = tE b := ⟨_, rfl⟩
  obtain ⟨Q, hQ⟩ : ∃ Q, Q = tR b := ⟨_, rfl⟩
  have hT : ∀ a c d, tTake b = (a, c, d) → x = strB a ∧ Q = c ∧ e = d := fun a c d h => ⟨by rw [hx]; unfold tS; rw [h], by rw [hQ]; unfold tR; rw [h], by rw [he]; unfold tE; rw [h]⟩
  rw [← hx, ← he, ← hQ]
  clear hx he hQ
  unfold tTake at hT
  rw [hN, hE, hR] at hT
  generalize hF : cellsB b = F at hpl ⊢
  have hfs : FSub F (cellsB b) := by rw [hF]; exact .rfl
  generalize hP : cellsB Q = P
  refine qiq hpl ?_
  generalize hS : S0 Tryz.prog = S
  refine qaa hS I.qpk ?_
  cbv
  refine rptake_u hS (b := b) 7 128 rfl hb hnb (by decide) (by decide) rfl rfl hfs hn' fun N1 R1 E1 F2 n2 st hN1 hR1 hE1 hF2 hn2 => ?_
  have e1 : N1 = N := hN1.symm.trans hN
  have e2 : R = R1 := hR.symm.trans hR1
  have e3 : E1 = E := hE1.symm.trans hE
  cbv
  repeat' (first | (refine qai hS ?_ ?_ <;> intro h <;> (try cbv) <;> try exact s_ab h) | fail)
  · obtain ⟨a1, a2, a3⟩ := hT [] [] E (by rw [if_pos (by omega)])
    exact qmm a1 (by rw [← hP, a2]; rfl) (by simp only [Z.v]; omega)
  · obtain ⟨a1, a2, a3⟩ := hT [] [] 10 (by rw [if_neg (by omega), if_pos (by rw [e2]; omega)])
    exact qmm a1 (by rw [← hP, a2]; rfl) a3
  · have hE0 : ¬E ≠ 0 := by omega
    have hRN : ¬ilen R < N := by rw [e2]; omega
    rw [if_neg hE0, if_neg hRN, e2, ← e1] at hT
    rw [← e1] at hN0
    rw [e2] at hRl hRok
    have hn1 : 1 ≤ n := by
      rcases Int.lt_or_le n 1 with h1 | h1
      · exfalso
        have : b = [] := List.length_eq_zero_iff.1 (by unfold ilen at hn'; omega)
        rw [this, preE_nil] at hE
        omega
      · exact h1
    obtain ⟨v, hv⟩ := qei (l := b) (i := 0) (by omega) (Int.le_refl 0)
    have hb0 := hb v (List.mem_of_getElem? hv)
    have hv0 : b.getD 0 0 = v := by rw [List.getD_eq_getElem?_getD]; simp at hv; rw [hv]; rfl
    rw [hv0] at hT
    have hfs2 : FSub F2 (cellsB R1) := by rw [hF2]; exact .rfl
    obtain ⟨n3, hn3⟩ : ∃ n3, n3 = n2 - N1 := ⟨_, rfl⟩
    obtain ⟨T, hTp⟩ : ∃ T, part R1 0 N1 = T := ⟨_, rfl⟩
    have hTl : ilen T = N1 := by rw [← hTp]; exact qeu (by decide) hN0 (by omega)
    have hTok : Hu.BOk T := hTp ▸ qmy hRok
    rw [hTp] at hT
    refine qbn hS rfl I.qjz (by decide +kernel) ?_
    cbv
    repeat' (first | (refine s_st hS ?_; try cbv) | (refine qeb hS (G := []) (by rfl) ?_; cbv) | fail)
    have emi : S.mi n2 N1 = n3 := by rw [← hS, hn3]; rfl
    have hD : part R1 N1 n3 = R1.drop N1.toNat := qla hN0 (by omega)
    have hX := quv hS hF2 (o := N1) (n := S.mi n2 N1)
    rw [emi, hD] at hX
    have hDl : n3 = ilen (R1.drop N1.toNat) := by rw [← hD]; exact (qeu hN0 (by omega) (by omega)).symm
    have hX' : S.app [] (S.sub F2 N1 (S.mi n2 N1) 1) = cellsB (R1.drop N1.toNat) := by rw [emi]; exact hX
    refine rowB hS hF hv rfl (Int.le_refl 0) ?_
    cbv
    refine qai hS ?_ ?_ <;> intro h <;> cbv
    · obtain ⟨a1, a2, a3⟩ := hT T (R1.drop N1.toNat) 0 (by rw [if_pos (by omega)])
      refine s_bsp hS hRok hF2 hTp hN0 (by omega) ?_
      rw [← a1]
      cbv
      exact ownS_val rfl hX' (by rw [← a2]; exact hP) a3 (by omega) (emi.trans hDl) rfl
    · refine rtake_cut hS (n := N1) hRok (by omega) rfl hfs2 rfl hN0 (by omega) hTp fun L F5 n5 st5 e5 hL hF5 hn5 he5 => ?_
      cbv
      repeat' (first | (refine qai hS ?_ ?_ <;> intro h <;> (try cbv) <;> try exact s_ab h) | fail)
      · have h70 : e5 = 70 := by
          rcases qvk T with h1 | ⟨h1, _⟩ <;> omega
        obtain ⟨a1, a2, a3⟩ := hT [] [] 70 (by rw [if_neg (by omega), if_neg (by omega)])
        exact qmm a1 (by rw [← hP, a2]; rfl) (by simp only [Z.v]; omega)
      · obtain ⟨a1, a2, a3⟩ := hT (takeL T) (R1.drop N1.toNat) 0 (by rw [if_neg (by omega), if_pos (by rw [he5]; exact h)])
        rw [hL] at a1
        refine s_bs hS (hL ▸ qvj hTok) hF5 hn5 ?_
        rw [← a1]
        cbv
        exact ownS_val rfl hX' (by rw [← a2]; exact hP) a3 (by omega) (emi.trans hDl) rfl
end Cz
namespace Cz
open Go Go.RowKit Go.Proofs
theorem or128_all : ∀ n : Fin 256, IntKind.u8.wrap ((BitVec.ofInt 8 (n.val : Int) ||| BitVec.ofInt 8 128).toNat : Int) = ((n.val % 128 + 128 : Nat) : Int) := by decide +kernel
theorem s_or128 {S : Sy} {a : Int} {K : Int → Prop} (hS : S0 Tryz.prog = S) (h0 : 0 ≤ a) (h1 : a < 256) (h : ∀ r, r = a % 128 + 128 → K r) : S.ar .or .u8 a 128 K := by
  refine qtv hS _ rfl (h _ ?_)
  have := or128_all ⟨a.toNat, by omega⟩
  simp only [Int.toNat_of_nonneg h0] at this
  rw [show arS .or .u8 a 128 = IntKind.u8.wrap ((BitVec.ofInt 8 a ||| BitVec.ofInt 8 128).toNat : Int) from rfl, this]
  omega
theorem andn_nat (w m u : Nat) (hm : m ≤ w) (hu : u < 2 ^ w) : u &&& (2 ^ w - 1 - (2 ^ m - 1)) = u - u % 2 ^ m := by
  have hp : 2 ^ m ≤ 2 ^ w := Nat.pow_le_pow_right (by omega) hm
  apply Nat.eq_of_testBit_eq
  intro i
  have e1 : 2 ^ w - 1 - (2 ^ m - 1) = 2 ^ m * (2 ^ (w - m) - 1) := by
    rw [Nat.mul_sub, ← Nat.pow_add, show m + (w - m) = w by omega]
    have := Nat.two_pow_pos m
    omega
  have e2 : u - u % 2 ^ m = 2 ^ m * (u / 2 ^ m) := by have := Nat.div_add_mod u (2 ^ m); omega
  rw [e1, e2, Nat.testBit_and, Nat.testBit_two_pow_mul, Nat.testBit_two_pow_mul, Nat.testBit_two_pow_sub_one]
  by_cases h : m ≤ i
  · simp only [h, decide_true, Bool.true_and]
    rw [Nat.testBit_div_two_pow, show i - m + m = i by omega]
    by_cases h2 : i - m < w - m
    · simp [h2]
    · have : u.testBit i = false := Nat.testBit_lt_two_pow (Nat.lt_of_lt_of_le hu (Nat.pow_le_pow_right (by omega) (by omega)))
      simp [this]
  · simp [h]
def sept : Nat → Int → List Int
  | 0, _ => []
  | f + 1, q => if q < 128 then [q] else (q % 128 + 128) :: sept f (q / 128)
def putI (n p up : Int) : List Int := if n < p - 1 then [up - up % p + n] else (up - up % p + (p - 1)) :: sept 5 (n - (p - 1))
theorem s_andn {S : Sy} {a b p : Int} {m : Nat} {K : Int → Prop} (hS : S0 Tryz.prog = S) (hp : (2 : Int) ^ m = p) (hm : m ≤ 8) (hb : b = p - 1) (h0 : 0 ≤ a) (h1 : a < 256) (h : ∀ r, r = a - a % p → K r) : S.ar .andn .u8 a b K := by
  subst hp hb
  refine qtv hS _ ?_ (h _ rfl)
  show IntKind.u8.wrap ((BitVec.ofInt 8 a &&& ~~~ BitVec.ofInt 8 ((2 : Int) ^ m - 1)).toNat : Int) = _
  have hle := qed (m := m) (n := 8) hm
  have hpos := qcp m
  have e1 : ((2 : Int) ^ m - 1).toNat = 2 ^ m - 1 := by have := qee m; omega
  rw [BitVec.toNat_and, BitVec.toNat_not, qdt, qdt, Int.emod_eq_of_lt h0 (by omega), Int.emod_eq_of_lt (a := (2 : Int) ^ m - 1) (by omega) (by omega), e1, andn_nat 8 m _ hm (by omega)]
  have h2 := Int.emod_nonneg a (b := (2 : Int) ^ m) (by omega)
  have h3 : ((a.toNat - a.toNat % 2 ^ m : Nat) : Int) = a - a % 2 ^ m := by
    have h4 := Nat.mod_le a.toNat (2 ^ m)
    have h5 : ((a.toNat % 2 ^ m : Nat) : Int) = a % 2 ^ m := by rw [Int.natCast_emod, Int.toNat_of_nonneg h0, qee]
    omega
  rw [h3]
  have h6 : a % 2 ^ m ≤ a := by
    have := Int.mul_ediv_add_emod a (2 ^ m)
    have h7 : 0 ≤ (2 : Int) ^ m * (a / 2 ^ m) := Int.mul_nonneg (by omega) (Int.ediv_nonneg h0 (by omega))
    omega
  exact qit (by simp only [lo]; omega) (by simp only [Cz.hi]; omega)
def septOk (f : Nat) (q : Int) : Prop := 1 ≤ f ∧ 0 ≤ q ∧ q < 128 ^ f
theorem sept_end {f : Nat} {q : Int} (h : septOk f q) (h1 : q < 128) : sept f q = [q] := by
  obtain ⟨f', rfl⟩ : ∃ f', f = f' + 1 := ⟨f - 1, by have := h.1; omega⟩
  rw [sept, if_pos h1]
theorem qzaeh {f : Nat} {q : Int} (h : septOk f q) (h1 : ¬q < 128) : sept f q = (q % 128 + 128) :: sept (f - 1) (q / 128) ∧ septOk (f - 1) (q / 128) ∧ 2 ≤ f := by
  obtain ⟨h2, h3, h4⟩ := h
  have hf : 2 ≤ f := by
    rcases Nat.lt_or_ge f 2 with h5 | h5
    · have : f = 1 := by omega
      subst this
      simp at h4; omega
    · exact h5
  obtain ⟨f', rfl⟩ : ∃ f', f = f' + 1 := ⟨f - 1, by omega⟩
  simp only [Nat.add_sub_cancel]
  refine ⟨by rw [sept, if_neg h1], ⟨by omega, by omega, ?_⟩, hf⟩
  rw [Int.pow_succ] at h4
  exact Int.ediv_lt_of_lt_mul (by decide) h4
theorem pput_f {n k up p : Int} (hn0 : 0 ≤ n) (hn1 : n < 2147483648) (hk1 : 1 ≤ k) (hk8 : k ≤ 8) (hp : 2 ^ k.toNat = p) (hu0 : 0 ≤ up) (hu1 : up < 256) :
    (S0 Tryz.prog).call 76 [.i .i64 (.y n), .i .i64 (.y k), .i .u8 (.y up)] [] (OwnR 0 1 (cellsB (putI n p up)) true [.i .i64 (.y 0)]) := by
  have hp0 : 2 ≤ p := by have := qed (m := 1) (n := k.toNat) (by omega); rw [hp] at this; omega
  have hp1 : p ≤ 256 := by have := qed (m := k.toNat) (n := 8) (by omega); rw [hp] at this; omega
  obtain ⟨w, hw⟩ : ∃ w, w = up % p := ⟨_, rfl⟩
  have hwb : 0 ≤ w ∧ w < p := by rw [hw]; exact ⟨Int.emod_nonneg _ (by omega), Int.emod_lt_of_pos _ (by omega)⟩
  have hw2 : w ≤ up := by
    rw [hw]
    have := Int.mul_ediv_add_emod up p
    have h7 : 0 ≤ p * (up / p) := Int.mul_nonneg (by omega) (Int.ediv_nonneg hu0 (by omega))
    omega
  obtain ⟨fi, hfi⟩ : ∃ fi, fi = up - w := ⟨_, rfl⟩
  have hfp : fi % p = 0 := by
    rw [hfi, hw]
    have := Int.mul_ediv_add_emod up p
    rw [show up - up % p = p * (up / p) by omega]
    exact Int.mul_emod_right _ _
  have hfb : fi + p ≤ 256 := by
    have h8 : ∃ c : Int, 256 = p * c := by
      refine ⟨2 ^ (8 - k.toNat), ?_⟩
      rw [← hp, ← Int.pow_add, show k.toNat + (8 - k.toNat) = 8 by omega]; rfl
    obtain ⟨c, hc⟩ := h8
    have h9 : fi = p * (up / p) := by
      have := Int.mul_ediv_add_emod up p
      omega
    have h10 : up / p < c := by
      rw [Int.ediv_lt_iff_lt_mul (by omega), Int.mul_comm]
      omega
    have h11 : p * (up / p + 1) ≤ p * c := Int.mul_le_mul_of_nonneg_left (by omega) (by omega)
    rw [Int.mul_add] at h11
    omega
  have hput : putI n p up = if n < p - 1 then [fi + n] else (fi + (p - 1)) :: sept 5 (n - (p - 1)) := by unfold putI; rw [← hw, ← hfi]
  generalize hL : putI n p up = L at hput
  generalize hP : cellsB L = P
  generalize hS : S0 Tryz.prog = S
  refine qaa hS I.qrb ?_
  cbv
  repeat' (first | (refine s_st hS ?_; try cbv) | (refine qai hS ?_ ?_ <;> intro h <;> (try cbv) <;> try exact s_ab h) | (refine qax hS ?_; intro _ _; try cbv) | (refine qbr hS ?_; try cbv) | (refine qaa hS I.qgi ?_; cbv) | (refine qcs hS (c := 2147483648) rfl ?_; intro _ _; cbv) | (refine qfz hS (c := p) (by rw [← hp]; congr 1; simp only [IntKind.bits]; omega) ?_ (by simp only [lo]; omega) (by simp only [hi]; omega); intro _ _; cbv) | (refine s_andn hS hp (by omega) (by omega) hu0 hu1 ?_; intro _ _; cbv) | fail)
  · rename_i m1 hm1 m0 hm0 f1 hf1
    obtain rfl : f1 = fi := by omega
    refine s_orl hS hp (by omega) hfp (by omega) (by omega) (by simp only [hi]; omega) fun r hr => ?_
    cbv
    rw [if_pos (by omega)] at hput
    refine ⟨_, qar (.cons .rfl (.cons (qae rfl) .nil)), qga (L := L) ?_ hP (Nat.zero_le _) ?_ rfl⟩
    · rw [hput, ← hr]; rfl
    · rw [hput]; rfl
  · rename_i m1 hm1 m0 hm0 f1 hf1
    obtain rfl : f1 = fi := by omega
    refine s_orl hS hp (by omega) hfp (by omega) (by omega) (by simp only [hi]; omega) fun r hr => ?_
    cbv
    rw [if_neg (by omega)] at hput
    repeat' (first | (refine qax hS ?_; intro _ _; try cbv) | (refine qbr hS ?_; try cbv) | (refine qaa hS I.qsu ?_; cbv) | (refine qiy hS I.qpe ?_; cbv) | fail)
    rename_i q0 hq0
    have hok0 : septOk 5 q0 := ⟨by decide, by omega, by show q0 < 34359738368; omega⟩
    have hL0 : L = [r] ++ sept 5 q0 := by rw [hput, hr, hq0, show m0 = p - 1 by omega]; rfl
    clear hput
    refine qav hS 6 I.qjl (fun x : Nat × Int × Int × Int × List Int × List SV => septOk x.1 x.2.1 ∧ 0 ≤ x.2.1 ∧ x.2.1 < 2147483648 ∧ L = x.2.2.2.2.1 ++ sept x.1 x.2.1 ∧ x.2.2.1 = ilen x.2.2.2.2.1 ∧ x.2.2.1 + x.1 ≤ 6 ∧ x.2.2.2.2.2 = cellsB x.2.2.2.2.1)
      (fun _ => []) (fun x => [(0, .c [.sl 2 1 (.l 0) (.y x.2.2.1) none]), (2, .r false false (.y x.2.2.2.1) 1 x.2.2.2.2.2), (3, .c [.i .u32 (.y x.2.1)])])
      (fun x => x.1) (5, q0, 1, 0, [r], [.i .u8 (.y r)]) rfl ⟨⟨hok0, by dsimp only; omega, by dsimp only; omega, hL0, rfl, by show (1 : Int) + ((5 : Nat) : Int) ≤ 6; decide, rfl⟩, rfl, ?_, ?_, ?_⟩ ?_
    · cbv; all_goals exact s_sA
    · cbv
      refine ⟨.c (.cons (qbw rfl rfl) .nil), .rfl, .r .rfl rfl rfl, .rfl, .rfl, .rfl, trivial⟩
    · cbv
    · intro x
      obtain ⟨f, q, ln, st, B, G⟩ := x
      intro hx
      dsimp only at hx
      cbv
      obtain ⟨g0, g1, g2, g3, g4, g5, g6⟩ := hx
      have hG : ilen G = ln := by rw [g6, qat, g4]
      have hl0 := qah B
      have hln : ln ≤ 6 := by have : ln + (f : Int) ≤ 6 := g5; omega
      refine qcs hS (c := 128) rfl fun q1 hq1 => ?_
      cbv
      refine qai hS ?_ ?_ <;> intro h <;> cbv
      · obtain ⟨k1, k2, k3⟩ := qzaeh g0 (by omega)
        refine s_cv8 hS fun y hy => ?_
        cbv
        refine s_or128 hS (by omega) (by omega) fun y2 hy2 => ?_
        cbv
        refine qfp hS rfl rfl ?_
        cbv
        refine qeb hS (by rw [hG]; omega) ?_
        cbv
        repeat' (first | (refine s_st hS ?_; try cbv) | (refine qcs hS (c := 128) rfl ?_; intro _ _; cbv) | fail)
        rename_i ln2' q2 hq2
        obtain ⟨ln2, h_ln2⟩ : ∃ ln2, ln2 = ln + 1 := ⟨_, rfl⟩
        obtain ⟨st2, h_st2⟩ : ∃ st2, st2 = S.flen G := ⟨_, rfl⟩
        obtain ⟨G2, h_G2⟩ : ∃ G2, G2 = cellsB (B ++ [y2]) := ⟨_, rfl⟩
        have g5' : ln + (f : Int) ≤ 6 := g5
        have k3' : 2 ≤ f := k3
        have k4 : f - 1 < f := by omega
        have k5 : ln2 + ((f - 1 : Nat) : Int) ≤ 6 := by rw [h_ln2]; omega
        have k6 : 0 ≤ q2 ∧ q2 < 2147483648 := by omega
        refine ⟨(f - 1, q2, ln2, st2, B ++ [y2], G2), k4, ⟨by dsimp only; rw [hq2]; exact k2, k6.1, k6.2, ?_, ?_, k5, h_G2⟩, rfl, ?_, ?_, ?_⟩
        · dsimp only; rw [g3, k1, hq2, show q % 128 + 128 = y2 by omega]; simp
        · dsimp only; rw [h_ln2, g4, qgf]
        · cbv; all_goals exact s_sA
        · cbv
          refine ⟨.c (.cons (qbw rfl (by simp only [Z.v, ← hS, Int.ofNat_eq_natCast, cq, Bool.not_eq_true', Bool.not_eq_false', decide_eq_true_eq, decide_eq_false_iff_not, beq_iff_eq, beq_eq_false_iff_ne, ne_eq]; omega)) .nil), .rfl, qha hS g6.symm h_G2.symm rfl h_st2.symm, .rfl, .rfl, .rfl, trivial⟩
        · cbv
      · have k1 := sept_end g0 (by omega)
        refine s_cv8 hS fun y hy => ?_
        cbv
        refine qfp hS rfl rfl ?_
        cbv
        refine qeb hS (by rw [hG]; omega) ?_
        cbv
        repeat' (first | (refine s_st hS ?_; try cbv) | fail)
        refine ⟨_, qar (.cons .rfl (.cons (qae rfl) .nil)), qvx hS g6.symm hP (show L = B ++ [y] by rw [g3, k1, show y = q by omega]) (Nat.zero_le _) (by simp only [Z.v, ← hS, Int.ofNat_eq_natCast, cq, Bool.not_eq_true', Bool.not_eq_false', decide_eq_true_eq, decide_eq_false_iff_not, beq_iff_eq, beq_eq_false_iff_ne, ne_eq]; omega) rfl⟩
end Cz
namespace Cz
open Go Go.RowKit Go.Proofs
theorem up_pre {k up p : Int} (hk1 : 1 ≤ k) (hk8 : k ≤ 8) (hp : 2 ^ k.toNat = p) (hu0 : 0 ≤ up) (hu1 : up < 256) :
    ∃ fi, fi = up - up % p ∧ up / p * p = fi ∧ 2 ≤ p ∧ p ≤ 256 ∧ 0 ≤ fi ∧ fi ≤ up ∧ fi + p ≤ 256 ∧ 0 ≤ up / p ∧ up / p ≤ 128 := by
  have hp0 : 2 ≤ p := by have := qed (m := 1) (n := k.toNat) (by omega); rw [hp] at this; omega
  have hp1 : p ≤ 256 := by have := qed (m := k.toNat) (n := 8) (by omega); rw [hp] at this; omega
  have h9 := Int.mul_ediv_add_emod up p
  have h7 : 0 ≤ p * (up / p) := Int.mul_nonneg (by omega) (Int.ediv_nonneg hu0 (by omega))
  have h6 : 0 ≤ up / p := Int.ediv_nonneg hu0 (by omega)
  have hm := Int.emod_nonneg up (show p ≠ 0 by omega)
  have h8 : ∃ c : Int, 256 = p * c := by
    refine ⟨2 ^ (8 - k.toNat), ?_⟩
    rw [← hp, ← Int.pow_add, show k.toNat + (8 - k.toNat) = 8 by omega]; rfl
  obtain ⟨c, hc⟩ := h8
  have h10 : up / p < c := by
    rw [Int.ediv_lt_iff_lt_mul (by omega), Int.mul_comm]
    omega
  have h11 : p * (up / p + 1) ≤ p * c := Int.mul_le_mul_of_nonneg_left (by omega) (by omega)
  have h12 : 2 * (up / p) ≤ p * (up / p) := Int.mul_le_mul_of_nonneg_right (by omega) h6
  rw [Int.mul_add] at h11
  rw [Int.mul_comm] at h9
  rw [Int.mul_comm p (up / p)] at h7 h11 h12
  exact ⟨_, rfl, by omega, hp0, hp1, by omega, by omega, by omega, h6, by omega⟩
theorem rpput_f {n k up p : Int} (hn0 : 0 ≤ n) (hn1 : n < 2147483648) (hk1 : 1 ≤ k) (hk8 : k ≤ 8) (hp : 2 ^ k.toNat = p) (hu0 : 0 ≤ up) (hu1 : up < 256) :
    (S0 Tryz.prog).call 52 [.i .i64 (.y n), .i .i64 (.y k), .i .u8 (.y up)] [] (OwnR 0 1 (cellsB (putI n p up)) true [.i .i64 (.y 0)]) := by
  obtain ⟨fi, hfi, hfq, hp0, hp1, hf0, hf1, hf2, hq0, hq1⟩ := up_pre hk1 hk8 hp hu0 hu1
  have hput : putI n p up = if n < p - 1 then [fi + n] else (fi + (p - 1)) :: sept 5 (n - (p - 1)) := by unfold putI; rw [← hfi]
  generalize hL : putI n p up = L at hput
  generalize hP : cellsB L = P
  obtain ⟨uq, huq⟩ : ∃ uq, up / p = uq := ⟨_, rfl⟩
  rw [huq] at hfq hq0 hq1
  generalize hS : S0 Tryz.prog = S
  refine qaa hS I.qhg ?_
  cbv
  repeat' (first | (refine s_st hS ?_; try cbv) | (refine qai hS ?_ ?_ <;> intro h <;> (try cbv) <;> try exact s_ab h) | (refine qax hS ?_; intro _ _; try cbv) | (refine qbr hS ?_; try cbv) | (refine qaa hS I.qhf ?_; cbv) | (refine qaa hS I.qgj ?_; cbv) | (refine qfz hS (c := p) (by rw [← hp]; congr 1; simp only [IntKind.bits]; omega) ?_ (by simp only [lo]; omega) (by simp only [hi]; omega); intro _ _; cbv) | fail)
  rename_i r1 hr1 m0 hm0 p1 hp1'
  obtain rfl : p1 = p := by omega
  refine qzaei hS hu0 (by omega) (by simp only [hi]; omega) fun q' hq' => ?_
  obtain rfl : q' = uq := hq'.trans huq
  cbv
  repeat' (first | (refine qax hS ?_; intro _ _; try cbv) | fail)
  rename_i p2 hp2'
  obtain rfl : p2 = p1 := by omega
  refine qjy hS (fun f1 hf1' => ?_) (by rw [hfq]; simp only [lo]; omega) (by rw [hfq]; simp only [hi]; omega)
  obtain rfl : f1 = fi := hf1'.trans hfq
  cbv
  repeat' (first | (refine qai hS ?_ ?_ <;> intro h <;> (try cbv) <;> try exact s_ab h) | (refine qax hS ?_; intro _ _; try cbv) | (refine qbr hS ?_; try cbv) | fail)
  · rename_i v hv
    rw [if_pos (by omega)] at hput
    refine ⟨_, qar (.cons .rfl (.cons (qae rfl) .nil)), qga (L := L) ?_ hP (Nat.zero_le _) ?_ rfl⟩
    · rw [hput, ← hv]; rfl
    · rw [hput]; rfl
  · rename_i v hv q0 hq0'
    rw [if_neg (by omega)] at hput
    have hok0 : septOk 5 q0 := ⟨by decide, by omega, by show q0 < 34359738368; omega⟩
    have hL0 : L = [v] ++ sept 5 q0 := by rw [hput, hv, hq0', show m0 = p2 - 1 by omega]; rfl
    clear hput
    refine qav hS 1 I.qkg (fun x : Nat × Int × Int × Int × List Int × List SV => septOk x.1 x.2.1 ∧ 0 ≤ x.2.1 ∧ x.2.1 < 2147483648 ∧ L = x.2.2.2.2.1 ++ sept x.1 x.2.1 ∧ x.2.2.1 = ilen x.2.2.2.2.1 ∧ x.2.2.1 + x.1 ≤ 6 ∧ x.2.2.2.2.2 = cellsB x.2.2.2.2.1)
      (fun x => [(0, .i .i64 (.y x.2.1)), (10, .sl 0 1 (.l 0) (.y x.2.2.1) none)]) (fun x => [(0, .r false false (.y x.2.2.2.1) 1 x.2.2.2.2.2)])
      (fun x => x.1) (5, q0, 1, 0, [v], [.i .u8 (.y v)]) rfl ⟨⟨hok0, by dsimp only; omega, by dsimp only; omega, hL0, rfl, by show (1 : Int) + ((5 : Nat) : Int) ≤ 6; decide, rfl⟩, rfl, ?_, ?_, ?_⟩ ?_
    · cbv; (repeat' (first | exact qbw rfl rfl | exact qci | exact Sub.rfl | exact SubL.nil | refine SubL.cons ?_ ?_ | exact qae rfl))
    · cbv
      exact ⟨.r .rfl rfl rfl, trivial⟩
    · cbv
    · intro x
      obtain ⟨f, q, ln, st, B, G⟩ := x
      intro hx
      dsimp only at hx
      cbv
      obtain ⟨g0, g1, g2, g3, g4, g5, g6⟩ := hx
      have hG : ilen G = ln := by rw [g6, qat, g4]
      have hl0 := qah B
      have hln : ln ≤ 6 := by have : ln + (f : Int) ≤ 6 := g5; omega
      refine qai hS ?_ ?_ <;> intro h <;> cbv
      · obtain ⟨k1, k2, k3⟩ := qzaeh g0 (by omega)
        refine qzagv hS (by omega) fun y hy => ?_
        cbv
        repeat' (first | (refine s_st hS ?_; try cbv) | (refine qax hS ?_; intro _ _; try cbv) | (refine qbr hS ?_; try cbv) | (refine qeb hS (by rw [hG]; omega) ?_; cbv) | fail)
        rename_i y2 hy2
        refine qzaei hS g1 (by decide) (by simp only [hi]; omega) fun q2 hq2 => ?_
        cbv
        obtain ⟨ln2, h_ln2⟩ : ∃ ln2, ln2 = ln + 1 := ⟨_, rfl⟩
        obtain ⟨st2, h_st2⟩ : ∃ st2, st2 = S.flen G := ⟨_, rfl⟩
        obtain ⟨G2, h_G2⟩ : ∃ G2, G2 = cellsB (B ++ [y2]) := ⟨_, rfl⟩
        have g5' : ln + (f : Int) ≤ 6 := g5
        have k3' : 2 ≤ f := k3
        have k4 : f - 1 < f := by omega
        have k5 : ln2 + ((f - 1 : Nat) : Int) ≤ 6 := by rw [h_ln2]; omega
        have k6 : 0 ≤ q2 ∧ q2 < 2147483648 := by omega
        refine ⟨(f - 1, q2, ln2, st2, B ++ [y2], G2), k4, ⟨by dsimp only; rw [hq2]; exact k2, k6.1, k6.2, ?_, ?_, k5, h_G2⟩, rfl, ?_, ?_, ?_⟩
        · dsimp only; rw [g3, k1, hq2, show q % 128 + 128 = y2 by omega]; simp
        · dsimp only; rw [h_ln2, g4, qgf]
        · cbv; (repeat' (first | exact qbw rfl (by simp only [Z.v, ← hS, Int.ofNat_eq_natCast, cq, Bool.not_eq_true', Bool.not_eq_false', decide_eq_true_eq, decide_eq_false_iff_not, beq_iff_eq, beq_eq_false_iff_ne, ne_eq]; omega) | exact qci | exact Sub.rfl | exact SubL.nil | refine SubL.cons ?_ ?_ | exact qae rfl))
        · cbv
          exact ⟨qha hS g6.symm h_G2.symm rfl h_st2.symm, trivial⟩
        · cbv
      · have k1 := sept_end g0 (by omega)
        refine s_cv8 hS fun y hy => ?_
        cbv
        refine qeb hS (by rw [hG]; omega) ?_
        cbv
        repeat' (first | (refine s_st hS ?_; try cbv) | fail)
        refine ⟨_, qar (.cons .rfl (.cons (qae rfl) .nil)), qvx hS g6.symm hP (show L = B ++ [y] by rw [g3, k1, show y = q by omega]) (Nat.zero_le _) (by simp only [Z.v, ← hS, Int.ofNat_eq_natCast, cq, Bool.not_eq_true', Bool.not_eq_false', decide_eq_true_eq, decide_eq_false_iff_not, beq_iff_eq, beq_eq_false_iff_ne, ne_eq]; omega) rfl⟩
end Cz
namespace Cz
open Go Go.RowKit Go.Proofs
def byS (x : List UInt8) : List Int := x.map fun c => (c.toNat : Int)
theorem qyc (x : List UInt8) : Hu.BOk (byS x) := by
  intro v hv
  unfold byS at hv
  rw [List.mem_map] at hv
  obtain ⟨c, _, rfl⟩ := hv
  have := c.toNat_lt
  omega
theorem qds (x : List UInt8) : ilen (byS x) = ilen x := by unfold byS ilen; rw [List.length_map]
theorem sb_eq {S : Sy} (hS : S0 Tryz.prog = S) (x : List UInt8) : S.sb x = cellsB (byS x) := by
  subst hS
  rw [qdy]
  unfold byS
  rw [List.map_map]; rfl
theorem qrz {S : Sy} (hS : S0 Tryz.prog = S) (x : List UInt8) : S.slen x = ilen (byS x) := by rw [qds, ← hS]; rfl
theorem byS_strB {b : List Int} (h : Hu.BOk b) : byS (strB b) = b := by
  unfold strB byS
  rw [List.map_map]
  conv => rhs; rw [← List.map_id b]
  apply List.map_congr_left
  intro v hv
  have := h v hv
  simp; omega
section
variable {S : Sy} {l : List Blk} {K : SV → List Blk → Prop} {zn zk zu : Z} {n k up : Int}
theorem qwa (hS : S0 Tryz.prog = S) (n k up p : Int) (h1 : zn.v = n) (h2 : zk.v = k) (h3 : zu.v = up) (hn0 : 0 ≤ n) (hn1 : n < 2147483648) (hk1 : 1 ≤ k) (hk8 : k ≤ 8) (hp : 2 ^ k.toNat = p) (hu0 : 0 ≤ up) (hu1 : up < 256)
    (hK : ∀ F2 n2 st, cellsB (putI n p up) = F2 → n2 = ilen (putI n p up) → K (.tp [.sl (len l) 1 (.l 0) (.y n2) none, .i .i64 (.y 0)]) (snoc l (.r false false (.y st) 1 F2))) :
    S.call 76 [.i .i64 zn, .i .i64 zk, .i .u8 zu] l K := by
  subst h1 h2 h3
  exact qfc hS id (pput_f hn0 hn1 hk1 hk8 hp hu0 hu1) (.cons (qae rfl) (.cons (qae rfl) (.cons (qae rfl) .nil))) rfl trivial (by omega) (qab _) rfl (qby _) fun st => hK _ _ st rfl rfl
theorem qod (hS : S0 Tryz.prog = S) (n k up p : Int) (h1 : zn.v = n) (h2 : zk.v = k) (h3 : zu.v = up) (hn0 : 0 ≤ n) (hn1 : n < 2147483648) (hk1 : 1 ≤ k) (hk8 : k ≤ 8) (hp : 2 ^ k.toNat = p) (hu0 : 0 ≤ up) (hu1 : up < 256)
    (hK : ∀ F2 n2 st, cellsB (putI n p up) = F2 → n2 = ilen (putI n p up) → K (.tp [.sl (len l) 1 (.l 0) (.y n2) none, .i .i64 (.y 0)]) (snoc l (.r false false (.y st) 1 F2))) :
    S.call 52 [.i .i64 zn, .i .i64 zk, .i .u8 zu] l K := by
  subst h1 h2 h3
  exact qfc hS id (rpput_f hn0 hn1 hk1 hk8 hp hu0 hu1) (.cons (qae rfl) (.cons (qae rfl) (.cons (qae rfl) .nil))) rfl trivial (by omega) (qab _) rfl (qby _) fun st => hK _ _ st rfl rfl
end
theorem sept_len : ∀ (f : Nat) (q : Int), ilen (sept f q) ≤ f
  | 0, q => by simp [sept, ilen]
  | f + 1, q => by
    rw [sept]
    split
    · unfold ilen; simp; omega
    · have := sept_len f (q / 128)
      unfold ilen at this ⊢
      simp only [List.length_cons]; omega
theorem qet (n p up : Int) : 1 ≤ ilen (putI n p up) ∧ ilen (putI n p up) ≤ 6 := by
  unfold putI
  split
  · exact ⟨Int.le_refl _, by unfold ilen; simp⟩
  · have := sept_len 5 (n - (p - 1))
    have h0 := qah (sept 5 (n - (p - 1)))
    unfold ilen at this h0 ⊢
    simp only [List.length_cons]; omega
theorem qbh {α : Type} (a b : List α) : ilen (a ++ b) = ilen a + ilen b := by unfold ilen; simp
theorem qrv {S : Sy} (hS : S0 Tryz.prog = S) {L : List Int} {F : List SV} {n : Int} (hF : cellsB L = F) (hn : n = ilen L) : S.sub F 0 n 1 = F := by
  subst hS hF hn
  show ((cellsB L).drop (0 * 1)).take ((ilen L).toNat * 1) = _
  have := qat L
  unfold ilen at *
  rw [List.take_of_length_le (by simp; omega)]; simp
theorem qdj {S : Sy} (hS : S0 Tryz.prog = S) {A B : List Int} {F G : List SV} (hF : F = cellsB A) (hG : G = cellsB B) : S.app F G = cellsB (A ++ B) := by
  subst hS hF hG
  rw [app_eq]; unfold cellsB; rw [List.flatMap_append]
theorem qlc {P X : List SV} {L : List Int} {q : Z} {k : Nat} {lit : Bool} {st : Z} {l' : List Blk} {n0 : Nat} (hX : X = cellsB L) (hP : cellsB L = P) (hk : n0 ≤ k) (hq : q.v = ilen L) (hB : l'[k]? = some (.r false lit st 1 X)) :
    OwnR n0 1 P false [] (.sl k 1 (.l 0) q none) l' := ⟨_, .rfl, qga hX hP hk hq hB⟩
theorem put_ib (b : List Int) : ilen (Hu.put b) ≤ 2 * ilen b + 1 := by
  have h0 := qah b
  have h1 := Hu.qsd b
  have h2 := (qhi (b := b) (j := ilen b) h0).2
  have h3 : bitsI b (ilen b) = Hu.nbits b := by unfold bitsI; rw [qca (by omega)]
  unfold ilen at *
  omega
def plainT (b : List Int) : List Int := putI (ilen b) 128 0 ++ b
def packT (b : List Int) : List Int := putI (ilen (Hu.put b)) 128 128 ++ Hu.put b
def bestT (b : List Int) : List Int := if shortB b then packT b else plainT b
theorem tall0_f {x : List UInt8} (hx : ilen x ≤ 1000000) :
    (S0 Tryz.prog).call 83 [.s x, .fn (.func 99) [] []] [] (OwnR 0 1 (cellsB (plainT (byS x))) false []) := by
  generalize hP : cellsB (plainT (byS x)) = P
  have h0 := qah (byS x)
  have hxb := qds x
  generalize hS : S0 Tryz.prog = S
  have hsl := qrz hS x
  refine qaa hS I.qxg ?_
  cbv
  repeat' (first | (refine qaa hS I.qtp ?_; cbv) | (refine qiy hS I.qoc ?_; cbv) | (refine qaa hS I.qxf ?_; cbv) | fail)
  refine qwa hS (ilen (byS x)) 7 0 128 hsl rfl rfl h0 (by omega) (by decide) (by decide) rfl (by decide) (by decide) fun F2 n2 st hF2 hn2 => ?_
  have hpl := qet (ilen (byS x)) 128 0
  rw [← hn2] at hpl
  have e1 : S.sub F2 0 n2 1 = F2 := qrv hS hF2 hn2
  have e2 : S.sub (S.sb x) 0 (S.slen x) 1 = cellsB (byS x) := by rw [sb_eq hS, hsl]; exact qrv hS rfl rfl
  have hfl : ilen (S.sub F2 0 n2 1) = n2 * 1 := by rw [e1, ← hF2, qat, hn2]; omega
  cbv
  repeat' (first | (refine s_st hS ?_; try cbv) | (refine qai hS ?_ ?_ <;> intro h <;> (try cbv) <;> try exact s_ab h) | (refine qfp hS rfl rfl ?_; cbv) | (refine qeb hS hfl ?_; cbv) | (refine s_stk hS ?_; try cbv) | fail)
  · refine qlc (qdj hS (e1.trans hF2.symm) e2) hP (Nat.zero_le _) ?_ rfl
    rw [qbh, ← hn2, qds]
    simp only [Z.v, ← hS, Int.ofNat_eq_natCast, cr, Bool.not_eq_true', Bool.not_eq_false', decide_eq_true_eq, decide_eq_false_iff_not, beq_iff_eq, beq_eq_false_iff_ne, ne_eq]
theorem tall1_f {x : List UInt8} (hx : ilen x ≤ 1000000) :
    (S0 Tryz.prog).call 83 [.s x, .fn (.func 101) [] []] [] (OwnR 0 1 (cellsB (packT (byS x))) false []) := by
  generalize hP : cellsB (packT (byS x)) = P
  have h0 := qah (byS x)
  have hxb := qds x
  generalize hS : S0 Tryz.prog = S
  have hsl := qrz hS x
  refine qaa hS I.qxg ?_
  cbv
  repeat' (first | (refine qaa hS I.qtp ?_; cbv) | (refine qiy hS I.qoc ?_; cbv) | (refine qaa hS I.qtz ?_; cbv) | fail)
  have hsb := sb_eq hS x
  have hsf : FSub (S.sb x) (cellsB (byS x)) := by rw [hsb]; exact .rfl
  have hpb : ilen (Hu.put (byS x)) ≤ 2000001 := by
    have h1 := put_ib (byS x)
    omega
  have hp0 := qah (Hu.put (byS x))
  refine put_u hS (b := byS x) (qyc x) (by omega) rfl hsf hsl fun F1 n1 st1 hF1 hn1 => ?_
  cbv
  refine qwa hS (ilen (Hu.put (byS x))) 7 128 128 hn1 rfl rfl hp0 (by omega) (by decide) (by decide) rfl (by decide) (by decide) fun F2 n2 st hF2 hn2 => ?_
  have hpl := qet (ilen (Hu.put (byS x))) 128 128
  rw [← hn2] at hpl
  have e1 : S.sub F2 0 n2 1 = F2 := qrv hS hF2 hn2
  have e2 : S.sub F1 0 n1 1 = F1 := qrv hS hF1 hn1
  have hfl : ilen (S.sub F2 0 n2 1) = n2 * 1 := by rw [e1, ← hF2, qat, hn2]; omega
  cbv
  repeat' (first | (refine s_st hS ?_; try cbv) | (refine qai hS ?_ ?_ <;> intro h <;> (try cbv) <;> try exact s_ab h) | (refine qfp hS rfl rfl ?_; cbv) | (refine qeb hS hfl ?_; cbv) | fail)
  · refine qlc (qdj hS (e1.trans hF2.symm) (e2.trans hF1.symm)) hP (Nat.zero_le _) ?_ rfl
    rw [qbh, ← hn2, ← hn1]
    simp only [Z.v, ← hS, Int.ofNat_eq_natCast, cr, Bool.not_eq_true', Bool.not_eq_false', decide_eq_true_eq, decide_eq_false_iff_not, beq_iff_eq, beq_eq_false_iff_ne, ne_eq]
theorem rtplain_f {x : List UInt8} (hx : ilen x ≤ 1000000) :
    (S0 Tryz.prog).call 86 [.s x] [] (OwnR 0 1 (cellsB (plainT (byS x))) false []) := by
  generalize hP : cellsB (plainT (byS x)) = P
  have h0 := qah (byS x)
  have hxb := qds x
  generalize hS : S0 Tryz.prog = S
  have hsl := qrz hS x
  have hsb := sb_eq hS x
  have hsf : FSub (S.sb x) (cellsB (byS x)) := by rw [hsb]; exact .rfl
  refine qaa hS I.qns ?_
  cbv
  refine qod hS (ilen (byS x)) 7 0 128 hsl rfl rfl h0 (by omega) (by decide) (by decide) rfl (by decide) (by decide) fun F2 n2 st hF2 hn2 => ?_
  have hpl := qet (ilen (byS x)) 128 0
  rw [← hn2] at hpl
  have hfl : ilen F2 = n2 * 1 := by rw [← hF2, qat, hn2]; omega
  cbv
  repeat' (first | (refine qeb hS hfl ?_; cbv) | (refine s_stk hS ?_; try cbv) | fail)
  · refine qlc (qdj hS hF2.symm hsb) hP (Nat.zero_le _) ?_ rfl
    rw [qbh, ← hn2, qds]
    simp only [Z.v, ← hS, Int.ofNat_eq_natCast, cr, Bool.not_eq_true', Bool.not_eq_false', decide_eq_true_eq, decide_eq_false_iff_not, beq_iff_eq, beq_eq_false_iff_ne, ne_eq]
theorem rtbits_f {x : List UInt8} (hx : ilen x ≤ 5000) :
    (S0 Tryz.prog).call 85 [.s x] [] (OwnR 0 1 (cellsB (packT (byS x))) false []) := by
  generalize hP : cellsB (packT (byS x)) = P
  have h0 := qah (byS x)
  have hxb := qds x
  generalize hS : S0 Tryz.prog = S
  have hsl := qrz hS x
  have hsb := sb_eq hS x
  have hsf : FSub (S.sb x) (cellsB (byS x)) := by rw [hsb]; exact .rfl
  have hpb : ilen (Hu.put (byS x)) ≤ 2000001 := by
    have h1 := put_ib (byS x)
    omega
  have hp0 := qah (Hu.put (byS x))
  refine qaa hS I.qpl ?_
  cbv
  refine rput_u hS (b := byS x) (qyc x) (by omega) rfl hsf hsl fun F1 n1 st1 hF1 hn1 => ?_
  cbv
  refine qod hS (ilen (Hu.put (byS x))) 7 128 128 hn1 rfl rfl hp0 (by omega) (by decide) (by decide) rfl (by decide) (by decide) fun F2 n2 st hF2 hn2 => ?_
  have hpl := qet (ilen (Hu.put (byS x))) 128 128
  rw [← hn2] at hpl
  have e2 : S.sub F1 0 n1 1 = F1 := qrv hS hF1 hn1
  have hfl : ilen F2 = n2 * 1 := by rw [← hF2, qat, hn2]; omega
  cbv
  repeat' (first | (refine s_st hS ?_; try cbv) | (refine qeb hS hfl ?_; cbv) | fail)
  · refine qlc (qdj hS hF2.symm (e2.trans hF1.symm)) hP (Nat.zero_le _) ?_ rfl
    rw [qbh, ← hn2, ← hn1]
    simp only [Z.v, ← hS, Int.ofNat_eq_natCast, cr, Bool.not_eq_true', Bool.not_eq_false', decide_eq_true_eq, decide_eq_false_iff_not, beq_iff_eq, beq_eq_false_iff_ne, ne_eq]
end Cz
namespace Cz
open Go Go.RowKit Go.Proofs
section
variable {S : Sy} {l : List Blk} {K : SV → List Blk → Prop} {x : List UInt8}
theorem tall0_u (hS : S0 Tryz.prog = S) (hx : ilen x ≤ 1000000)
    (hK : ∀ F2 n2 st, cellsB (plainT (byS x)) = F2 → n2 = ilen (plainT (byS x)) → K (.sl (len l) 1 (.l 0) (.y n2) none) (snoc l (.r false false (.y st) 1 F2))) : S.call 83 [.s x, .fn (.func 99) [] []] l K :=
  qfc hS id (tall0_f hx) (.cons .rfl (.cons .rfl .nil)) rfl trivial (by omega) (qab _) rfl (qby _) fun st => hK _ _ st rfl rfl
theorem tall1_u (hS : S0 Tryz.prog = S) (hx : ilen x ≤ 1000000)
    (hK : ∀ F2 n2 st, cellsB (packT (byS x)) = F2 → n2 = ilen (packT (byS x)) → K (.sl (len l) 1 (.l 0) (.y n2) none) (snoc l (.r false false (.y st) 1 F2))) : S.call 83 [.s x, .fn (.func 101) [] []] l K :=
  qfc hS id (tall1_f hx) (.cons .rfl (.cons .rfl .nil)) rfl trivial (by omega) (qab _) rfl (qby _) fun st => hK _ _ st rfl rfl
theorem rtplain_u (hS : S0 Tryz.prog = S) (hx : ilen x ≤ 1000000)
    (hK : ∀ F2 n2 st, cellsB (plainT (byS x)) = F2 → n2 = ilen (plainT (byS x)) → K (.sl (len l) 1 (.l 0) (.y n2) none) (snoc l (.r false false (.y st) 1 F2))) : S.call 86 [.s x] l K :=
  qfc hS id (rtplain_f hx) (.cons .rfl .nil) rfl trivial (by omega) (qab _) rfl (qby _) fun st => hK _ _ st rfl rfl
theorem rtbits_u (hS : S0 Tryz.prog = S) (hx : ilen x ≤ 5000)
    (hK : ∀ F2 n2 st, cellsB (packT (byS x)) = F2 → n2 = ilen (packT (byS x)) → K (.sl (len l) 1 (.l 0) (.y n2) none) (snoc l (.r false false (.y st) 1 F2))) : S.call 85 [.s x] l K :=
  qfc hS id (rtbits_f hx) (.cons .rfl .nil) rfl trivial (by omega) (qab _) rfl (qby _) fun st => hK _ _ st rfl rfl
end
theorem tbest_f {x : List UInt8} (hx : ilen x ≤ 1000000) :
    (S0 Tryz.prog).call 54 [.s x] [] (OwnR 0 1 (cellsB (bestT (byS x))) false []) := by
  have hL : bestT (byS x) = if shortB (byS x) then packT (byS x) else plainT (byS x) := rfl
  generalize bestT (byS x) = L at hL ⊢
  generalize hP : cellsB L = P
  have hxb := qds x
  generalize hS : S0 Tryz.prog = S
  have hsl := qrz hS x
  have hsb := sb_eq hS x
  have hsf : FSub (S.sb x) (cellsB (byS x)) := by rw [hsb]; exact .rfl
  refine qaa hS I.qzafq ?_
  cbv
  refine qaa hS I.qzacj ?_
  cbv
  refine short_u hS (b := byS x) (qyc x) (by omega) rfl hsf hsl fun t ht => ?_
  rw [ht] at hL
  cbv
  refine s_br hS ?_ ?_ <;> intro h <;> cbv
  · rw [h] at hL
    refine qaa hS I.qzg ?_
    cbv
    refine tall1_u hS hx fun F2 n2 st hF2 hn2 => ?_
    cbv
    exact qlc (L := L) (by rw [hL]; exact hF2.symm) hP (Nat.zero_le _) (by rw [hL]; exact hn2) rfl
  · rw [h] at hL
    refine tall0_u hS hx fun F2 n2 st hF2 hn2 => ?_
    cbv
    exact qlc (L := L) (by rw [hL]; exact hF2.symm) hP (Nat.zero_le _) (by rw [hL]; exact hn2) rfl
theorem rtbest_f {x : List UInt8} (hx : ilen x ≤ 5000) :
    (S0 Tryz.prog).call 56 [.s x] [] (OwnR 0 1 (cellsB (bestT (byS x))) false []) := by
  have hL : bestT (byS x) = if shortB (byS x) then packT (byS x) else plainT (byS x) := rfl
  generalize bestT (byS x) = L at hL ⊢
  generalize hP : cellsB L = P
  have hxb := qds x
  generalize hS : S0 Tryz.prog = S
  have hsl := qrz hS x
  have hsb := sb_eq hS x
  have hsf : FSub (S.sb x) (cellsB (byS x)) := by rw [hsb]; exact .rfl
  refine qaa hS I.qpm ?_
  cbv
  refine rshort_u hS (b := byS x) (qyc x) (by omega) rfl hsf hsl fun t ht => ?_
  rw [ht] at hL
  cbv
  refine s_br hS ?_ ?_ <;> intro h <;> cbv
  · rw [h] at hL
    refine rtbits_u hS hx fun F2 n2 st hF2 hn2 => ?_
    cbv
    exact qlc (L := L) (by rw [hL]; exact hF2.symm) hP (Nat.zero_le _) (by rw [hL]; exact hn2) rfl
  · rw [h] at hL
    refine rtplain_u hS (by omega) fun F2 n2 st hF2 hn2 => ?_
    cbv
    exact qlc (L := L) (by rw [hL]; exact hF2.symm) hP (Nat.zero_le _) (by rw [hL]; exact hn2) rfl
end Cz
namespace Cz
open Go Go.RowKit Go.Proofs
theorem s_bsx {S : Sy} (hS : S0 Tryz.prog = S) {l : List Int} {F : List SV} {n : Int} {x : List UInt8} {K : List UInt8 → Prop} (hb : Hu.BOk l) (hF : cellsB l = F) (hn : n = ilen l) (hx : strB l = x) (h : K x) : S.bs F 0 n K := s_bs hS hb hF hn (hx ▸ h)
theorem v_take3 : takeL [49, 141] = [97, 97, 97] ∧ takeE [49, 141] = 0 := by
  have := Hu.take_put [97, 97, 97] (bok1 (by decide))
  rw [show Hu.put [97, 97, 97] = [49, 141] by decide +kernel] at this
  unfold takeL takeE; rw [this]; exact ⟨rfl, rfl⟩
theorem v_take4 : takeE [255] = 70 := by
  have h1 : Hu.bl [255] = List.replicate 8 true := by decide +kernel
  have : Hu.take [255] = none := by
    unfold Hu.take
    rw [h1, Hu.qve (Hu.sym_ones 8)]
    simp
  unfold takeE; rw [this]; rfl
theorem v1 : tTake [130, 49, 141, 9] = ([97, 97, 97], [9], 0) := by
  unfold tTake
  rw [show preE [130, 49, 141, 9] 128 = 0 by decide +kernel, show preN [130, 49, 141, 9] 128 = 2 by decide +kernel, show preR [130, 49, 141, 9] 128 = [49, 141, 9] by decide +kernel,
    show part [49, 141, 9] 0 2 = [49, 141] by decide +kernel, v_take3.1, v_take3.2]
  decide +kernel
theorem v2 : tTake [2, 97] = ([], [], 10) := by decide +kernel
theorem v3 : tTake [129, 255] = ([], [], 70) := by
  unfold tTake
  rw [show preE [129, 255] 128 = 0 by decide +kernel, show preN [129, 255] 128 = 1 by decide +kernel, show preR [129, 255] 128 = [255] by decide +kernel,
    show part [255] 0 1 = [255] by decide +kernel, v_take4]
  decide +kernel
theorem v4 : tTake [0] = ([], [], 0) := by decide +kernel
theorem v5 : tTake [] = ([], [], 10) := by decide +kernel
theorem v6 : plainT (byS [97]) = [1, 97] := by decide +kernel
theorem qse {n p up : Int} (h0 : 0 ≤ n) (hp : 2 ≤ p) (hp1 : p ≤ 256) (hu : 0 ≤ up - up % p) (hu1 : up - up % p + p ≤ 256) : Hu.BOk (putI n p up) := by
  have hs : ∀ (f : Nat) (q : Int), 0 ≤ q → Hu.BOk (sept f q) := by
    intro f
    induction f with
    | zero => intro q _ v hv; cases hv
    | succ f ih =>
      intro q hq v hv
      rw [sept] at hv
      split at hv
      · rw [List.mem_singleton] at hv; omega
      · rcases List.mem_cons.1 hv with h | h
        · omega
        · exact ih _ (by omega) v h
  intro v hv
  unfold putI at hv
  split at hv
  · rw [List.mem_singleton] at hv; omega
  · rcases List.mem_cons.1 hv with h | h
    · omega
    · exact hs _ _ (by omega) v h
theorem plainT_ok {b : List Int} (hb : Hu.BOk b) : Hu.BOk (plainT b) := by
  intro v hv
  rcases List.mem_append.1 hv with h | h
  · exact qse (qah b) (by decide) (by decide) (by decide) (by decide) v h
  · exact hb v h
theorem packT_ok (b : List Int) : Hu.BOk (packT b) := by
  intro v hv
  rcases List.mem_append.1 hv with h | h
  · exact qse (qah _) (by decide) (by decide) (by decide) (by decide) v h
  · exact Hu.put_ok b v h
theorem qzadi {b : List Int} (hb : Hu.BOk b) : Hu.BOk (bestT b) := by
  unfold bestT
  split
  · exact packT_ok b
  · exact plainT_ok hb
end Cz
namespace Cz
open Go Go.RowKit Go.Proofs
theorem qzagr {b : List Int} (hb : Hu.BOk b) : Hu.BOk (tS b) ∧ Hu.BOk (tR b) ∧ ilen (tR b) ≤ ilen b := by
  have h0 := qah b
  have hN := qen (p := 128) hb (by decide)
  have hd : ∀ k, ilen ((preR b 128).drop k) ≤ ilen b := by
    intro k
    have := qec (b := b) (p := 128)
    unfold ilen at *
    rw [List.length_drop]; omega
  unfold tS tR tTake
  split
  · exact ⟨fun v hv => by (cases hv), fun v hv => by (cases hv), h0⟩
  · split
    · exact ⟨fun v hv => by (cases hv), fun v hv => by (cases hv), h0⟩
    · split
      · exact ⟨qmy (qcw hb), qzadg (qcw hb) _, hd _⟩
      · split
        · exact ⟨qvj (qmy (qcw hb)), qzadg (qcw hb) _, hd _⟩
        · exact ⟨fun v hv => by (cases hv), fun v hv => by (cases hv), h0⟩
theorem tR_ok {b : List Int} (hb : Hu.BOk b) : Hu.BOk (tR b) := (qzagr hb).2.1
end Cz
namespace Cz
open Go Go.RowKit Go.Proofs
theorem put_il2 (b : List Int) : ilen (Hu.put b) = (bitsI b (ilen b) + 7) / 8 := by
  have h1 : bitsI b (ilen b) = Hu.nbits b := by unfold bitsI; rw [qca (by omega)]
  rw [h1]
  have := Hu.qsd b
  unfold ilen; omega
end Cz
namespace Cz
open Go Go.RowKit Go.Proofs
theorem qzahy {a b : List Int} (ha : Hu.BOk a) (hb : Hu.BOk b) : Hu.BOk (a ++ b) := fun v hv => (List.mem_append.1 hv).elim (ha v) (hb v)
end Cz
namespace Cz
open Go Go.RowKit Go.Proofs
namespace Tb
abbrev Fd := List UInt8 × List UInt8
def stL : List Fd :=
   [([58, 109, 101, 116, 104, 111, 100], [71, 69, 84]),
    ([58, 109, 101, 116, 104, 111, 100], [80, 79, 83, 84]),
    ([58, 112, 97, 116, 104], [47]),
    ([58, 115, 99, 104, 101, 109, 101], [104, 116, 116, 112]),
    ([58, 115, 99, 104, 101, 109, 101], [104, 116, 116, 112, 115]),
    ([58, 115, 116, 97, 116, 117, 115], [50, 48, 48]),
    ([58, 115, 116, 97, 116, 117, 115], [50, 48, 52]),
    ([58, 115, 116, 97, 116, 117, 115], [52, 48, 52]),
    ([58, 115, 116, 97, 116, 117, 115], [53, 48, 48]),
    ([97, 99, 99, 101, 112, 116], []),
    ([99, 111, 110, 116, 101, 110, 116, 45, 108, 101, 110, 103, 116, 104], []),
    ([99, 111, 110, 116, 101, 110, 116, 45, 116, 121, 112, 101], []),
    ([99, 111, 111, 107, 105, 101], []),
    ([100, 97, 116, 101], []),
    ([104, 111, 115, 116], []),
    ([108, 111, 99, 97, 116, 105, 111, 110], []),
    ([112, 114, 105, 111, 114, 105, 116, 121], []),
    ([112, 114, 105, 111, 114, 105, 116, 121], [117, 61, 49]),
    ([115, 101, 114, 118, 101, 114], []),
    ([117, 115, 101, 114, 45, 97, 103, 101, 110, 116], [])]
def lineL : List (List UInt8) :=
   [[58, 109, 101, 116, 104, 111, 100, 32, 71, 69, 84],
    [58, 109, 101, 116, 104, 111, 100, 32, 80, 79, 83, 84],
    [58, 112, 97, 116, 104, 32, 47],
    [58, 115, 99, 104, 101, 109, 101, 32, 104, 116, 116, 112],
    [58, 115, 99, 104, 101, 109, 101, 32, 104, 116, 116, 112, 115],
    [58, 115, 116, 97, 116, 117, 115, 32, 50, 48, 48],
    [58, 115, 116, 97, 116, 117, 115, 32, 50, 48, 52],
    [58, 115, 116, 97, 116, 117, 115, 32, 52, 48, 52],
    [58, 115, 116, 97, 116, 117, 115, 32, 53, 48, 48],
    [97, 99, 99, 101, 112, 116],
    [99, 111, 110, 116, 101, 110, 116, 45, 108, 101, 110, 103, 116, 104],
    [99, 111, 110, 116, 101, 110, 116, 45, 116, 121, 112, 101],
    [99, 111, 111, 107, 105, 101],
    [100, 97, 116, 101],
    [104, 111, 115, 116],
    [108, 111, 99, 97, 116, 105, 111, 110],
    [112, 114, 105, 111, 114, 105, 116, 121],
    [112, 114, 105, 111, 114, 105, 116, 121, 32, 117, 61, 49],
    [115, 101, 114, 118, 101, 114],
    [117, 115, 101, 114, 45, 97, 103, 101, 110, 116]]
def joinT : List (List UInt8) → List UInt8
  | [] => []
  | [x] => x
  | x :: y :: r => x ++ 10 :: joinT (y :: r)
def remT (j : Nat) : List UInt8 := joinT (lineL.drop j)
def szF (f : Fd) : Int := ilen f.1 + ilen f.2 + 32
theorem qfy (f : Fd) : 32 ≤ szF f := by have := qah f.1; have := qah f.2; unfold szF; omega
def fullL : List Fd → Int
  | [] => 0
  | f :: r => szF f + fullL r
theorem qfs : ∀ l : List Fd, 0 ≤ fullL l
  | [] => by simp [fullL]
  | f :: r => by have := qfy f; have := qfs r; simp only [fullL]; omega
theorem qlo : ∀ l m : List Fd, fullL (l ++ m) = fullL l + fullL m
  | [], m => by simp [fullL]
  | f :: r, m => by simp only [List.cons_append, fullL, qlo r m]; omega
theorem qbz : ∀ l : List Fd, 32 * ilen l ≤ fullL l
  | [] => by simp [fullL, ilen]
  | f :: r => by have := qfy f; have := qbz r; simp only [fullL, ilen, List.length_cons] at *; omega
theorem qez {l : List Fd} {i : Int} {f : Fd} (h : l[i.toNat]? = some f) (h0 : 0 ≤ i) : fullL (l.take (i + 1).toNat) = fullL (l.take i.toNat) + szF f := by
  rw [qkn h h0, qlo]; simp [fullL]
theorem qdg (l : List Fd) (n : Nat) : fullL (l.take n) ≤ fullL l := by
  conv => rhs; rw [← List.take_append_drop n l]
  rw [qlo]
  have := qfs (l.drop n); omega
theorem qxb {l : List Fd} {i : Nat} {f : Fd} (h : l[i]? = some f) : szF f ≤ fullL l := by
  have h1 := qdg l (i + 1)
  have h2 := qez (i := i) (by simpa using h) (by omega)
  have h3 := qfs (l.take i)
  rw [show ((i : Int) + 1).toNat = i + 1 by omega] at h2
  simp only [Int.toNat_natCast] at h2
  omega
def rightL (mx : Int) (l : List Fd) : Bool := decide (0 ≤ mx ∧ mx ≤ 4096 ∧ fullL l ≤ mx)
def evN (mx : Int) (l : List Fd) : Nat → Nat
  | 0 => 0
  | n + 1 => if fullL (l.take (n + 1)) ≤ mx then n + 1 else evN mx l n
def evL (mx : Int) (l : List Fd) : List Fd := l.take (evN mx l l.length)
theorem evN_le (mx : Int) (l : List Fd) : ∀ n, evN mx l n ≤ n
  | 0 => Nat.le_refl _
  | n + 1 => by
    simp only [evN]
    split
    · exact Nat.le_refl _
    · exact Nat.le_succ_of_le (evN_le mx l n)
theorem qzact {mx : Int} {l : List Fd} {n : Nat} (h : fullL (l.take n) ≤ mx) : evN mx l n = n := by
  cases n with
  | zero => rfl
  | succ n => rw [evN, if_pos h]
theorem evN_next {mx : Int} {l : List Fd} {n : Nat} (h : ¬fullL (l.take (n + 1)) ≤ mx) : evN mx l (n + 1) = evN mx l n := by rw [evN, if_neg h]
theorem evN_full {mx : Int} {l : List Fd} (h0 : 0 ≤ mx) : ∀ n, fullL (l.take (evN mx l n)) ≤ mx
  | 0 => by simpa [evN, fullL] using h0
  | n + 1 => by
    by_cases h : fullL (l.take (n + 1)) ≤ mx
    · rw [qzact h]; exact h
    · rw [evN_next h]; exact evN_full h0 n
theorem qzafy {mx : Int} {l : List Fd} (h0 : 0 ≤ mx) : fullL (evL mx l) ≤ mx := evN_full h0 _
theorem evL_all {mx : Int} {l : List Fd} (h : fullL l ≤ mx) : evL mx l = l := by
  unfold evL
  rw [qzact (by rw [List.take_length]; exact h), List.take_length]
abbrev Tab := Int × List Fd
def newR (most : Int) : Tab × Int := if most < 0 ∨ 4096 < most then ((0, []), 2) else ((most, []), 0)
def addR (t : Tab) (f : Fd) : Tab × Int := if rightL t.1 t.2 then ((t.1, evL t.1 (f :: t.2)), 0) else ((0, []), 2)
def resR (t : Tab) (most : Int) : Tab × Int := if rightL t.1 t.2 = true ∧ 0 ≤ most ∧ most ≤ 4096 then ((most, evL most t.2), 0) else ((0, []), 2)
def allF (l : List Fd) : List Fd := stL ++ l
def atR (l : List Fd) (i : Int) : Fd × Int := if i < 1 then (([], []), 90) else match (allF l)[(i - 1).toNat]? with
  | some f => (f, 0)
  | none => (([], []), 90)
def fstI (p : Fd → Bool) : List Fd → Int → Int
  | [], _ => 0
  | x :: r, i => if p x then i else fstI p r (i + 1)
def findR (l : List Fd) (f : Fd) : Int × Bool :=
  if fstI (fun x => x == f) (allF l) 1 ≠ 0 then (fstI (fun x => x == f) (allF l) 1, true) else (fstI (fun x => x.1 == f.1) (allF l) 1, false)
theorem qkr : stL.length = 20 := rfl
theorem line_facts : ∀ j : Fin 20, idxI (remT j.val) 10 = (if j.val < 19 then ilen (lineL.getD j.val []) else -1) ∧
    (remT j.val).take (lineL.getD j.val []).length = lineL.getD j.val [] ∧ (j.val < 19 → (remT j.val).drop ((lineL.getD j.val []).length + 1) = remT (j.val + 1)) ∧ (j.val = 19 → remT j.val = lineL.getD j.val []) ∧
    (if idxI (lineL.getD j.val []) 32 < 0 then stL.getD j.val ([], []) = (lineL.getD j.val [], []) else
      stL.getD j.val ([], []) = ((lineL.getD j.val []).take (idxI (lineL.getD j.val []) 32).toNat, (lineL.getD j.val []).drop ((idxI (lineL.getD j.val []) 32).toNat + 1))) ∧ ilen (lineL.getD j.val []) ≤ 20 ∧ ilen (remT j.val) ≤ 300 ∧ idxI (lineL.getD j.val []) 32 < ilen (lineL.getD j.val []) := by
  decide +kernel
end Tb
end Cz
namespace Cz
open Go Go.RowKit Go.Proofs
namespace Tb
def fdE (f : Fd) : List SV := [.s f.1, .s f.2]
def cellsF (l : List Fd) : List SV := l.flatMap fdE
theorem qcu (l : List Fd) : plains (cellsF l) = true := qoe (fun _ => rfl) l
theorem qfw (l : List Fd) : (cellsF l).length = l.length * 2 := qzacr (enc := fdE) (fun _ => rfl) l
def tabV (mx : Int) (l : List Fd) : SV := .ag [.i .i64 (.y mx), .v false 2 (cellsF l) (.y (ilen l))]
theorem cells_take (l : List Fd) (n : Nat) : (cellsF l).take (n * 2) = cellsF (l.take n) := by
  induction l generalizing n with
  | nil => simp [cellsF]
  | cons f l ih =>
    cases n with
    | zero => simp [cellsF]
    | succ n =>
      have := ih n
      simp only [cellsF, List.flatMap_cons, fdE, List.take_succ_cons] at this ⊢
      rw [show (n + 1) * 2 = n * 2 + 1 + 1 by omega]
      simp only [List.cons_append, List.nil_append, List.take_succ_cons]
      rw [this]
theorem row_tab {l' : List Blk} {g : Nat → Nat} {ks : List (Option Nat)} {k : Nat} {len : Z} {cap : Option Z} {lit : Bool} {st : Z} {F : List SV} {lit' : Bool} {n : Z} {l : List Fd} {m : Nat} (hB : l'[k]? = some (.r false lit st 2 F)) (hk : kpOf ks k = none)
    (hF : F = cellsF l) (hm : len.v = m) (hn : len.v = n.v) : Fz l' g ks (.sl k 2 (.l 0) len cap) (.v lit' 2 (cellsF (l.take m)) n) := by
  refine qzafj hB hk ?_ (qcu _) hn
  rw [hF, show (Z.l 0).v.toNat * 2 = 0 from rfl, List.drop_zero, show len.v.toNat = m by omega, cells_take]
inductive TabC (bl : List Blk) : List SV → Int → List Fd → Prop where
  | v {z n : Z} {lit : Bool} {F : List SV} {mx : Int} {l : List Fd} (hz : z.v = mx) (hF : cellsF l = F) (hn : n.v = ilen l) : TabC bl [.i .i64 z, .v lit 2 F n] mx l
  | nil {z : Z} {mx : Int} (hz : z.v = mx) : TabC bl [.i .i64 z, .re (.slice none 0 0)] mx []
  | row {z n st : Z} {k : Nat} {lit : Bool} {cap : Option Z} {F : List SV} {mx : Int} {l l0 : List Fd} (hz : z.v = mx) (hB : lget bl k = .r false lit st 2 F) (hF : cellsF l0 = F) (hl : l = l0.take n.v.toNat) (hn : n.v = ilen l) : TabC bl [.i .i64 z, .sl k 2 (.l 0) n cap] mx l
theorem TabC.fz {bl : List Blk} {cs : List SV} {mx : Int} {l : List Fd} (h : TabC bl cs mx l) {g : Nat → Nat} : FzL bl g [] [.ag cs] [tabV mx l] := by
  cases h with
  | v hz hF hn => exact .cons (.ag (.cons (.sub (qae hz) rfl) (.cons (.sub (qap hF.symm hn) rfl) .nil))) .nil
  | nil hz => exact .cons (.ag (.cons (.sub (qae hz) rfl) (.cons (.sub (qnw (by decide) rfl rfl) rfl) .nil))) .nil
  | @row z n st k lit cap F mx l l0 hz hB hF hl hn =>
    subst hl
    refine .cons (.ag (.cons (.sub (qae hz) rfl) (.cons (row_tab (qau hB (by simp)) rfl hF.symm ?_ hn) .nil))) .nil
    have := qah (l0.take n.v.toNat)
    omega
theorem TabC.sub {cs : List SV} {mx : Int} {l : List Fd} (h : TabC [] cs mx l) : SubL [.ag cs] [tabV mx l] := by
  cases h with
  | v hz hF hn => exact .cons (qco (.cons (qae hz) (.cons (qap hF.symm hn) .nil))) .nil
  | nil hz => exact .cons (qco (.cons (qae hz) (.cons (qnw (by decide) rfl rfl) .nil))) .nil
  | row hz hB hF hl hn => simp [lget] at hB
theorem rowF {S : Sy} (hS : S0 Tryz.prog = S) {l : List Fd} {F : List SV} (hF : cellsF l = F) {q : Int} {a b : List UInt8} {K : SV → Prop} (hv : l[q.toNat]? = some (a, b)) (h0 : 0 ≤ q) (h : K (.ag [.s a, .s b])) : S.rd F q 2 0 2 true K :=
  s_rowp hS (enc := fdE) hF hv (fun _ => rfl) h0 (Nat.le_refl _) rfl h
theorem rowF1 {S : Sy} (hS : S0 Tryz.prog = S) {l : List Fd} {F : List SV} (hF : cellsF l = F) {q : Int} {a b : List UInt8} {K : SV → Prop} (hv : l[q.toNat]? = some (a, b)) (h0 : 0 ≤ q) (h : K (.s a)) : S.rd F q 2 0 1 false K :=
  s_rowp hS (enc := fdE) hF hv (fun _ => rfl) h0 (by decide) rfl h
theorem rowF2 {S : Sy} (hS : S0 Tryz.prog = S) {l : List Fd} {F : List SV} (hF : cellsF l = F) {q : Int} {a b : List UInt8} {K : SV → Prop} (hv : l[q.toNat]? = some (a, b)) (h0 : 0 ≤ q) (h : K (.s b)) : S.rd F q 2 1 1 false K :=
  s_rowp hS (enc := fdE) hF hv (fun _ => rfl) h0 (by decide) rfl h
theorem size_f {a b : List UInt8} {n : Int} (hn : n = szF (a, b)) (h : n ≤ 1000000000000000000) : (S0 Tryz.prog).call 38 [.ag [.s a, .s b]] [] (fun y _ => Sub y (.i .i64 (.y n))) := by
  generalize hS : S0 Tryz.prog = S
  have g1 := qah a
  have g2 := qah b
  have hn' : n = ilen a + ilen b + 32 := hn
  refine qaa hS I.qzack ?_
  cbv
  repeat' (first | (refine s_stl hS ?_; intro _ _; try cbv) | fail)
  refine qae ?_
  simp only [Z.v]; omega
theorem rsize_f {a b : List UInt8} {n : Int} (hn : n = szF (a, b)) (h : n ≤ 1000000000000000000) : (S0 Tryz.prog).call 58 [.ag [.s a, .s b]] [] (fun y _ => Sub y (.i .i64 (.y n))) := by
  generalize hS : S0 Tryz.prog = S
  have g1 := qah a
  have g2 := qah b
  have hn' : n = ilen a + ilen b + 32 := hn
  refine qaa hS I.qph ?_
  cbv
  repeat' (first | (refine qax hS ?_; intro _ _; try cbv) | (refine s_stl hS ?_; intro _ _; try cbv) | fail)
  refine qae ?_
  simp only [Z.v]; omega
section
variable {S : Sy} {bl : List Blk} {K : SV → List Blk → Prop}
theorem size_u (hS : S0 Tryz.prog = S) {a b : List UInt8} (h : szF (a, b) ≤ 1000000000000000000) (hK : ∀ n, n = szF (a, b) → K (.i .i64 (.y n)) bl) : S.call 38 [.ag [.s a, .s b]] bl K :=
  qbf hS (size_f rfl h) .rfl rfl rfl (hK _ rfl)
theorem rsize_u (hS : S0 Tryz.prog = S) {a b : List UInt8} (h : szF (a, b) ≤ 1000000000000000000) (hK : ∀ n, n = szF (a, b) → K (.i .i64 (.y n)) bl) : S.call 58 [.ag [.s a, .s b]] bl K :=
  qbf hS (rsize_f rfl h) .rfl rfl rfl (hK _ rfl)
end
theorem full_f {mx : Int} {l : List Fd} {n : Int} (hn : n = fullL l) (h : n ≤ 100000000) : (S0 Tryz.prog).call 69 [tabV mx l] [] (fun y _ => Sub y (.i .i64 (.y n))) := by
  generalize hF : cellsF l = F
  obtain ⟨m, hm⟩ : ∃ m, m = ilen l := ⟨_, rfl⟩
  have hlen := qbz l
  have h0 := qah l
  unfold tabV
  rw [hF, ← hm]
  generalize hS : S0 Tryz.prog = S
  refine qaa hS I.qzacm ?_
  cbv
  refine qav hS 1 I.qtb (fun x : Int × Int => 0 ≤ x.1 ∧ x.1 ≤ m ∧ x.2 = fullL (l.take x.1.toNat)) (fun x => [(2, .i .i64 (.y x.2)), (8, .i .i64 (.y x.1))]) (fun _ => []) (fun x => (m - x.1).toNat) (0, 0) rfl
    ⟨⟨Int.le_refl _, by omega, rfl⟩, rfl, ?_, ?_, by cbv⟩ ?_
  · cbv; all_goals exact s_sA
  · cbv; all_goals exact s_bA
  intro x
  obtain ⟨i, s⟩ := x
  intro hx
  dsimp only at hx
  cbv
  obtain ⟨k0, k1, k2⟩ := hx
  have hs0 := qfs (l.take i.toNat)
  have hs1 := qdg l i.toNat
  rw [← k2] at hs0 hs1
  refine qai hS ?_ ?_ <;> intro h <;> cbv
  · obtain ⟨⟨a, b⟩, hp⟩ := qei (l := l) (i := i) (by omega) k0
    have hsz := qxb hp
    have hsp := qfy (a, b)
    have hnx := qez hp k0
    rw [← k2] at hnx
    have hs2 := qdg l (i + 1).toNat
    repeat' (first | (refine s_st hS ?_; try cbv) | (refine qax hS ?_; intro _ _; try cbv) | (refine rowF hS hF hp (by omega) ?_; cbv) | (refine size_u hS (by omega) fun n1 hn1 => ?_; cbv) | fail)
    rename_i s2 hs2 i2 hi2
    refine ⟨(i2, s2), by dsimp only; omega, ⟨by dsimp only; omega, by dsimp only; omega, by dsimp only; rw [hs2, hi2, hnx]; omega⟩, rfl, ?_, ?_, by cbv⟩
    · cbv; all_goals exact s_sA
    · cbv; all_goals exact s_bA
  · refine qae ?_
    simp only [Z.v]; rw [hn, k2, qca (by omega)]
theorem rfull_f {mx : Int} {l : List Fd} {n : Int} (hn : n = fullL l) (h : n ≤ 100000000) : (S0 Tryz.prog).call 65 [tabV mx l] [] (fun y _ => Sub y (.i .i64 (.y n))) := by
  generalize hF : cellsF l = F
  obtain ⟨m, hm⟩ : ∃ m, m = ilen l := ⟨_, rfl⟩
  have hlen := qbz l
  have h0 := qah l
  unfold tabV
  rw [hF, ← hm]
  generalize hS : S0 Tryz.prog = S
  refine qaa hS I.qpj ?_
  cbv
  refine qav hS 1 I.qjn (fun x : Int × Int => 0 ≤ x.1 ∧ x.1 ≤ m ∧ x.2 = fullL (l.take x.1.toNat)) (fun x => [(3, .i .i64 (.y x.2)), (4, .i .i64 (.y x.1))]) (fun _ => []) (fun x => (m - x.1).toNat) (0, 0) rfl
    ⟨⟨Int.le_refl _, by omega, rfl⟩, rfl, ?_, ?_, by cbv⟩ ?_
  · cbv; all_goals exact s_sA
  · cbv; all_goals exact s_bA
  intro x
  obtain ⟨i, s⟩ := x
  intro hx
  dsimp only at hx
  cbv
  obtain ⟨k0, k1, k2⟩ := hx
  have hs0 := qfs (l.take i.toNat)
  have hs1 := qdg l i.toNat
  rw [← k2] at hs0 hs1
  refine qai hS ?_ ?_ <;> intro h <;> cbv
  · obtain ⟨⟨a, b⟩, hp⟩ := qei (l := l) (i := i) (by omega) k0
    have hsz := qxb hp
    have hsp := qfy (a, b)
    have hnx := qez hp k0
    rw [← k2] at hnx
    have hs2 := qdg l (i + 1).toNat
    repeat' (first | (refine s_st hS ?_; try cbv) | (refine qax hS ?_; intro _ _; try cbv) | (refine rowF hS hF hp (by omega) ?_; cbv) | (refine rsize_u hS (by omega) fun n1 hn1 => ?_; cbv) | fail)
    rename_i s2 hs2 i2 hi2
    refine ⟨(i2, s2), by dsimp only; omega, ⟨by dsimp only; omega, by dsimp only; omega, by dsimp only; rw [hs2, hi2, hnx]; omega⟩, rfl, ?_, ?_, by cbv⟩
    · cbv; all_goals exact s_sA
    · cbv; all_goals exact s_bA
  · refine qae ?_
    simp only [Z.v]; rw [hn, k2, qca (by omega)]
section
variable {S : Sy} {bl : List Blk} {K : SV → List Blk → Prop} {cs : List SV} {mx : Int} {l : List Fd}
theorem full_u (hS : S0 Tryz.prog = S) (hc : TabC bl cs mx l) (h : fullL l ≤ 100000000) (hK : ∀ n, n = fullL l → K (.i .i64 (.y n)) bl) : S.call 69 [.ag cs] bl K :=
  qcd hS (full_f rfl h) hc.fz rfl rfl (hK _ rfl)
theorem rfull_u (hS : S0 Tryz.prog = S) (hc : TabC bl cs mx l) (h : fullL l ≤ 100000000) (hK : ∀ n, n = fullL l → K (.i .i64 (.y n)) bl) : S.call 65 [.ag cs] bl K :=
  qcd hS (rfull_f rfl h) hc.fz rfl rfl (hK _ rfl)
end
theorem right_f {mx : Int} {l : List Fd} {t : Bool} (ht : rightL mx l = t) (hb : fullL l ≤ 100000000) : (S0 Tryz.prog).call 47 [tabV mx l] [] (fun y _ => Sub y (.b t)) := by
  generalize hF : cellsF l = F
  obtain ⟨m, hm⟩ : ∃ m, m = ilen l := ⟨_, rfl⟩
  unfold tabV
  rw [hF, ← hm]
  generalize hS : S0 Tryz.prog = S
  refine qaa hS I.qzi ?_
  cbv
  refine qbn hS rfl I.qsh (by decide +kernel) ?_
  cbv
  repeat' (first | (refine qai hS ?_ ?_ <;> intro h <;> (try cbv) <;> try exact s_ab h) | (refine full_u hS (.v rfl hF hm) hb fun n1 hn1 => ?_; cbv) | fail)
  all_goals first | refine qqd ?_ | refine qkp ?_ | refine qcg ?_
  all_goals (rw [← ht]; simp only [← hS, Int.ofNat_eq_natCast, cr, rightL, decide_eq_true_eq, decide_eq_false_iff_not, decide_eq_decide] at *; omega)
theorem rright_f {mx : Int} {l : List Fd} {t : Bool} (ht : rightL mx l = t) (hb : fullL l ≤ 100000000) : (S0 Tryz.prog).call 40 [tabV mx l] [] (fun y _ => Sub y (.b t)) := by
  generalize hF : cellsF l = F
  obtain ⟨m, hm⟩ : ∃ m, m = ilen l := ⟨_, rfl⟩
  unfold tabV
  rw [hF, ← hm]
  generalize hS : S0 Tryz.prog = S
  refine qaa hS I.qnr ?_
  cbv
  refine qbn hS rfl I.qjd (by decide +kernel) ?_
  cbv
  repeat' (first | (refine qai hS ?_ ?_ <;> intro h <;> (try cbv) <;> try exact s_ab h) | (refine rfull_u hS (.v rfl hF hm) hb fun n1 hn1 => ?_; cbv) | fail)
  all_goals first | refine qqd ?_ | refine qkp ?_ | refine qcg ?_
  all_goals (rw [← ht]; simp only [← hS, Int.ofNat_eq_natCast, cr, rightL, decide_eq_true_eq, decide_eq_false_iff_not, decide_eq_decide] at *; omega)
section
variable {S : Sy} {bl : List Blk} {K : SV → List Blk → Prop} {cs : List SV} {mx : Int} {l : List Fd}
theorem right_u (hS : S0 Tryz.prog = S) (hc : TabC bl cs mx l) (h : fullL l ≤ 100000000) (h1 : rightL mx l = true → K .tt bl) (h2 : rightL mx l = false → K .ff bl) : S.call 47 [.ag cs] bl K := by
  refine qcd hS (qdm (right_f rfl h)) hc.fz rfl (by cases rightL mx l <;> rfl) ?_
  cases hr : rightL mx l
  · exact h2 hr
  · exact h1 hr
theorem rright_u (hS : S0 Tryz.prog = S) (hc : TabC bl cs mx l) (h : fullL l ≤ 100000000) (h1 : rightL mx l = true → K .tt bl) (h2 : rightL mx l = false → K .ff bl) : S.call 40 [.ag cs] bl K := by
  refine qcd hS (qdm (rright_f rfl h)) hc.fz rfl (by cases rightL mx l <;> rfl) ?_
  cases hr : rightL mx l
  · exact h2 hr
  · exact h1 hr
end
theorem tabS {cs : List SV} {mx e : Int} {l : List Fd} {z : Z} (hc : TabC [] cs mx l) (he : z.v = e) : Sub (.tp [.ag cs, .i .i64 z]) (.tp [tabV mx l, .i .i64 (.y e)]) := by
  match hc.sub with
  | .cons h1 _ => exact qar (.cons h1 (.cons (qae he) .nil))
theorem qer {bl : List Blk} {cs : List SV} {mx e n : Int} {l : List Fd} {F : List SV} {z : Z} (hF : cellsF l = F) (hn : n = ilen l) (he : z.v = e) (hc : TabC bl cs mx l) : Tell (.tp [.ag [.i .i64 (.y mx), .v false 2 F (.y n)], .i .i64 (.y e)]) (.tp [.ag cs, .i .i64 z]) bl := by
  subst hF hn
  exact fun g => match hc.fz (g := g) with
    | .cons h1 _ => .tp (.cons h1 (.cons (.sub (qae he) rfl) .nil))
    | .fsub h hp => by simp [tabV, plains, plainV] at hp
theorem tell_ag {bl : List Blk} {cs : List SV} {mx n : Int} {l : List Fd} {F : List SV} (hF : cellsF l = F) (hn : n = ilen l) (hc : TabC bl cs mx l) : Tell (.ag [.i .i64 (.y mx), .v false 2 F (.y n)]) (.ag cs) bl := by
  subst hF hn
  exact fun g => match hc.fz (g := g) with
    | .cons h1 _ => h1
    | .fsub h hp => by simp [tabV, plains, plainV] at hp
theorem new_f {most mx e : Int} {l : List Fd} (hr : newR most = ((mx, l), e)) : (S0 Tryz.prog).call 61 [.i .i64 (.y most)] [] (fun y _ => Sub y (.tp [tabV mx l, .i .i64 (.y e)])) := by
  unfold newR at hr
  generalize hS : S0 Tryz.prog = S
  refine qaa hS I.qzafr ?_
  cbv
  repeat' (first | (refine qai hS ?_ ?_ <;> intro h <;> (try cbv) <;> try exact s_ab h) | fail)
  all_goals first
    | (rw [if_pos (by omega)] at hr; cases hr; exact tabS (.nil rfl) rfl)
    | (rw [if_neg (by omega)] at hr; cases hr; exact tabS (.nil rfl) rfl)
section
variable {S : Sy} {bl : List Blk} {K : SV → List Blk → Prop}
theorem new_u (hS : S0 Tryz.prog = S) {most : Z} (h1 : most.v < 0 ∨ 4096 < most.v → K (.tp [.ag [.i .i64 (.y 0), .v false 2 [] (.y 0)], .i .i64 (.l 2)]) bl) (h2 : 0 ≤ most.v → most.v ≤ 4096 → K (.tp [.ag [.i .i64 (.y most.v), .v false 2 [] (.y 0)], .i .i64 (.l 0)]) bl) :
    S.call 61 [.i .i64 most] bl K := by
  by_cases h : most.v < 0 ∨ 4096 < most.v
  · exact qbf hS (sv := .tp [.ag [.i .i64 (.y 0), .v false 2 [] (.y 0)], .i .i64 (.l 2)]) (qaw (new_f (most := most.v) (by unfold newR; rw [if_pos h])) fun x _ hx => ⟨x, .rfl, hx.trans (qar (.cons .rfl (.cons (qae rfl) .nil)))⟩) (.cons (qae rfl) .nil) rfl rfl (h1 h)
  · exact qbf hS (sv := .tp [.ag [.i .i64 (.y most.v), .v false 2 [] (.y 0)], .i .i64 (.l 0)]) (qaw (new_f (most := most.v) (by unfold newR; rw [if_neg h])) fun x _ hx => ⟨x, .rfl, hx.trans (qar (.cons .rfl (.cons (qae rfl) .nil)))⟩) (.cons (qae rfl) .nil) rfl rfl (h2 (by omega) (by omega))
end
theorem first2 : ∀ i, i < 2 → ([some 0, some 1] : List (Option Nat))[i]? = some (some i)
  | 0, _ => rfl
  | 1, _ => rfl
  | n + 2, h => by omega
theorem ev_pos {mx k : Int} {l : List Fd} (h0 : 0 ≤ mx) (h : mx < fullL (l.take k.toNat)) : 1 ≤ k := by
  rcases Int.lt_or_le k 1 with h1 | h1
  · rw [show k.toNat = 0 by omega] at h
    simp [fullL] at h
    omega
  · exact h1
theorem ev_end {mx k m e : Int} {l : List Fd} (hm : m = ilen l) (he : e = ilen (evL mx l)) (k0 : 0 ≤ k) (k1 : k ≤ m) (kev : evN mx l m.toNat = evN mx l k.toNat) (h : ¬mx < fullL (l.take k.toNat)) : k = e := by
  have h1 : evN mx l k.toNat = k.toNat := qzact (by omega)
  have h2 : m.toNat = l.length := by rw [hm]; unfold ilen; omega
  rw [he]
  unfold evL
  rw [← h2, kev, h1]
  unfold ilen at *
  rw [List.length_take]
  omega
theorem qzahp {mx k r : Int} {l : List Fd} {m : Int} (hr : r = k - 1) (k1 : 1 ≤ k) (kev : evN mx l m.toNat = evN mx l k.toNat) (h : mx < fullL (l.take k.toNat)) : evN mx l m.toNat = evN mx l r.toNat := by
  rw [kev, show k.toNat = r.toNat + 1 by omega]
  exact evN_next (by rw [show r.toNat + 1 = k.toNat by omega]; omega)
theorem evict_f {mx : Int} {l : List Fd} {F : List SV} {st : Int} (hF : cellsF l = F) (h0 : 0 ≤ mx) (hb : fullL l ≤ 100000000) :
    (S0 Tryz.prog).call 63 [.p 0 0] [.c [.i .i64 (.y mx), .sl 1 2 (.l 0) (.y (ilen l)) none], .r false false (.y st) 2 F]
      (PostB 2 (fun _ g => [.c [.i .i64 (.y mx), .sl (g 1) 2 (.l 0) (.y (ilen (evL mx l))) none], .r false false (.y st) 2 F]) (fun _ => .any)) := by
  obtain ⟨m, hm⟩ : ∃ m, m = ilen l := ⟨_, rfl⟩
  obtain ⟨e, he⟩ : ∃ e, e = ilen (evL mx l) := ⟨_, rfl⟩
  have hm0 := qah l
  have hlen := qbz l
  have hpl := qcu l
  rw [hF] at hpl
  rw [← hm, ← he]
  generalize hS : S0 Tryz.prog = S
  have fin : ∀ k : Int, k = e → PostB 2 (fun _ g => [.c [.i .i64 (.y mx), .sl (g 1) 2 (.l 0) (.y e) none], .r false false (.y st) 2 F]) (fun _ => .any) (.tp []) [.c [.i .i64 (.y mx), .sl 1 2 (.l 0) (.y k) none], .r false false (.y st) 2 F] := by
    rintro k rfl
    exact ⟨[some 0, some 1], fun _ => 0, first2, fun g => ⟨⟨⟨_, rfl, rfl, .c (.cons (.sub .rfl rfl) (.cons (.keep (i := 1) rfl rfl rfl) .nil))⟩, rfl, ⟨_, rfl, rfl, .r .rfl hpl rfl⟩, rfl, trivial⟩, .sub qci rfl⟩⟩
  refine qaa hS I.qzh ?_
  cbv
  refine full_u hS (.row rfl rfl hF (l := l) (by simp [Z.v, hm, ilen]) (by simp [Z.v, hm])) hb fun f hf0 => ?_
  cbv
  have hf : f = fullL (l.take m.toNat) := by rw [hf0, qca (by omega)]
  repeat' (first | (refine qai hS ?_ ?_ <;> intro h <;> (try cbv) <;> try exact s_ab h) | (refine qax hS ?_; intro _ _; try cbv) | fail)
  · have k1 := ev_pos h0 (hf ▸ h)
    rename_i r hr
    obtain ⟨⟨a, b⟩, hp⟩ := qei (l := l) (i := r) (by omega) (by omega)
    have hnx := qez hp (by omega)
    rw [show r + 1 = m by omega, ← hf] at hnx
    have hn0 := qfs (l.take r.toNat)
    have hsp := qfy (a, b)
    repeat' (first | (refine s_st hS ?_; try cbv) | (refine qax hS ?_; intro _ _; try cbv) | (refine rowF hS hF hp (by omega) ?_; cbv) | (refine size_u hS (by omega) fun n1 hn1 => ?_; cbv) | fail)
    rename_i f2 hf2
    refine qzaej hS 2 [1, 3, 4, 5, 6, 7, 8, 9, 10, 11, 12, 13, 14, 15, 16, 17, 18, 19, 20, 21, 22, 23, 24, 25, 26, 27, 28, 29, 30, 31, 32, 33, 34, 35, 36, 37, 38]
      (fun x : Int × Int => 0 ≤ x.1 ∧ x.1 ≤ m ∧ x.2 = fullL (l.take x.1.toNat) ∧ evN mx l m.toNat = evN mx l x.1.toNat)
      (fun x => [(2, .i .i64 (.y x.2))]) (fun x => [(0, .c [.i .i64 (.y mx), .sl 1 2 (.l 0) (.y x.1) none])]) (fun x => x.1.toNat) (r, f2) rfl rfl
      ⟨⟨by dsimp only; omega, by dsimp only; omega, by dsimp only; omega, qzahp hr k1 rfl (hf ▸ h)⟩, rfl, ?_, ?_, by cbv⟩ ?_
    · cbv; all_goals exact s_sA
    · cbv; all_goals exact s_bA
    intro x
    obtain ⟨k, g⟩ := x
    intro hx
    dsimp only at hx
    cbv
    obtain ⟨j0, j1, j2, j3⟩ := hx
    repeat' (first | (refine qai hS ?_ ?_ <;> intro h <;> (try cbv) <;> try exact s_ab h) | (refine qax hS ?_; intro _ _; try cbv) | fail)
    · have k1 := ev_pos h0 (j2 ▸ h)
      rename_i r2 hr2
      obtain ⟨⟨a2, b2⟩, hp2⟩ := qei (l := l) (i := r2) (by omega) (by omega)
      have hnx2 := qez hp2 (by omega)
      rw [show r2 + 1 = k by omega, ← j2] at hnx2
      have hn02 := qfs (l.take r2.toNat)
      have hsp2 := qfy (a2, b2)
      have hgf := qdg l k.toNat
      rw [← j2] at hgf
      repeat' (first | (refine s_st hS ?_; try cbv) | (refine qax hS ?_; intro _ _; try cbv) | (refine rowF hS hF hp2 (by omega) ?_; cbv) | (refine size_u hS (by omega) fun n2 hn2 => ?_; cbv) | fail)
      rename_i f3 hf3
      refine ⟨(r2, f3), by dsimp only; omega, ⟨by dsimp only; omega, by dsimp only; omega, by dsimp only; omega, qzahp hr2 k1 j3 (j2 ▸ h)⟩, rfl, ?_, ?_, by cbv⟩
      · cbv; all_goals exact s_sA
      · cbv; all_goals exact s_bA
    · exact fin _ (ev_end hm he j0 j1 j3 (by rw [← j2]; exact h))
  · exact fin _ (ev_end hm he (by omega) (by omega) rfl (by rw [← hf]; exact h))
section
variable {S : Sy} {bl : List Blk} {K : SV → List Blk → Prop}
theorem evict_u (hS : S0 Tryz.prog = S) {p k : Nat} {z n : Z} {mx : Int} {l : List Fd} {lit : Bool} {st : Z} {F : List SV} (hF : cellsF l = F) (h0 : 0 ≤ mx) (hb : fullL l ≤ 100000000)
    (hK : ∀ e, e = ilen (evL mx l) → K .any (lset (lset bl p (.c [.i .i64 (.y mx), .sl k 2 (.l 0) (.y e) none])) k (.r false false (.y st.v) 2 F)))
    (hp : lget bl p = .c [.i .i64 z, .sl k 2 (.l 0) n none] := by rfl) (hk : lget bl k = .r false lit st 2 F := by rfl) (hne : nodupN [p, k] = true := by rfl) (hz : z.v = mx := by rfl) (hn : n.v = ilen l := by first | assumption | (simp only [Z.v]; omega)) : S.call 63 [.p p 0] bl K := by
  refine use_box hS [p, k] (evict_f (st := st.v) hF h0 hb) rfl hne .rfl ⟨?_, ?_, trivial⟩ rfl fun sts => hK _ rfl
  · simp only [fOf, hp]
    exact .c (.cons (qae hz) (.cons (qbw rfl (by simpa [Z.v] using hn)) .nil)) rfl
  · simp only [fOf, hk]
    exact .r .rfl (hF ▸ qcu l) rfl
end
end Tb
end Cz
