/- Huff, the plain law: bits, codes, texts in bits. No program in sight. No condition. -/
import Derived.Calls
set_option linter.unusedSimpArgs false
set_option linter.unusedVariables false
namespace Hu

/-! ### Bits -/
def valB : List Bool → Nat := List.foldl (fun n b => 2 * n + b.toNat) 0
def bitsN : Nat → Nat → List Bool
  | 0, _ => []
  | m + 1, n => bitsN m (n / 2) ++ [n % 2 == 1]
theorem bitsN_len : ∀ (m n : Nat), (bitsN m n).length = m
  | 0, _ => rfl
  | m + 1, n => by simp [bitsN, bitsN_len m]
theorem fold_valB : ∀ (l : List Bool) (a : Nat), l.foldl (fun n b => 2 * n + b.toNat) a = a * 2 ^ l.length + valB l
  | [], a => by simp [valB]
  | b :: l, a => by
    simp only [List.foldl_cons, valB, List.length_cons]
    rw [fold_valB l, fold_valB l (2 * 0 + b.toNat), Nat.pow_succ]
    generalize 2 ^ l.length = q
    have : (2 * a + b.toNat) * q = a * (q * 2) + (2 * 0 + b.toNat) * q := by
      rw [Nat.add_mul, Nat.mul_zero, Nat.zero_add, Nat.mul_comm 2 a, Nat.mul_assoc, Nat.mul_comm 2 q]
    omega
theorem valB_nil : valB [] = 0 := rfl
theorem valB_cons (b : Bool) (l : List Bool) : valB (b :: l) = b.toNat * 2 ^ l.length + valB l := by
  have := fold_valB l (2 * 0 + b.toNat)
  simpa [valB] using this
theorem valB_append (l m : List Bool) : valB (l ++ m) = valB l * 2 ^ m.length + valB m := by
  simp only [valB, List.foldl_append]
  exact fold_valB m _
theorem valB_snoc (l : List Bool) (b : Bool) : valB (l ++ [b]) = 2 * valB l + b.toNat := by
  rw [valB_append]; simp [valB]; omega
theorem valB_lt : ∀ (l : List Bool), valB l < 2 ^ l.length
  | [] => by simp [valB]
  | b :: l => by
    rw [valB_cons, List.length_cons, Nat.pow_succ]
    have := valB_lt l
    cases b <;> simp only [Bool.toNat_true, Bool.toNat_false] <;> omega
theorem valB_bitsN : ∀ (m n : Nat), n < 2 ^ m → valB (bitsN m n) = n
  | 0, n, h => by simp at h; subst h; rfl
  | m + 1, n, h => by
    rw [Nat.pow_succ] at h
    rw [bitsN, valB_snoc, valB_bitsN m (n / 2) (by omega)]
    by_cases hb : n % 2 = 1
    · rw [hb]; simp only [beq_self_eq_true, Bool.toNat_true]; omega
    · rw [show (n % 2 == 1) = false by simpa using hb]; simp only [Bool.toNat_false]; omega
theorem bitsN_snoc (l : List Bool) (b : Bool) : bitsN (l.length + 1) (valB (l ++ [b])) = bitsN l.length (valB l) ++ [b] := by
  rw [bitsN, valB_snoc]
  have h1 : (2 * valB l + b.toNat) / 2 = valB l := by cases b <;> simp only [Bool.toNat_true, Bool.toNat_false] <;> omega
  have h2 : ((2 * valB l + b.toNat) % 2 == 1) = b := by cases b <;> simp <;> omega
  rw [h1, h2]
theorem bitsN_valB (l : List Bool) : bitsN l.length (valB l) = l := by
  suffices ∀ (r : List Bool), bitsN r.reverse.length (valB r.reverse) = r.reverse by simpa using this l.reverse
  intro r
  induction r with
  | nil => rfl
  | cons b r ih =>
    rw [List.reverse_cons, show (r.reverse ++ [b]).length = r.reverse.length + 1 by simp, bitsN_snoc, ih]
theorem valB_inj {l m : List Bool} (hl : l.length = m.length) (h : valB l = valB m) : l = m := by
  rw [← bitsN_valB l, ← bitsN_valB m, hl, h]
theorem valB_ones : ∀ k, valB (List.replicate k true) = 2 ^ k - 1
  | 0 => rfl
  | k + 1 => by
    rw [List.replicate_succ, valB_cons, valB_ones k, List.length_replicate, Nat.pow_succ]
    have := Nat.two_pow_pos k
    simp; omega

/-! ### Bytes -/
/-- The bits of bytes. -/
def bl (l : List Int) : List Bool := l.flatMap fun v => bitsN 8 v.toNat
theorem bl_len (l : List Int) : (bl l).length = 8 * l.length := by
  induction l with
  | nil => rfl
  | cons v l ih => simp only [bl, List.flatMap_cons, List.length_append, bitsN_len, List.length_cons] at *; omega
/-- Whole bytes out of bits. -/
def packs : Nat → List Bool → List Int
  | 0, _ => []
  | n + 1, bs => (valB (bs.take 8) : Int) :: packs n (bs.drop 8)
def pack (bs : List Bool) : List Int := packs (bs.length / 8) bs
def BOk (l : List Int) : Prop := ∀ v ∈ l, 0 ≤ v ∧ v < 256
theorem packs_len : ∀ (n : Nat) (bs : List Bool), (packs n bs).length = n
  | 0, _ => rfl
  | n + 1, bs => by simp [packs, packs_len n]
theorem packs_ok : ∀ (n : Nat) (bs : List Bool), BOk (packs n bs)
  | 0, _ => by simp [packs, BOk]
  | n + 1, bs => by
    intro v hv
    simp only [packs, List.mem_cons] at hv
    rcases hv with rfl | hv
    · have h1 := valB_lt (bs.take 8)
      have h2 : 2 ^ (bs.take 8).length ≤ 2 ^ 8 := Nat.pow_le_pow_right (by omega) (by simp; omega)
      omega
    · exact packs_ok n _ v hv
theorem bl_packs : ∀ (n : Nat) (bs : List Bool), bs.length = 8 * n → bl (packs n bs) = bs
  | 0, bs, h => by have : bs = [] := List.length_eq_zero_iff.1 (by omega); subst this; rfl
  | n + 1, bs, h => by
    simp only [packs, bl, List.flatMap_cons]
    have h1 := bl_packs n (bs.drop 8) (by simp; omega)
    simp only [bl] at h1
    rw [h1]
    have h2 : (bs.take 8).length = 8 := by simp; omega
    have h3 := bitsN_valB (bs.take 8)
    rw [h2] at h3
    simp only [Int.toNat_natCast, h3, List.take_append_drop]
theorem packs_bl : ∀ (l : List Int), BOk l → packs l.length (bl l) = l
  | [], _ => rfl
  | v :: l, h => by
    have hv := h v (by simp)
    have h1 : ((bl (v :: l)).take 8) = bitsN 8 v.toNat := by
      simp only [bl, List.flatMap_cons]; rw [List.take_append_of_le_length (by rw [bitsN_len]; omega), List.take_of_length_le (by rw [bitsN_len]; omega)]
    have h2 : ((bl (v :: l)).drop 8) = bl l := by
      simp only [bl, List.flatMap_cons]; rw [List.drop_append_of_le_length (by rw [bitsN_len]; omega), List.drop_of_length_le (by rw [bitsN_len]; omega)]; rfl
    simp only [List.length_cons, packs, h1, h2, packs_bl l (fun u hu => h u (by simp [hu]))]
    rw [valB_bitsN 8 _ (by omega)]
    simp; omega
theorem bl_inj {l m : List Int} (hl : BOk l) (hm : BOk m) (h : bl l = bl m) : l = m := by
  have h1 : l.length = m.length := by have := congrArg List.length h; rw [bl_len, bl_len] at this; omega
  rw [← packs_bl l hl, ← packs_bl m hm, h1, h]

/-! ### Codes -/
def five : List Nat := [45, 47, 48, 49, 50, 51, 97, 99, 101, 105, 110, 111, 114, 115, 116, 117]
def six : List Nat := [46, 52, 53, 54, 55, 56, 57, 58, 98, 100, 102, 103, 104, 108, 109, 112]
def seven : List Nat := [65, 66, 67, 68, 69, 70, 71, 72, 106, 107, 113, 118, 119, 120, 121, 122]
def cls (c : Nat) : Nat := if five.contains c then 5 else if six.contains c then 6 else if seven.contains c then 7 else 11
def cnt (m c : Nat) : Nat := ((List.range c).filter fun x => cls x == m).length
def base (m : Nat) : Nat := if m = 5 then 0 else if m = 6 then 32 else if m = 7 then 96 else 1792
def codeOf (c : Nat) : Nat := base (cls c) + cnt (cls c) c
theorem cnt_zero (m : Nat) : cnt m 0 = 0 := rfl
theorem cnt_succ (m c : Nat) : cnt m (c + 1) = cnt m c + (if cls c = m then 1 else 0) := by
  simp only [cnt, List.range_succ, List.filter_append, List.length_append]
  by_cases h : cls c = m <;> simp [h]
def tab : List (Nat × Nat) := (List.range 256).map fun c => (codeOf c, cls c)
def find (code many : Nat) : Option Nat := (List.range 256).find? fun c => codeOf c == code && cls c == many
theorem cnt_le (m c : Nat) : cnt m c ≤ c := by
  have := List.length_filter_le (fun x => cls x == m) (List.range c)
  simpa [cnt] using this
theorem cnt_mono (m : Nat) {c d : Nat} (h : c ≤ d) : cnt m c ≤ cnt m d := by
  induction d with
  | zero => have : c = 0 := by omega
            subst this; exact Nat.le_refl _
  | succ d ih =>
    rcases Nat.lt_or_ge d c with h1 | h1
    · have : c = d + 1 := by omega
      subst this; exact Nat.le_refl _
    · rw [cnt_succ]; have := ih h1; omega
theorem cnt_lt {m c d : Nat} (hc : cls c = m) (h : c < d) : cnt m c < cnt m d := by
  have h1 : cnt m (c + 1) ≤ cnt m d := cnt_mono m h
  rw [cnt_succ, if_pos hc] at h1
  omega
theorem cls_cases (c : Nat) : cls c = 5 ∨ cls c = 6 ∨ cls c = 7 ∨ cls c = 11 := by
  unfold cls
  split
  · exact .inl rfl
  · split
    · exact .inr (.inl rfl)
    · split
      · exact .inr (.inr (.inl rfl))
      · exact .inr (.inr (.inr rfl))
theorem all5 : cnt 5 256 = 16 := by decide +kernel
theorem all6 : cnt 6 256 = 16 := by decide +kernel
theorem all7 : cnt 7 256 = 16 := by decide +kernel
theorem all11 : cnt 11 256 = 208 := by decide +kernel
/-- Where the codes of each length lie. -/
theorem code_bd {c : Nat} (h : c < 256) : (cls c = 5 ∧ codeOf c < 16) ∨ (cls c = 6 ∧ 32 ≤ codeOf c ∧ codeOf c < 48) ∨ (cls c = 7 ∧ 96 ≤ codeOf c ∧ codeOf c < 112) ∨ (cls c = 11 ∧ 1792 ≤ codeOf c ∧ codeOf c < 2000) := by
  rcases cls_cases c with e | e | e | e
  · have := cnt_lt e h; rw [all5] at this; exact .inl ⟨e, by simp only [codeOf, e, base]; simp; omega⟩
  · have := cnt_lt e h; rw [all6] at this; exact .inr (.inl ⟨e, by simp only [codeOf, e, base]; simp; omega⟩)
  · have := cnt_lt e h; rw [all7] at this; exact .inr (.inr (.inl ⟨e, by simp only [codeOf, e, base]; simp; omega⟩))
  · have := cnt_lt e h; rw [all11] at this; exact .inr (.inr (.inr ⟨e, by simp only [codeOf, e, base]; simp; omega⟩))
theorem code_lt {c : Nat} (h : c < 256) : codeOf c < 2 ^ cls c := by
  rcases code_bd h with ⟨e, b⟩ | ⟨e, b⟩ | ⟨e, b⟩ | ⟨e, b⟩ <;> rw [e] <;> omega
theorem code_inj {c d : Nat} (h1 : cls c = cls d) (h2 : codeOf c = codeOf d) : c = d := by
  simp only [codeOf, h1] at h2
  rcases Nat.lt_trichotomy c d with h | h | h
  · have := cnt_lt (m := cls d) h1 h; omega
  · exact h
  · have := cnt_lt (m := cls d) rfl h; omega
/-- No code begins another one. -/
theorem code_apart {c d : Nat} (hc : c < 256) (hd : d < 256) (hm : cls c ≤ cls d) (h : codeOf d / 2 ^ (cls d - cls c) = codeOf c) : c = d := by
  rcases code_bd hc with ⟨e, b⟩ | ⟨e, b⟩ | ⟨e, b⟩ | ⟨e, b⟩ <;> rcases code_bd hd with ⟨e', b'⟩ | ⟨e', b'⟩ | ⟨e', b'⟩ | ⟨e', b'⟩ <;> rw [e, e'] at h <;> simp at h <;>
    first | exact code_inj (e.trans e'.symm) h.symm | (rw [e, e'] at hm; omega) | omega
theorem find_some {code many c : Nat} (h : find code many = some c) : c < 256 ∧ codeOf c = code ∧ cls c = many := by
  have h1 := List.find?_some h
  have h2 := List.mem_of_find?_eq_some h
  simp only [Bool.and_eq_true, beq_iff_eq] at h1
  exact ⟨by simpa using h2, h1.1, h1.2⟩
theorem find_code {c : Nat} (h : c < 256) : find (codeOf c) (cls c) = some c := by
  cases hf : find (codeOf c) (cls c) with
  | none =>
    have := List.find?_eq_none.1 hf c (by simpa using h)
    simp at this
  | some d =>
    obtain ⟨_, h1, h2⟩ := find_some hf
    rw [code_inj h2 h1]
theorem find_none {code many : Nat} (h : ∀ c, c < 256 → cls c = many → codeOf c ≠ code) : find code many = none := by
  cases hf : find code many with
  | none => rfl
  | some d => obtain ⟨a, b, c⟩ := find_some hf; exact absurd b (h d a c)

/-! ### Texts in bits -/
def cod (c : Nat) : List Bool := bitsN (cls c) (codeOf c)
def enc (b : List Int) : List Bool := b.flatMap fun v => cod v.toNat
/-- The byte whose code stands ahead, and how many bits it has. -/
def at1 (bs : List Bool) (m : Nat) : Option Nat := if m ≤ bs.length then find (valB (bs.take m)) m else none
def sym (bs : List Bool) : Option (Nat × Nat) :=
  match at1 bs 5 with
  | some c => some (c, 5)
  | none => match at1 bs 6 with
    | some c => some (c, 6)
    | none => match at1 bs 7 with
      | some c => some (c, 7)
      | none => match at1 bs 11 with
        | some c => some (c, 11)
        | none => none
theorem at1_some {bs : List Bool} {m c : Nat} (h : at1 bs m = some c) : c < 256 ∧ cls c = m ∧ m ≤ bs.length ∧ bs = cod c ++ bs.drop m := by
  unfold at1 at h
  split at h
  · rename_i hm
    obtain ⟨h1, h2, h3⟩ := find_some h
    refine ⟨h1, h3, hm, ?_⟩
    have h4 := bitsN_valB (bs.take m)
    rw [List.length_take, Nat.min_eq_left hm, ← h2] at h4
    have : cod c = bs.take m := by rw [cod, h3]; exact h4
    rw [this, List.take_append_drop]
  · cases h
theorem sym_some {bs : List Bool} {c m : Nat} (h : sym bs = some (c, m)) : c < 256 ∧ cls c = m ∧ m ≤ bs.length ∧ 5 ≤ m ∧ bs = cod c ++ bs.drop m := by
  unfold sym at h
  repeat' (split at h)
  all_goals first | (cases h; done) | skip
  all_goals (rename_i h1; cases h; obtain ⟨a, b, c, d⟩ := at1_some h1; exact ⟨a, b, c, by omega, d⟩)
/-- Texts taken out of bits. -/
def dec (bs : List Bool) : List Int × List Bool :=
  match h : sym bs with
  | some (c, m) => let r := dec (bs.drop m); ((c : Int) :: r.1, r.2)
  | none => ([], bs)
termination_by bs.length
decreasing_by
  obtain ⟨_, _, h1, h2, _⟩ := sym_some h
  simp only [List.length_drop]; omega
theorem dec_some {bs : List Bool} {c m : Nat} (h : sym bs = some (c, m)) : dec bs = ((c : Int) :: (dec (bs.drop m)).1, (dec (bs.drop m)).2) := by
  rw [dec]; split
  · rename_i c' m' h'; rw [h] at h'; cases h'; rfl
  · rename_i h'; rw [h] at h'; cases h'
theorem dec_none {bs : List Bool} (h : sym bs = none) : dec bs = ([], bs) := by
  rw [dec]; split
  · rename_i c' m' h'; rw [h] at h'; cases h'
  · rfl
/-- What is taken has just those bits. -/
theorem dec_enc (bs : List Bool) : bs = enc (dec bs).1 ++ (dec bs).2 ∧ BOk (dec bs).1 ∧ sym (dec bs).2 = none := by
  generalize hn : bs.length = n
  induction n using Nat.strongRecOn generalizing bs with
  | ind n ih =>
    cases h : sym bs with
    | none => rw [dec_none h]; exact ⟨rfl, by simp [BOk], h⟩
    | some p =>
      obtain ⟨c, m⟩ := p
      obtain ⟨h1, h2, h3, h4, h5⟩ := sym_some h
      rw [dec_some h]
      obtain ⟨g1, g2, g3⟩ := ih (bs.drop m).length (by simp; omega) (bs.drop m) rfl
      refine ⟨?_, ?_, g3⟩
      · simp only [enc, List.flatMap_cons, Int.toNat_natCast, List.append_assoc]
        simp only [enc] at g1
        rw [← g1]; exact h5
      · intro v hv
        simp only [List.mem_cons] at hv
        rcases hv with rfl | hv
        · omega
        · exact g2 v hv
theorem valB_take {m n k : Nat} (h : n < 2 ^ m) (hk : k ≤ m) : valB ((bitsN m n).take k) = n / 2 ^ (m - k) := by
  have h1 : bitsN m n = (bitsN m n).take k ++ (bitsN m n).drop k := (List.take_append_drop _ _).symm
  have h2 := congrArg valB h1
  rw [valB_bitsN m n h, valB_append] at h2
  have h3 := valB_lt ((bitsN m n).drop k)
  rw [List.length_drop, bitsN_len] at h2 h3
  generalize valB ((bitsN m n).take k) = A at h2 ⊢
  generalize valB ((bitsN m n).drop k) = B at h2 h3
  rw [h2, Nat.mul_comm, Nat.mul_add_div (Nat.two_pow_pos _), Nat.div_eq_of_lt h3, Nat.add_zero]
theorem at1_cod {c m : Nat} (hc : c < 256) (hm : m ≤ cls c) (t : List Bool) : at1 (cod c ++ t) m = if m = cls c then some c else none := by
  unfold at1
  rw [if_pos (by simp [cod, bitsN_len]; omega), List.take_append_of_le_length (by simp [cod, bitsN_len]; omega)]
  have hv := valB_take (code_lt hc) hm
  unfold cod
  rw [hv]
  split
  · rename_i h; subst h; simp [find_code hc]
  · rename_i h
    refine find_none fun d hd hdm e => ?_
    have := code_apart hd hc (by omega) (by rw [hdm]; exact e.symm)
    subst this; omega
theorem sym_cod {c : Nat} (hc : c < 256) (t : List Bool) : sym (cod c ++ t) = some (c, cls c) := by
  have h5 := fun h : 5 ≤ cls c => at1_cod hc h t
  have h6 := fun h : 6 ≤ cls c => at1_cod hc h t
  have h7 := fun h : 7 ≤ cls c => at1_cod hc h t
  have h11 := fun h : 11 ≤ cls c => at1_cod hc h t
  unfold sym
  rcases cls_cases c with e | e | e | e
  · rw [h5 (by omega), e]; simp
  · rw [h5 (by omega), h6 (by omega), e]; simp
  · rw [h5 (by omega), h6 (by omega), h7 (by omega), e]; simp
  · rw [h5 (by omega), h6 (by omega), h7 (by omega), h11 (by omega), e]; simp
theorem dec_of_enc : ∀ (b : List Int) (t : List Bool), BOk b → sym t = none → dec (enc b ++ t) = (b, t)
  | [], t, _, h => by simpa [enc] using dec_none h
  | v :: b, t, hb, h => by
    have hv := hb v (by simp)
    have e : enc (v :: b) ++ t = cod v.toNat ++ (enc b ++ t) := by simp [enc]
    have hd : (cod v.toNat ++ (enc b ++ t)).drop (cls v.toNat) = enc b ++ t := by
      rw [List.drop_append_of_le_length (by simp [cod, bitsN_len]), List.drop_of_length_le (by simp [cod, bitsN_len])]; rfl
    rw [e, dec_some (sym_cod (by omega) _), hd, dec_of_enc b t (fun u hu => hb u (by simp [hu])) h]
    simp; omega
theorem ones_at {k m : Nat} (hm : m = 5 ∨ m = 6 ∨ m = 7 ∨ m = 11) : at1 (List.replicate k true) m = none := by
  unfold at1
  split
  · rename_i h
    rw [List.length_replicate] at h
    rw [List.take_replicate, Nat.min_eq_left h, valB_ones]
    refine find_none fun d hd hdm e => ?_
    rcases code_bd hd with ⟨e', b⟩ | ⟨e', b⟩ | ⟨e', b⟩ | ⟨e', b⟩ <;> rw [e'] at hdm <;> subst hdm <;> omega
  · rfl
theorem sym_ones (k : Nat) : sym (List.replicate k true) = none := by
  unfold sym
  rw [ones_at (.inl rfl), ones_at (.inr (.inl rfl)), ones_at (.inr (.inr (.inl rfl))), ones_at (.inr (.inr (.inr rfl)))]

/-! ### Put and Take -/
def pad (n : Nat) : Nat := (8 - n % 8) % 8
def padded (bs : List Bool) : List Bool := bs ++ List.replicate (pad bs.length) true
def put (b : List Int) : List Int := pack (padded (enc b))
def nbits (b : List Int) : Nat := (enc b).length
def take (d : List Int) : Option (List Int) :=
  let r := dec (bl d)
  if r.2.length ≤ 7 ∧ r.2 = List.replicate r.2.length true then some r.1 else none
theorem padded_len (bs : List Bool) : (padded bs).length = 8 * ((bs.length + 7) / 8) := by
  simp only [padded, List.length_append, List.length_replicate, pad]; omega
theorem bl_put (b : List Int) : bl (put b) = padded (enc b) := by
  unfold put pack
  exact bl_packs _ _ (by rw [padded_len]; omega)
theorem put_len (b : List Int) : (put b).length = (nbits b + 7) / 8 := by
  unfold put pack; rw [packs_len, padded_len]; unfold nbits; omega
theorem put_ok (b : List Int) : BOk (put b) := packs_ok _ _
theorem dec_put (b : List Int) (hb : BOk b) (k : Nat) : dec (enc b ++ List.replicate k true) = (b, List.replicate k true) := dec_of_enc b _ hb (sym_ones k)
theorem take_put (b : List Int) (hb : BOk b) : take (put b) = some b := by
  unfold take
  rw [bl_put, padded, dec_put b hb]
  simp only [List.length_replicate, and_true]
  rw [if_pos (by unfold pad; omega)]
theorem put_take {d o : List Int} (hd : BOk d) (h : take d = some o) : put o = d ∧ BOk o := by
  unfold take at h
  obtain ⟨h1, h2, _⟩ := dec_enc (bl d)
  simp only at h
  split at h
  · rename_i hr
    cases h
    refine ⟨bl_inj (put_ok _) hd ?_, h2⟩
    rw [bl_put, padded]
    have hl := congrArg List.length h1
    rw [bl_len, List.length_append] at hl
    have hp : pad (enc (dec (bl d)).1).length = (dec (bl d)).2.length := by unfold pad; omega
    rw [hp, ← hr.2]; exact h1.symm
  · cases h
/-- A whole byte of ones more. -/
theorem take_more (b : List Int) (hb : BOk b) : take (put b ++ [255]) = none := by
  unfold take
  have e : bl (put b ++ [255]) = enc b ++ List.replicate (pad (enc b).length + 8) true := by
    have : bl (put b ++ [255]) = bl (put b) ++ List.replicate 8 true := by
      simp only [bl, List.flatMap_append, List.flatMap_cons, List.flatMap_nil, List.append_nil]; rfl
    rw [this, bl_put, padded, List.append_assoc, List.replicate_append_replicate]
  rw [e, dec_put b hb]
  simp only [List.length_replicate, and_true]
  rw [if_neg (by omega)]
end Hu
