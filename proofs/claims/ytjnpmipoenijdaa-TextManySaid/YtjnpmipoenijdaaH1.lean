/- Huff, the plain law: bits, codes, texts in bits. No program in sight. No condition. -/
import Derived.Calls
import Derived.Test.YtjnpmipoenijdaaCzR
import Derived.Test.YtjnpmipoenijdaaE4
set_option linter.unusedSimpArgs false
set_option linter.unusedVariables false
namespace Hu

/-! ### Bits -/
def valB : List Bool → Nat := List.foldl (fun n b => 2 * n + b.toNat) 0
def bitsN : Nat → Nat → List Bool
  | 0, _ => []
  | m + 1, n => bitsN m (n / 2) ++ [n % 2 == 1]
theorem bitsN_len : ∀ (m n : Nat), (bitsN m n).length = m
  | 0, _ => rfl
  | m + 1, n => by simp [bitsN, bitsN_len m]
theorem fold_valB : ∀ (l : List Bool) (a : Nat), l.foldl (fun n b => 2 * n + b.toNat) a = a * 2 ^ l.length + valB l
  | [], a => by simp [valB]
  | b :: l, a => by
    simp only [List.foldl_cons, valB, List.length_cons]
    rw [fold_valB l, fold_valB l (2 * 0 + b.toNat), Nat.pow_succ]
    generalize 2 ^ l.length = q
    have : (2 * a + b.toNat) * q = a * (q * 2) + (2 * 0 + b.toNat) * q := by
      rw [Nat.add_mul, Nat.mul_zero, Nat.zero_add, Nat.mul_comm 2 a, Nat.mul_assoc, Nat.mul_comm 2 q]
    omega
theorem valB_nil : valB [] = 0 := rfl
theorem valB_cons (b : Bool) (l : List Bool) : valB (b :: l) = b.toNat * 2 ^ l.length + valB l := by
  have := fold_valB l (2 * 0 + b.toNat)
  simpa [valB] using this
theorem valB_append (l m : List Bool) : valB (l ++ m) = valB l * 2 ^ m.length + valB m := by
  simp only [valB, List.foldl_append]
  exact fold_valB m _
theorem valB_snoc (l : List Bool) (b : Bool) : valB (l ++ [b]) = 2 * valB l + b.toNat := by
  rw [valB_append]; simp [valB]; omega
theorem valB_lt : ∀ (l : List Bool), valB l < 2 ^ l.length
  | [] => by simp [valB]
  | b :: l => by
    rw [valB_cons, List.length_cons, Nat.pow_succ]
    have := valB_lt l
    cases b <;> simp only [Bool.toNat_true, Bool.toNat_false] <;> omega
theorem valB_bitsN : ∀ (m n : Nat), n < 2 ^ m → valB (bitsN m n) = n
  | 0, n, h => by simp at h; subst h; rfl
  | m + 1, n, h => by
    rw [Nat.pow_succ] at h
    rw [bitsN, valB_snoc, valB_bitsN m (n / 2) (by omega)]
    by_cases hb : n % 2 = 1
    · rw [hb]; simp only [beq_self_eq_true, Bool.toNat_true]; omega
    · rw [show (n % 2 == 1) = false by simpa using hb]; simp only [Bool.toNat_false]; omega
theorem bitsN_snoc (l : List Bool) (b : Bool) : bitsN (l.length + 1) (valB (l ++ [b])) = bitsN l.length (valB l) ++ [b] := by
  rw [bitsN, valB_snoc]
  have h1 : (2 * valB l + b.toNat) / 2 = valB l := by cases b <;> simp only [Bool.toNat_true, Bool.toNat_false] <;> omega
  have h2 : ((2 * valB l + b.toNat) % 2 == 1) = b := by cases b <;> simp <;> omega
  rw [h1, h2]
theorem bitsN_valB (l : List Bool) : bitsN l.length (valB l) = l := by
  suffices ∀ (r : List Bool), bitsN r.reverse.length (valB r.reverse) = r.reverse by simpa using this l.reverse
  intro r
  induction r with
  | nil => rfl
  | cons b r ih =>
    rw [List.reverse_cons, show (r.reverse ++ [b]).length = r.reverse.length + 1 by simp, bitsN_snoc, ih]
theorem valB_inj {l m : List Bool} (hl : l.length = m.length) (h : valB l = valB m) : l = m := by
  rw [← bitsN_valB l, ← bitsN_valB m, hl, h]
theorem valB_ones : ∀ k, valB (List.replicate k true) = 2 ^ k - 1
  | 0 => rfl
  | k + 1 => by
    rw [List.replicate_succ, valB_cons, valB_ones k, List.length_replicate, Nat.pow_succ]
    have := Nat.two_pow_pos k
    simp; omega

/-! ### Bytes -/
/-- The bits of bytes. -/
def bl (l : List Int) : List Bool := l.flatMap fun v => bitsN 8 v.toNat
theorem bl_len (l : List Int) : (bl l).length = 8 * l.length := by
  induction l with
  | nil => rfl
  | cons v l ih => simp only [bl, List.flatMap_cons, List.length_append, bitsN_len, List.length_cons] at *; omega
/-- Whole bytes out of bits. -/
def packs : Nat → List Bool → List Int
  | 0, _ => []
  | n + 1, bs => (valB (bs.take 8) : Int) :: packs n (bs.drop 8)
def pack (bs : List Bool) : List Int := packs (bs.length / 8) bs
def BOk (l : List Int) : Prop := ∀ v ∈ l, 0 ≤ v ∧ v < 256
theorem packs_len : ∀ (n : Nat) (bs : List Bool), (packs n bs).length = n
  | 0, _ => rfl
  | n + 1, bs => by simp [packs, packs_len n]
theorem packs_ok : ∀ (n : Nat) (bs : List Bool), BOk (packs n bs)
  | 0, _ => by simp [packs, BOk]
  | n + 1, bs => by
    intro v hv
    simp only [packs, List.mem_cons] at hv
    rcases hv with rfl | hv
    · have h1 := valB_lt (bs.take 8)
      have h2 : 2 ^ (bs.take 8).length ≤ 2 ^ 8 := Nat.pow_le_pow_right (by omega) (by simp; omega)
      omega
    · exact packs_ok n _ v hv
theorem bl_packs : ∀ (n : Nat) (bs : List Bool), bs.length = 8 * n → bl (packs n bs) = bs
  | 0, bs, h => by have : bs = [] := List.length_eq_zero_iff.1 (by omega); subst this; rfl
  | n + 1, bs, h => by
    simp only [packs, bl, List.flatMap_cons]
    have h1 := bl_packs n (bs.drop 8) (by simp; omega)
    simp only [bl] at h1
    rw [h1]
    have h2 : (bs.take 8).length = 8 := by simp; omega
    have h3 := bitsN_valB (bs.take 8)
    rw [h2] at h3
    simp only [Int.toNat_natCast, h3, List.take_append_drop]
theorem packs_bl : ∀ (l : List Int), BOk l → packs l.length (bl l) = l
  | [], _ => rfl
  | v :: l, h => by
    have hv := h v (by simp)
    have h1 : ((bl (v :: l)).take 8) = bitsN 8 v.toNat := by
      simp only [bl, List.flatMap_cons]; rw [List.take_append_of_le_length (by rw [bitsN_len]; omega), List.take_of_length_le (by rw [bitsN_len]; omega)]
    have h2 : ((bl (v :: l)).drop 8) = bl l := by
      simp only [bl, List.flatMap_cons]; rw [List.drop_append_of_le_length (by rw [bitsN_len]; omega), List.drop_of_length_le (by rw [bitsN_len]; omega)]; rfl
    simp only [List.length_cons, packs, h1, h2, packs_bl l (fun u hu => h u (by simp [hu]))]
    rw [valB_bitsN 8 _ (by omega)]
    simp; omega
theorem bl_inj {l m : List Int} (hl : BOk l) (hm : BOk m) (h : bl l = bl m) : l = m := by
  have h1 : l.length = m.length := by have := congrArg List.length h; rw [bl_len, bl_len] at this; omega
  rw [← packs_bl l hl, ← packs_bl m hm, h1, h]

/-! ### Codes -/
def five : List Nat := [45, 47, 48, 49, 50, 51, 97, 99, 101, 105, 110, 111, 114, 115, 116, 117]
def six : List Nat := [46, 52, 53, 54, 55, 56, 57, 58, 98, 100, 102, 103, 104, 108, 109, 112]
def seven : List Nat := [65, 66, 67, 68, 69, 70, 71, 72, 106, 107, 113, 118, 119, 120, 121, 122]
def cls (c : Nat) : Nat := if five.contains c then 5 else if six.contains c then 6 else if seven.contains c then 7 else 11
def cnt (m c : Nat) : Nat := ((List.range c).filter fun x => cls x == m).length
def base (m : Nat) : Nat := if m = 5 then 0 else if m = 6 then 32 else if m = 7 then 96 else 1792
def codeOf (c : Nat) : Nat := base (cls c) + cnt (cls c) c
theorem cnt_zero (m : Nat) : cnt m 0 = 0 := rfl
theorem cnt_succ (m c : Nat) : cnt m (c + 1) = cnt m c + (if cls c = m then 1 else 0) := by
  simp only [cnt, List.range_succ, List.filter_append, List.length_append]
  by_cases h : cls c = m <;> simp [h]
def tab : List (Nat × Nat) := (List.range 256).map fun c => (codeOf c, cls c)
def find (code many : Nat) : Option Nat := (List.range 256).find? fun c => codeOf c == code && cls c == many
theorem cnt_le (m c : Nat) : cnt m c ≤ c := by
  have := List.length_filter_le (fun x => cls x == m) (List.range c)
  simpa [cnt] using this
theorem cnt_mono (m : Nat) {c d : Nat} (h : c ≤ d) : cnt m c ≤ cnt m d := by
  induction d with
  | zero => have : c = 0 := by omega
            subst this; exact Nat.le_refl _
  | succ d ih =>
    rcases Nat.lt_or_ge d c with h1 | h1
    · have : c = d + 1 := by omega
      subst this; exact Nat.le_refl _
    · rw [cnt_succ]; have := ih h1; omega
theorem cnt_lt {m c d : Nat} (hc : cls c = m) (h : c < d) : cnt m c < cnt m d := by
  have h1 : cnt m (c + 1) ≤ cnt m d := cnt_mono m h
  rw [cnt_succ, if_pos hc] at h1
  omega
theorem cls_cases (c : Nat) : cls c = 5 ∨ cls c = 6 ∨ cls c = 7 ∨ cls c = 11 := by
  unfold cls
  split
  · exact .inl rfl
  · split
    · exact .inr (.inl rfl)
    · split
      · exact .inr (.inr (.inl rfl))
      · exact .inr (.inr (.inr rfl))
theorem all5 : cnt 5 256 = 16 := by decide +kernel
theorem all6 : cnt 6 256 = 16 := by decide +kernel
theorem all7 : cnt 7 256 = 16 := by decide +kernel
theorem all11 : cnt 11 256 = 208 := by decide +kernel
/-- Where the codes of each length lie. -/
theorem code_bd {c : Nat} (h : c < 256) : (cls c = 5 ∧ codeOf c < 16) ∨ (cls c = 6 ∧ 32 ≤ codeOf c ∧ codeOf c < 48) ∨ (cls c = 7 ∧ 96 ≤ codeOf c ∧ codeOf c < 112) ∨ (cls c = 11 ∧ 1792 ≤ codeOf c ∧ codeOf c < 2000) := by
  rcases cls_cases c with e | e | e | e
  · have := cnt_lt e h; rw [all5] at this; exact .inl ⟨e, by simp only [codeOf, e, base]; simp; omega⟩
  · have := cnt_lt e h; rw [all6] at this; exact .inr (.inl ⟨e, by simp only [codeOf, e, base]; simp; omega⟩)
  · have := cnt_lt e h; rw [all7] at this; exact .inr (.inr (.inl ⟨e, by simp only [codeOf, e, base]; simp; omega⟩))
  · have := cnt_lt e h; rw [all11] at this; exact .inr (.inr (.inr ⟨e, by simp only [codeOf, e, base]; simp; omega⟩))
theorem code_lt {c : Nat} (h : c < 256) : codeOf c < 2 ^ cls c := by
  rcases code_bd h with ⟨e, b⟩ | ⟨e, b⟩ | ⟨e, b⟩ | ⟨e, b⟩ <;> rw [e] <;> omega
theorem code_inj {c d : Nat} (h1 : cls c = cls d) (h2 : codeOf c = codeOf d) : c = d := by
  simp only [codeOf, h1] at h2
  rcases Nat.lt_trichotomy c d with h | h | h
  · have := cnt_lt (m := cls d) h1 h; omega
  · exact h
  · have := cnt_lt (m := cls d) rfl h; omega
/-- No code begins another one. -/
theorem code_apart {c d : Nat} (hc : c < 256) (hd : d < 256) (hm : cls c ≤ cls d) (h : codeOf d / 2 ^ (cls d - cls c) = codeOf c) : c = d := by
  rcases code_bd hc with ⟨e, b⟩ | ⟨e, b⟩ | ⟨e, b⟩ | ⟨e, b⟩ <;> rcases code_bd hd with ⟨e', b'⟩ | ⟨e', b'⟩ | ⟨e', b'⟩ | ⟨e', b'⟩ <;> rw [e, e'] at h <;> simp at h <;>
    first | exact code_inj (e.trans e'.symm) h.symm | (rw [e, e'] at hm; omega) | omega
theorem find_some {code many c : Nat} (h : find code many = some c) : c < 256 ∧ codeOf c = code ∧ cls c = many := by
  have h1 := List.find?_some h
  have h2 := List.mem_of_find?_eq_some h
  simp only [Bool.and_eq_true, beq_iff_eq] at h1
  exact ⟨by simpa using h2, h1.1, h1.2⟩
theorem find_code {c : Nat} (h : c < 256) : find (codeOf c) (cls c) = some c := by
  cases hf : find (codeOf c) (cls c) with
  | none =>
    have := List.find?_eq_none.1 hf c (by simpa using h)
    simp at this
  | some d =>
    obtain ⟨_, h1, h2⟩ := find_some hf
    rw [code_inj h2 h1]
theorem find_none {code many : Nat} (h : ∀ c, c < 256 → cls c = many → codeOf c ≠ code) : find code many = none := by
  cases hf : find code many with
  | none => rfl
  | some d => obtain ⟨a, b, c⟩ := find_some hf; exact absurd b (h d a c)

/-! ### Texts in bits -/
def cod (c : Nat) : List Bool := bitsN (cls c) (codeOf c)
def enc (b : List Int) : List Bool := b.flatMap fun v => cod v.toNat
/-- The byte whose code stands ahead, and how many bits it has. -/
def at1 (bs : List Bool) (m : Nat) : Option Nat := if m ≤ bs.length then find (valB (bs.take m)) m else none
def sym (bs : List Bool) : Option (Nat × Nat) :=
  match at1 bs 5 with
  | some c => some (c, 5)
  | none => match at1 bs 6 with
    | some c => some (c, 6)
    | none => match at1 bs 7 with
      | some c => some (c, 7)
      | none => match at1 bs 11 with
        | some c => some (c, 11)
        | none => none
theorem at1_some {bs : List Bool} {m c : Nat} (h : at1 bs m = some c) : c < 256 ∧ cls c = m ∧ m ≤ bs.length ∧ bs = cod c ++ bs.drop m := by
  unfold at1 at h
  split at h
  · rename_i hm
    obtain ⟨h1, h2, h3⟩ := find_some h
    refine ⟨h1, h3, hm, ?_⟩
    have h4 := bitsN_valB (bs.take m)
    rw [List.length_take, Nat.min_eq_left hm, ← h2] at h4
    have : cod c = bs.take m := by rw [cod, h3]; exact h4
    rw [this, List.take_append_drop]
  · cases h
theorem sym_some {bs : List Bool} {c m : Nat} (h : sym bs = some (c, m)) : c < 256 ∧ cls c = m ∧ m ≤ bs.length ∧ 5 ≤ m ∧ bs = cod c ++ bs.drop m := by
  unfold sym at h
  repeat' (split at h)
  all_goals first | (cases h; done) | skip
  all_goals (rename_i h1; cases h; obtain ⟨a, b, c, d⟩ := at1_some h1; exact ⟨a, b, c, by omega, d⟩)
/-- Texts taken out of bits. -/
def dec (bs : List Bool) : List Int × List Bool :=
  match h : sym bs with
  | some (c, m) => let r := dec (bs.drop m); ((c : Int) :: r.1, r.2)
  | none => ([], bs)
termination_by bs.length
decreasing_by
  obtain ⟨_, _, h1, h2, _⟩ := sym_some h
  simp only [List.length_drop]; omega
theorem dec_some {bs : List Bool} {c m : Nat} (h : sym bs = some (c, m)) : dec bs = ((c : Int) :: (dec (bs.drop m)).1, (dec (bs.drop m)).2) := by
  rw [dec]; split
  · rename_i c' m' h'; rw [h] at h'; cases h'; rfl
  · rename_i h'; rw [h] at h'; cases h'
theorem dec_none {bs : List Bool} (h : sym bs = none) : dec bs = ([], bs) := by
  rw [dec]; split
  · rename_i c' m' h'; rw [h] at h'; cases h'
  · rfl
/-- What is taken has just those bits. -/
theorem dec_enc (bs : List Bool) : bs = enc (dec bs).1 ++ (dec bs).2 ∧ BOk (dec bs).1 ∧ sym (dec bs).2 = none := by
  generalize hn : bs.length = n
  induction n using Nat.strongRecOn generalizing bs with
  | ind n ih =>
    cases h : sym bs with
    | none => rw [dec_none h]; exact ⟨rfl, by simp [BOk], h⟩
    | some p =>
      obtain ⟨c, m⟩ := p
      obtain ⟨h1, h2, h3, h4, h5⟩ := sym_some h
      rw [dec_some h]
      obtain ⟨g1, g2, g3⟩ := ih (bs.drop m).length (by simp; omega) (bs.drop m) rfl
      refine ⟨?_, ?_, g3⟩
      · simp only [enc, List.flatMap_cons, Int.toNat_natCast, List.append_assoc]
        simp only [enc] at g1
        rw [← g1]; exact h5
      · intro v hv
        simp only [List.mem_cons] at hv
        rcases hv with rfl | hv
        · omega
        · exact g2 v hv
theorem valB_take {m n k : Nat} (h : n < 2 ^ m) (hk : k ≤ m) : valB ((bitsN m n).take k) = n / 2 ^ (m - k) := by
  have h1 : bitsN m n = (bitsN m n).take k ++ (bitsN m n).drop k := (List.take_append_drop _ _).symm
  have h2 := congrArg valB h1
  rw [valB_bitsN m n h, valB_append] at h2
  have h3 := valB_lt ((bitsN m n).drop k)
  rw [List.length_drop, bitsN_len] at h2 h3
  generalize valB ((bitsN m n).take k) = A at h2 ⊢
  generalize valB ((bitsN m n).drop k) = B at h2 h3
  rw [h2, Nat.mul_comm, Nat.mul_add_div (Nat.two_pow_pos _), Nat.div_eq_of_lt h3, Nat.add_zero]
theorem at1_cod {c m : Nat} (hc : c < 256) (hm : m ≤ cls c) (t : List Bool) : at1 (cod c ++ t) m = if m = cls c then some c else none := by
  unfold at1
  rw [if_pos (by simp [cod, bitsN_len]; omega), List.take_append_of_le_length (by simp [cod, bitsN_len]; omega)]
  have hv := valB_take (code_lt hc) hm
  unfold cod
  rw [hv]
  split
  · rename_i h; subst h; simp [find_code hc]
  · rename_i h
    refine find_none fun d hd hdm e => ?_
    have := code_apart hd hc (by omega) (by rw [hdm]; exact e.symm)
    subst this; omega
theorem sym_cod {c : Nat} (hc : c < 256) (t : List Bool) : sym (cod c ++ t) = some (c, cls c) := by
  have h5 := fun h : 5 ≤ cls c => at1_cod hc h t
  have h6 := fun h : 6 ≤ cls c => at1_cod hc h t
  have h7 := fun h : 7 ≤ cls c => at1_cod hc h t
  have h11 := fun h : 11 ≤ cls c => at1_cod hc h t
  unfold sym
  rcases cls_cases c with e | e | e | e
  · rw [h5 (by omega), e]; simp
  · rw [h5 (by omega), h6 (by omega), e]; simp
  · rw [h5 (by omega), h6 (by omega), h7 (by omega), e]; simp
  · rw [h5 (by omega), h6 (by omega), h7 (by omega), h11 (by omega), e]; simp
theorem dec_of_enc : ∀ (b : List Int) (t : List Bool), BOk b → sym t = none → dec (enc b ++ t) = (b, t)
  | [], t, _, h => by simpa [enc] using dec_none h
  | v :: b, t, hb, h => by
    have hv := hb v (by simp)
    have e : enc (v :: b) ++ t = cod v.toNat ++ (enc b ++ t) := by simp [enc]
    have hd : (cod v.toNat ++ (enc b ++ t)).drop (cls v.toNat) = enc b ++ t := by
      rw [List.drop_append_of_le_length (by simp [cod, bitsN_len]), List.drop_of_length_le (by simp [cod, bitsN_len])]; rfl
    rw [e, dec_some (sym_cod (by omega) _), hd, dec_of_enc b t (fun u hu => hb u (by simp [hu])) h]
    simp; omega
theorem ones_at {k m : Nat} (hm : m = 5 ∨ m = 6 ∨ m = 7 ∨ m = 11) : at1 (List.replicate k true) m = none := by
  unfold at1
  split
  · rename_i h
    rw [List.length_replicate] at h
    rw [List.take_replicate, Nat.min_eq_left h, valB_ones]
    refine find_none fun d hd hdm e => ?_
    rcases code_bd hd with ⟨e', b⟩ | ⟨e', b⟩ | ⟨e', b⟩ | ⟨e', b⟩ <;> rw [e'] at hdm <;> subst hdm <;> omega
  · rfl
theorem sym_ones (k : Nat) : sym (List.replicate k true) = none := by
  unfold sym
  rw [ones_at (.inl rfl), ones_at (.inr (.inl rfl)), ones_at (.inr (.inr (.inl rfl))), ones_at (.inr (.inr (.inr rfl)))]

/-! ### Put and Take -/
def pad (n : Nat) : Nat := (8 - n % 8) % 8
def padded (bs : List Bool) : List Bool := bs ++ List.replicate (pad bs.length) true
def put (b : List Int) : List Int := pack (padded (enc b))
def nbits (b : List Int) : Nat := (enc b).length
def take (d : List Int) : Option (List Int) :=
  let r := dec (bl d)
  if r.2.length ≤ 7 ∧ r.2 = List.replicate r.2.length true then some r.1 else none
theorem padded_len (bs : List Bool) : (padded bs).length = 8 * ((bs.length + 7) / 8) := by
  simp only [padded, List.length_append, List.length_replicate, pad]; omega
theorem bl_put (b : List Int) : bl (put b) = padded (enc b) := by
  unfold put pack
  exact bl_packs _ _ (by rw [padded_len]; omega)
theorem put_len (b : List Int) : (put b).length = (nbits b + 7) / 8 := by
  unfold put pack; rw [packs_len, padded_len]; unfold nbits; omega
theorem put_ok (b : List Int) : BOk (put b) := packs_ok _ _
theorem dec_put (b : List Int) (hb : BOk b) (k : Nat) : dec (enc b ++ List.replicate k true) = (b, List.replicate k true) := dec_of_enc b _ hb (sym_ones k)
theorem take_put (b : List Int) (hb : BOk b) : take (put b) = some b := by
  unfold take
  rw [bl_put, padded, dec_put b hb]
  simp only [List.length_replicate, and_true]
  rw [if_pos (by unfold pad; omega)]
theorem put_take {d o : List Int} (hd : BOk d) (h : take d = some o) : put o = d ∧ BOk o := by
  unfold take at h
  obtain ⟨h1, h2, _⟩ := dec_enc (bl d)
  simp only at h
  split at h
  · rename_i hr
    cases h
    refine ⟨bl_inj (put_ok _) hd ?_, h2⟩
    rw [bl_put, padded]
    have hl := congrArg List.length h1
    rw [bl_len, List.length_append] at hl
    have hp : pad (enc (dec (bl d)).1).length = (dec (bl d)).2.length := by unfold pad; omega
    rw [hp, ← hr.2]; exact h1.symm
  · cases h
/-- A whole byte of ones more. -/
theorem take_more (b : List Int) (hb : BOk b) : take (put b ++ [255]) = none := by
  unfold take
  have e : bl (put b ++ [255]) = enc b ++ List.replicate (pad (enc b).length + 8) true := by
    have : bl (put b ++ [255]) = bl (put b) ++ List.replicate 8 true := by
      simp only [bl, List.flatMap_append, List.flatMap_cons, List.flatMap_nil, List.append_nil]; rfl
    rw [this, bl_put, padded, List.append_assoc, List.replicate_append_replicate]
  rw [e, dec_put b hb]
  simp only [List.length_replicate, and_true]
  rw [if_neg (by omega)]
end Hu
/- Huff, part A: bytes; where a byte stands in a text (the function without a body). -/
namespace Cz
open Go Go.RowKit Go.Proofs
set_option linter.unusedSimpArgs false
set_option linter.unusedVariables false
set_option maxRecDepth 100000
set_option maxHeartbeats 1000000

/-! ### Where a byte stands -/
def idxI (x : List UInt8) (c : Int) : Int := match (List.range x.length).find? (fun i => x.getD i 0 == c.toNat.toUInt8) with
  | some i => i
  | none => -1
def has (x : List UInt8) (c : Int) : Bool := x.any fun b => b == c.toNat.toUInt8
theorem idxI_has {x : List UInt8} {c : Int} (h : has x c = true) : 0 ≤ idxI x c := by
  unfold idxI
  split
  · omega
  · rename_i hn
    simp only [has, List.any_eq_true] at h
    obtain ⟨b, hb, e⟩ := h
    obtain ⟨i, hi⟩ := List.getElem?_of_mem hb
    have := List.find?_eq_none.1 hn i (by simp; exact (List.getElem?_eq_some_iff.1 hi).1)
    simp [List.getD_eq_getElem?_getD, hi] at this
    exact absurd (by simpa using e) this
theorem idxI_no {x : List UInt8} {c : Int} (h : has x c = false) : idxI x c < 0 := by
  unfold idxI
  split
  · rename_i i hi
    have h1 := List.find?_some hi
    have h2 := List.mem_of_find?_eq_some hi
    simp only [List.mem_range] at h2
    simp only [has, List.any_eq_false] at h
    have := h _ (List.getElem_mem h2)
    simp [List.getD_eq_getElem?_getD, List.getElem?_eq_getElem h2] at h1
    simp [h1] at this
  · omega
theorem idx_f (x : List UInt8) (c : Int) : (S0 Try.prog).call 71 [.s x, .i .u8 (.y c)] [] (fun y _ => Sub y (.i .i64 (.y (idxI x c)))) := by
  intro N W0 ρ W vals hR hd
  obtain ⟨l⟩ := vals
  match l, hd with
  | [u, v], hd =>
    simp only [denL, den, Z.v] at hd
    obtain ⟨rfl, rfl, _⟩ := hd
    have hrun : (callFunc 71 #[.string ⟨x.toArray⟩, .int .u8 c]).run Try.prog W = .ok (.value (.int .i64 (idxI x c))) W := by
      have h1 : (Try.f71.name == "runtime.NumGoroutine") = false := by decide +kernel
      have h2 : Try.f71.body.isNone = true := by kernel_rfl
      have h3 : Extern.findNext Try.f71 = none := by kernel_rfl
      have h4 : Extern.find Try.f71 = some Extern.BytealgIndexByte.indexByte := by kernel_rfl
      simp only [callFunc, Sem.run_bind, run_program, Result.andThen_ok, Try.func71, h1, h2, h3, h4, run_mark, Bool.false_eq_true, if_false, if_true]
      have hs : (ByteArray.mk x.toArray).size = x.length := by show x.toArray.size = _; simp
      have hb : ∀ i, i < x.length → (ByteArray.mk x.toArray)[i]! = x.getD i 0 := by
        intro i hi
        rw [getElem!_pos _ i (by rw [hs]; exact hi), List.getD_eq_getElem?_getD, List.getElem?_eq_getElem hi]
        rfl
      have hf : (List.range (ByteArray.mk x.toArray).size).find? (fun i => (ByteArray.mk x.toArray)[i]! == c.toNat.toUInt8) = (List.range x.length).find? (fun i => x.getD i 0 == c.toNat.toUInt8) := by
        rw [hs]
        have : ∀ (l : List Nat), (∀ i ∈ l, i < x.length) → l.find? (fun i => (ByteArray.mk x.toArray)[i]! == c.toNat.toUInt8) = l.find? (fun i => x.getD i 0 == c.toNat.toUInt8) := by
          intro l
          induction l with
          | nil => intro _; rfl
          | cons i l ih =>
            intro hl
            simp only [List.find?_cons, hb i (hl i (by simp))]
            rw [ih (fun j hj => hl j (by simp [hj]))]
        exact this _ (fun i hi => by simpa using hi)
      have hrun : (Extern.BytealgIndexByte.indexByte #[.string ⟨x.toArray⟩, .int .u8 c]).run Try.prog W = .ok (.int .i64 (idxI x c)) W := by
        show (match (List.range (ByteArray.mk x.toArray).size).find? (fun i => (ByteArray.mk x.toArray)[i]! == c.toNat.toUInt8) with
          | some i => (pure (goInt i) : Sem Value)
          | none => pure (goInt (-1))).run Try.prog W = _
        rw [hf]
        unfold idxI
        split <;> rfl
      rw [hrun]
      rfl
    rw [hrun]
    exact ⟨ρ, _, [], .rfl, Le.refl _ _, Nat.le_refl _, hR, by simp [den, Z.v]⟩
theorem index_f (x : List UInt8) (c : Int) : (S0 Try.prog).call 64 [.s x, .i .u8 (.y c)] [] (fun y _ => Sub y (.i .i64 (.y (idxI x c)))) := by
  generalize hT : idxI x c = T
  generalize hS : S0 Try.prog = S
  refine call_in' hS I.fn_strings_IndexByte ?_
  cbv
  refine call_in' hS I.fn_stringslite_IndexByte ?_
  cbv
  refine use_val hS (idx_f x c) .rfl rfl rfl ?_
  rw [hT]
  cbv
  exact .rfl
theorem index_u {S : Sy} (hS : S0 Try.prog = S) {l : List Blk} {K : SV → List Blk → Prop} {x : List UInt8} {c : Z} (h : ∀ r, idxI x c.v = r → K (.i .i64 (.y r)) l) : S.call 64 [.s x, .i .u8 c] l K :=
  use_val hS (index_f x c.v) (.cons .rfl (.cons (sub_i rfl) .nil)) rfl rfl (h _ rfl)

/-! ### Rows of bytes -/
def by1 (v : Int) : List SV := [.i .u8 (.y v)]
def cellsB (l : List Int) : List SV := l.flatMap by1
theorem cellsB_plain (l : List Int) : plains (cellsB l) = true := by
  induction l with
  | nil => rfl
  | cons v l ih => simpa [cellsB, by1, plains, plainV] using ih
theorem cellsB_map (l : List Int) : cellsB l = l.map fun v => .i .u8 (.y v) := by
  induction l with
  | nil => rfl
  | cons u l ih => simp only [cellsB, List.flatMap_cons, List.map_cons] at ih ⊢; rw [ih]; rfl
theorem cellsB_get {l : List Int} {q : Nat} {v : Int} (h : l[q]? = some v) : (cellsB l)[q]? = some (.i .u8 (.y v)) := by
  rw [cellsB_map, List.getElem?_map, h]; rfl
end Cz
/- Huff, part Z: arguments of bytes. -/
namespace Cz
open Go Go.RowKit Go.Proofs
set_option linter.unusedSimpArgs false
set_option linter.unusedVariables false
theorem u8b {n : Int} (h : lo .u8 ≤ n ∧ n ≤ Cz.hi .u8) : 0 ≤ n ∧ n < 256 := by
  simp only [lo, Cz.hi] at h
  omega
theorem pk1 {svs : List SV} (h : pkVs [.i .u8] svs) : ∃ v : Int, svs = by1 v ∧ (0 ≤ v ∧ v < 256) := by
  match svs, h with
  | [x], h =>
    simp only [pkVs, pkV] at h
    obtain ⟨⟨n, rfl, h1⟩, _⟩ := h
    exact ⟨n, rfl, u8b h1⟩
end Cz
/- Huff, part B: all bytes' codes. -/
namespace Cz
open Go Go.RowKit Go.Proofs
set_option linter.unusedSimpArgs false
set_option linter.unusedVariables false
set_option maxRecDepth 100000
set_option maxHeartbeats 4000000
def w5 : List UInt8 := [45, 47, 48, 49, 50, 51, 97, 99, 101, 105, 110, 111, 114, 115, 116, 117]
def w6 : List UInt8 := [46, 52, 53, 54, 55, 56, 57, 58, 98, 100, 102, 103, 104, 108, 109, 112]
def w7 : List UInt8 := [65, 66, 67, 68, 69, 70, 71, 72, 106, 107, 113, 118, 119, 120, 121, 122]
theorem has_all : (List.range 256).all (fun n => (has w5 n == (Hu.cls n == 5)) && ((has w6 n == (Hu.cls n == 6)) && (has w7 n == (Hu.cls n == 7)))) = true := by decide +kernel
theorem has_at {n : Nat} (h : n < 256) : has w5 n = (Hu.cls n == 5) ∧ has w6 n = (Hu.cls n == 6) ∧ has w7 n = (Hu.cls n == 7) := by
  have := List.all_eq_true.1 has_all n (by simpa using h)
  simpa using this
/-- Where a byte stands in the three texts. -/
theorem idx_at {c : Int} (h0 : 0 ≤ c) (h : c < 256) :
    (Hu.cls c.toNat = 5 ∧ 0 ≤ idxI w5 c ∧ idxI w6 c < 0 ∧ idxI w7 c < 0) ∨ (Hu.cls c.toNat = 6 ∧ idxI w5 c < 0 ∧ 0 ≤ idxI w6 c ∧ idxI w7 c < 0) ∨
    (Hu.cls c.toNat = 7 ∧ idxI w5 c < 0 ∧ idxI w6 c < 0 ∧ 0 ≤ idxI w7 c) ∨ (Hu.cls c.toNat = 11 ∧ idxI w5 c < 0 ∧ idxI w6 c < 0 ∧ idxI w7 c < 0) := by
  obtain ⟨n, rfl⟩ : ∃ n : Nat, c = n := ⟨c.toNat, by omega⟩
  obtain ⟨g5, g6, g7⟩ := has_at (n := n) (by omega)
  simp only [Int.toNat_natCast]
  rcases Hu.cls_cases n with e | e | e | e <;> rw [e] at g5 g6 g7
  · exact .inl ⟨e, idxI_has g5, idxI_no g6, idxI_no g7⟩
  · exact .inr (.inl ⟨e, idxI_no g5, idxI_has g6, idxI_no g7⟩)
  · exact .inr (.inr (.inl ⟨e, idxI_no g5, idxI_no g6, idxI_has g7⟩))
  · exact .inr (.inr (.inr ⟨e, idxI_no g5, idxI_no g6, idxI_no g7⟩))
section
variable {S : Sy} {l : List Blk} {K : SV → List Blk → Prop}
theorem index_p (hS : S0 Try.prog = S) {x : List UInt8} {c : Z} (hp : 0 ≤ idxI x c.v) (h : ∀ r, 0 ≤ r → K (.i .i64 (.y r)) l) : S.call 64 [.s x, .i .u8 c] l K :=
  index_u hS fun r hr => h r (by omega)
theorem index_n (hS : S0 Try.prog = S) {x : List UInt8} {c : Z} (hp : idxI x c.v < 0) (h : ∀ r, r < 0 → K (.i .i64 (.y r)) l) : S.call 64 [.s x, .i .u8 c] l K :=
  index_u hS fun r hr => h r (by omega)
end
theorem ite_ok {c : Prop} {inst : Decidable c} {A B : Prop} (hc : c) (h : A) : @ite Prop c inst A B := by rw [if_pos hc]; exact h

/-- The numbers of a byte's code, as cells. -/
def cellC (n : Nat) : List SV := [.i .i64 (.y (Hu.codeOf n)), .i .i64 (.y (Hu.cls n))]
def upto (c : Nat) : List SV := (List.range c).flatMap cellC ++ List.replicate (2 * (256 - c)) (.i .i64 (.l 0))
theorem cellC_len (n : Nat) : ((List.range n).flatMap cellC).length = 2 * n := by
  induction n with
  | zero => rfl
  | succ n ih => rw [List.range_succ, List.flatMap_append, List.length_append, ih]; simp [cellC]; omega
theorem upto_len {c : Nat} (h : c ≤ 256) : (upto c).length = 512 := by
  simp only [upto, List.length_append, cellC_len, List.length_replicate]; omega
theorem repl2 (A B : List SV) (x y u v : SV) : repl (A ++ x :: y :: B) A.length [u, v] = A ++ u :: v :: B := by
  simp only [repl, put_eq]
  rw [List.set_append_right _ _ (Nat.le_refl _), Nat.sub_self, List.set_cons_zero, List.set_append_right _ _ (by omega), show A.length + 1 - A.length = 1 by omega]
  rfl
theorem upto_next {c : Nat} (h : c < 256) : repl (upto c) (c * 2) (cellC c) = upto (c + 1) := by
  have e1 : 2 * (256 - c) = 2 * (256 - (c + 1)) + 1 + 1 := by omega
  have e2 : c * 2 = ((List.range c).flatMap cellC).length := by rw [cellC_len]; omega
  unfold upto
  rw [e1, List.replicate_succ, List.replicate_succ, e2]
  have := repl2 ((List.range c).flatMap cellC) (List.replicate (2 * (256 - (c + 1))) (.i .i64 (.l 0))) (.i .i64 (.l 0)) (.i .i64 (.l 0)) (.i .i64 (.y (Hu.codeOf c))) (.i .i64 (.y (Hu.cls c)))
  rw [List.range_succ, List.flatMap_append]
  simp only [List.flatMap_cons, List.flatMap_nil, List.append_nil, List.append_assoc]
  exact this
theorem repS_one (x : SV) : ∀ n, repS n [x] = List.replicate n x
  | 0 => rfl
  | n + 1 => by rw [repS, repS_one x n, List.replicate_succ]; rfl
theorem gc_row {F : List SV} {ok : Nat → Bool} (h : refsBL ok F = true) : (match (match F with | [] => true | x :: xs => refsB ok x && refsBL ok xs) with | false => false | true => true) = true := by
  cases F with
  | nil => rfl
  | cons x xs => simp only [refsBL] at h; simp only [h]
theorem plains_refs {ok : Nat → Bool} : ∀ {F : List SV}, plains F = true → refsBL ok F = true
  | [], _ => rfl
  | x :: xs, h => by
    simp only [plains, Bool.and_eq_true] at h
    simp only [refsBL, Bool.and_eq_true]
    exact ⟨plain_noref h.1, plains_refs h.2⟩
theorem upto_plain (c : Nat) : plains (upto c) = true := by
  have h1 : ∀ (xs ys : List SV), plains (xs ++ ys) = (plains xs && plains ys) := by
    intro xs ys
    induction xs with
    | nil => simp [plains]
    | cons x xs ih => simp [plains, ih, Bool.and_assoc]
  have h2 : ∀ n, plains (List.replicate n (SV.i .i64 (.l 0))) = true := by
    intro n
    induction n with
    | zero => rfl
    | succ n ih => rw [List.replicate_succ]; simpa [plains, plainV] using ih
  have h3 : ∀ (l : List Nat), plains (l.flatMap cellC) = true := by
    intro l
    induction l with
    | nil => rfl
    | cons n l ih => rw [List.flatMap_cons, h1, ih]; rfl
  rw [upto, h1, h2, h3]; rfl
def codeLit : List SV :=
  [.i .i64 (.y 1792), .i .i64 (.y 11), .i .i64 (.y 1793), .i .i64 (.y 11), .i .i64 (.y 1794), .i .i64 (.y 11), .i .i64 (.y 1795), .i .i64 (.y 11), .i .i64 (.y 1796), .i .i64 (.y 11), .i .i64 (.y 1797), .i .i64 (.y 11), .i .i64 (.y 1798), .i .i64 (.y 11), .i .i64 (.y 1799), .i .i64 (.y 11), .i .i64 (.y 1800), .i .i64 (.y 11), .i .i64 (.y 1801), .i .i64 (.y 11), .i .i64 (.y 1802), .i .i64 (.y 11), .i .i64 (.y 1803), .i .i64 (.y 11), .i .i64 (.y 1804), .i .i64 (.y 11), .i .i64 (.y 1805), .i .i64 (.y 11), .i .i64 (.y 1806), .i .i64 (.y 11), .i .i64 (.y 1807), .i .i64 (.y 11), .i .i64 (.y 1808), .i .i64 (.y 11), .i .i64 (.y 1809), .i .i64 (.y 11), .i .i64 (.y 1810), .i .i64 (.y 11), .i .i64 (.y 1811), .i .i64 (.y 11), .i .i64 (.y 1812), .i .i64 (.y 11), .i .i64 (.y 1813), .i .i64 (.y 11), .i .i64 (.y 1814), .i .i64 (.y 11), .i .i64 (.y 1815), .i .i64 (.y 11), .i .i64 (.y 1816), .i .i64 (.y 11), .i .i64 (.y 1817), .i .i64 (.y 11), .i .i64 (.y 1818), .i .i64 (.y 11), .i .i64 (.y 1819), .i .i64 (.y 11), .i .i64 (.y 1820), .i .i64 (.y 11), .i .i64 (.y 1821), .i .i64 (.y 11), .i .i64 (.y 1822), .i .i64 (.y 11), .i .i64 (.y 1823), .i .i64 (.y 11), .i .i64 (.y 1824), .i .i64 (.y 11), .i .i64 (.y 1825), .i .i64 (.y 11), .i .i64 (.y 1826), .i .i64 (.y 11), .i .i64 (.y 1827), .i .i64 (.y 11), .i .i64 (.y 1828), .i .i64 (.y 11), .i .i64 (.y 1829), .i .i64 (.y 11), .i .i64 (.y 1830), .i .i64 (.y 11), .i .i64 (.y 1831), .i .i64 (.y 11), .i .i64 (.y 1832), .i .i64 (.y 11), .i .i64 (.y 1833), .i .i64 (.y 11), .i .i64 (.y 1834), .i .i64 (.y 11), .i .i64 (.y 1835), .i .i64 (.y 11), .i .i64 (.y 1836), .i .i64 (.y 11), .i .i64 (.y 0), .i .i64 (.y 5), .i .i64 (.y 32), .i .i64 (.y 6), .i .i64 (.y 1), .i .i64 (.y 5), .i .i64 (.y 2), .i .i64 (.y 5), .i .i64 (.y 3), .i .i64 (.y 5), .i .i64 (.y 4), .i .i64 (.y 5), .i .i64 (.y 5), .i .i64 (.y 5), .i .i64 (.y 33), .i .i64 (.y 6), .i .i64 (.y 34), .i .i64 (.y 6), .i .i64 (.y 35), .i .i64 (.y 6), .i .i64 (.y 36), .i .i64 (.y 6), .i .i64 (.y 37), .i .i64 (.y 6), .i .i64 (.y 38), .i .i64 (.y 6), .i .i64 (.y 39), .i .i64 (.y 6), .i .i64 (.y 1837), .i .i64 (.y 11), .i .i64 (.y 1838), .i .i64 (.y 11), .i .i64 (.y 1839), .i .i64 (.y 11), .i .i64 (.y 1840), .i .i64 (.y 11), .i .i64 (.y 1841), .i .i64 (.y 11), .i .i64 (.y 1842), .i .i64 (.y 11), .i .i64 (.y 96), .i .i64 (.y 7), .i .i64 (.y 97), .i .i64 (.y 7), .i .i64 (.y 98), .i .i64 (.y 7), .i .i64 (.y 99), .i .i64 (.y 7), .i .i64 (.y 100), .i .i64 (.y 7), .i .i64 (.y 101), .i .i64 (.y 7), .i .i64 (.y 102), .i .i64 (.y 7), .i .i64 (.y 103), .i .i64 (.y 7), .i .i64 (.y 1843), .i .i64 (.y 11), .i .i64 (.y 1844), .i .i64 (.y 11), .i .i64 (.y 1845), .i .i64 (.y 11), .i .i64 (.y 1846), .i .i64 (.y 11), .i .i64 (.y 1847), .i .i64 (.y 11), .i .i64 (.y 1848), .i .i64 (.y 11), .i .i64 (.y 1849), .i .i64 (.y 11), .i .i64 (.y 1850), .i .i64 (.y 11), .i .i64 (.y 1851), .i .i64 (.y 11), .i .i64 (.y 1852), .i .i64 (.y 11), .i .i64 (.y 1853), .i .i64 (.y 11), .i .i64 (.y 1854), .i .i64 (.y 11), .i .i64 (.y 1855), .i .i64 (.y 11), .i .i64 (.y 1856), .i .i64 (.y 11), .i .i64 (.y 1857), .i .i64 (.y 11), .i .i64 (.y 1858), .i .i64 (.y 11), .i .i64 (.y 1859), .i .i64 (.y 11), .i .i64 (.y 1860), .i .i64 (.y 11), .i .i64 (.y 1861), .i .i64 (.y 11), .i .i64 (.y 1862), .i .i64 (.y 11), .i .i64 (.y 1863), .i .i64 (.y 11), .i .i64 (.y 1864), .i .i64 (.y 11), .i .i64 (.y 1865), .i .i64 (.y 11), .i .i64 (.y 1866), .i .i64 (.y 11), .i .i64 (.y 6), .i .i64 (.y 5), .i .i64 (.y 40), .i .i64 (.y 6), .i .i64 (.y 7), .i .i64 (.y 5), .i .i64 (.y 41), .i .i64 (.y 6), .i .i64 (.y 8), .i .i64 (.y 5), .i .i64 (.y 42), .i .i64 (.y 6), .i .i64 (.y 43), .i .i64 (.y 6), .i .i64 (.y 44), .i .i64 (.y 6), .i .i64 (.y 9), .i .i64 (.y 5), .i .i64 (.y 104), .i .i64 (.y 7), .i .i64 (.y 105), .i .i64 (.y 7), .i .i64 (.y 45), .i .i64 (.y 6), .i .i64 (.y 46), .i .i64 (.y 6), .i .i64 (.y 10), .i .i64 (.y 5), .i .i64 (.y 11), .i .i64 (.y 5), .i .i64 (.y 47), .i .i64 (.y 6), .i .i64 (.y 106), .i .i64 (.y 7), .i .i64 (.y 12), .i .i64 (.y 5), .i .i64 (.y 13), .i .i64 (.y 5), .i .i64 (.y 14), .i .i64 (.y 5), .i .i64 (.y 15), .i .i64 (.y 5), .i .i64 (.y 107), .i .i64 (.y 7), .i .i64 (.y 108), .i .i64 (.y 7), .i .i64 (.y 109), .i .i64 (.y 7), .i .i64 (.y 110), .i .i64 (.y 7), .i .i64 (.y 111), .i .i64 (.y 7), .i .i64 (.y 1867), .i .i64 (.y 11), .i .i64 (.y 1868), .i .i64 (.y 11), .i .i64 (.y 1869), .i .i64 (.y 11), .i .i64 (.y 1870), .i .i64 (.y 11), .i .i64 (.y 1871), .i .i64 (.y 11), .i .i64 (.y 1872), .i .i64 (.y 11), .i .i64 (.y 1873), .i .i64 (.y 11), .i .i64 (.y 1874), .i .i64 (.y 11), .i .i64 (.y 1875), .i .i64 (.y 11), .i .i64 (.y 1876), .i .i64 (.y 11), .i .i64 (.y 1877), .i .i64 (.y 11), .i .i64 (.y 1878), .i .i64 (.y 11), .i .i64 (.y 1879), .i .i64 (.y 11), .i .i64 (.y 1880), .i .i64 (.y 11), .i .i64 (.y 1881), .i .i64 (.y 11), .i .i64 (.y 1882), .i .i64 (.y 11), .i .i64 (.y 1883), .i .i64 (.y 11), .i .i64 (.y 1884), .i .i64 (.y 11), .i .i64 (.y 1885), .i .i64 (.y 11), .i .i64 (.y 1886), .i .i64 (.y 11), .i .i64 (.y 1887), .i .i64 (.y 11), .i .i64 (.y 1888), .i .i64 (.y 11), .i .i64 (.y 1889), .i .i64 (.y 11), .i .i64 (.y 1890), .i .i64 (.y 11), .i .i64 (.y 1891), .i .i64 (.y 11), .i .i64 (.y 1892), .i .i64 (.y 11), .i .i64 (.y 1893), .i .i64 (.y 11), .i .i64 (.y 1894), .i .i64 (.y 11), .i .i64 (.y 1895), .i .i64 (.y 11), .i .i64 (.y 1896), .i .i64 (.y 11), .i .i64 (.y 1897), .i .i64 (.y 11), .i .i64 (.y 1898), .i .i64 (.y 11), .i .i64 (.y 1899), .i .i64 (.y 11), .i .i64 (.y 1900), .i .i64 (.y 11), .i .i64 (.y 1901), .i .i64 (.y 11), .i .i64 (.y 1902), .i .i64 (.y 11), .i .i64 (.y 1903), .i .i64 (.y 11), .i .i64 (.y 1904), .i .i64 (.y 11), .i .i64 (.y 1905), .i .i64 (.y 11), .i .i64 (.y 1906), .i .i64 (.y 11), .i .i64 (.y 1907), .i .i64 (.y 11), .i .i64 (.y 1908), .i .i64 (.y 11), .i .i64 (.y 1909), .i .i64 (.y 11), .i .i64 (.y 1910), .i .i64 (.y 11), .i .i64 (.y 1911), .i .i64 (.y 11), .i .i64 (.y 1912), .i .i64 (.y 11), .i .i64 (.y 1913), .i .i64 (.y 11), .i .i64 (.y 1914), .i .i64 (.y 11), .i .i64 (.y 1915), .i .i64 (.y 11), .i .i64 (.y 1916), .i .i64 (.y 11), .i .i64 (.y 1917), .i .i64 (.y 11), .i .i64 (.y 1918), .i .i64 (.y 11), .i .i64 (.y 1919), .i .i64 (.y 11), .i .i64 (.y 1920), .i .i64 (.y 11), .i .i64 (.y 1921), .i .i64 (.y 11), .i .i64 (.y 1922), .i .i64 (.y 11), .i .i64 (.y 1923), .i .i64 (.y 11), .i .i64 (.y 1924), .i .i64 (.y 11), .i .i64 (.y 1925), .i .i64 (.y 11), .i .i64 (.y 1926), .i .i64 (.y 11), .i .i64 (.y 1927), .i .i64 (.y 11), .i .i64 (.y 1928), .i .i64 (.y 11), .i .i64 (.y 1929), .i .i64 (.y 11), .i .i64 (.y 1930), .i .i64 (.y 11), .i .i64 (.y 1931), .i .i64 (.y 11), .i .i64 (.y 1932), .i .i64 (.y 11), .i .i64 (.y 1933), .i .i64 (.y 11), .i .i64 (.y 1934), .i .i64 (.y 11), .i .i64 (.y 1935), .i .i64 (.y 11), .i .i64 (.y 1936), .i .i64 (.y 11), .i .i64 (.y 1937), .i .i64 (.y 11), .i .i64 (.y 1938), .i .i64 (.y 11), .i .i64 (.y 1939), .i .i64 (.y 11), .i .i64 (.y 1940), .i .i64 (.y 11), .i .i64 (.y 1941), .i .i64 (.y 11), .i .i64 (.y 1942), .i .i64 (.y 11), .i .i64 (.y 1943), .i .i64 (.y 11), .i .i64 (.y 1944), .i .i64 (.y 11), .i .i64 (.y 1945), .i .i64 (.y 11), .i .i64 (.y 1946), .i .i64 (.y 11), .i .i64 (.y 1947), .i .i64 (.y 11), .i .i64 (.y 1948), .i .i64 (.y 11), .i .i64 (.y 1949), .i .i64 (.y 11), .i .i64 (.y 1950), .i .i64 (.y 11), .i .i64 (.y 1951), .i .i64 (.y 11), .i .i64 (.y 1952), .i .i64 (.y 11), .i .i64 (.y 1953), .i .i64 (.y 11), .i .i64 (.y 1954), .i .i64 (.y 11), .i .i64 (.y 1955), .i .i64 (.y 11), .i .i64 (.y 1956), .i .i64 (.y 11), .i .i64 (.y 1957), .i .i64 (.y 11), .i .i64 (.y 1958), .i .i64 (.y 11), .i .i64 (.y 1959), .i .i64 (.y 11), .i .i64 (.y 1960), .i .i64 (.y 11), .i .i64 (.y 1961), .i .i64 (.y 11), .i .i64 (.y 1962), .i .i64 (.y 11), .i .i64 (.y 1963), .i .i64 (.y 11), .i .i64 (.y 1964), .i .i64 (.y 11), .i .i64 (.y 1965), .i .i64 (.y 11), .i .i64 (.y 1966), .i .i64 (.y 11), .i .i64 (.y 1967), .i .i64 (.y 11), .i .i64 (.y 1968), .i .i64 (.y 11), .i .i64 (.y 1969), .i .i64 (.y 11), .i .i64 (.y 1970), .i .i64 (.y 11), .i .i64 (.y 1971), .i .i64 (.y 11), .i .i64 (.y 1972), .i .i64 (.y 11), .i .i64 (.y 1973), .i .i64 (.y 11), .i .i64 (.y 1974), .i .i64 (.y 11), .i .i64 (.y 1975), .i .i64 (.y 11), .i .i64 (.y 1976), .i .i64 (.y 11), .i .i64 (.y 1977), .i .i64 (.y 11), .i .i64 (.y 1978), .i .i64 (.y 11), .i .i64 (.y 1979), .i .i64 (.y 11), .i .i64 (.y 1980), .i .i64 (.y 11), .i .i64 (.y 1981), .i .i64 (.y 11), .i .i64 (.y 1982), .i .i64 (.y 11), .i .i64 (.y 1983), .i .i64 (.y 11), .i .i64 (.y 1984), .i .i64 (.y 11), .i .i64 (.y 1985), .i .i64 (.y 11), .i .i64 (.y 1986), .i .i64 (.y 11), .i .i64 (.y 1987), .i .i64 (.y 11), .i .i64 (.y 1988), .i .i64 (.y 11), .i .i64 (.y 1989), .i .i64 (.y 11), .i .i64 (.y 1990), .i .i64 (.y 11), .i .i64 (.y 1991), .i .i64 (.y 11), .i .i64 (.y 1992), .i .i64 (.y 11), .i .i64 (.y 1993), .i .i64 (.y 11), .i .i64 (.y 1994), .i .i64 (.y 11), .i .i64 (.y 1995), .i .i64 (.y 11), .i .i64 (.y 1996), .i .i64 (.y 11), .i .i64 (.y 1997), .i .i64 (.y 11), .i .i64 (.y 1998), .i .i64 (.y 11), .i .i64 (.y 1999), .i .i64 (.y 11)]
theorem codeLit_eq : upto 256 = codeLit := by kernel_rfl
def cntI (m : Nat) (c : Int) : Int := Hu.cnt m c.toNat
def codeI (c : Int) : Int := Hu.codeOf c.toNat
def clsI (c : Int) : Int := Hu.cls c.toNat
theorem cntI_bd {m : Nat} {c : Int} (h : 0 ≤ c) : 0 ≤ cntI m c ∧ cntI m c ≤ c := by
  have := Hu.cnt_le m c.toNat
  unfold cntI; omega
theorem cntI_next {m : Nat} {c : Int} (h : 0 ≤ c) : cntI m (c + 1) = cntI m c + (if Hu.cls c.toNat = m then 1 else 0) := by
  unfold cntI
  rw [show (c + 1).toNat = c.toNat + 1 by omega, Hu.cnt_succ]
  split <;> simp
theorem codeI_eq {m : Nat} {c : Int} (h : Hu.cls c.toNat = m) : codeI c = Hu.base m + cntI m c := by
  unfold codeI cntI Hu.codeOf; rw [h]; simp
theorem lenS_m {F : List SV} {n : Nat} : lenS F = n → n = (match F with | [] => 0 | _ :: l => lenS l + 1) := by
  intro h
  cases F with
  | nil => exact h.symm
  | cons x xs => exact h.symm
theorem s_wr' {S : Sy} {F : List SV} {i : Int} {sz j : Nat} {ws : List SV} {K : List SV → Prop} (hS : S0 Try.prog = S) (h0 : 0 ≤ i) (h1 : (i.toNat + 1) * sz ≤ F.length) (h2 : j + ws.length ≤ sz) (h3 : plains ws = true)
    (h4 : ∀ F', repl F (i.toNat * sz + j) ws = F' → K F') : S.wr F i sz j ws K := s_wr hS h0 h1 h2 h3 (h4 _ rfl)
theorem subL_put {x y : SV} (h : Sub x y) : ∀ {F F' : List SV} (o : Nat), SubL F F' → SubL (put F o x) (put F' o y)
  | _, _, _, .nil => .nil
  | _, _, 0, .cons _ hs => .cons h hs
  | _, _, o + 1, .cons h1 hs => .cons h1 (subL_put h o hs)
theorem subL_repl {ws ws' : List SV} (h : SubL ws ws') : ∀ {F F' : List SV} (o : Nat), SubL F F' → SubL (repl F o ws) (repl F' o ws') := by
  induction h with
  | nil => exact fun _ h => h
  | cons h _ ih => exact fun o hF => ih (o + 1) (subL_put h o hF)
theorem subL_code {F F' : List SV} {c a : Int} {m : Nat} (h0 : 0 ≤ c) (h : c < 256) (hF : F = upto c.toNat) (hc : Hu.cls c.toNat = m) (ha : a = Hu.base m + cntI m c) (h' : repl F (c.toNat * 2 + 0) [.i .i64 (.y a), .i .i64 (.l m)] = F') : SubL F' (upto (c + 1).toNat) := by
  rw [← h', hF, show (c + 1).toNat = c.toNat + 1 by omega, ← upto_next (by omega)]
  refine subL_repl (.cons (sub_i ?_) (.cons (sub_i ?_) .nil)) _ .rfl
  · simp only [Z.v]; rw [ha, ← codeI_eq hc]; rfl
  · simp only [Z.v]; rw [← hc]
theorem s_all {S : Sy} (hS : S0 Try.prog = S) {cs ws : List SV} {sz : Nat} {K : List SV → Prop} (h1 : cs.length = sz) (h2 : ws.length = sz) (hp : plains ws = true) (h : K ws) : S.wr cs 0 sz 0 ws K := by
  refine s_wr hS (Int.le_refl 0) (by rw [h1]; simp) (by rw [h2]; simp) hp ?_
  have : ∀ (cs ws : List SV), cs.length = ws.length → repl cs 0 ws = ws := by
    intro cs
    induction cs with
    | nil => intro ws h; cases ws with
      | nil => rfl
      | cons => simp at h
    | cons c cs ih => intro ws h; cases ws with
      | nil => simp at h
      | cons w ws =>
        rw [repl, put, repl_cons, ih ws (by simpa using h)]
  rw [show (0 : Int).toNat * sz + 0 = 0 by simp, this cs ws (by rw [h1, h2])]
  exact h
theorem codes_f : (S0 Try.prog).call 41 [] [] (fun x _ => Sub x (.ag codeLit)) := by
  generalize hT : codeLit = T
  generalize hS : S0 Try.prog = S
  refine call_in' hS I.fn_huff_codes ?_
  unfold I.huff_codes
  generalize hZ : repS 512 [SV.i .i64 (.l 0)] = Zs
  cbv
  refine call_in' hS I.fn_huff_bytes ?_
  cbv
  refine rfc_in' hS I.fn_huff_bytes_1 ?_
  cbv
  iterate 4 (refine s_mu hS ?_; cbv)
  have hz : Zs = upto 0 := by rw [← hZ, repS_one]; rfl
  have hg : ∀ (F : List SV) (n : Nat), F = upto n → ∀ ok, refsBL ok F = true := by
    intro F n hF ok
    subst hF
    exact plains_refs (upto_plain n)
  refine s_loop_up hS 4 I.dead_huff_bytes_1_0 (fun x : Int × Int × Int × Int × Int × List SV => 0 ≤ x.1 ∧ x.1 ≤ 256 ∧ x.2.1 = cntI 5 x.1 ∧ x.2.2.1 = 32 + cntI 6 x.1 ∧ x.2.2.2.1 = 96 + cntI 7 x.1 ∧ x.2.2.2.2.1 = 1792 + cntI 11 x.1 ∧ x.2.2.2.2.2 = upto x.1.toNat)
    (fun x => [(10, .i .i64 (.y x.1))])
    (fun x => [(0, .c x.2.2.2.2.2), (3, .m [(.i .i64 (.l 5), .i .i64 (.y x.2.1)), (.i .i64 (.l 6), .i .i64 (.y x.2.2.1)), (.i .i64 (.l 7), .i .i64 (.y x.2.2.2.1)), (.i .i64 (.l 11), .i .i64 (.y x.2.2.2.2.1))])])
    (fun x => (256 - x.1).toNat) (0, 0, 32, 96, 1792, Zs) rfl ⟨⟨Int.le_refl _, (by show (0 : Int) ≤ 256; omega), rfl, rfl, rfl, rfl, hz⟩, rfl, ?_, ?_, ?_⟩ ?_
  · cbv; all_goals exact s_sA
  · cbv; all_goals exact s_bA
  · cbv
    exact gc_row (hg _ _ hz _)
  · intro x
    obtain ⟨c, a5, a6, a7, a11, F⟩ := x
    intro ha
    dsimp only at ha
    cbv
    obtain ⟨h0, h1, e5, e6, e7, e11, hF⟩ := ha
    refine s_br hS ?_ ?_ <;> intro h
    · cbv
      simp only [← hS, Int.ofNat_eq_natCast, cq, Bool.not_eq_true', Bool.not_eq_false', decide_eq_true_eq, decide_eq_false_iff_not, beq_iff_eq, beq_eq_false_iff_ne, ne_eq] at h
      have k5 := cntI_bd (m := 5) h0
      have k6 := cntI_bd (m := 6) h0
      have k7 := cntI_bd (m := 7) h0
      have k11 := cntI_bd (m := 11) h0
      have hlen : lenS F = 512 := by rw [lenS_eq, hF, upto_len (by omega)]
      rcases idx_at h0 h with ⟨hc, i5, i6, i7⟩ | ⟨hc, i5, i6, i7⟩ | ⟨hc, i5, i6, i7⟩ | ⟨hc, i5, i6, i7⟩
      · refine s_loop_one hS ?_
        cbv
        repeat' (first
          | (refine s_st hS ?_; try cbv)
          | (refine s_sbr hS ?_ ?_ <;> intro h <;> (try cbv) <;> try exact s_ab h)
          | (refine s_sta hS ?_; intro _ _; try cbv)
          | (refine s_stc hS ?_; try cbv))
        refine index_u hS fun r5 h5 => ?_
        replace h5 : 0 ≤ r5 := by rw [← h5]; exact i5
        cbv
        repeat' (first
          | (refine s_st hS ?_; try cbv)
          | (refine s_sbr hS ?_ ?_ <;> intro h <;> (try cbv) <;> try exact s_ab h)
          | (refine s_sta hS ?_; intro _ _; try cbv)
          | (refine s_stc hS ?_; try cbv))
        refine s_loop_one hS ?_
        cbv
        repeat' (first
          | (refine s_st hS ?_; try cbv)
          | (refine s_sbr hS ?_ ?_ <;> intro h <;> (try cbv) <;> try exact s_ab h)
          | (refine s_sta hS ?_; intro _ _; try cbv)
          | (refine s_stc hS ?_; try cbv))
        refine index_u hS fun r6 h6 => ?_
        replace h6 : r6 < 0 := by rw [← h6]; exact i6
        cbv
        repeat' (first
          | (refine s_st hS ?_; try cbv)
          | (refine s_sbr hS ?_ ?_ <;> intro h <;> (try cbv) <;> try exact s_ab h)
          | (refine s_sta hS ?_; intro _ _; try cbv)
          | (refine s_stc hS ?_; try cbv))
        refine s_loop_one hS ?_
        cbv
        repeat' (first
          | (refine s_st hS ?_; try cbv)
          | (refine s_sbr hS ?_ ?_ <;> intro h <;> (try cbv) <;> try exact s_ab h)
          | (refine s_sta hS ?_; intro _ _; try cbv)
          | (refine s_stc hS ?_; try cbv))
        refine index_u hS fun r7 h7 => ?_
        replace h7 : r7 < 0 := by rw [← h7]; exact i7
        cbv
        repeat' (first
          | (refine s_st hS ?_; try cbv)
          | (refine s_sbr hS ?_ ?_ <;> intro h <;> (try cbv) <;> try exact s_ab h)
          | (refine s_sta hS ?_; intro _ _; try cbv)
          | (refine s_stc hS ?_; try cbv))
        refine s_loop_one hS ?_
        cbv
        repeat' (first
          | (refine s_st hS ?_; try cbv)
          | (refine s_sbr hS ?_ ?_ <;> intro h <;> (try cbv) <;> try exact s_ab h)
          | (refine s_sta hS ?_; intro _ _; try cbv)
          | (refine s_stc hS ?_; try cbv))

        refine s_yld hS rfl rfl ?_
        cbv
        refine ite_ok (lenS_m hlen) ?_
        cbv
        repeat' (first
          | (refine s_st hS ?_; try cbv)
          | (refine s_sbr hS ?_ ?_ <;> intro h <;> (try cbv) <;> try exact s_ab h)
          | (refine s_sta hS ?_; intro _ _; try cbv)
          | (refine s_stc hS ?_; try cbv))

        refine s_wr' hS h0 (by rw [hF, upto_len (by omega)]; omega) (Nat.le_refl 2) rfl ?_
        intro F' hF'
        cbv
        repeat' (first
          | (refine s_st hS ?_; try cbv)
          | (refine s_sbr hS ?_ ?_ <;> intro h <;> (try cbv) <;> try exact s_ab h)
          | (refine s_sta hS ?_; intro _ _; try cbv)
          | (refine s_stc hS ?_; try cbv))

        obtain ⟨c1, h_c1⟩ : ∃ r_, r_ = c + 1 := ⟨_, rfl⟩
        obtain ⟨F2, hF2⟩ : ∃ F2, F2 = upto c1.toNat := ⟨_, rfl⟩
        obtain ⟨b5, h_b5⟩ : ∃ r_, r_ = a5 + 1 := ⟨_, rfl⟩
        have n5 := cntI_next (m := 5) h0
        have n6 := cntI_next (m := 6) h0
        have n7 := cntI_next (m := 7) h0
        have n11 := cntI_next (m := 11) h0
        rw [hc, ← h_c1] at n5 n6 n7 n11
        simp at n5 n6 n7 n11
        have hsub : SubL F' F2 := by
          rw [hF2, h_c1]
          exact subL_code h0 (by assumption) hF hc (by simp [Hu.base]; omega) hF'

        refine ⟨(c1, b5, a6, a7, a11, F2), by dsimp only; omega, ⟨by dsimp only; omega, by dsimp only; omega, by dsimp only; omega, by dsimp only; omega, by dsimp only; omega, by dsimp only; omega, hF2⟩, rfl, ?_, ?_, ?_⟩
        · cbv; all_goals exact s_sA

        · cbv; all_goals exact s_bA

        · cbv; exact gc_row (hg _ _ hF2 _)

      · refine s_loop_one hS ?_
        cbv
        repeat' (first
          | (refine s_st hS ?_; try cbv)
          | (refine s_sbr hS ?_ ?_ <;> intro h <;> (try cbv) <;> try exact s_ab h)
          | (refine s_sta hS ?_; intro _ _; try cbv)
          | (refine s_stc hS ?_; try cbv))
        refine index_u hS fun r5 h5 => ?_
        replace h5 : r5 < 0 := by rw [← h5]; exact i5
        cbv
        repeat' (first
          | (refine s_st hS ?_; try cbv)
          | (refine s_sbr hS ?_ ?_ <;> intro h <;> (try cbv) <;> try exact s_ab h)
          | (refine s_sta hS ?_; intro _ _; try cbv)
          | (refine s_stc hS ?_; try cbv))
        refine s_loop_one hS ?_
        cbv
        repeat' (first
          | (refine s_st hS ?_; try cbv)
          | (refine s_sbr hS ?_ ?_ <;> intro h <;> (try cbv) <;> try exact s_ab h)
          | (refine s_sta hS ?_; intro _ _; try cbv)
          | (refine s_stc hS ?_; try cbv))
        refine index_u hS fun r6 h6 => ?_
        replace h6 : 0 ≤ r6 := by rw [← h6]; exact i6
        cbv
        repeat' (first
          | (refine s_st hS ?_; try cbv)
          | (refine s_sbr hS ?_ ?_ <;> intro h <;> (try cbv) <;> try exact s_ab h)
          | (refine s_sta hS ?_; intro _ _; try cbv)
          | (refine s_stc hS ?_; try cbv))
        refine s_loop_one hS ?_
        cbv
        repeat' (first
          | (refine s_st hS ?_; try cbv)
          | (refine s_sbr hS ?_ ?_ <;> intro h <;> (try cbv) <;> try exact s_ab h)
          | (refine s_sta hS ?_; intro _ _; try cbv)
          | (refine s_stc hS ?_; try cbv))
        refine index_u hS fun r7 h7 => ?_
        replace h7 : r7 < 0 := by rw [← h7]; exact i7
        cbv
        repeat' (first
          | (refine s_st hS ?_; try cbv)
          | (refine s_sbr hS ?_ ?_ <;> intro h <;> (try cbv) <;> try exact s_ab h)
          | (refine s_sta hS ?_; intro _ _; try cbv)
          | (refine s_stc hS ?_; try cbv))
        refine s_loop_one hS ?_
        cbv
        repeat' (first
          | (refine s_st hS ?_; try cbv)
          | (refine s_sbr hS ?_ ?_ <;> intro h <;> (try cbv) <;> try exact s_ab h)
          | (refine s_sta hS ?_; intro _ _; try cbv)
          | (refine s_stc hS ?_; try cbv))

        refine s_yld hS rfl rfl ?_
        cbv
        refine ite_ok (lenS_m hlen) ?_
        cbv
        repeat' (first
          | (refine s_st hS ?_; try cbv)
          | (refine s_sbr hS ?_ ?_ <;> intro h <;> (try cbv) <;> try exact s_ab h)
          | (refine s_sta hS ?_; intro _ _; try cbv)
          | (refine s_stc hS ?_; try cbv))

        refine s_wr' hS h0 (by rw [hF, upto_len (by omega)]; omega) (Nat.le_refl 2) rfl ?_
        intro F' hF'
        cbv
        repeat' (first
          | (refine s_st hS ?_; try cbv)
          | (refine s_sbr hS ?_ ?_ <;> intro h <;> (try cbv) <;> try exact s_ab h)
          | (refine s_sta hS ?_; intro _ _; try cbv)
          | (refine s_stc hS ?_; try cbv))

        obtain ⟨c1, h_c1⟩ : ∃ r_, r_ = c + 1 := ⟨_, rfl⟩
        obtain ⟨F2, hF2⟩ : ∃ F2, F2 = upto c1.toNat := ⟨_, rfl⟩
        obtain ⟨b6, h_b6⟩ : ∃ r_, r_ = a6 + 1 := ⟨_, rfl⟩
        have n5 := cntI_next (m := 5) h0
        have n6 := cntI_next (m := 6) h0
        have n7 := cntI_next (m := 7) h0
        have n11 := cntI_next (m := 11) h0
        rw [hc, ← h_c1] at n5 n6 n7 n11
        simp at n5 n6 n7 n11
        have hsub : SubL F' F2 := by
          rw [hF2, h_c1]
          exact subL_code h0 (by assumption) hF hc (by simp [Hu.base]; omega) hF'

        refine ⟨(c1, a5, b6, a7, a11, F2), by dsimp only; omega, ⟨by dsimp only; omega, by dsimp only; omega, by dsimp only; omega, by dsimp only; omega, by dsimp only; omega, by dsimp only; omega, hF2⟩, rfl, ?_, ?_, ?_⟩
        · cbv; all_goals exact s_sA

        · cbv; all_goals exact s_bA

        · cbv; exact gc_row (hg _ _ hF2 _)

      · refine s_loop_one hS ?_
        cbv
        repeat' (first
          | (refine s_st hS ?_; try cbv)
          | (refine s_sbr hS ?_ ?_ <;> intro h <;> (try cbv) <;> try exact s_ab h)
          | (refine s_sta hS ?_; intro _ _; try cbv)
          | (refine s_stc hS ?_; try cbv))
        refine index_u hS fun r5 h5 => ?_
        replace h5 : r5 < 0 := by rw [← h5]; exact i5
        cbv
        repeat' (first
          | (refine s_st hS ?_; try cbv)
          | (refine s_sbr hS ?_ ?_ <;> intro h <;> (try cbv) <;> try exact s_ab h)
          | (refine s_sta hS ?_; intro _ _; try cbv)
          | (refine s_stc hS ?_; try cbv))
        refine s_loop_one hS ?_
        cbv
        repeat' (first
          | (refine s_st hS ?_; try cbv)
          | (refine s_sbr hS ?_ ?_ <;> intro h <;> (try cbv) <;> try exact s_ab h)
          | (refine s_sta hS ?_; intro _ _; try cbv)
          | (refine s_stc hS ?_; try cbv))
        refine index_u hS fun r6 h6 => ?_
        replace h6 : r6 < 0 := by rw [← h6]; exact i6
        cbv
        repeat' (first
          | (refine s_st hS ?_; try cbv)
          | (refine s_sbr hS ?_ ?_ <;> intro h <;> (try cbv) <;> try exact s_ab h)
          | (refine s_sta hS ?_; intro _ _; try cbv)
          | (refine s_stc hS ?_; try cbv))
        refine s_loop_one hS ?_
        cbv
        repeat' (first
          | (refine s_st hS ?_; try cbv)
          | (refine s_sbr hS ?_ ?_ <;> intro h <;> (try cbv) <;> try exact s_ab h)
          | (refine s_sta hS ?_; intro _ _; try cbv)
          | (refine s_stc hS ?_; try cbv))
        refine index_u hS fun r7 h7 => ?_
        replace h7 : 0 ≤ r7 := by rw [← h7]; exact i7
        cbv
        repeat' (first
          | (refine s_st hS ?_; try cbv)
          | (refine s_sbr hS ?_ ?_ <;> intro h <;> (try cbv) <;> try exact s_ab h)
          | (refine s_sta hS ?_; intro _ _; try cbv)
          | (refine s_stc hS ?_; try cbv))
        refine s_loop_one hS ?_
        cbv
        repeat' (first
          | (refine s_st hS ?_; try cbv)
          | (refine s_sbr hS ?_ ?_ <;> intro h <;> (try cbv) <;> try exact s_ab h)
          | (refine s_sta hS ?_; intro _ _; try cbv)
          | (refine s_stc hS ?_; try cbv))

        refine s_yld hS rfl rfl ?_
        cbv
        refine ite_ok (lenS_m hlen) ?_
        cbv
        repeat' (first
          | (refine s_st hS ?_; try cbv)
          | (refine s_sbr hS ?_ ?_ <;> intro h <;> (try cbv) <;> try exact s_ab h)
          | (refine s_sta hS ?_; intro _ _; try cbv)
          | (refine s_stc hS ?_; try cbv))

        refine s_wr' hS h0 (by rw [hF, upto_len (by omega)]; omega) (Nat.le_refl 2) rfl ?_
        intro F' hF'
        cbv
        repeat' (first
          | (refine s_st hS ?_; try cbv)
          | (refine s_sbr hS ?_ ?_ <;> intro h <;> (try cbv) <;> try exact s_ab h)
          | (refine s_sta hS ?_; intro _ _; try cbv)
          | (refine s_stc hS ?_; try cbv))

        obtain ⟨c1, h_c1⟩ : ∃ r_, r_ = c + 1 := ⟨_, rfl⟩
        obtain ⟨F2, hF2⟩ : ∃ F2, F2 = upto c1.toNat := ⟨_, rfl⟩
        obtain ⟨b7, h_b7⟩ : ∃ r_, r_ = a7 + 1 := ⟨_, rfl⟩
        have n5 := cntI_next (m := 5) h0
        have n6 := cntI_next (m := 6) h0
        have n7 := cntI_next (m := 7) h0
        have n11 := cntI_next (m := 11) h0
        rw [hc, ← h_c1] at n5 n6 n7 n11
        simp at n5 n6 n7 n11
        have hsub : SubL F' F2 := by
          rw [hF2, h_c1]
          exact subL_code h0 (by assumption) hF hc (by simp [Hu.base]; omega) hF'

        refine ⟨(c1, a5, a6, b7, a11, F2), by dsimp only; omega, ⟨by dsimp only; omega, by dsimp only; omega, by dsimp only; omega, by dsimp only; omega, by dsimp only; omega, by dsimp only; omega, hF2⟩, rfl, ?_, ?_, ?_⟩
        · cbv; all_goals exact s_sA

        · cbv; all_goals exact s_bA

        · cbv; exact gc_row (hg _ _ hF2 _)

      · refine s_loop_one hS ?_
        cbv
        repeat' (first
          | (refine s_st hS ?_; try cbv)
          | (refine s_sbr hS ?_ ?_ <;> intro h <;> (try cbv) <;> try exact s_ab h)
          | (refine s_sta hS ?_; intro _ _; try cbv)
          | (refine s_stc hS ?_; try cbv))
        refine index_u hS fun r5 h5 => ?_
        replace h5 : r5 < 0 := by rw [← h5]; exact i5
        cbv
        repeat' (first
          | (refine s_st hS ?_; try cbv)
          | (refine s_sbr hS ?_ ?_ <;> intro h <;> (try cbv) <;> try exact s_ab h)
          | (refine s_sta hS ?_; intro _ _; try cbv)
          | (refine s_stc hS ?_; try cbv))
        refine s_loop_one hS ?_
        cbv
        repeat' (first
          | (refine s_st hS ?_; try cbv)
          | (refine s_sbr hS ?_ ?_ <;> intro h <;> (try cbv) <;> try exact s_ab h)
          | (refine s_sta hS ?_; intro _ _; try cbv)
          | (refine s_stc hS ?_; try cbv))
        refine index_u hS fun r6 h6 => ?_
        replace h6 : r6 < 0 := by rw [← h6]; exact i6
        cbv
        repeat' (first
          | (refine s_st hS ?_; try cbv)
          | (refine s_sbr hS ?_ ?_ <;> intro h <;> (try cbv) <;> try exact s_ab h)
          | (refine s_sta hS ?_; intro _ _; try cbv)
          | (refine s_stc hS ?_; try cbv))
        refine s_loop_one hS ?_
        cbv
        repeat' (first
          | (refine s_st hS ?_; try cbv)
          | (refine s_sbr hS ?_ ?_ <;> intro h <;> (try cbv) <;> try exact s_ab h)
          | (refine s_sta hS ?_; intro _ _; try cbv)
          | (refine s_stc hS ?_; try cbv))
        refine index_u hS fun r7 h7 => ?_
        replace h7 : r7 < 0 := by rw [← h7]; exact i7
        cbv
        repeat' (first
          | (refine s_st hS ?_; try cbv)
          | (refine s_sbr hS ?_ ?_ <;> intro h <;> (try cbv) <;> try exact s_ab h)
          | (refine s_sta hS ?_; intro _ _; try cbv)
          | (refine s_stc hS ?_; try cbv))
        refine s_loop_one hS ?_
        cbv
        repeat' (first
          | (refine s_st hS ?_; try cbv)
          | (refine s_sbr hS ?_ ?_ <;> intro h <;> (try cbv) <;> try exact s_ab h)
          | (refine s_sta hS ?_; intro _ _; try cbv)
          | (refine s_stc hS ?_; try cbv))

        refine s_yld hS rfl rfl ?_
        cbv
        refine ite_ok (lenS_m hlen) ?_
        cbv
        repeat' (first
          | (refine s_st hS ?_; try cbv)
          | (refine s_sbr hS ?_ ?_ <;> intro h <;> (try cbv) <;> try exact s_ab h)
          | (refine s_sta hS ?_; intro _ _; try cbv)
          | (refine s_stc hS ?_; try cbv))

        refine s_wr' hS h0 (by rw [hF, upto_len (by omega)]; omega) (Nat.le_refl 2) rfl ?_
        intro F' hF'
        cbv
        repeat' (first
          | (refine s_st hS ?_; try cbv)
          | (refine s_sbr hS ?_ ?_ <;> intro h <;> (try cbv) <;> try exact s_ab h)
          | (refine s_sta hS ?_; intro _ _; try cbv)
          | (refine s_stc hS ?_; try cbv))

        obtain ⟨c1, h_c1⟩ : ∃ r_, r_ = c + 1 := ⟨_, rfl⟩
        obtain ⟨F2, hF2⟩ : ∃ F2, F2 = upto c1.toNat := ⟨_, rfl⟩
        obtain ⟨b11, h_b11⟩ : ∃ r_, r_ = a11 + 1 := ⟨_, rfl⟩
        have n5 := cntI_next (m := 5) h0
        have n6 := cntI_next (m := 6) h0
        have n7 := cntI_next (m := 7) h0
        have n11 := cntI_next (m := 11) h0
        rw [hc, ← h_c1] at n5 n6 n7 n11
        simp at n5 n6 n7 n11
        have hsub : SubL F' F2 := by
          rw [hF2, h_c1]
          exact subL_code h0 (by assumption) hF hc (by simp [Hu.base]; omega) hF'

        refine ⟨(c1, a5, a6, a7, b11, F2), by dsimp only; omega, ⟨by dsimp only; omega, by dsimp only; omega, by dsimp only; omega, by dsimp only; omega, by dsimp only; omega, by dsimp only; omega, hF2⟩, rfl, ?_, ?_, ?_⟩
        · cbv; all_goals exact s_sA

        · cbv; all_goals exact s_bA

        · cbv; exact gc_row (hg _ _ hF2 _)

    · simp only [← hS, Int.ofNat_eq_natCast, cq, Bool.not_eq_true', Bool.not_eq_false', decide_eq_true_eq, decide_eq_false_iff_not, beq_iff_eq, beq_eq_false_iff_ne, ne_eq] at h
      have hF2 : F = codeLit := by rw [hF, show c = 256 by omega]; exact codeLit_eq
      rw [hF2]
      cbv
      refine s_chk hS (by subst hS; kernel_rfl) ?_
      refine s_all hS (by kernel_rfl) (by kernel_rfl) (by kernel_rfl) ?_
      cbv
      rw [← hT]
      exact Sub.rfl
end Cz
/- Huff, part C: a byte's code; whose code it is. -/
namespace Cz
open Go Go.RowKit Go.Proofs
set_option linter.unusedSimpArgs false
set_option linter.unusedVariables false
set_option maxRecDepth 100000
set_option maxHeartbeats 4000000
theorem upto_at {c : Nat} (h : c < 256) : ((upto 256).drop (c * 2)).take 2 = cellC c := by
  have e : upto 256 = (List.range 256).flatMap cellC := by simp [upto]
  rw [e]
  have := flat_at (enc := cellC) (sz := 2) (fun _ => rfl) (l := List.range 256) (i := c) (a := c) (by simp [h]) 0 2 (Nat.le_refl _)
  simpa [cellC] using this
/-- A byte's code, read. -/
theorem code_rd {S : Sy} (hS : S0 Try.prog = S) {T : List SV} (hT : codeLit = T) {c : Int} {K : SV → Prop} (h0 : 0 ≤ c) (h : c < 256)
    (h1 : ∀ a m, codeI c = a → clsI c = m → K (.ag [.i .i64 (.y a), .i .i64 (.y m)])) : S.rd T c 2 0 2 true K := by
  subst hT
  rw [← codeLit_eq]
  refine s_rd hS h0 (by rw [upto_len (Nat.le_refl _)]; omega) (Nat.le_refl _) (v := .ag [.i .i64 (.y (codeI c)), .i .i64 (.y (clsI c))]) ?_ (h1 _ _ rfl rfl)
  rw [Nat.add_zero, upto_at (by omega)]
  rfl
theorem codeLit_len {T : List SV} (hT : codeLit = T) : lenS T = 512 := by rw [lenS_eq, ← hT, ← codeLit_eq, upto_len (Nat.le_refl _)]
theorem Code_f {c a m : Int} (h0 : 0 ≤ c) (h : c < 256) (ha : codeI c = a) (hm : clsI c = m) : (S0 Try.prog).call 13 [.i .u8 (.y c)] [] (fun x _ => Sub x (.tp [.i .i64 (.y a), .i .i64 (.y m)])) := by
  have hc := codes_f
  generalize hT : codeLit = T at hc
  generalize hS : S0 Try.prog = S
  refine call_in' hS I.fn_huff_Code ?_
  cbv
  refine use_val hS hc .rfl rfl (by rw [← hT]; rfl) ?_
  cbv
  refine ite_ok (lenS_m (codeLit_len hT)) ?_
  cbv
  refine code_rd hS hT h0 h fun a' m' ha' hm' => ?_
  obtain rfl : a' = a := ha'.symm.trans ha
  obtain rfl : m' = m := hm'.symm.trans hm
  cbv
  repeat' (first
    | (refine s_st hS ?_; try cbv)
    | (refine s_sbr hS ?_ ?_ <;> intro h <;> (try cbv) <;> try exact s_ab h)
    | (refine s_sta hS ?_; intro _ _; try cbv)
    | (refine s_stc hS ?_; try cbv)
    | (refine s_draw hS rfl I.ord_huff_Code_0 (by decide +kernel) ?_; cbv))
  all_goals (cbv; all_goals exact s_sA)
end Cz
/- Huff, part D: all codes' bytes. -/
namespace Cz
open Go Go.RowKit Go.Proofs
set_option linter.unusedSimpArgs false
set_option linter.unusedVariables false
set_option maxRecDepth 100000
set_option maxHeartbeats 4000000
def ent (n : Nat) : SV × SV := (.ag [.i .i64 (.y (codeI n)), .i .i64 (.y (clsI n))], .i .u8 (.y n))
def knownE (c : Nat) : List (SV × SV) := (List.range c).map ent
theorem known_noref (c : Nat) : norefM (knownE c) = true := by
  unfold knownE
  induction List.range c with
  | nil => rfl
  | cons n l ih => simp only [List.map_cons, ent, norefM, ih]; rfl
theorem SubM.refl : ∀ (es : List (SV × SV)), SubM es es
  | [] => .nil
  | (_, _) :: r => .cons .rfl .rfl (SubM.refl r)
theorem gcM_ok {n : Nat} : ∀ {es : List (SV × SV)}, norefM es = true → gcM n es = true
  | [], _ => rfl
  | (k, v) :: r, h => by
    simp only [norefM, Bool.and_eq_true] at h
    simp only [gcM, Bool.and_eq_true]
    exact ⟨⟨refsB_mono (fun _ h => by cases h) _ h.1.1, refsB_mono (fun _ h => by cases h) _ h.1.2⟩, gcM_ok h.2⟩
theorem gc_map {n : Nat} {es : List (SV × SV)} : norefM es = true → (match
      match es with
      | [] => true
      | (k, v) :: r => refsB (low n) k && refsB (low n) v && gcM n r with
    | false => false
    | true => true) = true := by
  intro h
  have := gcM_ok (n := n) h
  cases es with
  | nil => rfl
  | cons e r => simp only [gcM] at this; simp only [this]
theorem known_keys {n : Nat} {e : SV × SV} (h : e ∈ knownE n) : ∃ k, k < n ∧ e = ent k := by
  simp only [knownE, List.mem_map, List.mem_range] at h
  obtain ⟨k, hk, rfl⟩ := h
  exact ⟨k, hk, rfl⟩
theorem known_next (n : Nat) : knownE (n + 1) = knownE n ++ [ent n] := by
  unfold knownE; rw [List.range_succ, List.map_append]; rfl
theorem veq_2 {S : Sy} (hS : S0 Try.prog = S) {x y : Z} {a b : Int} {k1 k2 : Unit → Prop} (h1 : x.v = a → y.v = b → k1 ()) (h2 : (x.v ≠ a ∨ y.v ≠ b) → k2 ()) :
    veq S ⟨true, [.ki, .ki]⟩ (.ag [.i .i64 x, .i .i64 y]) (.ag [.i .i64 (.y a), .i .i64 (.y b)]) k1 k2 := by
  subst hS
  have e : ∀ (x : Z) (a : Int) (k1 k2 : Unit → Prop), (x.v = a → k1 ()) → (x.v ≠ a → k2 ()) → veq1 (S0 Try.prog) .ki (.i .i64 x) (.i .i64 (.y a)) k1 k2 := by
    intro x a k1 k2 h1 h2
    have : (S0 Try.prog).br ((S0 Try.prog).cmp .eq x.v a) k1 k2 := ⟨fun h => h1 (by simpa [cmp_eq] using h), fun h => h2 (by simpa [cmp_eq] using h)⟩
    cases x <;> exact this
  show veq1 (S0 Try.prog) .ki (.i .i64 x) (.i .i64 (.y a)) (fun _ => veq1 (S0 Try.prog) .ki (.i .i64 y) (.i .i64 (.y b)) (fun _ => k1 ()) k2) k2
  exact e x a _ _ (fun e1 => e y b _ _ (fun e2 => h1 e1 e2) fun n => h2 (.inr n)) fun n => h2 (.inl n)
theorem vmupd_new {S : Sy} (hS : S0 Try.prog = S) {x y : Z} {v : SV} {K : List (SV × SV) → Prop} : ∀ {es acc : List (SV × SV)} (h : ∀ e ∈ es, ∃ a b, e.1 = .ag [.i .i64 (.y a), .i .i64 (.y b)] ∧ (x.v ≠ a ∨ y.v ≠ b))
    (hK : K (acc ++ es ++ [(.ag [.i .i64 x, .i .i64 y], v)])), vmupd S ⟨true, [.ki, .ki]⟩ (.ag [.i .i64 x, .i .i64 y]) v K acc es
  | [], acc, _, hK => by simpa [vmupd] using hK
  | (k, u) :: r, acc, h, hK => by
    obtain ⟨a, b, e, hn⟩ := h _ (List.mem_cons_self ..)
    dsimp only at e
    subst e
    simp only [vmupd]
    refine veq_2 hS (fun e1 e2 => ?_) fun _ => vmupd_new hS (fun e he => h e (List.mem_cons_of_mem _ he)) (by simpa using hK)
    rcases hn with hn | hn <;> contradiction
theorem clsI_eq {c : Int} {m : Nat} {z : Z} (h : Hu.cls c.toNat = m) (hz : z.v = m) : clsI c = z.v := by unfold clsI; rw [h, hz]
theorem known_new {S : Sy} (hS : S0 Try.prog = S) {c a : Int} {z : Z} {K : List (SV × SV) → Prop} {es : List (SV × SV)} (h0 : 0 ≤ c) (hc : codeI c = a) (hm : clsI c = z.v) (he : es = knownE c.toNat)
    (hK : ∀ es', SubM es' (knownE (c + 1).toNat) → norefM es' = true → K es') :
    vmupd S ⟨true, [.ki, .ki]⟩ (.ag [.i .i64 (.y a), .i .i64 z]) (.i .u8 (.y c)) K [] es := by
  subst he
  refine vmupd_new hS (fun e h => ?_) (hK _ ?_ ?_)
  · obtain ⟨k, hk, rfl⟩ := known_keys h
    refine ⟨_, _, rfl, ?_⟩
    simp only [Z.v]
    by_cases e1 : a = codeI k
    · refine .inr fun e2 => ?_
      rw [← hc] at e1
      have e3 : clsI c = clsI k := hm.trans e2
      unfold codeI at e1; unfold clsI at e3
      simp only [Int.toNat_natCast] at e1 e3
      have := Hu.code_inj (c := c.toNat) (d := k) (by omega) (by omega)
      omega
    · exact .inl e1
  · rw [show (c + 1).toNat = c.toNat + 1 by omega, known_next, List.nil_append]
    have : ∀ (l : List (SV × SV)) (x y : SV × SV), Sub x.1 y.1 → Sub x.2 y.2 → SubM (l ++ [x]) (l ++ [y]) := by
      intro l x y h1 h2
      induction l with
      | nil => exact .cons h1 h2 .nil
      | cons e l ih => exact .cons .rfl .rfl ih
    refine this _ _ _ (sub_ag (.cons (sub_i ?_) (.cons (sub_i ?_) .nil))) (sub_i ?_)
    · simp only [Z.v]; rw [← hc, Int.toNat_of_nonneg h0]
    · rw [← hm, Int.toNat_of_nonneg h0]; rfl
    · simp only [Z.v]; omega
  · rw [List.nil_append]
    have := known_noref c.toNat
    generalize knownE c.toNat = l at this
    induction l with
    | nil => rfl
    | cons e l ih => obtain ⟨k, u⟩ := e; simp only [norefM, Bool.and_eq_true, List.cons_append] at this ⊢; exact ⟨this.1, ih this.2⟩
theorem known_f {T : List (SV × SV)} (hT : knownE 256 = T) : (S0 Try.prog).call 44 [] [] (MapIs 0 T) := by
  generalize hS : S0 Try.prog = S
  refine call_in' hS I.fn_huff_known ?_
  unfold I.huff_known
  cbv
  refine call_in' hS I.fn_huff_bytes ?_
  cbv
  refine rfc_in' hS I.fn_huff_bytes_1 ?_
  cbv
  iterate 4 (refine s_mu hS ?_; cbv)
  refine s_loop_up hS 5 I.dead_huff_bytes_1_0 (fun x : Int × Int × Int × Int × Int × List (SV × SV) => 0 ≤ x.1 ∧ x.1 ≤ 256 ∧ x.2.1 = cntI 5 x.1 ∧ x.2.2.1 = 32 + cntI 6 x.1 ∧ x.2.2.2.1 = 96 + cntI 7 x.1 ∧ x.2.2.2.2.1 = 1792 + cntI 11 x.1 ∧ x.2.2.2.2.2 = knownE x.1.toNat)
    (fun x => [(10, .i .i64 (.y x.1))])
    (fun x => [(0, .m x.2.2.2.2.2), (4, .m [(.i .i64 (.l 5), .i .i64 (.y x.2.1)), (.i .i64 (.l 6), .i .i64 (.y x.2.2.1)), (.i .i64 (.l 7), .i .i64 (.y x.2.2.2.1)), (.i .i64 (.l 11), .i .i64 (.y x.2.2.2.2.1))])])
    (fun x => (256 - x.1).toNat) (0, 0, 32, 96, 1792, []) rfl ⟨⟨Int.le_refl _, (by show (0 : Int) ≤ 256; omega), rfl, rfl, rfl, rfl, rfl⟩, rfl, ?_, ?_, ?_⟩ ?_
  · cbv; all_goals exact s_sA
  · cbv; all_goals exact s_bA
  · cbv
  · intro x
    obtain ⟨c, a5, a6, a7, a11, F⟩ := x
    intro ha
    dsimp only at ha
    cbv
    obtain ⟨h0, h1, e5, e6, e7, e11, hF⟩ := ha
    refine s_br hS ?_ ?_ <;> intro h
    · cbv
      simp only [← hS, Int.ofNat_eq_natCast, cq, Bool.not_eq_true', Bool.not_eq_false', decide_eq_true_eq, decide_eq_false_iff_not, beq_iff_eq, beq_eq_false_iff_ne, ne_eq] at h
      have k5 := cntI_bd (m := 5) h0
      have k6 := cntI_bd (m := 6) h0
      have k7 := cntI_bd (m := 7) h0
      have k11 := cntI_bd (m := 11) h0
      rcases idx_at h0 h with ⟨hc, i5, i6, i7⟩ | ⟨hc, i5, i6, i7⟩ | ⟨hc, i5, i6, i7⟩ | ⟨hc, i5, i6, i7⟩
      · refine s_loop_one hS ?_
        cbv
        repeat' (first
          | (refine s_st hS ?_; try cbv)
          | (refine s_sbr hS ?_ ?_ <;> intro h <;> (try cbv) <;> try exact s_ab h)
          | (refine s_sta hS ?_; intro _ _; try cbv)
          | (refine s_stc hS ?_; try cbv))
        refine index_u hS fun r5 h5 => ?_
        replace h5 : 0 ≤ r5 := by rw [← h5]; exact i5
        cbv
        repeat' (first
          | (refine s_st hS ?_; try cbv)
          | (refine s_sbr hS ?_ ?_ <;> intro h <;> (try cbv) <;> try exact s_ab h)
          | (refine s_sta hS ?_; intro _ _; try cbv)
          | (refine s_stc hS ?_; try cbv))
        refine s_loop_one hS ?_
        cbv
        repeat' (first
          | (refine s_st hS ?_; try cbv)
          | (refine s_sbr hS ?_ ?_ <;> intro h <;> (try cbv) <;> try exact s_ab h)
          | (refine s_sta hS ?_; intro _ _; try cbv)
          | (refine s_stc hS ?_; try cbv))
        refine index_u hS fun r6 h6 => ?_
        replace h6 : r6 < 0 := by rw [← h6]; exact i6
        cbv
        repeat' (first
          | (refine s_st hS ?_; try cbv)
          | (refine s_sbr hS ?_ ?_ <;> intro h <;> (try cbv) <;> try exact s_ab h)
          | (refine s_sta hS ?_; intro _ _; try cbv)
          | (refine s_stc hS ?_; try cbv))
        refine s_loop_one hS ?_
        cbv
        repeat' (first
          | (refine s_st hS ?_; try cbv)
          | (refine s_sbr hS ?_ ?_ <;> intro h <;> (try cbv) <;> try exact s_ab h)
          | (refine s_sta hS ?_; intro _ _; try cbv)
          | (refine s_stc hS ?_; try cbv))
        refine index_u hS fun r7 h7 => ?_
        replace h7 : r7 < 0 := by rw [← h7]; exact i7
        cbv
        repeat' (first
          | (refine s_st hS ?_; try cbv)
          | (refine s_sbr hS ?_ ?_ <;> intro h <;> (try cbv) <;> try exact s_ab h)
          | (refine s_sta hS ?_; intro _ _; try cbv)
          | (refine s_stc hS ?_; try cbv))
        refine s_loop_one hS ?_
        cbv
        repeat' (first
          | (refine s_st hS ?_; try cbv)
          | (refine s_sbr hS ?_ ?_ <;> intro h <;> (try cbv) <;> try exact s_ab h)
          | (refine s_sta hS ?_; intro _ _; try cbv)
          | (refine s_stc hS ?_; try cbv))
        refine s_yld hS rfl rfl ?_
        cbv
        refine s_mu hS ?_
        refine known_new hS h0 (by rw [codeI_eq hc]; simp [Hu.base]; omega) (clsI_eq hc rfl) hF fun F' hF' hN => ?_
        cbv
        repeat' (first
          | (refine s_st hS ?_; try cbv)
          | (refine s_sbr hS ?_ ?_ <;> intro h <;> (try cbv) <;> try exact s_ab h)
          | (refine s_sta hS ?_; intro _ _; try cbv)
          | (refine s_stc hS ?_; try cbv))
        obtain ⟨c1, h_c1⟩ : ∃ r_, r_ = c + 1 := ⟨_, rfl⟩
        obtain ⟨F2, hF2⟩ : ∃ F2, F2 = knownE c1.toNat := ⟨_, rfl⟩
        obtain ⟨b5, h_b5⟩ : ∃ r_, r_ = a5 + 1 := ⟨_, rfl⟩
        have n5 := cntI_next (m := 5) h0
        have n6 := cntI_next (m := 6) h0
        have n7 := cntI_next (m := 7) h0
        have n11 := cntI_next (m := 11) h0
        rw [hc, ← h_c1] at n5 n6 n7 n11
        simp at n5 n6 n7 n11
        have hsub : SubM F' F2 := by
          rw [hF2, h_c1]
          exact hF'
        refine ⟨(c1, b5, a6, a7, a11, F2), by dsimp only; omega, ⟨by dsimp only; omega, by dsimp only; omega, by dsimp only; omega, by dsimp only; omega, by dsimp only; omega, by dsimp only; omega, hF2⟩, rfl, ?_, ?_, ?_⟩
        · cbv; all_goals exact s_sA
        · cbv; refine ⟨SubB.m hsub, ?_⟩; all_goals exact s_bA
        · cbv
          exact gc_map (by rw [hF2]; exact known_noref _)
      · refine s_loop_one hS ?_
        cbv
        repeat' (first
          | (refine s_st hS ?_; try cbv)
          | (refine s_sbr hS ?_ ?_ <;> intro h <;> (try cbv) <;> try exact s_ab h)
          | (refine s_sta hS ?_; intro _ _; try cbv)
          | (refine s_stc hS ?_; try cbv))
        refine index_u hS fun r5 h5 => ?_
        replace h5 : r5 < 0 := by rw [← h5]; exact i5
        cbv
        repeat' (first
          | (refine s_st hS ?_; try cbv)
          | (refine s_sbr hS ?_ ?_ <;> intro h <;> (try cbv) <;> try exact s_ab h)
          | (refine s_sta hS ?_; intro _ _; try cbv)
          | (refine s_stc hS ?_; try cbv))
        refine s_loop_one hS ?_
        cbv
        repeat' (first
          | (refine s_st hS ?_; try cbv)
          | (refine s_sbr hS ?_ ?_ <;> intro h <;> (try cbv) <;> try exact s_ab h)
          | (refine s_sta hS ?_; intro _ _; try cbv)
          | (refine s_stc hS ?_; try cbv))
        refine index_u hS fun r6 h6 => ?_
        replace h6 : 0 ≤ r6 := by rw [← h6]; exact i6
        cbv
        repeat' (first
          | (refine s_st hS ?_; try cbv)
          | (refine s_sbr hS ?_ ?_ <;> intro h <;> (try cbv) <;> try exact s_ab h)
          | (refine s_sta hS ?_; intro _ _; try cbv)
          | (refine s_stc hS ?_; try cbv))
        refine s_loop_one hS ?_
        cbv
        repeat' (first
          | (refine s_st hS ?_; try cbv)
          | (refine s_sbr hS ?_ ?_ <;> intro h <;> (try cbv) <;> try exact s_ab h)
          | (refine s_sta hS ?_; intro _ _; try cbv)
          | (refine s_stc hS ?_; try cbv))
        refine index_u hS fun r7 h7 => ?_
        replace h7 : r7 < 0 := by rw [← h7]; exact i7
        cbv
        repeat' (first
          | (refine s_st hS ?_; try cbv)
          | (refine s_sbr hS ?_ ?_ <;> intro h <;> (try cbv) <;> try exact s_ab h)
          | (refine s_sta hS ?_; intro _ _; try cbv)
          | (refine s_stc hS ?_; try cbv))
        refine s_loop_one hS ?_
        cbv
        repeat' (first
          | (refine s_st hS ?_; try cbv)
          | (refine s_sbr hS ?_ ?_ <;> intro h <;> (try cbv) <;> try exact s_ab h)
          | (refine s_sta hS ?_; intro _ _; try cbv)
          | (refine s_stc hS ?_; try cbv))
        refine s_yld hS rfl rfl ?_
        cbv
        refine s_mu hS ?_
        refine known_new hS h0 (by rw [codeI_eq hc]; simp [Hu.base]; omega) (clsI_eq hc rfl) hF fun F' hF' hN => ?_
        cbv
        repeat' (first
          | (refine s_st hS ?_; try cbv)
          | (refine s_sbr hS ?_ ?_ <;> intro h <;> (try cbv) <;> try exact s_ab h)
          | (refine s_sta hS ?_; intro _ _; try cbv)
          | (refine s_stc hS ?_; try cbv))
        obtain ⟨c1, h_c1⟩ : ∃ r_, r_ = c + 1 := ⟨_, rfl⟩
        obtain ⟨F2, hF2⟩ : ∃ F2, F2 = knownE c1.toNat := ⟨_, rfl⟩
        obtain ⟨b6, h_b6⟩ : ∃ r_, r_ = a6 + 1 := ⟨_, rfl⟩
        have n5 := cntI_next (m := 5) h0
        have n6 := cntI_next (m := 6) h0
        have n7 := cntI_next (m := 7) h0
        have n11 := cntI_next (m := 11) h0
        rw [hc, ← h_c1] at n5 n6 n7 n11
        simp at n5 n6 n7 n11
        have hsub : SubM F' F2 := by
          rw [hF2, h_c1]
          exact hF'
        refine ⟨(c1, a5, b6, a7, a11, F2), by dsimp only; omega, ⟨by dsimp only; omega, by dsimp only; omega, by dsimp only; omega, by dsimp only; omega, by dsimp only; omega, by dsimp only; omega, hF2⟩, rfl, ?_, ?_, ?_⟩
        · cbv; all_goals exact s_sA
        · cbv; refine ⟨SubB.m hsub, ?_⟩; all_goals exact s_bA
        · cbv
          exact gc_map (by rw [hF2]; exact known_noref _)
      · refine s_loop_one hS ?_
        cbv
        repeat' (first
          | (refine s_st hS ?_; try cbv)
          | (refine s_sbr hS ?_ ?_ <;> intro h <;> (try cbv) <;> try exact s_ab h)
          | (refine s_sta hS ?_; intro _ _; try cbv)
          | (refine s_stc hS ?_; try cbv))
        refine index_u hS fun r5 h5 => ?_
        replace h5 : r5 < 0 := by rw [← h5]; exact i5
        cbv
        repeat' (first
          | (refine s_st hS ?_; try cbv)
          | (refine s_sbr hS ?_ ?_ <;> intro h <;> (try cbv) <;> try exact s_ab h)
          | (refine s_sta hS ?_; intro _ _; try cbv)
          | (refine s_stc hS ?_; try cbv))
        refine s_loop_one hS ?_
        cbv
        repeat' (first
          | (refine s_st hS ?_; try cbv)
          | (refine s_sbr hS ?_ ?_ <;> intro h <;> (try cbv) <;> try exact s_ab h)
          | (refine s_sta hS ?_; intro _ _; try cbv)
          | (refine s_stc hS ?_; try cbv))
        refine index_u hS fun r6 h6 => ?_
        replace h6 : r6 < 0 := by rw [← h6]; exact i6
        cbv
        repeat' (first
          | (refine s_st hS ?_; try cbv)
          | (refine s_sbr hS ?_ ?_ <;> intro h <;> (try cbv) <;> try exact s_ab h)
          | (refine s_sta hS ?_; intro _ _; try cbv)
          | (refine s_stc hS ?_; try cbv))
        refine s_loop_one hS ?_
        cbv
        repeat' (first
          | (refine s_st hS ?_; try cbv)
          | (refine s_sbr hS ?_ ?_ <;> intro h <;> (try cbv) <;> try exact s_ab h)
          | (refine s_sta hS ?_; intro _ _; try cbv)
          | (refine s_stc hS ?_; try cbv))
        refine index_u hS fun r7 h7 => ?_
        replace h7 : 0 ≤ r7 := by rw [← h7]; exact i7
        cbv
        repeat' (first
          | (refine s_st hS ?_; try cbv)
          | (refine s_sbr hS ?_ ?_ <;> intro h <;> (try cbv) <;> try exact s_ab h)
          | (refine s_sta hS ?_; intro _ _; try cbv)
          | (refine s_stc hS ?_; try cbv))
        refine s_loop_one hS ?_
        cbv
        repeat' (first
          | (refine s_st hS ?_; try cbv)
          | (refine s_sbr hS ?_ ?_ <;> intro h <;> (try cbv) <;> try exact s_ab h)
          | (refine s_sta hS ?_; intro _ _; try cbv)
          | (refine s_stc hS ?_; try cbv))
        refine s_yld hS rfl rfl ?_
        cbv
        refine s_mu hS ?_
        refine known_new hS h0 (by rw [codeI_eq hc]; simp [Hu.base]; omega) (clsI_eq hc rfl) hF fun F' hF' hN => ?_
        cbv
        repeat' (first
          | (refine s_st hS ?_; try cbv)
          | (refine s_sbr hS ?_ ?_ <;> intro h <;> (try cbv) <;> try exact s_ab h)
          | (refine s_sta hS ?_; intro _ _; try cbv)
          | (refine s_stc hS ?_; try cbv))
        obtain ⟨c1, h_c1⟩ : ∃ r_, r_ = c + 1 := ⟨_, rfl⟩
        obtain ⟨F2, hF2⟩ : ∃ F2, F2 = knownE c1.toNat := ⟨_, rfl⟩
        obtain ⟨b7, h_b7⟩ : ∃ r_, r_ = a7 + 1 := ⟨_, rfl⟩
        have n5 := cntI_next (m := 5) h0
        have n6 := cntI_next (m := 6) h0
        have n7 := cntI_next (m := 7) h0
        have n11 := cntI_next (m := 11) h0
        rw [hc, ← h_c1] at n5 n6 n7 n11
        simp at n5 n6 n7 n11
        have hsub : SubM F' F2 := by
          rw [hF2, h_c1]
          exact hF'
        refine ⟨(c1, a5, a6, b7, a11, F2), by dsimp only; omega, ⟨by dsimp only; omega, by dsimp only; omega, by dsimp only; omega, by dsimp only; omega, by dsimp only; omega, by dsimp only; omega, hF2⟩, rfl, ?_, ?_, ?_⟩
        · cbv; all_goals exact s_sA
        · cbv; refine ⟨SubB.m hsub, ?_⟩; all_goals exact s_bA
        · cbv
          exact gc_map (by rw [hF2]; exact known_noref _)
      · refine s_loop_one hS ?_
        cbv
        repeat' (first
          | (refine s_st hS ?_; try cbv)
          | (refine s_sbr hS ?_ ?_ <;> intro h <;> (try cbv) <;> try exact s_ab h)
          | (refine s_sta hS ?_; intro _ _; try cbv)
          | (refine s_stc hS ?_; try cbv))
        refine index_u hS fun r5 h5 => ?_
        replace h5 : r5 < 0 := by rw [← h5]; exact i5
        cbv
        repeat' (first
          | (refine s_st hS ?_; try cbv)
          | (refine s_sbr hS ?_ ?_ <;> intro h <;> (try cbv) <;> try exact s_ab h)
          | (refine s_sta hS ?_; intro _ _; try cbv)
          | (refine s_stc hS ?_; try cbv))
        refine s_loop_one hS ?_
        cbv
        repeat' (first
          | (refine s_st hS ?_; try cbv)
          | (refine s_sbr hS ?_ ?_ <;> intro h <;> (try cbv) <;> try exact s_ab h)
          | (refine s_sta hS ?_; intro _ _; try cbv)
          | (refine s_stc hS ?_; try cbv))
        refine index_u hS fun r6 h6 => ?_
        replace h6 : r6 < 0 := by rw [← h6]; exact i6
        cbv
        repeat' (first
          | (refine s_st hS ?_; try cbv)
          | (refine s_sbr hS ?_ ?_ <;> intro h <;> (try cbv) <;> try exact s_ab h)
          | (refine s_sta hS ?_; intro _ _; try cbv)
          | (refine s_stc hS ?_; try cbv))
        refine s_loop_one hS ?_
        cbv
        repeat' (first
          | (refine s_st hS ?_; try cbv)
          | (refine s_sbr hS ?_ ?_ <;> intro h <;> (try cbv) <;> try exact s_ab h)
          | (refine s_sta hS ?_; intro _ _; try cbv)
          | (refine s_stc hS ?_; try cbv))
        refine index_u hS fun r7 h7 => ?_
        replace h7 : r7 < 0 := by rw [← h7]; exact i7
        cbv
        repeat' (first
          | (refine s_st hS ?_; try cbv)
          | (refine s_sbr hS ?_ ?_ <;> intro h <;> (try cbv) <;> try exact s_ab h)
          | (refine s_sta hS ?_; intro _ _; try cbv)
          | (refine s_stc hS ?_; try cbv))
        refine s_loop_one hS ?_
        cbv
        repeat' (first
          | (refine s_st hS ?_; try cbv)
          | (refine s_sbr hS ?_ ?_ <;> intro h <;> (try cbv) <;> try exact s_ab h)
          | (refine s_sta hS ?_; intro _ _; try cbv)
          | (refine s_stc hS ?_; try cbv))
        refine s_yld hS rfl rfl ?_
        cbv
        refine s_mu hS ?_
        refine known_new hS h0 (by rw [codeI_eq hc]; simp [Hu.base]; omega) (clsI_eq hc rfl) hF fun F' hF' hN => ?_
        cbv
        repeat' (first
          | (refine s_st hS ?_; try cbv)
          | (refine s_sbr hS ?_ ?_ <;> intro h <;> (try cbv) <;> try exact s_ab h)
          | (refine s_sta hS ?_; intro _ _; try cbv)
          | (refine s_stc hS ?_; try cbv))
        obtain ⟨c1, h_c1⟩ : ∃ r_, r_ = c + 1 := ⟨_, rfl⟩
        obtain ⟨F2, hF2⟩ : ∃ F2, F2 = knownE c1.toNat := ⟨_, rfl⟩
        obtain ⟨b11, h_b11⟩ : ∃ r_, r_ = a11 + 1 := ⟨_, rfl⟩
        have n5 := cntI_next (m := 5) h0
        have n6 := cntI_next (m := 6) h0
        have n7 := cntI_next (m := 7) h0
        have n11 := cntI_next (m := 11) h0
        rw [hc, ← h_c1] at n5 n6 n7 n11
        simp at n5 n6 n7 n11
        have hsub : SubM F' F2 := by
          rw [hF2, h_c1]
          exact hF'
        refine ⟨(c1, a5, a6, a7, b11, F2), by dsimp only; omega, ⟨by dsimp only; omega, by dsimp only; omega, by dsimp only; omega, by dsimp only; omega, by dsimp only; omega, by dsimp only; omega, hF2⟩, rfl, ?_, ?_, ?_⟩
        · cbv; all_goals exact s_sA
        · cbv; refine ⟨SubB.m hsub, ?_⟩; all_goals exact s_bA
        · cbv
          exact gc_map (by rw [hF2]; exact known_noref _)
    · simp only [← hS, Int.ofNat_eq_natCast, cq, Bool.not_eq_true', Bool.not_eq_false', decide_eq_true_eq, decide_eq_false_iff_not, beq_iff_eq, beq_eq_false_iff_ne, ne_eq] at h
      have hF2 : F = T := by rw [hF, show c = 256 by omega]; exact hT
      cbv
      exact ⟨0, F, Nat.le_refl _, rfl, rfl, by rw [hF2]; exact SubM.refl _, by rw [hF]; exact known_noref _⟩
end Cz
/- Huff, part E: whose code it is. -/
namespace Cz
open Go Go.RowKit Go.Proofs
set_option linter.unusedSimpArgs false
set_option linter.unusedVariables false
set_option maxRecDepth 100000
set_option maxHeartbeats 4000000
def findO (a m : Int) : Option Nat := if 0 ≤ a ∧ 0 ≤ m then Hu.find a.toNat m.toNat else none
def findR (a m : Int) : Int := match findO a m with | some c => c | none => 0
def findB (a m : Int) : Bool := (findO a m).isSome
theorem findO_some {a m : Int} {c : Nat} (h : findO a m = some c) : c < 256 ∧ codeI c = a ∧ clsI c = m := by
  unfold findO at h
  split at h
  · rename_i h0
    obtain ⟨h1, h2, h3⟩ := Hu.find_some h
    refine ⟨h1, ?_, ?_⟩
    · unfold codeI; simp only [Int.toNat_natCast, h2]; omega
    · unfold clsI; simp only [Int.toNat_natCast, h3]; omega
  · cases h
theorem findO_none {a m : Int} (h : findO a m = none) {c : Nat} (hc : c < 256) : ¬(codeI c = a ∧ clsI c = m) := by
  rintro ⟨rfl, rfl⟩
  unfold findO codeI clsI at h
  simp only [Int.toNat_natCast] at h
  rw [if_pos ⟨by omega, by omega⟩, Hu.find_code hc] at h
  cases h
theorem vlook_some {S : Sy} (hS : S0 Try.prog = S) {x y zero : SV} {a b : Z} {K : SV → Bool → Prop} {c : Nat} (h1 : codeI c = a.v) (h2 : clsI c = b.v) (hK : K (.i .u8 (.y c)) true) : ∀ (l : List Nat), c ∈ l →
    vlook S ⟨true, [.ki, .ki]⟩ (.ag [.i .i64 a, .i .i64 b]) K zero (l.map ent)
  | [], h => by cases h
  | k :: l, h => by
    simp only [List.map_cons, ent, vlook]
    refine veq_2 hS (fun e1 e2 => ?_) fun hn => ?_
    · have : k = c := by
        have e3 := e1.symm.trans h1.symm
        have e4 := e2.symm.trans h2.symm
        unfold codeI at e3; unfold clsI at e4
        simp only [Int.toNat_natCast] at e3 e4
        exact Hu.code_inj (by omega) (by omega)
      rw [this]; exact hK
    · rcases List.mem_cons.1 h with rfl | h
      · rcases hn with hn | hn
        · exact absurd h1.symm hn
        · exact absurd h2.symm hn
      · exact vlook_some (x := x) (y := y) hS h1 h2 hK l h
theorem vlook_none {S : Sy} (hS : S0 Try.prog = S) {zero : SV} {a b : Z} {K : SV → Bool → Prop} (hK : K zero false) : ∀ (l : List Nat), (∀ c ∈ l, ¬(codeI c = a.v ∧ clsI c = b.v)) →
    vlook S ⟨true, [.ki, .ki]⟩ (.ag [.i .i64 a, .i .i64 b]) K zero (l.map ent)
  | [], h => by simpa [vlook] using hK
  | k :: l, h => by
    simp only [List.map_cons, ent, vlook]
    refine veq_2 hS (fun e1 e2 => ?_) fun _ => vlook_none hS hK l fun c hc => h c (List.mem_cons_of_mem _ hc)
    exact absurd ⟨e1.symm, e2.symm⟩ (h k (List.mem_cons_self ..))
/-- Whose code it is, looked up. -/
theorem look_known {S : Sy} (hS : S0 Try.prog = S) {T : List (SV × SV)} (hT : knownE 256 = T) {a b : Z} {K : SV → Bool → Prop} {zero : SV}
    (h1 : ∀ c : Int, findO a.v b.v = some c.toNat → 0 ≤ c → c < 256 → K (.i .u8 (.y c)) true) (h2 : findO a.v b.v = none → K zero false) :
    S.lk ⟨true, [.ki, .ki]⟩ (.ag [.i .i64 a, .i .i64 b]) K zero T := by
  refine s_lk hS ?_
  subst hT
  unfold knownE
  cases hf : findO a.v b.v with
  | some c =>
    obtain ⟨hc, e1, e2⟩ := findO_some hf
    exact vlook_some (x := zero) (y := zero) hS e1 e2 (h1 c (by simpa using hf) (by omega) (by omega)) _ (by simp [hc])
  | none => exact vlook_none hS (h2 hf) _ fun c hc => findO_none hf (by simpa using hc)
theorem Of_f {a m r : Int} {b : Bool} (hr : findR a m = r) (hb : findB a m = b) : (S0 Try.prog).call 15 [.i .i64 (.y a), .i .i64 (.y m)] [] (fun x _ => Sub x (.tp [.i .u8 (.y r), .b b])) := by
  generalize hT : knownE 256 = T
  have hk := known_f hT
  generalize hS : S0 Try.prog = S
  refine call_in' hS I.fn_huff_Of ?_
  cbv
  refine use_map hS (l0 := []) id hk .nil rfl trivial ?_
  cbv
  refine look_known hS hT (fun c hc h0 h1 => ?_) fun hc => ?_
  · have e1 : r = c := by rw [← hr]; unfold findR; simp only [Z.v] at hc; rw [hc]; simp; omega
    have e2 : b = true := by rw [← hb]; unfold findB; simp only [Z.v] at hc; rw [hc]; rfl
    cbv; all_goals exact s_sA
  · have e1 : r = 0 := by rw [← hr]; unfold findR; simp only [Z.v] at hc; rw [hc]
    have e2 : b = false := by rw [← hb]; unfold findB; simp only [Z.v] at hc; rw [hc]; rfl
    cbv; all_goals exact s_sA
end Cz
