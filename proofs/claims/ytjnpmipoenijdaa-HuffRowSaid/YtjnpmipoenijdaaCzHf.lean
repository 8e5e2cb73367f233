/- Huff, part F: bits out of bytes. -/
import Derived.Test.YtjnpmipoenijdaaCzHe
import Derived.Test.YtjnpmipoenijdaaCzAr
namespace Cz
open Go Go.RowKit Go.Proofs
set_option linter.unusedSimpArgs false
set_option linter.unusedVariables false
set_option maxRecDepth 100000
set_option maxHeartbeats 4000000
/-- A bit of bytes. -/
def bitI (b : List Int) (i : Int) : Int := ((Hu.bl b).getD i.toNat false).toNat
/-- The number that bits tell. -/
def numI (b : List Int) (i k : Int) : Int := Hu.valB (((Hu.bl b).drop i.toNat).take k.toNat)
theorem bitI_bd (b : List Int) (i : Int) : 0 ≤ bitI b i ∧ bitI b i ≤ 1 := by
  unfold bitI
  cases (Hu.bl b).getD i.toNat false <;> decide
theorem numI_zero (b : List Int) (i : Int) : numI b i 0 = 0 := rfl
theorem numI_next {b : List Int} {i k : Int} (h0 : 0 ≤ i) (h1 : 0 ≤ k) (h2 : i + k < 8 * ilen b) : numI b i (k + 1) = 2 * numI b i k + bitI b (i + k) := by
  unfold numI bitI
  rw [show (k + 1).toNat = k.toNat + 1 by omega, List.take_add_one]
  have hlt : i.toNat + k.toNat < (Hu.bl b).length := by rw [Hu.bl_len]; unfold ilen at h2; omega
  rw [List.getElem?_drop, List.getElem?_eq_getElem hlt, Option.toList_some, Hu.valB_snoc]
  rw [List.getD_eq_getElem?_getD, show (i + k).toNat = i.toNat + k.toNat by omega, List.getElem?_eq_getElem hlt]
  simp
theorem numI_bd {b : List Int} {i k : Int} (h : k ≤ 30) : 0 ≤ numI b i k ∧ numI b i k < 1073741824 := by
  unfold numI
  have h1 := Hu.valB_lt (((Hu.bl b).drop i.toNat).take k.toNat)
  have h2 : 2 ^ (((Hu.bl b).drop i.toNat).take k.toNat).length ≤ 2 ^ 30 := Nat.pow_le_pow_right (by omega) (by rw [List.length_take]; omega)
  omega
theorem bitsN_get : ∀ {m n i : Nat}, i < m → (Hu.bitsN m n)[i]? = some (n / 2 ^ (m - 1 - i) % 2 == 1)
  | m + 1, n, i, h => by
    simp only [Hu.bitsN]
    rcases Nat.lt_or_ge i m with hi | hi
    · rw [List.getElem?_append_left (by rw [Hu.bitsN_len]; exact hi), bitsN_get hi, Nat.div_div_eq_div_mul, ← Nat.pow_succ', show m + 1 - 1 - i = (m - 1 - i).succ by omega]
    · obtain rfl : i = m := by omega
      rw [List.getElem?_append_right (by rw [Hu.bitsN_len]; omega), Hu.bitsN_len]
      simp
theorem bl_get {b : List Int} {q j : Nat} {v : Int} (h : b[q]? = some v) (hj : j < 8) : (Hu.bl b)[q * 8 + j]? = (Hu.bitsN 8 v.toNat)[j]? := by
  induction b generalizing q with
  | nil => simp at h
  | cons u b ih =>
    cases q with
    | zero =>
      simp only [List.getElem?_cons_zero, Option.some.injEq] at h; subst h
      simp only [Hu.bl, List.flatMap_cons, Nat.zero_mul, Nat.zero_add]
      rw [List.getElem?_append_left (by rw [Hu.bitsN_len]; exact hj)]
    | succ q =>
      simp only [List.getElem?_cons_succ] at h
      have := ih h
      simp only [Hu.bl, List.flatMap_cons] at this ⊢
      rw [List.getElem?_append_right (by rw [Hu.bitsN_len]; omega), Hu.bitsN_len, show (q + 1) * 8 + j - 8 = q * 8 + j by omega]
      exact this
/-- A byte's bit, as it is shifted out. -/
theorem bit_of {b : List Int} {i q j v r : Int} (hv : b[q.toNat]? = some v) (hok : Hu.BOk b) (h0 : 0 ≤ i) (hq : q = i / 8) (hj : j = 7 - i % 8) (hr : r = v / 2 ^ j.toNat % 2) : bitI b i = r := by
  have hv0 := hok v (List.mem_of_getElem? hv)
  have e : i.toNat = q.toNat * 8 + (i % 8).toNat := by omega
  unfold bitI
  rw [List.getD_eq_getElem?_getD, e, bl_get hv (by omega), bitsN_get (by omega), show 8 - 1 - (i % 8).toNat = j.toNat by omega, hr]
  simp only [Option.getD_some]
  have e2 : v / 2 ^ j.toNat % 2 = ((v.toNat / 2 ^ j.toNat % 2 : Nat) : Int) := by
    push_cast
    rw [Int.toNat_of_nonneg hv0.1]
  rw [e2]
  have : v.toNat / 2 ^ j.toNat % 2 = 0 ∨ v.toNat / 2 ^ j.toNat % 2 = 1 := by omega
  rcases this with h | h <;> simp [h]
def okI (b : List Int) (i k : Int) : Bool := decide (0 ≤ i) && decide (i + k ≤ 8 * ilen b)
def resI (b : List Int) (i k : Int) : Int := if okI b i k then numI b i k else 0
theorem okI_t {b : List Int} {i k : Int} (h0 : 0 ≤ i) (h : i + k ≤ 8 * ilen b) : okI b i k = true := by unfold okI; simp [h0, h]
theorem okI_f {b : List Int} {i k : Int} (h : i < 0 ∨ 8 * ilen b < i + k) : okI b i k = false := by
  unfold okI
  rcases h with h | h
  · simp; omega
  · simp; omega
/-- A byte, read. -/
theorem rowB {S : Sy} (hS : S0 Try.prog = S) {b : List Int} {F : List SV} (hF : cellsB b = F) {q i v : Int} {K : SV → Prop} (hv : b[q.toNat]? = some v) (hi : i = q) (h0 : 0 ≤ q) (h : K (.i .u8 (.y v))) : S.rd F i 1 0 1 false K := by
  subst hi
  exact s_rowp hS (enc := by1) hF hv (fun _ => rfl) h0 (Nat.le_refl _) rfl h
theorem first_f {b : List Int} {i k r : Int} {t : Bool} (hb : Hu.BOk b) (hn : ilen b ≤ 1000000) (h1 : 1 ≤ k) (h2 : k ≤ 30) (hr : resI b i k = r) (ht : okI b i k = t) :
    (S0 Try.prog).call 57 [.sl 0 1 (.l 0) (.y (ilen b)) none, .i .i64 (.y i), .i .i64 (.y k)] [.r true true (.l 0) 1 (cellsB b)] (fun x _ => Sub x (.tp [.i .i64 (.y r), .b t])) := by
  obtain ⟨n, hn'⟩ : ∃ n, n = ilen b := ⟨_, rfl⟩
  rw [← hn'] at hn ⊢
  have hpl := cellsB_plain b
  generalize hF : cellsB b = F at hpl ⊢
  have h0n := ilen_nn b
  generalize hS : S0 Try.prog = S
  refine call_in' hS I.fn_octet_first ?_
  cbv
  repeat' (first
      | (refine s_eqs hS rfl ?_; try cbv)
      | (refine s_eqt hS rfl ?_ ?_; (focus (cbv; (repeat' (first | exact trivial | rfl | refine And.intro ?_ ?_ | assumption | omega | (simp only [← hS, Int.ofNat_eq_natCast, cq, decide_eq_true_eq, decide_eq_false_iff_not, beq_iff_eq, beq_eq_false_iff_ne, ne_eq]; done) | (simp only [← hS, Int.ofNat_eq_natCast, cq, decide_eq_true_eq, decide_eq_false_iff_not, beq_iff_eq, beq_eq_false_iff_ne, ne_eq]; first | assumption | omega))); done)); try cbv)
      | (refine s_eqo hS ?_; try cbv)
      | (refine s_lk hS ?_; try cbv)
      | (refine s_mu hS ?_; try cbv)
      | (refine s_chk hS (by simp only [← hS, Int.ofNat_eq_natCast, cq, decide_eq_true_eq, decide_eq_false_iff_not, beq_iff_eq, beq_eq_false_iff_ne, ne_eq]; omega) ?_; try cbv)
      | (refine s_br hS ?_ ?_ <;> intro h <;> (try cbv) <;> (try simp only [← hS, Int.ofNat_eq_natCast, cq, decide_eq_true_eq, decide_eq_false_iff_not, beq_iff_eq, beq_eq_false_iff_ne, ne_eq] at h) <;> first | (exfalso; omega) | (exact absurd trivial h) | (exact (no_tf h).elim) | (exact (no_ft h).elim) | (exact (no_both h (by with_reducible assumption)).elim) | (exact (no_both (by with_reducible assumption) h).elim) | skip)
      | (refine s_add hS ?_ (by simp only [lo]; omega) (by simp only [hi]; omega); intro _ _; try cbv)
      | (refine s_sub hS ?_ (by simp only [lo]; omega) (by simp only [hi]; omega); intro _ _; try cbv)
      | (refine s_cvi hS ?_ (by simp only [lo]; omega) (by simp only [hi]; omega); try cbv)
      | (refine call_in' hS I.fn_octet_bits ?_; cbv)
      | (refine rfc_in' hS I.fn_octet_bits_1 ?_; cbv))
  · have e : okI b i k = false := okI_f (.inl (by assumption))
    have e1 : r = 0 := by rw [← hr]; unfold resI; rw [e]; rfl
    have e2 : t = false := by rw [← ht, e]
    (repeat' (first | exact sub_any | exact Sub.rfl | exact SubL.nil | refine SubL.cons ?_ ?_ | exact sub_i rfl | refine sub_tp ?_ | refine sub_ag ?_ | exact sub_tt rfl | exact sub_ff rfl | exact sub_b_tt rfl | exact sub_b_ff rfl | (refine sub_i ?_; simp only [Z.v]; omega) | (refine sub_b ?_; assumption) | (refine sub_b ?_; simp only [← hS, Int.ofNat_eq_natCast, cq, decide_eq_true_eq, decide_eq_false_iff_not, beq_iff_eq, beq_eq_false_iff_ne, ne_eq]; done) | (refine sub_tt ?_; assumption) | (refine sub_ff ?_; assumption)))
  · refine s_loop_up hS 8 I.dead_octet_bits_1_0 (fun x : Int × Int × Int => i ≤ x.1 ∧ x.2.2 = k - (x.1 - i) ∧ 1 ≤ x.2.2 ∧ x.2.1 = numI b i (x.1 - i) ∧ (x.1 = i ∨ x.1 ≤ 8 * n))
      (fun _ => []) (fun x => [(1, .c [.i .i64 (.y x.2.1)]), (3, .c [.i .i64 (.y x.2.2)]), (5, .c [.i .i64 (.y x.1)])])
      (fun x => (8 * n - x.1).toNat) (i, 0, k) rfl ⟨⟨by omega, by dsimp only; omega, by dsimp only; omega, by simp [numI_zero], .inl rfl⟩, rfl, ?_, ?_, ?_⟩ ?_
    · cbv; (repeat' (first | exact sub_any | exact Sub.rfl | exact SubL.nil | refine SubL.cons ?_ ?_ | exact sub_i rfl | refine sub_tp ?_ | refine sub_ag ?_ | exact sub_tt rfl | exact sub_ff rfl | exact sub_b_tt rfl | exact sub_b_ff rfl | (refine sub_i ?_; simp only [Z.v]; omega) | (refine sub_b ?_; assumption) | (refine sub_b ?_; simp only [← hS, Int.ofNat_eq_natCast, cq, decide_eq_true_eq, decide_eq_false_iff_not, beq_iff_eq, beq_eq_false_iff_ne, ne_eq]; done) | (refine sub_tt ?_; assumption) | (refine sub_ff ?_; assumption)))
    · cbv; (repeat' (first | exact trivial | exact SubB.rfl | refine And.intro ?_ ?_ | (exact SubB.c (by with_reducible assumption)) | (refine SubB.c ?_; (repeat' (first | exact sub_any | exact Sub.rfl | exact SubL.nil | refine SubL.cons ?_ ?_ | exact sub_i rfl | refine sub_tp ?_ | refine sub_ag ?_ | exact sub_tt rfl | exact sub_ff rfl | exact sub_b_tt rfl | exact sub_b_ff rfl | (refine sub_i ?_; simp only [Z.v]; omega) | (refine sub_b ?_; assumption) | (refine sub_b ?_; simp only [← hS, Int.ofNat_eq_natCast, cq, decide_eq_true_eq, decide_eq_false_iff_not, beq_iff_eq, beq_eq_false_iff_ne, ne_eq]; done) | (refine sub_tt ?_; assumption) | (refine sub_ff ?_; assumption))); done) | (refine SubB.m ?_; (repeat' (first | exact SubM.nil | refine SubM.cons ?_ ?_ ?_ | (focus ((repeat' (first | exact sub_any | exact Sub.rfl | exact SubL.nil | refine SubL.cons ?_ ?_ | exact sub_i rfl | refine sub_tp ?_ | refine sub_ag ?_ | exact sub_tt rfl | exact sub_ff rfl | exact sub_b_tt rfl | exact sub_b_ff rfl | (refine sub_i ?_; simp only [Z.v]; omega) | (refine sub_b ?_; assumption) | (refine sub_b ?_; simp only [← hS, Int.ofNat_eq_natCast, cq, decide_eq_true_eq, decide_eq_false_iff_not, beq_iff_eq, beq_eq_false_iff_ne, ne_eq]; done) | (refine sub_tt ?_; assumption) | (refine sub_ff ?_; assumption))); done)))); done)))
    · cbv; exact gc_row (plains_refs hpl)
    · intro x
      obtain ⟨j, w, left⟩ := x
      intro hx
      dsimp only at hx
      cbv
      obtain ⟨g0, g1, g2, g3, g4⟩ := hx
      repeat' (first
          | (refine s_eqs hS rfl ?_; try cbv)
          | (refine s_eqt hS rfl ?_ ?_; (focus (cbv; (repeat' (first | exact trivial | rfl | refine And.intro ?_ ?_ | assumption | omega | (simp only [← hS, Int.ofNat_eq_natCast, cq, decide_eq_true_eq, decide_eq_false_iff_not, beq_iff_eq, beq_eq_false_iff_ne, ne_eq]; done) | (simp only [← hS, Int.ofNat_eq_natCast, cq, decide_eq_true_eq, decide_eq_false_iff_not, beq_iff_eq, beq_eq_false_iff_ne, ne_eq]; first | assumption | omega))); done)); try cbv)
          | (refine s_eqo hS ?_; try cbv)
          | (refine s_lk hS ?_; try cbv)
          | (refine s_mu hS ?_; try cbv)
          | (refine s_chk hS (by simp only [← hS, Int.ofNat_eq_natCast, cq, decide_eq_true_eq, decide_eq_false_iff_not, beq_iff_eq, beq_eq_false_iff_ne, ne_eq]; omega) ?_; try cbv)
          | (refine s_br hS ?_ ?_ <;> intro h <;> (try cbv) <;> (try simp only [← hS, Int.ofNat_eq_natCast, cq, decide_eq_true_eq, decide_eq_false_iff_not, beq_iff_eq, beq_eq_false_iff_ne, ne_eq] at h) <;> first | (exfalso; omega) | (exact absurd trivial h) | (exact (no_tf h).elim) | (exact (no_ft h).elim) | (exact (no_both h (by with_reducible assumption)).elim) | (exact (no_both (by with_reducible assumption) h).elim) | skip)
          | (refine s_add hS ?_ (by simp only [lo]; omega) (by simp only [hi]; omega); intro _ _; try cbv)
          | (refine s_sub hS ?_ (by simp only [lo]; omega) (by simp only [hi]; omega); intro _ _; try cbv)
          | (refine s_cvi hS ?_ (by simp only [lo]; omega) (by simp only [hi]; omega); try cbv)
          | (refine s_shrl hS (c := 8) rfl ?_; intro _ _; cbv))
      · obtain ⟨q, hq⟩ : ∃ q, q = j / 8 := ⟨_, rfl⟩
        obtain ⟨v, hv⟩ := at_ex (l := b) (i := q) (by omega) (by omega)
        have hb0 := hb v (List.mem_of_getElem? hv)
        refine s_draw hS rfl I.ord_octet_bits_1_0 (by decide +kernel) ?_
        cbv
        repeat' (first
            | (refine s_eqs hS rfl ?_; try cbv)
            | (refine s_eqt hS rfl ?_ ?_; (focus (cbv; (repeat' (first | exact trivial | rfl | refine And.intro ?_ ?_ | assumption | omega | (simp only [← hS, Int.ofNat_eq_natCast, cq, decide_eq_true_eq, decide_eq_false_iff_not, beq_iff_eq, beq_eq_false_iff_ne, ne_eq]; done) | (simp only [← hS, Int.ofNat_eq_natCast, cq, decide_eq_true_eq, decide_eq_false_iff_not, beq_iff_eq, beq_eq_false_iff_ne, ne_eq]; first | assumption | omega))); done)); try cbv)
            | (refine s_eqo hS ?_; try cbv)
            | (refine s_lk hS ?_; try cbv)
            | (refine s_mu hS ?_; try cbv)
            | (refine s_chk hS (by simp only [← hS, Int.ofNat_eq_natCast, cq, decide_eq_true_eq, decide_eq_false_iff_not, beq_iff_eq, beq_eq_false_iff_ne, ne_eq]; omega) ?_; try cbv)
            | (refine s_br hS ?_ ?_ <;> intro h <;> (try cbv) <;> (try simp only [← hS, Int.ofNat_eq_natCast, cq, decide_eq_true_eq, decide_eq_false_iff_not, beq_iff_eq, beq_eq_false_iff_ne, ne_eq] at h) <;> first | (exfalso; omega) | (exact absurd trivial h) | (exact (no_tf h).elim) | (exact (no_ft h).elim) | (exact (no_both h (by with_reducible assumption)).elim) | (exact (no_both (by with_reducible assumption) h).elim) | skip)
            | (refine s_add hS ?_ (by simp only [lo]; omega) (by simp only [hi]; omega); intro _ _; try cbv)
            | (refine s_sub hS ?_ (by simp only [lo]; omega) (by simp only [hi]; omega); intro _ _; try cbv)
            | (refine s_cvi hS ?_ (by simp only [lo]; omega) (by simp only [hi]; omega); try cbv)
            | (refine s_shrl hS (c := 8) rfl ?_; intro _ _; cbv)
            | (refine rowB hS hF hv (by omega) (by omega) ?_; try cbv)
            | (refine s_andl hS (c := 8) (m := 3) (by decide) ?_; intro _ _; cbv)
            | (refine s_andl hS (c := 2) (m := 1) (by decide) ?_; intro _ _; cbv)
            | (refine s_shr hS (by simp only [IntKind.bits]; omega) ?_; intro _ _; cbv)
            | (refine And.intro rfl ?_; try cbv))
        rename_i s1 hs1 s2 hs2 s3 hs3 u hu
        have hbit : bitI b j = u := bit_of hv hb (by omega) hq (j := s2) (by omega) (by rw [hu, hs3])
        have hw : 0 ≤ w ∧ w < 1073741824 := by rw [g3]; exact numI_bd (by omega)
        have hnx := numI_next (b := b) (i := i) (k := j - i) (by omega) (by omega) (by omega)
        rw [← g3, show i + (j - i) = j by omega, hbit] at hnx
        clear hu hs3
        have hu1 := bitI_bd b j
        rw [hbit] at hu1
        refine s_yld hS rfl rfl ?_
        cbv
        repeat' (first
            | (refine s_eqs hS rfl ?_; try cbv)
            | (refine s_eqt hS rfl ?_ ?_; (focus (cbv; (repeat' (first | exact trivial | rfl | refine And.intro ?_ ?_ | assumption | omega | (simp only [← hS, Int.ofNat_eq_natCast, cq, decide_eq_true_eq, decide_eq_false_iff_not, beq_iff_eq, beq_eq_false_iff_ne, ne_eq]; done) | (simp only [← hS, Int.ofNat_eq_natCast, cq, decide_eq_true_eq, decide_eq_false_iff_not, beq_iff_eq, beq_eq_false_iff_ne, ne_eq]; first | assumption | omega))); done)); try cbv)
            | (refine s_eqo hS ?_; try cbv)
            | (refine s_lk hS ?_; try cbv)
            | (refine s_mu hS ?_; try cbv)
            | (refine s_chk hS (by simp only [← hS, Int.ofNat_eq_natCast, cq, decide_eq_true_eq, decide_eq_false_iff_not, beq_iff_eq, beq_eq_false_iff_ne, ne_eq]; omega) ?_; try cbv)
            | (refine s_br hS ?_ ?_ <;> intro h <;> (try cbv) <;> (try simp only [← hS, Int.ofNat_eq_natCast, cq, decide_eq_true_eq, decide_eq_false_iff_not, beq_iff_eq, beq_eq_false_iff_ne, ne_eq] at h) <;> first | (exfalso; omega) | (exact absurd trivial h) | (exact (no_tf h).elim) | (exact (no_ft h).elim) | (exact (no_both h (by with_reducible assumption)).elim) | (exact (no_both (by with_reducible assumption) h).elim) | skip)
            | (refine s_add hS ?_ (by simp only [lo]; omega) (by simp only [hi]; omega); intro _ _; try cbv)
            | (refine s_sub hS ?_ (by simp only [lo]; omega) (by simp only [hi]; omega); intro _ _; try cbv)
            | (refine s_cvi hS ?_ (by simp only [lo]; omega) (by simp only [hi]; omega); try cbv)
            | (refine s_shll hS (c := 2) rfl ?_ (by simp only [lo]; omega) (by simp only [hi]; omega); intro _ _; cbv)
            | (refine s_orl hS (c := 2) (m := 1) rfl (by omega) (by omega) (by omega) (by omega) (by simp only [hi]; omega) ?_; intro _ _; cbv))
        · have e : okI b i k = true := okI_t (by omega) (by omega)
          have e1 : r = 2 * w + u := by rw [← hr]; unfold resI; rw [e, show k = j - i + 1 by omega]; simpa using hnx
          have e2 : t = true := by rw [← ht, e]
          (repeat' (first | exact sub_any | exact Sub.rfl | exact SubL.nil | refine SubL.cons ?_ ?_ | exact sub_i rfl | refine sub_tp ?_ | refine sub_ag ?_ | exact sub_tt rfl | exact sub_ff rfl | exact sub_b_tt rfl | exact sub_b_ff rfl | (refine sub_i ?_; simp only [Z.v]; omega) | (refine sub_b ?_; assumption) | (refine sub_b ?_; simp only [← hS, Int.ofNat_eq_natCast, cq, decide_eq_true_eq, decide_eq_false_iff_not, beq_iff_eq, beq_eq_false_iff_ne, ne_eq]; done) | (refine sub_tt ?_; assumption) | (refine sub_ff ?_; assumption)))
        · rename_i w2 hw2 l2 hl2 j2 hj2
          refine ⟨(j2, w2, l2), by dsimp only; omega, ⟨by dsimp only; omega, by dsimp only; omega, by dsimp only; omega, by dsimp only; rw [show j2 - i = j - i + 1 by omega, hnx]; omega, .inr (by dsimp only; omega)⟩, rfl, ?_, ?_, ?_⟩
          · cbv; (repeat' (first | exact sub_any | exact Sub.rfl | exact SubL.nil | refine SubL.cons ?_ ?_ | exact sub_i rfl | refine sub_tp ?_ | refine sub_ag ?_ | exact sub_tt rfl | exact sub_ff rfl | exact sub_b_tt rfl | exact sub_b_ff rfl | (refine sub_i ?_; simp only [Z.v]; omega) | (refine sub_b ?_; assumption) | (refine sub_b ?_; simp only [← hS, Int.ofNat_eq_natCast, cq, decide_eq_true_eq, decide_eq_false_iff_not, beq_iff_eq, beq_eq_false_iff_ne, ne_eq]; done) | (refine sub_tt ?_; assumption) | (refine sub_ff ?_; assumption)))
          · cbv; (repeat' (first | exact trivial | exact SubB.rfl | refine And.intro ?_ ?_ | (exact SubB.c (by with_reducible assumption)) | (refine SubB.c ?_; (repeat' (first | exact sub_any | exact Sub.rfl | exact SubL.nil | refine SubL.cons ?_ ?_ | exact sub_i rfl | refine sub_tp ?_ | refine sub_ag ?_ | exact sub_tt rfl | exact sub_ff rfl | exact sub_b_tt rfl | exact sub_b_ff rfl | (refine sub_i ?_; simp only [Z.v]; omega) | (refine sub_b ?_; assumption) | (refine sub_b ?_; simp only [← hS, Int.ofNat_eq_natCast, cq, decide_eq_true_eq, decide_eq_false_iff_not, beq_iff_eq, beq_eq_false_iff_ne, ne_eq]; done) | (refine sub_tt ?_; assumption) | (refine sub_ff ?_; assumption))); done) | (refine SubB.m ?_; (repeat' (first | exact SubM.nil | refine SubM.cons ?_ ?_ ?_ | (focus ((repeat' (first | exact sub_any | exact Sub.rfl | exact SubL.nil | refine SubL.cons ?_ ?_ | exact sub_i rfl | refine sub_tp ?_ | refine sub_ag ?_ | exact sub_tt rfl | exact sub_ff rfl | exact sub_b_tt rfl | exact sub_b_ff rfl | (refine sub_i ?_; simp only [Z.v]; omega) | (refine sub_b ?_; assumption) | (refine sub_b ?_; simp only [← hS, Int.ofNat_eq_natCast, cq, decide_eq_true_eq, decide_eq_false_iff_not, beq_iff_eq, beq_eq_false_iff_ne, ne_eq]; done) | (refine sub_tt ?_; assumption) | (refine sub_ff ?_; assumption))); done)))); done)))
          · cbv; exact gc_row (plains_refs hpl)
      · have e : okI b i k = false := okI_f (.inr (by omega))
        have e1 : r = 0 := by rw [← hr]; unfold resI; rw [e]; rfl
        have e2 : t = false := by rw [← ht, e]
        (repeat' (first | exact sub_any | exact Sub.rfl | exact SubL.nil | refine SubL.cons ?_ ?_ | exact sub_i rfl | refine sub_tp ?_ | refine sub_ag ?_ | exact sub_tt rfl | exact sub_ff rfl | exact sub_b_tt rfl | exact sub_b_ff rfl | (refine sub_i ?_; simp only [Z.v]; omega) | (refine sub_b ?_; assumption) | (refine sub_b ?_; simp only [← hS, Int.ofNat_eq_natCast, cq, decide_eq_true_eq, decide_eq_false_iff_not, beq_iff_eq, beq_eq_false_iff_ne, ne_eq]; done) | (refine sub_tt ?_; assumption) | (refine sub_ff ?_; assumption)))
/-- What octet.Bits tells, for a row of bytes. -/
def oBitsB (b : List Int) (i k : Int) : Bool := if k = 0 then decide (0 ≤ i) && decide (i ≤ 8 * ilen b) else if k < 0 ∨ 30 < k then false else okI b i k
def oBitsR (b : List Int) (i k : Int) : Int := if oBitsB b i k then numI b i k else 0
theorem oBits_f {b : List Int} {i k r : Int} {t : Bool} (hb : Hu.BOk b) (hn : ilen b ≤ 1000000) (hr : oBitsR b i k = r) (ht : oBitsB b i k = t) :
    (S0 Try.prog).call 45 [.sl 0 1 (.l 0) (.y (ilen b)) none, .i .i64 (.y i), .i .i64 (.y k)] [.r true true (.l 0) 1 (cellsB b)] (fun x _ => Sub x (.tp [.i .i64 (.y r), .b t])) := by
  have hc : ∀ (h1 : 1 ≤ k) (h2 : k ≤ 30) (e : t = okI b i k), (S0 Try.prog).call 57 [.sl 0 1 (.l 0) (.y (ilen b)) none, .i .i64 (.y i), .i .i64 (.y k)] [.r true true (.l 0) 1 (cellsB b)] (fun x _ => Sub x (.tp [.i .i64 (.y r), .b t])) := by
    intro h1 h2 e
    refine first_f hb hn h1 h2 ?_ e.symm
    rw [← hr]; unfold oBitsR resI; rw [ht, e]
  obtain ⟨n, hn'⟩ : ∃ n, n = ilen b := ⟨_, rfl⟩
  have h0n := ilen_nn b
  rw [← hn'] at hn h0n hc ⊢
  have hpl := cellsB_plain b
  generalize hF : cellsB b = F at hpl hc ⊢
  generalize hS : S0 Try.prog = S
  refine call_in' hS I.fn_octet_Bits ?_
  cbv
  repeat' (first
      | (refine s_eqs hS rfl ?_; try cbv)
      | (refine s_eqt hS rfl ?_ ?_; (focus (cbv; (repeat' (first | exact trivial | rfl | refine And.intro ?_ ?_ | assumption | omega | (simp only [← hS, Int.ofNat_eq_natCast, cq, decide_eq_true_eq, decide_eq_false_iff_not, beq_iff_eq, beq_eq_false_iff_ne, ne_eq]; done) | (simp only [← hS, Int.ofNat_eq_natCast, cq, decide_eq_true_eq, decide_eq_false_iff_not, beq_iff_eq, beq_eq_false_iff_ne, ne_eq]; first | assumption | omega))); done)); try cbv)
      | (refine s_eqo hS ?_; try cbv)
      | (refine s_lk hS ?_; try cbv)
      | (refine s_mu hS ?_; try cbv)
      | (refine s_chk hS (by simp only [← hS, Int.ofNat_eq_natCast, cq, decide_eq_true_eq, decide_eq_false_iff_not, beq_iff_eq, beq_eq_false_iff_ne, ne_eq]; omega) ?_; try cbv)
      | (refine s_br hS ?_ ?_ <;> intro h <;> (try cbv) <;> (try simp only [← hS, Int.ofNat_eq_natCast, cq, decide_eq_true_eq, decide_eq_false_iff_not, beq_iff_eq, beq_eq_false_iff_ne, ne_eq] at h) <;> first | (exfalso; omega) | (exact absurd trivial h) | (exact (no_tf h).elim) | (exact (no_ft h).elim) | (exact (no_both h (by with_reducible assumption)).elim) | (exact (no_both (by with_reducible assumption) h).elim) | skip)
      | (refine s_add hS ?_ (by simp only [lo]; omega) (by simp only [hi]; omega); intro _ _; try cbv)
      | (refine s_sub hS ?_ (by simp only [lo]; omega) (by simp only [hi]; omega); intro _ _; try cbv)
      | (refine s_cvi hS ?_ (by simp only [lo]; omega) (by simp only [hi]; omega); try cbv)
      | (refine s_mul hS ?_ (by simp only [lo]; omega) (by simp only [hi]; omega); intro _ _; try cbv))
  · rename_i h0 _ e
    have e1 : r = 0 := by rw [← hr]; unfold oBitsR; rw [h0, numI_zero]; simp
    have e2 : t = decide (i ≤ 8 * n) := by rw [← ht]; unfold oBitsB; rw [h0, ← hn']; simp [h]
    refine sub_tp (.cons (sub_i (by simp only [Z.v]; omega)) (.cons (sub_b ?_) .nil))
    simp only [← hS, Int.ofNat_eq_natCast, cq, decide_eq_true_eq, decide_eq_false_iff_not, beq_iff_eq, beq_eq_false_iff_ne, ne_eq]
    rw [e2, e]
  · have e2 : t = false := by rw [← ht]; unfold oBitsB; simp [*]
    have e1 : r = 0 := by rw [← hr]; unfold oBitsR; rw [ht, e2]; rfl
    (repeat' (first | exact sub_any | exact Sub.rfl | exact SubL.nil | refine SubL.cons ?_ ?_ | exact sub_i rfl | refine sub_tp ?_ | refine sub_ag ?_ | exact sub_tt rfl | exact sub_ff rfl | exact sub_b_tt rfl | exact sub_b_ff rfl | (refine sub_i ?_; simp only [Z.v]; omega) | (refine sub_b ?_; assumption) | (refine sub_b ?_; simp only [← hS, Int.ofNat_eq_natCast, cq, decide_eq_true_eq, decide_eq_false_iff_not, beq_iff_eq, beq_eq_false_iff_ne, ne_eq]; done) | (refine sub_tt ?_; assumption) | (refine sub_ff ?_; assumption)))
  · have e2 : t = false := by rw [← ht]; unfold oBitsB; simp [*]
    have e1 : r = 0 := by rw [← hr]; unfold oBitsR; rw [ht, e2]; rfl
    (repeat' (first | exact sub_any | exact Sub.rfl | exact SubL.nil | refine SubL.cons ?_ ?_ | exact sub_i rfl | refine sub_tp ?_ | refine sub_ag ?_ | exact sub_tt rfl | exact sub_ff rfl | exact sub_b_tt rfl | exact sub_b_ff rfl | (refine sub_i ?_; simp only [Z.v]; omega) | (refine sub_b ?_; assumption) | (refine sub_b ?_; simp only [← hS, Int.ofNat_eq_natCast, cq, decide_eq_true_eq, decide_eq_false_iff_not, beq_iff_eq, beq_eq_false_iff_ne, ne_eq]; done) | (refine sub_tt ?_; assumption) | (refine sub_ff ?_; assumption)))
  · have e2 : t = false := by rw [← ht]; unfold oBitsB; rw [if_neg (by omega), if_pos (by omega)]
    have e1 : r = 0 := by rw [← hr]; unfold oBitsR; rw [ht, e2]; rfl
    (repeat' (first | exact sub_any | exact Sub.rfl | exact SubL.nil | refine SubL.cons ?_ ?_ | exact sub_i rfl | refine sub_tp ?_ | refine sub_ag ?_ | exact sub_tt rfl | exact sub_ff rfl | exact sub_b_tt rfl | exact sub_b_ff rfl | (refine sub_i ?_; simp only [Z.v]; omega) | (refine sub_b ?_; assumption) | (refine sub_b ?_; simp only [← hS, Int.ofNat_eq_natCast, cq, decide_eq_true_eq, decide_eq_false_iff_not, beq_iff_eq, beq_eq_false_iff_ne, ne_eq]; done) | (refine sub_tt ?_; assumption) | (refine sub_ff ?_; assumption)))
  · have e2 : t = okI b i k := by rw [← ht]; unfold oBitsB; rw [if_neg (by omega), if_neg (by omega)]
    refine use_read hS id (hc (by omega) (by omega) e2) .rfl rfl ?_ rfl ?_
    · exact ⟨⟨true, .l 0, 1, F, true, true, .l 0, F, rfl, hpl, rfl, .rfl⟩, trivial⟩
    · cbv; (repeat' (first | exact sub_any | exact Sub.rfl | exact SubL.nil | refine SubL.cons ?_ ?_ | exact sub_i rfl | refine sub_tp ?_ | refine sub_ag ?_ | exact sub_tt rfl | exact sub_ff rfl | exact sub_b_tt rfl | exact sub_b_ff rfl | (refine sub_i ?_; simp only [Z.v]; omega) | (refine sub_b ?_; assumption) | (refine sub_b ?_; simp only [← hS, Int.ofNat_eq_natCast, cq, decide_eq_true_eq, decide_eq_false_iff_not, beq_iff_eq, beq_eq_false_iff_ne, ne_eq]; done) | (refine sub_tt ?_; assumption) | (refine sub_ff ?_; assumption)))
end Cz
