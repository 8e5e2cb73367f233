/- Huff, part D: all codes' bytes. -/
import Derived.Test.YtjnpmipoenijdaaCzHc
namespace Cz
open Go Go.RowKit Go.Proofs
set_option linter.unusedSimpArgs false
set_option linter.unusedVariables false
set_option maxRecDepth 100000
set_option maxHeartbeats 4000000
def ent (n : Nat) : SV × SV := (.ag [.i .i64 (.y (codeI n)), .i .i64 (.y (clsI n))], .i .u8 (.y n))
def knownE (c : Nat) : List (SV × SV) := (List.range c).map ent
theorem known_noref (c : Nat) : norefM (knownE c) = true := by
  unfold knownE
  induction List.range c with
  | nil => rfl
  | cons n l ih => simp only [List.map_cons, ent, norefM, ih]; rfl
theorem SubM.refl : ∀ (es : List (SV × SV)), SubM es es
  | [] => .nil
  | (_, _) :: r => .cons .rfl .rfl (SubM.refl r)
theorem gcM_ok {n : Nat} : ∀ {es : List (SV × SV)}, norefM es = true → gcM n es = true
  | [], _ => rfl
  | (k, v) :: r, h => by
    simp only [norefM, Bool.and_eq_true] at h
    simp only [gcM, Bool.and_eq_true]
    exact ⟨⟨refsB_mono (fun _ h => by cases h) _ h.1.1, refsB_mono (fun _ h => by cases h) _ h.1.2⟩, gcM_ok h.2⟩
theorem gc_map {n : Nat} {es : List (SV × SV)} : norefM es = true → (match
      match es with
      | [] => true
      | (k, v) :: r => refsB (low n) k && refsB (low n) v && gcM n r with
    | false => false
    | true => true) = true := by
  intro h
  have := gcM_ok (n := n) h
  cases es with
  | nil => rfl
  | cons e r => simp only [gcM] at this; simp only [this]
theorem known_keys {n : Nat} {e : SV × SV} (h : e ∈ knownE n) : ∃ k, k < n ∧ e = ent k := by
  simp only [knownE, List.mem_map, List.mem_range] at h
  obtain ⟨k, hk, rfl⟩ := h
  exact ⟨k, hk, rfl⟩
theorem known_next (n : Nat) : knownE (n + 1) = knownE n ++ [ent n] := by
  unfold knownE; rw [List.range_succ, List.map_append]; rfl
theorem veq_2 {S : Sy} (hS : S0 Try.prog = S) {x y : Z} {a b : Int} {k1 k2 : Unit → Prop} (h1 : x.v = a → y.v = b → k1 ()) (h2 : (x.v ≠ a ∨ y.v ≠ b) → k2 ()) :
    veq S ⟨true, [.ki, .ki]⟩ (.ag [.i .i64 x, .i .i64 y]) (.ag [.i .i64 (.y a), .i .i64 (.y b)]) k1 k2 := by
  subst hS
  have e : ∀ (x : Z) (a : Int) (k1 k2 : Unit → Prop), (x.v = a → k1 ()) → (x.v ≠ a → k2 ()) → veq1 (S0 Try.prog) .ki (.i .i64 x) (.i .i64 (.y a)) k1 k2 := by
    intro x a k1 k2 h1 h2
    have : (S0 Try.prog).br ((S0 Try.prog).cmp .eq x.v a) k1 k2 := ⟨fun h => h1 (by simpa [cmp_eq] using h), fun h => h2 (by simpa [cmp_eq] using h)⟩
    cases x <;> exact this
  show veq1 (S0 Try.prog) .ki (.i .i64 x) (.i .i64 (.y a)) (fun _ => veq1 (S0 Try.prog) .ki (.i .i64 y) (.i .i64 (.y b)) (fun _ => k1 ()) k2) k2
  exact e x a _ _ (fun e1 => e y b _ _ (fun e2 => h1 e1 e2) fun n => h2 (.inr n)) fun n => h2 (.inl n)
theorem vmupd_new {S : Sy} (hS : S0 Try.prog = S) {x y : Z} {v : SV} {K : List (SV × SV) → Prop} : ∀ {es acc : List (SV × SV)} (h : ∀ e ∈ es, ∃ a b, e.1 = .ag [.i .i64 (.y a), .i .i64 (.y b)] ∧ (x.v ≠ a ∨ y.v ≠ b))
    (hK : K (acc ++ es ++ [(.ag [.i .i64 x, .i .i64 y], v)])), vmupd S ⟨true, [.ki, .ki]⟩ (.ag [.i .i64 x, .i .i64 y]) v K acc es
  | [], acc, _, hK => by simpa [vmupd] using hK
  | (k, u) :: r, acc, h, hK => by
    obtain ⟨a, b, e, hn⟩ := h _ (List.mem_cons_self ..)
    dsimp only at e
    subst e
    simp only [vmupd]
    refine veq_2 hS (fun e1 e2 => ?_) fun _ => vmupd_new hS (fun e he => h e (List.mem_cons_of_mem _ he)) (by simpa using hK)
    rcases hn with hn | hn <;> contradiction
theorem clsI_eq {c : Int} {m : Nat} {z : Z} (h : Hu.cls c.toNat = m) (hz : z.v = m) : clsI c = z.v := by unfold clsI; rw [h, hz]
theorem known_new {S : Sy} (hS : S0 Try.prog = S) {c a : Int} {z : Z} {K : List (SV × SV) → Prop} {es : List (SV × SV)} (h0 : 0 ≤ c) (hc : codeI c = a) (hm : clsI c = z.v) (he : es = knownE c.toNat)
    (hK : ∀ es', SubM es' (knownE (c + 1).toNat) → norefM es' = true → K es') :
    vmupd S ⟨true, [.ki, .ki]⟩ (.ag [.i .i64 (.y a), .i .i64 z]) (.i .u8 (.y c)) K [] es := by
  subst he
  refine vmupd_new hS (fun e h => ?_) (hK _ ?_ ?_)
  · obtain ⟨k, hk, rfl⟩ := known_keys h
    refine ⟨_, _, rfl, ?_⟩
    simp only [Z.v]
    by_cases e1 : a = codeI k
    · refine .inr fun e2 => ?_
      rw [← hc] at e1
      have e3 : clsI c = clsI k := hm.trans e2
      unfold codeI at e1; unfold clsI at e3
      simp only [Int.toNat_natCast] at e1 e3
      have := Hu.code_inj (c := c.toNat) (d := k) (by omega) (by omega)
      omega
    · exact .inl e1
  · rw [show (c + 1).toNat = c.toNat + 1 by omega, known_next, List.nil_append]
    have : ∀ (l : List (SV × SV)) (x y : SV × SV), Sub x.1 y.1 → Sub x.2 y.2 → SubM (l ++ [x]) (l ++ [y]) := by
      intro l x y h1 h2
      induction l with
      | nil => exact .cons h1 h2 .nil
      | cons e l ih => exact .cons .rfl .rfl ih
    refine this _ _ _ (sub_ag (.cons (sub_i ?_) (.cons (sub_i ?_) .nil))) (sub_i ?_)
    · simp only [Z.v]; rw [← hc, Int.toNat_of_nonneg h0]
    · rw [← hm, Int.toNat_of_nonneg h0]; rfl
    · simp only [Z.v]; omega
  · rw [List.nil_append]
    have := known_noref c.toNat
    generalize knownE c.toNat = l at this
    induction l with
    | nil => rfl
    | cons e l ih => obtain ⟨k, u⟩ := e; simp only [norefM, Bool.and_eq_true, List.cons_append] at this ⊢; exact ⟨this.1, ih this.2⟩
theorem known_f {T : List (SV × SV)} (hT : knownE 256 = T) : (S0 Try.prog).call 44 [] [] (MapIs 0 T) := by
  generalize hS : S0 Try.prog = S
  refine call_in' hS I.fn_huff_known ?_
  unfold I.huff_known
  cbv
  refine call_in' hS I.fn_huff_bytes ?_
  cbv
  refine rfc_in' hS I.fn_huff_bytes_1 ?_
  cbv
  iterate 4 (refine s_mu hS ?_; cbv)
  refine s_loop_up hS 5 I.dead_huff_bytes_1_0 (fun x : Int × Int × Int × Int × Int × List (SV × SV) => 0 ≤ x.1 ∧ x.1 ≤ 256 ∧ x.2.1 = cntI 5 x.1 ∧ x.2.2.1 = 32 + cntI 6 x.1 ∧ x.2.2.2.1 = 96 + cntI 7 x.1 ∧ x.2.2.2.2.1 = 1792 + cntI 11 x.1 ∧ x.2.2.2.2.2 = knownE x.1.toNat)
    (fun x => [(10, .i .i64 (.y x.1))])
    (fun x => [(0, .m x.2.2.2.2.2), (4, .m [(.i .i64 (.l 5), .i .i64 (.y x.2.1)), (.i .i64 (.l 6), .i .i64 (.y x.2.2.1)), (.i .i64 (.l 7), .i .i64 (.y x.2.2.2.1)), (.i .i64 (.l 11), .i .i64 (.y x.2.2.2.2.1))])])
    (fun x => (256 - x.1).toNat) (0, 0, 32, 96, 1792, []) rfl ⟨⟨Int.le_refl _, (by show (0 : Int) ≤ 256; omega), rfl, rfl, rfl, rfl, rfl⟩, rfl, ?_, ?_, ?_⟩ ?_
  · cbv; (repeat' (first | exact sub_any | exact Sub.rfl | exact SubL.nil | refine SubL.cons ?_ ?_ | exact sub_i rfl | refine sub_tp ?_ | refine sub_ag ?_ | exact sub_tt rfl | exact sub_ff rfl | exact sub_b_tt rfl | exact sub_b_ff rfl | (refine sub_i ?_; simp only [Z.v]; omega) | (refine sub_b ?_; assumption) | (refine sub_b ?_; simp only [← hS, Int.ofNat_eq_natCast, cq, decide_eq_true_eq, decide_eq_false_iff_not, beq_iff_eq, beq_eq_false_iff_ne, ne_eq]; done) | (refine sub_tt ?_; assumption) | (refine sub_ff ?_; assumption)))
  · cbv; (repeat' (first | exact trivial | exact SubB.rfl | refine And.intro ?_ ?_ | (exact SubB.c (by with_reducible assumption)) | (refine SubB.c ?_; (repeat' (first | exact sub_any | exact Sub.rfl | exact SubL.nil | refine SubL.cons ?_ ?_ | exact sub_i rfl | refine sub_tp ?_ | refine sub_ag ?_ | exact sub_tt rfl | exact sub_ff rfl | exact sub_b_tt rfl | exact sub_b_ff rfl | (refine sub_i ?_; simp only [Z.v]; omega) | (refine sub_b ?_; assumption) | (refine sub_b ?_; simp only [← hS, Int.ofNat_eq_natCast, cq, decide_eq_true_eq, decide_eq_false_iff_not, beq_iff_eq, beq_eq_false_iff_ne, ne_eq]; done) | (refine sub_tt ?_; assumption) | (refine sub_ff ?_; assumption))); done) | (refine SubB.m ?_; (repeat' (first | exact SubM.nil | refine SubM.cons ?_ ?_ ?_ | (focus ((repeat' (first | exact sub_any | exact Sub.rfl | exact SubL.nil | refine SubL.cons ?_ ?_ | exact sub_i rfl | refine sub_tp ?_ | refine sub_ag ?_ | exact sub_tt rfl | exact sub_ff rfl | exact sub_b_tt rfl | exact sub_b_ff rfl | (refine sub_i ?_; simp only [Z.v]; omega) | (refine sub_b ?_; assumption) | (refine sub_b ?_; simp only [← hS, Int.ofNat_eq_natCast, cq, decide_eq_true_eq, decide_eq_false_iff_not, beq_iff_eq, beq_eq_false_iff_ne, ne_eq]; done) | (refine sub_tt ?_; assumption) | (refine sub_ff ?_; assumption))); done)))); done)))
  · cbv
  · intro x
    obtain ⟨c, a5, a6, a7, a11, F⟩ := x
    intro ha
    dsimp only at ha
    cbv
    obtain ⟨h0, h1, e5, e6, e7, e11, hF⟩ := ha
    refine s_br hS ?_ ?_ <;> intro h
    · cbv
      simp only [← hS, Int.ofNat_eq_natCast, cq, decide_eq_true_eq, decide_eq_false_iff_not, beq_iff_eq, beq_eq_false_iff_ne, ne_eq] at h
      have k5 := cntI_bd (m := 5) h0
      have k6 := cntI_bd (m := 6) h0
      have k7 := cntI_bd (m := 7) h0
      have k11 := cntI_bd (m := 11) h0
      rcases idx_at h0 h with ⟨hc, i5, i6, i7⟩ | ⟨hc, i5, i6, i7⟩ | ⟨hc, i5, i6, i7⟩ | ⟨hc, i5, i6, i7⟩
      · refine s_loop_one hS ?_
        cbv
        repeat' (first
            | (refine s_eqs hS rfl ?_; try cbv)
            | (refine s_eqt hS rfl ?_ ?_; (focus (cbv; (repeat' (first | exact trivial | rfl | refine And.intro ?_ ?_ | assumption | omega | (simp only [← hS, Int.ofNat_eq_natCast, cq, decide_eq_true_eq, decide_eq_false_iff_not, beq_iff_eq, beq_eq_false_iff_ne, ne_eq]; done) | (simp only [← hS, Int.ofNat_eq_natCast, cq, decide_eq_true_eq, decide_eq_false_iff_not, beq_iff_eq, beq_eq_false_iff_ne, ne_eq]; first | assumption | omega))); done)); try cbv)
            | (refine s_eqo hS ?_; try cbv)
            | (refine s_lk hS ?_; try cbv)
            | (refine s_mu hS ?_; try cbv)
            | (refine s_chk hS (by simp only [← hS, Int.ofNat_eq_natCast, cq, decide_eq_true_eq, decide_eq_false_iff_not, beq_iff_eq, beq_eq_false_iff_ne, ne_eq]; omega) ?_; try cbv)
            | (refine s_br hS ?_ ?_ <;> intro h <;> (try cbv) <;> (try simp only [← hS, Int.ofNat_eq_natCast, cq, decide_eq_true_eq, decide_eq_false_iff_not, beq_iff_eq, beq_eq_false_iff_ne, ne_eq] at h) <;> first | (exfalso; omega) | (exact absurd trivial h) | (exact (no_tf h).elim) | (exact (no_ft h).elim) | (exact (no_both h (by with_reducible assumption)).elim) | (exact (no_both (by with_reducible assumption) h).elim) | skip)
            | (refine s_add hS ?_ (by simp only [lo]; omega) (by simp only [hi]; omega); intro _ _; try cbv)
            | (refine s_sub hS ?_ (by simp only [lo]; omega) (by simp only [hi]; omega); intro _ _; try cbv)
            | (refine s_cvi hS ?_ (by simp only [lo]; omega) (by simp only [hi]; omega); try cbv))
        refine index_u hS fun r5 h5 => ?_
        replace h5 : 0 ≤ r5 := by rw [← h5]; exact i5
        cbv
        repeat' (first
            | (refine s_eqs hS rfl ?_; try cbv)
            | (refine s_eqt hS rfl ?_ ?_; (focus (cbv; (repeat' (first | exact trivial | rfl | refine And.intro ?_ ?_ | assumption | omega | (simp only [← hS, Int.ofNat_eq_natCast, cq, decide_eq_true_eq, decide_eq_false_iff_not, beq_iff_eq, beq_eq_false_iff_ne, ne_eq]; done) | (simp only [← hS, Int.ofNat_eq_natCast, cq, decide_eq_true_eq, decide_eq_false_iff_not, beq_iff_eq, beq_eq_false_iff_ne, ne_eq]; first | assumption | omega))); done)); try cbv)
            | (refine s_eqo hS ?_; try cbv)
            | (refine s_lk hS ?_; try cbv)
            | (refine s_mu hS ?_; try cbv)
            | (refine s_chk hS (by simp only [← hS, Int.ofNat_eq_natCast, cq, decide_eq_true_eq, decide_eq_false_iff_not, beq_iff_eq, beq_eq_false_iff_ne, ne_eq]; omega) ?_; try cbv)
            | (refine s_br hS ?_ ?_ <;> intro h <;> (try cbv) <;> (try simp only [← hS, Int.ofNat_eq_natCast, cq, decide_eq_true_eq, decide_eq_false_iff_not, beq_iff_eq, beq_eq_false_iff_ne, ne_eq] at h) <;> first | (exfalso; omega) | (exact absurd trivial h) | (exact (no_tf h).elim) | (exact (no_ft h).elim) | (exact (no_both h (by with_reducible assumption)).elim) | (exact (no_both (by with_reducible assumption) h).elim) | skip)
            | (refine s_add hS ?_ (by simp only [lo]; omega) (by simp only [hi]; omega); intro _ _; try cbv)
            | (refine s_sub hS ?_ (by simp only [lo]; omega) (by simp only [hi]; omega); intro _ _; try cbv)
            | (refine s_cvi hS ?_ (by simp only [lo]; omega) (by simp only [hi]; omega); try cbv))
        refine s_loop_one hS ?_
        cbv
        repeat' (first
            | (refine s_eqs hS rfl ?_; try cbv)
            | (refine s_eqt hS rfl ?_ ?_; (focus (cbv; (repeat' (first | exact trivial | rfl | refine And.intro ?_ ?_ | assumption | omega | (simp only [← hS, Int.ofNat_eq_natCast, cq, decide_eq_true_eq, decide_eq_false_iff_not, beq_iff_eq, beq_eq_false_iff_ne, ne_eq]; done) | (simp only [← hS, Int.ofNat_eq_natCast, cq, decide_eq_true_eq, decide_eq_false_iff_not, beq_iff_eq, beq_eq_false_iff_ne, ne_eq]; first | assumption | omega))); done)); try cbv)
            | (refine s_eqo hS ?_; try cbv)
            | (refine s_lk hS ?_; try cbv)
            | (refine s_mu hS ?_; try cbv)
            | (refine s_chk hS (by simp only [← hS, Int.ofNat_eq_natCast, cq, decide_eq_true_eq, decide_eq_false_iff_not, beq_iff_eq, beq_eq_false_iff_ne, ne_eq]; omega) ?_; try cbv)
            | (refine s_br hS ?_ ?_ <;> intro h <;> (try cbv) <;> (try simp only [← hS, Int.ofNat_eq_natCast, cq, decide_eq_true_eq, decide_eq_false_iff_not, beq_iff_eq, beq_eq_false_iff_ne, ne_eq] at h) <;> first | (exfalso; omega) | (exact absurd trivial h) | (exact (no_tf h).elim) | (exact (no_ft h).elim) | (exact (no_both h (by with_reducible assumption)).elim) | (exact (no_both (by with_reducible assumption) h).elim) | skip)
            | (refine s_add hS ?_ (by simp only [lo]; omega) (by simp only [hi]; omega); intro _ _; try cbv)
            | (refine s_sub hS ?_ (by simp only [lo]; omega) (by simp only [hi]; omega); intro _ _; try cbv)
            | (refine s_cvi hS ?_ (by simp only [lo]; omega) (by simp only [hi]; omega); try cbv))
        refine index_u hS fun r6 h6 => ?_
        replace h6 : r6 < 0 := by rw [← h6]; exact i6
        cbv
        repeat' (first
            | (refine s_eqs hS rfl ?_; try cbv)
            | (refine s_eqt hS rfl ?_ ?_; (focus (cbv; (repeat' (first | exact trivial | rfl | refine And.intro ?_ ?_ | assumption | omega | (simp only [← hS, Int.ofNat_eq_natCast, cq, decide_eq_true_eq, decide_eq_false_iff_not, beq_iff_eq, beq_eq_false_iff_ne, ne_eq]; done) | (simp only [← hS, Int.ofNat_eq_natCast, cq, decide_eq_true_eq, decide_eq_false_iff_not, beq_iff_eq, beq_eq_false_iff_ne, ne_eq]; first | assumption | omega))); done)); try cbv)
            | (refine s_eqo hS ?_; try cbv)
            | (refine s_lk hS ?_; try cbv)
            | (refine s_mu hS ?_; try cbv)
            | (refine s_chk hS (by simp only [← hS, Int.ofNat_eq_natCast, cq, decide_eq_true_eq, decide_eq_false_iff_not, beq_iff_eq, beq_eq_false_iff_ne, ne_eq]; omega) ?_; try cbv)
            | (refine s_br hS ?_ ?_ <;> intro h <;> (try cbv) <;> (try simp only [← hS, Int.ofNat_eq_natCast, cq, decide_eq_true_eq, decide_eq_false_iff_not, beq_iff_eq, beq_eq_false_iff_ne, ne_eq] at h) <;> first | (exfalso; omega) | (exact absurd trivial h) | (exact (no_tf h).elim) | (exact (no_ft h).elim) | (exact (no_both h (by with_reducible assumption)).elim) | (exact (no_both (by with_reducible assumption) h).elim) | skip)
            | (refine s_add hS ?_ (by simp only [lo]; omega) (by simp only [hi]; omega); intro _ _; try cbv)
            | (refine s_sub hS ?_ (by simp only [lo]; omega) (by simp only [hi]; omega); intro _ _; try cbv)
            | (refine s_cvi hS ?_ (by simp only [lo]; omega) (by simp only [hi]; omega); try cbv))
        refine s_loop_one hS ?_
        cbv
        repeat' (first
            | (refine s_eqs hS rfl ?_; try cbv)
            | (refine s_eqt hS rfl ?_ ?_; (focus (cbv; (repeat' (first | exact trivial | rfl | refine And.intro ?_ ?_ | assumption | omega | (simp only [← hS, Int.ofNat_eq_natCast, cq, decide_eq_true_eq, decide_eq_false_iff_not, beq_iff_eq, beq_eq_false_iff_ne, ne_eq]; done) | (simp only [← hS, Int.ofNat_eq_natCast, cq, decide_eq_true_eq, decide_eq_false_iff_not, beq_iff_eq, beq_eq_false_iff_ne, ne_eq]; first | assumption | omega))); done)); try cbv)
            | (refine s_eqo hS ?_; try cbv)
            | (refine s_lk hS ?_; try cbv)
            | (refine s_mu hS ?_; try cbv)
            | (refine s_chk hS (by simp only [← hS, Int.ofNat_eq_natCast, cq, decide_eq_true_eq, decide_eq_false_iff_not, beq_iff_eq, beq_eq_false_iff_ne, ne_eq]; omega) ?_; try cbv)
            | (refine s_br hS ?_ ?_ <;> intro h <;> (try cbv) <;> (try simp only [← hS, Int.ofNat_eq_natCast, cq, decide_eq_true_eq, decide_eq_false_iff_not, beq_iff_eq, beq_eq_false_iff_ne, ne_eq] at h) <;> first | (exfalso; omega) | (exact absurd trivial h) | (exact (no_tf h).elim) | (exact (no_ft h).elim) | (exact (no_both h (by with_reducible assumption)).elim) | (exact (no_both (by with_reducible assumption) h).elim) | skip)
            | (refine s_add hS ?_ (by simp only [lo]; omega) (by simp only [hi]; omega); intro _ _; try cbv)
            | (refine s_sub hS ?_ (by simp only [lo]; omega) (by simp only [hi]; omega); intro _ _; try cbv)
            | (refine s_cvi hS ?_ (by simp only [lo]; omega) (by simp only [hi]; omega); try cbv))
        refine index_u hS fun r7 h7 => ?_
        replace h7 : r7 < 0 := by rw [← h7]; exact i7
        cbv
        repeat' (first
            | (refine s_eqs hS rfl ?_; try cbv)
            | (refine s_eqt hS rfl ?_ ?_; (focus (cbv; (repeat' (first | exact trivial | rfl | refine And.intro ?_ ?_ | assumption | omega | (simp only [← hS, Int.ofNat_eq_natCast, cq, decide_eq_true_eq, decide_eq_false_iff_not, beq_iff_eq, beq_eq_false_iff_ne, ne_eq]; done) | (simp only [← hS, Int.ofNat_eq_natCast, cq, decide_eq_true_eq, decide_eq_false_iff_not, beq_iff_eq, beq_eq_false_iff_ne, ne_eq]; first | assumption | omega))); done)); try cbv)
            | (refine s_eqo hS ?_; try cbv)
            | (refine s_lk hS ?_; try cbv)
            | (refine s_mu hS ?_; try cbv)
            | (refine s_chk hS (by simp only [← hS, Int.ofNat_eq_natCast, cq, decide_eq_true_eq, decide_eq_false_iff_not, beq_iff_eq, beq_eq_false_iff_ne, ne_eq]; omega) ?_; try cbv)
            | (refine s_br hS ?_ ?_ <;> intro h <;> (try cbv) <;> (try simp only [← hS, Int.ofNat_eq_natCast, cq, decide_eq_true_eq, decide_eq_false_iff_not, beq_iff_eq, beq_eq_false_iff_ne, ne_eq] at h) <;> first | (exfalso; omega) | (exact absurd trivial h) | (exact (no_tf h).elim) | (exact (no_ft h).elim) | (exact (no_both h (by with_reducible assumption)).elim) | (exact (no_both (by with_reducible assumption) h).elim) | skip)
            | (refine s_add hS ?_ (by simp only [lo]; omega) (by simp only [hi]; omega); intro _ _; try cbv)
            | (refine s_sub hS ?_ (by simp only [lo]; omega) (by simp only [hi]; omega); intro _ _; try cbv)
            | (refine s_cvi hS ?_ (by simp only [lo]; omega) (by simp only [hi]; omega); try cbv))
        refine s_loop_one hS ?_
        cbv
        repeat' (first
            | (refine s_eqs hS rfl ?_; try cbv)
            | (refine s_eqt hS rfl ?_ ?_; (focus (cbv; (repeat' (first | exact trivial | rfl | refine And.intro ?_ ?_ | assumption | omega | (simp only [← hS, Int.ofNat_eq_natCast, cq, decide_eq_true_eq, decide_eq_false_iff_not, beq_iff_eq, beq_eq_false_iff_ne, ne_eq]; done) | (simp only [← hS, Int.ofNat_eq_natCast, cq, decide_eq_true_eq, decide_eq_false_iff_not, beq_iff_eq, beq_eq_false_iff_ne, ne_eq]; first | assumption | omega))); done)); try cbv)
            | (refine s_eqo hS ?_; try cbv)
            | (refine s_lk hS ?_; try cbv)
            | (refine s_mu hS ?_; try cbv)
            | (refine s_chk hS (by simp only [← hS, Int.ofNat_eq_natCast, cq, decide_eq_true_eq, decide_eq_false_iff_not, beq_iff_eq, beq_eq_false_iff_ne, ne_eq]; omega) ?_; try cbv)
            | (refine s_br hS ?_ ?_ <;> intro h <;> (try cbv) <;> (try simp only [← hS, Int.ofNat_eq_natCast, cq, decide_eq_true_eq, decide_eq_false_iff_not, beq_iff_eq, beq_eq_false_iff_ne, ne_eq] at h) <;> first | (exfalso; omega) | (exact absurd trivial h) | (exact (no_tf h).elim) | (exact (no_ft h).elim) | (exact (no_both h (by with_reducible assumption)).elim) | (exact (no_both (by with_reducible assumption) h).elim) | skip)
            | (refine s_add hS ?_ (by simp only [lo]; omega) (by simp only [hi]; omega); intro _ _; try cbv)
            | (refine s_sub hS ?_ (by simp only [lo]; omega) (by simp only [hi]; omega); intro _ _; try cbv)
            | (refine s_cvi hS ?_ (by simp only [lo]; omega) (by simp only [hi]; omega); try cbv))
        refine s_yld hS rfl rfl ?_
        cbv
        refine s_mu hS ?_
        refine known_new hS h0 (by rw [codeI_eq hc]; simp [Hu.base]; omega) (clsI_eq hc rfl) hF fun F' hF' hN => ?_
        cbv
        repeat' (first
            | (refine s_eqs hS rfl ?_; try cbv)
            | (refine s_eqt hS rfl ?_ ?_; (focus (cbv; (repeat' (first | exact trivial | rfl | refine And.intro ?_ ?_ | assumption | omega | (simp only [← hS, Int.ofNat_eq_natCast, cq, decide_eq_true_eq, decide_eq_false_iff_not, beq_iff_eq, beq_eq_false_iff_ne, ne_eq]; done) | (simp only [← hS, Int.ofNat_eq_natCast, cq, decide_eq_true_eq, decide_eq_false_iff_not, beq_iff_eq, beq_eq_false_iff_ne, ne_eq]; first | assumption | omega))); done)); try cbv)
            | (refine s_eqo hS ?_; try cbv)
            | (refine s_lk hS ?_; try cbv)
            | (refine s_mu hS ?_; try cbv)
            | (refine s_chk hS (by simp only [← hS, Int.ofNat_eq_natCast, cq, decide_eq_true_eq, decide_eq_false_iff_not, beq_iff_eq, beq_eq_false_iff_ne, ne_eq]; omega) ?_; try cbv)
            | (refine s_br hS ?_ ?_ <;> intro h <;> (try cbv) <;> (try simp only [← hS, Int.ofNat_eq_natCast, cq, decide_eq_true_eq, decide_eq_false_iff_not, beq_iff_eq, beq_eq_false_iff_ne, ne_eq] at h) <;> first | (exfalso; omega) | (exact absurd trivial h) | (exact (no_tf h).elim) | (exact (no_ft h).elim) | (exact (no_both h (by with_reducible assumption)).elim) | (exact (no_both (by with_reducible assumption) h).elim) | skip)
            | (refine s_add hS ?_ (by simp only [lo]; omega) (by simp only [hi]; omega); intro _ _; try cbv)
            | (refine s_sub hS ?_ (by simp only [lo]; omega) (by simp only [hi]; omega); intro _ _; try cbv)
            | (refine s_cvi hS ?_ (by simp only [lo]; omega) (by simp only [hi]; omega); try cbv))
        obtain ⟨c1, h_c1⟩ : ∃ r_, r_ = c + 1 := ⟨_, rfl⟩
        obtain ⟨F2, hF2⟩ : ∃ F2, F2 = knownE c1.toNat := ⟨_, rfl⟩
        obtain ⟨b5, h_b5⟩ : ∃ r_, r_ = a5 + 1 := ⟨_, rfl⟩
        have n5 := cntI_next (m := 5) h0
        have n6 := cntI_next (m := 6) h0
        have n7 := cntI_next (m := 7) h0
        have n11 := cntI_next (m := 11) h0
        rw [hc, ← h_c1] at n5 n6 n7 n11
        simp at n5 n6 n7 n11
        have hsub : SubM F' F2 := by
          rw [hF2, h_c1]
          exact hF'
        refine ⟨(c1, b5, a6, a7, a11, F2), by dsimp only; omega, ⟨by dsimp only; omega, by dsimp only; omega, by dsimp only; omega, by dsimp only; omega, by dsimp only; omega, by dsimp only; omega, hF2⟩, rfl, ?_, ?_, ?_⟩
        · cbv; (repeat' (first | exact sub_any | exact Sub.rfl | exact SubL.nil | refine SubL.cons ?_ ?_ | exact sub_i rfl | refine sub_tp ?_ | refine sub_ag ?_ | exact sub_tt rfl | exact sub_ff rfl | exact sub_b_tt rfl | exact sub_b_ff rfl | (refine sub_i ?_; simp only [Z.v]; omega) | (refine sub_b ?_; assumption) | (refine sub_b ?_; simp only [← hS, Int.ofNat_eq_natCast, cq, decide_eq_true_eq, decide_eq_false_iff_not, beq_iff_eq, beq_eq_false_iff_ne, ne_eq]; done) | (refine sub_tt ?_; assumption) | (refine sub_ff ?_; assumption)))
        · cbv; refine ⟨SubB.m hsub, ?_⟩; (repeat' (first | exact trivial | exact SubB.rfl | refine And.intro ?_ ?_ | (exact SubB.c (by with_reducible assumption)) | (refine SubB.c ?_; (repeat' (first | exact sub_any | exact Sub.rfl | exact SubL.nil | refine SubL.cons ?_ ?_ | exact sub_i rfl | refine sub_tp ?_ | refine sub_ag ?_ | exact sub_tt rfl | exact sub_ff rfl | exact sub_b_tt rfl | exact sub_b_ff rfl | (refine sub_i ?_; simp only [Z.v]; omega) | (refine sub_b ?_; assumption) | (refine sub_b ?_; simp only [← hS, Int.ofNat_eq_natCast, cq, decide_eq_true_eq, decide_eq_false_iff_not, beq_iff_eq, beq_eq_false_iff_ne, ne_eq]; done) | (refine sub_tt ?_; assumption) | (refine sub_ff ?_; assumption))); done) | (refine SubB.m ?_; (repeat' (first | exact SubM.nil | refine SubM.cons ?_ ?_ ?_ | (focus ((repeat' (first | exact sub_any | exact Sub.rfl | exact SubL.nil | refine SubL.cons ?_ ?_ | exact sub_i rfl | refine sub_tp ?_ | refine sub_ag ?_ | exact sub_tt rfl | exact sub_ff rfl | exact sub_b_tt rfl | exact sub_b_ff rfl | (refine sub_i ?_; simp only [Z.v]; omega) | (refine sub_b ?_; assumption) | (refine sub_b ?_; simp only [← hS, Int.ofNat_eq_natCast, cq, decide_eq_true_eq, decide_eq_false_iff_not, beq_iff_eq, beq_eq_false_iff_ne, ne_eq]; done) | (refine sub_tt ?_; assumption) | (refine sub_ff ?_; assumption))); done)))); done)))
        · cbv
          exact gc_map (by rw [hF2]; exact known_noref _)
      · refine s_loop_one hS ?_
        cbv
        repeat' (first
            | (refine s_eqs hS rfl ?_; try cbv)
            | (refine s_eqt hS rfl ?_ ?_; (focus (cbv; (repeat' (first | exact trivial | rfl | refine And.intro ?_ ?_ | assumption | omega | (simp only [← hS, Int.ofNat_eq_natCast, cq, decide_eq_true_eq, decide_eq_false_iff_not, beq_iff_eq, beq_eq_false_iff_ne, ne_eq]; done) | (simp only [← hS, Int.ofNat_eq_natCast, cq, decide_eq_true_eq, decide_eq_false_iff_not, beq_iff_eq, beq_eq_false_iff_ne, ne_eq]; first | assumption | omega))); done)); try cbv)
            | (refine s_eqo hS ?_; try cbv)
            | (refine s_lk hS ?_; try cbv)
            | (refine s_mu hS ?_; try cbv)
            | (refine s_chk hS (by simp only [← hS, Int.ofNat_eq_natCast, cq, decide_eq_true_eq, decide_eq_false_iff_not, beq_iff_eq, beq_eq_false_iff_ne, ne_eq]; omega) ?_; try cbv)
            | (refine s_br hS ?_ ?_ <;> intro h <;> (try cbv) <;> (try simp only [← hS, Int.ofNat_eq_natCast, cq, decide_eq_true_eq, decide_eq_false_iff_not, beq_iff_eq, beq_eq_false_iff_ne, ne_eq] at h) <;> first | (exfalso; omega) | (exact absurd trivial h) | (exact (no_tf h).elim) | (exact (no_ft h).elim) | (exact (no_both h (by with_reducible assumption)).elim) | (exact (no_both (by with_reducible assumption) h).elim) | skip)
            | (refine s_add hS ?_ (by simp only [lo]; omega) (by simp only [hi]; omega); intro _ _; try cbv)
            | (refine s_sub hS ?_ (by simp only [lo]; omega) (by simp only [hi]; omega); intro _ _; try cbv)
            | (refine s_cvi hS ?_ (by simp only [lo]; omega) (by simp only [hi]; omega); try cbv))
        refine index_u hS fun r5 h5 => ?_
        replace h5 : r5 < 0 := by rw [← h5]; exact i5
        cbv
        repeat' (first
            | (refine s_eqs hS rfl ?_; try cbv)
            | (refine s_eqt hS rfl ?_ ?_; (focus (cbv; (repeat' (first | exact trivial | rfl | refine And.intro ?_ ?_ | assumption | omega | (simp only [← hS, Int.ofNat_eq_natCast, cq, decide_eq_true_eq, decide_eq_false_iff_not, beq_iff_eq, beq_eq_false_iff_ne, ne_eq]; done) | (simp only [← hS, Int.ofNat_eq_natCast, cq, decide_eq_true_eq, decide_eq_false_iff_not, beq_iff_eq, beq_eq_false_iff_ne, ne_eq]; first | assumption | omega))); done)); try cbv)
            | (refine s_eqo hS ?_; try cbv)
            | (refine s_lk hS ?_; try cbv)
            | (refine s_mu hS ?_; try cbv)
            | (refine s_chk hS (by simp only [← hS, Int.ofNat_eq_natCast, cq, decide_eq_true_eq, decide_eq_false_iff_not, beq_iff_eq, beq_eq_false_iff_ne, ne_eq]; omega) ?_; try cbv)
            | (refine s_br hS ?_ ?_ <;> intro h <;> (try cbv) <;> (try simp only [← hS, Int.ofNat_eq_natCast, cq, decide_eq_true_eq, decide_eq_false_iff_not, beq_iff_eq, beq_eq_false_iff_ne, ne_eq] at h) <;> first | (exfalso; omega) | (exact absurd trivial h) | (exact (no_tf h).elim) | (exact (no_ft h).elim) | (exact (no_both h (by with_reducible assumption)).elim) | (exact (no_both (by with_reducible assumption) h).elim) | skip)
            | (refine s_add hS ?_ (by simp only [lo]; omega) (by simp only [hi]; omega); intro _ _; try cbv)
            | (refine s_sub hS ?_ (by simp only [lo]; omega) (by simp only [hi]; omega); intro _ _; try cbv)
            | (refine s_cvi hS ?_ (by simp only [lo]; omega) (by simp only [hi]; omega); try cbv))
        refine s_loop_one hS ?_
        cbv
        repeat' (first
            | (refine s_eqs hS rfl ?_; try cbv)
            | (refine s_eqt hS rfl ?_ ?_; (focus (cbv; (repeat' (first | exact trivial | rfl | refine And.intro ?_ ?_ | assumption | omega | (simp only [← hS, Int.ofNat_eq_natCast, cq, decide_eq_true_eq, decide_eq_false_iff_not, beq_iff_eq, beq_eq_false_iff_ne, ne_eq]; done) | (simp only [← hS, Int.ofNat_eq_natCast, cq, decide_eq_true_eq, decide_eq_false_iff_not, beq_iff_eq, beq_eq_false_iff_ne, ne_eq]; first | assumption | omega))); done)); try cbv)
            | (refine s_eqo hS ?_; try cbv)
            | (refine s_lk hS ?_; try cbv)
            | (refine s_mu hS ?_; try cbv)
            | (refine s_chk hS (by simp only [← hS, Int.ofNat_eq_natCast, cq, decide_eq_true_eq, decide_eq_false_iff_not, beq_iff_eq, beq_eq_false_iff_ne, ne_eq]; omega) ?_; try cbv)
            | (refine s_br hS ?_ ?_ <;> intro h <;> (try cbv) <;> (try simp only [← hS, Int.ofNat_eq_natCast, cq, decide_eq_true_eq, decide_eq_false_iff_not, beq_iff_eq, beq_eq_false_iff_ne, ne_eq] at h) <;> first | (exfalso; omega) | (exact absurd trivial h) | (exact (no_tf h).elim) | (exact (no_ft h).elim) | (exact (no_both h (by with_reducible assumption)).elim) | (exact (no_both (by with_reducible assumption) h).elim) | skip)
            | (refine s_add hS ?_ (by simp only [lo]; omega) (by simp only [hi]; omega); intro _ _; try cbv)
            | (refine s_sub hS ?_ (by simp only [lo]; omega) (by simp only [hi]; omega); intro _ _; try cbv)
            | (refine s_cvi hS ?_ (by simp only [lo]; omega) (by simp only [hi]; omega); try cbv))
        refine index_u hS fun r6 h6 => ?_
        replace h6 : 0 ≤ r6 := by rw [← h6]; exact i6
        cbv
        repeat' (first
            | (refine s_eqs hS rfl ?_; try cbv)
            | (refine s_eqt hS rfl ?_ ?_; (focus (cbv; (repeat' (first | exact trivial | rfl | refine And.intro ?_ ?_ | assumption | omega | (simp only [← hS, Int.ofNat_eq_natCast, cq, decide_eq_true_eq, decide_eq_false_iff_not, beq_iff_eq, beq_eq_false_iff_ne, ne_eq]; done) | (simp only [← hS, Int.ofNat_eq_natCast, cq, decide_eq_true_eq, decide_eq_false_iff_not, beq_iff_eq, beq_eq_false_iff_ne, ne_eq]; first | assumption | omega))); done)); try cbv)
            | (refine s_eqo hS ?_; try cbv)
            | (refine s_lk hS ?_; try cbv)
            | (refine s_mu hS ?_; try cbv)
            | (refine s_chk hS (by simp only [← hS, Int.ofNat_eq_natCast, cq, decide_eq_true_eq, decide_eq_false_iff_not, beq_iff_eq, beq_eq_false_iff_ne, ne_eq]; omega) ?_; try cbv)
            | (refine s_br hS ?_ ?_ <;> intro h <;> (try cbv) <;> (try simp only [← hS, Int.ofNat_eq_natCast, cq, decide_eq_true_eq, decide_eq_false_iff_not, beq_iff_eq, beq_eq_false_iff_ne, ne_eq] at h) <;> first | (exfalso; omega) | (exact absurd trivial h) | (exact (no_tf h).elim) | (exact (no_ft h).elim) | (exact (no_both h (by with_reducible assumption)).elim) | (exact (no_both (by with_reducible assumption) h).elim) | skip)
            | (refine s_add hS ?_ (by simp only [lo]; omega) (by simp only [hi]; omega); intro _ _; try cbv)
            | (refine s_sub hS ?_ (by simp only [lo]; omega) (by simp only [hi]; omega); intro _ _; try cbv)
            | (refine s_cvi hS ?_ (by simp only [lo]; omega) (by simp only [hi]; omega); try cbv))
        refine s_loop_one hS ?_
        cbv
        repeat' (first
            | (refine s_eqs hS rfl ?_; try cbv)
            | (refine s_eqt hS rfl ?_ ?_; (focus (cbv; (repeat' (first | exact trivial | rfl | refine And.intro ?_ ?_ | assumption | omega | (simp only [← hS, Int.ofNat_eq_natCast, cq, decide_eq_true_eq, decide_eq_false_iff_not, beq_iff_eq, beq_eq_false_iff_ne, ne_eq]; done) | (simp only [← hS, Int.ofNat_eq_natCast, cq, decide_eq_true_eq, decide_eq_false_iff_not, beq_iff_eq, beq_eq_false_iff_ne, ne_eq]; first | assumption | omega))); done)); try cbv)
            | (refine s_eqo hS ?_; try cbv)
            | (refine s_lk hS ?_; try cbv)
            | (refine s_mu hS ?_; try cbv)
            | (refine s_chk hS (by simp only [← hS, Int.ofNat_eq_natCast, cq, decide_eq_true_eq, decide_eq_false_iff_not, beq_iff_eq, beq_eq_false_iff_ne, ne_eq]; omega) ?_; try cbv)
            | (refine s_br hS ?_ ?_ <;> intro h <;> (try cbv) <;> (try simp only [← hS, Int.ofNat_eq_natCast, cq, decide_eq_true_eq, decide_eq_false_iff_not, beq_iff_eq, beq_eq_false_iff_ne, ne_eq] at h) <;> first | (exfalso; omega) | (exact absurd trivial h) | (exact (no_tf h).elim) | (exact (no_ft h).elim) | (exact (no_both h (by with_reducible assumption)).elim) | (exact (no_both (by with_reducible assumption) h).elim) | skip)
            | (refine s_add hS ?_ (by simp only [lo]; omega) (by simp only [hi]; omega); intro _ _; try cbv)
            | (refine s_sub hS ?_ (by simp only [lo]; omega) (by simp only [hi]; omega); intro _ _; try cbv)
            | (refine s_cvi hS ?_ (by simp only [lo]; omega) (by simp only [hi]; omega); try cbv))
        refine index_u hS fun r7 h7 => ?_
        replace h7 : r7 < 0 := by rw [← h7]; exact i7
        cbv
        repeat' (first
            | (refine s_eqs hS rfl ?_; try cbv)
            | (refine s_eqt hS rfl ?_ ?_; (focus (cbv; (repeat' (first | exact trivial | rfl | refine And.intro ?_ ?_ | assumption | omega | (simp only [← hS, Int.ofNat_eq_natCast, cq, decide_eq_true_eq, decide_eq_false_iff_not, beq_iff_eq, beq_eq_false_iff_ne, ne_eq]; done) | (simp only [← hS, Int.ofNat_eq_natCast, cq, decide_eq_true_eq, decide_eq_false_iff_not, beq_iff_eq, beq_eq_false_iff_ne, ne_eq]; first | assumption | omega))); done)); try cbv)
            | (refine s_eqo hS ?_; try cbv)
            | (refine s_lk hS ?_; try cbv)
            | (refine s_mu hS ?_; try cbv)
            | (refine s_chk hS (by simp only [← hS, Int.ofNat_eq_natCast, cq, decide_eq_true_eq, decide_eq_false_iff_not, beq_iff_eq, beq_eq_false_iff_ne, ne_eq]; omega) ?_; try cbv)
            | (refine s_br hS ?_ ?_ <;> intro h <;> (try cbv) <;> (try simp only [← hS, Int.ofNat_eq_natCast, cq, decide_eq_true_eq, decide_eq_false_iff_not, beq_iff_eq, beq_eq_false_iff_ne, ne_eq] at h) <;> first | (exfalso; omega) | (exact absurd trivial h) | (exact (no_tf h).elim) | (exact (no_ft h).elim) | (exact (no_both h (by with_reducible assumption)).elim) | (exact (no_both (by with_reducible assumption) h).elim) | skip)
            | (refine s_add hS ?_ (by simp only [lo]; omega) (by simp only [hi]; omega); intro _ _; try cbv)
            | (refine s_sub hS ?_ (by simp only [lo]; omega) (by simp only [hi]; omega); intro _ _; try cbv)
            | (refine s_cvi hS ?_ (by simp only [lo]; omega) (by simp only [hi]; omega); try cbv))
        refine s_loop_one hS ?_
        cbv
        repeat' (first
            | (refine s_eqs hS rfl ?_; try cbv)
            | (refine s_eqt hS rfl ?_ ?_; (focus (cbv; (repeat' (first | exact trivial | rfl | refine And.intro ?_ ?_ | assumption | omega | (simp only [← hS, Int.ofNat_eq_natCast, cq, decide_eq_true_eq, decide_eq_false_iff_not, beq_iff_eq, beq_eq_false_iff_ne, ne_eq]; done) | (simp only [← hS, Int.ofNat_eq_natCast, cq, decide_eq_true_eq, decide_eq_false_iff_not, beq_iff_eq, beq_eq_false_iff_ne, ne_eq]; first | assumption | omega))); done)); try cbv)
            | (refine s_eqo hS ?_; try cbv)
            | (refine s_lk hS ?_; try cbv)
            | (refine s_mu hS ?_; try cbv)
            | (refine s_chk hS (by simp only [← hS, Int.ofNat_eq_natCast, cq, decide_eq_true_eq, decide_eq_false_iff_not, beq_iff_eq, beq_eq_false_iff_ne, ne_eq]; omega) ?_; try cbv)
            | (refine s_br hS ?_ ?_ <;> intro h <;> (try cbv) <;> (try simp only [← hS, Int.ofNat_eq_natCast, cq, decide_eq_true_eq, decide_eq_false_iff_not, beq_iff_eq, beq_eq_false_iff_ne, ne_eq] at h) <;> first | (exfalso; omega) | (exact absurd trivial h) | (exact (no_tf h).elim) | (exact (no_ft h).elim) | (exact (no_both h (by with_reducible assumption)).elim) | (exact (no_both (by with_reducible assumption) h).elim) | skip)
            | (refine s_add hS ?_ (by simp only [lo]; omega) (by simp only [hi]; omega); intro _ _; try cbv)
            | (refine s_sub hS ?_ (by simp only [lo]; omega) (by simp only [hi]; omega); intro _ _; try cbv)
            | (refine s_cvi hS ?_ (by simp only [lo]; omega) (by simp only [hi]; omega); try cbv))
        refine s_yld hS rfl rfl ?_
        cbv
        refine s_mu hS ?_
        refine known_new hS h0 (by rw [codeI_eq hc]; simp [Hu.base]; omega) (clsI_eq hc rfl) hF fun F' hF' hN => ?_
        cbv
        repeat' (first
            | (refine s_eqs hS rfl ?_; try cbv)
            | (refine s_eqt hS rfl ?_ ?_; (focus (cbv; (repeat' (first | exact trivial | rfl | refine And.intro ?_ ?_ | assumption | omega | (simp only [← hS, Int.ofNat_eq_natCast, cq, decide_eq_true_eq, decide_eq_false_iff_not, beq_iff_eq, beq_eq_false_iff_ne, ne_eq]; done) | (simp only [← hS, Int.ofNat_eq_natCast, cq, decide_eq_true_eq, decide_eq_false_iff_not, beq_iff_eq, beq_eq_false_iff_ne, ne_eq]; first | assumption | omega))); done)); try cbv)
            | (refine s_eqo hS ?_; try cbv)
            | (refine s_lk hS ?_; try cbv)
            | (refine s_mu hS ?_; try cbv)
            | (refine s_chk hS (by simp only [← hS, Int.ofNat_eq_natCast, cq, decide_eq_true_eq, decide_eq_false_iff_not, beq_iff_eq, beq_eq_false_iff_ne, ne_eq]; omega) ?_; try cbv)
            | (refine s_br hS ?_ ?_ <;> intro h <;> (try cbv) <;> (try simp only [← hS, Int.ofNat_eq_natCast, cq, decide_eq_true_eq, decide_eq_false_iff_not, beq_iff_eq, beq_eq_false_iff_ne, ne_eq] at h) <;> first | (exfalso; omega) | (exact absurd trivial h) | (exact (no_tf h).elim) | (exact (no_ft h).elim) | (exact (no_both h (by with_reducible assumption)).elim) | (exact (no_both (by with_reducible assumption) h).elim) | skip)
            | (refine s_add hS ?_ (by simp only [lo]; omega) (by simp only [hi]; omega); intro _ _; try cbv)
            | (refine s_sub hS ?_ (by simp only [lo]; omega) (by simp only [hi]; omega); intro _ _; try cbv)
            | (refine s_cvi hS ?_ (by simp only [lo]; omega) (by simp only [hi]; omega); try cbv))
        obtain ⟨c1, h_c1⟩ : ∃ r_, r_ = c + 1 := ⟨_, rfl⟩
        obtain ⟨F2, hF2⟩ : ∃ F2, F2 = knownE c1.toNat := ⟨_, rfl⟩
        obtain ⟨b6, h_b6⟩ : ∃ r_, r_ = a6 + 1 := ⟨_, rfl⟩
        have n5 := cntI_next (m := 5) h0
        have n6 := cntI_next (m := 6) h0
        have n7 := cntI_next (m := 7) h0
        have n11 := cntI_next (m := 11) h0
        rw [hc, ← h_c1] at n5 n6 n7 n11
        simp at n5 n6 n7 n11
        have hsub : SubM F' F2 := by
          rw [hF2, h_c1]
          exact hF'
        refine ⟨(c1, a5, b6, a7, a11, F2), by dsimp only; omega, ⟨by dsimp only; omega, by dsimp only; omega, by dsimp only; omega, by dsimp only; omega, by dsimp only; omega, by dsimp only; omega, hF2⟩, rfl, ?_, ?_, ?_⟩
        · cbv; (repeat' (first | exact sub_any | exact Sub.rfl | exact SubL.nil | refine SubL.cons ?_ ?_ | exact sub_i rfl | refine sub_tp ?_ | refine sub_ag ?_ | exact sub_tt rfl | exact sub_ff rfl | exact sub_b_tt rfl | exact sub_b_ff rfl | (refine sub_i ?_; simp only [Z.v]; omega) | (refine sub_b ?_; assumption) | (refine sub_b ?_; simp only [← hS, Int.ofNat_eq_natCast, cq, decide_eq_true_eq, decide_eq_false_iff_not, beq_iff_eq, beq_eq_false_iff_ne, ne_eq]; done) | (refine sub_tt ?_; assumption) | (refine sub_ff ?_; assumption)))
        · cbv; refine ⟨SubB.m hsub, ?_⟩; (repeat' (first | exact trivial | exact SubB.rfl | refine And.intro ?_ ?_ | (exact SubB.c (by with_reducible assumption)) | (refine SubB.c ?_; (repeat' (first | exact sub_any | exact Sub.rfl | exact SubL.nil | refine SubL.cons ?_ ?_ | exact sub_i rfl | refine sub_tp ?_ | refine sub_ag ?_ | exact sub_tt rfl | exact sub_ff rfl | exact sub_b_tt rfl | exact sub_b_ff rfl | (refine sub_i ?_; simp only [Z.v]; omega) | (refine sub_b ?_; assumption) | (refine sub_b ?_; simp only [← hS, Int.ofNat_eq_natCast, cq, decide_eq_true_eq, decide_eq_false_iff_not, beq_iff_eq, beq_eq_false_iff_ne, ne_eq]; done) | (refine sub_tt ?_; assumption) | (refine sub_ff ?_; assumption))); done) | (refine SubB.m ?_; (repeat' (first | exact SubM.nil | refine SubM.cons ?_ ?_ ?_ | (focus ((repeat' (first | exact sub_any | exact Sub.rfl | exact SubL.nil | refine SubL.cons ?_ ?_ | exact sub_i rfl | refine sub_tp ?_ | refine sub_ag ?_ | exact sub_tt rfl | exact sub_ff rfl | exact sub_b_tt rfl | exact sub_b_ff rfl | (refine sub_i ?_; simp only [Z.v]; omega) | (refine sub_b ?_; assumption) | (refine sub_b ?_; simp only [← hS, Int.ofNat_eq_natCast, cq, decide_eq_true_eq, decide_eq_false_iff_not, beq_iff_eq, beq_eq_false_iff_ne, ne_eq]; done) | (refine sub_tt ?_; assumption) | (refine sub_ff ?_; assumption))); done)))); done)))
        · cbv
          exact gc_map (by rw [hF2]; exact known_noref _)
      · refine s_loop_one hS ?_
        cbv
        repeat' (first
            | (refine s_eqs hS rfl ?_; try cbv)
            | (refine s_eqt hS rfl ?_ ?_; (focus (cbv; (repeat' (first | exact trivial | rfl | refine And.intro ?_ ?_ | assumption | omega | (simp only [← hS, Int.ofNat_eq_natCast, cq, decide_eq_true_eq, decide_eq_false_iff_not, beq_iff_eq, beq_eq_false_iff_ne, ne_eq]; done) | (simp only [← hS, Int.ofNat_eq_natCast, cq, decide_eq_true_eq, decide_eq_false_iff_not, beq_iff_eq, beq_eq_false_iff_ne, ne_eq]; first | assumption | omega))); done)); try cbv)
            | (refine s_eqo hS ?_; try cbv)
            | (refine s_lk hS ?_; try cbv)
            | (refine s_mu hS ?_; try cbv)
            | (refine s_chk hS (by simp only [← hS, Int.ofNat_eq_natCast, cq, decide_eq_true_eq, decide_eq_false_iff_not, beq_iff_eq, beq_eq_false_iff_ne, ne_eq]; omega) ?_; try cbv)
            | (refine s_br hS ?_ ?_ <;> intro h <;> (try cbv) <;> (try simp only [← hS, Int.ofNat_eq_natCast, cq, decide_eq_true_eq, decide_eq_false_iff_not, beq_iff_eq, beq_eq_false_iff_ne, ne_eq] at h) <;> first | (exfalso; omega) | (exact absurd trivial h) | (exact (no_tf h).elim) | (exact (no_ft h).elim) | (exact (no_both h (by with_reducible assumption)).elim) | (exact (no_both (by with_reducible assumption) h).elim) | skip)
            | (refine s_add hS ?_ (by simp only [lo]; omega) (by simp only [hi]; omega); intro _ _; try cbv)
            | (refine s_sub hS ?_ (by simp only [lo]; omega) (by simp only [hi]; omega); intro _ _; try cbv)
            | (refine s_cvi hS ?_ (by simp only [lo]; omega) (by simp only [hi]; omega); try cbv))
        refine index_u hS fun r5 h5 => ?_
        replace h5 : r5 < 0 := by rw [← h5]; exact i5
        cbv
        repeat' (first
            | (refine s_eqs hS rfl ?_; try cbv)
            | (refine s_eqt hS rfl ?_ ?_; (focus (cbv; (repeat' (first | exact trivial | rfl | refine And.intro ?_ ?_ | assumption | omega | (simp only [← hS, Int.ofNat_eq_natCast, cq, decide_eq_true_eq, decide_eq_false_iff_not, beq_iff_eq, beq_eq_false_iff_ne, ne_eq]; done) | (simp only [← hS, Int.ofNat_eq_natCast, cq, decide_eq_true_eq, decide_eq_false_iff_not, beq_iff_eq, beq_eq_false_iff_ne, ne_eq]; first | assumption | omega))); done)); try cbv)
            | (refine s_eqo hS ?_; try cbv)
            | (refine s_lk hS ?_; try cbv)
            | (refine s_mu hS ?_; try cbv)
            | (refine s_chk hS (by simp only [← hS, Int.ofNat_eq_natCast, cq, decide_eq_true_eq, decide_eq_false_iff_not, beq_iff_eq, beq_eq_false_iff_ne, ne_eq]; omega) ?_; try cbv)
            | (refine s_br hS ?_ ?_ <;> intro h <;> (try cbv) <;> (try simp only [← hS, Int.ofNat_eq_natCast, cq, decide_eq_true_eq, decide_eq_false_iff_not, beq_iff_eq, beq_eq_false_iff_ne, ne_eq] at h) <;> first | (exfalso; omega) | (exact absurd trivial h) | (exact (no_tf h).elim) | (exact (no_ft h).elim) | (exact (no_both h (by with_reducible assumption)).elim) | (exact (no_both (by with_reducible assumption) h).elim) | skip)
            | (refine s_add hS ?_ (by simp only [lo]; omega) (by simp only [hi]; omega); intro _ _; try cbv)
            | (refine s_sub hS ?_ (by simp only [lo]; omega) (by simp only [hi]; omega); intro _ _; try cbv)
            | (refine s_cvi hS ?_ (by simp only [lo]; omega) (by simp only [hi]; omega); try cbv))
        refine s_loop_one hS ?_
        cbv
        repeat' (first
            | (refine s_eqs hS rfl ?_; try cbv)
            | (refine s_eqt hS rfl ?_ ?_; (focus (cbv; (repeat' (first | exact trivial | rfl | refine And.intro ?_ ?_ | assumption | omega | (simp only [← hS, Int.ofNat_eq_natCast, cq, decide_eq_true_eq, decide_eq_false_iff_not, beq_iff_eq, beq_eq_false_iff_ne, ne_eq]; done) | (simp only [← hS, Int.ofNat_eq_natCast, cq, decide_eq_true_eq, decide_eq_false_iff_not, beq_iff_eq, beq_eq_false_iff_ne, ne_eq]; first | assumption | omega))); done)); try cbv)
            | (refine s_eqo hS ?_; try cbv)
            | (refine s_lk hS ?_; try cbv)
            | (refine s_mu hS ?_; try cbv)
            | (refine s_chk hS (by simp only [← hS, Int.ofNat_eq_natCast, cq, decide_eq_true_eq, decide_eq_false_iff_not, beq_iff_eq, beq_eq_false_iff_ne, ne_eq]; omega) ?_; try cbv)
            | (refine s_br hS ?_ ?_ <;> intro h <;> (try cbv) <;> (try simp only [← hS, Int.ofNat_eq_natCast, cq, decide_eq_true_eq, decide_eq_false_iff_not, beq_iff_eq, beq_eq_false_iff_ne, ne_eq] at h) <;> first | (exfalso; omega) | (exact absurd trivial h) | (exact (no_tf h).elim) | (exact (no_ft h).elim) | (exact (no_both h (by with_reducible assumption)).elim) | (exact (no_both (by with_reducible assumption) h).elim) | skip)
            | (refine s_add hS ?_ (by simp only [lo]; omega) (by simp only [hi]; omega); intro _ _; try cbv)
            | (refine s_sub hS ?_ (by simp only [lo]; omega) (by simp only [hi]; omega); intro _ _; try cbv)
            | (refine s_cvi hS ?_ (by simp only [lo]; omega) (by simp only [hi]; omega); try cbv))
        refine index_u hS fun r6 h6 => ?_
        replace h6 : r6 < 0 := by rw [← h6]; exact i6
        cbv
        repeat' (first
            | (refine s_eqs hS rfl ?_; try cbv)
            | (refine s_eqt hS rfl ?_ ?_; (focus (cbv; (repeat' (first | exact trivial | rfl | refine And.intro ?_ ?_ | assumption | omega | (simp only [← hS, Int.ofNat_eq_natCast, cq, decide_eq_true_eq, decide_eq_false_iff_not, beq_iff_eq, beq_eq_false_iff_ne, ne_eq]; done) | (simp only [← hS, Int.ofNat_eq_natCast, cq, decide_eq_true_eq, decide_eq_false_iff_not, beq_iff_eq, beq_eq_false_iff_ne, ne_eq]; first | assumption | omega))); done)); try cbv)
            | (refine s_eqo hS ?_; try cbv)
            | (refine s_lk hS ?_; try cbv)
            | (refine s_mu hS ?_; try cbv)
            | (refine s_chk hS (by simp only [← hS, Int.ofNat_eq_natCast, cq, decide_eq_true_eq, decide_eq_false_iff_not, beq_iff_eq, beq_eq_false_iff_ne, ne_eq]; omega) ?_; try cbv)
            | (refine s_br hS ?_ ?_ <;> intro h <;> (try cbv) <;> (try simp only [← hS, Int.ofNat_eq_natCast, cq, decide_eq_true_eq, decide_eq_false_iff_not, beq_iff_eq, beq_eq_false_iff_ne, ne_eq] at h) <;> first | (exfalso; omega) | (exact absurd trivial h) | (exact (no_tf h).elim) | (exact (no_ft h).elim) | (exact (no_both h (by with_reducible assumption)).elim) | (exact (no_both (by with_reducible assumption) h).elim) | skip)
            | (refine s_add hS ?_ (by simp only [lo]; omega) (by simp only [hi]; omega); intro _ _; try cbv)
            | (refine s_sub hS ?_ (by simp only [lo]; omega) (by simp only [hi]; omega); intro _ _; try cbv)
            | (refine s_cvi hS ?_ (by simp only [lo]; omega) (by simp only [hi]; omega); try cbv))
        refine s_loop_one hS ?_
        cbv
        repeat' (first
            | (refine s_eqs hS rfl ?_; try cbv)
            | (refine s_eqt hS rfl ?_ ?_; (focus (cbv; (repeat' (first | exact trivial | rfl | refine And.intro ?_ ?_ | assumption | omega | (simp only [← hS, Int.ofNat_eq_natCast, cq, decide_eq_true_eq, decide_eq_false_iff_not, beq_iff_eq, beq_eq_false_iff_ne, ne_eq]; done) | (simp only [← hS, Int.ofNat_eq_natCast, cq, decide_eq_true_eq, decide_eq_false_iff_not, beq_iff_eq, beq_eq_false_iff_ne, ne_eq]; first | assumption | omega))); done)); try cbv)
            | (refine s_eqo hS ?_; try cbv)
            | (refine s_lk hS ?_; try cbv)
            | (refine s_mu hS ?_; try cbv)
            | (refine s_chk hS (by simp only [← hS, Int.ofNat_eq_natCast, cq, decide_eq_true_eq, decide_eq_false_iff_not, beq_iff_eq, beq_eq_false_iff_ne, ne_eq]; omega) ?_; try cbv)
            | (refine s_br hS ?_ ?_ <;> intro h <;> (try cbv) <;> (try simp only [← hS, Int.ofNat_eq_natCast, cq, decide_eq_true_eq, decide_eq_false_iff_not, beq_iff_eq, beq_eq_false_iff_ne, ne_eq] at h) <;> first | (exfalso; omega) | (exact absurd trivial h) | (exact (no_tf h).elim) | (exact (no_ft h).elim) | (exact (no_both h (by with_reducible assumption)).elim) | (exact (no_both (by with_reducible assumption) h).elim) | skip)
            | (refine s_add hS ?_ (by simp only [lo]; omega) (by simp only [hi]; omega); intro _ _; try cbv)
            | (refine s_sub hS ?_ (by simp only [lo]; omega) (by simp only [hi]; omega); intro _ _; try cbv)
            | (refine s_cvi hS ?_ (by simp only [lo]; omega) (by simp only [hi]; omega); try cbv))
        refine index_u hS fun r7 h7 => ?_
        replace h7 : 0 ≤ r7 := by rw [← h7]; exact i7
        cbv
        repeat' (first
            | (refine s_eqs hS rfl ?_; try cbv)
            | (refine s_eqt hS rfl ?_ ?_; (focus (cbv; (repeat' (first | exact trivial | rfl | refine And.intro ?_ ?_ | assumption | omega | (simp only [← hS, Int.ofNat_eq_natCast, cq, decide_eq_true_eq, decide_eq_false_iff_not, beq_iff_eq, beq_eq_false_iff_ne, ne_eq]; done) | (simp only [← hS, Int.ofNat_eq_natCast, cq, decide_eq_true_eq, decide_eq_false_iff_not, beq_iff_eq, beq_eq_false_iff_ne, ne_eq]; first | assumption | omega))); done)); try cbv)
            | (refine s_eqo hS ?_; try cbv)
            | (refine s_lk hS ?_; try cbv)
            | (refine s_mu hS ?_; try cbv)
            | (refine s_chk hS (by simp only [← hS, Int.ofNat_eq_natCast, cq, decide_eq_true_eq, decide_eq_false_iff_not, beq_iff_eq, beq_eq_false_iff_ne, ne_eq]; omega) ?_; try cbv)
            | (refine s_br hS ?_ ?_ <;> intro h <;> (try cbv) <;> (try simp only [← hS, Int.ofNat_eq_natCast, cq, decide_eq_true_eq, decide_eq_false_iff_not, beq_iff_eq, beq_eq_false_iff_ne, ne_eq] at h) <;> first | (exfalso; omega) | (exact absurd trivial h) | (exact (no_tf h).elim) | (exact (no_ft h).elim) | (exact (no_both h (by with_reducible assumption)).elim) | (exact (no_both (by with_reducible assumption) h).elim) | skip)
            | (refine s_add hS ?_ (by simp only [lo]; omega) (by simp only [hi]; omega); intro _ _; try cbv)
            | (refine s_sub hS ?_ (by simp only [lo]; omega) (by simp only [hi]; omega); intro _ _; try cbv)
            | (refine s_cvi hS ?_ (by simp only [lo]; omega) (by simp only [hi]; omega); try cbv))
        refine s_loop_one hS ?_
        cbv
        repeat' (first
            | (refine s_eqs hS rfl ?_; try cbv)
            | (refine s_eqt hS rfl ?_ ?_; (focus (cbv; (repeat' (first | exact trivial | rfl | refine And.intro ?_ ?_ | assumption | omega | (simp only [← hS, Int.ofNat_eq_natCast, cq, decide_eq_true_eq, decide_eq_false_iff_not, beq_iff_eq, beq_eq_false_iff_ne, ne_eq]; done) | (simp only [← hS, Int.ofNat_eq_natCast, cq, decide_eq_true_eq, decide_eq_false_iff_not, beq_iff_eq, beq_eq_false_iff_ne, ne_eq]; first | assumption | omega))); done)); try cbv)
            | (refine s_eqo hS ?_; try cbv)
            | (refine s_lk hS ?_; try cbv)
            | (refine s_mu hS ?_; try cbv)
            | (refine s_chk hS (by simp only [← hS, Int.ofNat_eq_natCast, cq, decide_eq_true_eq, decide_eq_false_iff_not, beq_iff_eq, beq_eq_false_iff_ne, ne_eq]; omega) ?_; try cbv)
            | (refine s_br hS ?_ ?_ <;> intro h <;> (try cbv) <;> (try simp only [← hS, Int.ofNat_eq_natCast, cq, decide_eq_true_eq, decide_eq_false_iff_not, beq_iff_eq, beq_eq_false_iff_ne, ne_eq] at h) <;> first | (exfalso; omega) | (exact absurd trivial h) | (exact (no_tf h).elim) | (exact (no_ft h).elim) | (exact (no_both h (by with_reducible assumption)).elim) | (exact (no_both (by with_reducible assumption) h).elim) | skip)
            | (refine s_add hS ?_ (by simp only [lo]; omega) (by simp only [hi]; omega); intro _ _; try cbv)
            | (refine s_sub hS ?_ (by simp only [lo]; omega) (by simp only [hi]; omega); intro _ _; try cbv)
            | (refine s_cvi hS ?_ (by simp only [lo]; omega) (by simp only [hi]; omega); try cbv))
        refine s_yld hS rfl rfl ?_
        cbv
        refine s_mu hS ?_
        refine known_new hS h0 (by rw [codeI_eq hc]; simp [Hu.base]; omega) (clsI_eq hc rfl) hF fun F' hF' hN => ?_
        cbv
        repeat' (first
            | (refine s_eqs hS rfl ?_; try cbv)
            | (refine s_eqt hS rfl ?_ ?_; (focus (cbv; (repeat' (first | exact trivial | rfl | refine And.intro ?_ ?_ | assumption | omega | (simp only [← hS, Int.ofNat_eq_natCast, cq, decide_eq_true_eq, decide_eq_false_iff_not, beq_iff_eq, beq_eq_false_iff_ne, ne_eq]; done) | (simp only [← hS, Int.ofNat_eq_natCast, cq, decide_eq_true_eq, decide_eq_false_iff_not, beq_iff_eq, beq_eq_false_iff_ne, ne_eq]; first | assumption | omega))); done)); try cbv)
            | (refine s_eqo hS ?_; try cbv)
            | (refine s_lk hS ?_; try cbv)
            | (refine s_mu hS ?_; try cbv)
            | (refine s_chk hS (by simp only [← hS, Int.ofNat_eq_natCast, cq, decide_eq_true_eq, decide_eq_false_iff_not, beq_iff_eq, beq_eq_false_iff_ne, ne_eq]; omega) ?_; try cbv)
            | (refine s_br hS ?_ ?_ <;> intro h <;> (try cbv) <;> (try simp only [← hS, Int.ofNat_eq_natCast, cq, decide_eq_true_eq, decide_eq_false_iff_not, beq_iff_eq, beq_eq_false_iff_ne, ne_eq] at h) <;> first | (exfalso; omega) | (exact absurd trivial h) | (exact (no_tf h).elim) | (exact (no_ft h).elim) | (exact (no_both h (by with_reducible assumption)).elim) | (exact (no_both (by with_reducible assumption) h).elim) | skip)
            | (refine s_add hS ?_ (by simp only [lo]; omega) (by simp only [hi]; omega); intro _ _; try cbv)
            | (refine s_sub hS ?_ (by simp only [lo]; omega) (by simp only [hi]; omega); intro _ _; try cbv)
            | (refine s_cvi hS ?_ (by simp only [lo]; omega) (by simp only [hi]; omega); try cbv))
        obtain ⟨c1, h_c1⟩ : ∃ r_, r_ = c + 1 := ⟨_, rfl⟩
        obtain ⟨F2, hF2⟩ : ∃ F2, F2 = knownE c1.toNat := ⟨_, rfl⟩
        obtain ⟨b7, h_b7⟩ : ∃ r_, r_ = a7 + 1 := ⟨_, rfl⟩
        have n5 := cntI_next (m := 5) h0
        have n6 := cntI_next (m := 6) h0
        have n7 := cntI_next (m := 7) h0
        have n11 := cntI_next (m := 11) h0
        rw [hc, ← h_c1] at n5 n6 n7 n11
        simp at n5 n6 n7 n11
        have hsub : SubM F' F2 := by
          rw [hF2, h_c1]
          exact hF'
        refine ⟨(c1, a5, a6, b7, a11, F2), by dsimp only; omega, ⟨by dsimp only; omega, by dsimp only; omega, by dsimp only; omega, by dsimp only; omega, by dsimp only; omega, by dsimp only; omega, hF2⟩, rfl, ?_, ?_, ?_⟩
        · cbv; (repeat' (first | exact sub_any | exact Sub.rfl | exact SubL.nil | refine SubL.cons ?_ ?_ | exact sub_i rfl | refine sub_tp ?_ | refine sub_ag ?_ | exact sub_tt rfl | exact sub_ff rfl | exact sub_b_tt rfl | exact sub_b_ff rfl | (refine sub_i ?_; simp only [Z.v]; omega) | (refine sub_b ?_; assumption) | (refine sub_b ?_; simp only [← hS, Int.ofNat_eq_natCast, cq, decide_eq_true_eq, decide_eq_false_iff_not, beq_iff_eq, beq_eq_false_iff_ne, ne_eq]; done) | (refine sub_tt ?_; assumption) | (refine sub_ff ?_; assumption)))
        · cbv; refine ⟨SubB.m hsub, ?_⟩; (repeat' (first | exact trivial | exact SubB.rfl | refine And.intro ?_ ?_ | (exact SubB.c (by with_reducible assumption)) | (refine SubB.c ?_; (repeat' (first | exact sub_any | exact Sub.rfl | exact SubL.nil | refine SubL.cons ?_ ?_ | exact sub_i rfl | refine sub_tp ?_ | refine sub_ag ?_ | exact sub_tt rfl | exact sub_ff rfl | exact sub_b_tt rfl | exact sub_b_ff rfl | (refine sub_i ?_; simp only [Z.v]; omega) | (refine sub_b ?_; assumption) | (refine sub_b ?_; simp only [← hS, Int.ofNat_eq_natCast, cq, decide_eq_true_eq, decide_eq_false_iff_not, beq_iff_eq, beq_eq_false_iff_ne, ne_eq]; done) | (refine sub_tt ?_; assumption) | (refine sub_ff ?_; assumption))); done) | (refine SubB.m ?_; (repeat' (first | exact SubM.nil | refine SubM.cons ?_ ?_ ?_ | (focus ((repeat' (first | exact sub_any | exact Sub.rfl | exact SubL.nil | refine SubL.cons ?_ ?_ | exact sub_i rfl | refine sub_tp ?_ | refine sub_ag ?_ | exact sub_tt rfl | exact sub_ff rfl | exact sub_b_tt rfl | exact sub_b_ff rfl | (refine sub_i ?_; simp only [Z.v]; omega) | (refine sub_b ?_; assumption) | (refine sub_b ?_; simp only [← hS, Int.ofNat_eq_natCast, cq, decide_eq_true_eq, decide_eq_false_iff_not, beq_iff_eq, beq_eq_false_iff_ne, ne_eq]; done) | (refine sub_tt ?_; assumption) | (refine sub_ff ?_; assumption))); done)))); done)))
        · cbv
          exact gc_map (by rw [hF2]; exact known_noref _)
      · refine s_loop_one hS ?_
        cbv
        repeat' (first
            | (refine s_eqs hS rfl ?_; try cbv)
            | (refine s_eqt hS rfl ?_ ?_; (focus (cbv; (repeat' (first | exact trivial | rfl | refine And.intro ?_ ?_ | assumption | omega | (simp only [← hS, Int.ofNat_eq_natCast, cq, decide_eq_true_eq, decide_eq_false_iff_not, beq_iff_eq, beq_eq_false_iff_ne, ne_eq]; done) | (simp only [← hS, Int.ofNat_eq_natCast, cq, decide_eq_true_eq, decide_eq_false_iff_not, beq_iff_eq, beq_eq_false_iff_ne, ne_eq]; first | assumption | omega))); done)); try cbv)
            | (refine s_eqo hS ?_; try cbv)
            | (refine s_lk hS ?_; try cbv)
            | (refine s_mu hS ?_; try cbv)
            | (refine s_chk hS (by simp only [← hS, Int.ofNat_eq_natCast, cq, decide_eq_true_eq, decide_eq_false_iff_not, beq_iff_eq, beq_eq_false_iff_ne, ne_eq]; omega) ?_; try cbv)
            | (refine s_br hS ?_ ?_ <;> intro h <;> (try cbv) <;> (try simp only [← hS, Int.ofNat_eq_natCast, cq, decide_eq_true_eq, decide_eq_false_iff_not, beq_iff_eq, beq_eq_false_iff_ne, ne_eq] at h) <;> first | (exfalso; omega) | (exact absurd trivial h) | (exact (no_tf h).elim) | (exact (no_ft h).elim) | (exact (no_both h (by with_reducible assumption)).elim) | (exact (no_both (by with_reducible assumption) h).elim) | skip)
            | (refine s_add hS ?_ (by simp only [lo]; omega) (by simp only [hi]; omega); intro _ _; try cbv)
            | (refine s_sub hS ?_ (by simp only [lo]; omega) (by simp only [hi]; omega); intro _ _; try cbv)
            | (refine s_cvi hS ?_ (by simp only [lo]; omega) (by simp only [hi]; omega); try cbv))
        refine index_u hS fun r5 h5 => ?_
        replace h5 : r5 < 0 := by rw [← h5]; exact i5
        cbv
        repeat' (first
            | (refine s_eqs hS rfl ?_; try cbv)
            | (refine s_eqt hS rfl ?_ ?_; (focus (cbv; (repeat' (first | exact trivial | rfl | refine And.intro ?_ ?_ | assumption | omega | (simp only [← hS, Int.ofNat_eq_natCast, cq, decide_eq_true_eq, decide_eq_false_iff_not, beq_iff_eq, beq_eq_false_iff_ne, ne_eq]; done) | (simp only [← hS, Int.ofNat_eq_natCast, cq, decide_eq_true_eq, decide_eq_false_iff_not, beq_iff_eq, beq_eq_false_iff_ne, ne_eq]; first | assumption | omega))); done)); try cbv)
            | (refine s_eqo hS ?_; try cbv)
            | (refine s_lk hS ?_; try cbv)
            | (refine s_mu hS ?_; try cbv)
            | (refine s_chk hS (by simp only [← hS, Int.ofNat_eq_natCast, cq, decide_eq_true_eq, decide_eq_false_iff_not, beq_iff_eq, beq_eq_false_iff_ne, ne_eq]; omega) ?_; try cbv)
            | (refine s_br hS ?_ ?_ <;> intro h <;> (try cbv) <;> (try simp only [← hS, Int.ofNat_eq_natCast, cq, decide_eq_true_eq, decide_eq_false_iff_not, beq_iff_eq, beq_eq_false_iff_ne, ne_eq] at h) <;> first | (exfalso; omega) | (exact absurd trivial h) | (exact (no_tf h).elim) | (exact (no_ft h).elim) | (exact (no_both h (by with_reducible assumption)).elim) | (exact (no_both (by with_reducible assumption) h).elim) | skip)
            | (refine s_add hS ?_ (by simp only [lo]; omega) (by simp only [hi]; omega); intro _ _; try cbv)
            | (refine s_sub hS ?_ (by simp only [lo]; omega) (by simp only [hi]; omega); intro _ _; try cbv)
            | (refine s_cvi hS ?_ (by simp only [lo]; omega) (by simp only [hi]; omega); try cbv))
        refine s_loop_one hS ?_
        cbv
        repeat' (first
            | (refine s_eqs hS rfl ?_; try cbv)
            | (refine s_eqt hS rfl ?_ ?_; (focus (cbv; (repeat' (first | exact trivial | rfl | refine And.intro ?_ ?_ | assumption | omega | (simp only [← hS, Int.ofNat_eq_natCast, cq, decide_eq_true_eq, decide_eq_false_iff_not, beq_iff_eq, beq_eq_false_iff_ne, ne_eq]; done) | (simp only [← hS, Int.ofNat_eq_natCast, cq, decide_eq_true_eq, decide_eq_false_iff_not, beq_iff_eq, beq_eq_false_iff_ne, ne_eq]; first | assumption | omega))); done)); try cbv)
            | (refine s_eqo hS ?_; try cbv)
            | (refine s_lk hS ?_; try cbv)
            | (refine s_mu hS ?_; try cbv)
            | (refine s_chk hS (by simp only [← hS, Int.ofNat_eq_natCast, cq, decide_eq_true_eq, decide_eq_false_iff_not, beq_iff_eq, beq_eq_false_iff_ne, ne_eq]; omega) ?_; try cbv)
            | (refine s_br hS ?_ ?_ <;> intro h <;> (try cbv) <;> (try simp only [← hS, Int.ofNat_eq_natCast, cq, decide_eq_true_eq, decide_eq_false_iff_not, beq_iff_eq, beq_eq_false_iff_ne, ne_eq] at h) <;> first | (exfalso; omega) | (exact absurd trivial h) | (exact (no_tf h).elim) | (exact (no_ft h).elim) | (exact (no_both h (by with_reducible assumption)).elim) | (exact (no_both (by with_reducible assumption) h).elim) | skip)
            | (refine s_add hS ?_ (by simp only [lo]; omega) (by simp only [hi]; omega); intro _ _; try cbv)
            | (refine s_sub hS ?_ (by simp only [lo]; omega) (by simp only [hi]; omega); intro _ _; try cbv)
            | (refine s_cvi hS ?_ (by simp only [lo]; omega) (by simp only [hi]; omega); try cbv))
        refine index_u hS fun r6 h6 => ?_
        replace h6 : r6 < 0 := by rw [← h6]; exact i6
        cbv
        repeat' (first
            | (refine s_eqs hS rfl ?_; try cbv)
            | (refine s_eqt hS rfl ?_ ?_; (focus (cbv; (repeat' (first | exact trivial | rfl | refine And.intro ?_ ?_ | assumption | omega | (simp only [← hS, Int.ofNat_eq_natCast, cq, decide_eq_true_eq, decide_eq_false_iff_not, beq_iff_eq, beq_eq_false_iff_ne, ne_eq]; done) | (simp only [← hS, Int.ofNat_eq_natCast, cq, decide_eq_true_eq, decide_eq_false_iff_not, beq_iff_eq, beq_eq_false_iff_ne, ne_eq]; first | assumption | omega))); done)); try cbv)
            | (refine s_eqo hS ?_; try cbv)
            | (refine s_lk hS ?_; try cbv)
            | (refine s_mu hS ?_; try cbv)
            | (refine s_chk hS (by simp only [← hS, Int.ofNat_eq_natCast, cq, decide_eq_true_eq, decide_eq_false_iff_not, beq_iff_eq, beq_eq_false_iff_ne, ne_eq]; omega) ?_; try cbv)
            | (refine s_br hS ?_ ?_ <;> intro h <;> (try cbv) <;> (try simp only [← hS, Int.ofNat_eq_natCast, cq, decide_eq_true_eq, decide_eq_false_iff_not, beq_iff_eq, beq_eq_false_iff_ne, ne_eq] at h) <;> first | (exfalso; omega) | (exact absurd trivial h) | (exact (no_tf h).elim) | (exact (no_ft h).elim) | (exact (no_both h (by with_reducible assumption)).elim) | (exact (no_both (by with_reducible assumption) h).elim) | skip)
            | (refine s_add hS ?_ (by simp only [lo]; omega) (by simp only [hi]; omega); intro _ _; try cbv)
            | (refine s_sub hS ?_ (by simp only [lo]; omega) (by simp only [hi]; omega); intro _ _; try cbv)
            | (refine s_cvi hS ?_ (by simp only [lo]; omega) (by simp only [hi]; omega); try cbv))
        refine s_loop_one hS ?_
        cbv
        repeat' (first
            | (refine s_eqs hS rfl ?_; try cbv)
            | (refine s_eqt hS rfl ?_ ?_; (focus (cbv; (repeat' (first | exact trivial | rfl | refine And.intro ?_ ?_ | assumption | omega | (simp only [← hS, Int.ofNat_eq_natCast, cq, decide_eq_true_eq, decide_eq_false_iff_not, beq_iff_eq, beq_eq_false_iff_ne, ne_eq]; done) | (simp only [← hS, Int.ofNat_eq_natCast, cq, decide_eq_true_eq, decide_eq_false_iff_not, beq_iff_eq, beq_eq_false_iff_ne, ne_eq]; first | assumption | omega))); done)); try cbv)
            | (refine s_eqo hS ?_; try cbv)
            | (refine s_lk hS ?_; try cbv)
            | (refine s_mu hS ?_; try cbv)
            | (refine s_chk hS (by simp only [← hS, Int.ofNat_eq_natCast, cq, decide_eq_true_eq, decide_eq_false_iff_not, beq_iff_eq, beq_eq_false_iff_ne, ne_eq]; omega) ?_; try cbv)
            | (refine s_br hS ?_ ?_ <;> intro h <;> (try cbv) <;> (try simp only [← hS, Int.ofNat_eq_natCast, cq, decide_eq_true_eq, decide_eq_false_iff_not, beq_iff_eq, beq_eq_false_iff_ne, ne_eq] at h) <;> first | (exfalso; omega) | (exact absurd trivial h) | (exact (no_tf h).elim) | (exact (no_ft h).elim) | (exact (no_both h (by with_reducible assumption)).elim) | (exact (no_both (by with_reducible assumption) h).elim) | skip)
            | (refine s_add hS ?_ (by simp only [lo]; omega) (by simp only [hi]; omega); intro _ _; try cbv)
            | (refine s_sub hS ?_ (by simp only [lo]; omega) (by simp only [hi]; omega); intro _ _; try cbv)
            | (refine s_cvi hS ?_ (by simp only [lo]; omega) (by simp only [hi]; omega); try cbv))
        refine index_u hS fun r7 h7 => ?_
        replace h7 : r7 < 0 := by rw [← h7]; exact i7
        cbv
        repeat' (first
            | (refine s_eqs hS rfl ?_; try cbv)
            | (refine s_eqt hS rfl ?_ ?_; (focus (cbv; (repeat' (first | exact trivial | rfl | refine And.intro ?_ ?_ | assumption | omega | (simp only [← hS, Int.ofNat_eq_natCast, cq, decide_eq_true_eq, decide_eq_false_iff_not, beq_iff_eq, beq_eq_false_iff_ne, ne_eq]; done) | (simp only [← hS, Int.ofNat_eq_natCast, cq, decide_eq_true_eq, decide_eq_false_iff_not, beq_iff_eq, beq_eq_false_iff_ne, ne_eq]; first | assumption | omega))); done)); try cbv)
            | (refine s_eqo hS ?_; try cbv)
            | (refine s_lk hS ?_; try cbv)
            | (refine s_mu hS ?_; try cbv)
            | (refine s_chk hS (by simp only [← hS, Int.ofNat_eq_natCast, cq, decide_eq_true_eq, decide_eq_false_iff_not, beq_iff_eq, beq_eq_false_iff_ne, ne_eq]; omega) ?_; try cbv)
            | (refine s_br hS ?_ ?_ <;> intro h <;> (try cbv) <;> (try simp only [← hS, Int.ofNat_eq_natCast, cq, decide_eq_true_eq, decide_eq_false_iff_not, beq_iff_eq, beq_eq_false_iff_ne, ne_eq] at h) <;> first | (exfalso; omega) | (exact absurd trivial h) | (exact (no_tf h).elim) | (exact (no_ft h).elim) | (exact (no_both h (by with_reducible assumption)).elim) | (exact (no_both (by with_reducible assumption) h).elim) | skip)
            | (refine s_add hS ?_ (by simp only [lo]; omega) (by simp only [hi]; omega); intro _ _; try cbv)
            | (refine s_sub hS ?_ (by simp only [lo]; omega) (by simp only [hi]; omega); intro _ _; try cbv)
            | (refine s_cvi hS ?_ (by simp only [lo]; omega) (by simp only [hi]; omega); try cbv))
        refine s_loop_one hS ?_
        cbv
        repeat' (first
            | (refine s_eqs hS rfl ?_; try cbv)
            | (refine s_eqt hS rfl ?_ ?_; (focus (cbv; (repeat' (first | exact trivial | rfl | refine And.intro ?_ ?_ | assumption | omega | (simp only [← hS, Int.ofNat_eq_natCast, cq, decide_eq_true_eq, decide_eq_false_iff_not, beq_iff_eq, beq_eq_false_iff_ne, ne_eq]; done) | (simp only [← hS, Int.ofNat_eq_natCast, cq, decide_eq_true_eq, decide_eq_false_iff_not, beq_iff_eq, beq_eq_false_iff_ne, ne_eq]; first | assumption | omega))); done)); try cbv)
            | (refine s_eqo hS ?_; try cbv)
            | (refine s_lk hS ?_; try cbv)
            | (refine s_mu hS ?_; try cbv)
            | (refine s_chk hS (by simp only [← hS, Int.ofNat_eq_natCast, cq, decide_eq_true_eq, decide_eq_false_iff_not, beq_iff_eq, beq_eq_false_iff_ne, ne_eq]; omega) ?_; try cbv)
            | (refine s_br hS ?_ ?_ <;> intro h <;> (try cbv) <;> (try simp only [← hS, Int.ofNat_eq_natCast, cq, decide_eq_true_eq, decide_eq_false_iff_not, beq_iff_eq, beq_eq_false_iff_ne, ne_eq] at h) <;> first | (exfalso; omega) | (exact absurd trivial h) | (exact (no_tf h).elim) | (exact (no_ft h).elim) | (exact (no_both h (by with_reducible assumption)).elim) | (exact (no_both (by with_reducible assumption) h).elim) | skip)
            | (refine s_add hS ?_ (by simp only [lo]; omega) (by simp only [hi]; omega); intro _ _; try cbv)
            | (refine s_sub hS ?_ (by simp only [lo]; omega) (by simp only [hi]; omega); intro _ _; try cbv)
            | (refine s_cvi hS ?_ (by simp only [lo]; omega) (by simp only [hi]; omega); try cbv))
        refine s_yld hS rfl rfl ?_
        cbv
        refine s_mu hS ?_
        refine known_new hS h0 (by rw [codeI_eq hc]; simp [Hu.base]; omega) (clsI_eq hc rfl) hF fun F' hF' hN => ?_
        cbv
        repeat' (first
            | (refine s_eqs hS rfl ?_; try cbv)
            | (refine s_eqt hS rfl ?_ ?_; (focus (cbv; (repeat' (first | exact trivial | rfl | refine And.intro ?_ ?_ | assumption | omega | (simp only [← hS, Int.ofNat_eq_natCast, cq, decide_eq_true_eq, decide_eq_false_iff_not, beq_iff_eq, beq_eq_false_iff_ne, ne_eq]; done) | (simp only [← hS, Int.ofNat_eq_natCast, cq, decide_eq_true_eq, decide_eq_false_iff_not, beq_iff_eq, beq_eq_false_iff_ne, ne_eq]; first | assumption | omega))); done)); try cbv)
            | (refine s_eqo hS ?_; try cbv)
            | (refine s_lk hS ?_; try cbv)
            | (refine s_mu hS ?_; try cbv)
            | (refine s_chk hS (by simp only [← hS, Int.ofNat_eq_natCast, cq, decide_eq_true_eq, decide_eq_false_iff_not, beq_iff_eq, beq_eq_false_iff_ne, ne_eq]; omega) ?_; try cbv)
            | (refine s_br hS ?_ ?_ <;> intro h <;> (try cbv) <;> (try simp only [← hS, Int.ofNat_eq_natCast, cq, decide_eq_true_eq, decide_eq_false_iff_not, beq_iff_eq, beq_eq_false_iff_ne, ne_eq] at h) <;> first | (exfalso; omega) | (exact absurd trivial h) | (exact (no_tf h).elim) | (exact (no_ft h).elim) | (exact (no_both h (by with_reducible assumption)).elim) | (exact (no_both (by with_reducible assumption) h).elim) | skip)
            | (refine s_add hS ?_ (by simp only [lo]; omega) (by simp only [hi]; omega); intro _ _; try cbv)
            | (refine s_sub hS ?_ (by simp only [lo]; omega) (by simp only [hi]; omega); intro _ _; try cbv)
            | (refine s_cvi hS ?_ (by simp only [lo]; omega) (by simp only [hi]; omega); try cbv))
        obtain ⟨c1, h_c1⟩ : ∃ r_, r_ = c + 1 := ⟨_, rfl⟩
        obtain ⟨F2, hF2⟩ : ∃ F2, F2 = knownE c1.toNat := ⟨_, rfl⟩
        obtain ⟨b11, h_b11⟩ : ∃ r_, r_ = a11 + 1 := ⟨_, rfl⟩
        have n5 := cntI_next (m := 5) h0
        have n6 := cntI_next (m := 6) h0
        have n7 := cntI_next (m := 7) h0
        have n11 := cntI_next (m := 11) h0
        rw [hc, ← h_c1] at n5 n6 n7 n11
        simp at n5 n6 n7 n11
        have hsub : SubM F' F2 := by
          rw [hF2, h_c1]
          exact hF'
        refine ⟨(c1, a5, a6, a7, b11, F2), by dsimp only; omega, ⟨by dsimp only; omega, by dsimp only; omega, by dsimp only; omega, by dsimp only; omega, by dsimp only; omega, by dsimp only; omega, hF2⟩, rfl, ?_, ?_, ?_⟩
        · cbv; (repeat' (first | exact sub_any | exact Sub.rfl | exact SubL.nil | refine SubL.cons ?_ ?_ | exact sub_i rfl | refine sub_tp ?_ | refine sub_ag ?_ | exact sub_tt rfl | exact sub_ff rfl | exact sub_b_tt rfl | exact sub_b_ff rfl | (refine sub_i ?_; simp only [Z.v]; omega) | (refine sub_b ?_; assumption) | (refine sub_b ?_; simp only [← hS, Int.ofNat_eq_natCast, cq, decide_eq_true_eq, decide_eq_false_iff_not, beq_iff_eq, beq_eq_false_iff_ne, ne_eq]; done) | (refine sub_tt ?_; assumption) | (refine sub_ff ?_; assumption)))
        · cbv; refine ⟨SubB.m hsub, ?_⟩; (repeat' (first | exact trivial | exact SubB.rfl | refine And.intro ?_ ?_ | (exact SubB.c (by with_reducible assumption)) | (refine SubB.c ?_; (repeat' (first | exact sub_any | exact Sub.rfl | exact SubL.nil | refine SubL.cons ?_ ?_ | exact sub_i rfl | refine sub_tp ?_ | refine sub_ag ?_ | exact sub_tt rfl | exact sub_ff rfl | exact sub_b_tt rfl | exact sub_b_ff rfl | (refine sub_i ?_; simp only [Z.v]; omega) | (refine sub_b ?_; assumption) | (refine sub_b ?_; simp only [← hS, Int.ofNat_eq_natCast, cq, decide_eq_true_eq, decide_eq_false_iff_not, beq_iff_eq, beq_eq_false_iff_ne, ne_eq]; done) | (refine sub_tt ?_; assumption) | (refine sub_ff ?_; assumption))); done) | (refine SubB.m ?_; (repeat' (first | exact SubM.nil | refine SubM.cons ?_ ?_ ?_ | (focus ((repeat' (first | exact sub_any | exact Sub.rfl | exact SubL.nil | refine SubL.cons ?_ ?_ | exact sub_i rfl | refine sub_tp ?_ | refine sub_ag ?_ | exact sub_tt rfl | exact sub_ff rfl | exact sub_b_tt rfl | exact sub_b_ff rfl | (refine sub_i ?_; simp only [Z.v]; omega) | (refine sub_b ?_; assumption) | (refine sub_b ?_; simp only [← hS, Int.ofNat_eq_natCast, cq, decide_eq_true_eq, decide_eq_false_iff_not, beq_iff_eq, beq_eq_false_iff_ne, ne_eq]; done) | (refine sub_tt ?_; assumption) | (refine sub_ff ?_; assumption))); done)))); done)))
        · cbv
          exact gc_map (by rw [hF2]; exact known_noref _)
    · simp only [← hS, Int.ofNat_eq_natCast, cq, decide_eq_true_eq, decide_eq_false_iff_not, beq_iff_eq, beq_eq_false_iff_ne, ne_eq] at h
      have hF2 : F = T := by rw [hF, show c = 256 by omega]; exact hT
      cbv
      exact ⟨0, F, Nat.le_refl _, rfl, rfl, by rw [hF2]; exact SubM.refl _, by rw [hF]; exact known_noref _⟩
end Cz
