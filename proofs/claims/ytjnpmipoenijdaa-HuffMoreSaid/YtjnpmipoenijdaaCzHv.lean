/- Huff, part V: a whole byte of ones more is no text. -/
import Derived.Test.YtjnpmipoenijdaaCzHt
namespace Cz
open Go Go.RowKit Go.Proofs
set_option linter.unusedSimpArgs false
set_option linter.unusedVariables false
set_option maxRecDepth 100000
set_option maxHeartbeats 4000000
theorem app_sub {S : Sy} (hS : S0 Try.prog = S) {L : List Int} {F : List SV} {n : Int} (hF : cellsB L = F) (hn : n = ilen L) : S.app [] (S.sub F 0 n 1) = F := by
  subst hS
  show [] ++ (F.drop ((0 : Int).toNat * 1)).take (n.toNat * 1) = F
  have := cellsB_len L
  rw [hF] at this
  unfold ilen at this hn
  simp only [Int.toNat_zero, Nat.zero_mul, List.drop_zero, List.nil_append, Nat.mul_one]
  exact List.take_of_length_le (by omega)
theorem app_one {S : Sy} (hS : S0 Try.prog = S) {L : List Int} {F : List SV} {x : Int} (hF : cellsB L = F) : FSub (S.app F [.i .u8 (.l x)]) (cellsB (L ++ [x])) := by
  subst hS hF
  rw [app_eq]
  have : cellsB (L ++ [x]) = cellsB L ++ [.i .u8 (.y x)] := by unfold cellsB; rw [List.flatMap_append]; rfl
  rw [this]
  have h : ∀ (A : List SV), SubL (A ++ [.i .u8 (.l x)]) (A ++ [.i .u8 (.y x)]) := by
    intro A
    induction A with
    | nil => exact .cons (sub_i rfl) .nil
    | cons a A ih => exact .cons .rfl ih
  exact (h _).fsub
theorem more_law (b : List Int) (hb : ∀ v ∈ b, 0 ≤ v ∧ v < 256) : (S0 Try.prog).call 7 [.sl 0 1 (.l 0) (.y (ilen b)) none] [.r true false (.l 0) 1 (cellsB b)] (fun x _ => Sub x .tt) := by
  obtain ⟨n, hn'⟩ : ∃ n, n = ilen b := ⟨_, rfl⟩
  have h0n := ilen_nn b
  rw [← hn'] at h0n ⊢
  have hpl := cellsB_plain b
  have hfs : FSub (cellsB b) (cellsB b) := .rfl
  generalize hF : cellsB b = F at hpl ⊢
  rw [hF] at hfs
  have hfs' : FSub F (cellsB b) := by rw [hF]; exact .rfl
  have hmo := Hu.take_more b hb
  have hpn : ilen (Hu.put b) ≤ 11 * n + 7 := by
    have := Hu.put_len b
    have h2 := bitsI_bd (b := b) (j := n) h0n
    have e : bitsI b n = Hu.nbits b := by unfold bitsI; rw [take_all (by omega)]
    unfold ilen
    omega
  generalize hS : S0 Try.prog = S
  refine call_in' hS I.fn_causeylaw07_HuffMore ?_
  cbv
  refine s_br hS ?_ ?_ <;> intro h <;> cbv <;> simp only [← hS, Int.ofNat_eq_natCast, cq, Bool.not_eq_true', Bool.not_eq_false', decide_eq_true_eq, decide_eq_false_iff_not, beq_iff_eq, beq_eq_false_iff_ne, ne_eq] at h
  · refine wakes_u hS ?_
    cbv
    exact .rfl
  · refine put_u hS (b := b) hb (by omega) rfl hfs' hn' fun P N st hP hN => ?_
    cbv
    refine s_flen hS (by rfl) ?_
    cbv
    repeat' (first
        | (refine s_eqs hS rfl ?_; try cbv)
        | (refine s_eqt hS rfl ?_ ?_; (focus (cbv; (repeat' (first | exact trivial | rfl | refine And.intro ?_ ?_ | assumption | omega | (simp only [← hS, Int.ofNat_eq_natCast, cq, Bool.not_eq_true', Bool.not_eq_false', decide_eq_true_eq, decide_eq_false_iff_not, beq_iff_eq, beq_eq_false_iff_ne, ne_eq]; done) | (simp only [← hS, Int.ofNat_eq_natCast, cq, Bool.not_eq_true', Bool.not_eq_false', decide_eq_true_eq, decide_eq_false_iff_not, beq_iff_eq, beq_eq_false_iff_ne, ne_eq]; first | assumption | omega))); done)); try cbv)
        | (refine s_eqo hS ?_; try cbv)
        | (refine s_lk hS ?_; try cbv)
        | (refine s_mu hS ?_; try cbv)
        | (refine s_chk hS (by simp only [← hS, Int.ofNat_eq_natCast, cq, Bool.not_eq_true', Bool.not_eq_false', decide_eq_true_eq, decide_eq_false_iff_not, beq_iff_eq, beq_eq_false_iff_ne, ne_eq]; omega) ?_; try cbv)
        | (refine s_br hS ?_ ?_ <;> intro h <;> (try cbv) <;> (try simp only [← hS, Int.ofNat_eq_natCast, cq, Bool.not_eq_true', Bool.not_eq_false', decide_eq_true_eq, decide_eq_false_iff_not, beq_iff_eq, beq_eq_false_iff_ne, ne_eq] at h) <;> first | (exfalso; omega) | (exact absurd trivial h) | (exact (no_tf h).elim) | (exact (no_ft h).elim) | (exact (no_both h (by with_reducible assumption)).elim) | (exact (no_both (by with_reducible assumption) h).elim) | skip)
        | (refine s_add hS ?_ (by simp only [lo]; omega) (by simp only [hi]; omega); intro _ _; try cbv)
        | (refine s_sub hS ?_ (by simp only [lo]; omega) (by simp only [hi]; omega); intro _ _; try cbv)
        | (refine s_cvi hS ?_ (by simp only [lo]; omega) (by simp only [hi]; omega); try cbv))
    have hPl : ilen P = N := by rw [← hP, cellsB_len, hN]
    refine s_flen hS (G := S.app [] (S.sub P 0 N 1)) (by rw [app_sub hS hP hN, hPl]; omega) ?_
    cbv
    repeat' (first
        | (refine s_eqs hS rfl ?_; try cbv)
        | (refine s_eqt hS rfl ?_ ?_; (focus (cbv; (repeat' (first | exact trivial | rfl | refine And.intro ?_ ?_ | assumption | omega | (simp only [← hS, Int.ofNat_eq_natCast, cq, Bool.not_eq_true', Bool.not_eq_false', decide_eq_true_eq, decide_eq_false_iff_not, beq_iff_eq, beq_eq_false_iff_ne, ne_eq]; done) | (simp only [← hS, Int.ofNat_eq_natCast, cq, Bool.not_eq_true', Bool.not_eq_false', decide_eq_true_eq, decide_eq_false_iff_not, beq_iff_eq, beq_eq_false_iff_ne, ne_eq]; first | assumption | omega))); done)); try cbv)
        | (refine s_eqo hS ?_; try cbv)
        | (refine s_lk hS ?_; try cbv)
        | (refine s_mu hS ?_; try cbv)
        | (refine s_chk hS (by simp only [← hS, Int.ofNat_eq_natCast, cq, Bool.not_eq_true', Bool.not_eq_false', decide_eq_true_eq, decide_eq_false_iff_not, beq_iff_eq, beq_eq_false_iff_ne, ne_eq]; omega) ?_; try cbv)
        | (refine s_br hS ?_ ?_ <;> intro h <;> (try cbv) <;> (try simp only [← hS, Int.ofNat_eq_natCast, cq, Bool.not_eq_true', Bool.not_eq_false', decide_eq_true_eq, decide_eq_false_iff_not, beq_iff_eq, beq_eq_false_iff_ne, ne_eq] at h) <;> first | (exfalso; omega) | (exact absurd trivial h) | (exact (no_tf h).elim) | (exact (no_ft h).elim) | (exact (no_both h (by with_reducible assumption)).elim) | (exact (no_both (by with_reducible assumption) h).elim) | skip)
        | (refine s_add hS ?_ (by simp only [lo]; omega) (by simp only [hi]; omega); intro _ _; try cbv)
        | (refine s_sub hS ?_ (by simp only [lo]; omega) (by simp only [hi]; omega); intro _ _; try cbv)
        | (refine s_cvi hS ?_ (by simp only [lo]; omega) (by simp only [hi]; omega); try cbv))
    refine take_u hS (b := Hu.put b ++ [255]) ?_ ?_ rfl (by show FSub (S.app (S.app [] (S.sub P 0 N 1)) [.i .u8 (.l 255)]) _; rw [app_sub hS hP hN]; exact app_one hS hP) ?_ fun L F2 n2 st2 e hL hF2 hn2 he => ?_
    · intro v hv
      rcases List.mem_append.1 hv with h | h
      · exact Hu.put_ok b v h
      · rw [List.mem_singleton] at h; subst h; decide
    · unfold ilen at *; rw [List.length_append]; simp; omega
    · simp only [Z.v, ← hS, Int.ofNat_eq_natCast, cq, Bool.not_eq_true', Bool.not_eq_false', decide_eq_true_eq, decide_eq_false_iff_not, beq_iff_eq, beq_eq_false_iff_ne, ne_eq]; unfold ilen at *; rw [List.length_append]; simp; omega
    · have he' : e = 70 := by rw [← he]; unfold takeE; rw [hmo]; rfl
      have hn2' : n2 = 0 := by rw [hn2, ← hL]; unfold takeL; rw [hmo]; rfl
      clear hn2 he
      cbv
      repeat' (first
          | (refine s_eqs hS rfl ?_; try cbv)
          | (refine s_eqt hS rfl ?_ ?_; (focus (cbv; (repeat' (first | exact trivial | rfl | refine And.intro ?_ ?_ | assumption | omega | (simp only [← hS, Int.ofNat_eq_natCast, cq, Bool.not_eq_true', Bool.not_eq_false', decide_eq_true_eq, decide_eq_false_iff_not, beq_iff_eq, beq_eq_false_iff_ne, ne_eq]; done) | (simp only [← hS, Int.ofNat_eq_natCast, cq, Bool.not_eq_true', Bool.not_eq_false', decide_eq_true_eq, decide_eq_false_iff_not, beq_iff_eq, beq_eq_false_iff_ne, ne_eq]; first | assumption | omega))); done)); try cbv)
          | (refine s_eqo hS ?_; try cbv)
          | (refine s_lk hS ?_; try cbv)
          | (refine s_mu hS ?_; try cbv)
          | (refine s_chk hS (by simp only [← hS, Int.ofNat_eq_natCast, cq, Bool.not_eq_true', Bool.not_eq_false', decide_eq_true_eq, decide_eq_false_iff_not, beq_iff_eq, beq_eq_false_iff_ne, ne_eq]; omega) ?_; try cbv)
          | (refine s_br hS ?_ ?_ <;> intro h <;> (try cbv) <;> (try simp only [← hS, Int.ofNat_eq_natCast, cq, Bool.not_eq_true', Bool.not_eq_false', decide_eq_true_eq, decide_eq_false_iff_not, beq_iff_eq, beq_eq_false_iff_ne, ne_eq] at h) <;> first | (exfalso; omega) | (exact absurd trivial h) | (exact (no_tf h).elim) | (exact (no_ft h).elim) | (exact (no_both h (by with_reducible assumption)).elim) | (exact (no_both (by with_reducible assumption) h).elim) | skip)
          | (refine s_add hS ?_ (by simp only [lo]; omega) (by simp only [hi]; omega); intro _ _; try cbv)
          | (refine s_sub hS ?_ (by simp only [lo]; omega) (by simp only [hi]; omega); intro _ _; try cbv)
          | (refine s_cvi hS ?_ (by simp only [lo]; omega) (by simp only [hi]; omega); try cbv)
          | (refine wakes_u hS ?_; cbv))
      exact .rfl
end Cz
