/- Huff, part T: what the functions tell, used in any heap; what the document says of some texts. -/
import Derived.Test.YtjnpmipoenijdaaCzHs
namespace Cz
open Go Go.RowKit Go.Proofs
set_option linter.unusedSimpArgs false
set_option linter.unusedVariables false
set_option maxRecDepth 100000
set_option maxHeartbeats 4000000
theorem cellsB_n (L : List Int) : ilen L * ((1 : Nat) : Int) = (cellsB L).length := by
  have := cellsB_len L
  unfold ilen at this ⊢
  rw [this]; simp
section
variable {S : Sy} {b : List Int} {F : List SV} {k : Nat} {ro lit : Bool} {st zn : Z} {l : List Blk} {K : SV → List Blk → Prop}
theorem put_u (hS : S0 Try.prog = S) (hb : Hu.BOk b) (hn : ilen b ≤ 1000000) (hrow : lget l k = .r ro lit st 1 F) (hs : FSub F (cellsB b)) (hz : zn.v = ilen b)
    (hK : ∀ F2 n2 st, cellsB (Hu.put b) = F2 → n2 = ilen (Hu.put b) → K (.sl (len l) 1 (.l 0) (.y n2) none) (snoc l (.r false false (.y st) 1 F2))) : S.call 22 [.sl k 1 (.l 0) zn none] l K :=
  use_own hS (fun _ => k) (put_f hb hn) (.cons (sub_sl rfl hz) .nil) rfl ⟨⟨_, _, _, _, _, _, _, _, rfl, cellsB_plain _, hrow, hs⟩, trivial⟩ (by omega) (cellsB_plain _) rfl (cellsB_n _) fun st => hK _ _ st rfl rfl
theorem rput_u (hS : S0 Try.prog = S) (hb : Hu.BOk b) (hn : ilen b ≤ 5000) (hrow : lget l k = .r ro lit st 1 F) (hs : FSub F (cellsB b)) (hz : zn.v = ilen b)
    (hK : ∀ F2 n2 st, cellsB (Hu.put b) = F2 → n2 = ilen (Hu.put b) → K (.sl (len l) 1 (.l 0) (.y n2) none) (snoc l (.r false false (.y st) 1 F2))) : S.call 23 [.sl k 1 (.l 0) zn none] l K :=
  use_own hS (fun _ => k) (rput_f hb hn) (.cons (sub_sl rfl hz) .nil) rfl ⟨⟨_, _, _, _, _, _, _, _, rfl, cellsB_plain _, hrow, hs⟩, trivial⟩ (by omega) (cellsB_plain _) rfl (cellsB_n _) fun st => hK _ _ st rfl rfl
theorem take_u (hS : S0 Try.prog = S) (hb : Hu.BOk b) (hn : ilen b ≤ 1000000) (hrow : lget l k = .r ro lit st 1 F) (hs : FSub F (cellsB b)) (hz : zn.v = ilen b)
    (hK : ∀ L F2 n2 st e, takeL b = L → cellsB L = F2 → n2 = ilen L → takeE b = e → K (.tp [.sl (len l) 1 (.l 0) (.y n2) none, .i .i64 (.y e)]) (snoc l (.r false false (.y st) 1 F2))) : S.call 17 [.sl k 1 (.l 0) zn none] l K :=
  use_own hS (fun _ => k) (take_f hb hn) (.cons (sub_sl rfl hz) .nil) rfl ⟨⟨_, _, _, _, _, _, _, _, rfl, cellsB_plain _, hrow, hs⟩, trivial⟩ (by omega) (cellsB_plain _) rfl (cellsB_n _) fun st => hK _ _ _ st _ rfl rfl rfl rfl
theorem rtake_u (hS : S0 Try.prog = S) (hb : Hu.BOk b) (hn : ilen b ≤ 1000000) (hrow : lget l k = .r ro lit st 1 F) (hs : FSub F (cellsB b)) (hz : zn.v = ilen b)
    (hK : ∀ L F2 n2 st e, takeL b = L → cellsB L = F2 → n2 = ilen L → takeE b = e → K (.tp [.sl (len l) 1 (.l 0) (.y n2) none, .i .i64 (.y e)]) (snoc l (.r false false (.y st) 1 F2))) : S.call 18 [.sl k 1 (.l 0) zn none] l K :=
  use_own hS (fun _ => k) (rtake_f hb hn) (.cons (sub_sl rfl hz) .nil) rfl ⟨⟨_, _, _, _, _, _, _, _, rfl, cellsB_plain _, hrow, hs⟩, trivial⟩ (by omega) (cellsB_plain _) rfl (cellsB_n _) fun st => hK _ _ _ st _ rfl rfl rfl rfl
/-- No bytes: nil. -/
theorem take_nil_u (hS : S0 Try.prog = S) (hK : ∀ L F2 n2 st e, takeL [] = L → cellsB L = F2 → n2 = ilen L → takeE [] = e → K (.tp [.sl (len (snoc l (.r true true (.l 0) 1 []))) 1 (.l 0) (.y n2) none, .i .i64 (.y e)]) (snoc (snoc l (.r true true (.l 0) 1 [])) (.r false false (.y st) 1 F2))) :
    S.call 17 [.re (.slice none 0 0)] l K := by
  have hg : lget (snoc l (.r true true (.l 0) 1 [])) (len l) = .r true true (.l 0) 1 [] := by
    rw [lget_eq, snoc_eq, len_eq, List.getD_eq_getElem?_getD, List.getElem?_append_right (Nat.le_refl _), Nat.sub_self]; rfl
  have h := take_u (b := []) (K := K) (l := snoc l (.r true true (.l 0) 1 [])) (k := len l) (zn := .l 0) (F := []) rfl (by intro v hv; cases hv) (by decide) hg .rfl rfl hK
  subst hS
  exact call_ghost (sz := 1) (by omega) (fun ρ vs hρ hd => by
    match vs, hd with
    | [v], hd =>
      simp only [denL, den] at hd ⊢
      obtain ⟨⟨rfl, _⟩, _⟩ := hd
      have := den_nilRow (l := l) (sz := 1) (ρ := ρ) (by rw [← len_eq, hρ]; simp)
      simpa [nilRow, den, Z.v] using this) rfl h
theorem bits_u (hS : S0 Try.prog = S) (hb : Hu.BOk b) (hn : ilen b ≤ 1000000) (hrow : lget l k = .r ro lit st 1 F) (hs : FSub F (cellsB b)) (hz : zn.v = ilen b)
    (hK : ∀ r, bitsI b (ilen b) = r → K (.i .i64 (.y r)) l) : S.call 19 [.sl k 1 (.l 0) zn none] l K :=
  use_read hS (fun _ => k) (Bits_f hb hn rfl) (.cons (sub_sl rfl hz) .nil) rfl ⟨⟨_, _, _, _, _, _, _, _, rfl, cellsB_plain _, hrow, hs⟩, trivial⟩ rfl (hK _ rfl)
theorem rbitsn_u (hS : S0 Try.prog = S) (hb : Hu.BOk b) (hn : ilen b ≤ 1000000) (hrow : lget l k = .r ro lit st 1 F) (hs : FSub F (cellsB b)) (hz : zn.v = ilen b)
    (hK : ∀ r, bitsI b (ilen b) = r → K (.i .i64 (.y r)) l) : S.call 20 [.sl k 1 (.l 0) zn none] l K :=
  use_read hS (fun _ => k) (rBits_f hb hn rfl) (.cons (sub_sl rfl hz) .nil) rfl ⟨⟨_, _, _, _, _, _, _, _, rfl, cellsB_plain _, hrow, hs⟩, trivial⟩ rfl (hK _ rfl)
theorem short_u (hS : S0 Try.prog = S) (hb : Hu.BOk b) (hn : ilen b ≤ 1000000) (hrow : lget l k = .r ro lit st 1 F) (hs : FSub F (cellsB b)) (hz : zn.v = ilen b)
    (hK : ∀ t, shortB b = t → K (.b t) l) : S.call 24 [.sl k 1 (.l 0) zn none] l K :=
  use_read hS (fun _ => k) (Shorter_f hb hn rfl) (.cons (sub_sl rfl hz) .nil) rfl ⟨⟨_, _, _, _, _, _, _, _, rfl, cellsB_plain _, hrow, hs⟩, trivial⟩ rfl (hK _ rfl)
theorem rshort_u (hS : S0 Try.prog = S) (hb : Hu.BOk b) (hn : ilen b ≤ 1000000) (hrow : lget l k = .r ro lit st 1 F) (hs : FSub F (cellsB b)) (hz : zn.v = ilen b)
    (hK : ∀ t, shortB b = t → K (.b t) l) : S.call 25 [.sl k 1 (.l 0) zn none] l K :=
  use_read hS (fun _ => k) (rShorter_f hb hn rfl) (.cons (sub_sl rfl hz) .nil) rfl ⟨⟨_, _, _, _, _, _, _, _, rfl, cellsB_plain _, hrow, hs⟩, trivial⟩ rfl (hK _ rfl)
theorem same_u {a : List Int} {G : List SV} {k' : Nat} {ro' lit' : Bool} {st' zm : Z} (hS : S0 Try.prog = S) (ha : Hu.BOk a) (hab : a = b) (hrow : lget l k = .r ro lit st 1 F) (hs : FSub F (cellsB a)) (hz : zn.v = ilen a)
    (hrow' : lget l k' = .r ro' lit' st' 1 G) (hs' : FSub G (cellsB b)) (hz' : zm.v = ilen b) (hK : K .tt l) : S.call 21 [.sl k 1 (.l 0) zn none, .sl k' 1 (.l 0) zm none] l K :=
  use_read hS (fun j => if j = 0 then k else k') (Same_f ha (hab ▸ ha) hab) (.cons (sub_sl rfl hz) (.cons (sub_sl rfl hz') .nil)) rfl
    ⟨⟨_, _, _, _, _, _, _, _, rfl, cellsB_plain _, hrow, hs⟩, ⟨_, _, _, _, _, _, _, _, rfl, cellsB_plain _, hrow', hs'⟩, trivial⟩ rfl hK
end
theorem bok1 {l : List Int} (h : l.all (fun v => decide (0 ≤ v) && decide (v < 256)) = true) : Hu.BOk l := by
  intro v hv
  have := List.all_eq_true.1 h v hv
  simpa using this
theorem w_put1 : Hu.put [97] = [55] := by decide +kernel
theorem w_put2 : Hu.put [0] = [224, 31] := by decide +kernel
theorem w_put3 : Hu.put [] = [] := by decide +kernel
theorem w_take1 : takeL [55] = [97] ∧ takeE [55] = 0 := by
  have := Hu.take_put [97] (bok1 (by decide))
  rw [w_put1] at this
  unfold takeL takeE; rw [this]; exact ⟨rfl, rfl⟩
theorem w_take3 : takeL [] = [] ∧ takeE [] = 0 := by
  have := Hu.take_put [] (bok1 (by decide))
  rw [w_put3] at this
  unfold takeL takeE; rw [this]; exact ⟨rfl, rfl⟩
theorem w_take2 : takeE [255, 255] = 70 := by
  have h1 : Hu.bl [255, 255] = List.replicate 16 true := by decide +kernel
  have : Hu.take [255, 255] = none := by
    unfold Hu.take
    rw [h1, Hu.dec_none (Hu.sym_ones 16)]
    simp
  unfold takeE; rw [this]; rfl
theorem fs1 (a : Int) : FSub [.i .u8 (.l a)] (cellsB [a]) := by
  show FSub _ [.i .u8 (.y a)]
  exact SubL.fsub (SubL.cons (sub_i rfl) .nil)
theorem fs2 (a b : Int) : FSub [.i .u8 (.l a), .i .u8 (.l b)] (cellsB [a, b]) := by
  show FSub _ [.i .u8 (.y a), .i .u8 (.y b)]
  exact SubL.fsub (SubL.cons (sub_i rfl) (.cons (sub_i rfl) .nil))
theorem fs3 (a b c : Int) : FSub [.i .u8 (.l a), .i .u8 (.l b), .i .u8 (.l c)] (cellsB [a, b, c]) := by
  show FSub _ [.i .u8 (.y a), .i .u8 (.y b), .i .u8 (.y c)]
  exact SubL.fsub (SubL.cons (sub_i rfl) (.cons (sub_i rfl) (.cons (sub_i rfl) .nil)))
theorem fs4 (a b c d : Int) : FSub [.i .u8 (.l a), .i .u8 (.l b), .i .u8 (.l c), .i .u8 (.l d)] (cellsB [a, b, c, d]) := by
  show FSub _ [.i .u8 (.y a), .i .u8 (.y b), .i .u8 (.y c), .i .u8 (.y d)]
  exact SubL.fsub (SubL.cons (sub_i rfl) (.cons (sub_i rfl) (.cons (sub_i rfl) (.cons (sub_i rfl) .nil))))
theorem wakes_f : (S0 Try.prog).call 12 [] [] (fun x _ => Sub x .tt) := by
  generalize hS : S0 Try.prog = S
  refine call_in' hS I.fn_causeylaw07_wakes ?_
  cbv
  refine Code_u hS (by decide) (by decide) fun a1 m1 ha1 hm1 => ?_
  replace ha1 : a1 = 6 := by rw [← ha1]; decide +kernel
  replace hm1 : m1 = 5 := by rw [← hm1]; decide +kernel
  cbv
  refine Code_u hS (by decide) (by decide) fun a2 m2 ha2 hm2 => ?_
  replace ha2 : a2 = 1792 := by rw [← ha2]; decide +kernel
  replace hm2 : m2 = 11 := by rw [← hm2]; decide +kernel
  cbv
  refine Of_u hS fun r1 b1 hr1 hb1 => ?_
  replace hr1 : r1 = 97 := by rw [← hr1]; decide +kernel
  replace hb1 : b1 = true := by rw [← hb1]; decide +kernel
  cbv
  refine Of_u hS fun r2 b2 hr2 hb2 => ?_
  replace hb2 : b2 = false := by rw [← hb2]; decide +kernel
  clear hr2
  cbv
  refine take_u hS (b := [55]) (bok1 (by decide)) (by decide) rfl (fs1 55) rfl fun L1 F1 n1 st1 e1 hL1 hF1 hn1 he1 => ?_
  replace hL1 : L1 = [97] := hL1.symm.trans w_take1.1
  replace he1 : e1 = 0 := he1.symm.trans w_take1.2
  cbv
  refine take_u hS (b := [255, 255]) (bok1 (by decide)) (by decide) rfl (fs2 255 255) rfl fun L2 F2 n2 st2 e2 hL2 hF2 hn2 he2 => ?_
  replace he2 : e2 = 70 := he2.symm.trans w_take2
  clear hL2
  cbv
  refine take_nil_u hS fun L3 F3 n3 st3 e3 hL3 hF3 hn3 he3 => ?_
  replace he3 : e3 = 0 := he3.symm.trans w_take3.2
  replace hn3 : n3 = 0 := by rw [hn3, ← hL3, w_take3.1]; rfl
  clear hL3
  cbv
  repeat' (first
      | (refine s_eqs hS rfl ?_; try cbv)
      | (refine s_eqt hS rfl ?_ ?_; (focus (cbv; (repeat' (first | exact trivial | rfl | refine And.intro ?_ ?_ | assumption | omega | (simp only [← hS, Int.ofNat_eq_natCast, cq, Bool.not_eq_true', Bool.not_eq_false', decide_eq_true_eq, decide_eq_false_iff_not, beq_iff_eq, beq_eq_false_iff_ne, ne_eq]; done) | (simp only [← hS, Int.ofNat_eq_natCast, cq, Bool.not_eq_true', Bool.not_eq_false', decide_eq_true_eq, decide_eq_false_iff_not, beq_iff_eq, beq_eq_false_iff_ne, ne_eq]; first | assumption | omega))); done)); try cbv)
      | (refine s_eqo hS ?_; try cbv)
      | (refine s_lk hS ?_; try cbv)
      | (refine s_mu hS ?_; try cbv)
      | (refine s_chk hS (by simp only [← hS, Int.ofNat_eq_natCast, cq, Bool.not_eq_true', Bool.not_eq_false', decide_eq_true_eq, decide_eq_false_iff_not, beq_iff_eq, beq_eq_false_iff_ne, ne_eq]; omega) ?_; try cbv)
      | (refine s_br hS ?_ ?_ <;> intro h <;> (try cbv) <;> (try simp only [← hS, Int.ofNat_eq_natCast, cq, Bool.not_eq_true', Bool.not_eq_false', decide_eq_true_eq, decide_eq_false_iff_not, beq_iff_eq, beq_eq_false_iff_ne, ne_eq] at h) <;> first | (exfalso; omega) | (exact absurd trivial h) | (exact (no_tf h).elim) | (exact (no_ft h).elim) | (exact (no_both h (by with_reducible assumption)).elim) | (exact (no_both (by with_reducible assumption) h).elim) | skip)
      | (refine s_add hS ?_ (by simp only [lo]; omega) (by simp only [hi]; omega); intro _ _; try cbv)
      | (refine s_sub hS ?_ (by simp only [lo]; omega) (by simp only [hi]; omega); intro _ _; try cbv)
      | (refine s_cvi hS ?_ (by simp only [lo]; omega) (by simp only [hi]; omega); try cbv))
  refine put_u hS (b := [97]) (bok1 (by decide)) (by decide) rfl (fs1 97) rfl fun P1 N1 s1 hP1 hN1 => ?_
  cbv
  repeat' (first
      | (refine s_eqs hS rfl ?_; try cbv)
      | (refine s_eqt hS rfl ?_ ?_; (focus (cbv; (repeat' (first | exact trivial | rfl | refine And.intro ?_ ?_ | assumption | omega | (simp only [← hS, Int.ofNat_eq_natCast, cq, Bool.not_eq_true', Bool.not_eq_false', decide_eq_true_eq, decide_eq_false_iff_not, beq_iff_eq, beq_eq_false_iff_ne, ne_eq]; done) | (simp only [← hS, Int.ofNat_eq_natCast, cq, Bool.not_eq_true', Bool.not_eq_false', decide_eq_true_eq, decide_eq_false_iff_not, beq_iff_eq, beq_eq_false_iff_ne, ne_eq]; first | assumption | omega))); done)); try cbv)
      | (refine s_eqo hS ?_; try cbv)
      | (refine s_lk hS ?_; try cbv)
      | (refine s_mu hS ?_; try cbv)
      | (refine s_chk hS (by simp only [← hS, Int.ofNat_eq_natCast, cq, Bool.not_eq_true', Bool.not_eq_false', decide_eq_true_eq, decide_eq_false_iff_not, beq_iff_eq, beq_eq_false_iff_ne, ne_eq]; omega) ?_; try cbv)
      | (refine s_br hS ?_ ?_ <;> intro h <;> (try cbv) <;> (try simp only [← hS, Int.ofNat_eq_natCast, cq, Bool.not_eq_true', Bool.not_eq_false', decide_eq_true_eq, decide_eq_false_iff_not, beq_iff_eq, beq_eq_false_iff_ne, ne_eq] at h) <;> first | (exfalso; omega) | (exact absurd trivial h) | (exact (no_tf h).elim) | (exact (no_ft h).elim) | (exact (no_both h (by with_reducible assumption)).elim) | (exact (no_both (by with_reducible assumption) h).elim) | skip)
      | (refine s_add hS ?_ (by simp only [lo]; omega) (by simp only [hi]; omega); intro _ _; try cbv)
      | (refine s_sub hS ?_ (by simp only [lo]; omega) (by simp only [hi]; omega); intro _ _; try cbv)
      | (refine s_cvi hS ?_ (by simp only [lo]; omega) (by simp only [hi]; omega); try cbv))
  refine same_u hS (a := Hu.put [97]) (b := [55]) (Hu.put_ok _) w_put1 rfl (hP1 ▸ .rfl) hN1 rfl (fs1 55) rfl ?_
  cbv
  repeat' (first
      | (refine s_eqs hS rfl ?_; try cbv)
      | (refine s_eqt hS rfl ?_ ?_; (focus (cbv; (repeat' (first | exact trivial | rfl | refine And.intro ?_ ?_ | assumption | omega | (simp only [← hS, Int.ofNat_eq_natCast, cq, Bool.not_eq_true', Bool.not_eq_false', decide_eq_true_eq, decide_eq_false_iff_not, beq_iff_eq, beq_eq_false_iff_ne, ne_eq]; done) | (simp only [← hS, Int.ofNat_eq_natCast, cq, Bool.not_eq_true', Bool.not_eq_false', decide_eq_true_eq, decide_eq_false_iff_not, beq_iff_eq, beq_eq_false_iff_ne, ne_eq]; first | assumption | omega))); done)); try cbv)
      | (refine s_eqo hS ?_; try cbv)
      | (refine s_lk hS ?_; try cbv)
      | (refine s_mu hS ?_; try cbv)
      | (refine s_chk hS (by simp only [← hS, Int.ofNat_eq_natCast, cq, Bool.not_eq_true', Bool.not_eq_false', decide_eq_true_eq, decide_eq_false_iff_not, beq_iff_eq, beq_eq_false_iff_ne, ne_eq]; omega) ?_; try cbv)
      | (refine s_br hS ?_ ?_ <;> intro h <;> (try cbv) <;> (try simp only [← hS, Int.ofNat_eq_natCast, cq, Bool.not_eq_true', Bool.not_eq_false', decide_eq_true_eq, decide_eq_false_iff_not, beq_iff_eq, beq_eq_false_iff_ne, ne_eq] at h) <;> first | (exfalso; omega) | (exact absurd trivial h) | (exact (no_tf h).elim) | (exact (no_ft h).elim) | (exact (no_both h (by with_reducible assumption)).elim) | (exact (no_both (by with_reducible assumption) h).elim) | skip)
      | (refine s_add hS ?_ (by simp only [lo]; omega) (by simp only [hi]; omega); intro _ _; try cbv)
      | (refine s_sub hS ?_ (by simp only [lo]; omega) (by simp only [hi]; omega); intro _ _; try cbv)
      | (refine s_cvi hS ?_ (by simp only [lo]; omega) (by simp only [hi]; omega); try cbv))
  refine put_u hS (b := [0]) (bok1 (by decide)) (by decide) rfl (fs1 0) rfl fun P2 N2 s2 hP2 hN2 => ?_
  cbv
  repeat' (first
      | (refine s_eqs hS rfl ?_; try cbv)
      | (refine s_eqt hS rfl ?_ ?_; (focus (cbv; (repeat' (first | exact trivial | rfl | refine And.intro ?_ ?_ | assumption | omega | (simp only [← hS, Int.ofNat_eq_natCast, cq, Bool.not_eq_true', Bool.not_eq_false', decide_eq_true_eq, decide_eq_false_iff_not, beq_iff_eq, beq_eq_false_iff_ne, ne_eq]; done) | (simp only [← hS, Int.ofNat_eq_natCast, cq, Bool.not_eq_true', Bool.not_eq_false', decide_eq_true_eq, decide_eq_false_iff_not, beq_iff_eq, beq_eq_false_iff_ne, ne_eq]; first | assumption | omega))); done)); try cbv)
      | (refine s_eqo hS ?_; try cbv)
      | (refine s_lk hS ?_; try cbv)
      | (refine s_mu hS ?_; try cbv)
      | (refine s_chk hS (by simp only [← hS, Int.ofNat_eq_natCast, cq, Bool.not_eq_true', Bool.not_eq_false', decide_eq_true_eq, decide_eq_false_iff_not, beq_iff_eq, beq_eq_false_iff_ne, ne_eq]; omega) ?_; try cbv)
      | (refine s_br hS ?_ ?_ <;> intro h <;> (try cbv) <;> (try simp only [← hS, Int.ofNat_eq_natCast, cq, Bool.not_eq_true', Bool.not_eq_false', decide_eq_true_eq, decide_eq_false_iff_not, beq_iff_eq, beq_eq_false_iff_ne, ne_eq] at h) <;> first | (exfalso; omega) | (exact absurd trivial h) | (exact (no_tf h).elim) | (exact (no_ft h).elim) | (exact (no_both h (by with_reducible assumption)).elim) | (exact (no_both (by with_reducible assumption) h).elim) | skip)
      | (refine s_add hS ?_ (by simp only [lo]; omega) (by simp only [hi]; omega); intro _ _; try cbv)
      | (refine s_sub hS ?_ (by simp only [lo]; omega) (by simp only [hi]; omega); intro _ _; try cbv)
      | (refine s_cvi hS ?_ (by simp only [lo]; omega) (by simp only [hi]; omega); try cbv))
  refine same_u hS (a := Hu.put [0]) (b := [224, 31]) (Hu.put_ok _) w_put2 rfl (hP2 ▸ .rfl) hN2 rfl (fs2 224 31) rfl ?_
  cbv
  repeat' (first
      | (refine s_eqs hS rfl ?_; try cbv)
      | (refine s_eqt hS rfl ?_ ?_; (focus (cbv; (repeat' (first | exact trivial | rfl | refine And.intro ?_ ?_ | assumption | omega | (simp only [← hS, Int.ofNat_eq_natCast, cq, Bool.not_eq_true', Bool.not_eq_false', decide_eq_true_eq, decide_eq_false_iff_not, beq_iff_eq, beq_eq_false_iff_ne, ne_eq]; done) | (simp only [← hS, Int.ofNat_eq_natCast, cq, Bool.not_eq_true', Bool.not_eq_false', decide_eq_true_eq, decide_eq_false_iff_not, beq_iff_eq, beq_eq_false_iff_ne, ne_eq]; first | assumption | omega))); done)); try cbv)
      | (refine s_eqo hS ?_; try cbv)
      | (refine s_lk hS ?_; try cbv)
      | (refine s_mu hS ?_; try cbv)
      | (refine s_chk hS (by simp only [← hS, Int.ofNat_eq_natCast, cq, Bool.not_eq_true', Bool.not_eq_false', decide_eq_true_eq, decide_eq_false_iff_not, beq_iff_eq, beq_eq_false_iff_ne, ne_eq]; omega) ?_; try cbv)
      | (refine s_br hS ?_ ?_ <;> intro h <;> (try cbv) <;> (try simp only [← hS, Int.ofNat_eq_natCast, cq, Bool.not_eq_true', Bool.not_eq_false', decide_eq_true_eq, decide_eq_false_iff_not, beq_iff_eq, beq_eq_false_iff_ne, ne_eq] at h) <;> first | (exfalso; omega) | (exact absurd trivial h) | (exact (no_tf h).elim) | (exact (no_ft h).elim) | (exact (no_both h (by with_reducible assumption)).elim) | (exact (no_both (by with_reducible assumption) h).elim) | skip)
      | (refine s_add hS ?_ (by simp only [lo]; omega) (by simp only [hi]; omega); intro _ _; try cbv)
      | (refine s_sub hS ?_ (by simp only [lo]; omega) (by simp only [hi]; omega); intro _ _; try cbv)
      | (refine s_cvi hS ?_ (by simp only [lo]; omega) (by simp only [hi]; omega); try cbv))
  have hx : strB L1 = [97] := by rw [hL1]; rfl
  refine s_bs hS (hL1 ▸ bok1 (by decide)) hF1 hn1 ?_
  rw [hx]
  cbv
  repeat' (first
      | (refine s_eqs hS rfl ?_; try cbv)
      | (refine s_eqt hS rfl ?_ ?_; (focus (cbv; (repeat' (first | exact trivial | rfl | refine And.intro ?_ ?_ | assumption | omega | (simp only [← hS, Int.ofNat_eq_natCast, cq, Bool.not_eq_true', Bool.not_eq_false', decide_eq_true_eq, decide_eq_false_iff_not, beq_iff_eq, beq_eq_false_iff_ne, ne_eq]; done) | (simp only [← hS, Int.ofNat_eq_natCast, cq, Bool.not_eq_true', Bool.not_eq_false', decide_eq_true_eq, decide_eq_false_iff_not, beq_iff_eq, beq_eq_false_iff_ne, ne_eq]; first | assumption | omega))); done)); try cbv)
      | (refine s_eqo hS ?_; try cbv)
      | (refine s_lk hS ?_; try cbv)
      | (refine s_mu hS ?_; try cbv)
      | (refine s_chk hS (by simp only [← hS, Int.ofNat_eq_natCast, cq, Bool.not_eq_true', Bool.not_eq_false', decide_eq_true_eq, decide_eq_false_iff_not, beq_iff_eq, beq_eq_false_iff_ne, ne_eq]; omega) ?_; try cbv)
      | (refine s_br hS ?_ ?_ <;> intro h <;> (try cbv) <;> (try simp only [← hS, Int.ofNat_eq_natCast, cq, Bool.not_eq_true', Bool.not_eq_false', decide_eq_true_eq, decide_eq_false_iff_not, beq_iff_eq, beq_eq_false_iff_ne, ne_eq] at h) <;> first | (exfalso; omega) | (exact absurd trivial h) | (exact (no_tf h).elim) | (exact (no_ft h).elim) | (exact (no_both h (by with_reducible assumption)).elim) | (exact (no_both (by with_reducible assumption) h).elim) | skip)
      | (refine s_add hS ?_ (by simp only [lo]; omega) (by simp only [hi]; omega); intro _ _; try cbv)
      | (refine s_sub hS ?_ (by simp only [lo]; omega) (by simp only [hi]; omega); intro _ _; try cbv)
      | (refine s_cvi hS ?_ (by simp only [lo]; omega) (by simp only [hi]; omega); try cbv))
  refine bits_u hS (b := [97, 46, 65, 33]) (bok1 (by decide)) (by decide) rfl (fs4 97 46 65 33) rfl fun n29 h29 => ?_
  replace h29 : n29 = 29 := by rw [← h29]; decide +kernel
  cbv
  repeat' (first
      | (refine s_eqs hS rfl ?_; try cbv)
      | (refine s_eqt hS rfl ?_ ?_; (focus (cbv; (repeat' (first | exact trivial | rfl | refine And.intro ?_ ?_ | assumption | omega | (simp only [← hS, Int.ofNat_eq_natCast, cq, Bool.not_eq_true', Bool.not_eq_false', decide_eq_true_eq, decide_eq_false_iff_not, beq_iff_eq, beq_eq_false_iff_ne, ne_eq]; done) | (simp only [← hS, Int.ofNat_eq_natCast, cq, Bool.not_eq_true', Bool.not_eq_false', decide_eq_true_eq, decide_eq_false_iff_not, beq_iff_eq, beq_eq_false_iff_ne, ne_eq]; first | assumption | omega))); done)); try cbv)
      | (refine s_eqo hS ?_; try cbv)
      | (refine s_lk hS ?_; try cbv)
      | (refine s_mu hS ?_; try cbv)
      | (refine s_chk hS (by simp only [← hS, Int.ofNat_eq_natCast, cq, Bool.not_eq_true', Bool.not_eq_false', decide_eq_true_eq, decide_eq_false_iff_not, beq_iff_eq, beq_eq_false_iff_ne, ne_eq]; omega) ?_; try cbv)
      | (refine s_br hS ?_ ?_ <;> intro h <;> (try cbv) <;> (try simp only [← hS, Int.ofNat_eq_natCast, cq, Bool.not_eq_true', Bool.not_eq_false', decide_eq_true_eq, decide_eq_false_iff_not, beq_iff_eq, beq_eq_false_iff_ne, ne_eq] at h) <;> first | (exfalso; omega) | (exact absurd trivial h) | (exact (no_tf h).elim) | (exact (no_ft h).elim) | (exact (no_both h (by with_reducible assumption)).elim) | (exact (no_both (by with_reducible assumption) h).elim) | skip)
      | (refine s_add hS ?_ (by simp only [lo]; omega) (by simp only [hi]; omega); intro _ _; try cbv)
      | (refine s_sub hS ?_ (by simp only [lo]; omega) (by simp only [hi]; omega); intro _ _; try cbv)
      | (refine s_cvi hS ?_ (by simp only [lo]; omega) (by simp only [hi]; omega); try cbv))
  refine short_u hS (b := [97, 97]) (bok1 (by decide)) (by decide) rfl (fs2 97 97) rfl fun t2 ht2 => ?_
  replace ht2 : t2 = false := by rw [← ht2]; decide +kernel
  cbv
  repeat' (first
      | (refine s_eqs hS rfl ?_; try cbv)
      | (refine s_eqt hS rfl ?_ ?_; (focus (cbv; (repeat' (first | exact trivial | rfl | refine And.intro ?_ ?_ | assumption | omega | (simp only [← hS, Int.ofNat_eq_natCast, cq, Bool.not_eq_true', Bool.not_eq_false', decide_eq_true_eq, decide_eq_false_iff_not, beq_iff_eq, beq_eq_false_iff_ne, ne_eq]; done) | (simp only [← hS, Int.ofNat_eq_natCast, cq, Bool.not_eq_true', Bool.not_eq_false', decide_eq_true_eq, decide_eq_false_iff_not, beq_iff_eq, beq_eq_false_iff_ne, ne_eq]; first | assumption | omega))); done)); try cbv)
      | (refine s_eqo hS ?_; try cbv)
      | (refine s_lk hS ?_; try cbv)
      | (refine s_mu hS ?_; try cbv)
      | (refine s_chk hS (by simp only [← hS, Int.ofNat_eq_natCast, cq, Bool.not_eq_true', Bool.not_eq_false', decide_eq_true_eq, decide_eq_false_iff_not, beq_iff_eq, beq_eq_false_iff_ne, ne_eq]; omega) ?_; try cbv)
      | (refine s_br hS ?_ ?_ <;> intro h <;> (try cbv) <;> (try simp only [← hS, Int.ofNat_eq_natCast, cq, Bool.not_eq_true', Bool.not_eq_false', decide_eq_true_eq, decide_eq_false_iff_not, beq_iff_eq, beq_eq_false_iff_ne, ne_eq] at h) <;> first | (exfalso; omega) | (exact absurd trivial h) | (exact (no_tf h).elim) | (exact (no_ft h).elim) | (exact (no_both h (by with_reducible assumption)).elim) | (exact (no_both (by with_reducible assumption) h).elim) | skip)
      | (refine s_add hS ?_ (by simp only [lo]; omega) (by simp only [hi]; omega); intro _ _; try cbv)
      | (refine s_sub hS ?_ (by simp only [lo]; omega) (by simp only [hi]; omega); intro _ _; try cbv)
      | (refine s_cvi hS ?_ (by simp only [lo]; omega) (by simp only [hi]; omega); try cbv))
  refine short_u hS (b := [97, 97, 97]) (bok1 (by decide)) (by decide) rfl (fs3 97 97 97) rfl fun t3 ht3 => ?_
  replace ht3 : t3 = true := by rw [← ht3]; decide +kernel
  cbv
  repeat' (first
      | (refine s_eqs hS rfl ?_; try cbv)
      | (refine s_eqt hS rfl ?_ ?_; (focus (cbv; (repeat' (first | exact trivial | rfl | refine And.intro ?_ ?_ | assumption | omega | (simp only [← hS, Int.ofNat_eq_natCast, cq, Bool.not_eq_true', Bool.not_eq_false', decide_eq_true_eq, decide_eq_false_iff_not, beq_iff_eq, beq_eq_false_iff_ne, ne_eq]; done) | (simp only [← hS, Int.ofNat_eq_natCast, cq, Bool.not_eq_true', Bool.not_eq_false', decide_eq_true_eq, decide_eq_false_iff_not, beq_iff_eq, beq_eq_false_iff_ne, ne_eq]; first | assumption | omega))); done)); try cbv)
      | (refine s_eqo hS ?_; try cbv)
      | (refine s_lk hS ?_; try cbv)
      | (refine s_mu hS ?_; try cbv)
      | (refine s_chk hS (by simp only [← hS, Int.ofNat_eq_natCast, cq, Bool.not_eq_true', Bool.not_eq_false', decide_eq_true_eq, decide_eq_false_iff_not, beq_iff_eq, beq_eq_false_iff_ne, ne_eq]; omega) ?_; try cbv)
      | (refine s_br hS ?_ ?_ <;> intro h <;> (try cbv) <;> (try simp only [← hS, Int.ofNat_eq_natCast, cq, Bool.not_eq_true', Bool.not_eq_false', decide_eq_true_eq, decide_eq_false_iff_not, beq_iff_eq, beq_eq_false_iff_ne, ne_eq] at h) <;> first | (exfalso; omega) | (exact absurd trivial h) | (exact (no_tf h).elim) | (exact (no_ft h).elim) | (exact (no_both h (by with_reducible assumption)).elim) | (exact (no_both (by with_reducible assumption) h).elim) | skip)
      | (refine s_add hS ?_ (by simp only [lo]; omega) (by simp only [hi]; omega); intro _ _; try cbv)
      | (refine s_sub hS ?_ (by simp only [lo]; omega) (by simp only [hi]; omega); intro _ _; try cbv)
      | (refine s_cvi hS ?_ (by simp only [lo]; omega) (by simp only [hi]; omega); try cbv))
  exact sub_b_tt ht3
theorem wakes_u {S : Sy} (hS : S0 Try.prog = S) {l : List Blk} {K : SV → List Blk → Prop} (hK : K .tt l) : S.call 12 [] l K :=
  use_val hS wakes_f .nil rfl rfl hK
end Cz
