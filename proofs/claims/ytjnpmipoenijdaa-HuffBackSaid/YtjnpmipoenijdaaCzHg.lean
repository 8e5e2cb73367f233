/- Huff, part G: how many bits a text has. -/
import Derived.Test.YtjnpmipoenijdaaCzHf
namespace Cz
open Go Go.RowKit Go.Proofs
set_option linter.unusedSimpArgs false
set_option linter.unusedVariables false
set_option maxRecDepth 100000
set_option maxHeartbeats 4000000
/-- How many bits the first bytes have. -/
def bitsI (b : List Int) (k : Int) : Int := Hu.nbits (b.take k.toNat)
theorem zs_len {Zs : List SV} (h : repS 512 [SV.i .i64 (.l 0)] = Zs) : Zs.length = 512 := by rw [← h, repS_one, List.length_replicate]
theorem codeLit_plain {T : List SV} (h : codeLit = T) : plains T = true := by rw [← h, ← codeLit_eq]; exact upto_plain 256
theorem gc_c {x y : Bool} : x = true → y = true → (match x with | false => false | true => y) = true := by intro hx hy; subst hx; exact hy
theorem gc_m {F : List SV} {ok : Nat → Bool} : refsBL ok F = true → (match F with | [] => true | x :: xs => refsB ok x && refsBL ok xs) = true := by
  intro h
  cases F with
  | nil => rfl
  | cons x xs => simpa only [refsBL] using h
theorem code_at {c j : Nat} (h : c < 256) (hj : j + 1 ≤ 2) : ((upto 256).drop (c * 2 + j)).take 1 = ((cellC c).drop j).take 1 := by
  have e : upto 256 = (List.range 256).flatMap cellC := by simp [upto]
  rw [e]
  exact flat_at (enc := cellC) (sz := 2) (fun _ => rfl) (l := List.range 256) (i := c) (a := c) (by simp [h]) j 1 hj
/-- How many bits a byte's code has, read; its code, read. -/
theorem code_rd1 {S : Sy} (hS : S0 Try.prog = S) {T : List SV} (hT : codeLit = T) {c : Int} {K : SV → Prop} (h0 : 0 ≤ c) (h : c < 256) {m : Int} (hm : clsI c = m)
    (h1 : K (.i .i64 (.y m))) : S.rd T c 2 1 1 false K := by
  subst hT hm
  rw [← codeLit_eq]
  refine s_rd hS h0 (by rw [upto_len (Nat.le_refl _)]; omega) (Nat.le_refl _) (v := .i .i64 (.y (clsI c))) ?_ h1
  rw [code_at (by omega) (by omega)]
  rfl
theorem code_rd0 {S : Sy} (hS : S0 Try.prog = S) {T : List SV} (hT : codeLit = T) {c : Int} {K : SV → Prop} (h0 : 0 ≤ c) (h : c < 256) {m : Int} (hm : codeI c = m)
    (h1 : K (.i .i64 (.y m))) : S.rd T c 2 0 1 false K := by
  subst hT hm
  rw [← codeLit_eq]
  refine s_rd hS h0 (by rw [upto_len (Nat.le_refl _)]; omega) (by omega) (v := .i .i64 (.y (codeI c))) ?_ h1
  rw [code_at (by omega) (by omega)]
  rfl
theorem clsI_bd (c : Int) : 5 ≤ clsI c ∧ clsI c ≤ 11 := by
  unfold clsI
  rcases Hu.cls_cases c.toNat with h | h | h | h <;> rw [h] <;> decide
theorem bitsI_next {b : List Int} {j v : Int} (hv : b[j.toNat]? = some v) (h0 : 0 ≤ j) : bitsI b (j + 1) = bitsI b j + clsI v := by
  unfold bitsI Hu.nbits Hu.enc clsI
  rw [take_next hv h0, List.flatMap_append, List.length_append]
  simp [Hu.cod, Hu.bitsN_len]
theorem bitsI_bd {b : List Int} {j : Int} (h0 : 0 ≤ j) : 0 ≤ bitsI b j ∧ bitsI b j ≤ 11 * j := by
  unfold bitsI Hu.nbits Hu.enc
  have h1 : ∀ (l : List Int), (l.flatMap fun v => Hu.cod v.toNat).length ≤ 11 * l.length := by
    intro l
    induction l with
    | nil => simp
    | cons v l ih =>
      have := clsI_bd v
      unfold clsI at this
      simp only [List.flatMap_cons, List.length_append, List.length_cons, Hu.cod, Hu.bitsN_len] at ih ⊢
      omega
  have h2 := h1 (b.take j.toNat)
  have h3 : (b.take j.toNat).length ≤ j.toNat := by rw [List.length_take]; omega
  omega
theorem Bits_f {b : List Int} {r : Int} (hb : Hu.BOk b) (hn : ilen b ≤ 1000000) (hr : bitsI b (ilen b) = r) :
    (S0 Try.prog).call 19 [.sl 0 1 (.l 0) (.y (ilen b)) none] [.r true true (.l 0) 1 (cellsB b)] (fun x _ => Sub x (.i .i64 (.y r))) := by
  obtain ⟨n, hn'⟩ : ∃ n, n = ilen b := ⟨_, rfl⟩
  have h0n := ilen_nn b
  rw [← hn'] at hn h0n hr ⊢
  have hpl := cellsB_plain b
  generalize hF : cellsB b = F at hpl ⊢
  have hc := codes_f
  generalize hT : codeLit = T at hc
  have hTl := codeLit_len hT
  generalize hS : S0 Try.prog = S
  refine call_in' hS I.fn_huff_Bits ?_
  unfold I.huff_Bits
  generalize hZ : repS 512 [SV.i .i64 (.l 0)] = Zs
  have hZn := zs_len hZ
  have hTn : T.length = 512 := by rw [← lenS_eq]; exact hTl
  have hTp := codeLit_plain hT
  cbv
  refine use_val hS hc .rfl rfl (by rw [← hT]; rfl) ?_
  cbv
  refine s_chk hS (by subst hS; simp only [flen_eq, cmp_eq, hTn]; rfl) ?_
  refine s_all hS hZn hTn hTp ?_
  cbv
  refine s_loop_up hS 2 I.dead_huff_Bits_0 (fun x : Int × Int => 0 ≤ x.1 ∧ x.1 ≤ n ∧ x.2 = bitsI b x.1)
    (fun x => [(9, .i .i64 (.y x.1)), (2, .i .i64 (.y x.2))]) (fun x => [])
    (fun x => (n - x.1).toNat) (0, 0) rfl ⟨⟨Int.le_refl _, by dsimp only; omega, rfl⟩, rfl, ?_, ?_, ?_⟩ ?_
  · cbv; (repeat' (first | exact sub_any | exact Sub.rfl | exact SubL.nil | refine SubL.cons ?_ ?_ | exact sub_i rfl | refine sub_tp ?_ | refine sub_ag ?_ | exact sub_tt rfl | exact sub_ff rfl | exact sub_b_tt rfl | exact sub_b_ff rfl | (refine sub_i ?_; simp only [Z.v]; omega) | (refine sub_b ?_; assumption) | (refine sub_b ?_; simp only [← hS, Int.ofNat_eq_natCast, cq, decide_eq_true_eq, decide_eq_false_iff_not, beq_iff_eq, beq_eq_false_iff_ne, ne_eq]; done) | (refine sub_tt ?_; assumption) | (refine sub_ff ?_; assumption)))
  · cbv; (repeat' (first | exact trivial | exact SubB.rfl | refine And.intro ?_ ?_ | (exact SubB.c (by with_reducible assumption)) | (refine SubB.c ?_; (repeat' (first | exact sub_any | exact Sub.rfl | exact SubL.nil | refine SubL.cons ?_ ?_ | exact sub_i rfl | refine sub_tp ?_ | refine sub_ag ?_ | exact sub_tt rfl | exact sub_ff rfl | exact sub_b_tt rfl | exact sub_b_ff rfl | (refine sub_i ?_; simp only [Z.v]; omega) | (refine sub_b ?_; assumption) | (refine sub_b ?_; simp only [← hS, Int.ofNat_eq_natCast, cq, decide_eq_true_eq, decide_eq_false_iff_not, beq_iff_eq, beq_eq_false_iff_ne, ne_eq]; done) | (refine sub_tt ?_; assumption) | (refine sub_ff ?_; assumption))); done) | (refine SubB.m ?_; (repeat' (first | exact SubM.nil | refine SubM.cons ?_ ?_ ?_ | (focus ((repeat' (first | exact sub_any | exact Sub.rfl | exact SubL.nil | refine SubL.cons ?_ ?_ | exact sub_i rfl | refine sub_tp ?_ | refine sub_ag ?_ | exact sub_tt rfl | exact sub_ff rfl | exact sub_b_tt rfl | exact sub_b_ff rfl | (refine sub_i ?_; simp only [Z.v]; omega) | (refine sub_b ?_; assumption) | (refine sub_b ?_; simp only [← hS, Int.ofNat_eq_natCast, cq, decide_eq_true_eq, decide_eq_false_iff_not, beq_iff_eq, beq_eq_false_iff_ne, ne_eq]; done) | (refine sub_tt ?_; assumption) | (refine sub_ff ?_; assumption))); done)))); done)))
  · cbv; exact gc_c (gc_m (plains_refs hpl)) (gc_c (gc_m (plains_refs hTp)) rfl)
  · intro x
    obtain ⟨j, w⟩ := x
    intro hx
    dsimp only at hx
    cbv
    obtain ⟨g0, g1, g2⟩ := hx
    repeat' (first
        | (refine s_eqs hS rfl ?_; try cbv)
        | (refine s_eqt hS rfl ?_ ?_; (focus (cbv; (repeat' (first | exact trivial | rfl | refine And.intro ?_ ?_ | assumption | omega | (simp only [← hS, Int.ofNat_eq_natCast, cq, decide_eq_true_eq, decide_eq_false_iff_not, beq_iff_eq, beq_eq_false_iff_ne, ne_eq]; done) | (simp only [← hS, Int.ofNat_eq_natCast, cq, decide_eq_true_eq, decide_eq_false_iff_not, beq_iff_eq, beq_eq_false_iff_ne, ne_eq]; first | assumption | omega))); done)); try cbv)
        | (refine s_eqo hS ?_; try cbv)
        | (refine s_lk hS ?_; try cbv)
        | (refine s_mu hS ?_; try cbv)
        | (refine s_chk hS (by simp only [← hS, Int.ofNat_eq_natCast, cq, decide_eq_true_eq, decide_eq_false_iff_not, beq_iff_eq, beq_eq_false_iff_ne, ne_eq]; omega) ?_; try cbv)
        | (refine s_br hS ?_ ?_ <;> intro h <;> (try cbv) <;> (try simp only [← hS, Int.ofNat_eq_natCast, cq, decide_eq_true_eq, decide_eq_false_iff_not, beq_iff_eq, beq_eq_false_iff_ne, ne_eq] at h) <;> first | (exfalso; omega) | (exact absurd trivial h) | (exact (no_tf h).elim) | (exact (no_ft h).elim) | (exact (no_both h (by with_reducible assumption)).elim) | (exact (no_both (by with_reducible assumption) h).elim) | skip)
        | (refine s_add hS ?_ (by simp only [lo]; omega) (by simp only [hi]; omega); intro _ _; try cbv)
        | (refine s_sub hS ?_ (by simp only [lo]; omega) (by simp only [hi]; omega); intro _ _; try cbv)
        | (refine s_cvi hS ?_ (by simp only [lo]; omega) (by simp only [hi]; omega); try cbv))
    · obtain ⟨v, hv⟩ := at_ex (l := b) (i := j) (by omega) (by omega)
      have hb0 := hb v (List.mem_of_getElem? hv)
      obtain ⟨m, hm⟩ : ∃ m, clsI v = m := ⟨_, rfl⟩
      have hmb := clsI_bd v
      rw [hm] at hmb
      have hbd := bitsI_bd (b := b) g0
      have hnx := bitsI_next hv g0
      rw [hm] at hnx
      repeat' (first
          | (refine s_eqs hS rfl ?_; try cbv)
          | (refine s_eqt hS rfl ?_ ?_; (focus (cbv; (repeat' (first | exact trivial | rfl | refine And.intro ?_ ?_ | assumption | omega | (simp only [← hS, Int.ofNat_eq_natCast, cq, decide_eq_true_eq, decide_eq_false_iff_not, beq_iff_eq, beq_eq_false_iff_ne, ne_eq]; done) | (simp only [← hS, Int.ofNat_eq_natCast, cq, decide_eq_true_eq, decide_eq_false_iff_not, beq_iff_eq, beq_eq_false_iff_ne, ne_eq]; first | assumption | omega))); done)); try cbv)
          | (refine s_eqo hS ?_; try cbv)
          | (refine s_lk hS ?_; try cbv)
          | (refine s_mu hS ?_; try cbv)
          | (refine s_chk hS (by simp only [← hS, Int.ofNat_eq_natCast, cq, decide_eq_true_eq, decide_eq_false_iff_not, beq_iff_eq, beq_eq_false_iff_ne, ne_eq]; omega) ?_; try cbv)
          | (refine s_br hS ?_ ?_ <;> intro h <;> (try cbv) <;> (try simp only [← hS, Int.ofNat_eq_natCast, cq, decide_eq_true_eq, decide_eq_false_iff_not, beq_iff_eq, beq_eq_false_iff_ne, ne_eq] at h) <;> first | (exfalso; omega) | (exact absurd trivial h) | (exact (no_tf h).elim) | (exact (no_ft h).elim) | (exact (no_both h (by with_reducible assumption)).elim) | (exact (no_both (by with_reducible assumption) h).elim) | skip)
          | (refine s_add hS ?_ (by simp only [lo]; omega) (by simp only [hi]; omega); intro _ _; try cbv)
          | (refine s_sub hS ?_ (by simp only [lo]; omega) (by simp only [hi]; omega); intro _ _; try cbv)
          | (refine s_cvi hS ?_ (by simp only [lo]; omega) (by simp only [hi]; omega); try cbv)
          | (refine rowB hS hF hv rfl (by omega) ?_; try cbv)
          | (refine ite_ok (lenS_m hTl) ?_; cbv)
          | (refine code_rd1 hS hT hb0.1 hb0.2 hm ?_; cbv))
      rename_i w2 hw2 j2 hj2
      refine ⟨(j2, w2), by dsimp only; omega, ⟨by dsimp only; omega, by dsimp only; omega, by dsimp only; rw [hj2, hnx]; omega⟩, rfl, ?_, ?_, ?_⟩
      · cbv; (repeat' (first | exact sub_any | exact Sub.rfl | exact SubL.nil | refine SubL.cons ?_ ?_ | exact sub_i rfl | refine sub_tp ?_ | refine sub_ag ?_ | exact sub_tt rfl | exact sub_ff rfl | exact sub_b_tt rfl | exact sub_b_ff rfl | (refine sub_i ?_; simp only [Z.v]; omega) | (refine sub_b ?_; assumption) | (refine sub_b ?_; simp only [← hS, Int.ofNat_eq_natCast, cq, decide_eq_true_eq, decide_eq_false_iff_not, beq_iff_eq, beq_eq_false_iff_ne, ne_eq]; done) | (refine sub_tt ?_; assumption) | (refine sub_ff ?_; assumption)))
      · cbv; (repeat' (first | exact trivial | exact SubB.rfl | refine And.intro ?_ ?_ | (exact SubB.c (by with_reducible assumption)) | (refine SubB.c ?_; (repeat' (first | exact sub_any | exact Sub.rfl | exact SubL.nil | refine SubL.cons ?_ ?_ | exact sub_i rfl | refine sub_tp ?_ | refine sub_ag ?_ | exact sub_tt rfl | exact sub_ff rfl | exact sub_b_tt rfl | exact sub_b_ff rfl | (refine sub_i ?_; simp only [Z.v]; omega) | (refine sub_b ?_; assumption) | (refine sub_b ?_; simp only [← hS, Int.ofNat_eq_natCast, cq, decide_eq_true_eq, decide_eq_false_iff_not, beq_iff_eq, beq_eq_false_iff_ne, ne_eq]; done) | (refine sub_tt ?_; assumption) | (refine sub_ff ?_; assumption))); done) | (refine SubB.m ?_; (repeat' (first | exact SubM.nil | refine SubM.cons ?_ ?_ ?_ | (focus ((repeat' (first | exact sub_any | exact Sub.rfl | exact SubL.nil | refine SubL.cons ?_ ?_ | exact sub_i rfl | refine sub_tp ?_ | refine sub_ag ?_ | exact sub_tt rfl | exact sub_ff rfl | exact sub_b_tt rfl | exact sub_b_ff rfl | (refine sub_i ?_; simp only [Z.v]; omega) | (refine sub_b ?_; assumption) | (refine sub_b ?_; simp only [← hS, Int.ofNat_eq_natCast, cq, decide_eq_true_eq, decide_eq_false_iff_not, beq_iff_eq, beq_eq_false_iff_ne, ne_eq]; done) | (refine sub_tt ?_; assumption) | (refine sub_ff ?_; assumption))); done)))); done)))
      · cbv; exact gc_c (gc_m (plains_refs hpl)) (gc_c (gc_m (plains_refs hTp)) rfl)
    · have e : w = r := by rw [← hr, g2, show j = n by omega]
      (repeat' (first | exact sub_any | exact Sub.rfl | exact SubL.nil | refine SubL.cons ?_ ?_ | exact sub_i rfl | refine sub_tp ?_ | refine sub_ag ?_ | exact sub_tt rfl | exact sub_ff rfl | exact sub_b_tt rfl | exact sub_b_ff rfl | (refine sub_i ?_; simp only [Z.v]; omega) | (refine sub_b ?_; assumption) | (refine sub_b ?_; simp only [← hS, Int.ofNat_eq_natCast, cq, decide_eq_true_eq, decide_eq_false_iff_not, beq_iff_eq, beq_eq_false_iff_ne, ne_eq]; done) | (refine sub_tt ?_; assumption) | (refine sub_ff ?_; assumption)))
end Cz
