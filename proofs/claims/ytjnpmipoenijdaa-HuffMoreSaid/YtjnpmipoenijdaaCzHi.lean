/- Huff, part I: a text in bits. -/
import Derived.Test.YtjnpmipoenijdaaCzHh
namespace Cz
open Go Go.RowKit Go.Proofs
set_option linter.unusedSimpArgs false
set_option linter.unusedVariables false
set_option maxRecDepth 100000
set_option maxHeartbeats 4000000
theorem s_cv8 {S : Sy} {P : Program} {a : Int} {K : Int → Prop} (hS : S0 P = S) (h : ∀ r, r = a % 256 → K r) : S.cv .u8 a K := by
  refine s_cve hS _ ?_ (h _ rfl)
  simp [IntKind.wrap, IntKind.bits, IntKind.signed]
/-- A row, and one byte more. -/
theorem subB_app {S : Sy} (hS : S0 Try.prog = S) {l l' : List Int} {F G : List SV} {x st' : Int} {ro lit : Bool} {st : Z} (hF : cellsB l = F) (hG : cellsB l' = G) (hl : l' = l ++ [x]) (hst : st.v = st') :
    SubB (.r ro lit st 1 (S.app F [.i .u8 (.y x)])) (.r ro false (.y st') 1 G) := by
  subst hS hF hG hl
  refine .r ?_ hst (cellsB_plain _)
  rw [app_eq]
  have : cellsB l ++ [SV.i .u8 (.y x)] = cellsB (l ++ [x]) := by unfold cellsB; rw [List.flatMap_append]; rfl
  rw [this]
  exact .rfl
theorem s_flen {S : Sy} (hS : S0 Try.prog = S) {q : Int} {sz : Nat} {G : List SV} {k : Unit → Prop} (h : ilen G = q * sz) (hk : k ()) : S.chk (S.cmp .eq (S.sc q sz) (S.flen G)) k := by
  subst hS
  refine s_chk rfl ?_ hk
  rw [cmp_eq, sc_eq, flen_eq]
  unfold ilen at h
  exact decide_eq_true h.symm
theorem cellsB_len (l : List Int) : ilen (cellsB l) = ilen l := by rw [cellsB_map]; simp [ilen]
theorem rowIs_app {S : Sy} (hS : S0 Try.prog = S) {n0 k : Nat} {l L : List Int} {F G : List SV} {x : Int} {lit : Bool} {st nn : Z} {l' : List Blk} (hF : cellsB l = F) (hG : cellsB L = G) (hl : L = l ++ [x]) (hk : n0 ≤ k)
    (hn : nn.v = ilen l + 1) (hB : l'[k]? = some (.r false lit st 1 (S.app F [.i .u8 (.y x)]))) : RowIs n0 1 G (.sl k 1 (.l 0) nn none) l' := by
  subst hS hF hG hl
  have e : (S0 Try.prog).app (cellsB l) [SV.i .u8 (.y x)] = cellsB (l ++ [x]) := by rw [app_eq]; unfold cellsB; rw [List.flatMap_append]; rfl
  rw [e] at hB
  refine .inr ⟨k, nn, lit, st, _, hk, rfl, hB, .rfl, cellsB_plain _, ?_⟩
  have := cellsB_len (l ++ [x])
  unfold ilen at this hn
  rw [this, hn]
  simp
theorem rowIs_same {n0 k : Nat} {l : List Int} {G : List SV} {lit : Bool} {st nn : Z} {l' : List Blk} (hG : cellsB l = G) (hk : n0 ≤ k)
    (hn : nn.v = ilen l) (hB : l'[k]? = some (.r false lit st 1 G)) : RowIs n0 1 G (.sl k 1 (.l 0) nn none) l' := by
  subst hG
  refine .inr ⟨k, nn, lit, st, _, hk, rfl, hB, .rfl, cellsB_plain _, ?_⟩
  have := cellsB_len l
  unfold ilen at this hn
  rw [this, hn]
  simp
theorem codeI_bd {v : Int} (h : 0 ≤ v ∧ v < 256) : 0 ≤ codeI v ∧ codeI v < 2 ^ (clsI v).toNat ∧ codeI v < 2048 := by
  have h1 := Hu.code_lt (c := v.toNat) (by omega)
  have h2 : (2 : Nat) ^ Hu.cls v.toNat ≤ 2 ^ 11 := Nat.pow_le_pow_right (by omega) (by rcases Hu.cls_cases v.toNat with h | h | h | h <;> omega)
  unfold codeI clsI
  rw [Int.toNat_natCast, ← pow_cast]
  omega
theorem row_bd' {b : List Int} {j q : Int} (hq : 0 ≤ q) (h : 8 * q ≤ bitsI b j) {k : Nat} (hk : bitsI b j - 8 * q ≤ k) : 0 ≤ rowI b j q ∧ rowI b j q < 2 ^ k := by
  have h1 := row_bd hq h
  have h2 := pow_le (m := (bitsI b j - 8 * q).toNat) (n := k) (by omega)
  omega
theorem put_f {b : List Int} (hb : Hu.BOk b) (hn : ilen b ≤ 1000000) :
    (S0 Try.prog).call 22 [.sl 0 1 (.l 0) (.y (ilen b)) none] [.r true true (.l 0) 1 (cellsB b)] (OwnR 1 1 (cellsB (Hu.put b)) false []) := by
  obtain ⟨n, hn'⟩ : ∃ n, n = ilen b := ⟨_, rfl⟩
  have h0n := ilen_nn b
  rw [← hn'] at hn h0n ⊢
  have hpl := cellsB_plain b
  generalize hF : cellsB b = F at hpl ⊢
  have hc := codes_f
  generalize hT : codeLit = T at hc
  have hTl := codeLit_len hT
  have hTn : T.length = 512 := by rw [← lenS_eq]; exact hTl
  have hTp := codeLit_plain hT
  generalize hP : cellsB (Hu.put b) = P
  generalize hS : S0 Try.prog = S
  refine call_in' hS I.fn_huff_Put ?_
  unfold I.huff_Put
  generalize hZ : repS 512 [SV.i .i64 (.l 0)] = Zs
  have hZn := zs_len hZ
  cbv
  refine use_val hS hc .rfl rfl (by rw [← hT]; rfl) ?_
  cbv
  refine s_chk hS (by subst hS; simp only [flen_eq, cmp_eq, hTn]; rfl) ?_
  refine s_all hS hZn hTn hTp ?_
  cbv
  refine s_loop_nil hS 2 1 (by omega) rfl ?_
  cbv
  refine s_loop_up hS 3 I.dead_huff_Put_0 (fun x : Int × Int × Int × Int × Int × List SV => 0 ≤ x.1 ∧ x.1 ≤ n ∧ 0 ≤ x.2.2.2.1 ∧ x.2.1 = bitsI b x.1 - 8 * x.2.2.2.1 ∧ 0 ≤ x.2.1 ∧ x.2.1 < 8 ∧ x.2.2.1 = rowI b x.1 x.2.2.2.1 ∧ x.2.2.2.2.2 = cellsB (outI b x.1 x.2.2.2.1))
    (fun x => [(12, .i .i64 (.y x.1)), (4, .i .i64 (.y x.2.1)), (3, .i .u64 (.y x.2.2.1)), (2, .sl 2 1 (.l 0) (.y x.2.2.2.1) none)]) (fun x => [(2, .r false false (.y x.2.2.2.2.1) 1 x.2.2.2.2.2)])
    (fun x => (n - x.1).toNat) (0, 0, 0, 0, 0, []) rfl ⟨⟨Int.le_refl _, by dsimp only; omega, by dsimp only; omega, rfl, by dsimp only; omega, by dsimp only; omega, rfl, rfl⟩, rfl, ?_, ?_, ?_⟩ ?_
  · cbv; (repeat' (first | exact sub_any | exact Sub.rfl | exact SubL.nil | refine SubL.cons ?_ ?_ | exact sub_i rfl | exact sub_sl rfl rfl))
  · cbv; refine ⟨.rfl, .rfl, .r .rfl rfl rfl, trivial⟩
  · cbv; exact gc_c (gc_m (plains_refs hpl)) (gc_c (gc_m (plains_refs hTp)) rfl)
  · intro x
    obtain ⟨j, u, w, q, st, G⟩ := x
    intro hx
    dsimp only at hx
    cbv
    obtain ⟨g0, g1, g2, g3, g4, g5, g6, g7⟩ := hx
    refine s_br hS ?_ ?_ <;> intro h <;> cbv <;> simp only [← hS, Int.ofNat_eq_natCast, cq, decide_eq_true_eq, decide_eq_false_iff_not, beq_iff_eq, beq_eq_false_iff_ne, ne_eq] at h
    · obtain ⟨v, hv⟩ := at_ex (l := b) (i := j) (by omega) (by omega)
      have hb0 := hb v (List.mem_of_getElem? hv)
      obtain ⟨m, hm⟩ : ∃ m, clsI v = m := ⟨_, rfl⟩
      obtain ⟨c, hcv⟩ : ∃ c, codeI v = c := ⟨_, rfl⟩
      have hmb := clsI_bd v
      rw [hm] at hmb
      have hbd := bitsI_bd (b := b) g0
      have hnx := bitsI_next hv g0
      rw [hm] at hnx
      repeat' (first
          | (refine s_eqs hS rfl ?_; try cbv)
          | (refine s_eqt hS rfl ?_ ?_; (focus (cbv; (repeat' (first | exact trivial | rfl | refine And.intro ?_ ?_ | assumption | omega | (simp only [← hS, Int.ofNat_eq_natCast, cq, decide_eq_true_eq, decide_eq_false_iff_not, beq_iff_eq, beq_eq_false_iff_ne, ne_eq]; done) | (simp only [← hS, Int.ofNat_eq_natCast, cq, decide_eq_true_eq, decide_eq_false_iff_not, beq_iff_eq, beq_eq_false_iff_ne, ne_eq]; first | assumption | omega))); done)); try cbv)
          | (refine s_eqo hS ?_; try cbv)
          | (refine s_lk hS ?_; try cbv)
          | (refine s_mu hS ?_; try cbv)
          | (refine s_chk hS (by simp only [← hS, Int.ofNat_eq_natCast, cq, decide_eq_true_eq, decide_eq_false_iff_not, beq_iff_eq, beq_eq_false_iff_ne, ne_eq]; omega) ?_; try cbv)
          | (refine s_br hS ?_ ?_ <;> intro h <;> (try cbv) <;> (try simp only [← hS, Int.ofNat_eq_natCast, cq, decide_eq_true_eq, decide_eq_false_iff_not, beq_iff_eq, beq_eq_false_iff_ne, ne_eq] at h) <;> first | (exfalso; omega) | (exact absurd trivial h) | (exact (no_tf h).elim) | (exact (no_ft h).elim) | (exact (no_both h (by with_reducible assumption)).elim) | (exact (no_both (by with_reducible assumption) h).elim) | skip)
          | (refine s_add hS ?_ (by simp only [lo]; omega) (by simp only [hi]; omega); intro _ _; try cbv)
          | (refine s_sub hS ?_ (by simp only [lo]; omega) (by simp only [hi]; omega); intro _ _; try cbv)
          | (refine s_cvi hS ?_ (by simp only [lo]; omega) (by simp only [hi]; omega); try cbv)
          | (refine rowB hS hF hv rfl (by omega) ?_; try cbv))
      have hcb := codeI_bd hb0
      rw [hcv, hm] at hcb
      have hW := row_next hv g0 g2 (by omega) hb0
      rw [hm, hcv, ← g6] at hW
      have hWb := row_bd' (b := b) (j := j + 1) (q := q) g2 (by omega) (k := 18) (by omega)
      obtain ⟨p, hp⟩ : ∃ p : Int, 2 ^ m.toNat = p := ⟨_, rfl⟩
      rw [hp] at hW hcb
      obtain ⟨W, hWe⟩ : ∃ W, rowI b (j + 1) q = W := ⟨_, rfl⟩
      rw [hWe] at hW hWb
      have hw0 := (row_bd (b := b) (j := j) (q := q) g2 (by omega)).1
      rw [← g6] at hw0
      have hwp : 0 ≤ w * p := Int.mul_nonneg hw0 (by omega)
      refine s_draw hS rfl I.ord_huff_Put_0 (by decide +kernel) ?_
      cbv
      repeat' (first
          | (refine s_eqs hS rfl ?_; try cbv)
          | (refine s_eqt hS rfl ?_ ?_; (focus (cbv; (repeat' (first | exact trivial | rfl | refine And.intro ?_ ?_ | assumption | omega | (simp only [← hS, Int.ofNat_eq_natCast, cq, decide_eq_true_eq, decide_eq_false_iff_not, beq_iff_eq, beq_eq_false_iff_ne, ne_eq]; done) | (simp only [← hS, Int.ofNat_eq_natCast, cq, decide_eq_true_eq, decide_eq_false_iff_not, beq_iff_eq, beq_eq_false_iff_ne, ne_eq]; first | assumption | omega))); done)); try cbv)
          | (refine s_eqo hS ?_; try cbv)
          | (refine s_lk hS ?_; try cbv)
          | (refine s_mu hS ?_; try cbv)
          | (refine s_chk hS (by simp only [← hS, Int.ofNat_eq_natCast, cq, decide_eq_true_eq, decide_eq_false_iff_not, beq_iff_eq, beq_eq_false_iff_ne, ne_eq]; omega) ?_; try cbv)
          | (refine s_br hS ?_ ?_ <;> intro h <;> (try cbv) <;> (try simp only [← hS, Int.ofNat_eq_natCast, cq, decide_eq_true_eq, decide_eq_false_iff_not, beq_iff_eq, beq_eq_false_iff_ne, ne_eq] at h) <;> first | (exfalso; omega) | (exact absurd trivial h) | (exact (no_tf h).elim) | (exact (no_ft h).elim) | (exact (no_both h (by with_reducible assumption)).elim) | (exact (no_both (by with_reducible assumption) h).elim) | skip)
          | (refine s_add hS ?_ (by simp only [lo]; omega) (by simp only [hi]; omega); intro _ _; try cbv)
          | (refine s_sub hS ?_ (by simp only [lo]; omega) (by simp only [hi]; omega); intro _ _; try cbv)
          | (refine s_cvi hS ?_ (by simp only [lo]; omega) (by simp only [hi]; omega); try cbv)
          | (refine rowB hS hF hv rfl (by omega) ?_; try cbv)
          | (refine ite_ok (lenS_m hTl) ?_; cbv)
          | (refine code_rd1 hS hT hb0.1 hb0.2 hm ?_; cbv)
          | (refine code_rd0 hS hT hb0.1 hb0.2 hcv ?_; cbv)
          | (refine And.intro rfl ?_; try cbv)
          | (refine s_shll hS (c := p) (by rw [← hp]; congr 1; simp only [IntKind.bits]; omega) ?_ (by simp only [lo]; omega) (by simp only [hi]; omega); intro _ _; cbv)
          | (refine s_orl hS hp (by omega) (by simp only [*]; exact Int.mul_emod_left _ _) (by omega) (by omega) (by simp only [hi]; omega) ?_; intro _ _; cbv))
      rename_i r1 hr1 r2 hr2 u1 hu1
      obtain ⟨j1, h_j1⟩ : ∃ j1, j1 = j + 1 := ⟨_, rfl⟩
      rw [← h_j1] at hnx hWe
      have hout : G = cellsB (outI b j1 q) := by rw [g7, h_j1, out_next hv g0 g2 (by omega)]
      have hr2W : rowI b j1 q = r2 := by rw [hWe]; omega
      clear hp hwp hr1 hr2 hW hWe hcb
      refine s_loop_up hS 3 I.dead_huff_Put_1 (fun x : Int × Int × Int × List SV => q ≤ x.2.1 ∧ x.1 = bitsI b j1 - 8 * x.2.1 ∧ 0 ≤ x.1 ∧ x.1 ≤ 18 ∧ x.2.2.2 = cellsB (outI b j1 x.2.1))
        (fun x => [(4, .i .i64 (.y x.1)), (2, .sl 2 1 (.l 0) (.y x.2.1) none)]) (fun x => [(2, .r false false (.y x.2.2.1) 1 x.2.2.2)])
        (fun x => x.1.toNat) (u1, q, st, G) rfl ⟨⟨by dsimp only; omega, by dsimp only; omega, by dsimp only; omega, by dsimp only; omega, hout⟩, rfl, ?_, ?_, ?_⟩ ?_
      · cbv; (repeat' (first | exact sub_any | exact Sub.rfl | exact SubL.nil | refine SubL.cons ?_ ?_ | exact sub_i rfl | refine sub_tp ?_ | refine sub_ag ?_ | exact sub_tt rfl | exact sub_ff rfl | exact sub_b_tt rfl | exact sub_b_ff rfl | (refine sub_i ?_; simp only [Z.v]; omega) | (refine sub_b ?_; assumption) | (refine sub_b ?_; simp only [← hS, Int.ofNat_eq_natCast, cq, decide_eq_true_eq, decide_eq_false_iff_not, beq_iff_eq, beq_eq_false_iff_ne, ne_eq]; done) | (refine sub_tt ?_; assumption) | (refine sub_ff ?_; assumption)))
      · cbv; (repeat' (first | exact trivial | exact SubB.rfl | refine And.intro ?_ ?_ | (exact SubB.c (by with_reducible assumption)) | (refine SubB.c ?_; (repeat' (first | exact sub_any | exact Sub.rfl | exact SubL.nil | refine SubL.cons ?_ ?_ | exact sub_i rfl | refine sub_tp ?_ | refine sub_ag ?_ | exact sub_tt rfl | exact sub_ff rfl | exact sub_b_tt rfl | exact sub_b_ff rfl | (refine sub_i ?_; simp only [Z.v]; omega) | (refine sub_b ?_; assumption) | (refine sub_b ?_; simp only [← hS, Int.ofNat_eq_natCast, cq, decide_eq_true_eq, decide_eq_false_iff_not, beq_iff_eq, beq_eq_false_iff_ne, ne_eq]; done) | (refine sub_tt ?_; assumption) | (refine sub_ff ?_; assumption))); done) | (refine SubB.m ?_; (repeat' (first | exact SubM.nil | refine SubM.cons ?_ ?_ ?_ | (focus ((repeat' (first | exact sub_any | exact Sub.rfl | exact SubL.nil | refine SubL.cons ?_ ?_ | exact sub_i rfl | refine sub_tp ?_ | refine sub_ag ?_ | exact sub_tt rfl | exact sub_ff rfl | exact sub_b_tt rfl | exact sub_b_ff rfl | (refine sub_i ?_; simp only [Z.v]; omega) | (refine sub_b ?_; assumption) | (refine sub_b ?_; simp only [← hS, Int.ofNat_eq_natCast, cq, decide_eq_true_eq, decide_eq_false_iff_not, beq_iff_eq, beq_eq_false_iff_ne, ne_eq]; done) | (refine sub_tt ?_; assumption) | (refine sub_ff ?_; assumption))); done)))); done)))
      · cbv; exact gc_c (gc_m (plains_refs hpl)) (gc_c (gc_m (plains_refs hTp)) rfl)
      · intro x
        obtain ⟨y, q1, st1, G1⟩ := x
        intro hx
        dsimp only at hx
        cbv
        obtain ⟨k0, k1, k2, k3, k4⟩ := hx
        refine s_br hS ?_ ?_ <;> intro h <;> cbv <;> simp only [← hS, Int.ofNat_eq_natCast, cq, decide_eq_true_eq, decide_eq_false_iff_not, beq_iff_eq, beq_eq_false_iff_ne, ne_eq] at h
        · have hG1 : ilen G1 = q1 := by rw [k4, cellsB_len, out_len _ _ _ (by omega)]
          repeat' (first
              | (refine s_eqs hS rfl ?_; try cbv)
              | (refine s_eqt hS rfl ?_ ?_; (focus (cbv; (repeat' (first | exact trivial | rfl | refine And.intro ?_ ?_ | assumption | omega | (simp only [← hS, Int.ofNat_eq_natCast, cq, decide_eq_true_eq, decide_eq_false_iff_not, beq_iff_eq, beq_eq_false_iff_ne, ne_eq]; done) | (simp only [← hS, Int.ofNat_eq_natCast, cq, decide_eq_true_eq, decide_eq_false_iff_not, beq_iff_eq, beq_eq_false_iff_ne, ne_eq]; first | assumption | omega))); done)); try cbv)
              | (refine s_eqo hS ?_; try cbv)
              | (refine s_lk hS ?_; try cbv)
              | (refine s_mu hS ?_; try cbv)
              | (refine s_chk hS (by simp only [← hS, Int.ofNat_eq_natCast, cq, decide_eq_true_eq, decide_eq_false_iff_not, beq_iff_eq, beq_eq_false_iff_ne, ne_eq]; omega) ?_; try cbv)
              | (refine s_br hS ?_ ?_ <;> intro h <;> (try cbv) <;> (try simp only [← hS, Int.ofNat_eq_natCast, cq, decide_eq_true_eq, decide_eq_false_iff_not, beq_iff_eq, beq_eq_false_iff_ne, ne_eq] at h) <;> first | (exfalso; omega) | (exact absurd trivial h) | (exact (no_tf h).elim) | (exact (no_ft h).elim) | (exact (no_both h (by with_reducible assumption)).elim) | (exact (no_both (by with_reducible assumption) h).elim) | skip)
              | (refine s_add hS ?_ (by simp only [lo]; omega) (by simp only [hi]; omega); intro _ _; try cbv)
              | (refine s_sub hS ?_ (by simp only [lo]; omega) (by simp only [hi]; omega); intro _ _; try cbv)
              | (refine s_cvi hS ?_ (by simp only [lo]; omega) (by simp only [hi]; omega); try cbv)
              | (refine s_shr hS (by simp only [IntKind.bits]; omega) ?_; intro _ _; cbv)
              | (refine s_cv8 hS ?_; intro _ _; cbv))
          refine s_flen hS (by rw [hG1]; omega) ?_
          cbv
          repeat' (first
              | (refine s_eqs hS rfl ?_; try cbv)
              | (refine s_eqt hS rfl ?_ ?_; (focus (cbv; (repeat' (first | exact trivial | rfl | refine And.intro ?_ ?_ | assumption | omega | (simp only [← hS, Int.ofNat_eq_natCast, cq, decide_eq_true_eq, decide_eq_false_iff_not, beq_iff_eq, beq_eq_false_iff_ne, ne_eq]; done) | (simp only [← hS, Int.ofNat_eq_natCast, cq, decide_eq_true_eq, decide_eq_false_iff_not, beq_iff_eq, beq_eq_false_iff_ne, ne_eq]; first | assumption | omega))); done)); try cbv)
              | (refine s_eqo hS ?_; try cbv)
              | (refine s_lk hS ?_; try cbv)
              | (refine s_mu hS ?_; try cbv)
              | (refine s_chk hS (by simp only [← hS, Int.ofNat_eq_natCast, cq, decide_eq_true_eq, decide_eq_false_iff_not, beq_iff_eq, beq_eq_false_iff_ne, ne_eq]; omega) ?_; try cbv)
              | (refine s_br hS ?_ ?_ <;> intro h <;> (try cbv) <;> (try simp only [← hS, Int.ofNat_eq_natCast, cq, decide_eq_true_eq, decide_eq_false_iff_not, beq_iff_eq, beq_eq_false_iff_ne, ne_eq] at h) <;> first | (exfalso; omega) | (exact absurd trivial h) | (exact (no_tf h).elim) | (exact (no_ft h).elim) | (exact (no_both h (by with_reducible assumption)).elim) | (exact (no_both (by with_reducible assumption) h).elim) | skip)
              | (refine s_add hS ?_ (by simp only [lo]; omega) (by simp only [hi]; omega); intro _ _; try cbv)
              | (refine s_sub hS ?_ (by simp only [lo]; omega) (by simp only [hi]; omega); intro _ _; try cbv)
              | (refine s_cvi hS ?_ (by simp only [lo]; omega) (by simp only [hi]; omega); try cbv))
          rename_i y2 hy2 s2 hs2 x2 hx2
          obtain ⟨q2, h_q2⟩ : ∃ q2, q2 = q1 + 1 := ⟨_, rfl⟩
          obtain ⟨st2, h_st2⟩ : ∃ st2, st2 = S.flen G1 := ⟨_, rfl⟩
          obtain ⟨G2, h_G2⟩ : ∃ G2, G2 = cellsB (outI b j1 q2) := ⟨_, rfl⟩
          refine ⟨(y2, q2, st2, G2), by dsimp only; omega, ⟨by dsimp only; omega, by dsimp only; omega, by dsimp only; omega, by dsimp only; omega, h_G2⟩, rfl, ?_, ?_, ?_⟩
          · cbv; (repeat' (first | exact sub_any | exact Sub.rfl | exact SubL.nil | refine SubL.cons ?_ ?_ | exact sub_i rfl | (refine sub_sl rfl ?_; simp only [Z.v, ← hS, Int.ofNat_eq_natCast, cq, decide_eq_true_eq, decide_eq_false_iff_not, beq_iff_eq, beq_eq_false_iff_ne, ne_eq]; omega)))
          · cbv
            refine ⟨.rfl, .rfl, subB_app hS k4.symm h_G2.symm ?_ h_st2.symm, trivial⟩
            rw [h_q2]
            exact out_more g2 k0 (by omega) hr2W (by omega) hs2 hx2
          · cbv; exact gc_c (gc_m (plains_refs hpl)) (gc_c (gc_m (plains_refs hTp)) rfl)
        · obtain ⟨p, hp⟩ : ∃ p : Int, 2 ^ y.toNat = p := ⟨_, rfl⟩
          have hp1 : p < 512 := by
            have := pow_le (m := y.toNat) (n := 8) (by omega)
            rw [hp] at this
            omega
          have hp0 : 0 < p := by rw [← hp]; exact pow_pos' _
          repeat' (first
              | (refine s_eqs hS rfl ?_; try cbv)
              | (refine s_eqt hS rfl ?_ ?_; (focus (cbv; (repeat' (first | exact trivial | rfl | refine And.intro ?_ ?_ | assumption | omega | (simp only [← hS, Int.ofNat_eq_natCast, cq, decide_eq_true_eq, decide_eq_false_iff_not, beq_iff_eq, beq_eq_false_iff_ne, ne_eq]; done) | (simp only [← hS, Int.ofNat_eq_natCast, cq, decide_eq_true_eq, decide_eq_false_iff_not, beq_iff_eq, beq_eq_false_iff_ne, ne_eq]; first | assumption | omega))); done)); try cbv)
              | (refine s_eqo hS ?_; try cbv)
              | (refine s_lk hS ?_; try cbv)
              | (refine s_mu hS ?_; try cbv)
              | (refine s_chk hS (by simp only [← hS, Int.ofNat_eq_natCast, cq, decide_eq_true_eq, decide_eq_false_iff_not, beq_iff_eq, beq_eq_false_iff_ne, ne_eq]; omega) ?_; try cbv)
              | (refine s_br hS ?_ ?_ <;> intro h <;> (try cbv) <;> (try simp only [← hS, Int.ofNat_eq_natCast, cq, decide_eq_true_eq, decide_eq_false_iff_not, beq_iff_eq, beq_eq_false_iff_ne, ne_eq] at h) <;> first | (exfalso; omega) | (exact absurd trivial h) | (exact (no_tf h).elim) | (exact (no_ft h).elim) | (exact (no_both h (by with_reducible assumption)).elim) | (exact (no_both (by with_reducible assumption) h).elim) | skip)
              | (refine s_add hS ?_ (by simp only [lo]; omega) (by simp only [hi]; omega); intro _ _; try cbv)
              | (refine s_sub hS ?_ (by simp only [lo]; omega) (by simp only [hi]; omega); intro _ _; try cbv)
              | (refine s_cvi hS ?_ (by simp only [lo]; omega) (by simp only [hi]; omega); try cbv)
              | (refine s_shll hS (c := p) (by rw [← hp]; congr 1; simp only [IntKind.bits]; omega) ?_ (by simp only [lo]; omega) (by simp only [hi]; omega); intro _ _; cbv)
              | (refine s_andl hS (c := p) (m := y.toNat) ⟨by omega, hp, by simp only [IntKind.bits]; omega⟩ ?_; intro _ _; cbv))
          rename_i s1 hs1 s2 hs2 w3 hw3 j3 hj3
          have hw3' : w3 = rowI b j1 q1 := by rw [hw3, ← hp, ← hr2W, k1, row_mask g2 k0 (by omega)]
          refine ⟨(j3, y, w3, q1, st1, G1), by dsimp only; omega, ⟨by dsimp only; omega, by dsimp only; omega, by dsimp only; omega, ?_, by dsimp only; omega, by dsimp only; omega, ?_, ?_⟩, rfl, ?_, ?_, ?_⟩
          · dsimp only; rw [k1, hj3, ← h_j1]
          · dsimp only; rw [hw3', hj3, ← h_j1]
          · dsimp only; rw [k4, hj3, ← h_j1]
          · cbv; (repeat' (first | exact sub_any | exact Sub.rfl | exact SubL.nil | refine SubL.cons ?_ ?_ | exact sub_i rfl | refine sub_tp ?_ | refine sub_ag ?_ | exact sub_tt rfl | exact sub_ff rfl | exact sub_b_tt rfl | exact sub_b_ff rfl | (refine sub_i ?_; simp only [Z.v]; omega) | (refine sub_b ?_; assumption) | (refine sub_b ?_; simp only [← hS, Int.ofNat_eq_natCast, cq, decide_eq_true_eq, decide_eq_false_iff_not, beq_iff_eq, beq_eq_false_iff_ne, ne_eq]; done) | (refine sub_tt ?_; assumption) | (refine sub_ff ?_; assumption)))
          · cbv; (repeat' (first | exact trivial | exact SubB.rfl | refine And.intro ?_ ?_ | (exact SubB.c (by with_reducible assumption)) | (refine SubB.c ?_; (repeat' (first | exact sub_any | exact Sub.rfl | exact SubL.nil | refine SubL.cons ?_ ?_ | exact sub_i rfl | refine sub_tp ?_ | refine sub_ag ?_ | exact sub_tt rfl | exact sub_ff rfl | exact sub_b_tt rfl | exact sub_b_ff rfl | (refine sub_i ?_; simp only [Z.v]; omega) | (refine sub_b ?_; assumption) | (refine sub_b ?_; simp only [← hS, Int.ofNat_eq_natCast, cq, decide_eq_true_eq, decide_eq_false_iff_not, beq_iff_eq, beq_eq_false_iff_ne, ne_eq]; done) | (refine sub_tt ?_; assumption) | (refine sub_ff ?_; assumption))); done) | (refine SubB.m ?_; (repeat' (first | exact SubM.nil | refine SubM.cons ?_ ?_ ?_ | (focus ((repeat' (first | exact sub_any | exact Sub.rfl | exact SubL.nil | refine SubL.cons ?_ ?_ | exact sub_i rfl | refine sub_tp ?_ | refine sub_ag ?_ | exact sub_tt rfl | exact sub_ff rfl | exact sub_b_tt rfl | exact sub_b_ff rfl | (refine sub_i ?_; simp only [Z.v]; omega) | (refine sub_b ?_; assumption) | (refine sub_b ?_; simp only [← hS, Int.ofNat_eq_natCast, cq, decide_eq_true_eq, decide_eq_false_iff_not, beq_iff_eq, beq_eq_false_iff_ne, ne_eq]; done) | (refine sub_tt ?_; assumption) | (refine sub_ff ?_; assumption))); done)))); done)))
          · cbv; exact gc_c (gc_m (plains_refs hpl)) (gc_c (gc_m (plains_refs hTp)) rfl)
    · have hG : ilen G = q := by rw [g7, cellsB_len, out_len _ _ _ (by omega)]
      obtain ⟨p, hp⟩ : ∃ p : Int, 2 ^ (8 - u).toNat = p := ⟨_, rfl⟩
      have hp1 : p < 512 := by
        have := pow_le (m := (8 - u).toNat) (n := 8) (by omega)
        rw [hp] at this
        omega
      have hp0 : 0 < p := by rw [← hp]; exact pow_pos' _
      have hwb := row_bd' (b := b) (j := j) (q := q) g2 (by omega) (k := u.toNat) (by omega)
      rw [← g6] at hwb
      have hwp0 : 0 ≤ w * p := Int.mul_nonneg hwb.1 (by omega)
      have hwp : w * p + p ≤ 256 := by
        have h1 : (w + 1) * p ≤ 2 ^ u.toNat * p := Int.mul_le_mul_of_nonneg_right (by omega) (by omega)
        have h2 : (2 : Int) ^ u.toNat * p = 256 := by
          rw [← hp, ← Int.pow_add, show u.toNat + (8 - u).toNat = 8 by omega]; rfl
        rw [Int.add_mul] at h1
        omega
      have hbd := bitsI_bd (b := b) g0
      obtain rfl : j = n := by omega
      repeat' (first
          | (refine s_eqs hS rfl ?_; try cbv)
          | (refine s_eqt hS rfl ?_ ?_; (focus (cbv; (repeat' (first | exact trivial | rfl | refine And.intro ?_ ?_ | assumption | omega | (simp only [← hS, Int.ofNat_eq_natCast, cq, decide_eq_true_eq, decide_eq_false_iff_not, beq_iff_eq, beq_eq_false_iff_ne, ne_eq]; done) | (simp only [← hS, Int.ofNat_eq_natCast, cq, decide_eq_true_eq, decide_eq_false_iff_not, beq_iff_eq, beq_eq_false_iff_ne, ne_eq]; first | assumption | omega))); done)); try cbv)
          | (refine s_eqo hS ?_; try cbv)
          | (refine s_lk hS ?_; try cbv)
          | (refine s_mu hS ?_; try cbv)
          | (refine s_chk hS (by simp only [← hS, Int.ofNat_eq_natCast, cq, decide_eq_true_eq, decide_eq_false_iff_not, beq_iff_eq, beq_eq_false_iff_ne, ne_eq]; omega) ?_; try cbv)
          | (refine s_br hS ?_ ?_ <;> intro h <;> (try cbv) <;> (try simp only [← hS, Int.ofNat_eq_natCast, cq, decide_eq_true_eq, decide_eq_false_iff_not, beq_iff_eq, beq_eq_false_iff_ne, ne_eq] at h) <;> first | (exfalso; omega) | (exact absurd trivial h) | (exact (no_tf h).elim) | (exact (no_ft h).elim) | (exact (no_both h (by with_reducible assumption)).elim) | (exact (no_both (by with_reducible assumption) h).elim) | skip)
          | (refine s_add hS ?_ (by simp only [lo]; omega) (by simp only [hi]; omega); intro _ _; try cbv)
          | (refine s_sub hS ?_ (by simp only [lo]; omega) (by simp only [hi]; omega); intro _ _; try cbv)
          | (refine s_cvi hS ?_ (by simp only [lo]; omega) (by simp only [hi]; omega); try cbv)
          | (refine s_draw hS rfl I.ord_huff_Put_1 (by decide +kernel) ?_; cbv)
          | (refine s_shll hS (c := p) (by rw [← hp]; congr 1; simp only [IntKind.bits]; omega) ?_ (by simp only [lo]; omega) (by simp only [hi]; omega); intro _ _; cbv)
          | (refine s_orl hS hp (by omega) (by simp only [*]; exact Int.mul_emod_left _ _) (by omega) (by omega) (by simp only [hi]; omega) ?_; intro _ _; cbv)
          | (refine And.intro rfl ?_; try cbv)
          | (refine s_flen hS (by rw [hG]; omega) ?_; cbv))
      · rename_i e1 he1 e2 he2 e3 he3 e4 he4 x hx
        refine ⟨_, .rfl, ?_⟩
        have hend := put_end1 (u := 8 - u) (x := x) hn' g2 (by omega) (by omega) (by omega) g6.symm (by rw [hp, hx, he2, he4, he3]; omega)
        exact rowIs_app hS g7.symm hP hend (by omega) (by rw [out_len _ _ _ g2]; simp only [Z.v, ← hS, Int.ofNat_eq_natCast, cq, decide_eq_true_eq, decide_eq_false_iff_not, beq_iff_eq, beq_eq_false_iff_ne, ne_eq]; omega) rfl
      · have hu0 : u = 0 := by omega
        have hPG : P = G := by rw [g7, ← hP, put_end0 hn' g2 (by omega)]
        refine ⟨_, .rfl, ?_⟩
        rw [hPG]
        exact rowIs_same g7.symm (by omega) (by rw [out_len _ _ _ g2]; rfl) rfl
end Cz
