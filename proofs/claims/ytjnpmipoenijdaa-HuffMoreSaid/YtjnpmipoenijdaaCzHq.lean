/- Huff, part Q: the document's text in bits. -/
import Derived.Test.YtjnpmipoenijdaaCzHo
namespace Cz
open Go Go.RowKit Go.Proofs
set_option linter.unusedSimpArgs false
set_option linter.unusedVariables false
set_option maxRecDepth 100000
set_option maxHeartbeats 4000000
theorem lay_u {S : Sy} (hS : S0 Try.prog = S) {E : List Bool} {c m : Int} {k : Nat} {F : List SV} {ro lit : Bool} {st zn zu zc zm : Z} {l : List Blk} {K : SV → List Blk → Prop} (hE : lenB E ≤ 100000) (hF : cellsB (layB E) = F)
    (hrow : lget l k = .r ro lit st 1 F) (hn : zn.v = ilen (layB E)) (hu : zu.v = lenB E) (hzc : zc.v = c) (hzm : zm.v = m) (hm0 : 0 ≤ m) (hm : m ≤ 30) (hc0 : 0 ≤ c) (hc : c < 2 ^ m.toNat)
    (hK : ∀ E2 n2 F2 st u2, E2 = E ++ Hu.bitsN m.toNat c.toNat → cellsB (layB E2) = F2 → n2 = ilen (layB E2) → u2 = lenB E + m → K (.tp [.sl (len l) 1 (.l 0) (.y n2) none, .i .i64 (.y u2), .i .i64 (.y 0)]) (snoc l (.r false false (.y st) 1 F2))) :
    S.call 47 [.sl k 1 (.l 0) zn none, .i .i64 zu, .i .i64 zc, .i .i64 zm] l K := by
  subst hzc hzm hF
  refine use_own hS (fun _ => k) (Lay_f hE hm0 hm hc0 hc) (.cons (sub_sl rfl hn) (.cons (sub_i hu) (.cons (sub_i rfl) (.cons (sub_i rfl) .nil)))) rfl ⟨⟨_, _, _, _, _, _, _, _, rfl, cellsB_plain _, hrow, .rfl⟩, trivial⟩ (by omega) (cellsB_plain _) rfl (n := ilen (layB (E ++ Hu.bitsN zm.v.toNat zc.v.toNat))) ?_ fun st => hK _ _ _ st _ rfl rfl rfl rfl
  have := cellsB_len (layB (E ++ Hu.bitsN zm.v.toNat zc.v.toNat))
  unfold ilen at this ⊢
  rw [this]; simp
theorem bits_ones (k : Nat) : Hu.bitsN k (2 ^ k - 1) = List.replicate k true := by
  have := Hu.bitsN_valB (List.replicate k true)
  rwa [List.length_replicate, Hu.valB_ones] at this
theorem lay_put {b : List Int} {E2 : List Bool} {k c : Int} (h : E2 = Hu.enc b ++ Hu.bitsN k.toNat c.toNat) (hk : k = 8 * ((lenB (Hu.enc b) + 7) / 8) - lenB (Hu.enc b)) (hc : c = 2 ^ k.toNat - 1) : layB E2 = Hu.put b := by
  have hc' : c.toNat = 2 ^ k.toNat - 1 := by rw [hc, ← pow_cast]; omega
  rw [hc', bits_ones] at h
  unfold lenB at hk
  have hp : k.toNat = Hu.pad (Hu.enc b).length := by unfold Hu.pad; omega
  unfold Hu.put Hu.pack layB layN Hu.padded
  rw [h, hp]
  have hl : (Hu.enc b ++ List.replicate (Hu.pad (Hu.enc b).length) true).length = 8 * (((Hu.enc b).length + 7) / 8) := Hu.padded_len _
  rw [hl]
  rw [show (8 * (((Hu.enc b).length + 7) / 8) + 7) / 8 = ((Hu.enc b).length + 7) / 8 by omega, Nat.sub_self, show 8 * (((Hu.enc b).length + 7) / 8) / 8 = ((Hu.enc b).length + 7) / 8 by omega]
  simp
theorem lenB_enc (b : List Int) (j : Int) : lenB (encT b j) = bitsI b j := rfl
theorem encT_0 (b : List Int) : encT b 0 = [] := by unfold encT; simp [Hu.enc]
theorem pl_m {F : List SV} : plains F = true → (match F with | [] => true | x :: xs => plainV x && plains xs) = true := by
  intro h
  cases F with
  | nil => rfl
  | cons x xs => simpa only [plains] using h
theorem rput_f {b : List Int} (hb : Hu.BOk b) (hn : ilen b ≤ 5000) :
    (S0 Try.prog).call 23 [.sl 0 1 (.l 0) (.y (ilen b)) none] [.r true true (.l 0) 1 (cellsB b)] (OwnR 1 1 (cellsB (Hu.put b)) false []) := by
  obtain ⟨n, hn'⟩ : ∃ n, n = ilen b := ⟨_, rfl⟩
  have h0n := ilen_nn b
  rw [← hn'] at hn h0n ⊢
  have hpl := cellsB_plain b
  generalize hF : cellsB b = F at hpl ⊢
  generalize hP : cellsB (Hu.put b) = P
  generalize hS : S0 Try.prog = S
  refine call_in' hS I.fn_causeyref07_Put ?_
  cbv
  refine s_loop_nil hS 3 1 (by omega) rfl ?_
  cbv
  refine s_loop_ren hS 2 I.dead_causeyref07_Put_0 (fun x : Int × Int × Int × Int × List SV => 0 ≤ x.1 ∧ x.1 ≤ n ∧ x.2.1 = bitsI b x.1 ∧ x.2.2.1 = ilen (layB (encT b x.1)) ∧ x.2.2.2.2 = cellsB (layB (encT b x.1)))
    (fun x => [(5, .i .i64 (.y x.1)), (4, .i .i64 (.y x.2.1)), (3, .sl 1 1 (.l 0) (.y x.2.2.1) none)]) (fun x => [(1, .r false false (.y x.2.2.2.1) 1 x.2.2.2.2)])
    (fun x => (n - x.1).toNat) (0, 0, 0, 0, []) rfl rfl (fun _ => rfl) ⟨⟨Int.le_refl _, by dsimp only; omega, by dsimp only; rfl, by dsimp only; rw [encT_0]; rfl, by dsimp only; rw [encT_0]; rfl⟩, rfl, ?_, ?_, ?_⟩ ?_
  · cbv; (repeat' (first | exact sub_any | exact Sub.rfl | exact SubL.nil | refine SubL.cons ?_ ?_ | exact sub_i rfl | exact sub_sl rfl rfl))
  · cbv; exact ⟨.rfl, .r .rfl rfl rfl, trivial⟩
  · cbv; exact gc_c (gc_m (plains_refs hpl)) rfl
  · intro x
    obtain ⟨j, u, nn, st, G⟩ := x
    intro hx
    dsimp only at hx
    cbv
    obtain ⟨g0, g1, g2, g3, g4⟩ := hx
    have hbd := bitsI_bd (b := b) g0
    rw [← g2] at hbd
    refine s_br hS ?_ ?_ <;> intro h <;> cbv <;> simp only [← hS, Int.ofNat_eq_natCast, cq, decide_eq_true_eq, decide_eq_false_iff_not, beq_iff_eq, beq_eq_false_iff_ne, ne_eq] at h
    · obtain ⟨v, hv⟩ := at_ex (l := b) (i := j) (by omega) (by omega)
      have hb0 := hb v (List.mem_of_getElem? hv)
      obtain ⟨m, hm⟩ : ∃ m, clsI v = m := ⟨_, rfl⟩
      obtain ⟨c, hcv⟩ : ∃ c, codeI v = c := ⟨_, rfl⟩
      have hmb := clsI_bd v
      have hcb := codeI_bd hb0
      have hnx := bitsI_next hv g0
      have hen := encT_next hv g0
      have hco : Hu.cod v.toNat = Hu.bitsN m.toNat c.toNat := by rw [← hm, ← hcv]; rfl
      rw [hco] at hen
      rw [hm] at hmb hnx hcb
      rw [hcv] at hcb
      have hlE : lenB (encT b j) = u := g2.symm
      repeat' (first
          | (refine s_eqs hS rfl ?_; try cbv)
          | (refine s_eqt hS rfl ?_ ?_; (focus (cbv; (repeat' (first | exact trivial | rfl | refine And.intro ?_ ?_ | assumption | omega | (simp only [← hS, Int.ofNat_eq_natCast, cq, decide_eq_true_eq, decide_eq_false_iff_not, beq_iff_eq, beq_eq_false_iff_ne, ne_eq]; done) | (simp only [← hS, Int.ofNat_eq_natCast, cq, decide_eq_true_eq, decide_eq_false_iff_not, beq_iff_eq, beq_eq_false_iff_ne, ne_eq]; first | assumption | omega))); done)); try cbv)
          | (refine s_eqo hS ?_; try cbv)
          | (refine s_lk hS ?_; try cbv)
          | (refine s_mu hS ?_; try cbv)
          | (refine s_chk hS (by simp only [← hS, Int.ofNat_eq_natCast, cq, decide_eq_true_eq, decide_eq_false_iff_not, beq_iff_eq, beq_eq_false_iff_ne, ne_eq]; omega) ?_; try cbv)
          | (refine s_br hS ?_ ?_ <;> intro h <;> (try cbv) <;> (try simp only [← hS, Int.ofNat_eq_natCast, cq, decide_eq_true_eq, decide_eq_false_iff_not, beq_iff_eq, beq_eq_false_iff_ne, ne_eq] at h) <;> first | (exfalso; omega) | (exact absurd trivial h) | (exact (no_tf h).elim) | (exact (no_ft h).elim) | (exact (no_both h (by with_reducible assumption)).elim) | (exact (no_both (by with_reducible assumption) h).elim) | skip)
          | (refine s_add hS ?_ (by simp only [lo]; omega) (by simp only [hi]; omega); intro _ _; try cbv)
          | (refine s_sub hS ?_ (by simp only [lo]; omega) (by simp only [hi]; omega); intro _ _; try cbv)
          | (refine s_cvi hS ?_ (by simp only [lo]; omega) (by simp only [hi]; omega); try cbv)
          | (refine rowB hS hF hv rfl (by omega) ?_; try cbv)
          | (refine rCode_u hS hb0.1 hb0.2 fun c' m' hc' hm' => ?_; obtain rfl : c' = c := hc'.symm.trans hcv; obtain rfl : m' = m := hm'.symm.trans hm; cbv))
      refine lay_u hS (E := encT b j) (c := c') (m := m') (by omega) g4.symm rfl (by simp only [Z.v]; exact g3) (by simp only [Z.v]; omega) rfl rfl (by omega) (by omega) hcb.1 hcb.2.1 fun E2 n2 F2 st2 u2 hE2 hF2 hn2 hu2 => ?_
      cbv
      repeat' (first
          | (refine s_eqs hS rfl ?_; try cbv)
          | (refine s_eqt hS rfl ?_ ?_; (focus (cbv; (repeat' (first | exact trivial | rfl | refine And.intro ?_ ?_ | assumption | omega | (simp only [← hS, Int.ofNat_eq_natCast, cq, decide_eq_true_eq, decide_eq_false_iff_not, beq_iff_eq, beq_eq_false_iff_ne, ne_eq]; done) | (simp only [← hS, Int.ofNat_eq_natCast, cq, decide_eq_true_eq, decide_eq_false_iff_not, beq_iff_eq, beq_eq_false_iff_ne, ne_eq]; first | assumption | omega))); done)); try cbv)
          | (refine s_eqo hS ?_; try cbv)
          | (refine s_lk hS ?_; try cbv)
          | (refine s_mu hS ?_; try cbv)
          | (refine s_chk hS (by simp only [← hS, Int.ofNat_eq_natCast, cq, decide_eq_true_eq, decide_eq_false_iff_not, beq_iff_eq, beq_eq_false_iff_ne, ne_eq]; omega) ?_; try cbv)
          | (refine s_br hS ?_ ?_ <;> intro h <;> (try cbv) <;> (try simp only [← hS, Int.ofNat_eq_natCast, cq, decide_eq_true_eq, decide_eq_false_iff_not, beq_iff_eq, beq_eq_false_iff_ne, ne_eq] at h) <;> first | (exfalso; omega) | (exact absurd trivial h) | (exact (no_tf h).elim) | (exact (no_ft h).elim) | (exact (no_both h (by with_reducible assumption)).elim) | (exact (no_both (by with_reducible assumption) h).elim) | skip)
          | (refine s_add hS ?_ (by simp only [lo]; omega) (by simp only [hi]; omega); intro _ _; try cbv)
          | (refine s_sub hS ?_ (by simp only [lo]; omega) (by simp only [hi]; omega); intro _ _; try cbv)
          | (refine s_cvi hS ?_ (by simp only [lo]; omega) (by simp only [hi]; omega); try cbv))
      rename_i j2 hj2
      rw [← hen, ← hj2] at hE2
      refine ⟨(j2, u2, n2, st2, F2), 1, 2, by decide, by decide, by dsimp only; omega, ⟨by dsimp only; omega, by dsimp only; omega, by dsimp only; rw [hj2, hnx]; omega, by dsimp only; rw [hn2, hE2], by dsimp only; rw [← hF2, hE2]⟩, rfl, ?_, ?_, ?_⟩
      · cbv; (repeat' (first | exact sub_any | exact Sub.rfl | exact SubL.nil | refine SubL.cons ?_ ?_ | exact sub_i rfl | refine sub_tp ?_ | refine sub_ag ?_ | exact sub_tt rfl | exact sub_ff rfl | exact sub_b_tt rfl | exact sub_b_ff rfl | (refine sub_i ?_; simp only [Z.v]; omega) | (refine sub_b ?_; assumption) | (refine sub_b ?_; simp only [← hS, Int.ofNat_eq_natCast, cq, decide_eq_true_eq, decide_eq_false_iff_not, beq_iff_eq, beq_eq_false_iff_ne, ne_eq]; done) | (refine sub_tt ?_; assumption) | (refine sub_ff ?_; assumption)))
      · cbv
        exact ⟨.inr ⟨.rfl, pl_m hpl, trivial⟩, .inr ⟨.rfl, pl_m (by rw [← hF2]; exact cellsB_plain _), trivial⟩, trivial⟩
      · cbv; exact gc_c (gc_m (plains_refs hpl)) rfl
    · obtain rfl : j = n := by omega
      have hee : encT b j = Hu.enc b := by unfold encT; rw [take_all (by omega)]
      have hlE : lenB (Hu.enc b) = u := by rw [← hee]; exact g2.symm
      have hnn : nn = (u + 7) / 8 := by rw [g3, lenB_lay, hee, hlE]
      obtain ⟨k, hk⟩ : ∃ k, k = 8 * nn - u := ⟨_, rfl⟩
      obtain ⟨p, hp⟩ : ∃ p : Int, 2 ^ k.toNat = p := ⟨_, rfl⟩
      have hp0 : 0 < p := by rw [← hp]; exact pow_pos' _
      have hp1 : p ≤ 128 := by have := pow_le (m := k.toNat) (n := 7) (by omega); rw [hp] at this; omega
      repeat' (first
          | (refine s_eqs hS rfl ?_; try cbv)
          | (refine s_eqt hS rfl ?_ ?_; (focus (cbv; (repeat' (first | exact trivial | rfl | refine And.intro ?_ ?_ | assumption | omega | (simp only [← hS, Int.ofNat_eq_natCast, cq, decide_eq_true_eq, decide_eq_false_iff_not, beq_iff_eq, beq_eq_false_iff_ne, ne_eq]; done) | (simp only [← hS, Int.ofNat_eq_natCast, cq, decide_eq_true_eq, decide_eq_false_iff_not, beq_iff_eq, beq_eq_false_iff_ne, ne_eq]; first | assumption | omega))); done)); try cbv)
          | (refine s_eqo hS ?_; try cbv)
          | (refine s_lk hS ?_; try cbv)
          | (refine s_mu hS ?_; try cbv)
          | (refine s_chk hS (by simp only [← hS, Int.ofNat_eq_natCast, cq, decide_eq_true_eq, decide_eq_false_iff_not, beq_iff_eq, beq_eq_false_iff_ne, ne_eq]; omega) ?_; try cbv)
          | (refine s_br hS ?_ ?_ <;> intro h <;> (try cbv) <;> (try simp only [← hS, Int.ofNat_eq_natCast, cq, decide_eq_true_eq, decide_eq_false_iff_not, beq_iff_eq, beq_eq_false_iff_ne, ne_eq] at h) <;> first | (exfalso; omega) | (exact absurd trivial h) | (exact (no_tf h).elim) | (exact (no_ft h).elim) | (exact (no_both h (by with_reducible assumption)).elim) | (exact (no_both (by with_reducible assumption) h).elim) | skip)
          | (refine s_add hS ?_ (by simp only [lo]; omega) (by simp only [hi]; omega); intro _ _; try cbv)
          | (refine s_sub hS ?_ (by simp only [lo]; omega) (by simp only [hi]; omega); intro _ _; try cbv)
          | (refine s_cvi hS ?_ (by simp only [lo]; omega) (by simp only [hi]; omega); try cbv)
          | (refine s_mul hS ?_ (by simp only [lo]; omega) (by simp only [hi]; omega); intro _ _; try cbv)
          | (refine s_shll hS (c := p) (by rw [← hp]; congr 1; simp only [IntKind.bits]; omega) ?_ (by simp only [lo]; omega) (by simp only [hi]; omega); intro _ _; cbv))
      rename_i a1 ha1 k1 hk1 a3 ha3 c1 hc1
      have hkk : k1 = k := by omega
      refine lay_u hS (E := encT b j) (c := c1) (m := k1) (by rw [hee]; omega) g4.symm rfl (by simp only [Z.v]; exact g3) (by simp only [Z.v]; rw [hee]; omega) rfl rfl (by omega) (by omega) (by omega) (by rw [hkk, hp]; omega) fun E2 n2 F2 st2 u2 hE2 hF2 hn2 hu2 => ?_
      cbv
      rw [hee] at hE2
      have hPF : P = F2 := by rw [← hP, ← hF2, lay_put hE2 (by rw [hlE]; omega) (by rw [hkk, hp]; omega)]
      refine ⟨_, .rfl, ?_⟩
      rw [hPF]
      exact rowIs_same hF2 (by omega) hn2 rfl
end Cz
