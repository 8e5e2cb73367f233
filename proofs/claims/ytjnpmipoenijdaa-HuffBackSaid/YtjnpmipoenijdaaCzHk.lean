/- Huff, part K: a text taken out of bits. -/
import Derived.Test.YtjnpmipoenijdaaCzHj
namespace Cz
open Go Go.RowKit Go.Proofs
set_option linter.unusedSimpArgs false
set_option linter.unusedVariables false
set_option maxRecDepth 100000
set_option maxHeartbeats 4000000
def tB : IR := match I.huff_Take with
  | .seq _ (.scope b) => b
  | _ => .skip
theorem dec_at0 (b : List Int) : decI b 0 = Hu.dec (Hu.bl b) := rfl
theorem okI_le {b : List Int} {i m : Int} (h : okI b i m = true) : i + m ≤ 8 * ilen b := by
  unfold okI at h
  simp only [Bool.and_eq_true, decide_eq_true_eq] at h
  exact h.2
theorem ilen_snoc (L : List Int) (c : Int) : ilen (L ++ [c]) = ilen L + 1 := by unfold ilen; simp
theorem gc_k {n : Nat} {es : List (SV × SV)} : norefM es = true → (match es with
      | [] => true
      | (k, v) :: r => refsB (low n) k && refsB (low n) v && gcM n r) = true := by
  intro h
  have := gcM_ok (n := n) h
  cases es with
  | nil => rfl
  | cons e r => simpa only [gcM] using this
theorem octet_v {S : Sy} (hS : S0 Try.prog = S) {b : List Int} {F : List SV} {n : Int} {zi z : Z} {k : Nat} {ro lit : Bool} {st : Z} {l : List Blk} {K : SV → List Blk → Prop} (hb : Hu.BOk b) (hn : ilen b ≤ 1000000) (hn' : n = ilen b) (hF : cellsB b = F)
    (hrow : lget l k = .r ro lit st 1 F) (i m : Int) (h0 : zi.v = i) (hm : z.v = m) (hi0 : 0 ≤ i) (hz1 : 0 ≤ m) (hz2 : m ≤ 30 ∧ i + m ≤ 8 * n) (h1 : ∀ r, numI b i m = r → K (.tp [.i .i64 (.y r), .tt]) l) :
    S.call 45 [.sl k 1 (.l 0) (.y n) none, .i .i64 zi, .i .i64 z] l K := by
  subst hn' hF h0 hm
  have hB : oBitsB b zi.v z.v = true := by
    unfold oBitsB okI
    by_cases hz : z.v = 0
    · rw [if_pos hz]; simp; omega
    · rw [if_neg hz, if_neg (by omega)]; simp; omega
  have hf := oBits_f (b := b) (i := zi.v) (k := z.v) hb hn rfl rfl
  refine use_read hS (fun _ => k) (sv := .tp [.i .i64 (.y (numI b zi.v z.v)), .tt]) (call_post hf fun x l' hx => ⟨x, .rfl, hx.trans (sub_tp (.cons (sub_i ?_) (.cons (sub_b_tt hB) .nil)))⟩) (.cons .rfl (.cons (sub_i rfl) (.cons (sub_i rfl) .nil))) rfl ⟨⟨_, _, _, _, _, _, _, _, rfl, cellsB_plain b, hrow, .rfl⟩, trivial⟩ rfl (h1 _ rfl)
  unfold oBitsR; rw [hB]; rfl
theorem s_shlv {S : Sy} {k : IntKind} {a : Int} {K : Int → Prop} (hS : S0 Try.prog = S) (m : Int) (hm : a = m) (h0 : 0 ≤ m) (h1 : m ≤ 7) (hk : 8 < k.bits) (h : ∀ r, r = 2 ^ m.toNat → 1 ≤ r → r ≤ 128 → K r) : S.ar .shl k 1 a K := by
  subst hm
  have h2 := pow_le (m := a.toNat) (n := 7) (by omega)
  have h3 := pow_pos' a.toNat
  refine s_shll hS (c := 2 ^ a.toNat) ?_ (fun r hr => h r (by omega) (by omega) (by omega)) ?_ ?_
  · rw [Nat.min_eq_left (by omega)]
  · have := lo_bits k; omega
  · have h4 := hi_bits k
    have h5 := pow_le (m := 8) (n := k.bits - 1) (by omega)
    omega
theorem end_none {P : List SV} {E : Int} {l' : List Blk} (hP : P = []) (hE : E = 70) : OwnR 1 1 P true [.i .i64 (.y E)] (.tp [.re (.slice none 0 0), .i .i64 (.l 70)]) l' :=
  ⟨_, sub_tp (.cons .rfl (.cons (sub_i hE.symm) .nil)), .inl ⟨rfl, hP⟩⟩
theorem end_some {P G : List SV} {L : List Int} {E : Int} {z st : Z} {lit : Bool} {l' : List Blk} (hP : P = cellsB L) (hE : E = 0) (hG : cellsB L = G) (hz : z.v = ilen L) (hB : l'[2]? = some (.r false lit st 1 G)) :
    OwnR 1 1 P true [.i .i64 (.y E)] (.tp [.sl 2 1 (.l 0) z none, .i .i64 (.l 0)]) l' := by
  refine ⟨_, sub_tp (.cons .rfl (.cons (sub_i hE.symm) .nil)), ?_⟩
  rw [hP, hG]
  exact rowIs_same hG (by omega) hz hB
theorem take_jump {b : List Int} {F P : List SV} {T : List (SV × SV)} {n E : Int} {S : Sy} (hb : Hu.BOk b) (hnb : ilen b ≤ 1000000) (hn' : n = ilen b) (hF : cellsB b = F) (hP : cellsB (takeL b) = P) (hE : takeE b = E) (hT : knownE 256 = T) (hS : S0 Try.prog = S)
    {i1 q1 st1 : Int} {L1 : List Int} {G1 : List SV} (h0 : 0 ≤ i1) (h1 : i1 ≤ 8 * ilen b) (hq : q1 = ilen L1) (hqi : q1 ≤ i1) (hG : G1 = cellsB L1) (hdec : Hu.dec (Hu.bl b) = (L1 ++ (decI b i1).1, (decI b i1).2)) :
    S.jump ⟨none, 1⟩ tB 0 ⟨slots [(0, .sl 0 1 (.l 0) (.y n) none), (4, .m 1), (2, .sl 2 1 (.l 0) (.y q1) none), (5, .i .i64 (.y i1))] (repU 68), []⟩ [.r true true (.l 0) 1 F, .m T, .r false false (.y st1) 1 G1]
      (vret S [.t 2, .t 3] (OwnR 1 1 P true [.i .i64 (.y E)])) := by
  have hn := hnb
  have h0n := ilen_nn b
  rw [← hn'] at hn h0n
  have hpl := cellsB_plain b
  rw [hF] at hpl
  refine s_jump_up hS 3 [] (fun x : Int × Int × Int × List Int × List SV => 0 ≤ x.1 ∧ x.1 ≤ 8 * n ∧ x.2.1 = ilen x.2.2.2.1 ∧ x.2.1 ≤ x.1 ∧ x.2.2.2.2 = cellsB x.2.2.2.1 ∧ Hu.dec (Hu.bl b) = (x.2.2.2.1 ++ (decI b x.1).1, (decI b x.1).2))
    (fun x => [(2, .sl 2 1 (.l 0) (.y x.2.1) none), (5, .i .i64 (.y x.1))]) (fun x => [(2, .r false false (.y x.2.2.1) 1 x.2.2.2.2)])
    (fun x => (8 * n - x.1).toNat) (i1, q1, st1, L1, G1) rfl rfl ⟨⟨h0, by dsimp only; omega, hq, hqi, hG, hdec⟩, rfl, ?_, ?_, ?_⟩ ?_
  · cbv; (repeat' (first | exact sub_any | exact Sub.rfl | exact SubL.nil | refine SubL.cons ?_ ?_ | exact sub_i rfl | refine sub_tp ?_ | refine sub_ag ?_ | exact sub_tt rfl | exact sub_ff rfl | exact sub_b_tt rfl | exact sub_b_ff rfl | (refine sub_i ?_; simp only [Z.v]; omega) | (refine sub_b ?_; assumption) | (refine sub_b ?_; simp only [← hS, Int.ofNat_eq_natCast, cq, decide_eq_true_eq, decide_eq_false_iff_not, beq_iff_eq, beq_eq_false_iff_ne, ne_eq]; done) | (refine sub_tt ?_; assumption) | (refine sub_ff ?_; assumption)))
  · cbv; (repeat' (first | exact trivial | exact SubB.rfl | refine And.intro ?_ ?_ | (exact SubB.c (by with_reducible assumption)) | (refine SubB.c ?_; (repeat' (first | exact sub_any | exact Sub.rfl | exact SubL.nil | refine SubL.cons ?_ ?_ | exact sub_i rfl | refine sub_tp ?_ | refine sub_ag ?_ | exact sub_tt rfl | exact sub_ff rfl | exact sub_b_tt rfl | exact sub_b_ff rfl | (refine sub_i ?_; simp only [Z.v]; omega) | (refine sub_b ?_; assumption) | (refine sub_b ?_; simp only [← hS, Int.ofNat_eq_natCast, cq, decide_eq_true_eq, decide_eq_false_iff_not, beq_iff_eq, beq_eq_false_iff_ne, ne_eq]; done) | (refine sub_tt ?_; assumption) | (refine sub_ff ?_; assumption))); done) | (refine SubB.m ?_; (repeat' (first | exact SubM.nil | refine SubM.cons ?_ ?_ ?_ | (focus ((repeat' (first | exact sub_any | exact Sub.rfl | exact SubL.nil | refine SubL.cons ?_ ?_ | exact sub_i rfl | refine sub_tp ?_ | refine sub_ag ?_ | exact sub_tt rfl | exact sub_ff rfl | exact sub_b_tt rfl | exact sub_b_ff rfl | (refine sub_i ?_; simp only [Z.v]; omega) | (refine sub_b ?_; assumption) | (refine sub_b ?_; simp only [← hS, Int.ofNat_eq_natCast, cq, decide_eq_true_eq, decide_eq_false_iff_not, beq_iff_eq, beq_eq_false_iff_ne, ne_eq]; done) | (refine sub_tt ?_; assumption) | (refine sub_ff ?_; assumption))); done)))); done)))
  · cbv; exact gc_c (gc_m (plains_refs hpl)) (gc_c (gc_k (hT ▸ known_noref 256)) rfl)
  intro x
  clear h0 h1 hq hqi hG hdec
  obtain ⟨i, q, st, L, G⟩ := x
  intro hx
  dsimp only at hx
  cbv
  obtain ⟨h0, h1, hq, hqi, hG0, hdec⟩ := hx
  have hG : ilen G = ilen L := by rw [hG0, cellsB_len]
  refine s_loop_one hS ?_
  cbv
  refine octet_u hS hb hnb hn' hF rfl i 5 rfl rfl (by decide) (by decide) (fun hok5 r5 hr5 => ?_) (fun hok5 r5 => ?_)
  · cbv
    refine look_known hS hT (fun c hc c0 c1 => ?_) fun hc => ?_
    · cbv
      have hs : decI b i = ((c.toNat : Int) :: (decI b (i + 5)).1, (decI b (i + 5)).2) := dec_5 (by omega)  (by rw [at1I_t hok5 hr5]; exact hc)
      have hle : i + 5 ≤ 8 * ilen b := okI_le hok5
      rw [Int.toNat_of_nonneg c0] at hs
      repeat' (first
          | (refine s_eqs hS rfl ?_; try cbv)
          | (refine s_eqt hS rfl ?_ ?_; (focus (cbv; (repeat' (first | exact trivial | rfl | refine And.intro ?_ ?_ | assumption | omega | (simp only [← hS, Int.ofNat_eq_natCast, cq, decide_eq_true_eq, decide_eq_false_iff_not, beq_iff_eq, beq_eq_false_iff_ne, ne_eq]; done) | (simp only [← hS, Int.ofNat_eq_natCast, cq, decide_eq_true_eq, decide_eq_false_iff_not, beq_iff_eq, beq_eq_false_iff_ne, ne_eq]; first | assumption | omega))); done)); try cbv)
          | (refine s_eqo hS ?_; try cbv)
          | (refine s_lk hS ?_; try cbv)
          | (refine s_mu hS ?_; try cbv)
          | (refine s_chk hS (by simp only [← hS, Int.ofNat_eq_natCast, cq, decide_eq_true_eq, decide_eq_false_iff_not, beq_iff_eq, beq_eq_false_iff_ne, ne_eq]; omega) ?_; try cbv)
          | (refine s_br hS ?_ ?_ <;> intro h <;> (try cbv) <;> (try simp only [← hS, Int.ofNat_eq_natCast, cq, decide_eq_true_eq, decide_eq_false_iff_not, beq_iff_eq, beq_eq_false_iff_ne, ne_eq] at h) <;> first | (exfalso; omega) | (exact absurd trivial h) | (exact (no_tf h).elim) | (exact (no_ft h).elim) | (exact (no_both h (by with_reducible assumption)).elim) | (exact (no_both (by with_reducible assumption) h).elim) | skip)
          | (refine s_add hS ?_ (by simp only [lo]; omega) (by simp only [hi]; omega); intro _ _; try cbv)
          | (refine s_sub hS ?_ (by simp only [lo]; omega) (by simp only [hi]; omega); intro _ _; try cbv)
          | (refine s_cvi hS ?_ (by simp only [lo]; omega) (by simp only [hi]; omega); try cbv)
          | (refine s_flen hS (by rw [hG, ← hq]; omega) ?_; cbv))
      rename_i i2 hi2
      obtain ⟨q2, h_q2⟩ : ∃ q2, q2 = q + 1 := ⟨_, rfl⟩
      obtain ⟨st2, h_st2⟩ : ∃ st2, st2 = S.flen G := ⟨_, rfl⟩
      obtain ⟨G2, h_G2⟩ : ∃ G2, G2 = cellsB (L ++ [c]) := ⟨_, rfl⟩
      refine ⟨(i2, q2, st2, L ++ [c], G2), by dsimp only; omega, ⟨by dsimp only; omega, by dsimp only; omega, ?_, by dsimp only; omega, h_G2, ?_⟩, rfl, ?_, ?_, ?_⟩
      · dsimp only; rw [h_q2, hq, ilen_snoc]
      · dsimp only; rw [hdec, hs, hi2]; simp
      · cbv; (repeat' (first | exact sub_any | exact Sub.rfl | exact SubL.nil | refine SubL.cons ?_ ?_ | exact sub_i rfl | (refine sub_sl rfl ?_; simp only [Z.v, ← hS, Int.ofNat_eq_natCast, cq, decide_eq_true_eq, decide_eq_false_iff_not, beq_iff_eq, beq_eq_false_iff_ne, ne_eq]; omega)))
      · cbv; exact ⟨.rfl, .rfl, subB_app hS hG0.symm h_G2.symm rfl h_st2.symm, trivial⟩
      · cbv; exact gc_c (gc_m (plains_refs hpl)) (gc_c (gc_k (hT ▸ known_noref 256)) rfl)
    · cbv
      have a5 : at1I b i 5 = none := by rw [at1I_t hok5 hr5]; exact hc
      refine s_loop_one hS ?_
      cbv
      refine octet_u hS hb hnb hn' hF rfl i 6 rfl rfl (by decide) (by decide) (fun hok6 r6 hr6 => ?_) (fun hok6 r6 => ?_)
      · cbv
        refine look_known hS hT (fun c hc c0 c1 => ?_) fun hc => ?_
        · cbv
          have hs : decI b i = ((c.toNat : Int) :: (decI b (i + 6)).1, (decI b (i + 6)).2) := dec_6 (by omega) a5 (by rw [at1I_t hok6 hr6]; exact hc)
          have hle : i + 6 ≤ 8 * ilen b := okI_le hok6
          rw [Int.toNat_of_nonneg c0] at hs
          repeat' (first
              | (refine s_eqs hS rfl ?_; try cbv)
              | (refine s_eqt hS rfl ?_ ?_; (focus (cbv; (repeat' (first | exact trivial | rfl | refine And.intro ?_ ?_ | assumption | omega | (simp only [← hS, Int.ofNat_eq_natCast, cq, decide_eq_true_eq, decide_eq_false_iff_not, beq_iff_eq, beq_eq_false_iff_ne, ne_eq]; done) | (simp only [← hS, Int.ofNat_eq_natCast, cq, decide_eq_true_eq, decide_eq_false_iff_not, beq_iff_eq, beq_eq_false_iff_ne, ne_eq]; first | assumption | omega))); done)); try cbv)
              | (refine s_eqo hS ?_; try cbv)
              | (refine s_lk hS ?_; try cbv)
              | (refine s_mu hS ?_; try cbv)
              | (refine s_chk hS (by simp only [← hS, Int.ofNat_eq_natCast, cq, decide_eq_true_eq, decide_eq_false_iff_not, beq_iff_eq, beq_eq_false_iff_ne, ne_eq]; omega) ?_; try cbv)
              | (refine s_br hS ?_ ?_ <;> intro h <;> (try cbv) <;> (try simp only [← hS, Int.ofNat_eq_natCast, cq, decide_eq_true_eq, decide_eq_false_iff_not, beq_iff_eq, beq_eq_false_iff_ne, ne_eq] at h) <;> first | (exfalso; omega) | (exact absurd trivial h) | (exact (no_tf h).elim) | (exact (no_ft h).elim) | (exact (no_both h (by with_reducible assumption)).elim) | (exact (no_both (by with_reducible assumption) h).elim) | skip)
              | (refine s_add hS ?_ (by simp only [lo]; omega) (by simp only [hi]; omega); intro _ _; try cbv)
              | (refine s_sub hS ?_ (by simp only [lo]; omega) (by simp only [hi]; omega); intro _ _; try cbv)
              | (refine s_cvi hS ?_ (by simp only [lo]; omega) (by simp only [hi]; omega); try cbv)
              | (refine s_flen hS (by rw [hG, ← hq]; omega) ?_; cbv))
          rename_i i2 hi2
          obtain ⟨q2, h_q2⟩ : ∃ q2, q2 = q + 1 := ⟨_, rfl⟩
          obtain ⟨st2, h_st2⟩ : ∃ st2, st2 = S.flen G := ⟨_, rfl⟩
          obtain ⟨G2, h_G2⟩ : ∃ G2, G2 = cellsB (L ++ [c]) := ⟨_, rfl⟩
          refine ⟨(i2, q2, st2, L ++ [c], G2), by dsimp only; omega, ⟨by dsimp only; omega, by dsimp only; omega, ?_, by dsimp only; omega, h_G2, ?_⟩, rfl, ?_, ?_, ?_⟩
          · dsimp only; rw [h_q2, hq, ilen_snoc]
          · dsimp only; rw [hdec, hs, hi2]; simp
          · cbv; (repeat' (first | exact sub_any | exact Sub.rfl | exact SubL.nil | refine SubL.cons ?_ ?_ | exact sub_i rfl | (refine sub_sl rfl ?_; simp only [Z.v, ← hS, Int.ofNat_eq_natCast, cq, decide_eq_true_eq, decide_eq_false_iff_not, beq_iff_eq, beq_eq_false_iff_ne, ne_eq]; omega)))
          · cbv; exact ⟨.rfl, .rfl, subB_app hS hG0.symm h_G2.symm rfl h_st2.symm, trivial⟩
          · cbv; exact gc_c (gc_m (plains_refs hpl)) (gc_c (gc_k (hT ▸ known_noref 256)) rfl)
        · cbv
          have a6 : at1I b i 6 = none := by rw [at1I_t hok6 hr6]; exact hc
          refine s_loop_one hS ?_
          cbv
          refine octet_u hS hb hnb hn' hF rfl i 7 rfl rfl (by decide) (by decide) (fun hok7 r7 hr7 => ?_) (fun hok7 r7 => ?_)
          · cbv
            refine look_known hS hT (fun c hc c0 c1 => ?_) fun hc => ?_
            · cbv
              have hs : decI b i = ((c.toNat : Int) :: (decI b (i + 7)).1, (decI b (i + 7)).2) := dec_7 (by omega) a5 a6 (by rw [at1I_t hok7 hr7]; exact hc)
              have hle : i + 7 ≤ 8 * ilen b := okI_le hok7
              rw [Int.toNat_of_nonneg c0] at hs
              repeat' (first
                  | (refine s_eqs hS rfl ?_; try cbv)
                  | (refine s_eqt hS rfl ?_ ?_; (focus (cbv; (repeat' (first | exact trivial | rfl | refine And.intro ?_ ?_ | assumption | omega | (simp only [← hS, Int.ofNat_eq_natCast, cq, decide_eq_true_eq, decide_eq_false_iff_not, beq_iff_eq, beq_eq_false_iff_ne, ne_eq]; done) | (simp only [← hS, Int.ofNat_eq_natCast, cq, decide_eq_true_eq, decide_eq_false_iff_not, beq_iff_eq, beq_eq_false_iff_ne, ne_eq]; first | assumption | omega))); done)); try cbv)
                  | (refine s_eqo hS ?_; try cbv)
                  | (refine s_lk hS ?_; try cbv)
                  | (refine s_mu hS ?_; try cbv)
                  | (refine s_chk hS (by simp only [← hS, Int.ofNat_eq_natCast, cq, decide_eq_true_eq, decide_eq_false_iff_not, beq_iff_eq, beq_eq_false_iff_ne, ne_eq]; omega) ?_; try cbv)
                  | (refine s_br hS ?_ ?_ <;> intro h <;> (try cbv) <;> (try simp only [← hS, Int.ofNat_eq_natCast, cq, decide_eq_true_eq, decide_eq_false_iff_not, beq_iff_eq, beq_eq_false_iff_ne, ne_eq] at h) <;> first | (exfalso; omega) | (exact absurd trivial h) | (exact (no_tf h).elim) | (exact (no_ft h).elim) | (exact (no_both h (by with_reducible assumption)).elim) | (exact (no_both (by with_reducible assumption) h).elim) | skip)
                  | (refine s_add hS ?_ (by simp only [lo]; omega) (by simp only [hi]; omega); intro _ _; try cbv)
                  | (refine s_sub hS ?_ (by simp only [lo]; omega) (by simp only [hi]; omega); intro _ _; try cbv)
                  | (refine s_cvi hS ?_ (by simp only [lo]; omega) (by simp only [hi]; omega); try cbv)
                  | (refine s_flen hS (by rw [hG, ← hq]; omega) ?_; cbv))
              rename_i i2 hi2
              obtain ⟨q2, h_q2⟩ : ∃ q2, q2 = q + 1 := ⟨_, rfl⟩
              obtain ⟨st2, h_st2⟩ : ∃ st2, st2 = S.flen G := ⟨_, rfl⟩
              obtain ⟨G2, h_G2⟩ : ∃ G2, G2 = cellsB (L ++ [c]) := ⟨_, rfl⟩
              refine ⟨(i2, q2, st2, L ++ [c], G2), by dsimp only; omega, ⟨by dsimp only; omega, by dsimp only; omega, ?_, by dsimp only; omega, h_G2, ?_⟩, rfl, ?_, ?_, ?_⟩
              · dsimp only; rw [h_q2, hq, ilen_snoc]
              · dsimp only; rw [hdec, hs, hi2]; simp
              · cbv; (repeat' (first | exact sub_any | exact Sub.rfl | exact SubL.nil | refine SubL.cons ?_ ?_ | exact sub_i rfl | (refine sub_sl rfl ?_; simp only [Z.v, ← hS, Int.ofNat_eq_natCast, cq, decide_eq_true_eq, decide_eq_false_iff_not, beq_iff_eq, beq_eq_false_iff_ne, ne_eq]; omega)))
              · cbv; exact ⟨.rfl, .rfl, subB_app hS hG0.symm h_G2.symm rfl h_st2.symm, trivial⟩
              · cbv; exact gc_c (gc_m (plains_refs hpl)) (gc_c (gc_k (hT ▸ known_noref 256)) rfl)
            · cbv
              have a7 : at1I b i 7 = none := by rw [at1I_t hok7 hr7]; exact hc
              refine s_loop_one hS ?_
              cbv
              refine octet_u hS hb hnb hn' hF rfl i 11 rfl rfl (by decide) (by decide) (fun hok11 r11 hr11 => ?_) (fun hok11 r11 => ?_)
              · cbv
                refine look_known hS hT (fun c hc c0 c1 => ?_) fun hc => ?_
                · cbv
                  have hs : decI b i = ((c.toNat : Int) :: (decI b (i + 11)).1, (decI b (i + 11)).2) := dec_11 (by omega) a5 a6 a7 (by rw [at1I_t hok11 hr11]; exact hc)
                  have hle : i + 11 ≤ 8 * ilen b := okI_le hok11
                  rw [Int.toNat_of_nonneg c0] at hs
                  repeat' (first
                      | (refine s_eqs hS rfl ?_; try cbv)
                      | (refine s_eqt hS rfl ?_ ?_; (focus (cbv; (repeat' (first | exact trivial | rfl | refine And.intro ?_ ?_ | assumption | omega | (simp only [← hS, Int.ofNat_eq_natCast, cq, decide_eq_true_eq, decide_eq_false_iff_not, beq_iff_eq, beq_eq_false_iff_ne, ne_eq]; done) | (simp only [← hS, Int.ofNat_eq_natCast, cq, decide_eq_true_eq, decide_eq_false_iff_not, beq_iff_eq, beq_eq_false_iff_ne, ne_eq]; first | assumption | omega))); done)); try cbv)
                      | (refine s_eqo hS ?_; try cbv)
                      | (refine s_lk hS ?_; try cbv)
                      | (refine s_mu hS ?_; try cbv)
                      | (refine s_chk hS (by simp only [← hS, Int.ofNat_eq_natCast, cq, decide_eq_true_eq, decide_eq_false_iff_not, beq_iff_eq, beq_eq_false_iff_ne, ne_eq]; omega) ?_; try cbv)
                      | (refine s_br hS ?_ ?_ <;> intro h <;> (try cbv) <;> (try simp only [← hS, Int.ofNat_eq_natCast, cq, decide_eq_true_eq, decide_eq_false_iff_not, beq_iff_eq, beq_eq_false_iff_ne, ne_eq] at h) <;> first | (exfalso; omega) | (exact absurd trivial h) | (exact (no_tf h).elim) | (exact (no_ft h).elim) | (exact (no_both h (by with_reducible assumption)).elim) | (exact (no_both (by with_reducible assumption) h).elim) | skip)
                      | (refine s_add hS ?_ (by simp only [lo]; omega) (by simp only [hi]; omega); intro _ _; try cbv)
                      | (refine s_sub hS ?_ (by simp only [lo]; omega) (by simp only [hi]; omega); intro _ _; try cbv)
                      | (refine s_cvi hS ?_ (by simp only [lo]; omega) (by simp only [hi]; omega); try cbv)
                      | (refine s_flen hS (by rw [hG, ← hq]; omega) ?_; cbv))
                  rename_i i2 hi2
                  obtain ⟨q2, h_q2⟩ : ∃ q2, q2 = q + 1 := ⟨_, rfl⟩
                  obtain ⟨st2, h_st2⟩ : ∃ st2, st2 = S.flen G := ⟨_, rfl⟩
                  obtain ⟨G2, h_G2⟩ : ∃ G2, G2 = cellsB (L ++ [c]) := ⟨_, rfl⟩
                  refine ⟨(i2, q2, st2, L ++ [c], G2), by dsimp only; omega, ⟨by dsimp only; omega, by dsimp only; omega, ?_, by dsimp only; omega, h_G2, ?_⟩, rfl, ?_, ?_, ?_⟩
                  · dsimp only; rw [h_q2, hq, ilen_snoc]
                  · dsimp only; rw [hdec, hs, hi2]; simp
                  · cbv; (repeat' (first | exact sub_any | exact Sub.rfl | exact SubL.nil | refine SubL.cons ?_ ?_ | exact sub_i rfl | (refine sub_sl rfl ?_; simp only [Z.v, ← hS, Int.ofNat_eq_natCast, cq, decide_eq_true_eq, decide_eq_false_iff_not, beq_iff_eq, beq_eq_false_iff_ne, ne_eq]; omega)))
                  · cbv; exact ⟨.rfl, .rfl, subB_app hS hG0.symm h_G2.symm rfl h_st2.symm, trivial⟩
                  · cbv; exact gc_c (gc_m (plains_refs hpl)) (gc_c (gc_k (hT ▸ known_noref 256)) rfl)
                · cbv
                  have a11 : at1I b i 11 = none := by rw [at1I_t hok11 hr11]; exact hc
                  refine s_loop_one hS ?_
                  cbv
                  have hno : decI b i = ([], dropI b i) := dec_no (by omega) a5 a6 a7 a11
                  have hD : Hu.dec (Hu.bl b) = (L, dropI b i) := by rw [hdec, hno]; simp
                  obtain ⟨k, hk⟩ : ∃ k, k = 8 * ilen b - i := ⟨_, rfl⟩
                  repeat' (first
                      | (refine s_eqs hS rfl ?_; try cbv)
                      | (refine s_eqt hS rfl ?_ ?_; (focus (cbv; (repeat' (first | exact trivial | rfl | refine And.intro ?_ ?_ | assumption | omega | (simp only [← hS, Int.ofNat_eq_natCast, cq, decide_eq_true_eq, decide_eq_false_iff_not, beq_iff_eq, beq_eq_false_iff_ne, ne_eq]; done) | (simp only [← hS, Int.ofNat_eq_natCast, cq, decide_eq_true_eq, decide_eq_false_iff_not, beq_iff_eq, beq_eq_false_iff_ne, ne_eq]; first | assumption | omega))); done)); try cbv)
                      | (refine s_eqo hS ?_; try cbv)
                      | (refine s_lk hS ?_; try cbv)
                      | (refine s_mu hS ?_; try cbv)
                      | (refine s_chk hS (by simp only [← hS, Int.ofNat_eq_natCast, cq, decide_eq_true_eq, decide_eq_false_iff_not, beq_iff_eq, beq_eq_false_iff_ne, ne_eq]; omega) ?_; try cbv)
                      | (refine s_br hS ?_ ?_ <;> intro h <;> (try cbv) <;> (try simp only [← hS, Int.ofNat_eq_natCast, cq, decide_eq_true_eq, decide_eq_false_iff_not, beq_iff_eq, beq_eq_false_iff_ne, ne_eq] at h) <;> first | (exfalso; omega) | (exact absurd trivial h) | (exact (no_tf h).elim) | (exact (no_ft h).elim) | (exact (no_both h (by with_reducible assumption)).elim) | (exact (no_both (by with_reducible assumption) h).elim) | skip)
                      | (refine s_add hS ?_ (by simp only [lo]; omega) (by simp only [hi]; omega); intro _ _; try cbv)
                      | (refine s_sub hS ?_ (by simp only [lo]; omega) (by simp only [hi]; omega); intro _ _; try cbv)
                      | (refine s_cvi hS ?_ (by simp only [lo]; omega) (by simp only [hi]; omega); try cbv)
                      | (refine s_mul hS ?_ (by simp only [lo]; omega) (by simp only [hi]; omega); intro _ _; cbv)
                      | (refine s_jump hS rfl ?_; cbv)
                      | (refine octet_v hS hb hnb hn' hF rfl i k (by simp only [Z.v]; omega) (by simp only [Z.v]; omega) (by omega) (by omega) (by omega) (fun r hr => ?_); cbv)
                      | (refine s_shlv hS k (by omega) (by omega) (by omega) (by decide) (fun p hp hp1 hp2 => ?_); cbv))
                  · have hb7 := take_big (i := i) (by omega) (by omega) hD (by omega)
                    exact end_none (hP.symm.trans (by rw [hb7.1]; rfl)) (hE.symm.trans hb7.2)
                  · have hte := (take_end (i := i) (by omega) (by omega) hD hk (by omega)).1 (by rw [hr, ← hp]; omega)
                    exact end_some (hP.symm.trans (by rw [hte.1])) (hE.symm.trans hte.2) hG0.symm hq rfl
                  · have hte := (take_end (i := i) (by omega) (by omega) hD hk (by omega)).2 (by rw [hr, ← hp]; omega)
                    exact end_none (hP.symm.trans (by rw [hte.1]; rfl)) (hE.symm.trans hte.2)
              · cbv
                have a11 : at1I b i 11 = none := at1I_f (okI_less hok11 (by omega) (by omega))
                have hno : decI b i = ([], dropI b i) := dec_no (by omega) a5 a6 a7 a11
                have hD : Hu.dec (Hu.bl b) = (L, dropI b i) := by rw [hdec, hno]; simp
                obtain ⟨k, hk⟩ : ∃ k, k = 8 * ilen b - i := ⟨_, rfl⟩
                repeat' (first
                    | (refine s_eqs hS rfl ?_; try cbv)
                    | (refine s_eqt hS rfl ?_ ?_; (focus (cbv; (repeat' (first | exact trivial | rfl | refine And.intro ?_ ?_ | assumption | omega | (simp only [← hS, Int.ofNat_eq_natCast, cq, decide_eq_true_eq, decide_eq_false_iff_not, beq_iff_eq, beq_eq_false_iff_ne, ne_eq]; done) | (simp only [← hS, Int.ofNat_eq_natCast, cq, decide_eq_true_eq, decide_eq_false_iff_not, beq_iff_eq, beq_eq_false_iff_ne, ne_eq]; first | assumption | omega))); done)); try cbv)
                    | (refine s_eqo hS ?_; try cbv)
                    | (refine s_lk hS ?_; try cbv)
                    | (refine s_mu hS ?_; try cbv)
                    | (refine s_chk hS (by simp only [← hS, Int.ofNat_eq_natCast, cq, decide_eq_true_eq, decide_eq_false_iff_not, beq_iff_eq, beq_eq_false_iff_ne, ne_eq]; omega) ?_; try cbv)
                    | (refine s_br hS ?_ ?_ <;> intro h <;> (try cbv) <;> (try simp only [← hS, Int.ofNat_eq_natCast, cq, decide_eq_true_eq, decide_eq_false_iff_not, beq_iff_eq, beq_eq_false_iff_ne, ne_eq] at h) <;> first | (exfalso; omega) | (exact absurd trivial h) | (exact (no_tf h).elim) | (exact (no_ft h).elim) | (exact (no_both h (by with_reducible assumption)).elim) | (exact (no_both (by with_reducible assumption) h).elim) | skip)
                    | (refine s_add hS ?_ (by simp only [lo]; omega) (by simp only [hi]; omega); intro _ _; try cbv)
                    | (refine s_sub hS ?_ (by simp only [lo]; omega) (by simp only [hi]; omega); intro _ _; try cbv)
                    | (refine s_cvi hS ?_ (by simp only [lo]; omega) (by simp only [hi]; omega); try cbv)
                    | (refine s_mul hS ?_ (by simp only [lo]; omega) (by simp only [hi]; omega); intro _ _; cbv)
                    | (refine s_jump hS rfl ?_; cbv)
                    | (refine octet_v hS hb hnb hn' hF rfl i k (by simp only [Z.v]; omega) (by simp only [Z.v]; omega) (by omega) (by omega) (by omega) (fun r hr => ?_); cbv)
                    | (refine s_shlv hS k (by omega) (by omega) (by omega) (by decide) (fun p hp hp1 hp2 => ?_); cbv))
                · have hb7 := take_big (i := i) (by omega) (by omega) hD (by omega)
                  exact end_none (hP.symm.trans (by rw [hb7.1]; rfl)) (hE.symm.trans hb7.2)
                · have hte := (take_end (i := i) (by omega) (by omega) hD hk (by omega)).1 (by rw [hr, ← hp]; omega)
                  exact end_some (hP.symm.trans (by rw [hte.1])) (hE.symm.trans hte.2) hG0.symm hq rfl
                · have hte := (take_end (i := i) (by omega) (by omega) hD hk (by omega)).2 (by rw [hr, ← hp]; omega)
                  exact end_none (hP.symm.trans (by rw [hte.1]; rfl)) (hE.symm.trans hte.2)
          · cbv
            have a7 : at1I b i 7 = none := at1I_f (okI_less hok7 (by omega) (by omega))
            have a11 : at1I b i 11 = none := at1I_f (okI_less hok7 (by omega) (by omega))
            have hno : decI b i = ([], dropI b i) := dec_no (by omega) a5 a6 a7 a11
            have hD : Hu.dec (Hu.bl b) = (L, dropI b i) := by rw [hdec, hno]; simp
            obtain ⟨k, hk⟩ : ∃ k, k = 8 * ilen b - i := ⟨_, rfl⟩
            repeat' (first
                | (refine s_eqs hS rfl ?_; try cbv)
                | (refine s_eqt hS rfl ?_ ?_; (focus (cbv; (repeat' (first | exact trivial | rfl | refine And.intro ?_ ?_ | assumption | omega | (simp only [← hS, Int.ofNat_eq_natCast, cq, decide_eq_true_eq, decide_eq_false_iff_not, beq_iff_eq, beq_eq_false_iff_ne, ne_eq]; done) | (simp only [← hS, Int.ofNat_eq_natCast, cq, decide_eq_true_eq, decide_eq_false_iff_not, beq_iff_eq, beq_eq_false_iff_ne, ne_eq]; first | assumption | omega))); done)); try cbv)
                | (refine s_eqo hS ?_; try cbv)
                | (refine s_lk hS ?_; try cbv)
                | (refine s_mu hS ?_; try cbv)
                | (refine s_chk hS (by simp only [← hS, Int.ofNat_eq_natCast, cq, decide_eq_true_eq, decide_eq_false_iff_not, beq_iff_eq, beq_eq_false_iff_ne, ne_eq]; omega) ?_; try cbv)
                | (refine s_br hS ?_ ?_ <;> intro h <;> (try cbv) <;> (try simp only [← hS, Int.ofNat_eq_natCast, cq, decide_eq_true_eq, decide_eq_false_iff_not, beq_iff_eq, beq_eq_false_iff_ne, ne_eq] at h) <;> first | (exfalso; omega) | (exact absurd trivial h) | (exact (no_tf h).elim) | (exact (no_ft h).elim) | (exact (no_both h (by with_reducible assumption)).elim) | (exact (no_both (by with_reducible assumption) h).elim) | skip)
                | (refine s_add hS ?_ (by simp only [lo]; omega) (by simp only [hi]; omega); intro _ _; try cbv)
                | (refine s_sub hS ?_ (by simp only [lo]; omega) (by simp only [hi]; omega); intro _ _; try cbv)
                | (refine s_cvi hS ?_ (by simp only [lo]; omega) (by simp only [hi]; omega); try cbv)
                | (refine s_mul hS ?_ (by simp only [lo]; omega) (by simp only [hi]; omega); intro _ _; cbv)
                | (refine s_jump hS rfl ?_; cbv)
                | (refine octet_v hS hb hnb hn' hF rfl i k (by simp only [Z.v]; omega) (by simp only [Z.v]; omega) (by omega) (by omega) (by omega) (fun r hr => ?_); cbv)
                | (refine s_shlv hS k (by omega) (by omega) (by omega) (by decide) (fun p hp hp1 hp2 => ?_); cbv))
            · have hb7 := take_big (i := i) (by omega) (by omega) hD (by omega)
              exact end_none (hP.symm.trans (by rw [hb7.1]; rfl)) (hE.symm.trans hb7.2)
            · have hte := (take_end (i := i) (by omega) (by omega) hD hk (by omega)).1 (by rw [hr, ← hp]; omega)
              exact end_some (hP.symm.trans (by rw [hte.1])) (hE.symm.trans hte.2) hG0.symm hq rfl
            · have hte := (take_end (i := i) (by omega) (by omega) hD hk (by omega)).2 (by rw [hr, ← hp]; omega)
              exact end_none (hP.symm.trans (by rw [hte.1]; rfl)) (hE.symm.trans hte.2)
      · cbv
        have a6 : at1I b i 6 = none := at1I_f (okI_less hok6 (by omega) (by omega))
        have a7 : at1I b i 7 = none := at1I_f (okI_less hok6 (by omega) (by omega))
        have a11 : at1I b i 11 = none := at1I_f (okI_less hok6 (by omega) (by omega))
        have hno : decI b i = ([], dropI b i) := dec_no (by omega) a5 a6 a7 a11
        have hD : Hu.dec (Hu.bl b) = (L, dropI b i) := by rw [hdec, hno]; simp
        obtain ⟨k, hk⟩ : ∃ k, k = 8 * ilen b - i := ⟨_, rfl⟩
        repeat' (first
            | (refine s_eqs hS rfl ?_; try cbv)
            | (refine s_eqt hS rfl ?_ ?_; (focus (cbv; (repeat' (first | exact trivial | rfl | refine And.intro ?_ ?_ | assumption | omega | (simp only [← hS, Int.ofNat_eq_natCast, cq, decide_eq_true_eq, decide_eq_false_iff_not, beq_iff_eq, beq_eq_false_iff_ne, ne_eq]; done) | (simp only [← hS, Int.ofNat_eq_natCast, cq, decide_eq_true_eq, decide_eq_false_iff_not, beq_iff_eq, beq_eq_false_iff_ne, ne_eq]; first | assumption | omega))); done)); try cbv)
            | (refine s_eqo hS ?_; try cbv)
            | (refine s_lk hS ?_; try cbv)
            | (refine s_mu hS ?_; try cbv)
            | (refine s_chk hS (by simp only [← hS, Int.ofNat_eq_natCast, cq, decide_eq_true_eq, decide_eq_false_iff_not, beq_iff_eq, beq_eq_false_iff_ne, ne_eq]; omega) ?_; try cbv)
            | (refine s_br hS ?_ ?_ <;> intro h <;> (try cbv) <;> (try simp only [← hS, Int.ofNat_eq_natCast, cq, decide_eq_true_eq, decide_eq_false_iff_not, beq_iff_eq, beq_eq_false_iff_ne, ne_eq] at h) <;> first | (exfalso; omega) | (exact absurd trivial h) | (exact (no_tf h).elim) | (exact (no_ft h).elim) | (exact (no_both h (by with_reducible assumption)).elim) | (exact (no_both (by with_reducible assumption) h).elim) | skip)
            | (refine s_add hS ?_ (by simp only [lo]; omega) (by simp only [hi]; omega); intro _ _; try cbv)
            | (refine s_sub hS ?_ (by simp only [lo]; omega) (by simp only [hi]; omega); intro _ _; try cbv)
            | (refine s_cvi hS ?_ (by simp only [lo]; omega) (by simp only [hi]; omega); try cbv)
            | (refine s_mul hS ?_ (by simp only [lo]; omega) (by simp only [hi]; omega); intro _ _; cbv)
            | (refine s_jump hS rfl ?_; cbv)
            | (refine octet_v hS hb hnb hn' hF rfl i k (by simp only [Z.v]; omega) (by simp only [Z.v]; omega) (by omega) (by omega) (by omega) (fun r hr => ?_); cbv)
            | (refine s_shlv hS k (by omega) (by omega) (by omega) (by decide) (fun p hp hp1 hp2 => ?_); cbv))
        · have hb7 := take_big (i := i) (by omega) (by omega) hD (by omega)
          exact end_none (hP.symm.trans (by rw [hb7.1]; rfl)) (hE.symm.trans hb7.2)
        · have hte := (take_end (i := i) (by omega) (by omega) hD hk (by omega)).1 (by rw [hr, ← hp]; omega)
          exact end_some (hP.symm.trans (by rw [hte.1])) (hE.symm.trans hte.2) hG0.symm hq rfl
        · have hte := (take_end (i := i) (by omega) (by omega) hD hk (by omega)).2 (by rw [hr, ← hp]; omega)
          exact end_none (hP.symm.trans (by rw [hte.1]; rfl)) (hE.symm.trans hte.2)
  · cbv
    have a5 : at1I b i 5 = none := at1I_f (okI_less hok5 (by omega) (by omega))
    have a6 : at1I b i 6 = none := at1I_f (okI_less hok5 (by omega) (by omega))
    have a7 : at1I b i 7 = none := at1I_f (okI_less hok5 (by omega) (by omega))
    have a11 : at1I b i 11 = none := at1I_f (okI_less hok5 (by omega) (by omega))
    have hno : decI b i = ([], dropI b i) := dec_no (by omega) a5 a6 a7 a11
    have hD : Hu.dec (Hu.bl b) = (L, dropI b i) := by rw [hdec, hno]; simp
    obtain ⟨k, hk⟩ : ∃ k, k = 8 * ilen b - i := ⟨_, rfl⟩
    repeat' (first
        | (refine s_eqs hS rfl ?_; try cbv)
        | (refine s_eqt hS rfl ?_ ?_; (focus (cbv; (repeat' (first | exact trivial | rfl | refine And.intro ?_ ?_ | assumption | omega | (simp only [← hS, Int.ofNat_eq_natCast, cq, decide_eq_true_eq, decide_eq_false_iff_not, beq_iff_eq, beq_eq_false_iff_ne, ne_eq]; done) | (simp only [← hS, Int.ofNat_eq_natCast, cq, decide_eq_true_eq, decide_eq_false_iff_not, beq_iff_eq, beq_eq_false_iff_ne, ne_eq]; first | assumption | omega))); done)); try cbv)
        | (refine s_eqo hS ?_; try cbv)
        | (refine s_lk hS ?_; try cbv)
        | (refine s_mu hS ?_; try cbv)
        | (refine s_chk hS (by simp only [← hS, Int.ofNat_eq_natCast, cq, decide_eq_true_eq, decide_eq_false_iff_not, beq_iff_eq, beq_eq_false_iff_ne, ne_eq]; omega) ?_; try cbv)
        | (refine s_br hS ?_ ?_ <;> intro h <;> (try cbv) <;> (try simp only [← hS, Int.ofNat_eq_natCast, cq, decide_eq_true_eq, decide_eq_false_iff_not, beq_iff_eq, beq_eq_false_iff_ne, ne_eq] at h) <;> first | (exfalso; omega) | (exact absurd trivial h) | (exact (no_tf h).elim) | (exact (no_ft h).elim) | (exact (no_both h (by with_reducible assumption)).elim) | (exact (no_both (by with_reducible assumption) h).elim) | skip)
        | (refine s_add hS ?_ (by simp only [lo]; omega) (by simp only [hi]; omega); intro _ _; try cbv)
        | (refine s_sub hS ?_ (by simp only [lo]; omega) (by simp only [hi]; omega); intro _ _; try cbv)
        | (refine s_cvi hS ?_ (by simp only [lo]; omega) (by simp only [hi]; omega); try cbv)
        | (refine s_mul hS ?_ (by simp only [lo]; omega) (by simp only [hi]; omega); intro _ _; cbv)
        | (refine s_jump hS rfl ?_; cbv)
        | (refine octet_v hS hb hnb hn' hF rfl i k (by simp only [Z.v]; omega) (by simp only [Z.v]; omega) (by omega) (by omega) (by omega) (fun r hr => ?_); cbv)
        | (refine s_shlv hS k (by omega) (by omega) (by omega) (by decide) (fun p hp hp1 hp2 => ?_); cbv))
    · have hb7 := take_big (i := i) (by omega) (by omega) hD (by omega)
      exact end_none (hP.symm.trans (by rw [hb7.1]; rfl)) (hE.symm.trans hb7.2)
    · have hte := (take_end (i := i) (by omega) (by omega) hD hk (by omega)).1 (by rw [hr, ← hp]; omega)
      exact end_some (hP.symm.trans (by rw [hte.1])) (hE.symm.trans hte.2) hG0.symm hq rfl
    · have hte := (take_end (i := i) (by omega) (by omega) hD hk (by omega)).2 (by rw [hr, ← hp]; omega)
      exact end_none (hP.symm.trans (by rw [hte.1]; rfl)) (hE.symm.trans hte.2)
theorem take_f {b : List Int} (hb : Hu.BOk b) (hn : ilen b ≤ 1000000) :
    (S0 Try.prog).call 17 [.sl 0 1 (.l 0) (.y (ilen b)) none] [.r true true (.l 0) 1 (cellsB b)] (OwnR 1 1 (cellsB (takeL b)) true [.i .i64 (.y (takeE b))]) := by
  obtain ⟨n, hn'⟩ : ∃ n, n = ilen b := ⟨_, rfl⟩
  have h0n := ilen_nn b
  have hnb := hn
  rw [← hn'] at hn h0n ⊢
  have hpl := cellsB_plain b
  generalize hF : cellsB b = F at hpl ⊢
  generalize hP : cellsB (takeL b) = P
  generalize hE : takeE b = E
  generalize hT : knownE 256 = T
  have hk := known_f hT
  generalize hS : S0 Try.prog = S
  refine call_in' hS I.fn_huff_Take ?_
  cbv
  refine use_map hS (l0 := []) id hk .nil rfl trivial ?_
  cbv
  refine s_loop_nil hS 2 1 (by omega) rfl ?_
  cbv
  refine s_loop_one hS ?_
  cbv
  refine octet_u hS hb hnb hn' hF rfl 0 5 rfl rfl (by decide) (by decide) (fun hok5 r5 hr5 => ?_) (fun hok5 r5 => ?_)
  · cbv
    refine look_known hS hT (fun c hc c0 c1 => ?_) fun hc => ?_
    · cbv
      have hs : decI b 0 = ((c.toNat : Int) :: (decI b (0 + 5)).1, (decI b (0 + 5)).2) := dec_5 (by omega)  (by rw [at1I_t hok5 hr5]; exact hc)
      have hle : 0 + 5 ≤ 8 * ilen b := okI_le hok5
      rw [Int.toNat_of_nonneg c0] at hs
      refine jump_less hS 3 rfl ?_ ?_ ?_ (take_jump hb hnb hn' hF hP hE hT hS (i1 := 5) (q1 := 1) (st1 := 0) (L1 := [c]) (G1 := [.i .u8 (.y c)]) (by omega) (by omega) rfl (by omega) rfl ?_)
      · cbv; (repeat' (first | exact sub_any | exact Sub.rfl | exact SubL.nil | refine SubL.cons ?_ ?_ | exact sub_i rfl | exact sub_sl rfl rfl))
      · cbv; exact ⟨.rfl, .rfl, .r .rfl rfl rfl, trivial⟩
      · cbv; exact gc_c (gc_m (plains_refs hpl)) (gc_c (gc_k (hT ▸ known_noref 256)) rfl)
      · rw [← dec_at0, hs]; rfl
    · cbv
      have a5 : at1I b 0 5 = none := by rw [at1I_t hok5 hr5]; exact hc
      refine s_loop_one hS ?_
      cbv
      refine octet_u hS hb hnb hn' hF rfl 0 6 rfl rfl (by decide) (by decide) (fun hok6 r6 hr6 => ?_) (fun hok6 r6 => ?_)
      · cbv
        refine look_known hS hT (fun c hc c0 c1 => ?_) fun hc => ?_
        · cbv
          have hs : decI b 0 = ((c.toNat : Int) :: (decI b (0 + 6)).1, (decI b (0 + 6)).2) := dec_6 (by omega) a5 (by rw [at1I_t hok6 hr6]; exact hc)
          have hle : 0 + 6 ≤ 8 * ilen b := okI_le hok6
          rw [Int.toNat_of_nonneg c0] at hs
          refine jump_less hS 3 rfl ?_ ?_ ?_ (take_jump hb hnb hn' hF hP hE hT hS (i1 := 6) (q1 := 1) (st1 := 0) (L1 := [c]) (G1 := [.i .u8 (.y c)]) (by omega) (by omega) rfl (by omega) rfl ?_)
          · cbv; (repeat' (first | exact sub_any | exact Sub.rfl | exact SubL.nil | refine SubL.cons ?_ ?_ | exact sub_i rfl | exact sub_sl rfl rfl))
          · cbv; exact ⟨.rfl, .rfl, .r .rfl rfl rfl, trivial⟩
          · cbv; exact gc_c (gc_m (plains_refs hpl)) (gc_c (gc_k (hT ▸ known_noref 256)) rfl)
          · rw [← dec_at0, hs]; rfl
        · cbv
          have a6 : at1I b 0 6 = none := by rw [at1I_t hok6 hr6]; exact hc
          refine s_loop_one hS ?_
          cbv
          refine octet_u hS hb hnb hn' hF rfl 0 7 rfl rfl (by decide) (by decide) (fun hok7 r7 hr7 => ?_) (fun hok7 r7 => ?_)
          · cbv
            refine look_known hS hT (fun c hc c0 c1 => ?_) fun hc => ?_
            · cbv
              have hs : decI b 0 = ((c.toNat : Int) :: (decI b (0 + 7)).1, (decI b (0 + 7)).2) := dec_7 (by omega) a5 a6 (by rw [at1I_t hok7 hr7]; exact hc)
              have hle : 0 + 7 ≤ 8 * ilen b := okI_le hok7
              rw [Int.toNat_of_nonneg c0] at hs
              refine jump_less hS 3 rfl ?_ ?_ ?_ (take_jump hb hnb hn' hF hP hE hT hS (i1 := 7) (q1 := 1) (st1 := 0) (L1 := [c]) (G1 := [.i .u8 (.y c)]) (by omega) (by omega) rfl (by omega) rfl ?_)
              · cbv; (repeat' (first | exact sub_any | exact Sub.rfl | exact SubL.nil | refine SubL.cons ?_ ?_ | exact sub_i rfl | exact sub_sl rfl rfl))
              · cbv; exact ⟨.rfl, .rfl, .r .rfl rfl rfl, trivial⟩
              · cbv; exact gc_c (gc_m (plains_refs hpl)) (gc_c (gc_k (hT ▸ known_noref 256)) rfl)
              · rw [← dec_at0, hs]; rfl
            · cbv
              have a7 : at1I b 0 7 = none := by rw [at1I_t hok7 hr7]; exact hc
              refine s_loop_one hS ?_
              cbv
              refine octet_u hS hb hnb hn' hF rfl 0 11 rfl rfl (by decide) (by decide) (fun hok11 r11 hr11 => ?_) (fun hok11 r11 => ?_)
              · cbv
                refine look_known hS hT (fun c hc c0 c1 => ?_) fun hc => ?_
                · cbv
                  have hs : decI b 0 = ((c.toNat : Int) :: (decI b (0 + 11)).1, (decI b (0 + 11)).2) := dec_11 (by omega) a5 a6 a7 (by rw [at1I_t hok11 hr11]; exact hc)
                  have hle : 0 + 11 ≤ 8 * ilen b := okI_le hok11
                  rw [Int.toNat_of_nonneg c0] at hs
                  refine jump_less hS 3 rfl ?_ ?_ ?_ (take_jump hb hnb hn' hF hP hE hT hS (i1 := 11) (q1 := 1) (st1 := 0) (L1 := [c]) (G1 := [.i .u8 (.y c)]) (by omega) (by omega) rfl (by omega) rfl ?_)
                  · cbv; (repeat' (first | exact sub_any | exact Sub.rfl | exact SubL.nil | refine SubL.cons ?_ ?_ | exact sub_i rfl | exact sub_sl rfl rfl))
                  · cbv; exact ⟨.rfl, .rfl, .r .rfl rfl rfl, trivial⟩
                  · cbv; exact gc_c (gc_m (plains_refs hpl)) (gc_c (gc_k (hT ▸ known_noref 256)) rfl)
                  · rw [← dec_at0, hs]; rfl
                · cbv
                  have a11 : at1I b 0 11 = none := by rw [at1I_t hok11 hr11]; exact hc
                  refine s_loop_one hS ?_
                  cbv
                  have hno : decI b 0 = ([], dropI b 0) := dec_no (by omega) a5 a6 a7 a11
                  have hD : Hu.dec (Hu.bl b) = ([], dropI b 0) := by rw [← dec_at0, hno]
                  obtain ⟨k, hk⟩ : ∃ k, k = 8 * ilen b - 0 := ⟨_, rfl⟩
                  repeat' (first
                      | (refine s_eqs hS rfl ?_; try cbv)
                      | (refine s_eqt hS rfl ?_ ?_; (focus (cbv; (repeat' (first | exact trivial | rfl | refine And.intro ?_ ?_ | assumption | omega | (simp only [← hS, Int.ofNat_eq_natCast, cq, decide_eq_true_eq, decide_eq_false_iff_not, beq_iff_eq, beq_eq_false_iff_ne, ne_eq]; done) | (simp only [← hS, Int.ofNat_eq_natCast, cq, decide_eq_true_eq, decide_eq_false_iff_not, beq_iff_eq, beq_eq_false_iff_ne, ne_eq]; first | assumption | omega))); done)); try cbv)
                      | (refine s_eqo hS ?_; try cbv)
                      | (refine s_lk hS ?_; try cbv)
                      | (refine s_mu hS ?_; try cbv)
                      | (refine s_chk hS (by simp only [← hS, Int.ofNat_eq_natCast, cq, decide_eq_true_eq, decide_eq_false_iff_not, beq_iff_eq, beq_eq_false_iff_ne, ne_eq]; omega) ?_; try cbv)
                      | (refine s_br hS ?_ ?_ <;> intro h <;> (try cbv) <;> (try simp only [← hS, Int.ofNat_eq_natCast, cq, decide_eq_true_eq, decide_eq_false_iff_not, beq_iff_eq, beq_eq_false_iff_ne, ne_eq] at h) <;> first | (exfalso; omega) | (exact absurd trivial h) | (exact (no_tf h).elim) | (exact (no_ft h).elim) | (exact (no_both h (by with_reducible assumption)).elim) | (exact (no_both (by with_reducible assumption) h).elim) | skip)
                      | (refine s_add hS ?_ (by simp only [lo]; omega) (by simp only [hi]; omega); intro _ _; try cbv)
                      | (refine s_sub hS ?_ (by simp only [lo]; omega) (by simp only [hi]; omega); intro _ _; try cbv)
                      | (refine s_cvi hS ?_ (by simp only [lo]; omega) (by simp only [hi]; omega); try cbv)
                      | (refine s_mul hS ?_ (by simp only [lo]; omega) (by simp only [hi]; omega); intro _ _; cbv)
                      | (refine s_jump hS rfl ?_; cbv)
                      | (refine octet_v hS hb hnb hn' hF rfl 0 k (by simp only [Z.v]; omega) (by simp only [Z.v]; omega) (by omega) (by omega) (by omega) (fun r hr => ?_); cbv)
                      | (refine s_shlv hS k (by omega) (by omega) (by omega) (by decide) (fun p hp hp1 hp2 => ?_); cbv))
                  · have hb7 := take_big (i := 0) (by omega) (by omega) hD (by omega)
                    exact end_none (hP.symm.trans (by rw [hb7.1]; rfl)) (hE.symm.trans hb7.2)
                  · have hte := (take_end (i := 0) (by omega) (by omega) hD hk (by omega)).1 (by rw [hr, ← hp]; omega)
                    exact end_some (hP.symm.trans (by rw [hte.1])) (hE.symm.trans hte.2) rfl rfl rfl
                  · have hte := (take_end (i := 0) (by omega) (by omega) hD hk (by omega)).2 (by rw [hr, ← hp]; omega)
                    exact end_none (hP.symm.trans (by rw [hte.1]; rfl)) (hE.symm.trans hte.2)
              · cbv
                have a11 : at1I b 0 11 = none := at1I_f (okI_less hok11 (by omega) (by omega))
                have hno : decI b 0 = ([], dropI b 0) := dec_no (by omega) a5 a6 a7 a11
                have hD : Hu.dec (Hu.bl b) = ([], dropI b 0) := by rw [← dec_at0, hno]
                obtain ⟨k, hk⟩ : ∃ k, k = 8 * ilen b - 0 := ⟨_, rfl⟩
                repeat' (first
                    | (refine s_eqs hS rfl ?_; try cbv)
                    | (refine s_eqt hS rfl ?_ ?_; (focus (cbv; (repeat' (first | exact trivial | rfl | refine And.intro ?_ ?_ | assumption | omega | (simp only [← hS, Int.ofNat_eq_natCast, cq, decide_eq_true_eq, decide_eq_false_iff_not, beq_iff_eq, beq_eq_false_iff_ne, ne_eq]; done) | (simp only [← hS, Int.ofNat_eq_natCast, cq, decide_eq_true_eq, decide_eq_false_iff_not, beq_iff_eq, beq_eq_false_iff_ne, ne_eq]; first | assumption | omega))); done)); try cbv)
                    | (refine s_eqo hS ?_; try cbv)
                    | (refine s_lk hS ?_; try cbv)
                    | (refine s_mu hS ?_; try cbv)
                    | (refine s_chk hS (by simp only [← hS, Int.ofNat_eq_natCast, cq, decide_eq_true_eq, decide_eq_false_iff_not, beq_iff_eq, beq_eq_false_iff_ne, ne_eq]; omega) ?_; try cbv)
                    | (refine s_br hS ?_ ?_ <;> intro h <;> (try cbv) <;> (try simp only [← hS, Int.ofNat_eq_natCast, cq, decide_eq_true_eq, decide_eq_false_iff_not, beq_iff_eq, beq_eq_false_iff_ne, ne_eq] at h) <;> first | (exfalso; omega) | (exact absurd trivial h) | (exact (no_tf h).elim) | (exact (no_ft h).elim) | (exact (no_both h (by with_reducible assumption)).elim) | (exact (no_both (by with_reducible assumption) h).elim) | skip)
                    | (refine s_add hS ?_ (by simp only [lo]; omega) (by simp only [hi]; omega); intro _ _; try cbv)
                    | (refine s_sub hS ?_ (by simp only [lo]; omega) (by simp only [hi]; omega); intro _ _; try cbv)
                    | (refine s_cvi hS ?_ (by simp only [lo]; omega) (by simp only [hi]; omega); try cbv)
                    | (refine s_mul hS ?_ (by simp only [lo]; omega) (by simp only [hi]; omega); intro _ _; cbv)
                    | (refine s_jump hS rfl ?_; cbv)
                    | (refine octet_v hS hb hnb hn' hF rfl 0 k (by simp only [Z.v]; omega) (by simp only [Z.v]; omega) (by omega) (by omega) (by omega) (fun r hr => ?_); cbv)
                    | (refine s_shlv hS k (by omega) (by omega) (by omega) (by decide) (fun p hp hp1 hp2 => ?_); cbv))
                · have hb7 := take_big (i := 0) (by omega) (by omega) hD (by omega)
                  exact end_none (hP.symm.trans (by rw [hb7.1]; rfl)) (hE.symm.trans hb7.2)
                · have hte := (take_end (i := 0) (by omega) (by omega) hD hk (by omega)).1 (by rw [hr, ← hp]; omega)
                  exact end_some (hP.symm.trans (by rw [hte.1])) (hE.symm.trans hte.2) rfl rfl rfl
                · have hte := (take_end (i := 0) (by omega) (by omega) hD hk (by omega)).2 (by rw [hr, ← hp]; omega)
                  exact end_none (hP.symm.trans (by rw [hte.1]; rfl)) (hE.symm.trans hte.2)
          · cbv
            have a7 : at1I b 0 7 = none := at1I_f (okI_less hok7 (by omega) (by omega))
            have a11 : at1I b 0 11 = none := at1I_f (okI_less hok7 (by omega) (by omega))
            have hno : decI b 0 = ([], dropI b 0) := dec_no (by omega) a5 a6 a7 a11
            have hD : Hu.dec (Hu.bl b) = ([], dropI b 0) := by rw [← dec_at0, hno]
            obtain ⟨k, hk⟩ : ∃ k, k = 8 * ilen b - 0 := ⟨_, rfl⟩
            repeat' (first
                | (refine s_eqs hS rfl ?_; try cbv)
                | (refine s_eqt hS rfl ?_ ?_; (focus (cbv; (repeat' (first | exact trivial | rfl | refine And.intro ?_ ?_ | assumption | omega | (simp only [← hS, Int.ofNat_eq_natCast, cq, decide_eq_true_eq, decide_eq_false_iff_not, beq_iff_eq, beq_eq_false_iff_ne, ne_eq]; done) | (simp only [← hS, Int.ofNat_eq_natCast, cq, decide_eq_true_eq, decide_eq_false_iff_not, beq_iff_eq, beq_eq_false_iff_ne, ne_eq]; first | assumption | omega))); done)); try cbv)
                | (refine s_eqo hS ?_; try cbv)
                | (refine s_lk hS ?_; try cbv)
                | (refine s_mu hS ?_; try cbv)
                | (refine s_chk hS (by simp only [← hS, Int.ofNat_eq_natCast, cq, decide_eq_true_eq, decide_eq_false_iff_not, beq_iff_eq, beq_eq_false_iff_ne, ne_eq]; omega) ?_; try cbv)
                | (refine s_br hS ?_ ?_ <;> intro h <;> (try cbv) <;> (try simp only [← hS, Int.ofNat_eq_natCast, cq, decide_eq_true_eq, decide_eq_false_iff_not, beq_iff_eq, beq_eq_false_iff_ne, ne_eq] at h) <;> first | (exfalso; omega) | (exact absurd trivial h) | (exact (no_tf h).elim) | (exact (no_ft h).elim) | (exact (no_both h (by with_reducible assumption)).elim) | (exact (no_both (by with_reducible assumption) h).elim) | skip)
                | (refine s_add hS ?_ (by simp only [lo]; omega) (by simp only [hi]; omega); intro _ _; try cbv)
                | (refine s_sub hS ?_ (by simp only [lo]; omega) (by simp only [hi]; omega); intro _ _; try cbv)
                | (refine s_cvi hS ?_ (by simp only [lo]; omega) (by simp only [hi]; omega); try cbv)
                | (refine s_mul hS ?_ (by simp only [lo]; omega) (by simp only [hi]; omega); intro _ _; cbv)
                | (refine s_jump hS rfl ?_; cbv)
                | (refine octet_v hS hb hnb hn' hF rfl 0 k (by simp only [Z.v]; omega) (by simp only [Z.v]; omega) (by omega) (by omega) (by omega) (fun r hr => ?_); cbv)
                | (refine s_shlv hS k (by omega) (by omega) (by omega) (by decide) (fun p hp hp1 hp2 => ?_); cbv))
            · have hb7 := take_big (i := 0) (by omega) (by omega) hD (by omega)
              exact end_none (hP.symm.trans (by rw [hb7.1]; rfl)) (hE.symm.trans hb7.2)
            · have hte := (take_end (i := 0) (by omega) (by omega) hD hk (by omega)).1 (by rw [hr, ← hp]; omega)
              exact end_some (hP.symm.trans (by rw [hte.1])) (hE.symm.trans hte.2) rfl rfl rfl
            · have hte := (take_end (i := 0) (by omega) (by omega) hD hk (by omega)).2 (by rw [hr, ← hp]; omega)
              exact end_none (hP.symm.trans (by rw [hte.1]; rfl)) (hE.symm.trans hte.2)
      · cbv
        have a6 : at1I b 0 6 = none := at1I_f (okI_less hok6 (by omega) (by omega))
        have a7 : at1I b 0 7 = none := at1I_f (okI_less hok6 (by omega) (by omega))
        have a11 : at1I b 0 11 = none := at1I_f (okI_less hok6 (by omega) (by omega))
        have hno : decI b 0 = ([], dropI b 0) := dec_no (by omega) a5 a6 a7 a11
        have hD : Hu.dec (Hu.bl b) = ([], dropI b 0) := by rw [← dec_at0, hno]
        obtain ⟨k, hk⟩ : ∃ k, k = 8 * ilen b - 0 := ⟨_, rfl⟩
        repeat' (first
            | (refine s_eqs hS rfl ?_; try cbv)
            | (refine s_eqt hS rfl ?_ ?_; (focus (cbv; (repeat' (first | exact trivial | rfl | refine And.intro ?_ ?_ | assumption | omega | (simp only [← hS, Int.ofNat_eq_natCast, cq, decide_eq_true_eq, decide_eq_false_iff_not, beq_iff_eq, beq_eq_false_iff_ne, ne_eq]; done) | (simp only [← hS, Int.ofNat_eq_natCast, cq, decide_eq_true_eq, decide_eq_false_iff_not, beq_iff_eq, beq_eq_false_iff_ne, ne_eq]; first | assumption | omega))); done)); try cbv)
            | (refine s_eqo hS ?_; try cbv)
            | (refine s_lk hS ?_; try cbv)
            | (refine s_mu hS ?_; try cbv)
            | (refine s_chk hS (by simp only [← hS, Int.ofNat_eq_natCast, cq, decide_eq_true_eq, decide_eq_false_iff_not, beq_iff_eq, beq_eq_false_iff_ne, ne_eq]; omega) ?_; try cbv)
            | (refine s_br hS ?_ ?_ <;> intro h <;> (try cbv) <;> (try simp only [← hS, Int.ofNat_eq_natCast, cq, decide_eq_true_eq, decide_eq_false_iff_not, beq_iff_eq, beq_eq_false_iff_ne, ne_eq] at h) <;> first | (exfalso; omega) | (exact absurd trivial h) | (exact (no_tf h).elim) | (exact (no_ft h).elim) | (exact (no_both h (by with_reducible assumption)).elim) | (exact (no_both (by with_reducible assumption) h).elim) | skip)
            | (refine s_add hS ?_ (by simp only [lo]; omega) (by simp only [hi]; omega); intro _ _; try cbv)
            | (refine s_sub hS ?_ (by simp only [lo]; omega) (by simp only [hi]; omega); intro _ _; try cbv)
            | (refine s_cvi hS ?_ (by simp only [lo]; omega) (by simp only [hi]; omega); try cbv)
            | (refine s_mul hS ?_ (by simp only [lo]; omega) (by simp only [hi]; omega); intro _ _; cbv)
            | (refine s_jump hS rfl ?_; cbv)
            | (refine octet_v hS hb hnb hn' hF rfl 0 k (by simp only [Z.v]; omega) (by simp only [Z.v]; omega) (by omega) (by omega) (by omega) (fun r hr => ?_); cbv)
            | (refine s_shlv hS k (by omega) (by omega) (by omega) (by decide) (fun p hp hp1 hp2 => ?_); cbv))
        · have hb7 := take_big (i := 0) (by omega) (by omega) hD (by omega)
          exact end_none (hP.symm.trans (by rw [hb7.1]; rfl)) (hE.symm.trans hb7.2)
        · have hte := (take_end (i := 0) (by omega) (by omega) hD hk (by omega)).1 (by rw [hr, ← hp]; omega)
          exact end_some (hP.symm.trans (by rw [hte.1])) (hE.symm.trans hte.2) rfl rfl rfl
        · have hte := (take_end (i := 0) (by omega) (by omega) hD hk (by omega)).2 (by rw [hr, ← hp]; omega)
          exact end_none (hP.symm.trans (by rw [hte.1]; rfl)) (hE.symm.trans hte.2)
  · cbv
    have a5 : at1I b 0 5 = none := at1I_f (okI_less hok5 (by omega) (by omega))
    have a6 : at1I b 0 6 = none := at1I_f (okI_less hok5 (by omega) (by omega))
    have a7 : at1I b 0 7 = none := at1I_f (okI_less hok5 (by omega) (by omega))
    have a11 : at1I b 0 11 = none := at1I_f (okI_less hok5 (by omega) (by omega))
    have hno : decI b 0 = ([], dropI b 0) := dec_no (by omega) a5 a6 a7 a11
    have hD : Hu.dec (Hu.bl b) = ([], dropI b 0) := by rw [← dec_at0, hno]
    obtain ⟨k, hk⟩ : ∃ k, k = 8 * ilen b - 0 := ⟨_, rfl⟩
    repeat' (first
        | (refine s_eqs hS rfl ?_; try cbv)
        | (refine s_eqt hS rfl ?_ ?_; (focus (cbv; (repeat' (first | exact trivial | rfl | refine And.intro ?_ ?_ | assumption | omega | (simp only [← hS, Int.ofNat_eq_natCast, cq, decide_eq_true_eq, decide_eq_false_iff_not, beq_iff_eq, beq_eq_false_iff_ne, ne_eq]; done) | (simp only [← hS, Int.ofNat_eq_natCast, cq, decide_eq_true_eq, decide_eq_false_iff_not, beq_iff_eq, beq_eq_false_iff_ne, ne_eq]; first | assumption | omega))); done)); try cbv)
        | (refine s_eqo hS ?_; try cbv)
        | (refine s_lk hS ?_; try cbv)
        | (refine s_mu hS ?_; try cbv)
        | (refine s_chk hS (by simp only [← hS, Int.ofNat_eq_natCast, cq, decide_eq_true_eq, decide_eq_false_iff_not, beq_iff_eq, beq_eq_false_iff_ne, ne_eq]; omega) ?_; try cbv)
        | (refine s_br hS ?_ ?_ <;> intro h <;> (try cbv) <;> (try simp only [← hS, Int.ofNat_eq_natCast, cq, decide_eq_true_eq, decide_eq_false_iff_not, beq_iff_eq, beq_eq_false_iff_ne, ne_eq] at h) <;> first | (exfalso; omega) | (exact absurd trivial h) | (exact (no_tf h).elim) | (exact (no_ft h).elim) | (exact (no_both h (by with_reducible assumption)).elim) | (exact (no_both (by with_reducible assumption) h).elim) | skip)
        | (refine s_add hS ?_ (by simp only [lo]; omega) (by simp only [hi]; omega); intro _ _; try cbv)
        | (refine s_sub hS ?_ (by simp only [lo]; omega) (by simp only [hi]; omega); intro _ _; try cbv)
        | (refine s_cvi hS ?_ (by simp only [lo]; omega) (by simp only [hi]; omega); try cbv)
        | (refine s_mul hS ?_ (by simp only [lo]; omega) (by simp only [hi]; omega); intro _ _; cbv)
        | (refine s_jump hS rfl ?_; cbv)
        | (refine octet_v hS hb hnb hn' hF rfl 0 k (by simp only [Z.v]; omega) (by simp only [Z.v]; omega) (by omega) (by omega) (by omega) (fun r hr => ?_); cbv)
        | (refine s_shlv hS k (by omega) (by omega) (by omega) (by decide) (fun p hp hp1 hp2 => ?_); cbv))
    · have hb7 := take_big (i := 0) (by omega) (by omega) hD (by omega)
      exact end_none (hP.symm.trans (by rw [hb7.1]; rfl)) (hE.symm.trans hb7.2)
    · have hte := (take_end (i := 0) (by omega) (by omega) hD hk (by omega)).1 (by rw [hr, ← hp]; omega)
      exact end_some (hP.symm.trans (by rw [hte.1])) (hE.symm.trans hte.2) rfl rfl rfl
    · have hte := (take_end (i := 0) (by omega) (by omega) hD hk (by omega)).2 (by rw [hr, ← hp]; omega)
      exact end_none (hP.symm.trans (by rw [hte.1]; rfl)) (hE.symm.trans hte.2)
end Cz
