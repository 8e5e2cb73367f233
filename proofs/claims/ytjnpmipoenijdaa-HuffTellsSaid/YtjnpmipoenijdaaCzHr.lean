/- Huff, part R: the document's next byte. -/
import Derived.Test.YtjnpmipoenijdaaCzHm
namespace Cz
open Go Go.RowKit Go.Proofs
set_option linter.unusedSimpArgs false
set_option linter.unusedVariables false
set_option maxRecDepth 100000
set_option maxHeartbeats 4000000
/-- causeyref01.Bits, used. -/
theorem rbits_u {S : Sy} (hS : S0 Try.prog = S) {b : List Int} {F : List SV} {n : Int} {zi z : Z} {k : Nat} {ro lit : Bool} {st : Z} {l : List Blk} {K : SV → List Blk → Prop} (hb : Hu.BOk b) (hn : ilen b ≤ 1000000) (hn' : n = ilen b) (hF : cellsB b = F)
    (hrow : lget l k = .r ro lit st 1 F) (i m : Int) (hi : zi.v = i) (hm : z.v = m) (hz1 : 1 ≤ m) (hz2 : m ≤ 30) (h1 : okI b i m = true → ∀ r, numI b i m = r → K (.tp [.i .i64 (.y r), .tt]) l) (h2 : okI b i m = false → ∀ r, K (.tp [.i .i64 (.y r), .ff]) l) :
    S.call 27 [.sl k 1 (.l 0) (.y n) none, .i .i64 zi, .i .i64 z] l K := by
  subst hn' hF hi hm
  have hB : oBitsB b zi.v z.v = okI b zi.v z.v := by unfold oBitsB; rw [if_neg (by omega), if_neg (by omega)]
  have hf := rBitsO_f (b := b) (i := zi.v) (k := z.v) hb hn rfl rfl
  cases ht : okI b zi.v z.v with
  | true =>
    refine use_read hS (fun _ => k) (sv := .tp [.i .i64 (.y (numI b zi.v z.v)), .tt]) (call_post hf fun x l' hx => ⟨x, .rfl, hx.trans (sub_tp (.cons (sub_i ?_) (.cons (sub_b_tt ?_) .nil)))⟩) (.cons .rfl (.cons (sub_i rfl) (.cons (sub_i rfl) .nil))) rfl ⟨⟨_, _, _, _, _, _, _, _, rfl, cellsB_plain b, hrow, .rfl⟩, trivial⟩ rfl (h1 ht _ rfl)
    · unfold oBitsR; rw [hB, ht]; rfl
    · rw [hB, ht]
  | false =>
    refine use_read hS (fun _ => k) (sv := .tp [.i .i64 (.y (oBitsR b zi.v z.v)), .ff]) (call_post hf fun x l' hx => ⟨x, .rfl, hx.trans (sub_tp (.cons .rfl (.cons (sub_b_ff ?_) .nil)))⟩) (.cons .rfl (.cons (sub_i rfl) (.cons (sub_i rfl) .nil))) rfl ⟨⟨_, _, _, _, _, _, _, _, rfl, cellsB_plain b, hrow, .rfl⟩, trivial⟩ rfl (h2 ht _)
    rw [hB, ht]
theorem rbits_v {S : Sy} (hS : S0 Try.prog = S) {b : List Int} {F : List SV} {n : Int} {zi z : Z} {k : Nat} {ro lit : Bool} {st : Z} {l : List Blk} {K : SV → List Blk → Prop} (hb : Hu.BOk b) (hn : ilen b ≤ 1000000) (hn' : n = ilen b) (hF : cellsB b = F)
    (hrow : lget l k = .r ro lit st 1 F) (i m : Int) (h0 : zi.v = i) (hm : z.v = m) (hi0 : 0 ≤ i) (hz1 : 0 ≤ m) (hz2 : m ≤ 30 ∧ i + m ≤ 8 * n) (h1 : ∀ r, numI b i m = r → K (.tp [.i .i64 (.y r), .tt]) l) :
    S.call 27 [.sl k 1 (.l 0) (.y n) none, .i .i64 zi, .i .i64 z] l K := by
  subst hn' hF h0 hm
  have hB : oBitsB b zi.v z.v = true := by
    unfold oBitsB okI
    by_cases hz : z.v = 0
    · rw [if_pos hz]; simp; omega
    · rw [if_neg hz, if_neg (by omega)]; simp; omega
  have hf := rBitsO_f (b := b) (i := zi.v) (k := z.v) hb hn rfl rfl
  refine use_read hS (fun _ => k) (sv := .tp [.i .i64 (.y (numI b zi.v z.v)), .tt]) (call_post hf fun x l' hx => ⟨x, .rfl, hx.trans (sub_tp (.cons (sub_i ?_) (.cons (sub_b_tt hB) .nil)))⟩) (.cons .rfl (.cons (sub_i rfl) (.cons (sub_i rfl) .nil))) rfl ⟨⟨_, _, _, _, _, _, _, _, rfl, cellsB_plain b, hrow, .rfl⟩, trivial⟩ rfl (h1 _ rfl)
  unfold oBitsR; rw [hB]; rfl
/-- causeyref07.Of, used. -/
theorem rof_u {S : Sy} (hS : S0 Try.prog = S) {l : List Blk} {K : SV → List Blk → Prop} {za zm : Z} (a m : Int) (ha : za.v = a) (hm : zm.v = m) (h1 : ∀ c : Int, findO a m = some c.toNat → 0 ≤ c → c < 256 → K (.tp [.i .u8 (.y c), .tt]) l)
    (h2 : findO a m = none → ∀ c, K (.tp [.i .u8 (.y c), .ff]) l) : S.call 16 [.i .i64 za, .i .i64 zm] l K := by
  subst ha hm
  have hf := rOf_f (a := za.v) (m := zm.v) rfl rfl
  cases h : findO za.v zm.v with
  | some c =>
    obtain ⟨hc, _, _⟩ := findO_some h
    refine use_val hS (sv := .tp [.i .u8 (.y c), .tt]) (call_post hf fun x l' hx => ⟨x, .rfl, hx.trans (sub_tp (.cons (sub_i ?_) (.cons (sub_b_tt ?_) .nil)))⟩) (.cons (sub_i rfl) (.cons (sub_i rfl) .nil)) rfl rfl (h1 c (by simpa using h) (by omega) (by omega))
    · unfold findR; rw [h]
    · unfold findB; rw [h]; rfl
  | none =>
    refine use_val hS (sv := .tp [.i .u8 (.y (findR za.v zm.v)), .ff]) (call_post hf fun x l' hx => ⟨x, .rfl, hx.trans (sub_tp (.cons .rfl (.cons (sub_b_ff ?_) .nil)))⟩) (.cons (sub_i rfl) (.cons (sub_i rfl) .nil)) rfl rfl (h2 h _)
    unfold findB; rw [h]; rfl
/-- The byte whose code stands at a bit, and how many bits it has; 0: none. -/
def nextR (b : List Int) (i : Int) : Int × Int := match at1I b i 5 with
  | some c => (c, 5)
  | none => match at1I b i 6 with
    | some c => (c, 6)
    | none => match at1I b i 7 with
      | some c => (c, 7)
      | none => match at1I b i 11 with
        | some c => (c, 11)
        | none => (0, 0)
theorem next_some {b : List Int} {i c m : Int} (h0 : 0 ≤ i) (h : nextR b i = (c, m)) (hm : m ≠ 0) : 0 ≤ c ∧ c < 256 ∧ 5 ≤ m ∧ m ≤ 11 ∧ i + m ≤ 8 * ilen b ∧ decI b i = (c :: (decI b (i + m)).1, (decI b (i + m)).2) := by
  unfold nextR at h
  have hc : ∀ {q : Int} {d : Nat}, at1I b i q = some d → d < 256 := fun {q d} h => by
    unfold at1I at h
    split at h
    · exact (findO_some h).1
    · cases h
  cases h5 : at1I b i 5 with
  | some d => rw [h5] at h; cases h; have := hc h5; exact ⟨by omega, by omega, by omega, by omega, okI_le (at1I_ok h5), dec_5 h0 h5⟩
  | none =>
    rw [h5] at h
    cases h6 : at1I b i 6 with
    | some d => rw [h6] at h; cases h; have := hc h6; exact ⟨by omega, by omega, by omega, by omega, okI_le (at1I_ok h6), dec_6 h0 h5 h6⟩
    | none =>
      rw [h6] at h
      cases h7 : at1I b i 7 with
      | some d => rw [h7] at h; cases h; have := hc h7; exact ⟨by omega, by omega, by omega, by omega, okI_le (at1I_ok h7), dec_7 h0 h5 h6 h7⟩
      | none =>
        rw [h7] at h
        cases h11 : at1I b i 11 with
        | some d => rw [h11] at h; cases h; have := hc h11; exact ⟨by omega, by omega, by omega, by omega, okI_le (at1I_ok h11), dec_11 h0 h5 h6 h7 h11⟩
        | none => rw [h11] at h; cases h; exact absurd rfl hm
theorem next_none {b : List Int} {i c : Int} (h0 : 0 ≤ i) (h : nextR b i = (c, 0)) : decI b i = ([], dropI b i) := by
  unfold nextR at h
  cases h5 : at1I b i 5 with
  | some d => rw [h5] at h; cases h
  | none =>
    rw [h5] at h
    cases h6 : at1I b i 6 with
    | some d => rw [h6] at h; cases h
    | none =>
      rw [h6] at h
      cases h7 : at1I b i 7 with
      | some d => rw [h7] at h; cases h
      | none =>
        rw [h7] at h
        cases h11 : at1I b i 11 with
        | some d => rw [h11] at h; cases h
        | none => exact dec_no h0 h5 h6 h7 h11
theorem next_f {b : List Int} {i c m : Int} (hb : Hu.BOk b) (hnb : ilen b ≤ 1000000) (h0 : 0 ≤ i) (hr : nextR b i = (c, m)) :
    (S0 Try.prog).call 46 [.sl 0 1 (.l 0) (.y (ilen b)) none, .i .i64 (.y i)] [.r true true (.l 0) 1 (cellsB b)] (fun x _ => Sub x (.tp [.i .u8 (.y c), .i .i64 (.y m)])) := by
  obtain ⟨n, hn'⟩ : ∃ n, n = ilen b := ⟨_, rfl⟩
  have h0n := ilen_nn b
  rw [← hn'] at h0n ⊢
  unfold nextR at hr
  have hpl := cellsB_plain b
  generalize hF : cellsB b = F at hpl ⊢
  generalize hS : S0 Try.prog = S
  refine call_in' hS I.fn_causeyref07_next ?_
  cbv
  refine s_loop_one hS ?_
  cbv
  refine rbits_u hS hb hnb hn' hF rfl i 5 rfl rfl (by decide) (by decide) (fun hok r hr1 => ?_) (fun hok r => ?_)
  · cbv
    refine rof_u hS r 5 rfl rfl (fun d hd d0 d1 => ?_) (fun hd d => ?_)
    · have a5 : at1I b i 5 = some d.toNat := by rw [at1I_t hok hr1]; exact hd
      simp only [a5] at hr
      have hrc : c = d := by have := congrArg Prod.fst hr; simp only [Int.toNat_of_nonneg d0] at this; exact this.symm
      have hrm := congrArg Prod.snd hr
      simp only at hrm
      clear hr hok hr1 hd
      cbv
      repeat' (first
          | (refine s_eqs hS rfl ?_; try cbv)
          | (refine s_eqt hS rfl ?_ ?_; (focus (cbv; (repeat' (first | exact trivial | rfl | refine And.intro ?_ ?_ | assumption | omega | (simp only [← hS, Int.ofNat_eq_natCast, cq, decide_eq_true_eq, decide_eq_false_iff_not, beq_iff_eq, beq_eq_false_iff_ne, ne_eq]; done) | (simp only [← hS, Int.ofNat_eq_natCast, cq, decide_eq_true_eq, decide_eq_false_iff_not, beq_iff_eq, beq_eq_false_iff_ne, ne_eq]; first | assumption | omega))); done)); try cbv)
          | (refine s_eqo hS ?_; try cbv)
          | (refine s_lk hS ?_; try cbv)
          | (refine s_mu hS ?_; try cbv)
          | (refine s_chk hS (by simp only [← hS, Int.ofNat_eq_natCast, cq, decide_eq_true_eq, decide_eq_false_iff_not, beq_iff_eq, beq_eq_false_iff_ne, ne_eq]; omega) ?_; try cbv)
          | (refine s_br hS ?_ ?_ <;> intro h <;> (try cbv) <;> (try simp only [← hS, Int.ofNat_eq_natCast, cq, decide_eq_true_eq, decide_eq_false_iff_not, beq_iff_eq, beq_eq_false_iff_ne, ne_eq] at h) <;> first | (exfalso; omega) | (exact absurd trivial h) | (exact (no_tf h).elim) | (exact (no_ft h).elim) | (exact (no_both h (by with_reducible assumption)).elim) | (exact (no_both (by with_reducible assumption) h).elim) | skip)
          | (refine s_add hS ?_ (by simp only [lo]; omega) (by simp only [hi]; omega); intro _ _; try cbv)
          | (refine s_sub hS ?_ (by simp only [lo]; omega) (by simp only [hi]; omega); intro _ _; try cbv)
          | (refine s_cvi hS ?_ (by simp only [lo]; omega) (by simp only [hi]; omega); try cbv)
          | (refine s_draw hS rfl I.ord_causeyref07_next_0 (by decide +kernel) ?_; cbv)
          | (refine And.intro rfl ?_; try cbv))
      exact sub_tp (.cons (sub_i (by simp only [Z.v]; omega)) (.cons (sub_i (by simp only [Z.v]; omega)) .nil))
    · have a5 : at1I b i 5 = none := by rw [at1I_t hok hr1]; exact hd
      cbv
      refine s_loop_one hS ?_
      cbv
      refine rbits_u hS hb hnb hn' hF rfl i 6 rfl rfl (by decide) (by decide) (fun hok r hr1 => ?_) (fun hok r => ?_)
      · cbv
        refine rof_u hS r 6 rfl rfl (fun d hd d0 d1 => ?_) (fun hd d => ?_)
        · have a6 : at1I b i 6 = some d.toNat := by rw [at1I_t hok hr1]; exact hd
          simp only [a5, a6] at hr
          have hrc : c = d := by have := congrArg Prod.fst hr; simp only [Int.toNat_of_nonneg d0] at this; exact this.symm
          have hrm := congrArg Prod.snd hr
          simp only at hrm
          clear hr hok hr1 hd
          cbv
          repeat' (first
              | (refine s_eqs hS rfl ?_; try cbv)
              | (refine s_eqt hS rfl ?_ ?_; (focus (cbv; (repeat' (first | exact trivial | rfl | refine And.intro ?_ ?_ | assumption | omega | (simp only [← hS, Int.ofNat_eq_natCast, cq, decide_eq_true_eq, decide_eq_false_iff_not, beq_iff_eq, beq_eq_false_iff_ne, ne_eq]; done) | (simp only [← hS, Int.ofNat_eq_natCast, cq, decide_eq_true_eq, decide_eq_false_iff_not, beq_iff_eq, beq_eq_false_iff_ne, ne_eq]; first | assumption | omega))); done)); try cbv)
              | (refine s_eqo hS ?_; try cbv)
              | (refine s_lk hS ?_; try cbv)
              | (refine s_mu hS ?_; try cbv)
              | (refine s_chk hS (by simp only [← hS, Int.ofNat_eq_natCast, cq, decide_eq_true_eq, decide_eq_false_iff_not, beq_iff_eq, beq_eq_false_iff_ne, ne_eq]; omega) ?_; try cbv)
              | (refine s_br hS ?_ ?_ <;> intro h <;> (try cbv) <;> (try simp only [← hS, Int.ofNat_eq_natCast, cq, decide_eq_true_eq, decide_eq_false_iff_not, beq_iff_eq, beq_eq_false_iff_ne, ne_eq] at h) <;> first | (exfalso; omega) | (exact absurd trivial h) | (exact (no_tf h).elim) | (exact (no_ft h).elim) | (exact (no_both h (by with_reducible assumption)).elim) | (exact (no_both (by with_reducible assumption) h).elim) | skip)
              | (refine s_add hS ?_ (by simp only [lo]; omega) (by simp only [hi]; omega); intro _ _; try cbv)
              | (refine s_sub hS ?_ (by simp only [lo]; omega) (by simp only [hi]; omega); intro _ _; try cbv)
              | (refine s_cvi hS ?_ (by simp only [lo]; omega) (by simp only [hi]; omega); try cbv)
              | (refine s_draw hS rfl I.ord_causeyref07_next_0 (by decide +kernel) ?_; cbv)
              | (refine And.intro rfl ?_; try cbv))
          exact sub_tp (.cons (sub_i (by simp only [Z.v]; omega)) (.cons (sub_i (by simp only [Z.v]; omega)) .nil))
        · have a6 : at1I b i 6 = none := by rw [at1I_t hok hr1]; exact hd
          cbv
          refine s_loop_one hS ?_
          cbv
          refine rbits_u hS hb hnb hn' hF rfl i 7 rfl rfl (by decide) (by decide) (fun hok r hr1 => ?_) (fun hok r => ?_)
          · cbv
            refine rof_u hS r 7 rfl rfl (fun d hd d0 d1 => ?_) (fun hd d => ?_)
            · have a7 : at1I b i 7 = some d.toNat := by rw [at1I_t hok hr1]; exact hd
              simp only [a5, a6, a7] at hr
              have hrc : c = d := by have := congrArg Prod.fst hr; simp only [Int.toNat_of_nonneg d0] at this; exact this.symm
              have hrm := congrArg Prod.snd hr
              simp only at hrm
              clear hr hok hr1 hd
              cbv
              repeat' (first
                  | (refine s_eqs hS rfl ?_; try cbv)
                  | (refine s_eqt hS rfl ?_ ?_; (focus (cbv; (repeat' (first | exact trivial | rfl | refine And.intro ?_ ?_ | assumption | omega | (simp only [← hS, Int.ofNat_eq_natCast, cq, decide_eq_true_eq, decide_eq_false_iff_not, beq_iff_eq, beq_eq_false_iff_ne, ne_eq]; done) | (simp only [← hS, Int.ofNat_eq_natCast, cq, decide_eq_true_eq, decide_eq_false_iff_not, beq_iff_eq, beq_eq_false_iff_ne, ne_eq]; first | assumption | omega))); done)); try cbv)
                  | (refine s_eqo hS ?_; try cbv)
                  | (refine s_lk hS ?_; try cbv)
                  | (refine s_mu hS ?_; try cbv)
                  | (refine s_chk hS (by simp only [← hS, Int.ofNat_eq_natCast, cq, decide_eq_true_eq, decide_eq_false_iff_not, beq_iff_eq, beq_eq_false_iff_ne, ne_eq]; omega) ?_; try cbv)
                  | (refine s_br hS ?_ ?_ <;> intro h <;> (try cbv) <;> (try simp only [← hS, Int.ofNat_eq_natCast, cq, decide_eq_true_eq, decide_eq_false_iff_not, beq_iff_eq, beq_eq_false_iff_ne, ne_eq] at h) <;> first | (exfalso; omega) | (exact absurd trivial h) | (exact (no_tf h).elim) | (exact (no_ft h).elim) | (exact (no_both h (by with_reducible assumption)).elim) | (exact (no_both (by with_reducible assumption) h).elim) | skip)
                  | (refine s_add hS ?_ (by simp only [lo]; omega) (by simp only [hi]; omega); intro _ _; try cbv)
                  | (refine s_sub hS ?_ (by simp only [lo]; omega) (by simp only [hi]; omega); intro _ _; try cbv)
                  | (refine s_cvi hS ?_ (by simp only [lo]; omega) (by simp only [hi]; omega); try cbv)
                  | (refine s_draw hS rfl I.ord_causeyref07_next_0 (by decide +kernel) ?_; cbv)
                  | (refine And.intro rfl ?_; try cbv))
              exact sub_tp (.cons (sub_i (by simp only [Z.v]; omega)) (.cons (sub_i (by simp only [Z.v]; omega)) .nil))
            · have a7 : at1I b i 7 = none := by rw [at1I_t hok hr1]; exact hd
              cbv
              refine s_loop_one hS ?_
              cbv
              refine rbits_u hS hb hnb hn' hF rfl i 11 rfl rfl (by decide) (by decide) (fun hok r hr1 => ?_) (fun hok r => ?_)
              · cbv
                refine rof_u hS r 11 rfl rfl (fun d hd d0 d1 => ?_) (fun hd d => ?_)
                · have a11 : at1I b i 11 = some d.toNat := by rw [at1I_t hok hr1]; exact hd
                  simp only [a5, a6, a7, a11] at hr
                  have hrc : c = d := by have := congrArg Prod.fst hr; simp only [Int.toNat_of_nonneg d0] at this; exact this.symm
                  have hrm := congrArg Prod.snd hr
                  simp only at hrm
                  clear hr hok hr1 hd
                  cbv
                  repeat' (first
                      | (refine s_eqs hS rfl ?_; try cbv)
                      | (refine s_eqt hS rfl ?_ ?_; (focus (cbv; (repeat' (first | exact trivial | rfl | refine And.intro ?_ ?_ | assumption | omega | (simp only [← hS, Int.ofNat_eq_natCast, cq, decide_eq_true_eq, decide_eq_false_iff_not, beq_iff_eq, beq_eq_false_iff_ne, ne_eq]; done) | (simp only [← hS, Int.ofNat_eq_natCast, cq, decide_eq_true_eq, decide_eq_false_iff_not, beq_iff_eq, beq_eq_false_iff_ne, ne_eq]; first | assumption | omega))); done)); try cbv)
                      | (refine s_eqo hS ?_; try cbv)
                      | (refine s_lk hS ?_; try cbv)
                      | (refine s_mu hS ?_; try cbv)
                      | (refine s_chk hS (by simp only [← hS, Int.ofNat_eq_natCast, cq, decide_eq_true_eq, decide_eq_false_iff_not, beq_iff_eq, beq_eq_false_iff_ne, ne_eq]; omega) ?_; try cbv)
                      | (refine s_br hS ?_ ?_ <;> intro h <;> (try cbv) <;> (try simp only [← hS, Int.ofNat_eq_natCast, cq, decide_eq_true_eq, decide_eq_false_iff_not, beq_iff_eq, beq_eq_false_iff_ne, ne_eq] at h) <;> first | (exfalso; omega) | (exact absurd trivial h) | (exact (no_tf h).elim) | (exact (no_ft h).elim) | (exact (no_both h (by with_reducible assumption)).elim) | (exact (no_both (by with_reducible assumption) h).elim) | skip)
                      | (refine s_add hS ?_ (by simp only [lo]; omega) (by simp only [hi]; omega); intro _ _; try cbv)
                      | (refine s_sub hS ?_ (by simp only [lo]; omega) (by simp only [hi]; omega); intro _ _; try cbv)
                      | (refine s_cvi hS ?_ (by simp only [lo]; omega) (by simp only [hi]; omega); try cbv)
                      | (refine s_draw hS rfl I.ord_causeyref07_next_0 (by decide +kernel) ?_; cbv)
                      | (refine And.intro rfl ?_; try cbv))
                  exact sub_tp (.cons (sub_i (by simp only [Z.v]; omega)) (.cons (sub_i (by simp only [Z.v]; omega)) .nil))
                · have a11 : at1I b i 11 = none := by rw [at1I_t hok hr1]; exact hd
                  cbv
                  refine s_loop_one hS ?_
                  cbv
                  simp only [a5, a6, a7, a11] at hr
                  cases hr
                  exact sub_tp (.cons (sub_i rfl) (.cons (sub_i rfl) .nil))
              · cbv
                have a11 : at1I b i 11 = none := at1I_f (okI_less hok (by omega) (by omega))
                simp only [a5, a6, a7, a11] at hr
                cases hr
                exact sub_tp (.cons (sub_i rfl) (.cons (sub_i rfl) .nil))
          · cbv
            have a7 : at1I b i 7 = none := at1I_f (okI_less hok (by omega) (by omega))
            have a11 : at1I b i 11 = none := at1I_f (okI_less hok (by omega) (by omega))
            simp only [a5, a6, a7, a11] at hr
            cases hr
            exact sub_tp (.cons (sub_i rfl) (.cons (sub_i rfl) .nil))
      · cbv
        have a6 : at1I b i 6 = none := at1I_f (okI_less hok (by omega) (by omega))
        have a7 : at1I b i 7 = none := at1I_f (okI_less hok (by omega) (by omega))
        have a11 : at1I b i 11 = none := at1I_f (okI_less hok (by omega) (by omega))
        simp only [a5, a6, a7, a11] at hr
        cases hr
        exact sub_tp (.cons (sub_i rfl) (.cons (sub_i rfl) .nil))
  · cbv
    have a5 : at1I b i 5 = none := at1I_f (okI_less hok (by omega) (by omega))
    have a6 : at1I b i 6 = none := at1I_f (okI_less hok (by omega) (by omega))
    have a7 : at1I b i 7 = none := at1I_f (okI_less hok (by omega) (by omega))
    have a11 : at1I b i 11 = none := at1I_f (okI_less hok (by omega) (by omega))
    simp only [a5, a6, a7, a11] at hr
    cases hr
    exact sub_tp (.cons (sub_i rfl) (.cons (sub_i rfl) .nil))
end Cz
