/- Text, part O: what is put is taken, in plain Lean. -/
import Derived.Test.YtjnpmipoenijdaaT2
import Derived.Test.YtjnpmipoenijdaaE4
namespace Cz
open Go Go.RowKit Go.Proofs
set_option linter.unusedSimpArgs false
set_option linter.unusedVariables false
set_option maxRecDepth 100000
set_option maxHeartbeats 4000000
theorem get_mid {pre d : List Int} {x a : Int} (h : ilen pre = a) : (pre ++ x :: d)[a.toNat]? = some x := by
  unfold ilen at h
  rw [List.getElem?_append_right (by omega), show a.toNat - pre.length = 0 by omega]; rfl
theorem pgo_sept (d : List Int) : ∀ (f : Nat) (q a n : Int) (g : Nat) (pre : List Int), septOk f q → ilen pre = a → 1 ≤ a → a + f ≤ 6 → 0 ≤ n → n + q * 2 ^ (7 * (a - 1)).toNat < 2147483648 →
    pgo (pre ++ (sept f q ++ d)) (g + f) a n = (n + q * 2 ^ (7 * (a - 1)).toNat, a + ilen (sept f q), 0) := by
  intro f
  induction f with
  | zero => intro q a n g pre h; have := h.1; omega
  | succ f ih =>
    intro q a n g pre hq hp ha haf hn hb
    have h0 := hq.2.1
    have hpos : (0 : Int) < 2 ^ (7 * (a - 1)).toNat := pow_pos' _
    by_cases h1 : q < 128
    · rw [sept_end hq h1]
      have hg : (pre ++ ([q] ++ d))[a.toNat]? = some q := get_mid hp
      have hm : q % 128 = q := Int.emod_eq_of_lt h0 h1
      rw [← Nat.add_assoc, pgo_end hg rfl (by rw [hm]; omega) h1, hm]
      rfl
    · obtain ⟨k1, k2, k3⟩ := sept_step hq h1
      rw [k1]
      have hg : (pre ++ ((q % 128 + 128) :: sept (f + 1 - 1) (q / 128) ++ d))[a.toNat]? = some (q % 128 + 128) := get_mid hp
      have hm : (q % 128 + 128) % 128 = q % 128 := by omega
      have hp7 : (2 : Int) ^ (7 * (a + 1 - 1)).toNat = 128 * 2 ^ (7 * (a - 1)).toNat := by
        rw [show (7 * (a + 1 - 1)).toNat = 7 + (7 * (a - 1)).toNat by omega, Int.pow_add]; rfl
      have hsum : n + q % 128 * 2 ^ (7 * (a - 1)).toNat + q / 128 * 2 ^ (7 * (a + 1 - 1)).toNat = n + q * 2 ^ (7 * (a - 1)).toNat := by
        rw [hp7]
        generalize (2 : Int) ^ (7 * (a - 1)).toNat = P
        have e : q = q / 128 * 128 + q % 128 := by omega
        have e2 : q * P = q / 128 * (128 * P) + q % 128 * P := by
          conv => lhs; rw [e]
          rw [Int.add_mul, Int.mul_assoc]
        omega
      have hs0 : 0 ≤ q % 128 * 2 ^ (7 * (a - 1)).toNat := Int.mul_nonneg (by omega) (by omega)
      have hs1 : 0 ≤ q / 128 * 2 ^ (7 * (a + 1 - 1)).toNat := Int.mul_nonneg (by omega) (Int.le_of_lt (pow_pos' _))
      rw [← Nat.add_assoc, pgo_more hg rfl (by rw [hm]; omega) (by omega), hm]
      have := ih (q / 128) (a + 1) (n + q % 128 * 2 ^ (7 * (a - 1)).toNat) g (pre ++ [q % 128 + 128]) (by simpa using k2) (by unfold ilen at *; simp; omega) (by omega) (by omega) (by omega) (by omega)
      rw [List.append_assoc] at this
      simp only [List.cons_append, List.nil_append, Nat.add_sub_cancel] at this ⊢
      rw [this, hsum]
      unfold ilen
      simp only [List.length_cons, Prod.mk.injEq, true_and, and_true]; omega
/-- A number that is put is taken. -/
theorem pre_put {n p up : Int} (d : List Int) (hn0 : 0 ≤ n) (hn1 : n < 2147483648) (hp0 : 2 ≤ p) (hp1 : p ≤ 256) : preI (putI n p up ++ d) p = (n, ilen (putI n p up), 0) := by
  have hf : (up - up % p) % p = 0 := by
    rw [Int.sub_emod, Int.emod_emod_of_dvd _ (Int.dvd_refl p), Int.sub_self]; rfl
  have hw : ∀ w, 0 ≤ w → w < p → (up - up % p + w) % p = w := by
    intro w h0 h1
    rw [Int.add_emod, hf, Int.zero_add, Int.emod_emod_of_dvd _ (Int.dvd_refl p), Int.emod_eq_of_lt h0 h1]
  unfold putI
  split
  · rename_i h
    unfold preI
    simp only [List.cons_append, List.nil_append]
    rw [hw n hn0 (by omega), if_pos h]; rfl
  · rename_i h
    unfold preI
    simp only [List.cons_append]
    rw [hw (p - 1) (by omega) (by omega), if_neg (by omega)]
    have := pgo_sept d 5 (n - (p - 1)) 1 (p - 1) 1 [up - up % p + (p - 1)] ⟨by decide, by omega, by show n - (p - 1) < 34359738368; omega⟩ rfl (by omega) (by omega) (by omega) (by
      show p - 1 + (n - (p - 1)) * 1 < 2147483648; omega)
    have e : (6 : Nat) = 1 + 5 := rfl
    rw [e]
    have e2 : (up - up % p + (p - 1)) :: (sept 5 (n - (p - 1)) ++ d) = [up - up % p + (p - 1)] ++ (sept 5 (n - (p - 1)) ++ d) := rfl
    rw [e2, this]
    have e3 : (2 : Int) ^ (7 * ((1 : Int) - 1)).toNat = 1 := rfl
    rw [e3]
    unfold ilen
    simp only [List.length_cons, Prod.mk.injEq, and_true]
    constructor <;> omega
theorem pre_put3 {n p up : Int} (d : List Int) (hn0 : 0 ≤ n) (hn1 : n < 2147483648) (hp0 : 2 ≤ p) (hp1 : p ≤ 256) : preN (putI n p up ++ d) p = n ∧ preE (putI n p up ++ d) p = 0 ∧ preR (putI n p up ++ d) p = d := by
  have h := pre_put (up := up) d hn0 hn1 hp0 hp1
  have h2 : preE (putI n p up ++ d) p = 0 := by unfold preE; rw [h]
  refine ⟨by unfold preN; rw [h], h2, ?_⟩
  unfold preR
  rw [if_pos h2, h]
  simp only
  unfold ilen
  rw [Int.toNat_natCast, List.drop_left]
theorem putI_hd {n p up : Int} (d : List Int) (hn0 : 0 ≤ n) (hp0 : 2 ≤ p) : ∃ w, 0 ≤ w ∧ w < p ∧ (putI n p up ++ d).getD 0 0 = up - up % p + w := by
  unfold putI
  split
  · exact ⟨n, hn0, by omega, rfl⟩
  · exact ⟨p - 1, by omega, by omega, rfl⟩
/-- A text that is put is taken, whatever stands behind it. -/
theorem take_plain {b : List Int} (d : List Int) (hn : ilen b ≤ 1000000) : tTake (plainT b ++ d) = (b, d, 0) := by
  obtain ⟨h1, h2, h3⟩ := pre_put3 (n := ilen b) (p := 128) (up := 0) (b ++ d) (ilen_nn b) (by omega) (by decide) (by decide)
  obtain ⟨w, h4, h5, h6⟩ := putI_hd (n := ilen b) (p := 128) (up := 0) (b ++ d) (ilen_nn b) (by decide)
  unfold plainT tTake
  rw [List.append_assoc, h1, h2, h3, h6]
  have h0 := ilen_nn d
  rw [if_neg (by simp), if_neg (by rw [ilen_app]; omega), if_pos (by omega)]
  unfold part ilen
  simp
theorem take_pack {b : List Int} (hb : Hu.BOk b) (d : List Int) (hn : ilen b ≤ 1000000) : tTake (packT b ++ d) = (b, d, 0) := by
  have hl := put_ib b
  have hln := ilen_nn (Hu.put b)
  obtain ⟨h1, h2, h3⟩ := pre_put3 (n := ilen (Hu.put b)) (p := 128) (up := 128) (Hu.put b ++ d) hln (by omega) (by decide) (by decide)
  obtain ⟨w, h4, h5, h6⟩ := putI_hd (n := ilen (Hu.put b)) (p := 128) (up := 128) (Hu.put b ++ d) hln (by decide)
  have ht := Hu.take_put b hb
  unfold packT tTake
  rw [List.append_assoc, h1, h2, h3, h6]
  have h0 := ilen_nn d
  have hp : part (Hu.put b ++ d) 0 (ilen (Hu.put b)) = Hu.put b := by unfold part ilen; simp
  rw [if_neg (by simp), if_neg (by rw [ilen_app]; omega), if_neg (by omega), hp]
  have e1 : takeE (Hu.put b) = 0 := by unfold takeE; rw [ht]; rfl
  have e2 : takeL (Hu.put b) = b := by unfold takeL; rw [ht]; rfl
  rw [if_pos e1, e2]
  unfold ilen; simp
/-- With its last byte left out it is too short. -/
theorem take_cut {y : List Int} {up : Int} (hn : ilen y < 2147483648) : tTake (putI (ilen y) 128 up ++ y).dropLast = ([], [], 10) := by
  cases y with
  | nil =>
    have : putI (ilen ([] : List Int)) 128 up = [up - up % 128 + 0] := by unfold putI; rfl
    rw [this]; rfl
  | cons v y =>
    rw [List.dropLast_append_of_ne_nil (by simp)]
    have hdl : ilen (v :: y).dropLast < ilen (v :: y) := by unfold ilen; simp; omega
    generalize hd : (v :: y).dropLast = d at hdl
    generalize hN : ilen (v :: y) = N at *
    have h0 : 0 ≤ N := by rw [← hN]; exact ilen_nn _
    obtain ⟨h1, h2, h3⟩ := pre_put3 (n := N) (p := 128) (up := up) d h0 hn (by decide) (by decide)
    unfold tTake
    rw [h1, h2, h3, if_neg (by simp), if_pos hdl]
theorem plain_cut {b : List Int} (hn : ilen b ≤ 1000000) : tTake (plainT b).dropLast = ([], [], 10) := take_cut (by omega)
theorem pack_cut {b : List Int} (hn : ilen b ≤ 1000000) : tTake (packT b).dropLast = ([], [], 10) := take_cut (by have := put_ib b; omega)
theorem take_best {b : List Int} (hb : Hu.BOk b) (d : List Int) (hn : ilen b ≤ 1000000) : tTake (bestT b ++ d) = (b, d, 0) := by
  unfold bestT; split
  · exact take_pack hb d hn
  · exact take_plain d hn
theorem best_cut {b : List Int} (hn : ilen b ≤ 1000000) : tTake (bestT b).dropLast = ([], [], 10) := by
  unfold bestT; split
  · exact pack_cut hn
  · exact plain_cut hn
theorem sept_mono : ∀ (f : Nat) (q r : Int), 0 ≤ q → q ≤ r → ilen (sept f q) ≤ ilen (sept f r)
  | 0, q, r, _, _ => by simp [sept, ilen]
  | f + 1, q, r, h0, h1 => by
    have ih := sept_mono f (q / 128) (r / 128) (by omega) (by omega)
    rw [sept, sept]
    unfold ilen at *
    split <;> split <;> simp only [List.length_cons, List.length_nil] <;> omega
theorem putI_mono {n m p u v : Int} (h0 : 0 ≤ n) (h : n ≤ m) : ilen (putI n p u) ≤ ilen (putI m p v) := by
  unfold putI
  split <;> split
  · exact Int.le_refl _
  · unfold ilen; simp; omega
  · omega
  · have := sept_mono 5 (n - (p - 1)) (m - (p - 1)) (by omega) (by omega)
    unfold ilen at *; simp only [List.length_cons]; omega
theorem put_il2 (b : List Int) : ilen (Hu.put b) = (bitsI b (ilen b) + 7) / 8 := by
  have h1 : bitsI b (ilen b) = Hu.nbits b := by unfold bitsI; rw [take_all (by omega)]
  rw [h1]
  have := Hu.put_len b
  unfold ilen; omega
theorem short_put2 (b : List Int) : shortB b = decide (ilen (Hu.put b) < ilen b) := by unfold shortB; rw [put_il2]
/-- The best bytes are no more than others. -/
theorem best_le (b : List Int) : ilen (bestT b) ≤ ilen (plainT b) ∧ ilen (bestT b) ≤ ilen (packT b) := by
  unfold bestT
  rw [short_put2]
  have h1 := ilen_nn (Hu.put b)
  have h2 := ilen_nn b
  by_cases h : ilen (Hu.put b) < ilen b
  · rw [decide_eq_true h, if_pos rfl]
    refine ⟨?_, Int.le_refl _⟩
    unfold packT plainT
    have := putI_mono (p := 128) (u := 128) (v := 0) h1 (Int.le_of_lt h)
    rw [ilen_app, ilen_app]; omega
  · rw [decide_eq_false h, if_neg (by simp)]
    refine ⟨Int.le_refl _, ?_⟩
    unfold packT plainT
    have := putI_mono (p := 128) (u := 0) (v := 128) h2 (by omega : ilen b ≤ ilen (Hu.put b))
    rw [ilen_app, ilen_app]; omega
end Cz
/- Text, part L: what is put is taken, in either way. -/
namespace Cz
open Go Go.RowKit Go.Proofs
set_option linter.unusedSimpArgs false
set_option linter.unusedVariables false
set_option maxRecDepth 100000
set_option maxHeartbeats 4000000
theorem bok_app {a b : List Int} (ha : Hu.BOk a) (hb : Hu.BOk b) : Hu.BOk (a ++ b) := fun v hv => (List.mem_append.1 hv).elim (ha v) (hb v)
theorem len_plainT {b : List Int} (h : ilen b ≤ 3000) : 1 ≤ ilen (plainT b) ∧ ilen (plainT b) ≤ 10000 := by
  have := putI_len (ilen b) 128 0
  have := ilen_nn b
  unfold plainT; rw [ilen_app]; omega
theorem len_packT {b : List Int} (h : ilen b ≤ 3000) : 1 ≤ ilen (packT b) ∧ ilen (packT b) ≤ 10000 := by
  have := putI_len (ilen (Hu.put b)) 128 128
  have := ilen_nn (Hu.put b)
  have := put_ib b
  unfold packT; rw [ilen_app]; omega
theorem len_bestT {b : List Int} (h : ilen b ≤ 3000) : 1 ≤ ilen (bestT b) ∧ ilen (bestT b) ≤ 10000 := by
  unfold bestT; split
  · exact len_packT h
  · exact len_plainT h
theorem part_last {L : List Int} {c : Int} (hc : c = ilen L - 1) : part L 0 c = L.dropLast := by
  unfold part ilen at *
  rw [List.dropLast_eq_take, Int.toNat_zero, List.drop_zero, show c.toNat = L.length - 1 by omega]
/-- A text taken out of a part of a row. -/
theorem ttake_cut {S : Sy} (hS : S0 Try.prog = S) {R T : List Int} {F : List SV} {k : Nat} {ro lit : Bool} {st zn : Z} {l : List Blk} {K : SV → List Blk → Prop} {n : Int} (hR : Hu.BOk R) (hn : ilen R ≤ 1000000) (hrow : lget l k = .r ro lit st 1 F) (hs : FSub F (cellsB R))
    (hz : zn.v = n) (h0 : 0 ≤ n) (h1 : n ≤ ilen R) (hT : part R 0 n = T) (t Q : List Int) (e : Int) (x : List UInt8) (ht : tTake T = (t, Q, e)) (hx : strB t = x)
    (hK : ∀ F2 n2 st, cellsB Q = F2 → n2 = ilen Q → K (.tp [.s x, .sl (len l) 1 (.l 0) (.y n2) none, .i .i64 (.y e)]) (snoc l (.r false false (.y st) 1 F2))) : S.call 29 [.sl k 1 (.l 0) zn none] l K := by
  have hTl : ilen T = n := by rw [← hT]; exact part_len (by decide) h0 (by omega)
  have hTok : Hu.BOk T := hT ▸ bok_part hR
  have e1 : strB (tS T) = x := by unfold tS; rw [ht]; exact hx
  have e2 : tR T = Q := by unfold tR; rw [ht]
  have e3 : tE T = e := by unfold tE; rw [ht]
  have hf := ttake_f hTok (by omega)
  rw [e1, e2, e3] at hf
  refine use_cutP hS (o := 0) (m := T.length) (F1 := cellsB R) hf hrow hs (cellsB_plain R) rfl (by rw [hz]; exact hTl.symm) ?_ ?_ (by omega) (cellsB_plain _) rfl rfl (cellsB_n _) fun st => hK _ _ st rfl rfl
  · rw [cells_part, ← hT]
    unfold part at *
    congr 1
    simp only [Int.toNat_zero, List.drop_zero] at *
    rw [← hT] at hTl
    unfold ilen at hTl h1
    rw [List.length_take] at hTl ⊢
    rw [List.take_eq_take_iff]
    omega
  · have := cellsB_len R
    unfold ilen at *
    omega
theorem tback_law (x : List UInt8) (d : List Int) (hd : ∀ v ∈ d, 0 ≤ v ∧ v < 256) :
    (S0 Try.prog).call 9 [.s x, .sl 0 1 (.l 0) (.y (ilen d)) none] [.r true false (.l 0) 1 (cellsB d)] (fun x _ => Sub x .tt) := by
  obtain ⟨n, hn'⟩ : ∃ n, n = ilen d := ⟨_, rfl⟩
  have h0n := ilen_nn d
  rw [← hn'] at h0n ⊢
  have hpl := cellsB_plain d
  generalize hF : cellsB d = F at hpl ⊢
  have hfs : FSub F (cellsB d) := by rw [hF]; exact .rfl
  have hp := plainT_ok (byS_ok x)
  have hq := packT_ok (byS x)
  have hr := bestT_ok (byS_ok x)
  generalize hS : S0 Try.prog = S
  refine call_in' hS I.fn_causeylaw08_TextBack ?_
  cbv
  refine s_sbrr hS ?_ ?_ <;> intro h <;> cbv
  · refine wakes8_u hS ?_
    cbv
    exact .rfl
  · refine s_sbrr hS ?_ ?_ <;> intro h <;> cbv
    · refine wakes8_u hS ?_
      cbv
      exact .rfl
    · refine tplain_u hS (by omega) fun F1 n1 st1 hF1 hn1 => ?_
      cbv
      refine tbits_u hS (by omega) fun F2 n2 st2 hF2 hn2 => ?_
      cbv
      refine tbest_u hS (by omega) fun F3 n3 st3 hF3 hn3 => ?_
      cbv
      have hbx := byS_ok x
      have hxb := byS_len x
      have hxn : ilen (byS x) ≤ 1000000 := by omega
      have eF : S.sub F 0 n 1 = cellsB d := (sub_all hS hF hn').trans hF.symm
      refine s_loop_one hS ?_
      cbv
      have hn11 : 1 ≤ n1 ∧ n1 ≤ 10000 := by rw [hn1]; exact len_plainT (b := byS x) (by omega)
      have e1 : S.sub F1 0 n1 1 = F1 := sub_all hS hF1 hn1
      have a1 : S.app [] (S.sub F1 0 n1 1) = cellsB (plainT (byS x)) := by rw [e1, ← hF1]; subst hS; rfl
      have hfl1 : ilen (S.app [] (S.sub F1 0 n1 1)) = n1 * 1 := by rw [a1, cellsB_len, hn1]; omega
      have b1 : S.app (S.app [] (S.sub F1 0 n1 1)) (S.sub F 0 n 1) = cellsB (plainT (byS x) ++ d) := app_cells hS a1 eF
      have fs1 : FSub (S.app (S.app [] (S.sub F1 0 n1 1)) (S.sub F 0 n 1)) (cellsB (plainT (byS x) ++ d)) := by rw [b1]; exact .rfl
      have z1 : S.pl n1 n = ilen (plainT (byS x) ++ d) := by rw [ilen_app, ← hn1, ← hn']; subst hS; rfl
      repeat' (first
        | (refine s_st hS ?_; try cbv)
        | (refine s_sbr hS ?_ ?_ <;> intro h <;> (try cbv) <;> try exact s_ab h)
        | (refine s_sta hS ?_; intro _ _; try cbv)
        | (refine s_stc hS ?_; try cbv)
        | (refine s_flen hS (G := []) (by rfl) ?_; cbv)
        | (refine s_flen hS hfl1 ?_; cbv)
        | (refine s_stk hS ?_; try cbv))
      refine ttake_k hS (b := plainT (byS x) ++ d) (byS x) d 0 x (take_plain d hxn) (strB_byS x) (bok_app hp hd) (by rw [← z1]; simp only [← hS, Int.ofNat_eq_natCast, cr, Bool.not_eq_true', Bool.not_eq_false', decide_eq_true_eq, decide_eq_false_iff_not, beq_iff_eq, beq_eq_false_iff_ne, ne_eq]; omega) rfl fs1 z1 fun G1 m1 s1 hG1 hm1 => ?_
      cbv
      refine s_draw hS rfl I.ord_causeylaw08_TextBack_0 (by decide +kernel) ?_
      cbv
      repeat' (first
        | (refine s_st hS ?_; try cbv)
        | (refine s_sbr hS ?_ ?_ <;> intro h <;> (try cbv) <;> try exact s_ab h)
        | (refine s_sta hS ?_; intro _ _; try cbv)
        | (refine s_stc hS ?_; try cbv)
        | (refine And.intro rfl ?_; try cbv))
      rename_i c1 hc1
      refine ttake_cut hS (R := plainT (byS x)) (T := (plainT (byS x)).dropLast) (n := c1) hp (by omega) rfl (by rw [hF1]; exact .rfl) rfl (by omega) (by omega) (part_last (by omega)) [] [] 10 [] (plain_cut hxn) rfl fun H1 p1 t1 hH1 hp1 => ?_
      cbv
      repeat' (first
        | (refine s_st hS ?_; try cbv)
        | (refine s_sbr hS ?_ ?_ <;> intro h <;> (try cbv) <;> try exact s_ab h)
        | (refine s_sta hS ?_; intro _ _; try cbv)
        | (refine s_stc hS ?_; try cbv)
        | (refine And.intro rfl ?_; try cbv))
      refine same8_u hS hd rfl rfl (hG1 ▸ .rfl) hm1 rfl hfs hn' ?_
      cbv
      repeat' (first
        | (refine s_st hS ?_; try cbv)
        | (refine s_sbr hS ?_ ?_ <;> intro h <;> (try cbv) <;> try exact s_ab h)
        | (refine s_sta hS ?_; intro _ _; try cbv)
        | (refine s_stc hS ?_; try cbv))
      refine s_loop_one hS ?_
      cbv
      have hn12 : 1 ≤ n2 ∧ n2 ≤ 10000 := by rw [hn2]; exact len_packT (b := byS x) (by omega)
      have e2 : S.sub F2 0 n2 1 = F2 := sub_all hS hF2 hn2
      have a2 : S.app [] (S.sub F2 0 n2 1) = cellsB (packT (byS x)) := by rw [e2, ← hF2]; subst hS; rfl
      have hfl2 : ilen (S.app [] (S.sub F2 0 n2 1)) = n2 * 1 := by rw [a2, cellsB_len, hn2]; omega
      have b2 : S.app (S.app [] (S.sub F2 0 n2 1)) (S.sub F 0 n 1) = cellsB (packT (byS x) ++ d) := app_cells hS a2 eF
      have fs2 : FSub (S.app (S.app [] (S.sub F2 0 n2 1)) (S.sub F 0 n 1)) (cellsB (packT (byS x) ++ d)) := by rw [b2]; exact .rfl
      have z2 : S.pl n2 n = ilen (packT (byS x) ++ d) := by rw [ilen_app, ← hn2, ← hn']; subst hS; rfl
      repeat' (first
        | (refine s_st hS ?_; try cbv)
        | (refine s_sbr hS ?_ ?_ <;> intro h <;> (try cbv) <;> try exact s_ab h)
        | (refine s_sta hS ?_; intro _ _; try cbv)
        | (refine s_stc hS ?_; try cbv)
        | (refine s_flen hS (G := []) (by rfl) ?_; cbv)
        | (refine s_flen hS hfl2 ?_; cbv)
        | (refine s_stk hS ?_; try cbv))
      refine ttake_k hS (b := packT (byS x) ++ d) (byS x) d 0 x (take_pack hbx d hxn) (strB_byS x) (bok_app hq hd) (by rw [← z2]; simp only [← hS, Int.ofNat_eq_natCast, cr, Bool.not_eq_true', Bool.not_eq_false', decide_eq_true_eq, decide_eq_false_iff_not, beq_iff_eq, beq_eq_false_iff_ne, ne_eq]; omega) rfl fs2 z2 fun G2 m2 s2 hG2 hm2 => ?_
      cbv
      refine s_draw hS rfl I.ord_causeylaw08_TextBack_0 (by decide +kernel) ?_
      cbv
      repeat' (first
        | (refine s_st hS ?_; try cbv)
        | (refine s_sbr hS ?_ ?_ <;> intro h <;> (try cbv) <;> try exact s_ab h)
        | (refine s_sta hS ?_; intro _ _; try cbv)
        | (refine s_stc hS ?_; try cbv)
        | (refine And.intro rfl ?_; try cbv))
      rename_i c2 hc2
      refine ttake_cut hS (R := packT (byS x)) (T := (packT (byS x)).dropLast) (n := c2) hq (by omega) rfl (by rw [hF2]; exact .rfl) rfl (by omega) (by omega) (part_last (by omega)) [] [] 10 [] (pack_cut hxn) rfl fun H2 p2 t2 hH2 hp2 => ?_
      cbv
      repeat' (first
        | (refine s_st hS ?_; try cbv)
        | (refine s_sbr hS ?_ ?_ <;> intro h <;> (try cbv) <;> try exact s_ab h)
        | (refine s_sta hS ?_; intro _ _; try cbv)
        | (refine s_stc hS ?_; try cbv)
        | (refine And.intro rfl ?_; try cbv))
      refine same8_u hS hd rfl rfl (hG2 ▸ .rfl) hm2 rfl hfs hn' ?_
      cbv
      repeat' (first
        | (refine s_st hS ?_; try cbv)
        | (refine s_sbr hS ?_ ?_ <;> intro h <;> (try cbv) <;> try exact s_ab h)
        | (refine s_sta hS ?_; intro _ _; try cbv)
        | (refine s_stc hS ?_; try cbv))
      refine s_loop_one hS ?_
      cbv
      have hn13 : 1 ≤ n3 ∧ n3 ≤ 10000 := by rw [hn3]; exact len_bestT (b := byS x) (by omega)
      have e3 : S.sub F3 0 n3 1 = F3 := sub_all hS hF3 hn3
      have a3 : S.app [] (S.sub F3 0 n3 1) = cellsB (bestT (byS x)) := by rw [e3, ← hF3]; subst hS; rfl
      have hfl3 : ilen (S.app [] (S.sub F3 0 n3 1)) = n3 * 1 := by rw [a3, cellsB_len, hn3]; omega
      have b3 : S.app (S.app [] (S.sub F3 0 n3 1)) (S.sub F 0 n 1) = cellsB (bestT (byS x) ++ d) := app_cells hS a3 eF
      have fs3 : FSub (S.app (S.app [] (S.sub F3 0 n3 1)) (S.sub F 0 n 1)) (cellsB (bestT (byS x) ++ d)) := by rw [b3]; exact .rfl
      have z3 : S.pl n3 n = ilen (bestT (byS x) ++ d) := by rw [ilen_app, ← hn3, ← hn']; subst hS; rfl
      repeat' (first
        | (refine s_st hS ?_; try cbv)
        | (refine s_sbr hS ?_ ?_ <;> intro h <;> (try cbv) <;> try exact s_ab h)
        | (refine s_sta hS ?_; intro _ _; try cbv)
        | (refine s_stc hS ?_; try cbv)
        | (refine s_flen hS (G := []) (by rfl) ?_; cbv)
        | (refine s_flen hS hfl3 ?_; cbv)
        | (refine s_stk hS ?_; try cbv))
      refine ttake_k hS (b := bestT (byS x) ++ d) (byS x) d 0 x (take_best hbx d hxn) (strB_byS x) (bok_app hr hd) (by rw [← z3]; simp only [← hS, Int.ofNat_eq_natCast, cr, Bool.not_eq_true', Bool.not_eq_false', decide_eq_true_eq, decide_eq_false_iff_not, beq_iff_eq, beq_eq_false_iff_ne, ne_eq]; omega) rfl fs3 z3 fun G3 m3 s3 hG3 hm3 => ?_
      cbv
      refine s_draw hS rfl I.ord_causeylaw08_TextBack_0 (by decide +kernel) ?_
      cbv
      repeat' (first
        | (refine s_st hS ?_; try cbv)
        | (refine s_sbr hS ?_ ?_ <;> intro h <;> (try cbv) <;> try exact s_ab h)
        | (refine s_sta hS ?_; intro _ _; try cbv)
        | (refine s_stc hS ?_; try cbv)
        | (refine And.intro rfl ?_; try cbv))
      rename_i c3 hc3
      refine ttake_cut hS (R := bestT (byS x)) (T := (bestT (byS x)).dropLast) (n := c3) hr (by omega) rfl (by rw [hF3]; exact .rfl) rfl (by omega) (by omega) (part_last (by omega)) [] [] 10 [] (best_cut hxn) rfl fun H3 p3 t3 hH3 hp3 => ?_
      cbv
      repeat' (first
        | (refine s_st hS ?_; try cbv)
        | (refine s_sbr hS ?_ ?_ <;> intro h <;> (try cbv) <;> try exact s_ab h)
        | (refine s_sta hS ?_; intro _ _; try cbv)
        | (refine s_stc hS ?_; try cbv)
        | (refine And.intro rfl ?_; try cbv))
      refine same8_u hS hd rfl rfl (hG3 ▸ .rfl) hm3 rfl hfs hn' ?_
      cbv
      repeat' (first
        | (refine s_st hS ?_; try cbv)
        | (refine s_sbr hS ?_ ?_ <;> intro h <;> (try cbv) <;> try exact s_ab h)
        | (refine s_sta hS ?_; intro _ _; try cbv)
        | (refine s_stc hS ?_; try cbv))
      refine s_loop_one hS ?_
      cbv
      have hbl := best_le (byS x)
      rw [← hn1, ← hn2, ← hn3] at hbl
      repeat' (first
        | (refine s_st hS ?_; try cbv)
        | (refine s_sbr hS ?_ ?_ <;> intro h <;> (try cbv) <;> try exact s_ab h)
        | (refine s_sta hS ?_; intro _ _; try cbv)
        | (refine s_stc hS ?_; try cbv))
      refine s_draw hS rfl I.ord_causeylaw08_TextBack_1 (by decide +kernel) ?_
      cbv
      repeat' (first
        | (refine s_st hS ?_; try cbv)
        | (refine s_sbr hS ?_ ?_ <;> intro h <;> (try cbv) <;> try exact s_ab h)
        | (refine s_sta hS ?_; intro _ _; try cbv)
        | (refine s_stc hS ?_; try cbv)
        | (refine And.intro rfl ?_; try cbv)
        | (refine tsize_u hS (by omega) fun m hm => ?_; cbv)
        | (refine wakes8_u hS ?_; cbv))
      all_goals exact .rfl
end Cz
