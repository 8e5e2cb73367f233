/- Huff, part O: bits laid behind bits. -/
import Derived.Test.YtjnpmipoenijdaaH3
namespace Cz
open Go Go.RowKit Go.Proofs
set_option linter.unusedSimpArgs false
set_option linter.unusedVariables false
set_option maxRecDepth 100000
set_option maxHeartbeats 4000000
def lenB (E : List Bool) : Int := E.length
theorem lenB_nn (E : List Bool) : 0 ≤ lenB E := by unfold lenB; omega
theorem lenB_lay (E : List Bool) : ilen (layB E) = (lenB E + 7) / 8 := by rw [layB_len]; unfold lenB; omega
theorem zero_sub : ∀ n, SubL (repS n [.i .u8 (.l 0)]) (cellsB (List.replicate n 0))
  | 0 => .nil
  | n + 1 => .cons (sub_i rfl) (zero_sub n)
theorem zero_plain : ∀ n, plains (repS n [.i .u8 (.l 0)]) = true
  | 0 => rfl
  | n + 1 => by simpa [repS, catS, plains, plainV] using zero_plain n
theorem cellsB_set {L : List Int} {q : Nat} {x : Int} : repl (cellsB L) (q * 1 + 0) [.i .u8 (.y x)] = cellsB (L.set q x) := by
  rw [cellsB_map, cellsB_map, List.map_set, Nat.mul_one, Nat.add_zero]
  simp only [repl, put_eq]
def eI (E : List Bool) (i : Int) : Int := (E.getD i.toNat false).toNat
theorem eI_bd (E : List Bool) (i : Int) : 0 ≤ eI E i ∧ eI E i ≤ 1 := by
  unfold eI
  cases E.getD i.toNat false <;> decide
/-- One round of laying. -/
theorem lay_step {E : List Bool} {N : Nat} {j q sh p u : Int} {L : List Int} (h0 : 0 ≤ j) (h1 : j < lenB E) (hN : lenB E ≤ 8 * N) (hL : L = layN N (E.take j.toNat)) (hq : q = j / 8) (hsh : sh = 7 - j % 8) (hp : 2 ^ sh.toNat = p) (hu : eI E j = u) :
    ∃ v, L[q.toNat]? = some v ∧ 0 ≤ v ∧ v < 256 ∧ 0 ≤ u * p ∧ v + u * p < 256 ∧ ∀ x, x = v + u * p → layN N (E.take (j + 1).toNat) = L.set q.toNat x := by
  have hlen : (E.take j.toNat).length = j.toNat := by unfold lenB at h1; rw [List.length_take]; omega
  have hlt : j.toNat < E.length := by unfold lenB at h1; omega
  obtain ⟨v, h2, h3, h4, h5⟩ := layN_set (N := N) (E := E.take j.toNat) (b := E.getD j.toNat false) hlen (by unfold lenB at *; omega)
  have e1 : (7 - j.toNat % 8) = sh.toNat := by omega
  rw [e1, hp] at h4 h5
  have hu' : ((E.getD j.toNat false).toNat : Int) = u := hu
  rw [hu'] at h4 h5
  have hp0 : 0 < p := by rw [← hp]; exact pow_pos' _
  have hub := eI_bd E j
  rw [hu] at hub
  have hup : 0 ≤ u * p := Int.mul_nonneg hub.1 (by omega)
  have e2 : j.toNat / 8 = q.toNat := by omega
  rw [e2] at h2 h5
  refine ⟨v, by rw [hL]; exact h2, h3, by omega, hup, h4, fun x hx => ?_⟩
  rw [hx, hL, ← h5, show (j + 1).toNat = j.toNat + 1 by omega, List.take_add_one, List.getD_eq_getElem?_getD, List.getElem?_eq_getElem hlt]
  rfl
theorem eI_left {E D : List Bool} {i : Int} (h0 : 0 ≤ i) (h : i < lenB E) : bitI (layB E) i = eI (E ++ D) i := by
  unfold lenB at h
  rw [layB_bit h0 h]
  unfold eI
  rw [List.getD_eq_getElem?_getD, List.getD_eq_getElem?_getD, List.getElem?_append_left (by omega)]
theorem eI_right {E : List Bool} {i m c : Int} (h : lenB E ≤ i) (h2 : i < lenB E + m) (hc : 0 ≤ c) : c / 2 ^ (lenB E + m - 1 - i).toNat % 2 = eI (E ++ Hu.bitsN m.toNat c.toNat) i := by
  have := code_bit (m := m) (c := c) (i := i - lenB E) (by omega) (by omega) hc
  unfold eI
  unfold lenB at *
  rw [List.getD_eq_getElem?_getD, List.getElem?_append_right (by omega), ← List.getD_eq_getElem?_getD, show i.toNat - E.length = (i - (E.length : Int)).toNat by omega, ← this]
  rw [show (m - 1 - (i - (E.length : Int))).toNat = ((E.length : Int) + m - 1 - i).toNat by omega]
theorem Lay_f {E : List Bool} {c m : Int} (hE : lenB E ≤ 100000) (hm0 : 0 ≤ m) (hm : m ≤ 30) (hc0 : 0 ≤ c) (hc : c < 2 ^ m.toNat) :
    (S0 Try.prog).call 47 [.sl 0 1 (.l 0) (.y (ilen (layB E))) none, .i .i64 (.y (lenB E)), .i .i64 (.y c), .i .i64 (.y m)] [.r true true (.l 0) 1 (cellsB (layB E))]
      (OwnR 1 1 (cellsB (layB (E ++ Hu.bitsN m.toNat c.toNat))) true [.i .i64 (.y (lenB E + m)), .i .i64 (.y 0)]) := by
  have hbe : Hu.BOk (layB E) := layN_ok _ _
  have hpl := cellsB_plain (layB E)
  have hlen := lenB_lay E
  obtain ⟨n, hn'⟩ : ∃ n, n = ilen (layB E) := ⟨_, rfl⟩
  obtain ⟨e, he⟩ : ∃ e, e = lenB E := ⟨_, rfl⟩
  have he0 := lenB_nn E
  obtain ⟨E2, hE2⟩ : ∃ E2, E2 = E ++ Hu.bitsN m.toNat c.toNat := ⟨_, rfl⟩
  have hl2 : lenB E2 = e + m := by rw [he, hE2]; unfold lenB; rw [List.length_append, Hu.bitsN_len]; omega
  have hnb : ilen (layB E) ≤ 1000000 := by omega
  have hbit1 : ∀ i, 0 ≤ i → i < e → bitI (layB E) i = eI E2 i := fun i h0 h1 => by rw [hE2]; exact eI_left h0 (by omega)
  have hbit2 : ∀ i, e ≤ i → i < e + m → c / 2 ^ (e + m - 1 - i).toNat % 2 = eI E2 i := fun i h0 h1 => by rw [hE2, he]; exact eI_right (by omega) (by omega) hc0
  rw [← hE2]
  rw [← hn'] at hlen ⊢
  rw [← he] at hlen hE he0 ⊢
  obtain ⟨p, hp⟩ : ∃ p : Int, 2 ^ m.toNat = p := ⟨_, rfl⟩
  rw [hp] at hc
  have hp0 : 0 < p := by rw [← hp]; exact pow_pos' _
  have hp1 : p ≤ 1073741824 := by have := pow_le (m := m.toNat) (n := 30) (by omega); rw [hp] at this; omega
  obtain ⟨e2, he2⟩ : ∃ e2, e2 = e + m := ⟨_, rfl⟩
  rw [← he2] at hl2 ⊢
  obtain ⟨N, hN⟩ : ∃ N, N = ((e2 + 7) / 8).toNat := ⟨_, rfl⟩
  have hlay : layB E2 = layN N E2 := by unfold layB; congr 1; unfold lenB at hl2; omega
  rw [hlay]
  generalize hP : cellsB (layN N E2) = P
  generalize hF : cellsB (layB E) = F at hpl ⊢
  generalize hS : S0 Try.prog = S
  refine call_in' hS I.fn_causeyref01_Lay ?_
  cbv
  repeat' (first
    | (refine s_st hS ?_; try cbv)
    | (refine s_sbr hS ?_ ?_ <;> intro h <;> (try cbv) <;> try exact s_ab h)
    | (refine s_sta hS ?_; intro _ _; try cbv)
    | (refine s_stc hS ?_; try cbv)
    | (refine s_mul hS ?_ (by simp only [lo]; omega) (by simp only [hi]; omega); intro _ _; try cbv)
    | (refine s_shll hS (c := p) (by rw [← hp]; congr 1; simp only [IntKind.bits]; omega) ?_ (by simp only [lo]; omega) (by simp only [hi]; omega); intro _ _; cbv)
    | (refine s_quo hS (by omega) (by omega) (by simp only [hi]; omega) ?_; intro _ _; cbv))
  rename_i f2 hf2 f3 hf3 f4 hf4
  have hf4N : f4.toNat = N := by rw [hN]; congr 1; omega
  refine s_mk hS rfl (by omega) (by omega) (zero_plain _) ?_
  rw [hf4N]
  obtain ⟨G0, hG0⟩ : ∃ G0, G0 = cellsB (layN N (E2.take (0 : Int).toNat)) := ⟨_, rfl⟩
  have hs0 : FSub (repS N [.i .u8 (.l 0)]) G0 := by
    rw [hG0, show E2.take (0 : Int).toNat = [] by simp, layN_zero]; exact (zero_sub N).fsub
  have hp0 : plains G0 = true := by rw [hG0]; exact cellsB_plain _
  generalize repS N [SV.i .u8 (.l 0)] = Z0 at hs0
  cbv
  refine s_loop_up hS 2 I.dead_causeyref01_Lay_0 (fun x : Int × List Int × List SV => 0 ≤ x.1 ∧ x.1 ≤ e2 ∧ x.2.1 = layN N (E2.take x.1.toNat) ∧ x.2.2 = cellsB x.2.1)
    (fun x => [(13, .i .i64 (.y x.1))]) (fun x => [(1, .r false false (.l 0) 1 x.2.2)])
    (fun x => (e2 - x.1).toNat) (0, layN N (E2.take (0 : Int).toNat), G0) rfl ⟨⟨Int.le_refl _, by dsimp only; omega, rfl, hG0⟩, rfl, ?_, ?_, ?_⟩ ?_
  · cbv; all_goals exact s_sA
  · cbv; exact ⟨.rfl, .r hs0 rfl hp0, trivial⟩
  · cbv; exact gc_c (gc_m (plains_refs hpl)) rfl
  · intro x
    obtain ⟨j, L, G⟩ := x
    intro hx
    dsimp only at hx
    cbv
    obtain ⟨g0, g1, g2, g3⟩ := hx
    refine s_sbr hS ?_ ?_ <;> intro h <;> cbv
    · obtain ⟨q, hq⟩ : ∃ q, q = j / 8 := ⟨_, rfl⟩
      obtain ⟨sh, hsh⟩ : ∃ sh, sh = 7 - j % 8 := ⟨_, rfl⟩
      obtain ⟨pw, hpw⟩ : ∃ pw : Int, 2 ^ sh.toNat = pw := ⟨_, rfl⟩
      obtain ⟨u, hu⟩ : ∃ u, eI E2 j = u := ⟨_, rfl⟩
      have hub := eI_bd E2 j
      rw [hu] at hub
      obtain ⟨v, k1, k2, k3, k4, k5, k6⟩ := lay_step (N := N) g0 (by omega) (by omega) g2 hq hsh hpw hu
      have b1 : j < e → bitI (layB E) j = u := fun hj => by rw [hbit1 j g0 hj, hu]
      have b2 : e ≤ j → c / 2 ^ (e + m - 1 - j).toNat % 2 = u := fun hj => by rw [hbit2 j hj (by omega), hu]
      have hgl : q < N := by omega
      have hGl : G.length = N := by rw [g3, cellsB_map, List.length_map, g2]; unfold layN; rw [Hu.packs_len]
      clear hbit1 hbit2 g2
      repeat' (first
        | (refine s_st hS ?_; try cbv)
        | (refine s_sbr hS ?_ ?_ <;> intro h <;> (try cbv) <;> try exact s_ab h)
        | (refine s_sta hS ?_; intro _ _; try cbv)
        | (refine s_stc hS ?_; try cbv))
      · refine Bit_u hS hbe hnb hn' hF rfl j rfl g0 (by omega) fun r hr => ?_
        obtain rfl : r = u := hr.symm.trans (b1 (by assumption))
        cbv
        repeat' (first
          | (refine s_st hS ?_; try cbv)
          | (refine s_sbr hS ?_ ?_ <;> intro h <;> (try cbv) <;> try exact s_ab h)
          | (refine s_sta hS ?_; intro _ _; try cbv)
          | (refine s_stc hS ?_; try cbv)
          | (refine s_quo hS (by omega) (by omega) (by simp only [hi]; omega) ?_; intro _ _; cbv)
          | (refine rowB hS g3.symm k1 (by omega) (by omega) ?_; try cbv)
          | (refine s_rem hS (by omega) ?_; intro _ _; cbv)
          | (refine s_shll hS (c := pw) (by rw [← hpw]; congr 1; simp only [IntKind.bits]; omega) ?_ (by simp only [lo]; omega) (by simp only [hi]; omega); intro _ _; cbv)
          | (refine s_wr' hS (by omega) (by omega) (Nat.le_refl 1) rfl fun F' hF' => ?_; cbv))
        rename_i x hx j2 hj2
        obtain ⟨L2, hL2⟩ : ∃ L2, L2 = L.set q.toNat x := ⟨_, rfl⟩
        obtain ⟨G2, hG2⟩ : ∃ G2, G2 = cellsB L2 := ⟨_, rfl⟩
        have hFG : F' = G2 := by
          rw [← hF', hG2, hL2, ← cellsB_set, g3]
          congr 2
          omega
        refine ⟨(j2, L2, G2), by dsimp only; omega, ⟨by dsimp only; omega, by dsimp only; omega, ?_, hG2⟩, rfl, ?_, ?_, ?_⟩
        · dsimp only; rw [hL2, hj2]; exact (k6 x (by omega)).symm
        · cbv; all_goals exact s_sA
        · cbv; refine ⟨.rfl, ?_, trivial⟩; rw [hFG]; exact .rfl
        · cbv; exact gc_c (gc_m (plains_refs hpl)) rfl
      · refine s_shr hS (by simp only [IntKind.bits]; omega) fun r hr => ?_
        have hr0 : 0 ≤ r := by rw [hr]; exact Int.ediv_nonneg (by omega) (Int.le_of_lt (pow_pos' _))
        cbv
        refine s_rem hS hr0 fun r2 hr2 => ?_
        obtain rfl : r2 = u := by
          rw [← b2 (by omega), hr2, hr]
          congr 3
          omega
        cbv
        repeat' (first
          | (refine s_st hS ?_; try cbv)
          | (refine s_sbr hS ?_ ?_ <;> intro h <;> (try cbv) <;> try exact s_ab h)
          | (refine s_sta hS ?_; intro _ _; try cbv)
          | (refine s_stc hS ?_; try cbv)
          | (refine s_quo hS (by omega) (by omega) (by simp only [hi]; omega) ?_; intro _ _; cbv)
          | (refine rowB hS g3.symm k1 (by omega) (by omega) ?_; try cbv)
          | (refine s_rem hS (by omega) ?_; intro _ _; cbv)
          | (refine s_shll hS (c := pw) (by rw [← hpw]; congr 1; simp only [IntKind.bits]; omega) ?_ (by simp only [lo]; omega) (by simp only [hi]; omega); intro _ _; cbv)
          | (refine s_wr' hS (by omega) (by omega) (Nat.le_refl 1) rfl fun F' hF' => ?_; cbv))
        rename_i x hx j2 hj2
        obtain ⟨L2, hL2⟩ : ∃ L2, L2 = L.set q.toNat x := ⟨_, rfl⟩
        obtain ⟨G2, hG2⟩ : ∃ G2, G2 = cellsB L2 := ⟨_, rfl⟩
        have hFG : F' = G2 := by
          rw [← hF', hG2, hL2, ← cellsB_set, g3]
          congr 2
          omega
        refine ⟨(j2, L2, G2), by dsimp only; omega, ⟨by dsimp only; omega, by dsimp only; omega, ?_, hG2⟩, rfl, ?_, ?_, ?_⟩
        · dsimp only; rw [hL2, hj2]; exact (k6 x (by omega)).symm
        · cbv; all_goals exact s_sA
        · cbv; refine ⟨.rfl, ?_, trivial⟩; rw [hFG]; exact .rfl
        · cbv; exact gc_c (gc_m (plains_refs hpl)) rfl
    · have hPG : P = G := by
        rw [g3, ← hP, g2, List.take_of_length_le]
        unfold lenB at hl2
        omega
      refine ⟨.sl 1 1 (.l 0) (.y f4) none, sub_tp (.cons .rfl (.cons (sub_i (by simp only [Z.v]; omega)) (.cons (sub_i rfl) .nil))), ?_⟩
      rw [hPG]
      exact rowIs_same g3.symm (Nat.le_refl 1) (by rw [g2, layN_len]; simp only [Z.v]; omega) rfl
end Cz
/- Huff, part Q: the document's text in bits. -/
namespace Cz
open Go Go.RowKit Go.Proofs
set_option linter.unusedSimpArgs false
set_option linter.unusedVariables false
set_option maxRecDepth 100000
set_option maxHeartbeats 4000000
theorem lay_u {S : Sy} (hS : S0 Try.prog = S) {E : List Bool} {c m : Int} {k : Nat} {F : List SV} {ro lit : Bool} {st zn zu zc zm : Z} {l : List Blk} {K : SV → List Blk → Prop} (hE : lenB E ≤ 100000) (hF : cellsB (layB E) = F)
    (hrow : lget l k = .r ro lit st 1 F) (hn : zn.v = ilen (layB E)) (hu : zu.v = lenB E) (hzc : zc.v = c) (hzm : zm.v = m) (hm0 : 0 ≤ m) (hm : m ≤ 30) (hc0 : 0 ≤ c) (hc : c < 2 ^ m.toNat)
    (hK : ∀ E2 n2 F2 st u2, E2 = E ++ Hu.bitsN m.toNat c.toNat → cellsB (layB E2) = F2 → n2 = ilen (layB E2) → u2 = lenB E + m → K (.tp [.sl (len l) 1 (.l 0) (.y n2) none, .i .i64 (.y u2), .i .i64 (.y 0)]) (snoc l (.r false false (.y st) 1 F2))) :
    S.call 47 [.sl k 1 (.l 0) zn none, .i .i64 zu, .i .i64 zc, .i .i64 zm] l K := by
  subst hzc hzm hF
  refine use_own hS (fun _ => k) (Lay_f hE hm0 hm hc0 hc) (.cons (sub_sl rfl hn) (.cons (sub_i hu) (.cons (sub_i rfl) (.cons (sub_i rfl) .nil)))) rfl ⟨⟨_, _, _, _, _, _, _, _, rfl, cellsB_plain _, hrow, .rfl⟩, trivial⟩ (by omega) (cellsB_plain _) rfl (n := ilen (layB (E ++ Hu.bitsN zm.v.toNat zc.v.toNat))) ?_ fun st => hK _ _ _ st _ rfl rfl rfl rfl
  have := cellsB_len (layB (E ++ Hu.bitsN zm.v.toNat zc.v.toNat))
  unfold ilen at this ⊢
  rw [this]; simp
theorem bits_ones (k : Nat) : Hu.bitsN k (2 ^ k - 1) = List.replicate k true := by
  have := Hu.bitsN_valB (List.replicate k true)
  rwa [List.length_replicate, Hu.valB_ones] at this
theorem lay_put {b : List Int} {E2 : List Bool} {k c : Int} (h : E2 = Hu.enc b ++ Hu.bitsN k.toNat c.toNat) (hk : k = 8 * ((lenB (Hu.enc b) + 7) / 8) - lenB (Hu.enc b)) (hc : c = 2 ^ k.toNat - 1) : layB E2 = Hu.put b := by
  have hc' : c.toNat = 2 ^ k.toNat - 1 := by rw [hc, ← pow_cast]; omega
  rw [hc', bits_ones] at h
  unfold lenB at hk
  have hp : k.toNat = Hu.pad (Hu.enc b).length := by unfold Hu.pad; omega
  unfold Hu.put Hu.pack layB layN Hu.padded
  rw [h, hp]
  have hl : (Hu.enc b ++ List.replicate (Hu.pad (Hu.enc b).length) true).length = 8 * (((Hu.enc b).length + 7) / 8) := Hu.padded_len _
  rw [hl]
  rw [show (8 * (((Hu.enc b).length + 7) / 8) + 7) / 8 = ((Hu.enc b).length + 7) / 8 by omega, Nat.sub_self, show 8 * (((Hu.enc b).length + 7) / 8) / 8 = ((Hu.enc b).length + 7) / 8 by omega]
  simp
theorem lenB_enc (b : List Int) (j : Int) : lenB (encT b j) = bitsI b j := rfl
theorem encT_0 (b : List Int) : encT b 0 = [] := by unfold encT; simp [Hu.enc]
theorem pl_m {F : List SV} : plains F = true → (match F with | [] => true | x :: xs => plainV x && plains xs) = true := by
  intro h
  cases F with
  | nil => rfl
  | cons x xs => simpa only [plains] using h
theorem rput_f {b : List Int} (hb : Hu.BOk b) (hn : ilen b ≤ 5000) :
    (S0 Try.prog).call 23 [.sl 0 1 (.l 0) (.y (ilen b)) none] [.r true true (.l 0) 1 (cellsB b)] (OwnR 1 1 (cellsB (Hu.put b)) false []) := by
  obtain ⟨n, hn'⟩ : ∃ n, n = ilen b := ⟨_, rfl⟩
  have h0n := ilen_nn b
  rw [← hn'] at hn h0n ⊢
  have hpl := cellsB_plain b
  generalize hF : cellsB b = F at hpl ⊢
  generalize hP : cellsB (Hu.put b) = P
  generalize hS : S0 Try.prog = S
  refine call_in' hS I.fn_causeyref07_Put ?_
  cbv
  refine s_loop_nil hS 3 1 (by omega) rfl ?_
  cbv
  refine s_loop_ren hS 2 I.dead_causeyref07_Put_0 (fun x : Int × Int × Int × Int × List SV => 0 ≤ x.1 ∧ x.1 ≤ n ∧ x.2.1 = bitsI b x.1 ∧ x.2.2.1 = ilen (layB (encT b x.1)) ∧ x.2.2.2.2 = cellsB (layB (encT b x.1)))
    (fun x => [(5, .i .i64 (.y x.1)), (4, .i .i64 (.y x.2.1)), (3, .sl 1 1 (.l 0) (.y x.2.2.1) none)]) (fun x => [(1, .r false false (.y x.2.2.2.1) 1 x.2.2.2.2)])
    (fun x => (n - x.1).toNat) (0, 0, 0, 0, []) rfl rfl (fun _ => rfl) ⟨⟨Int.le_refl _, by dsimp only; omega, by dsimp only; rfl, by dsimp only; rw [encT_0]; rfl, by dsimp only; rw [encT_0]; rfl⟩, rfl, ?_, ?_, ?_⟩ ?_
  · cbv; (repeat' (first | exact sub_any | exact Sub.rfl | exact SubL.nil | refine SubL.cons ?_ ?_ | exact sub_i rfl | exact sub_sl rfl rfl))
  · cbv; exact ⟨.rfl, .r .rfl rfl rfl, trivial⟩
  · cbv; exact gc_c (gc_m (plains_refs hpl)) rfl
  · intro x
    obtain ⟨j, u, nn, st, G⟩ := x
    intro hx
    dsimp only at hx
    cbv
    obtain ⟨g0, g1, g2, g3, g4⟩ := hx
    have hbd := bitsI_bd (b := b) g0
    rw [← g2] at hbd
    refine s_sbr hS ?_ ?_ <;> intro h <;> cbv
    · obtain ⟨v, hv⟩ := at_ex (l := b) (i := j) (by omega) (by omega)
      have hb0 := hb v (List.mem_of_getElem? hv)
      obtain ⟨m, hm⟩ : ∃ m, clsI v = m := ⟨_, rfl⟩
      obtain ⟨c, hcv⟩ : ∃ c, codeI v = c := ⟨_, rfl⟩
      have hmb := clsI_bd v
      have hcb := codeI_bd hb0
      have hnx := bitsI_next hv g0
      have hen := encT_next hv g0
      have hco : Hu.cod v.toNat = Hu.bitsN m.toNat c.toNat := by rw [← hm, ← hcv]; rfl
      rw [hco] at hen
      rw [hm] at hmb hnx hcb
      rw [hcv] at hcb
      have hlE : lenB (encT b j) = u := g2.symm
      repeat' (first
        | (refine s_st hS ?_; try cbv)
        | (refine s_sbr hS ?_ ?_ <;> intro h <;> (try cbv) <;> try exact s_ab h)
        | (refine s_sta hS ?_; intro _ _; try cbv)
        | (refine s_stc hS ?_; try cbv)
        | (refine rowB hS hF hv rfl (by omega) ?_; try cbv)
        | (refine rCode_u hS hb0.1 hb0.2 fun c' m' hc' hm' => ?_; obtain rfl : c' = c := hc'.symm.trans hcv; obtain rfl : m' = m := hm'.symm.trans hm; cbv))
      refine lay_u hS (E := encT b j) (c := c') (m := m') (by omega) g4.symm rfl (by simp only [Z.v]; exact g3) (by simp only [Z.v]; omega) rfl rfl (by omega) (by omega) hcb.1 hcb.2.1 fun E2 n2 F2 st2 u2 hE2 hF2 hn2 hu2 => ?_
      cbv
      repeat' (first
        | (refine s_st hS ?_; try cbv)
        | (refine s_sbr hS ?_ ?_ <;> intro h <;> (try cbv) <;> try exact s_ab h)
        | (refine s_sta hS ?_; intro _ _; try cbv)
        | (refine s_stc hS ?_; try cbv))
      rename_i j2 hj2
      rw [← hen, ← hj2] at hE2
      refine ⟨(j2, u2, n2, st2, F2), 1, 2, by decide, by decide, by dsimp only; omega, ⟨by dsimp only; omega, by dsimp only; omega, by dsimp only; rw [hj2, hnx]; omega, by dsimp only; rw [hn2, hE2], by dsimp only; rw [← hF2, hE2]⟩, rfl, ?_, ?_, ?_⟩
      · cbv; all_goals exact s_sA
      · cbv
        exact ⟨.inr ⟨.rfl, pl_m hpl, trivial⟩, .inr ⟨.rfl, pl_m (by rw [← hF2]; exact cellsB_plain _), trivial⟩, trivial⟩
      · cbv; exact gc_c (gc_m (plains_refs hpl)) rfl
    · obtain rfl : j = n := by omega
      have hee : encT b j = Hu.enc b := by unfold encT; rw [take_all (by omega)]
      have hlE : lenB (Hu.enc b) = u := by rw [← hee]; exact g2.symm
      have hnn : nn = (u + 7) / 8 := by rw [g3, lenB_lay, hee, hlE]
      obtain ⟨k, hk⟩ : ∃ k, k = 8 * nn - u := ⟨_, rfl⟩
      obtain ⟨p, hp⟩ : ∃ p : Int, 2 ^ k.toNat = p := ⟨_, rfl⟩
      have hp0 : 0 < p := by rw [← hp]; exact pow_pos' _
      have hp1 : p ≤ 128 := by have := pow_le (m := k.toNat) (n := 7) (by omega); rw [hp] at this; omega
      repeat' (first
        | (refine s_st hS ?_; try cbv)
        | (refine s_sbr hS ?_ ?_ <;> intro h <;> (try cbv) <;> try exact s_ab h)
        | (refine s_sta hS ?_; intro _ _; try cbv)
        | (refine s_stc hS ?_; try cbv)
        | (refine s_mul hS ?_ (by simp only [lo]; omega) (by simp only [hi]; omega); intro _ _; try cbv)
        | (refine s_shll hS (c := p) (by rw [← hp]; congr 1; simp only [IntKind.bits]; omega) ?_ (by simp only [lo]; omega) (by simp only [hi]; omega); intro _ _; cbv))
      rename_i a1 ha1 k1 hk1 a3 ha3 c1 hc1
      have hkk : k1 = k := by omega
      refine lay_u hS (E := encT b j) (c := c1) (m := k1) (by rw [hee]; omega) g4.symm rfl (by simp only [Z.v]; exact g3) (by simp only [Z.v]; rw [hee]; omega) rfl rfl (by omega) (by omega) (by omega) (by rw [hkk, hp]; omega) fun E2 n2 F2 st2 u2 hE2 hF2 hn2 hu2 => ?_
      cbv
      rw [hee] at hE2
      have hPF : P = F2 := by rw [← hP, ← hF2, lay_put hE2 (by rw [hlE]; omega) (by rw [hkk, hp]; omega)]
      refine ⟨_, .rfl, ?_⟩
      rw [hPF]
      exact rowIs_same hF2 (by omega) hn2 rfl
end Cz
/- Huff, part S: the document's text out of bits. -/
namespace Cz
open Go Go.RowKit Go.Proofs
set_option linter.unusedSimpArgs false
set_option linter.unusedVariables false
set_option maxRecDepth 100000
set_option maxHeartbeats 4000000
theorem next_u {S : Sy} (hS : S0 Try.prog = S) {b : List Int} {F : List SV} {n : Int} {zi : Z} {k : Nat} {ro lit : Bool} {st : Z} {l : List Blk} {K : SV → List Blk → Prop} (hb : Hu.BOk b) (hn : ilen b ≤ 1000000) (hn' : n = ilen b) (hF : cellsB b = F)
    (hrow : lget l k = .r ro lit st 1 F) (i : Int) (hi : zi.v = i) (h0 : 0 ≤ i) (h1 : ∀ c m, nextR b i = (c, m) → K (.tp [.i .u8 (.y c), .i .i64 (.y m)]) l) :
    S.call 46 [.sl k 1 (.l 0) (.y n) none, .i .i64 zi] l K := by
  subst hn' hF hi
  exact use_read hS (fun _ => k) (next_f (b := b) (i := zi.v) hb hn h0 rfl) (.cons .rfl (.cons (sub_i rfl) .nil)) rfl ⟨⟨_, _, _, _, _, _, _, _, rfl, cellsB_plain b, hrow, .rfl⟩, trivial⟩ rfl (h1 _ _ rfl)
theorem rend_some {P G : List SV} {L : List Int} {E : Int} {z st : Z} {lit : Bool} {l' : List Blk} (hP : P = cellsB L) (hE : E = 0) (hG : cellsB L = G) (hz : z.v = ilen L) (hB : l'[1]? = some (.r false lit st 1 G)) :
    OwnR 1 1 P true [.i .i64 (.y E)] (.tp [.sl 1 1 (.l 0) z none, .i .i64 (.l 0)]) l' := by
  refine ⟨_, sub_tp (.cons .rfl (.cons (sub_i hE.symm) .nil)), ?_⟩
  rw [hP, hG]
  exact rowIs_same hG (by omega) hz hB
theorem rtake_f {b : List Int} (hb : Hu.BOk b) (hn : ilen b ≤ 1000000) :
    (S0 Try.prog).call 18 [.sl 0 1 (.l 0) (.y (ilen b)) none] [.r true true (.l 0) 1 (cellsB b)] (OwnR 1 1 (cellsB (takeL b)) true [.i .i64 (.y (takeE b))]) := by
  obtain ⟨n, hn'⟩ : ∃ n, n = ilen b := ⟨_, rfl⟩
  have h0n := ilen_nn b
  have hnb := hn
  rw [← hn'] at hn h0n ⊢
  have hpl := cellsB_plain b
  generalize hF : cellsB b = F at hpl ⊢
  generalize hP : cellsB (takeL b) = P
  generalize hE : takeE b = E
  generalize hS : S0 Try.prog = S
  refine call_in' hS I.fn_causeyref07_Take ?_
  cbv
  refine s_loop_nil hS 4 1 (by omega) rfl ?_
  cbv
  refine s_loop_up hS 2 I.dead_causeyref07_Take_0 (fun x : Int × Int × Int × List Int × List SV => 0 ≤ x.1 ∧ x.1 ≤ 8 * n ∧ x.2.1 = ilen x.2.2.2.1 ∧ x.2.1 ≤ x.1 ∧ x.2.2.2.2 = cellsB x.2.2.2.1 ∧ Hu.dec (Hu.bl b) = (x.2.2.2.1 ++ (decI b x.1).1, (decI b x.1).2))
    (fun x => [(4, .sl 1 1 (.l 0) (.y x.2.1) none), (5, .i .i64 (.y x.1))]) (fun x => [(1, .r false false (.y x.2.2.1) 1 x.2.2.2.2)])
    (fun x => (8 * n - x.1).toNat) (0, 0, 0, [], []) rfl ⟨⟨Int.le_refl _, by dsimp only; omega, rfl, Int.le_refl _, rfl, by dsimp only; rw [dec_at0]; rfl⟩, rfl, ?_, ?_, ?_⟩ ?_
  · cbv; (repeat' (first | exact sub_any | exact Sub.rfl | exact SubL.nil | refine SubL.cons ?_ ?_ | exact sub_i rfl | exact sub_sl rfl rfl))
  · cbv; exact ⟨.rfl, .r .rfl rfl rfl, trivial⟩
  · cbv; exact gc_c (gc_m (plains_refs hpl)) rfl
  intro x
  obtain ⟨i, q, st, L, G⟩ := x
  intro hx
  dsimp only at hx
  cbv
  obtain ⟨h0, h1, hq, hqi, hG0, hdec⟩ := hx
  have hG : ilen G = ilen L := by rw [hG0, cellsB_len]
  refine next_u hS hb hnb hn' hF rfl i rfl h0 fun c m hcm => ?_
  cbv
  refine s_sbr hS ?_ ?_ <;> intro h <;> cbv
  · have hno : decI b i = ([], dropI b i) := next_none h0 (c := c) (by rw [hcm, h])
    have hD : Hu.dec (Hu.bl b) = (L, dropI b i) := by rw [hdec, hno]; simp
    obtain ⟨k, hk⟩ : ∃ k, k = 8 * ilen b - i := ⟨_, rfl⟩
    repeat' (first
      | (refine s_st hS ?_; try cbv)
      | (refine s_sbr hS ?_ ?_ <;> intro h <;> (try cbv) <;> try exact s_ab h)
      | (refine s_sta hS ?_; intro _ _; try cbv)
      | (refine s_stc hS ?_; try cbv)
      | (refine s_mul hS ?_ (by simp only [lo]; omega) (by simp only [hi]; omega); intro _ _; cbv)
      | (refine rbits_v hS hb hnb hn' hF rfl i k (by simp only [Z.v]) (by simp only [Z.v]; omega) (by omega) (by omega) (by omega) (fun r hr => ?_); cbv)
      | (refine s_shlv hS k (by omega) (by omega) (by omega) (by decide) (fun p hp hp1 hp2 => ?_); cbv))
    · have hb7 := take_big (i := i) (by omega) (by omega) hD (by omega)
      exact end_none (hP.symm.trans (by rw [hb7.1]; rfl)) (hE.symm.trans hb7.2)
    · have hne : r ≠ p - 1 := by first | omega | (simp at h; omega)
      have hte := (take_end (i := i) (by omega) (by omega) hD hk (by omega)).2 (by rw [hr, ← hp]; exact hne)
      exact end_none (hP.symm.trans (by rw [hte.1]; rfl)) (hE.symm.trans hte.2)
    · have heq : r = p - 1 := by first | omega | (simp at h; omega)
      have hte := (take_end (i := i) (by omega) (by omega) hD hk (by omega)).1 (by rw [hr, ← hp]; exact heq)
      exact rend_some (hP.symm.trans (by rw [hte.1])) (hE.symm.trans hte.2) hG0.symm hq rfl
  · obtain ⟨c0, c1, m5, m11, hle, hs⟩ := next_some h0 hcm h
    repeat' (first
      | (refine s_st hS ?_; try cbv)
      | (refine s_sbr hS ?_ ?_ <;> intro h <;> (try cbv) <;> try exact s_ab h)
      | (refine s_sta hS ?_; intro _ _; try cbv)
      | (refine s_stc hS ?_; try cbv)
      | (refine s_flen hS (by rw [hG, ← hq]; omega) ?_; cbv))
    rename_i i2 hi2
    obtain ⟨q2, h_q2⟩ : ∃ q2, q2 = q + 1 := ⟨_, rfl⟩
    obtain ⟨st2, h_st2⟩ : ∃ st2, st2 = S.flen G := ⟨_, rfl⟩
    obtain ⟨G2, h_G2⟩ : ∃ G2, G2 = cellsB (L ++ [c]) := ⟨_, rfl⟩
    refine ⟨(i2, q2, st2, L ++ [c], G2), by dsimp only; omega, ⟨by dsimp only; omega, by dsimp only; omega, ?_, by dsimp only; omega, h_G2, ?_⟩, rfl, ?_, ?_, ?_⟩
    · dsimp only; rw [h_q2, hq, ilen_snoc]
    · dsimp only; rw [hdec, hs, hi2]; simp
    · cbv; (repeat' (first | exact sub_any | exact Sub.rfl | exact SubL.nil | refine SubL.cons ?_ ?_ | exact sub_i rfl | (refine sub_sl rfl ?_; simp only [Z.v, ← hS, Int.ofNat_eq_natCast, cq, Bool.not_eq_true', Bool.not_eq_false', decide_eq_true_eq, decide_eq_false_iff_not, beq_iff_eq, beq_eq_false_iff_ne, ne_eq]; omega)))
    · cbv; exact ⟨.rfl, subB_app hS hG0.symm h_G2.symm rfl h_st2.symm, trivial⟩
    · cbv; exact gc_c (gc_m (plains_refs hpl)) rfl
end Cz
/- Huff, part T: what the functions tell, used in any heap; what the document says of some texts. -/
namespace Cz
open Go Go.RowKit Go.Proofs
set_option linter.unusedSimpArgs false
set_option linter.unusedVariables false
set_option maxRecDepth 100000
set_option maxHeartbeats 4000000
theorem cellsB_n (L : List Int) : ilen L * ((1 : Nat) : Int) = (cellsB L).length := by
  have := cellsB_len L
  unfold ilen at this ⊢
  rw [this]; simp
section
variable {S : Sy} {b : List Int} {F : List SV} {k : Nat} {ro lit : Bool} {st zn : Z} {l : List Blk} {K : SV → List Blk → Prop}
theorem put_u (hS : S0 Try.prog = S) (hb : Hu.BOk b) (hn : ilen b ≤ 1000000) (hrow : lget l k = .r ro lit st 1 F) (hs : FSub F (cellsB b)) (hz : zn.v = ilen b)
    (hK : ∀ F2 n2 st, cellsB (Hu.put b) = F2 → n2 = ilen (Hu.put b) → K (.sl (len l) 1 (.l 0) (.y n2) none) (snoc l (.r false false (.y st) 1 F2))) : S.call 22 [.sl k 1 (.l 0) zn none] l K :=
  use_own hS (fun _ => k) (put_f hb hn) (.cons (sub_sl rfl hz) .nil) rfl ⟨⟨_, _, _, _, _, _, _, _, rfl, cellsB_plain _, hrow, hs⟩, trivial⟩ (by omega) (cellsB_plain _) rfl (cellsB_n _) fun st => hK _ _ st rfl rfl
theorem rput_u (hS : S0 Try.prog = S) (hb : Hu.BOk b) (hn : ilen b ≤ 5000) (hrow : lget l k = .r ro lit st 1 F) (hs : FSub F (cellsB b)) (hz : zn.v = ilen b)
    (hK : ∀ F2 n2 st, cellsB (Hu.put b) = F2 → n2 = ilen (Hu.put b) → K (.sl (len l) 1 (.l 0) (.y n2) none) (snoc l (.r false false (.y st) 1 F2))) : S.call 23 [.sl k 1 (.l 0) zn none] l K :=
  use_own hS (fun _ => k) (rput_f hb hn) (.cons (sub_sl rfl hz) .nil) rfl ⟨⟨_, _, _, _, _, _, _, _, rfl, cellsB_plain _, hrow, hs⟩, trivial⟩ (by omega) (cellsB_plain _) rfl (cellsB_n _) fun st => hK _ _ st rfl rfl
theorem take_u (hS : S0 Try.prog = S) (hb : Hu.BOk b) (hn : ilen b ≤ 1000000) (hrow : lget l k = .r ro lit st 1 F) (hs : FSub F (cellsB b)) (hz : zn.v = ilen b)
    (hK : ∀ L F2 n2 st e, takeL b = L → cellsB L = F2 → n2 = ilen L → takeE b = e → K (.tp [.sl (len l) 1 (.l 0) (.y n2) none, .i .i64 (.y e)]) (snoc l (.r false false (.y st) 1 F2))) : S.call 17 [.sl k 1 (.l 0) zn none] l K :=
  use_own hS (fun _ => k) (take_f hb hn) (.cons (sub_sl rfl hz) .nil) rfl ⟨⟨_, _, _, _, _, _, _, _, rfl, cellsB_plain _, hrow, hs⟩, trivial⟩ (by omega) (cellsB_plain _) rfl (cellsB_n _) fun st => hK _ _ _ st _ rfl rfl rfl rfl
theorem rtake_u (hS : S0 Try.prog = S) (hb : Hu.BOk b) (hn : ilen b ≤ 1000000) (hrow : lget l k = .r ro lit st 1 F) (hs : FSub F (cellsB b)) (hz : zn.v = ilen b)
    (hK : ∀ L F2 n2 st e, takeL b = L → cellsB L = F2 → n2 = ilen L → takeE b = e → K (.tp [.sl (len l) 1 (.l 0) (.y n2) none, .i .i64 (.y e)]) (snoc l (.r false false (.y st) 1 F2))) : S.call 18 [.sl k 1 (.l 0) zn none] l K :=
  use_own hS (fun _ => k) (rtake_f hb hn) (.cons (sub_sl rfl hz) .nil) rfl ⟨⟨_, _, _, _, _, _, _, _, rfl, cellsB_plain _, hrow, hs⟩, trivial⟩ (by omega) (cellsB_plain _) rfl (cellsB_n _) fun st => hK _ _ _ st _ rfl rfl rfl rfl
/-- No bytes: nil. -/
theorem take_nil_u (hS : S0 Try.prog = S) (hK : ∀ L F2 n2 st e, takeL [] = L → cellsB L = F2 → n2 = ilen L → takeE [] = e → K (.tp [.sl (len (snoc l (.r true true (.l 0) 1 []))) 1 (.l 0) (.y n2) none, .i .i64 (.y e)]) (snoc (snoc l (.r true true (.l 0) 1 [])) (.r false false (.y st) 1 F2))) :
    S.call 17 [.re (.slice none 0 0)] l K := by
  have hg : lget (snoc l (.r true true (.l 0) 1 [])) (len l) = .r true true (.l 0) 1 [] := by
    rw [lget_eq, snoc_eq, len_eq, List.getD_eq_getElem?_getD, List.getElem?_append_right (Nat.le_refl _), Nat.sub_self]; rfl
  have h := take_u (b := []) (K := K) (l := snoc l (.r true true (.l 0) 1 [])) (k := len l) (zn := .l 0) (F := []) rfl (by intro v hv; cases hv) (by decide) hg .rfl rfl hK
  subst hS
  exact call_ghost (sz := 1) (by omega) (fun ρ vs hρ hd => by
    match vs, hd with
    | [v], hd =>
      simp only [denL, den] at hd ⊢
      obtain ⟨⟨rfl, _⟩, _⟩ := hd
      have := den_nilRow (l := l) (sz := 1) (ρ := ρ) (by rw [← len_eq, hρ]; simp)
      simpa [nilRow, den, Z.v] using this) rfl h
theorem bits_u (hS : S0 Try.prog = S) (hb : Hu.BOk b) (hn : ilen b ≤ 1000000) (hrow : lget l k = .r ro lit st 1 F) (hs : FSub F (cellsB b)) (hz : zn.v = ilen b)
    (hK : ∀ r, bitsI b (ilen b) = r → K (.i .i64 (.y r)) l) : S.call 19 [.sl k 1 (.l 0) zn none] l K :=
  use_read hS (fun _ => k) (Bits_f hb hn rfl) (.cons (sub_sl rfl hz) .nil) rfl ⟨⟨_, _, _, _, _, _, _, _, rfl, cellsB_plain _, hrow, hs⟩, trivial⟩ rfl (hK _ rfl)
theorem rbitsn_u (hS : S0 Try.prog = S) (hb : Hu.BOk b) (hn : ilen b ≤ 1000000) (hrow : lget l k = .r ro lit st 1 F) (hs : FSub F (cellsB b)) (hz : zn.v = ilen b)
    (hK : ∀ r, bitsI b (ilen b) = r → K (.i .i64 (.y r)) l) : S.call 20 [.sl k 1 (.l 0) zn none] l K :=
  use_read hS (fun _ => k) (rBits_f hb hn rfl) (.cons (sub_sl rfl hz) .nil) rfl ⟨⟨_, _, _, _, _, _, _, _, rfl, cellsB_plain _, hrow, hs⟩, trivial⟩ rfl (hK _ rfl)
theorem short_u (hS : S0 Try.prog = S) (hb : Hu.BOk b) (hn : ilen b ≤ 1000000) (hrow : lget l k = .r ro lit st 1 F) (hs : FSub F (cellsB b)) (hz : zn.v = ilen b)
    (hK : ∀ t, shortB b = t → K (.b t) l) : S.call 24 [.sl k 1 (.l 0) zn none] l K :=
  use_read hS (fun _ => k) (Shorter_f hb hn rfl) (.cons (sub_sl rfl hz) .nil) rfl ⟨⟨_, _, _, _, _, _, _, _, rfl, cellsB_plain _, hrow, hs⟩, trivial⟩ rfl (hK _ rfl)
theorem rshort_u (hS : S0 Try.prog = S) (hb : Hu.BOk b) (hn : ilen b ≤ 1000000) (hrow : lget l k = .r ro lit st 1 F) (hs : FSub F (cellsB b)) (hz : zn.v = ilen b)
    (hK : ∀ t, shortB b = t → K (.b t) l) : S.call 25 [.sl k 1 (.l 0) zn none] l K :=
  use_read hS (fun _ => k) (rShorter_f hb hn rfl) (.cons (sub_sl rfl hz) .nil) rfl ⟨⟨_, _, _, _, _, _, _, _, rfl, cellsB_plain _, hrow, hs⟩, trivial⟩ rfl (hK _ rfl)
theorem same_u {a : List Int} {G : List SV} {k' : Nat} {ro' lit' : Bool} {st' zm : Z} (hS : S0 Try.prog = S) (ha : Hu.BOk a) (hab : a = b) (hrow : lget l k = .r ro lit st 1 F) (hs : FSub F (cellsB a)) (hz : zn.v = ilen a)
    (hrow' : lget l k' = .r ro' lit' st' 1 G) (hs' : FSub G (cellsB b)) (hz' : zm.v = ilen b) (hK : K .tt l) : S.call 21 [.sl k 1 (.l 0) zn none, .sl k' 1 (.l 0) zm none] l K :=
  use_read hS (fun j => if j = 0 then k else k') (Same_f ha (hab ▸ ha) hab) (.cons (sub_sl rfl hz) (.cons (sub_sl rfl hz') .nil)) rfl
    ⟨⟨_, _, _, _, _, _, _, _, rfl, cellsB_plain _, hrow, hs⟩, ⟨_, _, _, _, _, _, _, _, rfl, cellsB_plain _, hrow', hs'⟩, trivial⟩ rfl hK
end
theorem bok1 {l : List Int} (h : l.all (fun v => decide (0 ≤ v) && decide (v < 256)) = true) : Hu.BOk l := by
  intro v hv
  have := List.all_eq_true.1 h v hv
  simpa using this
theorem w_put1 : Hu.put [97] = [55] := by decide +kernel
theorem w_put2 : Hu.put [0] = [224, 31] := by decide +kernel
theorem w_put3 : Hu.put [] = [] := by decide +kernel
theorem w_take1 : takeL [55] = [97] ∧ takeE [55] = 0 := by
  have := Hu.take_put [97] (bok1 (by decide))
  rw [w_put1] at this
  unfold takeL takeE; rw [this]; exact ⟨rfl, rfl⟩
theorem w_take3 : takeL [] = [] ∧ takeE [] = 0 := by
  have := Hu.take_put [] (bok1 (by decide))
  rw [w_put3] at this
  unfold takeL takeE; rw [this]; exact ⟨rfl, rfl⟩
theorem w_take2 : takeE [255, 255] = 70 := by
  have h1 : Hu.bl [255, 255] = List.replicate 16 true := by decide +kernel
  have : Hu.take [255, 255] = none := by
    unfold Hu.take
    rw [h1, Hu.dec_none (Hu.sym_ones 16)]
    simp
  unfold takeE; rw [this]; rfl
theorem fs1 (a : Int) : FSub [.i .u8 (.l a)] (cellsB [a]) := by
  show FSub _ [.i .u8 (.y a)]
  exact SubL.fsub (SubL.cons (sub_i rfl) .nil)
theorem fs2 (a b : Int) : FSub [.i .u8 (.l a), .i .u8 (.l b)] (cellsB [a, b]) := by
  show FSub _ [.i .u8 (.y a), .i .u8 (.y b)]
  exact SubL.fsub (SubL.cons (sub_i rfl) (.cons (sub_i rfl) .nil))
theorem fs3 (a b c : Int) : FSub [.i .u8 (.l a), .i .u8 (.l b), .i .u8 (.l c)] (cellsB [a, b, c]) := by
  show FSub _ [.i .u8 (.y a), .i .u8 (.y b), .i .u8 (.y c)]
  exact SubL.fsub (SubL.cons (sub_i rfl) (.cons (sub_i rfl) (.cons (sub_i rfl) .nil)))
theorem fs4 (a b c d : Int) : FSub [.i .u8 (.l a), .i .u8 (.l b), .i .u8 (.l c), .i .u8 (.l d)] (cellsB [a, b, c, d]) := by
  show FSub _ [.i .u8 (.y a), .i .u8 (.y b), .i .u8 (.y c), .i .u8 (.y d)]
  exact SubL.fsub (SubL.cons (sub_i rfl) (.cons (sub_i rfl) (.cons (sub_i rfl) (.cons (sub_i rfl) .nil))))
theorem wakes_f : (S0 Try.prog).call 12 [] [] (fun x _ => Sub x .tt) := by
  generalize hS : S0 Try.prog = S
  refine call_in' hS I.fn_causeylaw07_wakes ?_
  cbv
  refine Code_u hS (by decide) (by decide) fun a1 m1 ha1 hm1 => ?_
  replace ha1 : a1 = 6 := by rw [← ha1]; decide +kernel
  replace hm1 : m1 = 5 := by rw [← hm1]; decide +kernel
  cbv
  refine Code_u hS (by decide) (by decide) fun a2 m2 ha2 hm2 => ?_
  replace ha2 : a2 = 1792 := by rw [← ha2]; decide +kernel
  replace hm2 : m2 = 11 := by rw [← hm2]; decide +kernel
  cbv
  refine Of_u hS fun r1 b1 hr1 hb1 => ?_
  replace hr1 : r1 = 97 := by rw [← hr1]; decide +kernel
  replace hb1 : b1 = true := by rw [← hb1]; decide +kernel
  cbv
  refine Of_u hS fun r2 b2 hr2 hb2 => ?_
  replace hb2 : b2 = false := by rw [← hb2]; decide +kernel
  clear hr2
  cbv
  refine take_u hS (b := [55]) (bok1 (by decide)) (by decide) rfl (fs1 55) rfl fun L1 F1 n1 st1 e1 hL1 hF1 hn1 he1 => ?_
  replace hL1 : L1 = [97] := hL1.symm.trans w_take1.1
  replace he1 : e1 = 0 := he1.symm.trans w_take1.2
  cbv
  refine take_u hS (b := [255, 255]) (bok1 (by decide)) (by decide) rfl (fs2 255 255) rfl fun L2 F2 n2 st2 e2 hL2 hF2 hn2 he2 => ?_
  replace he2 : e2 = 70 := he2.symm.trans w_take2
  clear hL2
  cbv
  refine take_nil_u hS fun L3 F3 n3 st3 e3 hL3 hF3 hn3 he3 => ?_
  replace he3 : e3 = 0 := he3.symm.trans w_take3.2
  replace hn3 : n3 = 0 := by rw [hn3, ← hL3, w_take3.1]; rfl
  clear hL3
  cbv
  repeat' (first
    | (refine s_st hS ?_; try cbv)
    | (refine s_sbr hS ?_ ?_ <;> intro h <;> (try cbv) <;> try exact s_ab h)
    | (refine s_sta hS ?_; intro _ _; try cbv)
    | (refine s_stc hS ?_; try cbv))
  refine put_u hS (b := [97]) (bok1 (by decide)) (by decide) rfl (fs1 97) rfl fun P1 N1 s1 hP1 hN1 => ?_
  cbv
  repeat' (first
    | (refine s_st hS ?_; try cbv)
    | (refine s_sbr hS ?_ ?_ <;> intro h <;> (try cbv) <;> try exact s_ab h)
    | (refine s_sta hS ?_; intro _ _; try cbv)
    | (refine s_stc hS ?_; try cbv))
  refine same_u hS (a := Hu.put [97]) (b := [55]) (Hu.put_ok _) w_put1 rfl (hP1 ▸ .rfl) hN1 rfl (fs1 55) rfl ?_
  cbv
  repeat' (first
    | (refine s_st hS ?_; try cbv)
    | (refine s_sbr hS ?_ ?_ <;> intro h <;> (try cbv) <;> try exact s_ab h)
    | (refine s_sta hS ?_; intro _ _; try cbv)
    | (refine s_stc hS ?_; try cbv))
  refine put_u hS (b := [0]) (bok1 (by decide)) (by decide) rfl (fs1 0) rfl fun P2 N2 s2 hP2 hN2 => ?_
  cbv
  repeat' (first
    | (refine s_st hS ?_; try cbv)
    | (refine s_sbr hS ?_ ?_ <;> intro h <;> (try cbv) <;> try exact s_ab h)
    | (refine s_sta hS ?_; intro _ _; try cbv)
    | (refine s_stc hS ?_; try cbv))
  refine same_u hS (a := Hu.put [0]) (b := [224, 31]) (Hu.put_ok _) w_put2 rfl (hP2 ▸ .rfl) hN2 rfl (fs2 224 31) rfl ?_
  cbv
  repeat' (first
    | (refine s_st hS ?_; try cbv)
    | (refine s_sbr hS ?_ ?_ <;> intro h <;> (try cbv) <;> try exact s_ab h)
    | (refine s_sta hS ?_; intro _ _; try cbv)
    | (refine s_stc hS ?_; try cbv))
  have hx : strB L1 = [97] := by rw [hL1]; rfl
  refine s_bs hS (hL1 ▸ bok1 (by decide)) hF1 hn1 ?_
  rw [hx]
  cbv
  repeat' (first
    | (refine s_st hS ?_; try cbv)
    | (refine s_sbr hS ?_ ?_ <;> intro h <;> (try cbv) <;> try exact s_ab h)
    | (refine s_sta hS ?_; intro _ _; try cbv)
    | (refine s_stc hS ?_; try cbv))
  refine bits_u hS (b := [97, 46, 65, 33]) (bok1 (by decide)) (by decide) rfl (fs4 97 46 65 33) rfl fun n29 h29 => ?_
  replace h29 : n29 = 29 := by rw [← h29]; decide +kernel
  cbv
  repeat' (first
    | (refine s_st hS ?_; try cbv)
    | (refine s_sbr hS ?_ ?_ <;> intro h <;> (try cbv) <;> try exact s_ab h)
    | (refine s_sta hS ?_; intro _ _; try cbv)
    | (refine s_stc hS ?_; try cbv))
  refine short_u hS (b := [97, 97]) (bok1 (by decide)) (by decide) rfl (fs2 97 97) rfl fun t2 ht2 => ?_
  replace ht2 : t2 = false := by rw [← ht2]; decide +kernel
  cbv
  repeat' (first
    | (refine s_st hS ?_; try cbv)
    | (refine s_sbr hS ?_ ?_ <;> intro h <;> (try cbv) <;> try exact s_ab h)
    | (refine s_sta hS ?_; intro _ _; try cbv)
    | (refine s_stc hS ?_; try cbv))
  refine short_u hS (b := [97, 97, 97]) (bok1 (by decide)) (by decide) rfl (fs3 97 97 97) rfl fun t3 ht3 => ?_
  replace ht3 : t3 = true := by rw [← ht3]; decide +kernel
  cbv
  repeat' (first
    | (refine s_st hS ?_; try cbv)
    | (refine s_sbr hS ?_ ?_ <;> intro h <;> (try cbv) <;> try exact s_ab h)
    | (refine s_sta hS ?_; intro _ _; try cbv)
    | (refine s_stc hS ?_; try cbv))
  exact sub_b_tt ht3
theorem wakes_u {S : Sy} (hS : S0 Try.prog = S) {l : List Blk} {K : SV → List Blk → Prop} (hK : K .tt l) : S.call 12 [] l K :=
  use_val hS wakes_f .nil rfl rfl hK
end Cz
