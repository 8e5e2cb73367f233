/- Texts one behind the other are taken one by one: the law TextMany returns true for every input. No condition. -/
import Derived.Test.YtjnpmipoenijdaaT3
import Derived.Test.YtjnpmipoenijdaaRows
import Derived.Test.YtjnpmipoenijdaaH1
namespace Cz
open Go Go.RowKit Go.Proofs
set_option linter.unusedSimpArgs false
set_option linter.unusedVariables false
set_option maxRecDepth 100000
set_option maxHeartbeats 4000000
def st1 (x : List UInt8) : List SV := [.s x]
def bo1 (x : Bool) : List SV := [.b x]
def cellsT (l : List (List UInt8)) : List SV := l.flatMap st1
def cellsO (l : List Bool) : List SV := l.flatMap bo1
theorem plains_flat {α : Type} {e : α → List SV} (h : ∀ a, plains (e a) = true) : ∀ l : List α, plains (l.flatMap e) = true
  | [] => rfl
  | a :: l => by
    rw [List.flatMap_cons]
    have := plains_flat h l
    have h2 := h a
    generalize e a = xs at h2
    induction xs with
    | nil => exact this
    | cons x xs ih => simp only [plains, Bool.and_eq_true, List.cons_append] at h2 ⊢; exact ⟨h2.1, ih h2.2⟩
theorem cellsT_plain (l : List (List UInt8)) : plains (cellsT l) = true := plains_flat (fun _ => rfl) l
theorem cellsO_plain (l : List Bool) : plains (cellsO l) = true := plains_flat (fun _ => rfl) l
theorem pkS {svs : List SV} (h : pkVs [.s] svs) : ∃ v, svs = st1 v ∧ True := by
  match svs, h with
  | [x], h =>
    simp only [pkVs, pkV] at h
    obtain ⟨⟨n, rfl⟩, _⟩ := h
    exact ⟨n, rfl, trivial⟩
theorem pkB {svs : List SV} (h : pkVs [.b] svs) : ∃ v, svs = bo1 v ∧ True := by
  match svs, h with
  | [x], h =>
    simp only [pkVs, pkV] at h
    obtain ⟨⟨n, rfl⟩, _⟩ := h
    exact ⟨n, rfl, trivial⟩
theorem rowT {S : Sy} (hS : S0 Try.prog = S) {l : List (List UInt8)} {F : List SV} (hF : cellsT l = F) {q : Int} {v : List UInt8} {K : SV → Prop} (hv : l[q.toNat]? = some v) (h0 : 0 ≤ q) (h : K (.s v)) : S.rd F q 1 0 1 false K :=
  s_rowp hS (enc := st1) hF hv (fun _ => rfl) h0 (Nat.le_refl _) rfl h
theorem rowO {S : Sy} (hS : S0 Try.prog = S) {l : List Bool} {F : List SV} (hF : cellsO l = F) {q : Int} {v : Bool} {K : SV → Prop} (hv : l[q.toNat]? = some v) (h0 : 0 ≤ q) (h : K (.b v)) : S.rd F q 1 0 1 false K :=
  s_rowp hS (enc := bo1) hF hv (fun _ => rfl) h0 (Nat.le_refl _) rfl h
/-- A text's bytes, in a way. -/
def encW (w : Bool) (x : List UInt8) : List Int := if w then packT (byS x) else plainT (byS x)
def encF : List (List UInt8) → List Bool → List Int
  | [], _ => []
  | x :: l, w => encW (w.headD false) x ++ encF l w.tail
theorem encW_ok (w : Bool) (x : List UInt8) : Hu.BOk (encW w x) := by
  unfold encW; split
  · exact packT_ok _
  · exact plainT_ok (byS_ok x)
theorem encF_ok : ∀ (l : List (List UInt8)) (w : List Bool), Hu.BOk (encF l w)
  | [], _ => fun v hv => by cases hv
  | x :: l, w => bok_app (encW_ok _ x) (encF_ok l w.tail)
theorem encW_len {w : Bool} {x : List UInt8} (h : ilen x ≤ 400) : ilen (encW w x) ≤ 2000 := by
  have hb := byS_len x
  have h0 := ilen_nn (byS x)
  unfold encW; split
  · have := putI_len (ilen (Hu.put (byS x))) 128 128
    have := put_ib (byS x)
    unfold packT; rw [ilen_app]; omega
  · have := putI_len (ilen (byS x)) 128 0
    unfold plainT; rw [ilen_app]; omega
theorem encW_take {w : Bool} {x : List UInt8} (d : List Int) (h : ilen x ≤ 400) : tTake (encW w x ++ d) = (byS x, d, 0) := by
  have hb := byS_len x
  unfold encW; split
  · exact take_pack (byS_ok x) d (by omega)
  · exact take_plain d (by omega)
/-- What is left of the texts from a place on. -/
def restF (l : List (List UInt8)) (w : List Bool) (i : Int) : List Int := encF (l.drop i.toNat) (w.drop i.toNat)
theorem restF_step {l : List (List UInt8)} {w : List Bool} {i : Int} {x : List UInt8} (hx : l[i.toNat]? = some x) (h0 : 0 ≤ i) : restF l w i = encW (w.getD i.toNat false) x ++ restF l w (i + 1) := by
  unfold restF
  have hlt := (List.getElem?_eq_some_iff.1 hx)
  obtain ⟨hl, he⟩ := hlt
  rw [List.drop_eq_getElem_cons hl, he, encF, show (i + 1).toNat = i.toNat + 1 by omega]
  congr 2
  · rw [List.headD_eq_head?_getD, List.head?_drop, List.getD_eq_getElem?_getD]
  · rw [List.tail_drop]
theorem restF_end {l : List (List UInt8)} {w : List Bool} {i : Int} (h : ilen l ≤ i) : restF l w i = [] := by
  unfold restF
  rw [List.drop_eq_nil_of_le (by unfold ilen at h; omega)]; rfl
theorem restF_len {l : List (List UInt8)} {w : List Bool} {i : Int} (h0 : 0 ≤ i) : ilen (restF l w (i + 1)) ≤ ilen (restF l w i) := by
  rcases Int.lt_or_le i (ilen l) with h | h
  · obtain ⟨x, hx⟩ := at_ex (l := l) h h0
    rw [restF_step hx h0, ilen_app]
    have := ilen_nn (encW (w.getD i.toNat false) x)
    omega
  · rw [restF_end h, restF_end (by omega)]; exact Int.le_refl _
theorem restF_bd {l : List (List UInt8)} {w : List Bool} {i : Int} (h0 : 0 ≤ i) : ilen (restF l w i) ≤ ilen (restF l w 0) := by
  obtain ⟨k, rfl⟩ : ∃ k : Nat, i = k := ⟨i.toNat, by omega⟩
  induction k with
  | zero => exact Int.le_refl _
  | succ k ih =>
    have := restF_len (l := l) (w := w) (i := k) (by omega)
    have := ih (by omega)
    push_cast
    omega
def small (l : List (List UInt8)) (i : Int) : Bool := (l.take i.toNat).all fun x => decide (ilen x ≤ 400)
theorem small_at {l : List (List UInt8)} {i : Int} {x : List UInt8} (h : small l (ilen l) = true) (hx : l[i.toNat]? = some x) : ilen x ≤ 400 := by
  unfold small at h
  rw [take_all (by omega), List.all_eq_true] at h
  simpa using h x (List.mem_of_getElem? hx)
theorem tmany_law (l : List (List UInt8)) (w : List Bool) :
    (S0 Try.prog).call 11 [.sl 0 1 (.l 0) (.y (ilen l)) none, .sl 1 1 (.l 0) (.y (ilen w)) none] [.r true false (.l 0) 1 (cellsT l), .r true false (.l 0) 1 (cellsO w)] (fun x _ => Sub x .tt) := by
  obtain ⟨n, hn'⟩ : ∃ n, n = ilen l := ⟨_, rfl⟩
  obtain ⟨m, hm'⟩ : ∃ m, m = ilen w := ⟨_, rfl⟩
  have h0n := ilen_nn l
  have h0m := ilen_nn w
  rw [← hn'] at h0n ⊢
  rw [← hm'] at h0m ⊢
  have hpl := cellsT_plain l
  have hpw := cellsO_plain w
  generalize hF : cellsT l = F at hpl ⊢
  generalize hG : cellsO w = G at hpw ⊢
  generalize hS : S0 Try.prog = S
  refine call_in' hS I.fn_causeylaw08_TextMany ?_
  cbv
  refine s_sbrr hS ?_ ?_ <;> intro h <;> cbv
  · refine wakes8_u hS ?_
    cbv
    exact .rfl
  · refine s_loop_nil hS 5 1 (by omega) rfl ?_
    cbv
    refine s_loop_up hS 3 I.dead_causeylaw08_TextMany_1 (fun x : Int × Int × Int × List Int × List SV => 0 ≤ x.1 ∧ x.1 ≤ n ∧ x.2.1 = ilen x.2.2.2.1 ∧ x.2.1 ≤ 2000 * x.1 ∧ x.2.2.2.1 ++ restF l w x.1 = restF l w 0 ∧ small l x.1 = true ∧ x.2.2.2.2 = cellsB x.2.2.2.1)
      (fun x => [(6, .i .i64 (.y x.1)), (5, .sl 2 1 (.l 0) (.y x.2.1) none)]) (fun x => [(2, .r false false (.y x.2.2.1) 1 x.2.2.2.2)])
      (fun x => (n - x.1).toNat) (0, 0, 0, [], []) rfl ⟨⟨Int.le_refl _, by dsimp only; omega, rfl, by dsimp only; omega, rfl, rfl, rfl⟩, rfl, ?_, ?_, ?_⟩ ?_
    · cbv; (repeat' (first | exact sub_any | exact Sub.rfl | exact SubL.nil | refine SubL.cons ?_ ?_ | exact sub_i rfl | exact sub_sl rfl rfl))
    · cbv; exact ⟨.rfl, .rfl, .r .rfl rfl rfl, trivial⟩
    · cbv
    · intro x
      obtain ⟨i, ln, st, B, H⟩ := x
      intro hx
      dsimp only at hx
      cbv
      obtain ⟨g0, g1, g2, g3, g4, g5, g6⟩ := hx
      have hH : ilen H = ln := by rw [g6, cellsB_len, g2]
      refine s_sbrr hS ?_ ?_ <;> intro h <;> cbv
      · obtain ⟨x, hx⟩ := at_ex (l := l) (i := i) (by omega) (by omega)
        have hst := restF_step (w := w) hx g0
        repeat' (first
          | (refine s_st hS ?_; try cbv)
          | (refine s_sbr hS ?_ ?_ <;> intro h <;> (try cbv) <;> try exact s_ab h)
          | (refine s_sta hS ?_; intro _ _; try cbv)
          | (refine s_stc hS ?_; try cbv))
        refine rowT hS hF hx g0 ?_
        cbv
        refine s_sbrr hS ?_ ?_ <;> intro h4 <;> cbv
        · refine wakes8_u hS ?_
          cbv
          exact .rfl
        · refine s_sbrr hS ?_ ?_ <;> intro h5 <;> cbv
          · obtain ⟨y, hy⟩ := at_ex (l := w) (i := i) (by omega) (by omega)
            repeat' (first
              | (refine s_st hS ?_; try cbv)
              | (refine s_sbr hS ?_ ?_ <;> intro h <;> (try cbv) <;> try exact s_ab h)
              | (refine s_sta hS ?_; intro _ _; try cbv)
              | (refine s_stc hS ?_; try cbv))
            refine rowO hS hG hy g0 ?_
            cbv
            refine s_br hS ?_ ?_ <;> intro h6 <;> cbv
            · repeat' (first
              | (refine s_st hS ?_; try cbv)
              | (refine s_sbr hS ?_ ?_ <;> intro h <;> (try cbv) <;> try exact s_ab h)
              | (refine s_sta hS ?_; intro _ _; try cbv)
              | (refine s_stc hS ?_; try cbv)
              | (refine rowT hS hF hx g0 ?_; cbv))
              refine tbits_u hS (by omega) fun F3 n3 st3 hF3 hn3 => ?_
              have hwv : w.getD i.toNat false = true := by rw [List.getD_eq_getElem?_getD, hy, h6]; rfl
              rw [hwv] at hst
              have el : ilen (encW true x) ≤ 2000 := encW_len (by omega)
              have e3 : S.sub F3 0 n3 1 = cellsB (encW true x) := (sub_all hS hF3 hn3).trans hF3.symm
              have hn3' : n3 = ilen (encW true x) := hn3
              have a3 : S.app H (S.sub F3 0 n3 1) = cellsB (B ++ encW true x) := app_cells hS g6 e3
              have l0 := ilen_nn B
              have l3 := ilen_nn (encW true x)
              cbv
              repeat' (first
                | (refine s_st hS ?_; try cbv)
                | (refine s_sbr hS ?_ ?_ <;> intro h <;> (try cbv) <;> try exact s_ab h)
                | (refine s_sta hS ?_; intro _ _; try cbv)
                | (refine s_stc hS ?_; try cbv)
                | (refine s_flen hS (by rw [hH]; omega) ?_; cbv))
              rename_i i2 hi2
              obtain ⟨ln2, h_ln2⟩ : ∃ ln2, ln2 = ln + n3 := ⟨_, rfl⟩
              obtain ⟨s2, h_s2⟩ : ∃ s2, s2 = S.flen H := ⟨_, rfl⟩
              obtain ⟨B2, h_B2⟩ : ∃ B2, B2 = B ++ encW true x := ⟨_, rfl⟩
              obtain ⟨H2, h_H2⟩ : ∃ H2, H2 = cellsB B2 := ⟨_, rfl⟩
              have hsm : small l i2 = true := by rw [hi2]; exact all_next hx g0 g5 (decide_eq_true (by omega))
              have hbb : SubB (.r false false (.y (S.flen H)) 1 (S.app H (S.sub F3 0 n3 1))) (.r false false (.y s2) 1 H2) := by
                rw [a3, h_H2, h_B2, h_s2]; exact .rfl
              refine ⟨(i2, ln2, s2, B2, H2), by dsimp only; omega, ⟨by dsimp only; omega, by dsimp only; omega, ?_, ?_, ?_, hsm, h_H2⟩, rfl, ?_, ?_, ?_⟩
              · dsimp only; rw [h_ln2, g2, hn3', h_B2, ilen_app]
              · dsimp only; omega
              · dsimp only; rw [h_B2, List.append_assoc, hi2, ← hst, g4]
              · cbv; (repeat' (first | exact sub_any | exact Sub.rfl | exact SubL.nil | refine SubL.cons ?_ ?_ | exact sub_i rfl | exact sub_sl rfl (by simp only [Z.v, ← hS, Int.ofNat_eq_natCast, cr, Bool.not_eq_true', Bool.not_eq_false', decide_eq_true_eq, decide_eq_false_iff_not, beq_iff_eq, beq_eq_false_iff_ne, ne_eq]; omega)))
              · cbv; exact ⟨.rfl, .rfl, hbb, trivial⟩
              · cbv

            · repeat' (first
              | (refine s_st hS ?_; try cbv)
              | (refine s_sbr hS ?_ ?_ <;> intro h <;> (try cbv) <;> try exact s_ab h)
              | (refine s_sta hS ?_; intro _ _; try cbv)
              | (refine s_stc hS ?_; try cbv)
              | (refine rowT hS hF hx g0 ?_; cbv))
              refine tplain_u hS (by omega) fun F3 n3 st3 hF3 hn3 => ?_
              have hwv : w.getD i.toNat false = false := by rw [List.getD_eq_getElem?_getD, hy, h6]; rfl
              rw [hwv] at hst
              have el : ilen (encW false x) ≤ 2000 := encW_len (by omega)
              have e3 : S.sub F3 0 n3 1 = cellsB (encW false x) := (sub_all hS hF3 hn3).trans hF3.symm
              have hn3' : n3 = ilen (encW false x) := hn3
              have a3 : S.app H (S.sub F3 0 n3 1) = cellsB (B ++ encW false x) := app_cells hS g6 e3
              have l0 := ilen_nn B
              have l3 := ilen_nn (encW false x)
              cbv
              repeat' (first
                | (refine s_st hS ?_; try cbv)
                | (refine s_sbr hS ?_ ?_ <;> intro h <;> (try cbv) <;> try exact s_ab h)
                | (refine s_sta hS ?_; intro _ _; try cbv)
                | (refine s_stc hS ?_; try cbv)
                | (refine s_flen hS (by rw [hH]; omega) ?_; cbv))
              rename_i i2 hi2
              obtain ⟨ln2, h_ln2⟩ : ∃ ln2, ln2 = ln + n3 := ⟨_, rfl⟩
              obtain ⟨s2, h_s2⟩ : ∃ s2, s2 = S.flen H := ⟨_, rfl⟩
              obtain ⟨B2, h_B2⟩ : ∃ B2, B2 = B ++ encW false x := ⟨_, rfl⟩
              obtain ⟨H2, h_H2⟩ : ∃ H2, H2 = cellsB B2 := ⟨_, rfl⟩
              have hsm : small l i2 = true := by rw [hi2]; exact all_next hx g0 g5 (decide_eq_true (by omega))
              have hbb : SubB (.r false false (.y (S.flen H)) 1 (S.app H (S.sub F3 0 n3 1))) (.r false false (.y s2) 1 H2) := by
                rw [a3, h_H2, h_B2, h_s2]; exact .rfl
              refine ⟨(i2, ln2, s2, B2, H2), by dsimp only; omega, ⟨by dsimp only; omega, by dsimp only; omega, ?_, ?_, ?_, hsm, h_H2⟩, rfl, ?_, ?_, ?_⟩
              · dsimp only; rw [h_ln2, g2, hn3', h_B2, ilen_app]
              · dsimp only; omega
              · dsimp only; rw [h_B2, List.append_assoc, hi2, ← hst, g4]
              · cbv; (repeat' (first | exact sub_any | exact Sub.rfl | exact SubL.nil | refine SubL.cons ?_ ?_ | exact sub_i rfl | exact sub_sl rfl (by simp only [Z.v, ← hS, Int.ofNat_eq_natCast, cr, Bool.not_eq_true', Bool.not_eq_false', decide_eq_true_eq, decide_eq_false_iff_not, beq_iff_eq, beq_eq_false_iff_ne, ne_eq]; omega)))
              · cbv; exact ⟨.rfl, .rfl, hbb, trivial⟩
              · cbv

          · repeat' (first
            | (refine s_st hS ?_; try cbv)
            | (refine s_sbr hS ?_ ?_ <;> intro h <;> (try cbv) <;> try exact s_ab h)
            | (refine s_sta hS ?_; intro _ _; try cbv)
            | (refine s_stc hS ?_; try cbv)
            | (refine rowT hS hF hx g0 ?_; cbv))
            refine tplain_u hS (by omega) fun F3 n3 st3 hF3 hn3 => ?_
            have hwv : w.getD i.toNat false = false := by rw [List.getD_eq_getElem?_getD, List.getElem?_eq_none (by unfold ilen at hm'; omega)]; rfl
            rw [hwv] at hst
            have el : ilen (encW false x) ≤ 2000 := encW_len (by omega)
            have e3 : S.sub F3 0 n3 1 = cellsB (encW false x) := (sub_all hS hF3 hn3).trans hF3.symm
            have hn3' : n3 = ilen (encW false x) := hn3
            have a3 : S.app H (S.sub F3 0 n3 1) = cellsB (B ++ encW false x) := app_cells hS g6 e3
            have l0 := ilen_nn B
            have l3 := ilen_nn (encW false x)
            cbv
            repeat' (first
              | (refine s_st hS ?_; try cbv)
              | (refine s_sbr hS ?_ ?_ <;> intro h <;> (try cbv) <;> try exact s_ab h)
              | (refine s_sta hS ?_; intro _ _; try cbv)
              | (refine s_stc hS ?_; try cbv)
              | (refine s_flen hS (by rw [hH]; omega) ?_; cbv))
            rename_i i2 hi2
            obtain ⟨ln2, h_ln2⟩ : ∃ ln2, ln2 = ln + n3 := ⟨_, rfl⟩
            obtain ⟨s2, h_s2⟩ : ∃ s2, s2 = S.flen H := ⟨_, rfl⟩
            obtain ⟨B2, h_B2⟩ : ∃ B2, B2 = B ++ encW false x := ⟨_, rfl⟩
            obtain ⟨H2, h_H2⟩ : ∃ H2, H2 = cellsB B2 := ⟨_, rfl⟩
            have hsm : small l i2 = true := by rw [hi2]; exact all_next hx g0 g5 (decide_eq_true (by omega))
            have hbb : SubB (.r false false (.y (S.flen H)) 1 (S.app H (S.sub F3 0 n3 1))) (.r false false (.y s2) 1 H2) := by
              rw [a3, h_H2, h_B2, h_s2]; exact .rfl
            refine ⟨(i2, ln2, s2, B2, H2), by dsimp only; omega, ⟨by dsimp only; omega, by dsimp only; omega, ?_, ?_, ?_, hsm, h_H2⟩, rfl, ?_, ?_, ?_⟩
            · dsimp only; rw [h_ln2, g2, hn3', h_B2, ilen_app]
            · dsimp only; omega
            · dsimp only; rw [h_B2, List.append_assoc, hi2, ← hst, g4]
            · cbv; (repeat' (first | exact sub_any | exact Sub.rfl | exact SubL.nil | refine SubL.cons ?_ ?_ | exact sub_i rfl | exact sub_sl rfl (by simp only [Z.v, ← hS, Int.ofNat_eq_natCast, cr, Bool.not_eq_true', Bool.not_eq_false', decide_eq_true_eq, decide_eq_false_iff_not, beq_iff_eq, beq_eq_false_iff_ne, ne_eq]; omega)))
            · cbv; exact ⟨.rfl, .rfl, hbb, trivial⟩
            · cbv

      · obtain rfl : i = n := by omega
        have hB : B = restF l w 0 := by rw [← g4, restF_end (by omega), List.append_nil]
        have hbd : ∀ j, 0 ≤ j → ilen (restF l w j) ≤ 80000 := fun j hj => by
          have := restF_bd (l := l) (w := w) hj
          rw [← hB] at this; omega
        rw [hn'] at g5
        have hsm : ∀ {j : Int} {x : List UInt8}, l[j.toNat]? = some x → ilen x ≤ 400 := fun hx => small_at g5 hx
        clear g5
        repeat' (first
          | (refine s_st hS ?_; try cbv)
          | (refine s_sbr hS ?_ ?_ <;> intro h <;> (try cbv) <;> try exact s_ab h)
          | (refine s_sta hS ?_; intro _ _; try cbv)
          | (refine s_stc hS ?_; try cbv))
        refine s_loop_ren hS 3 I.dead_causeylaw08_TextMany_0 (fun x : Int × Int × Int × List SV => 0 ≤ x.1 ∧ x.1 ≤ i ∧ x.2.1 = ilen (restF l w x.1) ∧ x.2.2.2 = cellsB (restF l w x.1))
          (fun x => [(7, .i .i64 (.y x.1)), (5, .sl 2 1 (.l 0) (.y x.2.1) none)]) (fun x => [(2, .r false false (.y x.2.2.1) 1 x.2.2.2)])
          (fun x => (i - x.1).toNat) (0, ln, st, H) rfl rfl (fun _ => rfl) ⟨⟨Int.le_refl _, by dsimp only; omega, by dsimp only; rw [g2, hB], by dsimp only; rw [g6, hB]⟩, rfl, ?_, ?_, ?_⟩ ?_
        · cbv; (repeat' (first | exact sub_any | exact Sub.rfl | exact SubL.nil | refine SubL.cons ?_ ?_ | exact sub_i rfl | exact sub_sl rfl rfl))
        · cbv; exact ⟨.rfl, .rfl, .rfl, trivial⟩
        · cbv
        · intro x
          obtain ⟨j, nn, s, D⟩ := x
          intro hx
          dsimp only at hx
          cbv
          obtain ⟨k0, k1, k2, k3⟩ := hx
          refine s_sbrr hS ?_ ?_ <;> intro h <;> cbv
          · obtain ⟨x, hx⟩ := at_ex (l := l) (i := j) (by omega) (by omega)
            have hst := restF_step (w := w) hx k0
            have hbj := hbd j k0
            refine ttake_k hS (b := restF l w j) (byS x) (restF l w (j + 1)) 0 x (by rw [hst]; exact encW_take _ (hsm hx)) (strB_byS x) (encF_ok _ _) (by omega) rfl (by rw [k3]; exact .rfl) k2 fun D2 n2 s2 hD2 hn2 => ?_
            cbv
            repeat' (first
              | (refine s_st hS ?_; try cbv)
              | (refine s_sbr hS ?_ ?_ <;> intro h <;> (try cbv) <;> try exact s_ab h)
              | (refine s_sta hS ?_; intro _ _; try cbv)
              | (refine s_stc hS ?_; try cbv)
              | (refine rowT hS hF hx k0 ?_; cbv))
            rename_i j2 hj2
            refine ⟨(j2, n2, s2, D2), 2, 3, by decide, by decide, by dsimp only; omega, ⟨by dsimp only; omega, by dsimp only; omega, by dsimp only; rw [hj2, hn2], by dsimp only; rw [hj2, hD2]⟩, rfl, ?_, ?_, ?_⟩
            · cbv; all_goals exact s_sA
            · cbv
              exact ⟨.inr ⟨.rfl, pl_m hpl, trivial⟩, .inr ⟨.rfl, pl_m hpw, trivial⟩, .inr ⟨.rfl, pl_m (by rw [← hD2]; exact cellsB_plain _), trivial⟩, trivial⟩
            · cbv
          · obtain rfl : j = i := by omega
            have hnn : nn = 0 := by rw [k2, restF_end (by omega)]; rfl
            repeat' (first
              | (refine s_st hS ?_; try cbv)
              | (refine s_sbr hS ?_ ?_ <;> intro h <;> (try cbv) <;> try exact s_ab h)
              | (refine s_sta hS ?_; intro _ _; try cbv)
              | (refine s_stc hS ?_; try cbv)
              | (refine wakes8_u hS ?_; cbv))
            exact .rfl
end Cz
namespace Go.Proofs.Ytjnpmipoenijdaa
open Go Cz Go.ChangeShapes Go.WideShapes Go.ChangeAt Go.RowKit
set_option linter.unusedSimpArgs false
set_option linter.unusedVariables false

theorem own : ownKnob Try.prog.godebug = none := by kernel_rfl
theorem laidOut : laidOutB Try.prog = true := by kernel_rfl
theorem pks_0 : pks Try.prog 3 9 = some [.s] := by kernel_rfl
theorem pks_1 : pks Try.prog 3 4 = some [.b] := by kernel_rfl

set_option maxRecDepth 100000 in
theorem tmany_lifted (os : Os) (started : os.Started) (H : Type) (enc : TypeId × Value → H) :
    ReturnsInHanded {} Try.checked os 11 .any (Rows.textManySpec.pre6 enc Try.prog Try.f11 Rows.textManyRow.domain false) (Rows.textManySpec.post enc Try.prog Try.f11 false true false false) := by
  refine returnsInHanded_of_change (C := Try.checked) own started (by kernel_rfl) Try.func11
    (ChangeSpec.witness6 (enc := enc) (C := Try.checked) false ⟨#[], #[.slice none 0 0, .slice none 0 0], []⟩ 8 (by kernel_rfl) (by kernel_rfl) (by kernel_rfl) (by kernel_rfl)) ?_
  intro W base args ds gs before hval0 hW hcnd _
  have hval : ∀ (j : Nat) t v, Try.f11.params[j]? = some t → args[j]? = some v → Value.okWide Try.prog W .any base t v := hval0
  have hW' := hW
  obtain ⟨p, q, hA0, hV, hbef, hfz, hnd⟩ := hW
  have hA : DataW.TrodAll enc Try.prog W 0 (fun _ => true) true Try.f11.params.toList args.toList ds p := hA0
  rw [Try.params11] at hA hval
  obtain ⟨v0, vs0, d0, ds0, p0, q0, hargs, rfl, rfl, h0, r0⟩ := trodAll_cons hA
  obtain ⟨v1, vs1, d1, ds1, p1, q1, rfl, rfl, rfl, h1, r1⟩ := trodAll_cons r0
  obtain ⟨rfl, rfl, rfl⟩ := trodAll_nil r1
  obtain rfl : args = #[v0, v1] := by cases args; simp_all
  obtain ⟨rfl, rfl⟩ := trodVars_none hV
  obtain ⟨c0, len0, cap0, rfl⟩ := okWide_slice Try.underlying49 (hval 0 49 v0 rfl rfl)
  obtain ⟨c1, len1, cap1, rfl⟩ := okWide_slice Try.underlying50 (hval 1 50 v1 rfl rfl)
  obtain ⟨fu0, hf0⟩ := h0
  obtain ⟨fu1, hf1⟩ := h1
  obtain ⟨l, vw0, good0, hb0, hv0, hd0⟩ := open_rows (ec := st1) (good := fun _ => True) Try.underlying49 pks_0 (by kernel_rfl) (by decide) (fun svs h => pkS h) (fun _ => rfl) hf0
  obtain ⟨w, vw1, good1, hb1, hv1, hd1⟩ := open_rows (ec := bo1) (good := fun _ => True) Try.underlying50 pks_1 (by kernel_rfl) (by decide) (fun svs h => pkB h) (fun _ => rfl) hf1
  have hR : Rel Try.prog W.heap.size W (upd (upd (fun _ => []) 0 [vw0]) 1 [vw1]) [.r true false (.l 0) 1 (cellsT l), .r true false (.l 0) 1 (cellsO w)] W := (((Rel.start W).addRo (sz := 1) (by decide) (cellsT_plain l) hb0 hv0 (by simp [Blk.wr])).addRo (sz := 1) (by decide) (cellsO_plain w) hb1 hv1 (by simp [Blk.wr]))
  have hd' : denL (upd (upd (fun _ => []) 0 [vw0]) 1 [vw1]) [.sl 0 1 (.l 0) (.y (ilen l)) none, .sl 1 1 (.l 0) (.y (ilen w)) none] [Value.slice c0 len0 cap0, Value.slice c1 len1 cap1] := by
    simp only [denL, den]
    exact ⟨by have := hd0 (upd (upd (fun _ => []) 0 [vw0]) 1 [vw1]) 0 (by simp [upd]); simp only [den] at this; exact this, by have := hd1 (upd (upd (fun _ => []) 0 [vw0]) 1 [vw1]) 1 (by simp [upd]); simp only [den] at this; exact this, trivial⟩
  refine (law_calls I.fn_causeylaw08_TextMany (tmany_law l w) hR hd').mono fun e W' ⟨he, hb⟩ => ?_
  subst he
  exact ⟨_, rfl, post_law laidOut hW' rfl (by kernel_rfl) rfl Try.underlying4 rfl hb⟩

theorem tmany_holds : Rows.TextManySaid :=
  OpenClaim.holds_of_wide 11 Try.f11 rfl rfl rfl rfl rfl rfl rfl ⟨rfl, rfl, rfl, rfl, rfl⟩ rfl rfl rfl rfl rfl (by kernel_rfl) Try.func11 (by kernel_rfl)
    (of_decide_eq_true (by kernel_rfl)) (by unfold Func.isWrapper; first | (rw [if_pos (by decide +kernel)]; kernel_rfl) | (rw [if_neg (by decide +kernel)]; exact ⟨rfl, rfl⟩))
    (fun os started H enc _ => tmany_lifted os started H enc)
#print axioms tmany_holds
end Go.Proofs.Ytjnpmipoenijdaa
