/- What is found is that field, or one of its name, at the least index: the law TableFinds returns true for every input. No condition. -/
import Derived.Test.YtdbnbknghhpbiaaDoorKTb6
import Derived.LaidMore
import Derived.Lay
import Derived.SevenTiedAt
import Derived.Stop.Joined
import Derived.Test.YtdbnbknghhpbiaaDoorRows
import Derived.Test.YtdbnbknghhpbiaaDoorCards
import Derived.Test.YtdbnbknghhpbiaaDoorTie
namespace Cz
open Go Go.RowKit Go.Proofs
set_option linter.unusedSimpArgs false
set_option linter.unusedVariables false
set_option maxRecDepth 100000
set_option maxHeartbeats 4000000
namespace Tb
theorem find_c {S : Sy} {bl : List Blk} {K : SV → List Blk → Prop} {cs : List SV} {mx : Int} {l : List Fd} (hS : S0 Tryd.prog = S) {a b : List UInt8} (hc : TabC bl cs mx l) (hm : ilen l ≤ 100000000)
    (h1 : ∀ n, findR l (a, b) = (n, true) → K (.tp [.i .i64 (.y n), .tt]) bl) (h2 : ∀ n, findR l (a, b) = (n, false) → K (.tp [.i .i64 (.y n), .ff]) bl) : S.call 34 [.ag cs, .ag [.s a, .s b]] bl K := by
  cases hr : findR l (a, b) with
  | mk n t => cases t with
    | true => exact use_tmp hS (call_post (find_f hr hm) fun x _ h => ⟨x, .rfl, h.trans (sub_tp (.cons .rfl (.cons (sub_b_tt rfl) .nil)))⟩) (hc.fzi .rfl rfl) rfl rfl (h1 n hr)
    | false => exact use_tmp hS (call_post (find_f hr hm) fun x _ h => ⟨x, .rfl, h.trans (sub_tp (.cons .rfl (.cons (sub_b_ff rfl) .nil)))⟩) (hc.fzi .rfl rfl) rfl rfl (h2 n hr)
theorem fst_before {p : Fd → Bool} {L : List Fd} {i : Int} {x : Fd} (hx : L[(i - 1).toNat]? = some x) (h0 : 1 ≤ i) (hp : p x = true) : fstI p L 1 ≠ 0 ∧ fstI p L 1 ≤ i := by
  have h := fst_next (p := p) hx (by omega)
  rw [show i - 1 + 1 = i by omega] at h
  have hr := fst_range p (L.take (i - 1).toNat) 1 (Int.le_refl _)
  have hl := (List.getElem?_eq_some_iff.1 hx).1
  rw [List.length_take] at hr
  have e : fstI p L 1 = if fstI p (L.take i.toNat) 1 ≠ 0 then fstI p (L.take i.toNat) 1 else fstI p (L.drop i.toNat) (1 + ((L.take i.toNat).length : Int)) := by
    conv => lhs; rw [← List.take_append_drop i.toNat L]
    exact fstI_app _ _ _ _ (Int.le_refl _)
  rw [h] at e
  by_cases h1 : fstI p (L.take (i - 1).toNat) 1 = 0
  · rw [if_neg (c := fstI p (L.take (i - 1).toNat) 1 ≠ 0) (by omega), if_pos hp, if_pos (by omega)] at e
    omega
  · rw [if_pos (c := fstI p (L.take (i - 1).toNat) 1 ≠ 0) h1, if_pos h1] at e
    omega
theorem fst_at {p : Fd → Bool} : ∀ {L : List Fd} {k i : Int} {x : Fd}, 1 ≤ k → fstI p L k = i → i ≠ 0 → L[(i - k).toNat]? = some x → p x = true
  | [], k, i, x, _, h, h0, _ => by simp [fstI] at h; omega
  | y :: L, k, i, x, hk, h, h0, hx => by
    simp only [fstI] at h
    split at h
    · subst h
      rw [Int.sub_self] at hx
      simp at hx
      rw [← hx]; assumption
    · have hr := fst_range p L (k + 1) (by omega)
      have h2 := hr.2.2 (by omega)
      refine fst_at (k := k + 1) (by omega) h h0 ?_
      rw [show (i - k).toNat = (i - (k + 1)).toNat + 1 by omega] at hx
      simpa using hx
theorem find_what {l : List Fd} {a b : List UInt8} {n : Int} {t : Bool} (hr : findR l (a, b) = (n, t)) :
    0 ≤ n ∧ n ≤ 20 + ilen l ∧ (t = true → n ≠ 0) ∧ ∀ (i : Int) (c d : List UInt8), 1 ≤ i → (allF l)[(i - 1).toNat]? = some (c, d) →
      ((c, d) = (a, b) → t = true ∧ n ≤ i) ∧ (c = a → n ≠ 0 ∧ (t = true ∨ n ≤ i)) ∧ (i = n → c = a ∧ (t = true ↔ (c, d) = (a, b))) := by
  have hal := allF_len l
  have r1 := fst_range (fun x => x == (a, b)) (allF l) 1 (Int.le_refl _)
  have r2 := fst_range (fun x => x.1 == a) (allF l) 1 (Int.le_refl _)
  unfold ilen at hal
  unfold findR at hr
  dsimp only at hr
  split at hr
  · rename_i h
    cases hr
    refine ⟨r1.1, by unfold ilen; omega, fun _ => h, fun i c d h1 hx => ⟨fun e => ⟨rfl, (fst_before hx h1 (by simp [e])).2⟩, fun e => ⟨h, .inl rfl⟩, fun e => ?_⟩⟩
    have := fst_at (i := i) (x := (c, d)) (Int.le_refl _) e.symm (by omega) hx
    simp only [beq_iff_eq] at this
    exact ⟨by cases this; rfl, fun _ => this, fun _ => rfl⟩
  · rename_i h
    cases hr
    refine ⟨r2.1, by unfold ilen; omega, fun e => by (cases e), fun i c d h1 hx => ⟨fun e => ?_, fun e => ?_, fun e => ?_⟩⟩
    · exact absurd (fst_before (p := fun x => x == (a, b)) hx h1 (by simp [e])).1 h
    · have := fst_before (p := fun x => x.1 == a) hx h1 (by simp [e])
      exact ⟨this.1, .inr this.2⟩
    · have := fst_at (p := fun x => x.1 == a) (i := i) (x := (c, d)) (Int.le_refl _) e.symm (by omega) hx
      simp only [beq_iff_eq] at this
      refine ⟨this, fun e' => by (cases e'), fun e' => ?_⟩
      exact absurd (fst_before (p := fun x => x == (a, b)) hx h1 (by simp [e'])).1 h
theorem finds_f {mx : Int} {l : List Fd} {a b : List UInt8} (hs : shortL l) (hm0 : ilen l ≤ 140737488355328) (hs1 : shortL [(a, b)]) : (S0 Tryd.prog).call 6 [tabV mx l, .ag [.s a, .s b]] [] (fun y _ => Sub y .tt) := by
  unfold tabV
  generalize hF : cellsF l = F
  obtain ⟨m, hm⟩ : ∃ m, m = ilen l := ⟨_, rfl⟩
  have h0 := ilen_nn l
  have hsz1 : fullL [(a, b)] = szF (a, b) := by simp [fullL]
  rw [← hm] at h0 ⊢
  generalize hS : S0 Tryd.prog = S
  refine call_in' hS I.fn_causeylaw09_TableFinds ?_
  cbv
  refine great_u hS (.cons (.sub (sub_v hF.symm hm) rfl) .nil) hs hm0 (fun hg => ?_) (fun hg1 hg2 => ?_) <;> cbv
  · refine wakes_u hS ?_
    cbv
    exact .rfl
  refine great_u hS (l := [(a, b)]) (.cons (row_tab (l := [(a, b)]) (m := 1) (n := .y 1) (lget_some rfl (by simp)) rfl rfl rfl rfl) .nil) hs1 (by rw [show ilen [(a, b)] = 1 from rfl]; omega) (fun hg => ?_) (fun hg3 hg4 => ?_) <;> cbv
  · refine wakes_u hS ?_
    cbv
    exact .rfl
  refine find_c hS (.v (z := .y mx) (n := .y m) rfl hF hm) (by omega) (fun n hr => ?_) (fun n hr => ?_) <;> cbv
  · obtain ⟨w0, w1, w2, w3⟩ := find_what hr
    have w4 := w2 rfl
    clear w2 hr
    repeat' (first
      | (refine s_eqs hS rfl ?_; try cbv)
      | (refine s_ck hS ?_; try cbv)
      | (refine s_sbr hS ?_ ?_ <;> intro h <;> (try cbv) <;> try exact s_ab h)
      | (refine s_ad hS ?_; intro _ _; try cbv)
      | (refine s_sb hS ?_; intro _ _; try cbv)
      | (refine s_stl hS ?_; intro _ _; try cbv)
      | (refine s_stc hS ?_; try cbv)
      | (refine s_eqo hS ?_; try cbv)
      | (refine s_lk hS ?_; try cbv)
      | (refine s_mu hS ?_; try cbv)
      | fail)
    refine s_loop_up hS 3 I.dead_causeylaw09_TableFinds_0 (fun x : Int => 1 ≤ x ∧ x ≤ m + 21) (fun x => [(7, .i .i64 (.y x))]) (fun _ => []) (fun x => (m + 21 - x).toNat) 1 rfl ⟨⟨Int.le_refl _, by omega⟩, rfl, ?_, ?_, by cbv⟩ ?_
    · cbv; all_goals exact s_sA
    · cbv; all_goals exact s_bA
    intro i hx
    cbv
    obtain ⟨k0, k1⟩ := hx
    refine s_sta hS ?_
    intro q hq
    cbv
    refine s_sbr hS ?_ ?_ <;> intro h <;> cbv
    · obtain ⟨c, d, hp, hat⟩ := at_all (l := l) (i := i) k0 (by omega)
      obtain ⟨g1, g2, g3⟩ := w3 i c d k0 hp
      clear w3 hp
      refine at_l hS (.v (z := .y mx) (n := .y m) rfl hF hm) hat (by omega) ?_
      cbv
      by_cases hab : (c, d) = (a, b)
      · have g4 := g1 hab
        cases hab
        clear hat g1 g2 g3
        repeat' (first
          | (refine s_eqs hS rfl ?_; try cbv)
          | (refine s_ck hS ?_; try cbv)
          | (refine s_sbr hS ?_ ?_ <;> intro h <;> (try cbv) <;> try exact s_ab h)
          | (refine s_ad hS ?_; intro _ _; try cbv)
          | (refine s_sb hS ?_; intro _ _; try cbv)
          | (refine s_stl hS ?_; intro _ _; try cbv)
          | (refine s_stc hS ?_; try cbv)
          | (refine s_eqo hS ?_; try cbv)
          | (refine s_lk hS ?_; try cbv)
          | (refine s_mu hS ?_; try cbv)
          | fail)
        all_goals
          rename_i i2 hi2
          refine ⟨i2, by omega, ⟨by omega, by omega⟩, rfl, ?_, ?_, by cbv⟩
          · cbv; all_goals exact s_sA
          · cbv; all_goals exact s_bA
      · have hin : i ≠ n := fun e => hab ((g3 e).2.1 rfl)
        clear g3
        by_cases hca : c = a
        · subst hca
          have g4 := g2 rfl
          clear hat g1 g2
          repeat' (first
            | (refine s_eqs hS rfl ?_; try cbv)
            | (refine s_ck hS ?_; try cbv)
            | (refine s_sbr hS ?_ ?_ <;> intro h <;> (try cbv) <;> try exact s_ab h)
            | (refine s_ad hS ?_; intro _ _; try cbv)
            | (refine s_sb hS ?_; intro _ _; try cbv)
            | (refine s_stl hS ?_; intro _ _; try cbv)
            | (refine s_stc hS ?_; try cbv)
            | (refine eqFd hS (fun e => ?_) (fun e => ?_) <;> cbv <;> try exact absurd e hab)
            | (refine s_eqo hS ?_; try cbv)
            | (refine s_lk hS ?_; try cbv)
            | (refine s_mu hS ?_; try cbv)
            | fail)
          all_goals
            rename_i i2 hi2
            refine ⟨i2, by omega, ⟨by omega, by omega⟩, rfl, ?_, ?_, by cbv⟩
            · cbv; all_goals exact s_sA
            · cbv; all_goals exact s_bA
        · clear hat g1 g2
          repeat' (first
            | (refine s_eqs hS rfl ?_; try cbv)
            | (refine s_ck hS ?_; try cbv)
            | (refine s_sbr hS ?_ ?_ <;> intro h <;> (try cbv) <;> try exact s_ab h)
            | (refine s_ad hS ?_; intro _ _; try cbv)
            | (refine s_sb hS ?_; intro _ _; try cbv)
            | (refine s_stl hS ?_; intro _ _; try cbv)
            | (refine s_stc hS ?_; try cbv)
            | (refine eqFd hS (fun e => ?_) (fun e => ?_) <;> cbv <;> try exact absurd e hab)
            | (refine s_eqo hS ?_; try cbv)
            | (refine s_lk hS ?_; try cbv)
            | (refine s_mu hS ?_; try cbv)
            | fail)
          all_goals
            rename_i i2 hi2
            refine ⟨i2, by omega, ⟨by omega, by omega⟩, rfl, ?_, ?_, by cbv⟩
            · cbv; all_goals exact s_sA
            · cbv; all_goals exact s_bA
    · refine at_l hS (.v (z := .y mx) (n := .y m) rfl hF hm) (at_none (.inl (by decide))) (by omega) ?_
      cbv
      repeat' (first
        | (refine s_eqs hS rfl ?_; try cbv)
        | (refine s_ck hS ?_; try cbv)
        | (refine s_sbr hS ?_ ?_ <;> intro h <;> (try cbv) <;> try exact s_ab h)
        | (refine s_ad hS ?_; intro _ _; try cbv)
        | (refine s_sb hS ?_; intro _ _; try cbv)
        | (refine s_stl hS ?_; intro _ _; try cbv)
        | (refine s_stc hS ?_; try cbv)
        | (refine s_eqo hS ?_; try cbv)
        | (refine s_lk hS ?_; try cbv)
        | (refine s_mu hS ?_; try cbv)
        | fail)
      rename_i z hz
      refine at_l hS (.v (z := .y mx) (n := .y m) rfl hF hm) (at_none (.inr (by dsimp only [Z.v]; omega))) (by omega) ?_
      cbv
      repeat' (first
        | (refine s_eqs hS rfl ?_; try cbv)
        | (refine s_ck hS ?_; try cbv)
        | (refine s_sbr hS ?_ ?_ <;> intro h <;> (try cbv) <;> try exact s_ab h)
        | (refine s_ad hS ?_; intro _ _; try cbv)
        | (refine s_sb hS ?_; intro _ _; try cbv)
        | (refine s_stl hS ?_; intro _ _; try cbv)
        | (refine s_stc hS ?_; try cbv)
        | (refine wakes_u hS ?_; cbv)
        | (refine s_eqo hS ?_; try cbv)
        | (refine s_lk hS ?_; try cbv)
        | (refine s_mu hS ?_; try cbv)
        | fail)
      all_goals exact .rfl
  · obtain ⟨w0, w1, w2, w3⟩ := find_what hr
    clear w2 hr
    repeat' (first
      | (refine s_eqs hS rfl ?_; try cbv)
      | (refine s_ck hS ?_; try cbv)
      | (refine s_sbr hS ?_ ?_ <;> intro h <;> (try cbv) <;> try exact s_ab h)
      | (refine s_ad hS ?_; intro _ _; try cbv)
      | (refine s_sb hS ?_; intro _ _; try cbv)
      | (refine s_stl hS ?_; intro _ _; try cbv)
      | (refine s_stc hS ?_; try cbv)
      | (refine s_eqo hS ?_; try cbv)
      | (refine s_lk hS ?_; try cbv)
      | (refine s_mu hS ?_; try cbv)
      | fail)
    all_goals
      refine s_loop_up hS 3 I.dead_causeylaw09_TableFinds_0 (fun x : Int => 1 ≤ x ∧ x ≤ m + 21) (fun x => [(7, .i .i64 (.y x))]) (fun _ => []) (fun x => (m + 21 - x).toNat) 1 rfl ⟨⟨Int.le_refl _, by omega⟩, rfl, ?_, ?_, by cbv⟩ ?_
      · cbv; all_goals exact s_sA
      · cbv; all_goals exact s_bA
      intro i hx
      cbv
      obtain ⟨k0, k1⟩ := hx
      refine s_sta hS ?_
      intro q hq
      cbv
      refine s_sbr hS ?_ ?_ <;> intro h <;> cbv
      · obtain ⟨c, d, hp, hat⟩ := at_all (l := l) (i := i) k0 (by omega)
        obtain ⟨g1, g2, g3⟩ := w3 i c d k0 hp
        clear w3 hp
        refine at_l hS (.v (z := .y mx) (n := .y m) rfl hF hm) hat (by omega) ?_
        cbv
        by_cases hab : (c, d) = (a, b)
        · exact absurd (g1 hab).1 (by decide)
        · by_cases hca : c = a
          · subst hca
            have g5 := (g2 rfl).2.resolve_left (by decide)
            have g6 := (g2 rfl).1
            by_cases hn0 : n = 0
            · exact absurd hn0 g6
            clear g3
            clear hat g1 g2
            repeat' (first
              | (refine s_eqs hS rfl ?_; try cbv)
              | (refine s_ck hS ?_; try cbv)
              | (refine s_sbr hS ?_ ?_ <;> intro h <;> (try cbv) <;> try exact s_ab h)
              | (refine s_ad hS ?_; intro _ _; try cbv)
              | (refine s_sb hS ?_; intro _ _; try cbv)
              | (refine s_stl hS ?_; intro _ _; try cbv)
              | (refine s_stc hS ?_; try cbv)
              | (refine eqFd hS (fun e => ?_) (fun e => ?_) <;> cbv <;> try exact absurd e hab)
              | (refine s_eqo hS ?_; try cbv)
              | (refine s_lk hS ?_; try cbv)
              | (refine s_mu hS ?_; try cbv)
              | fail)
            all_goals
              rename_i i2 hi2
              refine ⟨i2, by omega, ⟨by omega, by omega⟩, rfl, ?_, ?_, by cbv⟩
              · cbv; all_goals exact s_sA
              · cbv; all_goals exact s_bA
          · have hin : i ≠ n := fun e => hca (g3 e).1
            clear hat g1 g2 g3
            repeat' (first
              | (refine s_sbr hS ?_ ?_ <;> intro h <;> (try cbv) <;> try first | exact absurd h hca | exact s_ab h)
              | (refine s_eqs hS rfl ?_; try cbv)
              | (refine s_ad hS ?_; intro _ _; try cbv)
              | (refine eqFd hS (fun e => ?_) (fun e => ?_) <;> cbv <;> try exact absurd e hab))
            all_goals
              rename_i i2 hi2
              refine ⟨i2, by omega, ⟨by omega, by omega⟩, rfl, ?_, ?_, by cbv⟩
              · cbv; all_goals exact s_sA
              · cbv; all_goals exact s_bA
      · refine at_l hS (.v (z := .y mx) (n := .y m) rfl hF hm) (at_none (.inl (by decide))) (by omega) ?_
        cbv
        repeat' (first
          | (refine s_eqs hS rfl ?_; try cbv)
          | (refine s_ck hS ?_; try cbv)
          | (refine s_sbr hS ?_ ?_ <;> intro h <;> (try cbv) <;> try exact s_ab h)
          | (refine s_ad hS ?_; intro _ _; try cbv)
          | (refine s_sb hS ?_; intro _ _; try cbv)
          | (refine s_stl hS ?_; intro _ _; try cbv)
          | (refine s_stc hS ?_; try cbv)
          | (refine s_eqo hS ?_; try cbv)
          | (refine s_lk hS ?_; try cbv)
          | (refine s_mu hS ?_; try cbv)
          | fail)
        rename_i z hz
        refine at_l hS (.v (z := .y mx) (n := .y m) rfl hF hm) (at_none (.inr (by dsimp only [Z.v]; omega))) (by omega) ?_
        cbv
        repeat' (first
          | (refine s_eqs hS rfl ?_; try cbv)
          | (refine s_ck hS ?_; try cbv)
          | (refine s_sbr hS ?_ ?_ <;> intro h <;> (try cbv) <;> try exact s_ab h)
          | (refine s_ad hS ?_; intro _ _; try cbv)
          | (refine s_sb hS ?_; intro _ _; try cbv)
          | (refine s_stl hS ?_; intro _ _; try cbv)
          | (refine s_stc hS ?_; try cbv)
          | (refine wakes_u hS ?_; cbv)
          | (refine s_eqo hS ?_; try cbv)
          | (refine s_lk hS ?_; try cbv)
          | (refine s_mu hS ?_; try cbv)
          | fail)
        all_goals exact .rfl
end Tb
end Cz
namespace Go.Proofs.YtdbnbknghhpbiaaDoor
open Go Cz Go.ChangeShapes Go.WideShapes Go.ChangeAt Go.RowKit
set_option linter.unusedSimpArgs false
set_option linter.unusedVariables false
theorem own : ownKnob Tryd.prog.godebug = Option.none := by kernel_rfl
theorem laidOut : laidOutB Tryd.prog = true := by kernel_rfl
theorem pk_tab : pks Tryd.prog 4 24 = some [.i .i64, .sl [.s, .s]] := by kernel_rfl
theorem pk_fd : pks Tryd.prog 4 26 = some [.s, .s] := by kernel_rfl
set_option maxRecDepth 100000 in
theorem finds_lifted (os : Os) (started : os.Started) (H : Type) (enc : TypeId × Value → H) :
    ReturnsInHanded {} Tryd.checked os 6 .any (fun w args => (Rows.tableFindsSpec.pre enc Tryd.prog Tryd.f6 Rows.tableFindsRow.domain false w args ∧ laidMetH Tryd.prog Rows.tableFindsRow.laid w) ∧ sizedMet enc Tryd.prog Tryd.f6 (OpenSpec.ofChange Rows.tableFindsSpec) false w args)
      (Rows.tableFindsSpec.post enc Tryd.prog Tryd.f6 false true false false) := by
  refine returnsInHanded_of_change_and (C := Tryd.checked) (X := fun w _ => laidMetH Tryd.prog Rows.tableFindsRow.laid w) (fun _ _ _ hh h => h.of_heap hh) own started (by kernel_rfl) Tryd.func6
    (ChangeSpec.witness_shaped (enc := enc) (C := Tryd.checked) (os := os) (X := fun w _ => laidMetH Tryd.prog Rows.tableFindsRow.laid w) false (World.laidAll Tryd.prog os Rows.tableFindsRow.laid) #[.agg #[.int .i64 0, .slice none 0 0], .agg #[.string ⟨#[]⟩, .string ⟨#[]⟩]] 8 (World.laidAll_os _ _ _)
      (World.shaped_of_ZipB (by kernel_rfl) (by kernel_rfl)) (by kernel_rfl) (by kernel_rfl) (by kernel_rfl)
      (by rw [MakeChecks.laidMetH_plain _ _ _ (by kernel_rfl)]; exact laidMet_laidAll _ (by kernel_rfl) (by kernel_rfl))) ?_
  intro W base args ds gs before hval0 hW _ hsz _ _
  have hval : ∀ (j : Nat) t v, Tryd.f6.params[j]? = some t → args[j]? = some v → Value.okWide Tryd.prog W .any base t v := hval0
  have hW' := hW
  obtain ⟨p, q, hA0, hV, hbef, hfz, hnd⟩ := hW
  have hA : DataW.TrodAll enc Tryd.prog W 0 (fun _ => true) true Tryd.f6.params.toList args.toList ds p := hA0
  rw [Tryd.params6] at hA hval
  obtain ⟨v0, vs0, d0, ds0, p0, q0, hargs, rfl, rfl, h0, r0⟩ := trodAll_cons hA
  obtain ⟨v1, vs1, d1, ds1, p1, q1, rfl, rfl, rfl, h1, r1⟩ := trodAll_cons r0
  obtain ⟨rfl, rfl, rfl⟩ := trodAll_nil r1
  obtain rfl : args = #[v0, v1] := by cases args; simp_all
  obtain ⟨rfl, rfl⟩ := trodVars_none hV
  obtain ⟨c0, rfl, _⟩ := okWide_struct Tryd.underlying24 (hval 0 24 v0 rfl rfl)
  obtain ⟨fu0, hf0⟩ := h0
  obtain ⟨c1, rfl, _⟩ := okWide_struct Tryd.underlying26 (hval 1 26 v1 rfl rfl)
  obtain ⟨fu1, hf1⟩ := h1
  obtain ⟨s0, hk0, hd0⟩ := open_any 4 24 _ fu0 _ _ pk_tab hf0 fun n hn => of_decide_eq_true (List.all_eq_true.1 hsz n (DataW.weights_mem_each (j := 0) (by kernel_rfl) (by first | rfl | simp) n hn))
  obtain ⟨mx, l, rfl, lo_mx, hi_mx, hl_l, hs_l⟩ := Tb.op_tab hk0
  obtain ⟨s1, hk1, hd1⟩ := open_any 4 26 _ fu1 _ _ pk_fd hf1 fun n hn => of_decide_eq_true (List.all_eq_true.1 hsz n (DataW.weights_mem_each (j := 1) (by kernel_rfl) (by first | rfl | simp) n hn))
  obtain ⟨a, b, rfl, hs_a⟩ := Tb.op_fd hk1
  have hd' : denL (nmW W) [Tb.tabV mx l, .ag [.s a, .s b]] [Value.agg c0, Value.agg c1] := by
    simp only [denL]
    exact ⟨(by simp only [Tb.tabV, den]; exact ⟨c0, rfl, hd0⟩), (by simp only [Tb.tabV, den]; exact ⟨c1, rfl, hd1⟩), trivial⟩
  refine (law_calls I.fn_causeylaw09_TableFinds (Tb.finds_f hs_l hl_l hs_a) hd').mono fun e W' ⟨he, hb⟩ => ?_
  subst he
  exact ⟨_, rfl, post_law laidOut hW' rfl (by kernel_rfl) rfl Tryd.underlying4 rfl hb⟩
theorem finds_row : Rows.TableFindsSaid :=
  OpenClaim.holds_of_wide 6 Tryd.f6 rfl rfl rfl rfl rfl rfl rfl ⟨rfl, rfl, rfl, rfl, rfl⟩ rfl rfl rfl rfl rfl (by kernel_rfl) Tryd.func6 (by kernel_rfl)
    (of_decide_eq_true (by kernel_rfl)) (by unfold Func.isWrapper; first | (rw [if_pos (by decide +kernel)]; kernel_rfl) | (rw [if_neg (by decide +kernel)]; exact ⟨rfl, rfl⟩))
    (fun os started H enc _ => finds_lifted os started H enc)
theorem finds_holds : Rows.TableFindsCardSaid :=
  Claim7.holds_tied_plain_at .later [] _ _ _ _ finds_row (fun _ h => by cases h) (by kernel_rfl) (fun _ h => by cases h) tableFinds_row_tie rfl ⟨rfl, rfl⟩ (by kernel_rfl) rfl
    (fun f fn hf hfn => by
      obtain rfl : f = 6 := Option.some.inj ((show Tryd.prog.funcNamed "causey/causeylaw09.TableFinds" = some 6 by kernel_rfl).symm.trans hf) |>.symm
      obtain rfl : fn = Tryd.f6 := (Option.some.inj (Tryd.func6.symm.trans hfn)).symm
      exact ⟨by kernel_rfl, fun j t ht => by
        rw [Tryd.params6] at ht
        have hm : t ∈ [24, 26] := by simpa using Array.mem_of_getElem? ht
        have hall : ([24, 26].all fun u => !Tryd.prog.wantsStandIn u) = true := by kernel_rfl
        exact (show Tryd.prog.wantsStandIn t = false by simpa using List.all_eq_true.1 hall t hm)⟩)
    (by kernel_rfl)
#print axioms finds_holds
end Go.Proofs.YtdbnbknghhpbiaaDoor
