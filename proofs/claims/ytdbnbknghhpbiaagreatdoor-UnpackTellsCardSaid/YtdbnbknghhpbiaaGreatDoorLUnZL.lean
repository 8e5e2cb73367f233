/- Blocks taken apart, bytes of fields and sizes, sizes, and what is the same are the document's: the law UnpackTells returns true for every input. No condition. -/
import Derived.Test.YtdbnbknghhpbiaaGreatDoorKY7
import Derived.LaidMore
import Derived.Lay
import Derived.SevenTiedAt
import Derived.Stop.Joined
import Derived.Test.YtdbnbknghhpbiaaGreatDoorRows
import Derived.Test.YtdbnbknghhpbiaaGreatDoorCards
import Derived.Test.YtdbnbknghhpbiaaGreatDoorTie
set_option linter.unusedSimpArgs false
set_option linter.unusedVariables false
set_option maxRecDepth 100000
set_option maxHeartbeats 4000000
namespace Cz
open Go Go.RowKit Go.Proofs
namespace Pa
open Tb
theorem utells_f {mx most i w : Int} {l q : List Fd} {b : List Int} {fa fb : List UInt8} (hs : shortL l) (hm0 : ilen l ≤ 140737488355328) (hb : Hu.BOk b) (hs1 : shortL [(fa, fb)]) (hs2 : shortL q) (l0 : -9223372036854775808 ≤ i) (u0 : i ≤ 9223372036854775807) :
    (S0 Tryz.prog).call 4 [tabV mx l, .i .i64 (.y most), .v false 1 (cellsB b) (.y (ilen b)), .ag [.s fa, .s fb], .v false 2 (cellsF q) (.y (ilen q)), .i .i64 (.y i), .i .i64 (.y w)] [] (fun y _ => Sub y .tt) := by
  unfold tabV
  generalize hF : cellsF l = F
  obtain ⟨m, hm⟩ : ∃ m, m = ilen l := ⟨_, rfl⟩
  generalize hG : cellsF q = G
  obtain ⟨n, hn⟩ : ∃ m, m = ilen q := ⟨_, rfl⟩
  generalize hH : cellsB b = H
  obtain ⟨k, hk⟩ : ∃ m, m = ilen b := ⟨_, rfl⟩
  have h0a := qah fa
  have h0b := qah fb
  have hea : (fa.length : Int) = ilen fa := rfl
  have heb : (fb.length : Int) = ilen fb := rfl
  have hn0 := qah q
  have hk0 := qah b
  rw [← hm, ← hn, ← hk]
  generalize hS : S0 Tryz.prog = S
  refine qaa hS I.qdn ?_
  cbv
  refine ugreat_u hS (.v (z := .y mx) (n := .y m) rfl hF hm) hs hm0 ?_ (fun g1 g2 => ?_) <;> cbv
  · refine qzaba hS ?_
    cbv
    exact .rfl
  by_cases hv : k ≤ 2000 ∧ ilen fa ≤ 2000 ∧ ilen fb ≤ 2000 ∧ n ≤ 60
  case neg =>
    repeat' (first | (refine qai hS ?_ ?_ <;> intro h <;> (try cbv) <;> try exact s_ab h) | (refine qzaba hS ?_; cbv) | fail)
    all_goals first
      | exact .rfl
      | (exfalso; omega)
  obtain ⟨v1, v2, v3, v4⟩ := hv
  obtain ⟨P1, F1, n1, e1, hF1, hn1, hP1, hz1, hy1⟩ := ix_x hS l0 u0
  obtain ⟨P2, F2, n2, e2, hF2, hn2, hP2, hz2, hy2⟩ := sz_x hS l0 u0
  obtain ⟨P3, F3, n3, e3, hF3, hn3, hP3, hz3, hy3⟩ := nm_x hS (w := w) (b := fb) (by omega) l0 u0
  obtain ⟨P4, hP4⟩ : ∃ r, fldB (fa, fb) w = r := ⟨_, rfl⟩
  have hB4 : Hu.BOk P4 := hP4 ▸ bok_fld
  obtain ⟨F4, hF4⟩ : ∃ r, cellsB P4 = r := ⟨_, rfl⟩
  obtain ⟨n4, hn4⟩ : ∃ r, r = ilen P4 := ⟨_, rfl⟩
  obtain ⟨⟨⟨o, lg, mx', l'⟩, e⟩, hblk⟩ : ∃ r, blkU (mx, l) most b = r := ⟨_, rfl⟩
  obtain ⟨b1, b2⟩ := blk_bd hb (by omega) hblk
  obtain ⟨Fo, hFo⟩ : ∃ r, cellsF o = r := ⟨_, rfl⟩
  obtain ⟨no, hno⟩ : ∃ r, r = ilen o := ⟨_, rfl⟩
  obtain ⟨Fl, hFl⟩ : ∃ r, cellsF l' = r := ⟨_, rfl⟩
  obtain ⟨nl, hnl⟩ : ∃ r, r = ilen l' := ⟨_, rfl⟩
  obtain ⟨ts, hts⟩ : ∃ t, decide (lg = lg ∧ o = q ∧ mx' = mx' ∧ l' = l') = t := ⟨_, rfl⟩
  obtain ⟨sz, hsz⟩ : ∃ r, r = fullL q := ⟨_, rfl⟩
  have hszb := qmp hs2
  cases lg <;> cases ts <;> cbv
  all_goals
    repeat' (first | (refine s_eqs hS rfl ?_; try cbv) | (refine qai hS ?_ ?_ <;> intro h <;> (try cbv) <;> try exact s_ab h) | (refine unb_g hS (most := most) (zm := .y most) hblk (.v (z := .y mx) (n := .y m) rfl hF hm) rfl (qap hH.symm hk) hb (by omega) (by omega) hFo hno hFl hnl ?_; cbv) | (refine runb_g hS (most := most) (zm := .y most) hblk (.v (z := .y mx) (n := .y m) rfl hF hm) rfl (qap hH.symm hk) hb (by omega) (by omega) hFo hno hFl hnl ?_; cbv) | (refine rusame_g hS (o := o) (o' := o) (l := l') (l' := l') (mx := mx') (mx' := mx') (t := true) (decide_eq_true ⟨rfl, rfl, rfl, rfl⟩) (.cons (.sub (qco (.cons (qap hFo.symm hno) (.cons .rfl (.cons .rfl (.cons (qap hFl.symm hnl) .nil))))) rfl) (.cons (.sub (qco (.cons (qap hFo.symm hno) (.cons .rfl (.cons .rfl (.cons (qap hFl.symm hnl) .nil))))) rfl) .nil)) (by omega) (by omega) (by omega) (by omega) ?_; cbv) | (refine hz1 _ _ ?_; cbv) | (refine hy1 _ _ ?_; cbv) | (refine hz2 _ _ ?_; cbv) | (refine hy2 _ _ ?_; cbv) | (refine hz3 _ _ ?_; cbv) | (refine hy3 _ _ ?_; cbv) | (refine bsm_t hS (b := P1) (.cons (.sub (qap hF1.symm hn1) rfl) (.cons (.sub (qap hF1.symm hn1) rfl) .nil)) hP1 ?_; cbv) | (refine bsm_t hS (b := P2) (.cons (.sub (qap hF2.symm hn2) rfl) (.cons (.sub (qap hF2.symm hn2) rfl) .nil)) hP2 ?_; cbv) | (refine bsm_t hS (b := P3) (.cons (.sub (qap hF3.symm hn3) rfl) (.cons (.sub (qap hF3.symm hn3) rfl) .nil)) hP3 ?_; cbv) | (refine bsm_t hS (b := P4) (.cons (.sub (qap hF4.symm hn4) rfl) (.cons (.sub (qap hF4.symm hn4) rfl) .nil)) hB4 ?_; cbv) | (refine fld_g hS (w := w) rfl (by omega) (F := F4) (n := n4) (hP4 ▸ hF4) (hP4 ▸ hn4) ?_; cbv) | (refine zfl_g hS (w := w) rfl (by omega) (by omega) (F := F4) (n := n4) (hP4 ▸ hF4) (hP4 ▸ hn4) ?_; cbv) | (refine usize_g hS (l := q) (n := sz) (.cons (.sub (qap hG.symm hn) rfl) .nil) hsz (by omega) ?_; cbv) | (refine rusize_g hS (l := q) (n := sz) (.cons (.sub (qap hG.symm hn) rfl) .nil) hsz (by omega) ?_; cbv) | (refine qzagg hS (o := o) (o' := q) (l := l') (l' := l') (mx := mx') (mx' := mx') hts (.cons (.sub (qco (.cons (qap hFo.symm hno) (.cons .rfl (.cons .rfl (.cons (qap hFl.symm hnl) .nil))))) rfl) (.cons (.sub (qco (.cons (qap hG.symm hn) (.cons .rfl (.cons .rfl (.cons (qap hFl.symm hnl) .nil))))) rfl) .nil)) (by omega) (by omega) (by omega) (by omega) ?_; cbv) | (refine rusame_g hS (o := o) (o' := q) (l := l') (l' := l') (mx := mx') (mx' := mx') hts (.cons (.sub (qco (.cons (qap hFo.symm hno) (.cons .rfl (.cons .rfl (.cons (qap hFl.symm hnl) .nil))))) rfl) (.cons (.sub (qco (.cons (qap hG.symm hn) (.cons .rfl (.cons .rfl (.cons (qap hFl.symm hnl) .nil))))) rfl) .nil)) (by omega) (by omega) (by omega) (by omega) ?_; cbv) | (refine qzaba hS ?_; cbv) | (refine qbn hS rfl I.qfg (by decide +kernel) ?_; cbv) | (refine qbn hS rfl I.qff (by decide +kernel) ?_; cbv) | fail)
  all_goals exact .rfl
end Pa
end Cz
namespace Go.Proofs.YtdbnbknghhpbiaaGreatDoor
open Go Cz Go.ChangeShapes Go.WideShapes Go.ChangeAt Go.RowKit
theorem own : ownKnob Tryz.prog.godebug = Option.none := by kernel_rfl
theorem laidOut : laidOutB Tryz.prog = true := by kernel_rfl
theorem pk_tab : pks Tryz.prog 4 24 = some [.i .i64, .sl [.s, .s]] := by kernel_rfl
theorem pk_i : pks Tryz.prog 4 3 = some [.i .i64] := by kernel_rfl
theorem pk_by : pks Tryz.prog 4 30 = some [.sl [.i .u8]] := by kernel_rfl
theorem pk_fd : pks Tryz.prog 4 26 = some [.s, .s] := by kernel_rfl
theorem pk_fds : pks Tryz.prog 4 22 = some [.sl [.s, .s]] := by kernel_rfl
set_option maxRecDepth 100000 in
theorem qzaea (os : Os) (started : os.Started) (H : Type) (enc : TypeId × Value → H) :
    ReturnsInHanded {} Tryz.checked os 4 .any (fun w args => (Rows.unpackTellsSpec.pre enc Tryz.prog Tryz.f4 Rows.unpackTellsRow.domain false w args ∧ laidMetH Tryz.prog Rows.unpackTellsRow.laid w) ∧ sizedMet enc Tryz.prog Tryz.f4 (OpenSpec.ofChange Rows.unpackTellsSpec) false w args)
      (Rows.unpackTellsSpec.post enc Tryz.prog Tryz.f4 false true false false) := by
  refine returnsInHanded_of_change_and (C := Tryz.checked) (X := fun w _ => laidMetH Tryz.prog Rows.unpackTellsRow.laid w) (fun _ _ _ hh h => h.of_heap hh) own started (by kernel_rfl) Tryz.func4
    (ChangeSpec.witness_shaped (enc := enc) (C := Tryz.checked) (os := os) (X := fun w _ => laidMetH Tryz.prog Rows.unpackTellsRow.laid w) false (World.laidAll Tryz.prog os Rows.unpackTellsRow.laid) #[.agg #[.int .i64 0, .slice none 0 0], .int .i64 0, .slice none 0 0, .agg #[.string ⟨#[]⟩, .string ⟨#[]⟩], .slice none 0 0, .int .i64 0, .int .i64 0] 8 (World.laidAll_os _ _ _)
      (World.shaped_of_ZipB (by kernel_rfl) (by kernel_rfl)) (by kernel_rfl) (by kernel_rfl) (by kernel_rfl)
      (by rw [MakeChecks.laidMetH_plain _ _ _ (by kernel_rfl)]; exact laidMet_laidAll _ (by kernel_rfl) (by kernel_rfl))) ?_
  intro W base args ds gs before hval0 hW _ hsz _ _
  have hval : ∀ (j : Nat) t v, Tryz.f4.params[j]? = some t → args[j]? = some v → Value.okWide Tryz.prog W .any base t v := hval0
  have hW' := hW
  obtain ⟨p, q, hA0, hV, hbef, hfz, hnd⟩ := hW
  have hA : DataW.TrodAll enc Tryz.prog W 0 (fun _ => true) true Tryz.f4.params.toList args.toList ds p := hA0
  rw [Tryz.params4] at hA hval
  obtain ⟨v0, vs0, d0, ds0, p0, q0, hargs, rfl, rfl, h0, r0⟩ := trodAll_cons hA
  obtain ⟨v1, vs1, d1, ds1, p1, q1, rfl, rfl, rfl, h1, r1⟩ := trodAll_cons r0
  obtain ⟨v2, vs2, d2, ds2, p2, q2, rfl, rfl, rfl, h2, r2⟩ := trodAll_cons r1
  obtain ⟨v3, vs3, d3, ds3, p3, q3, rfl, rfl, rfl, h3, r3⟩ := trodAll_cons r2
  obtain ⟨v4, vs4, d4, ds4, p4, q4, rfl, rfl, rfl, h4, r4⟩ := trodAll_cons r3
  obtain ⟨v5, vs5, d5, ds5, p5, q5, rfl, rfl, rfl, h5, r5⟩ := trodAll_cons r4
  obtain ⟨v6, vs6, d6, ds6, p6, q6, rfl, rfl, rfl, h6, r6⟩ := trodAll_cons r5
  obtain ⟨rfl, rfl, rfl⟩ := trodAll_nil r6
  obtain rfl : args = #[v0, v1, v2, v3, v4, v5, v6] := by cases args; simp_all
  obtain ⟨rfl, rfl⟩ := trodVars_none hV
  obtain ⟨c0, rfl, _⟩ := okWide_struct Tryz.underlying24 (hval 0 24 v0 rfl rfl)
  obtain ⟨fu0, hf0⟩ := h0
  obtain ⟨c1, rfl⟩ := okWide_int Tryz.underlying3 (hval 1 3 v1 rfl rfl)
  obtain ⟨fu1, hf1⟩ := h1
  obtain ⟨c2, len2, cap2, rfl⟩ := okWide_slice Tryz.underlying30 (hval 2 30 v2 rfl rfl)
  obtain ⟨fu2, hf2⟩ := h2
  obtain ⟨c3, rfl, _⟩ := okWide_struct Tryz.underlying26 (hval 3 26 v3 rfl rfl)
  obtain ⟨fu3, hf3⟩ := h3
  obtain ⟨c4, len4, cap4, rfl⟩ := okWide_slice Tryz.underlying22 (hval 4 22 v4 rfl rfl)
  obtain ⟨fu4, hf4⟩ := h4
  obtain ⟨c5, rfl⟩ := okWide_int Tryz.underlying3 (hval 5 3 v5 rfl rfl)
  obtain ⟨fu5, hf5⟩ := h5
  obtain ⟨c6, rfl⟩ := okWide_int Tryz.underlying3 (hval 6 3 v6 rfl rfl)
  obtain ⟨fu6, hf6⟩ := h6
  obtain ⟨s0, hk0, hd0⟩ := qev 4 24 _ fu0 _ _ pk_tab hf0 fun n hn => of_decide_eq_true (List.all_eq_true.1 hsz n (DataW.weights_mem_each (j := 0) (by kernel_rfl) (by first | rfl | simp) n hn))
  obtain ⟨mx, l, rfl, lo_mx, hi_mx, hl_l, hs_l⟩ := Tb.op_tab hk0
  obtain ⟨s1, hk1, hd1⟩ := qev 4 3 _ fu1 _ _ pk_i hf1 fun n hn => of_decide_eq_true (List.all_eq_true.1 hsz n (DataW.weights_mem_each (j := 1) (by kernel_rfl) (by first | rfl | simp) n hn))
  obtain ⟨most, rfl, lo_most, hi_most⟩ := Tb.op_i hk1
  obtain ⟨s2, hk2, hd2⟩ := qev 4 30 _ fu2 _ _ pk_by hf2 fun n hn => of_decide_eq_true (List.all_eq_true.1 hsz n (DataW.weights_mem_each (j := 2) (by kernel_rfl) (by first | rfl | simp) n hn))
  obtain ⟨b, rfl, hl_b, hb_b⟩ := Tb.op_by hk2
  obtain ⟨s3, hk3, hd3⟩ := qev 4 26 _ fu3 _ _ pk_fd hf3 fun n hn => of_decide_eq_true (List.all_eq_true.1 hsz n (DataW.weights_mem_each (j := 3) (by kernel_rfl) (by first | rfl | simp) n hn))
  obtain ⟨fa, fb, rfl, hs_fa⟩ := Tb.op_fd hk3
  obtain ⟨s4, hk4, hd4⟩ := qev 4 22 _ fu4 _ _ pk_fds hf4 fun n hn => of_decide_eq_true (List.all_eq_true.1 hsz n (DataW.weights_mem_each (j := 4) (by kernel_rfl) (by first | rfl | simp) n hn))
  obtain ⟨q, rfl, hl_q, hs_q⟩ := Tb.op_fds hk4
  obtain ⟨s5, hk5, hd5⟩ := qev 4 3 _ fu5 _ _ pk_i hf5 fun n hn => of_decide_eq_true (List.all_eq_true.1 hsz n (DataW.weights_mem_each (j := 5) (by kernel_rfl) (by first | rfl | simp) n hn))
  obtain ⟨i, rfl, lo_i, hi_i⟩ := Tb.op_i hk5
  obtain ⟨s6, hk6, hd6⟩ := qev 4 3 _ fu6 _ _ pk_i hf6 fun n hn => of_decide_eq_true (List.all_eq_true.1 hsz n (DataW.weights_mem_each (j := 6) (by kernel_rfl) (by first | rfl | simp) n hn))
  obtain ⟨w, rfl, lo_w, hi_w⟩ := Tb.op_i hk6
  have hd' : denL (nmW W) [Tb.tabV mx l, .i .i64 (.y most), .v false 1 (cellsB b) (.y (ilen b)), .ag [.s fa, .s fb], .v false 2 (Tb.cellsF q) (.y (ilen q)), .i .i64 (.y i), .i .i64 (.y w)] [Value.agg c0, Value.int .i64 c1, Value.slice c2 len2 cap2, Value.agg c3, Value.slice c4 len4 cap4, Value.int .i64 c5, Value.int .i64 c6] := by
    simp only [denL]
    exact ⟨(by simp only [Tb.tabV, den]; exact ⟨c0, rfl, hd0⟩), qmv hd1, qmv hd2, (by simp only [Tb.tabV, den]; exact ⟨c3, rfl, hd3⟩), qmv hd4, qmv hd5, qmv hd6, trivial⟩
  refine (law_calls I.qdn (Pa.utells_f hs_l hl_l hb_b hs_fa hs_q lo_i hi_i) hd').mono fun e W' ⟨he, hb⟩ => ?_
  subst he
  exact ⟨_, rfl, post_law laidOut hW' rfl (by kernel_rfl) rfl Tryz.underlying4 rfl hb⟩
theorem tells_row : Rows.UnpackTellsSaid :=
  OpenClaim.holds_of_wide 4 Tryz.f4 rfl rfl rfl rfl rfl rfl rfl ⟨rfl, rfl, rfl, rfl, rfl⟩ rfl rfl rfl rfl rfl (by kernel_rfl) Tryz.func4 (by kernel_rfl)
    (of_decide_eq_true (by kernel_rfl)) (by unfold Func.isWrapper; first | (rw [if_pos (by decide +kernel)]; kernel_rfl) | (rw [if_neg (by decide +kernel)]; exact ⟨rfl, rfl⟩))
    (fun os started H enc _ => qzaea os started H enc)
theorem tells_holds : Rows.UnpackTellsCardSaid :=
  Claim7.holds_tied_plain_at .later [] _ _ _ _ tells_row (fun _ h => by cases h) (by kernel_rfl) (fun _ h => by cases h) unpackTells_row_tie rfl ⟨rfl, rfl⟩ (by kernel_rfl) rfl
    (fun f fn hf hfn => by
      obtain rfl : f = 4 := Option.some.inj ((show Tryz.prog.funcNamed "causey/causeylaw10.UnpackTells" = some 4 by kernel_rfl).symm.trans hf) |>.symm
      obtain rfl : fn = Tryz.f4 := (Option.some.inj (Tryz.func4.symm.trans hfn)).symm
      exact ⟨by kernel_rfl, fun j t ht => by
        rw [Tryz.params4] at ht
        have hm : t ∈ [24, 3, 30, 26, 22, 3, 3] := by simpa using Array.mem_of_getElem? ht
        have hall : ([24, 3, 30, 26, 22, 3, 3].all fun u => !Tryz.prog.wantsStandIn u) = true := by kernel_rfl
        exact (show Tryz.prog.wantsStandIn t = false by simpa using List.all_eq_true.1 hall t hm)⟩)
    (by kernel_rfl)
#print axioms tells_holds
end Go.Proofs.YtdbnbknghhpbiaaGreatDoor
