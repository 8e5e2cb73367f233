/- Which fields are secret, fields' bytes, blocks, blocks of a size, and the tables behind them are the document's: the law PackTells returns true for every input. No condition. -/
import Derived.Test.YtdbnbknghhpbiaaGreatDoorKX6
import Derived.LaidMore
import Derived.Lay
import Derived.SevenTiedAt
import Derived.Stop.Joined
import Derived.Test.YtdbnbknghhpbiaaGreatDoorRows
import Derived.Test.YtdbnbknghhpbiaaGreatDoorCards
import Derived.Test.YtdbnbknghhpbiaaGreatDoorTie
set_option linter.unusedSimpArgs false
set_option linter.unusedVariables false
set_option maxRecDepth 100000
set_option maxHeartbeats 4000000
namespace Cz
open Go Go.RowKit Go.Proofs
namespace Pa
open Tb
def Both2 (S : Sy) (g g' : FuncId) (args : List SV) (L : List Int) (l' : List Tb.Fd) (F : List SV) (n : Int) (R : List SV) (m mx' e : Int) : Prop := cellsB L = F ∧ n = ilen L ∧ Hu.BOk L ∧ cellsF l' = R ∧ m = ilen l' ∧ ilen l' ≤ 100000000 ∧
  (∀ (bl : List Blk) (K : SV → List Blk → Prop), K (.tp [.v false 1 F (.y n), .ag [.i .i64 (.y mx'), .v false 2 R (.y m)], .i .i64 (.y e)]) bl → S.call g args bl K) ∧
  (∀ (bl : List Blk) (K : SV → List Blk → Prop), K (.tp [.v false 1 F (.y n), .ag [.i .i64 (.y mx'), .v false 2 R (.y m)], .i .i64 (.y e)]) bl → S.call g' args bl K)
section
variable {S : Sy} {mx k : Int} {l : List Tb.Fd} {G : List SV}
theorem pf_x (hS : S0 Tryz.prog = S) {a b : List UInt8} (hG : cellsF l = G) (hk : k = ilen l) (ha : ilen a ≤ 5000) (hb : ilen b ≤ 5000) (hl : fullL l ≤ 10000000) : ∃ L l' F n R m mx' e, Both2 S 8 9 [.ag [.i .i64 (.y mx), .v false 2 G (.y k)], .ag [.s a, .s b]] L l' F n R m mx' e := by
  cases hR : rightL mx l with
  | true =>
    have h1 := qde (qpx hR : rightL mx (fieldL mx l (a, b)) = true)
    exact ⟨fieldB mx l (a, b), fieldL mx l (a, b), _, _, _, _, mx, 0, rfl, rfl, qzabe mx l (a, b), rfl, rfl, by omega, fun bl K h => field_g hS (.v (z := .y mx) (n := .y k) rfl hG hk) hR rfl rfl rfl rfl rfl rfl (by omega) h, fun bl K h => zfield_g hS (.v (z := .y mx) (n := .y k) rfl hG hk) hR rfl rfl rfl rfl rfl rfl ha hb h⟩
  | false =>
    subst hG hk
    exact ⟨[], [], [], 0, [], 0, 0, 2, rfl, rfl, (by intro v hv; cases hv), rfl, rfl, by decide, fun bl K h => qbd hS (field_e hR hl) .rfl rfl h, fun bl K h => qbd hS (zfield_e hR hl) .rfl rfl h⟩
theorem pb_x (hS : S0 Tryz.prog = S) {q : List Tb.Fd} {n : Int} {H : List SV} (hG : cellsF l = G) (hk : k = ilen l) (hH : cellsF q = H) (hn : n = ilen q) (hl : fullL l ≤ 10000000) (hq : fullL q ≤ 5000 + 32 * ilen q) (h40 : ilen q ≤ 40) : ∃ L l' F n' R m mx' e, Both2 S 12 13 [.ag [.i .i64 (.y mx), .v false 2 G (.y k)], .v false 2 H (.y n)] L l' F n' R m mx' e := by
  cases hR : rightL mx l with
  | true =>
    have h1 := qde (qek (fs := q) hR : rightL mx (blockL mx l q) = true)
    exact ⟨blockB mx l q, blockL mx l q, _, _, _, _, mx, 0, rfl, rfl, qtz mx q l, rfl, rfl, by omega, fun bl K h => block_g hS (.v (z := .y mx) (n := .y k) rfl hG hk) (qck (n := .y n) hH.symm hn) hR rfl rfl rfl rfl rfl rfl (by omega) h, fun bl K h => zblock_g hS (.v (z := .y mx) (n := .y k) rfl hG hk) (qck (n := .y n) hH.symm hn) hR rfl rfl rfl rfl rfl rfl hq h40 h⟩
  | false =>
    subst hG hk hH hn
    exact ⟨[], [], [], 0, [], 0, 0, 2, rfl, rfl, (by intro v hv; cases hv), rfl, rfl, by decide, fun bl K h => qbd hS (block_e hR hl) .rfl rfl h, fun bl K h => qbd hS (zblock_e hR hl) .rfl rfl h⟩
theorem ps_x (hS : S0 Tryz.prog = S) {q : List Tb.Fd} {n most : Int} {H : List SV} (hG : cellsF l = G) (hk : k = ilen l) (hH : cellsF q = H) (hn : n = ilen q) (hl : fullL l ≤ 10000000) (hq : fullL q ≤ 5000 + 32 * ilen q) (h40 : ilen q ≤ 40) : ∃ L l' F n' R m mx' e, Both2 S 14 15 [.ag [.i .i64 (.y mx), .v false 2 G (.y k)], .i .i64 (.y most), .v false 2 H (.y n)] L l' F n' R m mx' e := by
  by_cases hR : rightL mx l = true ∧ 0 ≤ most ∧ most ≤ 4096
  · obtain ⟨hR, m0, m1⟩ := hR
    have h1 := qde (qek (fs := q) (qwx m0 m1) : rightL most (blockL most (evL most l) q) = true)
    exact ⟨sizB most ++ blockB most (evL most l) q, blockL most (evL most l) q, _, _, _, _, most, 0, rfl, rfl, qua (bok_siz m0) (qtz most q (evL most l)), rfl, rfl, by omega, fun bl K h => sized_g hS (zm := .y most) (.v (z := .y mx) (n := .y k) rfl hG hk) (qck (n := .y n) hH.symm hn) rfl hR m0 m1 rfl rfl rfl rfl rfl rfl (by omega) h, fun bl K h => zsized_g hS (zm := .y most) (.v (z := .y mx) (n := .y k) rfl hG hk) (qck (n := .y n) hH.symm hn) rfl hR m0 m1 rfl rfl rfl rfl rfl rfl hq h40 h⟩
  · have hR' : rightL mx l = false ∨ most < 0 ∨ 4096 < most := by
      cases h : rightL mx l with
      | false => exact .inl rfl
      | true =>
        refine .inr ?_
        by_cases h0 : most < 0
        · exact .inl h0
        · exact .inr (by refine Classical.byContradiction fun x => hR ⟨h, by omega, by omega⟩)
    subst hG hk hH hn
    exact ⟨[], [], [], 0, [], 0, 0, 2, rfl, rfl, (by intro v hv; cases hv), rfl, rfl, by decide, fun bl K h => qbd hS (sized_e hR' hl) .rfl rfl h, fun bl K h => qbd hS (zsized_e hR' hl) .rfl rfl h⟩
end
theorem ptells_f {mx most : Int} {l q : List Tb.Fd} {a b : List UInt8} (hs : shortL l) (hm0 : ilen l ≤ 140737488355328) (hs1 : shortL [(a, b)]) (hs2 : shortL q) (hm2 : ilen q ≤ 140737488355328) (l0 : -9223372036854775808 ≤ most) (u0 : most ≤ 9223372036854775807) :
    (S0 Tryz.prog).call 3 [tabV mx l, .ag [.s a, .s b], .i .i64 (.y most), .v false 2 (cellsF q) (.y (ilen q))] [] (fun y _ => Sub y .tt) := by
  unfold tabV
  generalize hF : cellsF l = F
  obtain ⟨m, hm⟩ : ∃ m, m = ilen l := ⟨_, rfl⟩
  generalize hG : cellsF q = G
  obtain ⟨n, hn⟩ : ∃ m, m = ilen q := ⟨_, rfl⟩
  have h0a := qag a
  have h0b := qag b
  have hsz1 : fullL [(a, b)] = szF (a, b) := by simp [fullL]
  have hszf : szF (a, b) = ilen a + ilen b + 32 := rfl
  rw [← hm, ← hn]
  generalize hS : S0 Tryz.prog = S
  refine qab hS I.qdb ?_
  cbv
  refine pgreat_u hS (l := l) (q := q) (.cons (tab_fz rfl hF hm) (.cons (.sub (qck hG.symm hn) rfl) .nil)) hs hm0 hs2 hm2 ?_ (fun g1 g2 g3 g4 => ?_) <;> cbv
  · refine qzabh hS ?_
    cbv
    exact .rfl
  repeat' (first
    | (refine qbi hS rfl ?_; try cbv)
    | (refine s_ck hS ?_; try cbv)
    | (refine qac hS ?_ ?_ <;> intro h <;> (try cbv) <;> try exact s_ab h)
    | (refine s_ad hS ?_; intro _ _; try cbv)
    | (refine s_sb hS ?_; intro _ _; try cbv)
    | (refine qan hS ?_; intro _ _; try cbv)
    | (refine qad hS ?_; try cbv)
    | (refine qbg hS ?_; try cbv)
    | (refine s_lk hS ?_; try cbv)
    | (refine s_mu hS ?_; try cbv)
    | fail)
  refine qzach hS (l := [(a, b)]) (.cons (qzabw (l := [(a, b)]) (m := 1) (n := .y 1) (qap rfl (by simp)) rfl rfl rfl rfl) .nil) hs1 (by rw [show ilen [(a, b)] = 1 from rfl]; omega) (fun hg => ?_) (fun hg3 hg4 => ?_) <;> cbv
  · refine qzabh hS ?_
    cbv
    exact .rfl
  rw [hsz1, show ilen [(a, b)] = 1 from rfl] at hg4
  obtain ⟨L1, l1, F1, n1, R1, m1, x1, e1, hF1, hn1, hP1, hR1, hm1, hb1, hz1, hy1⟩ := pf_x (mx := mx) hS (a := a) (b := b) hF hm (by omega) (by omega) (by omega)
  obtain ⟨L2, l2, F2, n2, R2, m2, x2, e2, hF2, hn2, hP2, hR2, hm2', hb2, hz2, hy2⟩ := pb_x (mx := mx) hS (q := q) hF hm hG hn (by omega) g4 g3
  obtain ⟨L3, l3, F3, n3, R3, m3, x3, e3, hF3, hn3, hP3, hR3, hm3, hb3, hz3, hy3⟩ := ps_x (mx := mx) hS (q := q) (most := most) hF hm hG hn (by omega) g4 g3
  obtain ⟨ts, hts⟩ : ∃ t, decide (a = ckN) = t := ⟨_, rfl⟩
  cases ts <;> cbv
  all_goals
    repeat' (first
      | (refine qbi hS rfl ?_; try cbv)
      | (refine s_ck hS ?_; try cbv)
      | (refine qac hS ?_ ?_ <;> intro h <;> (try cbv) <;> try exact s_ab h)
      | (refine s_ad hS ?_; intro _ _; try cbv)
      | (refine s_sb hS ?_; intro _ _; try cbv)
      | (refine qan hS ?_; intro _ _; try cbv)
      | (refine qad hS ?_; try cbv)
      | (refine hz1 _ _ ?_; cbv)
      | (refine hy1 _ _ ?_; cbv)
      | (refine hz2 _ _ ?_; cbv)
      | (refine hy2 _ _ ?_; cbv)
      | (refine hz3 _ _ ?_; cbv)
      | (refine hy3 _ _ ?_; cbv)
      | (refine rsm_t hS (a := L1) (.cons (.sub (qck hF1.symm hn1) rfl) (.cons (.sub (qck hF1.symm hn1) rfl) .nil)) hP1 ?_; cbv)
      | (refine rsm_t hS (a := L2) (.cons (.sub (qck hF2.symm hn2) rfl) (.cons (.sub (qck hF2.symm hn2) rfl) .nil)) hP2 ?_; cbv)
      | (refine rsm_t hS (a := L3) (.cons (.sub (qck hF3.symm hn3) rfl) (.cons (.sub (qck hF3.symm hn3) rfl) .nil)) hP3 ?_; cbv)
      | (refine qwv hS (mx := x1) (l := l1) (.v rfl hR1 hm1) (.v rfl hR1 hm1) hb1 ?_; cbv)
      | (refine qwv hS (mx := x2) (l := l2) (.v rfl hR2 hm2') (.v rfl hR2 hm2') hb2 ?_; cbv)
      | (refine qwv hS (mx := x3) (l := l3) (.v rfl hR3 hm3) (.v rfl hR3 hm3) hb3 ?_; cbv)
      | (refine qgc hS hts ?_; cbv)
      | (refine zsec_g hS hts ?_; cbv)
      | (refine qzabh hS ?_; cbv)
      | (refine qal hS rfl I.qeh (by decide +kernel) ?_; cbv)
      | (refine qbg hS ?_; try cbv)
      | (refine s_lk hS ?_; try cbv)
      | (refine s_mu hS ?_; try cbv)
      | fail)
  all_goals exact .rfl
end Pa
end Cz
namespace Go.Proofs.YtdbnbknghhpbiaaGreatDoor
open Go Cz Go.ChangeShapes Go.WideShapes Go.ChangeAt Go.RowKit
theorem own : ownKnob Tryz.prog.godebug = Option.none := by kernel_rfl
theorem laidOut : laidOutB Tryz.prog = true := by kernel_rfl
theorem pk_tab : pks Tryz.prog 4 24 = some [.i .i64, .sl [.s, .s]] := by kernel_rfl
theorem pk_fd : pks Tryz.prog 4 26 = some [.s, .s] := by kernel_rfl
theorem pk_i : pks Tryz.prog 4 3 = some [.i .i64] := by kernel_rfl
theorem pk_fds : pks Tryz.prog 4 22 = some [.sl [.s, .s]] := by kernel_rfl
set_option maxRecDepth 100000 in
theorem qzh (os : Os) (started : os.Started) (H : Type) (enc : TypeId × Value → H) :
    ReturnsInHanded {} Tryz.checked os 3 .any (fun w args => (Rows.packTellsSpec.pre enc Tryz.prog Tryz.f3 Rows.packTellsRow.domain false w args ∧ laidMetH Tryz.prog Rows.packTellsRow.laid w) ∧ sizedMet enc Tryz.prog Tryz.f3 (OpenSpec.ofChange Rows.packTellsSpec) false w args)
      (Rows.packTellsSpec.post enc Tryz.prog Tryz.f3 false true false false) := by
  refine returnsInHanded_of_change_and (C := Tryz.checked) (X := fun w _ => laidMetH Tryz.prog Rows.packTellsRow.laid w) (fun _ _ _ hh h => h.of_heap hh) own started (by kernel_rfl) Tryz.func3
    (ChangeSpec.witness_shaped (enc := enc) (C := Tryz.checked) (os := os) (X := fun w _ => laidMetH Tryz.prog Rows.packTellsRow.laid w) false (World.laidAll Tryz.prog os Rows.packTellsRow.laid) #[.agg #[.int .i64 0, .slice none 0 0], .agg #[.string ⟨#[]⟩, .string ⟨#[]⟩], .int .i64 0, .slice none 0 0] 8 (World.laidAll_os _ _ _)
      (World.shaped_of_ZipB (by kernel_rfl) (by kernel_rfl)) (by kernel_rfl) (by kernel_rfl) (by kernel_rfl)
      (by rw [MakeChecks.laidMetH_plain _ _ _ (by kernel_rfl)]; exact laidMet_laidAll _ (by kernel_rfl) (by kernel_rfl))) ?_
  intro W base args ds gs before hval0 hW _ hsz _ _
  have hval : ∀ (j : Nat) t v, Tryz.f3.params[j]? = some t → args[j]? = some v → Value.okWide Tryz.prog W .any base t v := hval0
  have hW' := hW
  obtain ⟨p, q, hA0, hV, hbef, hfz, hnd⟩ := hW
  have hA : DataW.TrodAll enc Tryz.prog W 0 (fun _ => true) true Tryz.f3.params.toList args.toList ds p := hA0
  rw [Tryz.params3] at hA hval
  obtain ⟨v0, vs0, d0, ds0, p0, q0, hargs, rfl, rfl, h0, r0⟩ := trodAll_cons hA
  obtain ⟨v1, vs1, d1, ds1, p1, q1, rfl, rfl, rfl, h1, r1⟩ := trodAll_cons r0
  obtain ⟨v2, vs2, d2, ds2, p2, q2, rfl, rfl, rfl, h2, r2⟩ := trodAll_cons r1
  obtain ⟨v3, vs3, d3, ds3, p3, q3, rfl, rfl, rfl, h3, r3⟩ := trodAll_cons r2
  obtain ⟨rfl, rfl, rfl⟩ := trodAll_nil r3
  obtain rfl : args = #[v0, v1, v2, v3] := by cases args; simp_all
  obtain ⟨rfl, rfl⟩ := trodVars_none hV
  obtain ⟨c0, rfl, _⟩ := okWide_struct Tryz.underlying24 (hval 0 24 v0 rfl rfl)
  obtain ⟨fu0, hf0⟩ := h0
  obtain ⟨c1, rfl, _⟩ := okWide_struct Tryz.underlying26 (hval 1 26 v1 rfl rfl)
  obtain ⟨fu1, hf1⟩ := h1
  obtain ⟨c2, rfl⟩ := okWide_int Tryz.underlying3 (hval 2 3 v2 rfl rfl)
  obtain ⟨fu2, hf2⟩ := h2
  obtain ⟨c3, len3, cap3, rfl⟩ := okWide_slice Tryz.underlying22 (hval 3 22 v3 rfl rfl)
  obtain ⟨fu3, hf3⟩ := h3
  obtain ⟨s0, hk0, hd0⟩ := qgk 4 24 _ fu0 _ _ pk_tab hf0 fun n hn => of_decide_eq_true (List.all_eq_true.1 hsz n (DataW.weights_mem_each (j := 0) (by kernel_rfl) (by first | rfl | simp) n hn))
  obtain ⟨mx, l, rfl, lo_mx, hi_mx, hl_l, hs_l⟩ := Tb.op_tab hk0
  obtain ⟨s1, hk1, hd1⟩ := qgk 4 26 _ fu1 _ _ pk_fd hf1 fun n hn => of_decide_eq_true (List.all_eq_true.1 hsz n (DataW.weights_mem_each (j := 1) (by kernel_rfl) (by first | rfl | simp) n hn))
  obtain ⟨a, b, rfl, hs_a⟩ := Tb.op_fd hk1
  obtain ⟨s2, hk2, hd2⟩ := qgk 4 3 _ fu2 _ _ pk_i hf2 fun n hn => of_decide_eq_true (List.all_eq_true.1 hsz n (DataW.weights_mem_each (j := 2) (by kernel_rfl) (by first | rfl | simp) n hn))
  obtain ⟨most, rfl, lo_most, hi_most⟩ := Tb.op_i hk2
  obtain ⟨s3, hk3, hd3⟩ := qgk 4 22 _ fu3 _ _ pk_fds hf3 fun n hn => of_decide_eq_true (List.all_eq_true.1 hsz n (DataW.weights_mem_each (j := 3) (by kernel_rfl) (by first | rfl | simp) n hn))
  obtain ⟨q, rfl, hl_q, hs_q⟩ := Tb.op_fds hk3
  have hd' : denL (nmW W) [Tb.tabV mx l, .ag [.s a, .s b], .i .i64 (.y most), .v false 2 (Tb.cellsF q) (.y (ilen q))] [Value.agg c0, Value.agg c1, Value.int .i64 c2, Value.slice c3 len3 cap3] := by
    simp only [denL]
    exact ⟨(by simp only [Tb.tabV, den]; exact ⟨c0, rfl, hd0⟩), (by simp only [Tb.tabV, den]; exact ⟨c1, rfl, hd1⟩), qyk hd2, qyk hd3, trivial⟩
  refine (law_calls I.qdb (Pa.ptells_f hs_l hl_l hs_a hs_q hl_q lo_most hi_most) hd').mono fun e W' ⟨he, hb⟩ => ?_
  subst he
  exact ⟨_, rfl, post_law laidOut hW' rfl (by kernel_rfl) rfl Tryz.underlying4 rfl hb⟩
theorem tells_row : Rows.PackTellsSaid :=
  OpenClaim.holds_of_wide 3 Tryz.f3 rfl rfl rfl rfl rfl rfl rfl ⟨rfl, rfl, rfl, rfl, rfl⟩ rfl rfl rfl rfl rfl (by kernel_rfl) Tryz.func3 (by kernel_rfl)
    (of_decide_eq_true (by kernel_rfl)) (by unfold Func.isWrapper; first | (rw [if_pos (by decide +kernel)]; kernel_rfl) | (rw [if_neg (by decide +kernel)]; exact ⟨rfl, rfl⟩))
    (fun os started H enc _ => qzh os started H enc)
theorem tells_holds : Rows.PackTellsCardSaid :=
  Claim7.holds_tied_plain_at .later [] _ _ _ _ tells_row (fun _ h => by cases h) (by kernel_rfl) (fun _ h => by cases h) packTells_row_tie rfl ⟨rfl, rfl⟩ (by kernel_rfl) rfl
    (fun f fn hf hfn => by
      obtain rfl : f = 3 := Option.some.inj ((show Tryz.prog.funcNamed "causey/causeylaw11.PackTells" = some 3 by kernel_rfl).symm.trans hf) |>.symm
      obtain rfl : fn = Tryz.f3 := (Option.some.inj (Tryz.func3.symm.trans hfn)).symm
      exact ⟨by kernel_rfl, fun j t ht => by
        rw [Tryz.params3] at ht
        have hm : t ∈ [24, 26, 3, 22] := by simpa using Array.mem_of_getElem? ht
        have hall : ([24, 26, 3, 22].all fun u => !Tryz.prog.wantsStandIn u) = true := by kernel_rfl
        exact (show Tryz.prog.wantsStandIn t = false by simpa using List.all_eq_true.1 hall t hm)⟩)
    (by kernel_rfl)
#print axioms tells_holds
end Go.Proofs.YtdbnbknghhpbiaaGreatDoor
