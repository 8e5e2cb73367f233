/- The functions of tables tell what the document tells: the law TableTells returns true for every input. No condition. -/
import Derived.Test.YtdbnbknghhpbiaaDoorKTb6
import Derived.LaidMore
import Derived.Lay
import Derived.SevenTiedAt
import Derived.Stop.Joined
import Derived.Test.YtdbnbknghhpbiaaDoorRows
import Derived.Test.YtdbnbknghhpbiaaDoorCards
import Derived.Test.YtdbnbknghhpbiaaDoorTie
namespace Cz
open Go Go.RowKit Go.Proofs
set_option linter.unusedSimpArgs false
set_option linter.unusedVariables false
set_option maxRecDepth 100000
set_option maxHeartbeats 4000000
namespace Tb
section
variable {S : Sy} {bl : List Blk} {K : SV → List Blk → Prop} {cs : List SV} {mx mx' e n : Int} {l l' : List Fd} {F : List SV} {a b : List UInt8}
theorem tabE_g (hF : cellsF l' = F) (hn : n = ilen l') : Sub (tabE mx' l' e) (.tp [.ag [.i .i64 (.y mx'), .v false 2 F (.y n)], .i .i64 (.y e)]) := by
  subst hF hn; exact .rfl
theorem new_g (hS : S0 Tryd.prog = S) {most : Z} (hr : newR most.v = ((mx', l'), e)) (hF : cellsF l' = F) (hn : n = ilen l') (hK : K (.tp [.ag [.i .i64 (.y mx'), .v false 2 F (.y n)], .i .i64 (.y e)]) bl) : S.call 19 [.i .i64 most] bl K :=
  use_val hS (call_post (new_f hr) fun x _ h => ⟨x, .rfl, h.trans (tabE_g (e := e) hF hn)⟩) (.cons (sub_i rfl) .nil) rfl rfl hK
theorem rnew_g (hS : S0 Tryd.prog = S) {most : Z} (hr : newR most.v = ((mx', l'), e)) (hF : cellsF l' = F) (hn : n = ilen l') (hK : K (.tp [.ag [.i .i64 (.y mx'), .v false 2 F (.y n)], .i .i64 (.y e)]) bl) : S.call 20 [.i .i64 most] bl K :=
  use_val hS (call_post (rnew_f hr) fun x _ h => ⟨x, .rfl, h.trans (tabE_g (e := e) hF hn)⟩) (.cons (sub_i rfl) .nil) rfl rfl hK
theorem add_g (hS : S0 Tryd.prog = S) (hc : TabC [] cs mx l) (hr : addR (mx, l) (a, b) = ((mx', l'), e)) (hF : cellsF l' = F) (hn : n = ilen l') (hb : fullL l ≤ 10000000) (hs : szF (a, b) ≤ 10000000)
    (hK : K (.tp [.ag [.i .i64 (.y mx'), .v false 2 F (.y n)], .i .i64 (.y e)]) bl) : S.call 28 [.ag cs, .ag [.s a, .s b]] bl K := by
  refine use_tell_l hS (add_f hr hb hs) ?_ rfl (tabE_g hF hn) hK
  match hc.sub with
  | .cons h _ => exact .cons h .rfl
theorem radd_g (hS : S0 Tryd.prog = S) (hc : TabC [] cs mx l) (hr : addR (mx, l) (a, b) = ((mx', l'), e)) (hF : cellsF l' = F) (hn : n = ilen l') (hb : fullL l ≤ 1000000) (hs : szF (a, b) ≤ 1000000)
    (hK : K (.tp [.ag [.i .i64 (.y mx'), .v false 2 F (.y n)], .i .i64 (.y e)]) bl) : S.call 29 [.ag cs, .ag [.s a, .s b]] bl K := by
  refine use_tell_l hS (radd_f hr hb hs) ?_ rfl (tabE_g hF hn) hK
  match hc.sub with
  | .cons h _ => exact .cons h .rfl
theorem res_g (hS : S0 Tryd.prog = S) (hc : TabC [] cs mx l) {most : Z} (hr : resR (mx, l) most.v = ((mx', l'), e)) (hF : cellsF l' = F) (hn : n = ilen l') (hb : fullL l ≤ 10000000)
    (hK : K (.tp [.ag [.i .i64 (.y mx'), .v false 2 F (.y n)], .i .i64 (.y e)]) bl) : S.call 30 [.ag cs, .i .i64 most] bl K := by
  refine use_tell_l hS (res_f hr (by omega)) ?_ rfl (tabE_g hF hn) hK
  match hc.sub with
  | .cons h _ => exact .cons h (.cons (sub_i rfl) .nil)
theorem rres_g (hS : S0 Tryd.prog = S) (hc : TabC [] cs mx l) {most : Z} (hr : resR (mx, l) most.v = ((mx', l'), e)) (hF : cellsF l' = F) (hn : n = ilen l') (hb : fullL l ≤ 10000000)
    (hK : K (.tp [.ag [.i .i64 (.y mx'), .v false 2 F (.y n)], .i .i64 (.y e)]) bl) : S.call 31 [.ag cs, .i .i64 most] bl K := by
  refine use_tell_l hS (rres_f hr hb) ?_ rfl (tabE_g hF hn) hK
  match hc.sub with
  | .cons h _ => exact .cons h (.cons (sub_i rfl) .nil)
theorem at_g (hS : S0 Tryd.prog = S) {z : Z} (hc : TabC bl cs mx l) (hr : atR l z.v = ((a, b), e)) (hm : ilen l ≤ 100000000) (hK : K (.tp [.ag [.s a, .s b], .i .i64 (.y e)]) bl) : S.call 32 [.ag cs, .i .i64 z] bl K :=
  use_tmp hS (at_f hr hm) (hc.fzi (sub_i (b := .y z.v) rfl) rfl) rfl rfl hK
theorem rat_g (hS : S0 Tryd.prog = S) {z : Z} (hc : TabC bl cs mx l) (hr : atR l z.v = ((a, b), e)) (hl : -9223372036854775808 ≤ z.v) (hu : z.v ≤ 9223372036854775807) (hm : ilen l ≤ 100000000) (hK : K (.tp [.ag [.s a, .s b], .i .i64 (.y e)]) bl) : S.call 33 [.ag cs, .i .i64 z] bl K :=
  use_tmp hS (rat_f hr hl hu hm) (hc.fzi (sub_i (b := .y z.v) rfl) rfl) rfl rfl hK
theorem find_g (hS : S0 Tryd.prog = S) {t : Bool} (hc : TabC bl cs mx l) (hr : findR l (a, b) = (n, t)) (hm : ilen l ≤ 100000000) (hK : K (.tp [.i .i64 (.y n), .b t]) bl) : S.call 34 [.ag cs, .ag [.s a, .s b]] bl K :=
  use_tmp hS (find_f hr hm) (hc.fzi .rfl rfl) rfl rfl hK
theorem rfind_g (hS : S0 Tryd.prog = S) {t : Bool} (hc : TabC bl cs mx l) (hr : findR l (a, b) = (n, t)) (hm : ilen l ≤ 100000000) (hK : K (.tp [.i .i64 (.y n), .b t]) bl) : S.call 35 [.ag cs, .ag [.s a, .s b]] bl K :=
  use_tmp hS (rfind_f hr hm) (hc.fzi .rfl rfl) rfl rfl hK
theorem static_g (hS : S0 Tryd.prog = S) {z : Z} {t : Bool} (hr : statR z.v = ((a, b), t)) (hK : K (.tp [.ag [.s a, .s b], .b t]) bl) : S.call 17 [.i .i64 z] bl K :=
  use_val hS (static_f hr) (.cons (sub_i rfl) .nil) rfl rfl hK
theorem rstat_g (hS : S0 Tryd.prog = S) {z : Z} {t : Bool} (hr : statR z.v = ((a, b), t)) (hl : -9223372036854775808 ≤ z.v) (hK : K (.tp [.ag [.s a, .s b], .b t]) bl) : S.call 18 [.i .i64 z] bl K :=
  use_val hS (rstat_f hr hl) (.cons (sub_i rfl) .nil) rfl rfl hK
theorem full_g (hS : S0 Tryd.prog = S) (hc : TabC bl cs mx l) (hn : n = fullL l) (h : n ≤ 100000000) (hK : K (.i .i64 (.y n)) bl) : S.call 24 [.ag cs] bl K :=
  use_tmp hS (full_f hn h) hc.fz rfl rfl hK
theorem rfull_g (hS : S0 Tryd.prog = S) (hc : TabC bl cs mx l) (hn : n = fullL l) (h : n ≤ 100000000) (hK : K (.i .i64 (.y n)) bl) : S.call 25 [.ag cs] bl K :=
  use_tmp hS (rfull_f hn h) hc.fz rfl rfl hK
theorem right_g (hS : S0 Tryd.prog = S) (hc : TabC bl cs mx l) {t : Bool} (ht : rightL mx l = t) (h : fullL l ≤ 100000000) (hK : K (.b t) bl) : S.call 26 [.ag cs] bl K :=
  use_tmp hS (right_f ht h) hc.fz rfl rfl hK
theorem rright_g (hS : S0 Tryd.prog = S) (hc : TabC bl cs mx l) {t : Bool} (ht : rightL mx l = t) (h : fullL l ≤ 100000000) (hK : K (.b t) bl) : S.call 27 [.ag cs] bl K :=
  use_tmp hS (rright_f ht h) hc.fz rfl rfl hK
theorem size_g (hS : S0 Tryd.prog = S) (hn : n = szF (a, b)) (h : n ≤ 1000000000) (hK : K (.i .i64 (.y n)) bl) : S.call 22 [.ag [.s a, .s b]] bl K :=
  use_val hS (size_f hn h) .rfl rfl rfl hK
theorem rsize_g (hS : S0 Tryd.prog = S) (hn : n = szF (a, b)) (h : n ≤ 1000000000) (hK : K (.i .i64 (.y n)) bl) : S.call 23 [.ag [.s a, .s b]] bl K :=
  use_val hS (rsize_f hn h) .rfl rfl rfl hK
theorem same_g (hS : S0 Tryd.prog = S) {cs' : List SV} {my : Int} {k : List Fd} (hc : TabC bl cs mx l) (hc' : TabC bl cs' my k) {t : Bool} (ht : decide (mx = my ∧ l = k) = t) (hl : ilen l ≤ 100000000) (hk : ilen k ≤ 100000000) (hK : K (.b t) bl) :
    S.call 36 [.ag cs, .ag cs'] bl K :=
  use_tmp hS (same_f ht hl hk) (fz_two hc.fz hc'.fz rfl rfl) rfl rfl hK
theorem rsame_g (hS : S0 Tryd.prog = S) {cs' : List SV} {my : Int} {k : List Fd} (hc : TabC bl cs mx l) (hc' : TabC bl cs' my k) {t : Bool} (ht : decide (mx = my ∧ l = k) = t) (hl : ilen l ≤ 100000000) (hk : ilen k ≤ 100000000) (hK : K (.b t) bl) :
    S.call 21 [.ag cs, .ag cs'] bl K :=
  use_tmp hS (rsame_f ht hl hk) (fz_two hc.fz hc'.fz rfl rfl) rfl rfl hK
theorem rsame_t (hS : S0 Tryd.prog = S) {cs' : List SV} (hc : TabC bl cs mx l) (hc' : TabC bl cs' mx l) (hl : ilen l ≤ 100000000) (hK : K .tt bl) : S.call 21 [.ag cs, .ag cs'] bl K :=
  use_tmp hS (call_lit (rsame_f (decide_eq_true ⟨rfl, rfl⟩) hl hl)) (fz_two hc.fz hc'.fz rfl rfl) rfl rfl hK
end
theorem new_len {most mx e : Int} {l : List Fd} (h : newR most = ((mx, l), e)) : ilen l ≤ 0 := by
  unfold newR at h
  split at h <;> (cases h; exact Int.le_refl _)
theorem add_len {mx mx' e : Int} {l l' : List Fd} {f : Fd} (h : addR (mx, l) f = ((mx', l'), e)) : ilen l' ≤ ilen l + 1 := by
  unfold addR at h
  have := ilen_nn l
  split at h
  · cases h
    have h1 := evL_len mx (f :: l)
    have h2 : ilen (f :: l) = ilen l + 1 := ilen_cons
    dsimp only; omega
  · cases h
    rw [ilen_nil]; omega
theorem res_len {mx most mx' e : Int} {l l' : List Fd} (h : resR (mx, l) most = ((mx', l'), e)) : ilen l' ≤ ilen l := by
  unfold resR at h
  have := ilen_nn l
  split at h
  · cases h
    exact evL_len _ _
  · cases h
    rw [ilen_nil]; omega
theorem tells_f {mx my most i : Int} {l k : List Fd} {a b : List UInt8} (hs : shortL l) (hm0 : ilen l ≤ 140737488355328) (hs2 : shortL k) (hm2 : ilen k ≤ 140737488355328) (hs1 : shortL [(a, b)])
    (lm : -9223372036854775808 ≤ most) (um : most ≤ 9223372036854775807) (li : -9223372036854775808 ≤ i) (ui : i ≤ 9223372036854775807) :
    (S0 Tryd.prog).call 3 [tabV mx l, tabV my k, .ag [.s a, .s b], .i .i64 (.y most), .i .i64 (.y i)] [] (fun y _ => Sub y .tt) := by
  unfold tabV
  generalize hF : cellsF l = F
  generalize hG : cellsF k = G
  obtain ⟨m, hm⟩ : ∃ m, m = ilen l := ⟨_, rfl⟩
  obtain ⟨mk, hmk⟩ : ∃ m, m = ilen k := ⟨_, rfl⟩
  have h0 := ilen_nn l
  have hsz1 : fullL [(a, b)] = szF (a, b) := by simp [fullL]
  rw [← hm] at h0 ⊢
  rw [← hmk]
  obtain ⟨⟨⟨sa, sb⟩, st⟩, hst⟩ : ∃ r, statR i = r := ⟨_, rfl⟩
  obtain ⟨⟨⟨nm, nl⟩, ne⟩, hnew⟩ : ∃ r, newR most = r := ⟨_, rfl⟩
  obtain ⟨⟨⟨am, al⟩, ae⟩, hadd⟩ : ∃ r, addR (mx, l) (a, b) = r := ⟨_, rfl⟩
  obtain ⟨⟨⟨rm, rl⟩, re⟩, hres⟩ : ∃ r, resR (mx, l) most = r := ⟨_, rfl⟩
  obtain ⟨⟨⟨xa, xb⟩, xe⟩, hat⟩ : ∃ r, atR l i = r := ⟨_, rfl⟩
  obtain ⟨⟨fi, ft⟩, hfi⟩ : ∃ r, findR l (a, b) = r := ⟨_, rfl⟩
  obtain ⟨fu, hfu⟩ : ∃ r, r = fullL l := ⟨_, rfl⟩
  obtain ⟨sz, hsz⟩ : ∃ r, r = szF (a, b) := ⟨_, rfl⟩
  obtain ⟨ri, hri⟩ : ∃ r, rightL mx l = r := ⟨_, rfl⟩
  obtain ⟨sm, hsm⟩ : ∃ r, decide (mx = my ∧ l = k) = r := ⟨_, rfl⟩
  have b1 := new_len hnew
  have b2 := add_len hadd
  have b3 := res_len hres
  obtain ⟨nF, hnF⟩ : ∃ F, cellsF nl = F := ⟨_, rfl⟩
  obtain ⟨nn, hnn⟩ : ∃ n, n = ilen nl := ⟨_, rfl⟩
  obtain ⟨aF, haF⟩ : ∃ F, cellsF al = F := ⟨_, rfl⟩
  obtain ⟨an, han⟩ : ∃ n, n = ilen al := ⟨_, rfl⟩
  obtain ⟨rF, hrF⟩ : ∃ F, cellsF rl = F := ⟨_, rfl⟩
  obtain ⟨rn, hrn⟩ : ∃ n, n = ilen rl := ⟨_, rfl⟩
  generalize hS : S0 Tryd.prog = S
  refine call_in' hS I.fn_causeylaw09_TableTells ?_
  cbv
  refine great_u hS (.cons (.sub (sub_v hF.symm hm) rfl) .nil) hs hm0 (fun hg => ?_) (fun hg1 hg2 => ?_) <;> cbv
  · refine wakes_u hS ?_
    cbv
    exact .rfl
  refine great_u hS (.cons (.sub (sub_v hG.symm hmk) rfl) .nil) hs2 hm2 (fun hg => ?_) (fun hg3 hg4 => ?_) <;> cbv
  · refine wakes_u hS ?_
    cbv
    exact .rfl
  refine great_u hS (l := [(a, b)]) (.cons (row_tab (l := [(a, b)]) (m := 1) (n := .y 1) (lget_some rfl (by simp)) rfl rfl rfl rfl) .nil) hs1 (by rw [show ilen [(a, b)] = 1 from rfl]; omega) (fun hg => ?_) (fun hg5 hg6 => ?_) <;> cbv
  · refine wakes_u hS ?_
    cbv
    exact .rfl
  rw [hsz1, ← hsz, show ilen [(a, b)] = 1 from rfl] at hg6
  rw [← hfu] at hg2
  refine static_g hS hst ?_
  cbv
  refine rstat_g hS hst li ?_
  cbv
  refine new_g hS hnew hnF hnn ?_
  cbv
  refine rnew_g hS hnew hnF hnn ?_
  cbv
  refine s_draw hS rfl I.ord_causeylaw09_TableTells_0 (by decide +kernel) ?_
  cbv
  repeat' (first
    | (refine s_eqs hS rfl ?_; try cbv)
    | (refine s_ck hS ?_; try cbv)
    | (refine s_sbr hS ?_ ?_ <;> intro h <;> (try cbv) <;> try exact s_ab h)
    | (refine s_ad hS ?_; intro _ _; try cbv)
    | (refine s_sb hS ?_; intro _ _; try cbv)
    | (refine s_stl hS ?_; intro _ _; try cbv)
    | (refine s_stc hS ?_; try cbv)
    | (refine And.intro rfl ?_; try cbv)
    | (refine rsame_t hS (mx := nm) (.v rfl hnF hnn) (.v rfl hnF hnn) (by omega) ?_; cbv)
    | (refine size_g hS hsz (by omega) ?_; cbv)
    | (refine rsize_g hS hsz (by omega) ?_; cbv)
    | (refine full_g hS (.v (z := .y mx) (n := .y m) rfl hF hm) hfu (by omega) ?_; cbv)
    | (refine rfull_g hS (.v (z := .y mx) (n := .y m) rfl hF hm) hfu (by omega) ?_; cbv)
    | (refine right_g hS (.v (z := .y mx) (n := .y m) rfl hF hm) hri (by omega) ?_; cbv)
    | (refine rright_g hS (.v (z := .y mx) (n := .y m) rfl hF hm) hri (by omega) ?_; cbv)
    | (refine s_eqo hS ?_; try cbv)
    | (refine s_lk hS ?_; try cbv)
    | (refine s_mu hS ?_; try cbv)
    | fail)
  refine add_g hS (.v (z := .y mx) (n := .y m) rfl hF hm) hadd haF han (by omega) (by omega) ?_
  cbv
  refine radd_g hS (.v (z := .y mx) (n := .y m) rfl hF hm) hadd haF han (by omega) (by omega) ?_
  cbv
  refine res_g hS (.v (z := .y mx) (n := .y m) rfl hF hm) hres hrF hrn (by omega) ?_
  cbv
  refine rres_g hS (.v (z := .y mx) (n := .y m) rfl hF hm) hres hrF hrn (by omega) ?_
  cbv
  refine at_g hS (.v (z := .y mx) (n := .y m) rfl hF hm) hat (by omega) ?_
  cbv
  refine rat_g hS (.v (z := .y mx) (n := .y m) rfl hF hm) hat li ui (by omega) ?_
  cbv
  refine find_g hS (.v (z := .y mx) (n := .y m) rfl hF hm) hfi (by omega) ?_
  cbv
  refine rfind_g hS (.v (z := .y mx) (n := .y m) rfl hF hm) hfi (by omega) ?_
  cbv
  refine s_draw hS rfl I.ord_causeylaw09_TableTells_1 (by decide +kernel) ?_
  cbv
  repeat' (first
    | (refine s_eqs hS rfl ?_; try cbv)
    | (refine s_ck hS ?_; try cbv)
    | (refine s_sbr hS ?_ ?_ <;> intro h <;> (try cbv) <;> try exact s_ab h)
    | (refine s_ad hS ?_; intro _ _; try cbv)
    | (refine s_sb hS ?_; intro _ _; try cbv)
    | (refine s_stl hS ?_; intro _ _; try cbv)
    | (refine s_stc hS ?_; try cbv)
    | (refine And.intro rfl ?_; try cbv)
    | (refine rsame_t hS (mx := am) (.v rfl haF han) (.v rfl haF han) (by omega) ?_; cbv)
    | (refine rsame_t hS (mx := rm) (.v rfl hrF hrn) (.v rfl hrF hrn) (by omega) ?_; cbv)
    | (refine same_g hS (.v (z := .y mx) (n := .y m) rfl hF hm) (.v (z := .y my) (n := .y mk) rfl hG hmk) hsm (by omega) (by omega) ?_; cbv)
    | (refine rsame_g hS (.v (z := .y mx) (n := .y m) rfl hF hm) (.v (z := .y my) (n := .y mk) rfl hG hmk) hsm (by omega) (by omega) ?_; cbv)
    | (refine wakes_u hS ?_; cbv)
    | (refine s_eqo hS ?_; try cbv)
    | (refine s_lk hS ?_; try cbv)
    | (refine s_mu hS ?_; try cbv)
    | fail)
  all_goals exact .rfl
end Tb
end Cz
namespace Go.Proofs.YtdbnbknghhpbiaaDoor
open Go Cz Go.ChangeShapes Go.WideShapes Go.ChangeAt Go.RowKit
set_option linter.unusedSimpArgs false
set_option linter.unusedVariables false
theorem own : ownKnob Tryd.prog.godebug = Option.none := by kernel_rfl
theorem laidOut : laidOutB Tryd.prog = true := by kernel_rfl
theorem pk_tab : pks Tryd.prog 4 24 = some [.i .i64, .sl [.s, .s]] := by kernel_rfl
theorem pk_fd : pks Tryd.prog 4 26 = some [.s, .s] := by kernel_rfl
theorem pk_i : pks Tryd.prog 4 3 = some [.i .i64] := by kernel_rfl
set_option maxRecDepth 100000 in
theorem tells_lifted (os : Os) (started : os.Started) (H : Type) (enc : TypeId × Value → H) :
    ReturnsInHanded {} Tryd.checked os 3 .any (fun w args => (Rows.tableTellsSpec.pre enc Tryd.prog Tryd.f3 Rows.tableTellsRow.domain false w args ∧ laidMetH Tryd.prog Rows.tableTellsRow.laid w) ∧ sizedMet enc Tryd.prog Tryd.f3 (OpenSpec.ofChange Rows.tableTellsSpec) false w args)
      (Rows.tableTellsSpec.post enc Tryd.prog Tryd.f3 false true false false) := by
  refine returnsInHanded_of_change_and (C := Tryd.checked) (X := fun w _ => laidMetH Tryd.prog Rows.tableTellsRow.laid w) (fun _ _ _ hh h => h.of_heap hh) own started (by kernel_rfl) Tryd.func3
    (ChangeSpec.witness_shaped (enc := enc) (C := Tryd.checked) (os := os) (X := fun w _ => laidMetH Tryd.prog Rows.tableTellsRow.laid w) false (World.laidAll Tryd.prog os Rows.tableTellsRow.laid) #[.agg #[.int .i64 0, .slice none 0 0], .agg #[.int .i64 0, .slice none 0 0], .agg #[.string ⟨#[]⟩, .string ⟨#[]⟩], .int .i64 0, .int .i64 0] 8 (World.laidAll_os _ _ _)
      (World.shaped_of_ZipB (by kernel_rfl) (by kernel_rfl)) (by kernel_rfl) (by kernel_rfl) (by kernel_rfl)
      (by rw [MakeChecks.laidMetH_plain _ _ _ (by kernel_rfl)]; exact laidMet_laidAll _ (by kernel_rfl) (by kernel_rfl))) ?_
  intro W base args ds gs before hval0 hW _ hsz _ _
  have hval : ∀ (j : Nat) t v, Tryd.f3.params[j]? = some t → args[j]? = some v → Value.okWide Tryd.prog W .any base t v := hval0
  have hW' := hW
  obtain ⟨p, q, hA0, hV, hbef, hfz, hnd⟩ := hW
  have hA : DataW.TrodAll enc Tryd.prog W 0 (fun _ => true) true Tryd.f3.params.toList args.toList ds p := hA0
  rw [Tryd.params3] at hA hval
  obtain ⟨v0, vs0, d0, ds0, p0, q0, hargs, rfl, rfl, h0, r0⟩ := trodAll_cons hA
  obtain ⟨v1, vs1, d1, ds1, p1, q1, rfl, rfl, rfl, h1, r1⟩ := trodAll_cons r0
  obtain ⟨v2, vs2, d2, ds2, p2, q2, rfl, rfl, rfl, h2, r2⟩ := trodAll_cons r1
  obtain ⟨v3, vs3, d3, ds3, p3, q3, rfl, rfl, rfl, h3, r3⟩ := trodAll_cons r2
  obtain ⟨v4, vs4, d4, ds4, p4, q4, rfl, rfl, rfl, h4, r4⟩ := trodAll_cons r3
  obtain ⟨rfl, rfl, rfl⟩ := trodAll_nil r4
  obtain rfl : args = #[v0, v1, v2, v3, v4] := by cases args; simp_all
  obtain ⟨rfl, rfl⟩ := trodVars_none hV
  obtain ⟨c0, rfl, _⟩ := okWide_struct Tryd.underlying24 (hval 0 24 v0 rfl rfl)
  obtain ⟨fu0, hf0⟩ := h0
  obtain ⟨c1, rfl, _⟩ := okWide_struct Tryd.underlying24 (hval 1 24 v1 rfl rfl)
  obtain ⟨fu1, hf1⟩ := h1
  obtain ⟨c2, rfl, _⟩ := okWide_struct Tryd.underlying26 (hval 2 26 v2 rfl rfl)
  obtain ⟨fu2, hf2⟩ := h2
  obtain ⟨c3, rfl⟩ := okWide_int Tryd.underlying3 (hval 3 3 v3 rfl rfl)
  obtain ⟨fu3, hf3⟩ := h3
  obtain ⟨c4, rfl⟩ := okWide_int Tryd.underlying3 (hval 4 3 v4 rfl rfl)
  obtain ⟨fu4, hf4⟩ := h4
  obtain ⟨s0, hk0, hd0⟩ := open_any 4 24 _ fu0 _ _ pk_tab hf0 fun n hn => of_decide_eq_true (List.all_eq_true.1 hsz n (DataW.weights_mem_each (j := 0) (by kernel_rfl) (by first | rfl | simp) n hn))
  obtain ⟨mx, l, rfl, lo_mx, hi_mx, hl_l, hs_l⟩ := Tb.op_tab hk0
  obtain ⟨s1, hk1, hd1⟩ := open_any 4 24 _ fu1 _ _ pk_tab hf1 fun n hn => of_decide_eq_true (List.all_eq_true.1 hsz n (DataW.weights_mem_each (j := 1) (by kernel_rfl) (by first | rfl | simp) n hn))
  obtain ⟨my, k, rfl, lo_my, hi_my, hl_k, hs_k⟩ := Tb.op_tab hk1
  obtain ⟨s2, hk2, hd2⟩ := open_any 4 26 _ fu2 _ _ pk_fd hf2 fun n hn => of_decide_eq_true (List.all_eq_true.1 hsz n (DataW.weights_mem_each (j := 2) (by kernel_rfl) (by first | rfl | simp) n hn))
  obtain ⟨a, b, rfl, hs_a⟩ := Tb.op_fd hk2
  obtain ⟨s3, hk3, hd3⟩ := open_any 4 3 _ fu3 _ _ pk_i hf3 fun n hn => of_decide_eq_true (List.all_eq_true.1 hsz n (DataW.weights_mem_each (j := 3) (by kernel_rfl) (by first | rfl | simp) n hn))
  obtain ⟨most, rfl, lo_most, hi_most⟩ := Tb.op_i hk3
  obtain ⟨s4, hk4, hd4⟩ := open_any 4 3 _ fu4 _ _ pk_i hf4 fun n hn => of_decide_eq_true (List.all_eq_true.1 hsz n (DataW.weights_mem_each (j := 4) (by kernel_rfl) (by first | rfl | simp) n hn))
  obtain ⟨i, rfl, lo_i, hi_i⟩ := Tb.op_i hk4
  have hd' : denL (nmW W) [Tb.tabV mx l, Tb.tabV my k, .ag [.s a, .s b], .i .i64 (.y most), .i .i64 (.y i)] [Value.agg c0, Value.agg c1, Value.agg c2, Value.int .i64 c3, Value.int .i64 c4] := by
    simp only [denL]
    exact ⟨(by simp only [Tb.tabV, den]; exact ⟨c0, rfl, hd0⟩), (by simp only [Tb.tabV, den]; exact ⟨c1, rfl, hd1⟩), (by simp only [Tb.tabV, den]; exact ⟨c2, rfl, hd2⟩), denL_one hd3, denL_one hd4, trivial⟩
  refine (law_calls I.fn_causeylaw09_TableTells (Tb.tells_f hs_l hl_l hs_k hl_k hs_a lo_most hi_most lo_i hi_i) hd').mono fun e W' ⟨he, hb⟩ => ?_
  subst he
  exact ⟨_, rfl, post_law laidOut hW' rfl (by kernel_rfl) rfl Tryd.underlying4 rfl hb⟩
theorem tells_row : Rows.TableTellsSaid :=
  OpenClaim.holds_of_wide 3 Tryd.f3 rfl rfl rfl rfl rfl rfl rfl ⟨rfl, rfl, rfl, rfl, rfl⟩ rfl rfl rfl rfl rfl (by kernel_rfl) Tryd.func3 (by kernel_rfl)
    (of_decide_eq_true (by kernel_rfl)) (by unfold Func.isWrapper; first | (rw [if_pos (by decide +kernel)]; kernel_rfl) | (rw [if_neg (by decide +kernel)]; exact ⟨rfl, rfl⟩))
    (fun os started H enc _ => tells_lifted os started H enc)
theorem tells_holds : Rows.TableTellsCardSaid :=
  Claim7.holds_tied_plain_at .later [] _ _ _ _ tells_row (fun _ h => by cases h) (by kernel_rfl) (fun _ h => by cases h) tableTells_row_tie rfl ⟨rfl, rfl⟩ (by kernel_rfl) rfl
    (fun f fn hf hfn => by
      obtain rfl : f = 3 := Option.some.inj ((show Tryd.prog.funcNamed "causey/causeylaw09.TableTells" = some 3 by kernel_rfl).symm.trans hf) |>.symm
      obtain rfl : fn = Tryd.f3 := (Option.some.inj (Tryd.func3.symm.trans hfn)).symm
      exact ⟨by kernel_rfl, fun j t ht => by
        rw [Tryd.params3] at ht
        have hm : t ∈ [24, 24, 26, 3, 3] := by simpa using Array.mem_of_getElem? ht
        have hall : ([24, 24, 26, 3, 3].all fun u => !Tryd.prog.wantsStandIn u) = true := by kernel_rfl
        exact (show Tryd.prog.wantsStandIn t = false by simpa using List.all_eq_true.1 hall t hm)⟩)
    (by kernel_rfl)
#print axioms tells_holds
end Go.Proofs.YtdbnbknghhpbiaaDoor
