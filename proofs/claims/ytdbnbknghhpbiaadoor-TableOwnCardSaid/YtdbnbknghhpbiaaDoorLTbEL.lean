/- Tables are told in memory of their own: the law TableOwn returns true for every input. No condition. -/
import Derived.Test.YtdbnbknghhpbiaaDoorKTo5
import Derived.LaidMore
import Derived.Lay
import Derived.SevenTiedAt
import Derived.Stop.Joined
import Derived.Test.YtdbnbknghhpbiaaDoorRows
import Derived.Test.YtdbnbknghhpbiaaDoorCards
import Derived.Test.YtdbnbknghhpbiaaDoorTie
namespace Cz
open Go Go.RowKit Go.Proofs
set_option linter.unusedSimpArgs false
set_option linter.unusedVariables false
set_option maxRecDepth 100000
set_option maxHeartbeats 4000000
namespace Tb
def tabX (mx e : Int) (s : SV) : SV := .tp [.ag [.i .i64 (.y mx), s], .i .i64 (.l e)]
theorem tabX_ctx (mx e : Int) : Ctx (tabX mx e) := by
  intro ρ s v d
  unfold tabX at d
  simp only [den] at d
  obtain ⟨vs, rfl, d⟩ := d
  obtain ⟨vs⟩ := vs
  match vs, d with
  | [], d => simp [denL] at d
  | [_], d => simp [denL] at d
  | _ :: _ :: _ :: _, d => simp [denL] at d
  | [x, y], d =>
    simp only [denL, den] at d
    obtain ⟨⟨ws, rfl, d⟩, rfl, _⟩ := d
    obtain ⟨ws⟩ := ws
    match ws, d with
    | [], d => simp [denL] at d
    | [_], d => simp [denL] at d
    | _ :: _ :: _ :: _, d => simp [denL] at d
    | [x, y], d =>
      simp only [denL, den] at d
      obtain ⟨rfl, d, _⟩ := d
      refine ⟨y, d, fun ρ' s' d' => ?_⟩
      unfold tabX
      simp only [den]
      refine ⟨_, rfl, ?_⟩
      simp only [denL, den]
      exact ⟨⟨_, rfl, by simp only [denL, den]; exact ⟨trivial, d', trivial⟩⟩, trivial, trivial⟩
theorem tabX_fz {mx e : Int} (l' : List Blk) (j m : Nat) (z z' : Z) (sz : Nat) (h : z.v = z'.v) : Fz l' (fun i => m + i) [some j] (tabX mx e (.sl j sz (.l 0) z none)) (tabX mx e (.sl m sz (.l 0) z' none)) :=
  .tp (.cons (.ag (.cons (.sub .rfl rfl) (.cons (.keep (i := 0) rfl rfl h) .nil))) (.cons (.sub .rfl rfl) .nil))
def OwnT (mx n : Int) (F : List SV) (x : SV) (l' : List Blk) : Prop := ∃ (j : Nat) (lit : Bool) (st z : Z) (F' : List SV), x = tabX mx 0 (.sl j 2 (.l 0) z none) ∧ l'[j]? = some (.r false lit st 2 F') ∧ plains F' = true ∧ F'.take (z.v.toNat * 2) = F ∧ z.v = n
theorem res_k {mx most m n : Int} {l : List Fd} {F R : List SV} (hF : cellsF l = F) (hm : m = ilen l) (hR : rightL mx l = true) (h1 : 0 ≤ most) (h2 : most ≤ 4096) (hn : n = ilen (evL most l)) (hr : cellsF (evL most l) = R) (hb : fullL l ≤ 100000000) :
    (S0 Tryd.prog).call 30 [.ag [.i .i64 (.y mx), .v false 2 F (.y m)], .i .i64 (.y most)] [] (OwnT most n R) := by
  have hlen := fullL_len l
  have hm0 := ilen_nn l
  generalize hS : S0 Tryd.prog = S
  refine call_in' hS I.fn_table_Resize ?_
  cbv
  refine new_u hS (fun h1 => ?_) (fun h1 h2 => ?_) <;> cbv <;> dsimp only [Z.v] at *
  · omega
  · refine right_u hS (.v rfl hF hm) hb (fun h3 => ?_) (fun h3 => ?_) <;> cbv <;> dsimp only [Z.v] at *
    · refine clone_u hS .rfl hF hm (by omega) fun st => ?_
      cbv
      refine evict_u hS (mx := most) hF h1 hb fun n1 hn1 => ?_
      cbv
      have e : n1 = n := hn1.trans hn.symm
      refine ⟨3, false, _, .y n1, F, rfl, rfl, hF ▸ cellsF_plain l, ?_, e⟩
      rw [← hF, cells_take, ← hr]
      exact congrArg cellsF (by rw [show (Z.y n1).v = n1 from rfl, hn1]; exact (evL_take most l).symm)
    · rw [hR] at h3; cases h3
theorem add_k {mx m n : Int} {l : List Fd} {F R : List SV} {a b : List UInt8} (hF : cellsF l = F) (hm : m = ilen l) (hR : rightL mx l = true) (hn : n = ilen (evL mx ((a, b) :: l))) (hr : cellsF (evL mx ((a, b) :: l)) = R) (hb : fullL l ≤ 10000000) (hs : szF (a, b) ≤ 10000000) :
    (S0 Tryd.prog).call 28 [.ag [.i .i64 (.y mx), .v false 2 F (.y m)], .ag [.s a, .s b]] [] (OwnT mx n R) := by
  have hlen := fullL_len l
  have hm0 := ilen_nn l
  have hfl : ilen F = m * 2 := by rw [← hF, hm]; have := cellsF_len l; unfold ilen; omega
  generalize hS : S0 Tryd.prog = S
  refine call_in' hS I.fn_table_Add ?_
  cbv
  refine right_u hS (.v rfl hF hm) (by omega) (fun h3 => ?_) (fun h3 => ?_) <;> cbv <;> dsimp only [Z.v] at *
  · have hmx : 0 ≤ mx := by unfold rightL at h3; have := of_decide_eq_true h3; omega
    repeat' (first
      | (refine s_st hS ?_; try cbv)
      | (refine s_sbr hS ?_ ?_ <;> intro h <;> (try cbv) <;> try exact s_ab h)
      | (refine s_sta hS ?_; intro _ _; try cbv)
      | (refine s_stc hS ?_; try cbv)
      | (refine s_stl hS ?_; intro _ _; try cbv)
      | (refine s_chl hS ?_; try cbv)
      | fail)
    have e1 : S.app [.s a, .s b] F = cellsF ((a, b) :: l) := by subst hS; rw [← hF]; rfl
    have e2 : S.pl 1 m = ilen ((a, b) :: l) := by subst hS; rw [hm]; simp only [pl_eq]; simp [ilen]; omega
    have e3 : fullL ((a, b) :: l) = szF (a, b) + fullL l := rfl
    refine evict_u hS (mx := mx) (l := (a, b) :: l) e1.symm hmx (by omega) fun n1 hn1 => ?_
    cbv
    have e : n1 = n := hn1.trans hn.symm
    refine ⟨3, false, _, .y n1, S.app [.s a, .s b] F, rfl, rfl, e1 ▸ cellsF_plain _, ?_, e⟩
    rw [e1, cells_take, ← hr]
    exact congrArg cellsF (by rw [show (Z.y n1).v = n1 from rfl, hn1]; exact (evL_take mx ((a, b) :: l)).symm)
  · rw [hR] at h3; cases h3
section
variable {S : Sy} {bl : List Blk} {K : SV → List Blk → Prop} {cs : List SV} {mx n : Int} {l : List Fd} {F : List SV} {a b : List UInt8}
theorem res_ku (hS : S0 Tryd.prog = S) (hc : TabC [] cs mx l) {most : Z} (hR : rightL mx l = true) (h1 : 0 ≤ most.v) (h2 : most.v ≤ 4096) (hF : cellsF (evL most.v l) = F) (hn : n = ilen (evL most.v l)) (hb : fullL l ≤ 100000000)
    (hK : K (.tp [.ag [.i .i64 (.y most.v), .sl (len bl) 2 (.l 0) (.y n) none], .i .i64 (.l 0)]) (snoc bl (.r false false (.y 0) 2 F))) : S.call 30 [.ag cs, .i .i64 most] bl K := by
  refine use_one hS (tabX_ctx most.v 0) (fun l' j m z z' sz h => tabX_fz l' j m z z' sz h) (res_k rfl rfl hR h1 h2 hn hF hb) ?_ rfl (by decide) (hF ▸ cellsF_plain _) hK
  match hc.sub with
  | .cons h _ => exact .cons h (.cons (sub_i rfl) .nil)
theorem add_ku (hS : S0 Tryd.prog = S) (hc : TabC [] cs mx l) (hR : rightL mx l = true) (hF : cellsF (evL mx ((a, b) :: l)) = F) (hn : n = ilen (evL mx ((a, b) :: l))) (hb : fullL l ≤ 10000000) (hs : szF (a, b) ≤ 10000000)
    (hK : K (.tp [.ag [.i .i64 (.y mx), .sl (len bl) 2 (.l 0) (.y n) none], .i .i64 (.l 0)]) (snoc bl (.r false false (.y 0) 2 F))) : S.call 28 [.ag cs, .ag [.s a, .s b]] bl K := by
  refine use_one hS (tabX_ctx mx 0) (fun l' j m z z' sz h => tabX_fz l' j m z z' sz h) (add_k rfl rfl hR hn hF hb hs) ?_ rfl (by decide) (hF ▸ cellsF_plain _) hK
  match hc.sub with
  | .cons h _ => exact .cons h .rfl
end
theorem plains_repl : ∀ (ws F : List SV) (o : Nat), plains F = true → plains ws = true → plains (repl F o ws) = true
  | [], F, o, h, _ => by simpa [repl] using h
  | w :: ws, F, o, h, hw => by
    rw [repl]
    simp only [plains, Bool.and_eq_true] at hw
    refine plains_repl ws _ _ (plains_of fun x hx => ?_) hw.2
    rw [put_eq] at hx
    rcases List.mem_or_eq_of_mem_set hx with h1 | h1
    · exact plains_all h x h1
    · subst h1; exact hw.1
theorem s_wrg {S : Sy} {F : List SV} {i : Int} {sz j : Nat} {ws : List SV} {K : List SV → Prop} (hS : S0 Tryd.prog = S) (h0 : 0 ≤ i) (h1 : (i.toNat + 1) * sz ≤ F.length) (h2 : j + ws.length ≤ sz) (h3 : plains ws = true) (hp : plains F = true)
    (h : ∀ F', F'.length = F.length → plains F' = true → K F') : S.wr F i sz j ws K :=
  s_wr hS h0 h1 h2 h3 (h _ (repl_length _ _ _) (plains_repl _ _ _ hp h3))
theorem own_f {mx most : Int} {l : List Fd} {a b : List UInt8} (hs : shortL l) (hm0 : ilen l ≤ 140737488355328) (hs1 : shortL [(a, b)]) : (S0 Tryd.prog).call 7 [tabV mx l, .ag [.s a, .s b], .i .i64 (.y most)] [] (fun y _ => Sub y .tt) := by
  unfold tabV
  generalize hF : cellsF l = F
  obtain ⟨m, hm⟩ : ∃ m, m = ilen l := ⟨_, rfl⟩
  have h0 := ilen_nn l
  have hsz1 : fullL [(a, b)] = szF (a, b) := by simp [fullL]
  have hfl : ilen F = m * 2 := by rw [← hF, hm]; have := cellsF_len l; unfold ilen; omega
  rw [← hm] at h0 ⊢
  obtain ⟨A, hA⟩ : ∃ A, cellsF (evL mx ((a, b) :: l)) = A := ⟨_, rfl⟩
  obtain ⟨B, hB⟩ : ∃ B, cellsF (evL most l) = B := ⟨_, rfl⟩
  obtain ⟨na, hna⟩ : ∃ n, n = ilen (evL mx ((a, b) :: l)) := ⟨_, rfl⟩
  obtain ⟨nr, hnr⟩ : ∃ n, n = ilen (evL most l) := ⟨_, rfl⟩
  generalize hS : S0 Tryd.prog = S
  refine call_in' hS I.fn_causeylaw09_TableOwn ?_
  cbv
  refine great_u hS (.cons (.sub (sub_v hF.symm hm) rfl) .nil) hs hm0 (fun hg => ?_) (fun hg1 hg2 => ?_) <;> cbv
  · refine wakes_u hS ?_
    cbv
    exact .rfl
  refine great_u hS (l := [(a, b)]) (.cons (row_tab (l := [(a, b)]) (m := 1) (n := .y 1) (lget_some rfl (by simp)) rfl rfl rfl rfl) .nil) hs1 (by rw [show ilen [(a, b)] = 1 from rfl]; omega) (fun hg => ?_) (fun hg3 hg4 => ?_) <;> cbv
  · refine wakes_u hS ?_
    cbv
    exact .rfl
  rw [hsz1, show ilen [(a, b)] = 1 from rfl] at hg4
  repeat' (first
    | (refine s_eqs hS rfl ?_; try cbv)
    | (refine s_ck hS ?_; try cbv)
    | (refine s_sbr hS ?_ ?_ <;> intro h <;> (try cbv) <;> try exact s_ab h)
    | (refine s_ad hS ?_; intro _ _; try cbv)
    | (refine s_sb hS ?_; intro _ _; try cbv)
    | (refine s_stl hS ?_; intro _ _; try cbv)
    | (refine s_stc hS ?_; try cbv)
    | (refine s_eqo hS ?_; try cbv)
    | (refine s_lk hS ?_; try cbv)
    | (refine s_mu hS ?_; try cbv)
    | fail)
  by_cases hR : rightL mx l = true
  · refine add_ku hS (.v (z := .y mx) (n := .y m) rfl hF hm) hR hA hna (by omega) (by omega) ?_
    cbv
    have hA2 : A.length = na.toNat * 2 := by rw [← hA, cellsF_len, hna]; unfold ilen; omega
    have hB2 : B.length = nr.toNat * 2 := by rw [← hB, cellsF_len, hnr]; unfold ilen; omega
    have hBp : plains B = true := hB ▸ cellsF_plain _
    have hr0 : 0 ≤ nr := hnr ▸ ilen_nn _
    have hr1 := evL_len most l
    rw [← hnr] at hr1
    have hAp : plains A = true := hA ▸ cellsF_plain _
    have hn1 := evL_len mx ((a, b) :: l)
    rw [← hna, ilen_cons] at hn1
    have hn0 : 0 ≤ na := hna ▸ ilen_nn _
    by_cases hmo : 0 ≤ most ∧ most ≤ 4096
    · refine res_ku hS (.v (z := .y mx) (n := .y m) rfl hF hm) hR hmo.1 hmo.2 hB hnr (by omega) ?_
      cbv
      refine s_loop_up hS 8 I.dead_causeylaw09_TableOwn_1 (fun x : Int × List SV => 0 ≤ x.1 ∧ x.1 ≤ na ∧ x.2.length = A.length ∧ plains x.2 = true) (fun x => [(12, .i .i64 (.y x.1))]) (fun x => [(4, .r false false (.y 0) 2 x.2)]) (fun x => (na - x.1).toNat) (0, A) rfl
        ⟨⟨Int.le_refl _, hn0, rfl, hAp⟩, rfl, ?_, ?_, by cbv⟩ ?_
      · cbv; all_goals exact s_sA
      · cbv; all_goals exact s_bA
      intro x
      obtain ⟨i, A'⟩ := x
      intro hx
      dsimp only at hx
      cbv
      obtain ⟨k0, k1, k2, k3⟩ := hx
      refine s_sbr hS ?_ ?_ <;> intro h <;> cbv
      · repeat' (first
        | (refine s_eqs hS rfl ?_; try cbv)
        | (refine s_ck hS ?_; try cbv)
        | (refine s_sbr hS ?_ ?_ <;> intro h <;> (try cbv) <;> try exact s_ab h)
        | (refine s_ad hS ?_; intro _ _; try cbv)
        | (refine s_sb hS ?_; intro _ _; try cbv)
        | (refine s_stl hS ?_; intro _ _; try cbv)
        | (refine s_stc hS ?_; try cbv)
        | (refine s_wrg hS k0 (by omega) (by decide) rfl k3 fun F2 e1 e2 => ?_; cbv)
        | (refine s_eqo hS ?_; try cbv)
        | (refine s_lk hS ?_; try cbv)
        | (refine s_mu hS ?_; try cbv)
        | fail)
        rename_i i2 hi2
        refine ⟨(i2, F2), by dsimp only; omega, ⟨by dsimp only; omega, by dsimp only; omega, e1.trans k2, e2⟩, rfl, ?_, ?_, by cbv⟩
        · cbv; all_goals exact s_sA
        · cbv; all_goals exact s_bA
      · cbv
        refine s_loop_up hS 8 I.dead_causeylaw09_TableOwn_0 (fun x : Int × List SV => 0 ≤ x.1 ∧ x.1 ≤ nr ∧ x.2.length = B.length ∧ plains x.2 = true) (fun x => [(13, .i .i64 (.y x.1))]) (fun x => [(6, .r false false (.y 0) 2 x.2)]) (fun x => (nr - x.1).toNat) (0, B) rfl
          ⟨⟨Int.le_refl _, hr0, rfl, hBp⟩, rfl, ?_, ?_, by cbv⟩ ?_
        · cbv; all_goals exact s_sA
        · cbv; all_goals exact s_bA
        intro x
        obtain ⟨i3, B'⟩ := x
        intro hx
        dsimp only at hx
        cbv
        obtain ⟨q0, q1, q2, q3⟩ := hx
        refine s_sbr hS ?_ ?_ <;> intro h <;> cbv
        · repeat' (first
          | (refine s_eqs hS rfl ?_; try cbv)
          | (refine s_ck hS ?_; try cbv)
          | (refine s_sbr hS ?_ ?_ <;> intro h <;> (try cbv) <;> try exact s_ab h)
          | (refine s_ad hS ?_; intro _ _; try cbv)
          | (refine s_sb hS ?_; intro _ _; try cbv)
          | (refine s_stl hS ?_; intro _ _; try cbv)
          | (refine s_stc hS ?_; try cbv)
          | (refine s_wrg hS q0 (by omega) (by decide) rfl q3 fun F2 e1 e2 => ?_; cbv)
          | (refine s_eqo hS ?_; try cbv)
          | (refine s_lk hS ?_; try cbv)
          | (refine s_mu hS ?_; try cbv)
          | fail)
          rename_i i2 hi2
          refine ⟨(i2, F2), by dsimp only; omega, ⟨by dsimp only; omega, by dsimp only; omega, e1.trans q2, e2⟩, rfl, ?_, ?_, by cbv⟩
          · cbv; all_goals exact s_sA
          · cbv; all_goals exact s_bA
        · refine fields_u hS (l := l) (k := l) (.cons (.sub (sub_v hF.symm hm) rfl) (.cons ?_ .nil)) (by omega) (by omega) (fun _ => ?_) (fun e => ?_)
          · rw [show cellsF l = cellsF (l.take m.toNat) by rw [take_all (by omega)]]
            exact row_tab (lget_some rfl (by simp)) rfl ((app_nil hS F).trans hF.symm) (by dsimp only [Z.v]; omega) (by dsimp only [Z.v]; exact hm)
          · cbv
            refine wakes_u hS ?_
            cbv
            exact .rfl
          · cbv
            exact absurd rfl e
    · have hrr : resR (mx, l) most = ((0, []), 2) := by unfold resR; rw [if_neg (by intro h; exact hmo h.2)]
      refine res_g hS (.v (z := .y mx) (n := .y m) rfl hF hm) hrr rfl rfl (by omega) ?_
      cbv
      refine s_loop_up hS 7 I.dead_causeylaw09_TableOwn_1 (fun x : Int × List SV => 0 ≤ x.1 ∧ x.1 ≤ na ∧ x.2.length = A.length ∧ plains x.2 = true) (fun x => [(12, .i .i64 (.y x.1))]) (fun x => [(4, .r false false (.y 0) 2 x.2)]) (fun x => (na - x.1).toNat) (0, A) rfl
        ⟨⟨Int.le_refl _, hn0, rfl, hAp⟩, rfl, ?_, ?_, by cbv⟩ ?_
      · cbv; all_goals exact s_sA
      · cbv; all_goals exact s_bA
      intro x
      obtain ⟨i, A'⟩ := x
      intro hx
      dsimp only at hx
      cbv
      obtain ⟨k0, k1, k2, k3⟩ := hx
      refine s_sbr hS ?_ ?_ <;> intro h <;> cbv
      · repeat' (first
        | (refine s_eqs hS rfl ?_; try cbv)
        | (refine s_ck hS ?_; try cbv)
        | (refine s_sbr hS ?_ ?_ <;> intro h <;> (try cbv) <;> try exact s_ab h)
        | (refine s_ad hS ?_; intro _ _; try cbv)
        | (refine s_sb hS ?_; intro _ _; try cbv)
        | (refine s_stl hS ?_; intro _ _; try cbv)
        | (refine s_stc hS ?_; try cbv)
        | (refine s_wrg hS k0 (by omega) (by decide) rfl k3 fun F2 e1 e2 => ?_; cbv)
        | (refine s_eqo hS ?_; try cbv)
        | (refine s_lk hS ?_; try cbv)
        | (refine s_mu hS ?_; try cbv)
        | fail)
        rename_i i2 hi2
        refine ⟨(i2, F2), by dsimp only; omega, ⟨by dsimp only; omega, by dsimp only; omega, e1.trans k2, e2⟩, rfl, ?_, ?_, by cbv⟩
        · cbv; all_goals exact s_sA
        · cbv; all_goals exact s_bA
      · cbv
        refine s_loop_one hS ?_
        cbv
        refine s_sbr hS ?_ ?_ <;> intro h <;> cbv
        · exact absurd h (by decide)
        refine fields_u hS (l := l) (k := l) (.cons (.sub (sub_v hF.symm hm) rfl) (.cons ?_ .nil)) (by omega) (by omega) (fun _ => ?_) (fun e => ?_)
        · rw [show cellsF l = cellsF (l.take m.toNat) by rw [take_all (by omega)]]
          exact row_tab (lget_some rfl (by simp)) rfl ((app_nil hS F).trans hF.symm) (by dsimp only [Z.v]; omega) (by dsimp only [Z.v]; exact hm)
        · cbv
          refine wakes_u hS ?_
          cbv
          exact .rfl
        · cbv
          exact absurd rfl e
  · have haa : addR (mx, l) (a, b) = ((0, []), 2) := by unfold addR; rw [if_neg (by simpa using hR)]
    have hrr : resR (mx, l) most = ((0, []), 2) := by unfold resR; rw [if_neg (by intro h; exact hR h.1)]
    refine add_g hS (.v (z := .y mx) (n := .y m) rfl hF hm) haa rfl rfl (by omega) (by omega) ?_
    cbv
    refine res_g hS (.v (z := .y mx) (n := .y m) rfl hF hm) hrr rfl rfl (by omega) ?_
    cbv
    refine s_loop_one hS ?_
    cbv
    refine s_sbr hS ?_ ?_ <;> intro h <;> cbv
    · exact absurd h (by decide)
    refine s_loop_one hS ?_
    cbv
    refine s_sbr hS ?_ ?_ <;> intro h <;> cbv
    · exact absurd h (by decide)
    refine fields_u hS (l := l) (k := l) (.cons (.sub (sub_v hF.symm hm) rfl) (.cons ?_ .nil)) (by omega) (by omega) (fun _ => ?_) (fun e => ?_)
    · rw [show cellsF l = cellsF (l.take m.toNat) by rw [take_all (by omega)]]
      exact row_tab (lget_some rfl (by simp)) rfl ((app_nil hS F).trans hF.symm) (by dsimp only [Z.v]; omega) (by dsimp only [Z.v]; exact hm)
    · cbv
      refine wakes_u hS ?_
      cbv
      exact .rfl
    · cbv
      exact absurd rfl e
end Tb
end Cz
namespace Go.Proofs.YtdbnbknghhpbiaaDoor
open Go Cz Go.ChangeShapes Go.WideShapes Go.ChangeAt Go.RowKit
set_option linter.unusedSimpArgs false
set_option linter.unusedVariables false
theorem own : ownKnob Tryd.prog.godebug = Option.none := by kernel_rfl
theorem laidOut : laidOutB Tryd.prog = true := by kernel_rfl
theorem pk_tab : pks Tryd.prog 4 24 = some [.i .i64, .sl [.s, .s]] := by kernel_rfl
theorem pk_fd : pks Tryd.prog 4 26 = some [.s, .s] := by kernel_rfl
theorem pk_i : pks Tryd.prog 4 3 = some [.i .i64] := by kernel_rfl
set_option maxRecDepth 100000 in
theorem own_lifted (os : Os) (started : os.Started) (H : Type) (enc : TypeId × Value → H) :
    ReturnsInHanded {} Tryd.checked os 7 .any (fun w args => (Rows.tableOwnSpec.pre enc Tryd.prog Tryd.f7 Rows.tableOwnRow.domain false w args ∧ laidMetH Tryd.prog Rows.tableOwnRow.laid w) ∧ sizedMet enc Tryd.prog Tryd.f7 (OpenSpec.ofChange Rows.tableOwnSpec) false w args)
      (Rows.tableOwnSpec.post enc Tryd.prog Tryd.f7 false true false false) := by
  refine returnsInHanded_of_change_and (C := Tryd.checked) (X := fun w _ => laidMetH Tryd.prog Rows.tableOwnRow.laid w) (fun _ _ _ hh h => h.of_heap hh) own started (by kernel_rfl) Tryd.func7
    (ChangeSpec.witness_shaped (enc := enc) (C := Tryd.checked) (os := os) (X := fun w _ => laidMetH Tryd.prog Rows.tableOwnRow.laid w) false (World.laidAll Tryd.prog os Rows.tableOwnRow.laid) #[.agg #[.int .i64 0, .slice none 0 0], .agg #[.string ⟨#[]⟩, .string ⟨#[]⟩], .int .i64 0] 8 (World.laidAll_os _ _ _)
      (World.shaped_of_ZipB (by kernel_rfl) (by kernel_rfl)) (by kernel_rfl) (by kernel_rfl) (by kernel_rfl)
      (by rw [MakeChecks.laidMetH_plain _ _ _ (by kernel_rfl)]; exact laidMet_laidAll _ (by kernel_rfl) (by kernel_rfl))) ?_
  intro W base args ds gs before hval0 hW _ hsz _ _
  have hval : ∀ (j : Nat) t v, Tryd.f7.params[j]? = some t → args[j]? = some v → Value.okWide Tryd.prog W .any base t v := hval0
  have hW' := hW
  obtain ⟨p, q, hA0, hV, hbef, hfz, hnd⟩ := hW
  have hA : DataW.TrodAll enc Tryd.prog W 0 (fun _ => true) true Tryd.f7.params.toList args.toList ds p := hA0
  rw [Tryd.params7] at hA hval
  obtain ⟨v0, vs0, d0, ds0, p0, q0, hargs, rfl, rfl, h0, r0⟩ := trodAll_cons hA
  obtain ⟨v1, vs1, d1, ds1, p1, q1, rfl, rfl, rfl, h1, r1⟩ := trodAll_cons r0
  obtain ⟨v2, vs2, d2, ds2, p2, q2, rfl, rfl, rfl, h2, r2⟩ := trodAll_cons r1
  obtain ⟨rfl, rfl, rfl⟩ := trodAll_nil r2
  obtain rfl : args = #[v0, v1, v2] := by cases args; simp_all
  obtain ⟨rfl, rfl⟩ := trodVars_none hV
  obtain ⟨c0, rfl, _⟩ := okWide_struct Tryd.underlying24 (hval 0 24 v0 rfl rfl)
  obtain ⟨fu0, hf0⟩ := h0
  obtain ⟨c1, rfl, _⟩ := okWide_struct Tryd.underlying26 (hval 1 26 v1 rfl rfl)
  obtain ⟨fu1, hf1⟩ := h1
  obtain ⟨c2, rfl⟩ := okWide_int Tryd.underlying3 (hval 2 3 v2 rfl rfl)
  obtain ⟨fu2, hf2⟩ := h2
  obtain ⟨s0, hk0, hd0⟩ := open_any 4 24 _ fu0 _ _ pk_tab hf0 fun n hn => of_decide_eq_true (List.all_eq_true.1 hsz n (DataW.weights_mem_each (j := 0) (by kernel_rfl) (by first | rfl | simp) n hn))
  obtain ⟨mx, l, rfl, lo_mx, hi_mx, hl_l, hs_l⟩ := Tb.op_tab hk0
  obtain ⟨s1, hk1, hd1⟩ := open_any 4 26 _ fu1 _ _ pk_fd hf1 fun n hn => of_decide_eq_true (List.all_eq_true.1 hsz n (DataW.weights_mem_each (j := 1) (by kernel_rfl) (by first | rfl | simp) n hn))
  obtain ⟨a, b, rfl, hs_a⟩ := Tb.op_fd hk1
  obtain ⟨s2, hk2, hd2⟩ := open_any 4 3 _ fu2 _ _ pk_i hf2 fun n hn => of_decide_eq_true (List.all_eq_true.1 hsz n (DataW.weights_mem_each (j := 2) (by kernel_rfl) (by first | rfl | simp) n hn))
  obtain ⟨most, rfl, lo_most, hi_most⟩ := Tb.op_i hk2
  have hd' : denL (nmW W) [Tb.tabV mx l, .ag [.s a, .s b], .i .i64 (.y most)] [Value.agg c0, Value.agg c1, Value.int .i64 c2] := by
    simp only [denL]
    exact ⟨(by simp only [Tb.tabV, den]; exact ⟨c0, rfl, hd0⟩), (by simp only [Tb.tabV, den]; exact ⟨c1, rfl, hd1⟩), denL_one hd2, trivial⟩
  refine (law_calls I.fn_causeylaw09_TableOwn (Tb.own_f hs_l hl_l hs_a) hd').mono fun e W' ⟨he, hb⟩ => ?_
  subst he
  exact ⟨_, rfl, post_law laidOut hW' rfl (by kernel_rfl) rfl Tryd.underlying4 rfl hb⟩
theorem own_row : Rows.TableOwnSaid :=
  OpenClaim.holds_of_wide 7 Tryd.f7 rfl rfl rfl rfl rfl rfl rfl ⟨rfl, rfl, rfl, rfl, rfl⟩ rfl rfl rfl rfl rfl (by kernel_rfl) Tryd.func7 (by kernel_rfl)
    (of_decide_eq_true (by kernel_rfl)) (by unfold Func.isWrapper; first | (rw [if_pos (by decide +kernel)]; kernel_rfl) | (rw [if_neg (by decide +kernel)]; exact ⟨rfl, rfl⟩))
    (fun os started H enc _ => own_lifted os started H enc)
theorem own_holds : Rows.TableOwnCardSaid :=
  Claim7.holds_tied_plain_at .later [] _ _ _ _ own_row (fun _ h => by cases h) (by kernel_rfl) (fun _ h => by cases h) tableOwn_row_tie rfl ⟨rfl, rfl⟩ (by kernel_rfl) rfl
    (fun f fn hf hfn => by
      obtain rfl : f = 7 := Option.some.inj ((show Tryd.prog.funcNamed "causey/causeylaw09.TableOwn" = some 7 by kernel_rfl).symm.trans hf) |>.symm
      obtain rfl : fn = Tryd.f7 := (Option.some.inj (Tryd.func7.symm.trans hfn)).symm
      exact ⟨by kernel_rfl, fun j t ht => by
        rw [Tryd.params7] at ht
        have hm : t ∈ [24, 26, 3] := by simpa using Array.mem_of_getElem? ht
        have hall : ([24, 26, 3].all fun u => !Tryd.prog.wantsStandIn u) = true := by kernel_rfl
        exact (show Tryd.prog.wantsStandIn t = false by simpa using List.all_eq_true.1 hall t hm)⟩)
    (by kernel_rfl)
#print axioms own_holds
end Go.Proofs.YtdbnbknghhpbiaaDoor
