/- What the claims of this group lean on, part 7: our engine, the functions' simplified codes, their contracts. No condition. -/
import Derived.Test.YtdbnbknghhpbiaaGreatDoorKY6
set_option linter.unusedSimpArgs false
set_option linter.unusedVariables false
set_option maxRecDepth 100000
set_option maxHeartbeats 4000000
namespace Cz
open Go Go.RowKit Go.Proofs
namespace Tb
theorem clone_f {l : List Fd} {F : List SV} {n : Int} (hF : cellsF l = F) (hn : n = ilen l) (hb : n ≤ 100000000) : (S0 Tryz.prog).call 62 [.v false 2 F (.y n)] [] (Kept [(2, F)] (fun m => .sl m 2 (.l 0) (.y n) none)) := by
  have hpl : plains F = true := hF ▸ qcu l
  have hlen : (ilen F : Int) = n * 2 := by rw [← hF, hn]; have := qfw l; unfold ilen; omega
  have h0 := qah l
  generalize hS : S0 Tryz.prog = S
  refine qaa hS I.qgt ?_
  cbv
  refine s_nil hS (fun h => ?_) ?_
  · cbv
    have : F = [] := by rw [← hF, List.eq_nil_of_length_eq_zero (l := l) (by unfold ilen at hn; omega)]; rfl
    exact ⟨[none], ⟨this, trivial⟩, fun m => .nilk (i := 0) rfl rfl h⟩
  · cbv
    repeat' (first | (refine s_st hS ?_; try cbv) | (refine qzaek hS ?_; try cbv) | fail)
    refine ⟨[some 0], ⟨⟨_, _, _, rfl, ?_⟩, rfl, trivial⟩, fun m => .keep (i := 0) rfl rfl ?_⟩
    · subst hS; exact .rfl
    · rfl
section
variable {S : Sy} {bl : List Blk} {K : SV → List Blk → Prop}
theorem clone_u (hS : S0 Tryz.prog = S) {x : SV} {l : List Fd} {n : Int} {F : List SV} (hx : SubL [x] [.v false 2 F (.y n)]) (hF : cellsF l = F) (hn : n = ilen l) (hb : n ≤ 100000000)
    (hK : ∀ st, K (.sl (len bl) 2 (.l 0) (.y n) none) (snoc bl (.r false false (.y st) 2 F))) : S.call 62 [x] bl K :=
  use_kept hS (clone_f hF hn hb) hx rfl ⟨⟨by decide, hF ▸ qcu l⟩, trivial⟩ fun sts => hK _
end
theorem qzacu (mx : Int) (l : List Fd) : evL mx l = l.take (ilen (evL mx l)).toNat := by
  have := evN_le mx l l.length
  have h : (ilen (evL mx l)).toNat = evN mx l l.length := by unfold ilen evL; rw [List.length_take]; omega
  rw [h]; rfl
def tabE (mx : Int) (l : List Fd) (e : Int) : SV := .tp [tabV mx l, .i .i64 (.y e)]
theorem res_f {mx most mx' e : Int} {l l' : List Fd} (hr : resR (mx, l) most = ((mx', l'), e)) (hb : fullL l ≤ 100000000) :
    (S0 Tryz.prog).call 35 [tabV mx l, .i .i64 (.y most)] [] (Tell (tabE mx' l' e)) := by
  generalize hF : cellsF l = F
  obtain ⟨m, hm⟩ : ∃ m, m = ilen l := ⟨_, rfl⟩
  have hlen := qbz l
  have hm0 := qah l
  unfold tabE tabV
  generalize hF' : cellsF l' = F'
  obtain ⟨m', hm'⟩ : ∃ m, m = ilen l' := ⟨_, rfl⟩
  rw [hF, ← hm, ← hm']
  unfold resR at hr
  dsimp only at hr
  generalize hS : S0 Tryz.prog = S
  refine qaa hS I.qxi ?_
  cbv
  refine new_u hS (fun h1 => ?_) (fun h1 h2 => ?_) <;> cbv <;> dsimp only [Z.v] at *
  · rw [if_neg (by intro h; omega)] at hr
    cases hr
    exact qer hF' hm' rfl (.nil rfl)
  · refine right_u hS (.v rfl hF hm) hb (fun h3 => ?_) (fun h3 => ?_) <;> cbv <;> dsimp only [Z.v] at *
    · rw [if_pos ⟨h3, h1, h2⟩] at hr
      refine clone_u hS .rfl hF hm (by omega) fun st => ?_
      cbv
      refine evict_u hS (mx := most) hF h1 hb fun n1 hn1 => ?_
      cbv
      cases hr
      refine qer hF' hm' rfl (.row rfl rfl hF ?_ hn1)
      dsimp only [Z.v]
      rw [hn1]; exact qzacu _ _
    · rw [if_neg (by intro h; rw [h.1] at h3; cases h3)] at hr
      cases hr
      exact qer hF' hm' rfl (.nil rfl)
theorem add_f {mx mx' e : Int} {l l' : List Fd} {a b : List UInt8} (hr : addR (mx, l) (a, b) = ((mx', l'), e)) (hb : fullL l ≤ 10000000) (hs : szF (a, b) ≤ 10000000) :
    (S0 Tryz.prog).call 39 [tabV mx l, .ag [.s a, .s b]] [] (Tell (tabE mx' l' e)) := by
  generalize hF : cellsF l = F
  obtain ⟨m, hm⟩ : ∃ m, m = ilen l := ⟨_, rfl⟩
  have hlen := qbz l
  have hm0 := qah l
  have hfl : ilen F = m * 2 := by rw [← hF, hm]; have := qfw l; unfold ilen; omega
  unfold tabE tabV
  generalize hF' : cellsF l' = F'
  obtain ⟨m', hm'⟩ : ∃ m, m = ilen l' := ⟨_, rfl⟩
  rw [hF, ← hm, ← hm']
  unfold addR at hr
  dsimp only at hr
  generalize hS : S0 Tryz.prog = S
  refine qaa hS I.qzafs ?_
  cbv
  refine right_u hS (.v rfl hF hm) (by omega) (fun h3 => ?_) (fun h3 => ?_) <;> cbv <;> dsimp only [Z.v] at *
  · have hmx : 0 ≤ mx := by unfold rightL at h3; have := of_decide_eq_true h3; omega
    rw [if_pos h3] at hr
    repeat' (first | (refine s_st hS ?_; try cbv) | (refine qzaek hS ?_; try cbv) | fail)
    have e1 : S.app [.s a, .s b] F = cellsF ((a, b) :: l) := by subst hS; rw [← hF]; rfl
    have e2 : S.pl 1 m = ilen ((a, b) :: l) := by subst hS; rw [hm]; simp only [pl_eq]; simp [ilen]; omega
    have e3 : fullL ((a, b) :: l) = szF (a, b) + fullL l := rfl
    refine evict_u hS (mx := mx) (l := (a, b) :: l) e1.symm hmx (by omega) fun n1 hn1 => ?_
    cbv
    cases hr
    refine qer hF' hm' rfl (.row rfl rfl e1.symm ?_ hn1)
    dsimp only [Z.v]
    rw [hn1]; exact qzacu _ _
  · rw [if_neg (by rw [h3]; simp)] at hr
    cases hr
    exact qer hF' hm' rfl (.nil rfl)
theorem qzafx {mx : Int} {l : List Fd} (h0 : 0 ≤ mx) (hb : fullL l ≤ 10000000) : (S0 Tryz.prog).call 67 [tabV mx l] [] (Tell (tabV mx (evL mx l))) := by
  generalize hF : cellsF l = F
  obtain ⟨m, hm⟩ : ∃ m, m = ilen l := ⟨_, rfl⟩
  obtain ⟨e, he⟩ : ∃ e, e = ilen (evL mx l) := ⟨_, rfl⟩
  have hlen := qbz l
  have hm0 := qah l
  have hpl := qcu l
  have hfl : ilen F = m * 2 := by rw [← hF, hm]; have := qfw l; unfold ilen; omega
  unfold tabV
  generalize hF' : cellsF (evL mx l) = F'
  rw [hF, ← hm, ← he]
  rw [hF] at hpl
  generalize hS : S0 Tryz.prog = S
  refine qaa hS I.qkd ?_
  cbv
  repeat' (first | (refine s_st hS ?_; try cbv) | (refine qzaek hS ?_; try cbv) | fail)
  have e1 : S.app [] F = F := by subst hS; rfl
  refine qav hS 3 I.qgv (fun x : Int => 0 ≤ x ∧ x ≤ m ∧ evN mx l m.toNat = evN mx l x.toNat) (fun _ => []) (fun x => [(0, .c [.i .i64 (.y mx), .sl 2 2 (.l 0) (.y x) none]), (2, .r false false (.y (S.flen [])) 2 F)]) (fun x => x.toNat) m rfl
    ⟨⟨by omega, by omega, rfl⟩, rfl, ?_, ?_, by cbv⟩ ?_
  · cbv; all_goals exact s_sA
  · cbv
    exact ⟨.rfl, .rfl, .r (by subst hS; exact .rfl) rfl hpl, trivial⟩
  intro k hk
  cbv
  obtain ⟨k0, k1, k2⟩ := hk
  have hft := qdg l k.toNat
  refine qbn hS rfl I.qhk (by decide +kernel) ?_
  cbv
  repeat' (first | (refine qai hS ?_ ?_ <;> intro h <;> (try cbv) <;> try exact s_ab h) | (refine qax hS ?_; intro _ _; try cbv) | (refine rfull_u hS (mx := mx) (l := l.take k.toNat) (.row rfl rfl hF rfl (by simp only [Z.v, ilen, List.length_take]; unfold ilen at hm; omega)) (by omega) fun f hf => ?_; cbv) | fail)
  · have kp := ev_pos h0 (hf ▸ h)
    rename_i r hr
    repeat' (first | (refine s_st hS ?_; try cbv) | fail)
    refine ⟨r, by omega, ⟨by omega, by omega, qzahp hr kp k2 (hf ▸ h)⟩, rfl, ?_, ?_, by cbv⟩
    · cbv; all_goals exact s_sA
    · cbv; all_goals exact s_bA
  · have hke : k = e := ev_end hm he k0 k1 k2 (hf ▸ h)
    refine tell_ag hF' he (.row rfl rfl hF ?_ (by dsimp only [Z.v]; rw [hke, he]))
    dsimp only [Z.v]
    rw [hke, he]; exact qzacu _ _
section
variable {S : Sy} {bl : List Blk} {K : SV → List Blk → Prop} {cs : List SV} {mx : Int} {l : List Fd}
theorem evicted_u (hS : S0 Tryz.prog = S) (hc : TabC [] cs mx l) (h0 : 0 ≤ mx) (hb : fullL l ≤ 10000000) (hK : ∀ F n, cellsF (evL mx l) = F → n = ilen (evL mx l) → K (.ag [.i .i64 (.y mx), .v false 2 F (.y n)]) bl) :
    S.call 67 [.ag cs] bl K :=
  qbv hS (qzafx h0 hb) hc.sub rfl (hK _ _ rfl rfl)
theorem evicted_r (hS : S0 Tryz.prog = S) {z n st : Z} {k : Nat} {lit : Bool} {cap : Option Z} {F : List SV} (hz : z.v = mx) (hF : cellsF l = F) (hn : n.v = ilen l) (h0 : 0 ≤ mx) (hb : fullL l ≤ 10000000)
    (hK : ∀ F n, cellsF (evL mx l) = F → n = ilen (evL mx l) → K (.ag [.i .i64 (.y mx), .v false 2 F (.y n)]) (frzL [k] 0 bl)) (hB : lget bl k = .r false lit st 2 F := by rfl) (hk : kpOf (others [k] (len bl)) k = none := by rfl) :
    S.call 67 [.ag [.i .i64 z, .sl k 2 (.l 0) n cap]] bl K := by
  refine use_frz hS [k] (rows := []) (y := fun _ => tabV mx (evL mx l)) (qaw (qzafx (l := l) h0 hb) fun x l' h => ⟨x, .rfl, [], trivial, fun m => h _⟩) ?_ rfl trivial (fun _ => hK _ _ rfl rfl)
  refine .cons (.ag (.cons (.sub (qae hz) rfl) (.cons ?_ .nil))) .nil
  have := row_tab (l' := bl) (g := id) (cap := cap) (lit' := false) (len := n) (n := .y (ilen l)) (m := l.length) (qau hB (by simp)) hk hF.symm hn hn
  rwa [List.take_length] at this
end
theorem rres_f {mx most mx' e : Int} {l l' : List Fd} (hr : resR (mx, l) most = ((mx', l'), e)) (hb : fullL l ≤ 10000000) :
    (S0 Tryz.prog).call 42 [tabV mx l, .i .i64 (.y most)] [] (Tell (tabE mx' l' e)) := by
  generalize hF : cellsF l = F
  obtain ⟨m, hm⟩ : ∃ m, m = ilen l := ⟨_, rfl⟩
  have hlen := qbz l
  have hm0 := qah l
  unfold tabE tabV
  generalize hF' : cellsF l' = F'
  obtain ⟨m', hm'⟩ : ∃ m, m = ilen l' := ⟨_, rfl⟩
  rw [hF, ← hm, ← hm']
  unfold resR at hr
  dsimp only at hr
  generalize hS : S0 Tryz.prog = S
  refine qaa hS I.qlv ?_
  cbv
  refine rright_u hS (.v rfl hF hm) (by omega) (fun h3 => ?_) (fun h3 => ?_) <;> cbv <;> dsimp only [Z.v] at *
  · repeat' (first | (refine qai hS ?_ ?_ <;> intro h <;> (try cbv) <;> try exact s_ab h) | (refine evicted_u hS (mx := most) (l := l) (.v rfl hF hm) (by omega) hb fun F1 n1 hF1 hn1 => ?_; cbv) | fail)
    all_goals first
      | (rw [if_pos ⟨h3, by omega, by omega⟩] at hr; cases hr; exact qer hF' hm' rfl (.v rfl hF1 hn1))
      | (rw [if_neg (by intro h; omega)] at hr; cases hr; exact qer hF' hm' rfl (.nil rfl))
  · rw [if_neg (by intro h; rw [h.1] at h3; cases h3)] at hr
    skip
    cases hr; exact qer hF' hm' rfl (.nil rfl)
theorem radd_f {mx mx' e : Int} {l l' : List Fd} {a b : List UInt8} (hr : addR (mx, l) (a, b) = ((mx', l'), e)) (hb : fullL l ≤ 1000000) (hs : szF (a, b) ≤ 1000000) :
    (S0 Tryz.prog).call 44 [tabV mx l, .ag [.s a, .s b]] [] (Tell (tabE mx' l' e)) := by
  generalize hF : cellsF l = F
  obtain ⟨m, hm⟩ : ∃ m, m = ilen l := ⟨_, rfl⟩
  have hlen := qbz l
  have hm0 := qah l
  have hfl : ilen F = m * 2 := by rw [← hF, hm]; have := qfw l; unfold ilen; omega
  unfold tabE tabV
  generalize hF' : cellsF l' = F'
  obtain ⟨m', hm'⟩ : ∃ m, m = ilen l' := ⟨_, rfl⟩
  rw [hF, ← hm, ← hm']
  unfold addR at hr
  dsimp only at hr
  generalize hS : S0 Tryz.prog = S
  refine qaa hS I.qrd ?_
  cbv
  refine rright_u hS (.v rfl hF hm) (by omega) (fun h3 => ?_) (fun h3 => ?_) <;> cbv <;> dsimp only [Z.v] at *
  · have hmx : 0 ≤ mx := by unfold rightL at h3; have := of_decide_eq_true h3; omega
    rw [if_pos h3] at hr
    repeat' (first | (refine s_st hS ?_; try cbv) | (refine qzaek hS ?_; try cbv) | fail)
    have e1 : S.app [.s a, .s b] F = cellsF ((a, b) :: l) := by subst hS; rw [← hF]; rfl
    have e2 : S.pl 1 m = ilen ((a, b) :: l) := by subst hS; rw [hm]; simp only [pl_eq]; simp [ilen]; omega
    have e3 : fullL ((a, b) :: l) = szF (a, b) + fullL l := rfl
    refine evicted_r hS (mx := mx) (l := (a, b) :: l) rfl e1.symm e2 hmx (by omega) fun F1 n1 hF1 hn1 => ?_
    cbv
    cases hr
    exact qer hF' hm' rfl (.v rfl hF1 hn1)
  · rw [if_neg (by rw [h3]; simp)] at hr
    skip
    cases hr
    exact qer hF' hm' rfl (.nil rfl)
end Tb
end Cz
namespace Cz
open Go Go.RowKit Go.Proofs
namespace Tb
theorem qzago {l k : List Fd} {i : Int} {x y : Fd} (hx : l[i.toNat]? = some x) (hy : k[i.toNat]? = some y) (h : x ≠ y) : ¬l = k := by
  intro e; subst e; rw [hx] at hy; cases hy; exact h rfl
theorem qko {l k : List Fd} {i : Int} {x : Fd} (h0 : 0 ≤ i) (hx : l[i.toNat]? = some x) (hy : k[i.toNat]? = some x) (h : l.take i.toNat = k.take i.toNat) : l.take (i + 1).toNat = k.take (i + 1).toNat := by
  rw [qkn hx h0, qkn hy h0, h]
theorem fields_f {l k : List Fd} {t : Bool} (ht : decide (l = k) = t) (h1 : ilen l ≤ 100000000) (h2 : ilen k ≤ 100000000) : (S0 Tryz.prog).call 45 [.v false 2 (cellsF l) (.y (ilen l)), .v false 2 (cellsF k) (.y (ilen k))] [] (fun y _ => Sub y (.b t)) := by
  generalize hF : cellsF l = F
  generalize hG : cellsF k = G
  obtain ⟨m, hm⟩ : ∃ m, m = ilen l := ⟨_, rfl⟩
  obtain ⟨n, hn⟩ : ∃ n, n = ilen k := ⟨_, rfl⟩
  have h3 := qah l
  have h4 := qah k
  rw [← hm] at h1 h3 ⊢
  rw [← hn] at h2 h4 ⊢
  generalize hS : S0 Tryz.prog = S
  refine qaa hS I.qlw ?_
  cbv
  refine qai hS ?_ ?_ <;> intro h <;> cbv
  · have e : t = false := by rw [← ht]; exact decide_eq_false (fun e => by subst e; omega)
    all_goals exact s_sA
  refine qav hS 0 I.qhr (fun x : Int => 0 ≤ x ∧ x ≤ m ∧ l.take x.toNat = k.take x.toNat) (fun x => [(5, .i .i64 (.y x))]) (fun _ => []) (fun x => (m - x).toNat) 0 rfl
    ⟨⟨Int.le_refl _, by omega, rfl⟩, rfl, ?_, ?_, by cbv⟩ ?_
  · cbv; all_goals exact s_sA
  · cbv; all_goals exact s_bA
  intro i hx
  cbv
  obtain ⟨k0, k1, k2⟩ := hx
  refine s_br hS ?_ ?_ <;> intro h' <;> cbv <;> simp only [← hS, Int.ofNat_eq_natCast, cq, Bool.not_eq_true', Bool.not_eq_false', decide_eq_true_eq, decide_eq_false_iff_not, beq_iff_eq, beq_eq_false_iff_ne, ne_eq] at h'
  · obtain ⟨⟨a, b⟩, hp⟩ := qei (l := l) (i := i) (by omega) k0
    obtain ⟨⟨c, d⟩, hq⟩ := qei (l := k) (i := i) (by omega) k0
    refine qbn hS rfl I.qic (by decide +kernel) ?_
    cbv
    repeat' (first | (refine s_st hS ?_; try cbv) | (refine qai hS ?_ ?_ <;> intro h <;> (try cbv) <;> try exact s_ab h) | (refine qax hS ?_; intro _ _; try cbv) | (refine rowF hS hF hp (by omega) ?_; cbv) | (refine rowF hS hG hq (by omega) ?_; cbv) | fail)
    · have he : (a, b) = (c, d) := by congr
      rename_i r hr
      refine ⟨r, by omega, ⟨by omega, by omega, ?_⟩, rfl, ?_, ?_, by cbv⟩
      · rw [hr]; exact qko k0 (he ▸ hp) hq k2
      · cbv; all_goals exact s_sA
      · cbv; all_goals exact s_bA
    all_goals
      have e : t = false := by rw [← ht]; exact decide_eq_false (qzago hp hq (by intro e; cases e; simp_all))
      all_goals exact s_sA
  · have e : t = true := by rw [← ht]; exact decide_eq_true (by rwa [qca (by omega), qca (by omega)] at k2)
    all_goals exact s_sA
theorem equal_f {l k : List Fd} {t : Bool} (ht : decide (l = k) = t) (h1 : ilen l ≤ 100000000) (h2 : ilen k ≤ 100000000) : (S0 Tryz.prog).call 59 [.v false 2 (cellsF l) (.y (ilen l)), .v false 2 (cellsF k) (.y (ilen k))] [] (fun y _ => Sub y (.b t)) := by
  generalize hF : cellsF l = F
  generalize hG : cellsF k = G
  obtain ⟨m, hm⟩ : ∃ m, m = ilen l := ⟨_, rfl⟩
  obtain ⟨n, hn⟩ : ∃ n, n = ilen k := ⟨_, rfl⟩
  have h3 := qah l
  have h4 := qah k
  rw [← hm] at h1 h3 ⊢
  rw [← hn] at h2 h4 ⊢
  generalize hS : S0 Tryz.prog = S
  refine qaa hS I.qgs ?_
  cbv
  refine qai hS ?_ ?_ <;> intro h <;> cbv
  · have e : t = false := by rw [← ht]; exact decide_eq_false (fun e => by subst e; omega)
    all_goals exact s_sA
  refine qav hS 0 I.qfb (fun x : Int => 0 ≤ x ∧ x ≤ m ∧ l.take x.toNat = k.take x.toNat) (fun x => [(12, .i .i64 (.y m)), (13, .i .i64 (.y x))]) (fun _ => []) (fun x => (m - x).toNat) 0 rfl
    ⟨⟨Int.le_refl _, by omega, rfl⟩, rfl, ?_, ?_, by cbv⟩ ?_
  · cbv; all_goals exact s_sA
  · cbv; all_goals exact s_bA
  intro i hx
  cbv
  obtain ⟨k0, k1, k2⟩ := hx
  refine s_br hS ?_ ?_ <;> intro h' <;> cbv <;> simp only [← hS, Int.ofNat_eq_natCast, cq, Bool.not_eq_true', Bool.not_eq_false', decide_eq_true_eq, decide_eq_false_iff_not, beq_iff_eq, beq_eq_false_iff_ne, ne_eq] at h'
  · obtain ⟨⟨a, b⟩, hp⟩ := qei (l := l) (i := i) (by omega) k0
    obtain ⟨⟨c, d⟩, hq⟩ := qei (l := k) (i := i) (by omega) k0
    refine qbn hS rfl I.qfe (by decide +kernel) ?_
    cbv
    repeat' (first | (refine s_st hS ?_; try cbv) | (refine qai hS ?_ ?_ <;> intro h <;> (try cbv) <;> try exact s_ab h) | (refine qax hS ?_; intro _ _; try cbv) | (refine rowF hS hF hp (by omega) ?_; cbv) | (refine rowF hS hG hq (by omega) ?_; cbv) | fail)
    · have he : (a, b) = (c, d) := by congr
      rename_i r hr
      refine ⟨r, by omega, ⟨by omega, by omega, ?_⟩, rfl, ?_, ?_, by cbv⟩
      · rw [hr]; exact qko k0 (he ▸ hp) hq k2
      · cbv; all_goals exact s_sA
      · cbv; all_goals exact s_bA
    all_goals
      have e : t = false := by rw [← ht]; exact decide_eq_false (qzago hp hq (by intro e; cases e; simp_all))
      all_goals exact s_sA
  · have e : t = true := by rw [← ht]; exact decide_eq_true (by rwa [qca (by omega), qca (by omega)] at k2)
    all_goals exact s_sA
section
variable {S : Sy} {bl : List Blk} {K : SV → List Blk → Prop}
theorem fields_u (hS : S0 Tryz.prog = S) {x y : SV} {l k : List Fd} (hc : FzL bl id [] [x, y] [.v false 2 (cellsF l) (.y (ilen l)), .v false 2 (cellsF k) (.y (ilen k))]) (hl : ilen l ≤ 100000000) (hk : ilen k ≤ 100000000) (h1 : l = k → K .tt bl) (h2 : l ≠ k → K .ff bl) :
    S.call 45 [x, y] bl K := by
  by_cases h : l = k
  · exact qcd hS (qdm (fields_f (decide_eq_true h) hl hk)) hc rfl rfl (h1 h)
  · exact qcd hS (qdm (fields_f (decide_eq_false h) hl hk)) hc rfl rfl (h2 h)
theorem equal_u (hS : S0 Tryz.prog = S) {x y : SV} {l k : List Fd} (hc : FzL bl id [] [x, y] [.v false 2 (cellsF l) (.y (ilen l)), .v false 2 (cellsF k) (.y (ilen k))]) (hl : ilen l ≤ 100000000) (hk : ilen k ≤ 100000000) (h1 : l = k → K .tt bl) (h2 : l ≠ k → K .ff bl) :
    S.call 59 [x, y] bl K := by
  by_cases h : l = k
  · exact qcd hS (qdm (equal_f (decide_eq_true h) hl hk)) hc rfl rfl (h1 h)
  · exact qcd hS (qdm (equal_f (decide_eq_false h) hl hk)) hc rfl rfl (h2 h)
end
end Tb
end Cz
namespace Cz
open Go Go.RowKit Go.Proofs
namespace Tb
theorem same_f {mx my : Int} {l k : List Fd} {t : Bool} (ht : decide (mx = my ∧ l = k) = t) (h1 : ilen l ≤ 100000000) (h2 : ilen k ≤ 100000000) : (S0 Tryz.prog).call 60 [tabV mx l, tabV my k] [] (fun y _ => Sub y (.b t)) := by
  unfold tabV
  generalize hF : cellsF l = F
  generalize hG : cellsF k = G
  obtain ⟨m, hm⟩ : ∃ m, m = ilen l := ⟨_, rfl⟩
  obtain ⟨n, hn⟩ : ∃ n, n = ilen k := ⟨_, rfl⟩
  rw [← hm, ← hn]
  generalize hS : S0 Tryz.prog = S
  refine qaa hS I.qzacl ?_
  cbv
  refine qai hS ?_ ?_ <;> intro h <;> cbv
  · refine equal_u hS (l := l) (k := k) (.cons (.sub (qap hF.symm hm) rfl) (.cons (.sub (qap hG.symm hn) rfl) .nil)) h1 h2 (fun he => ?_) (fun he => ?_) <;> cbv
    · have e : t = true := by rw [← ht]; exact decide_eq_true ⟨h, he⟩
      all_goals exact s_sA
    · have e : t = false := by rw [← ht]; exact decide_eq_false fun e => he e.2
      all_goals exact s_sA
  · have e : t = false := by rw [← ht]; exact decide_eq_false fun e => h e.1
    all_goals exact s_sA
theorem rsame_f {mx my : Int} {l k : List Fd} {t : Bool} (ht : decide (mx = my ∧ l = k) = t) (h1 : ilen l ≤ 100000000) (h2 : ilen k ≤ 100000000) : (S0 Tryz.prog).call 11 [tabV mx l, tabV my k] [] (fun y _ => Sub y (.b t)) := by
  unfold tabV
  generalize hF : cellsF l = F
  generalize hG : cellsF k = G
  obtain ⟨m, hm⟩ : ∃ m, m = ilen l := ⟨_, rfl⟩
  obtain ⟨n, hn⟩ : ∃ n, n = ilen k := ⟨_, rfl⟩
  rw [← hm, ← hn]
  generalize hS : S0 Tryz.prog = S
  refine qaa hS I.qpi ?_
  cbv
  refine qai hS ?_ ?_ <;> intro h <;> cbv
  · refine fields_u hS (l := l) (k := k) (.cons (.sub (qap hF.symm hm) rfl) (.cons (.sub (qap hG.symm hn) rfl) .nil)) h1 h2 (fun he => ?_) (fun he => ?_) <;> cbv
    · have e : t = true := by rw [← ht]; exact decide_eq_true ⟨h, he⟩
      all_goals exact s_sA
    · have e : t = false := by rw [← ht]; exact decide_eq_false fun e => he e.2
      all_goals exact s_sA
  · have e : t = false := by rw [← ht]; exact decide_eq_false fun e => h e.1
    all_goals exact s_sA
def shortL (l : List Fd) : Prop := ∀ f, f ∈ l → ilen f.1 ≤ 140737488355328 ∧ ilen f.2 ≤ 140737488355328
theorem qmp {l : List Fd} (h : shortL l) : fullL l ≤ 281474976710688 * ilen l := by
  induction l with
  | nil => simp [fullL, ilen]
  | cons f l ih =>
    have h1 := h f (List.mem_cons_self ..)
    have h2 := ih fun g hg => h g (List.mem_cons_of_mem _ hg)
    simp only [fullL, szF, ilen, List.length_cons] at *
    omega
section
variable {S : Sy} {bl : List Blk} {K : SV → List Blk → Prop} {cs : List SV} {mx my : Int} {l k : List Fd}
theorem fz_two {bl : List Blk} {g : Nat → Nat} {x y a b : SV} (hx : FzL bl g [] [x] [a]) (hy : FzL bl g [] [y] [b]) (ha : plainV a = false) (hb : plainV b = false) : FzL bl g [] [x, y] [a, b] := by
  cases hx with
  | cons h1 _ => cases hy with
    | cons h2 _ => exact .cons h1 (.cons h2 .nil)
    | fsub h hp => simp [plains, hb] at hp
  | fsub h hp => simp [plains, ha] at hp
theorem same_u (hS : S0 Tryz.prog = S) {cs' : List SV} (hc : TabC bl cs mx l) (hc' : TabC bl cs' my k) (hl : ilen l ≤ 100000000) (hk : ilen k ≤ 100000000) (h1 : mx = my → l = k → K .tt bl) (h2 : ¬(mx = my ∧ l = k) → K .ff bl) :
    S.call 60 [.ag cs, .ag cs'] bl K := by
  by_cases h : mx = my ∧ l = k
  · exact qcd hS (qdm (same_f (decide_eq_true h) hl hk)) (fz_two hc.fz hc'.fz rfl rfl) rfl rfl (h1 h.1 h.2)
  · exact qcd hS (qdm (same_f (decide_eq_false h) hl hk)) (fz_two hc.fz hc'.fz rfl rfl) rfl rfl (h2 h)
end
end Tb
end Cz
namespace Cz
open Go Go.RowKit Go.Proofs
namespace Tb
def statR (i : Int) : Fd × Bool := if 1 ≤ i ∧ i ≤ 20 then (stL.getD (i - 1).toNat ([], []), true) else (([], []), false)
theorem qzagt {i : Int} (h1 : 1 ≤ i) (h2 : i ≤ 20) : ∃ a b, stL[(i - 1).toNat]? = some (a, b) ∧ statR i = ((a, b), true) := by
  have h : (i - 1).toNat < stL.length := by rw [qkr]; omega
  refine ⟨(stL[(i - 1).toNat]).1, (stL[(i - 1).toNat]).2, List.getElem?_eq_getElem h, ?_⟩
  unfold statR
  rw [if_pos ⟨h1, h2⟩, List.getD_eq_getElem?_getD, List.getElem?_eq_getElem h]; rfl
theorem at_stat {l : List Fd} {i : Int} {a b : List UInt8} (h : statR i = ((a, b), true)) : atR l i = ((a, b), 0) := by
  by_cases hi : 1 ≤ i ∧ i ≤ 20
  · obtain ⟨c, d, hp, hq⟩ := qzagt hi.1 hi.2
    rw [hq] at h; cases h
    unfold atR allF
    rw [if_neg (by omega), List.getElem?_append_left (by rw [qkr]; omega), hp]
  · unfold statR at h; rw [if_neg hi] at h; cases h
theorem stat_no {i : Int} {a b : List UInt8} (h : statR i = ((a, b), false)) : ¬(1 ≤ i ∧ i ≤ 20) := by
  intro hi
  obtain ⟨c, d, hp, hq⟩ := qzagt hi.1 hi.2
  rw [hq] at h; cases h
theorem at_row {l : List Fd} {i : Int} (hi : 21 ≤ i) {a b : List UInt8} (hp : l[(i - 21).toNat]? = some (a, b)) : atR l i = ((a, b), 0) := by
  unfold atR allF
  rw [if_neg (by omega), List.getElem?_append_right (by rw [qkr]; omega), qkr, show (i - 1).toNat - 20 = (i - 21).toNat by omega, hp]
theorem qzahz {l : List Fd} {i : Int} (hi : i < 1 ∨ ilen l ≤ i - 21) : atR l i = (([], []), 90) := by
  unfold atR
  split
  · rfl
  · unfold allF
    unfold ilen at hi
    rw [List.getElem?_eq_none (by rw [List.length_append, qkr]; omega)]
theorem rstat_f {i : Int} {a b : List UInt8} {t : Bool} (hr : statR i = ((a, b), t)) (hl : -9223372036854775808 ≤ i) : (S0 Tryz.prog).call 91 [.i .i64 (.y i)] [] (fun y _ => Sub y (.tp [.ag [.s a, .s b], .b t])) := by
  generalize hS : S0 Tryz.prog = S
  refine qaa hS I.qlu ?_
  cbv
  refine qai hS ?_ ?_ <;> intro h <;> cbv
  · unfold statR at hr
    rw [if_neg (by omega)] at hr
    cases hr
    skip
    all_goals exact s_sA
  · refine s_br hS ?_ ?_ <;> intro h' <;> cbv <;> simp only [← hS, Int.ofNat_eq_natCast, cq, Bool.not_eq_true', Bool.not_eq_false', decide_eq_true_eq, decide_eq_false_iff_not, beq_iff_eq, beq_eq_false_iff_ne, ne_eq] at h'
    · unfold statR at hr
      rw [if_neg (by omega)] at hr
      cases hr
      skip
      all_goals exact s_sA
    · obtain ⟨c, d, hp, hq⟩ := qzagt (i := i) (by omega) (by omega)
      rw [hq] at hr
      cases hr
      repeat' (first | (refine s_st hS ?_; try cbv) | (refine qax hS ?_; intro _ _; try cbv) | fail)
      rename_i r hr
      refine rowF hS (l := stL) rfl (hr ▸ hp) (by omega) ?_
      cbv
      skip
      all_goals exact s_sA
theorem rstat_u {S : Sy} {bl : List Blk} {K : SV → List Blk → Prop} (hS : S0 Tryz.prog = S) {z : Z} (hl : -9223372036854775808 ≤ z.v) (h1 : ∀ a b, statR z.v = ((a, b), true) → K (.tp [.ag [.s a, .s b], .tt]) bl) (h2 : statR z.v = (([], []), false) → K (.tp [.ag [.s [], .s []], .ff]) bl) :
    S.call 91 [.i .i64 z] bl K := by
  cases hr : statR z.v with
  | mk f t => cases f with
    | mk a b => cases t with
      | true => exact qbf hS (qdm (rstat_f hr hl)) (.cons (qae rfl) .nil) rfl rfl (h1 a b hr)
      | false =>
        have := stat_no hr
        unfold statR at hr
        rw [if_neg this] at hr
        cases hr
        exact qbf hS (qdm (rstat_f (a := []) (b := []) (t := false) (by unfold statR; rw [if_neg this]) hl)) (.cons (qae rfl) .nil) rfl rfl (h2 (by unfold statR; rw [if_neg this]))
theorem rat_f {mx i e : Int} {l : List Fd} {a b : List UInt8} (hr : atR l i = ((a, b), e)) (hl : -9223372036854775808 ≤ i) (hu : i ≤ 9223372036854775807) (hm : ilen l ≤ 100000000) : (S0 Tryz.prog).call 66 [tabV mx l, .i .i64 (.y i)] [] (fun y _ => Sub y (.tp [.ag [.s a, .s b], .i .i64 (.y e)])) := by
  unfold tabV
  generalize hF : cellsF l = F
  obtain ⟨m, hm'⟩ : ∃ m, m = ilen l := ⟨_, rfl⟩
  have h0 := qah l
  rw [← hm'] at h0 hm ⊢
  generalize hS : S0 Tryz.prog = S
  refine qaa hS I.qsv ?_
  cbv
  refine rstat_u hS hl (fun c d h => ?_) (fun h => ?_) <;> dsimp only [Z.v] at h <;> cbv
  · rw [at_stat h] at hr
    cases hr
    all_goals exact s_sA
  · have hn := stat_no h
    refine qai hS ?_ ?_ <;> intro h1 <;> cbv
    · rw [qzahz (.inl (by omega))] at hr
      cases hr
      all_goals exact s_sA
    · repeat' (first | (refine s_st hS ?_; try cbv) | (refine qai hS ?_ ?_ <;> intro h <;> (try cbv) <;> try exact s_ab h) | (refine qax hS ?_; intro _ _; try cbv) | fail)
      · rename_i r hr'
        rw [qzahz (.inr (by omega))] at hr
        cases hr
        all_goals exact s_sA
      · rename_i r hr'
        obtain ⟨⟨c, d⟩, hp⟩ := qei (l := l) (i := i - 21) (by omega) (by omega)
        rw [at_row (by omega) hp] at hr
        cases hr
        skip
        rename_i q hq
        refine rowF hS hF (show l[r.toNat]? = some (a, b) by rw [hr']; exact hp) (by omega) ?_
        cbv
        skip
        all_goals exact s_sA
theorem TabC.fzi {bl : List Blk} {cs : List SV} {mx : Int} {l : List Fd} (h : TabC bl cs mx l) {g : Nat → Nat} {x y : SV} (hx : Sub x y) (hr : refsB (fun _ => false) x = true) : FzL bl g [] [.ag cs, x] [tabV mx l, y] := by
  have h1 := h.fz (g := g)
  cases h1 with
  | cons h1 _ => exact .cons h1 (.cons (.sub hx hr) .nil)
  | fsub h hp => simp [tabV, plains, plainV] at hp
end Tb
end Cz
namespace Cz
open Go Go.RowKit Go.Proofs
namespace Tb
theorem bidx_u {S : Sy} (hS : S0 Tryz.prog = S) {l : List Blk} {K : SV → List Blk → Prop} {x : List UInt8} {z : Z} {T : Int} (hT : idxI x z.v = T) (h : K (.i .i64 (.y T)) l) : S.call 128 [.s x, .i .u8 z] l K := by
  refine qbf hS (sv := .i .i64 (.y T)) (args' := [.s x, .i .u8 (.y z.v)]) ?_ (.cons .rfl (.cons (qae rfl) .nil)) rfl rfl h
  generalize hS : S0 Tryz.prog = S
  refine qaa hS I.qdw ?_
  cbv
  refine qbf hS (idx_f x z.v) .rfl rfl rfl ?_
  rw [hT]
  cbv
  exact .rfl
theorem lidx_f (x : List UInt8) (c : UInt8) (hx : ilen x ≤ 140737488355328) : (S0 Tryz.prog).call 119 [.s x, .s [c]] [] (fun y _ => Sub y (.i .i64 (.y (idxI x c.toNat)))) := by
  generalize hT : idxI x c.toNat = T
  generalize hS : S0 Tryz.prog = S
  have h2 : S.sat [c] 0 = c.toNat := by subst hS; rfl
  refine qaa hS I.qnn ?_
  cbv
  refine qai hS ?_ ?_ <;> intro h <;> cbv
  · exfalso; simp at h
  refine qai hS ?_ ?_ <;> intro h <;> cbv
  · refine qae ?_
    rw [← h] at hT
    simp [idxI] at hT
    exact hT
  refine qai hS ?_ ?_ <;> intro h <;> cbv
  · repeat' (first | (refine qzaek hS ?_; try cbv) | fail)
    refine bidx_u hS (T := T) (by rw [← hT]; exact congrArg (idxI x) h2) ?_
    cbv
    all_goals exact s_sA
  · exfalso; simp at h
theorem lidx_u {S : Sy} (hS : S0 Tryz.prog = S) {l : List Blk} {K : SV → List Blk → Prop} {x : List UInt8} {c : UInt8} {T : Int} (hx : ilen x ≤ 140737488355328) (hT : idxI x c.toNat = T) (h : K (.i .i64 (.y T)) l) : S.call 119 [.s x, .s [c]] l K := by
  subst hT
  exact qbf hS (lidx_f x c hx) .rfl rfl rfl h
theorem sidx_u {S : Sy} (hS : S0 Tryz.prog = S) {l : List Blk} {K : SV → List Blk → Prop} {x : List UInt8} {c : UInt8} {T : Int} (hx : ilen x ≤ 140737488355328) (hT : idxI x c.toNat = T) (h : K (.i .i64 (.y T)) l) : S.call 118 [.s x, .s [c]] l K := by
  refine qbf hS (sv := .i .i64 (.y T)) (args' := [.s x, .s [c]]) ?_ .rfl rfl rfl h
  generalize hS : S0 Tryz.prog = S
  refine qaa hS I.qua ?_
  cbv
  refine lidx_u hS hx hT ?_
  cbv
  exact .rfl
def cutR (x : List UInt8) : Fd := if idxI x 32 < 0 then (x, []) else (x.take (idxI x 32).toNat, x.drop ((idxI x 32).toNat + 1))
theorem cut_f (x : List UInt8) {a b : List UInt8} (hr : cutR x = (a, b)) (hx : ilen x ≤ 140737488355328) (hi : idxI x 32 < ilen x) : ∃ t : Bool, (S0 Tryz.prog).call 90 [.s x, .s [32]] [] (fun y _ => Sub y (.tp [.s a, .s b, .b t])) := by
  obtain ⟨T, hT⟩ : ∃ T, idxI x 32 = T := ⟨_, rfl⟩
  unfold cutR at hr
  rw [hT] at hr hi
  obtain ⟨t, ht⟩ : ∃ t, t = decide (0 ≤ T) := ⟨_, rfl⟩
  refine ⟨t, ?_⟩
  generalize hS : S0 Tryz.prog = S
  refine qaa hS I.qzj ?_
  cbv
  refine qaa hS I.qra ?_
  cbv
  refine lidx_u hS (c := 32) hx hT ?_
  cbv
  refine qai hS ?_ ?_ <;> intro h <;> cbv
  · rw [if_neg (by omega)] at hr
    have hc : ilen ([32] : List UInt8) = 1 := rfl
    have hc2 : (([32] : List UInt8).length : Int) = 1 := rfl
    have hx' : ilen x = x.length := rfl
    refine qbn hS rfl I.qld (by decide +kernel) ?_
    cbv
    repeat' (first | (refine s_st hS ?_; try cbv) | (refine s_stl hS ?_; intro _ _; try cbv) | (refine qzaek hS ?_; try cbv) | fail)
    cases hr
    rename_i r hr
    have e : t = true := by rw [ht]; exact decide_eq_true h
    have e1 : S.ssub x 0 T = x.take T.toNat := by subst hS; rfl
    have e2 : S.ssub x r (S.slen x) = x.drop (T.toNat + 1) := by
      rw [hr, hc]
      subst hS
      show (x.take x.length).drop (T + 1).toNat = _
      rw [List.take_length, show (T + 1).toNat = T.toNat + 1 by omega]
    rw [← e1, ← e2]
    all_goals exact s_sA
  · rw [if_pos (by omega)] at hr
    cases hr
    have e : t = false := by rw [ht]; exact decide_eq_false h
    all_goals exact s_sA
theorem cut_u {S : Sy} (hS : S0 Tryz.prog = S) {l : List Blk} {K : SV → List Blk → Prop} {x a b : List UInt8} (hr : cutR x = (a, b)) (hx : ilen x ≤ 140737488355328) (hi : idxI x 32 < ilen x) (h : ∀ t, K (.tp [.s a, .s b, .b t]) l) : S.call 90 [.s x, .s [32]] l K := by
  obtain ⟨t, ht⟩ := cut_f x hr hx hi
  exact qbf hS ht .rfl rfl rfl (h t)
theorem line_at {j : Int} (h0 : 0 ≤ j) (h1 : j < 19) : ∃ (L a b : List UInt8), idxI (remT j.toNat) 10 = ilen L ∧ (remT j.toNat).take L.length = L ∧ (remT j.toNat).drop (L.length + 1) = remT (j + 1).toNat ∧ cutR L = (a, b) ∧ stL[j.toNat]? = some (a, b) ∧ ilen L ≤ 20 ∧ ilen (remT j.toNat) ≤ 300 ∧ idxI L 32 < ilen L ∧ ilen L < ilen (remT j.toNat) := by
  have h := line_facts ⟨j.toNat, by omega⟩
  dsimp only at h
  obtain ⟨e1, e2, e3, e4, e5, e6, e7, e8⟩ := h
  have hj : j.toNat < 19 := by omega
  rw [if_pos hj] at e1
  have hs : j.toNat < stL.length := by rw [qkr]; omega
  have hst : stL[j.toNat]? = some (stL.getD j.toNat ([], [])) := by rw [List.getD_eq_getElem?_getD, List.getElem?_eq_getElem hs]; rfl
  have hL : ilen (lineL.getD j.toNat []) < ilen (remT j.toNat) := by
    have := e3 hj
    have hd := congrArg List.length e2
    rw [List.length_take] at hd
    rcases Nat.lt_or_ge (lineL.getD j.toNat []).length (remT j.toNat).length with h | h
    · unfold ilen; omega
    · exfalso
      rw [List.drop_eq_nil_of_le (by omega)] at this
      have h2 : ∀ k : Fin 20, remT k.val ≠ [] := by decide +kernel
      exact h2 ⟨j.toNat + 1, by omega⟩ this.symm
  refine ⟨lineL.getD j.toNat [], (stL.getD j.toNat ([], [])).1, (stL.getD j.toNat ([], [])).2, e1, e2, ?_, ?_, hst, e6, e7, e8, hL⟩
  · rw [e3 hj]; congr 1; omega
  · unfold cutR
    by_cases h : idxI (lineL.getD j.toNat []) 32 < 0
    · rw [if_pos h] at e5 ⊢; rw [e5]
    · rw [if_neg h] at e5 ⊢; rw [e5]
theorem line_last {j : Int} (h1 : j = 19) : ∃ (a b : List UInt8), idxI (remT j.toNat) 10 = -1 ∧ cutR (remT j.toNat) = (a, b) ∧ stL[j.toNat]? = some (a, b) ∧ ilen (remT j.toNat) ≤ 300 ∧ idxI (remT j.toNat) 32 < ilen (remT j.toNat) := by
  subst h1
  exact ⟨[117, 115, 101, 114, 45, 97, 103, 101, 110, 116], [], by decide +kernel⟩
theorem at_i {l : List Fd} {i j : Int} {a b : List UInt8} (h0 : 0 ≤ j) (h : (allF l)[j.toNat]? = some (a, b)) (hi : i = j + 1) : atR l i = ((a, b), 0) := by
  unfold atR
  rw [if_neg (by omega), show (i - 1).toNat = j.toNat by omega, h]
theorem all_st {l : List Fd} {j : Int} {f : Fd} (h : stL[j.toNat]? = some f) : (allF l)[j.toNat]? = some f := by
  unfold allF
  have := (List.getElem?_eq_some_iff.1 h).1
  rw [List.getElem?_append_left this, h]
theorem all_row {l : List Fd} {j k : Int} (h0 : 0 ≤ j) (hk : k = j + 20) {f : Fd} (h : l[j.toNat]? = some f) : (allF l)[k.toNat]? = some f := by
  unfold allF
  rw [List.getElem?_append_right (by rw [qkr]; omega), qkr, show k.toNat - 20 = j.toNat by omega, h]
theorem at_f {mx i e : Int} {l : List Fd} {a b : List UInt8} (hr : atR l i = ((a, b), e)) (hm : ilen l ≤ 100000000) : (S0 Tryz.prog).call 93 [tabV mx l, .i .i64 (.y i)] [] (fun y _ => Sub y (.tp [.ag [.s a, .s b], .i .i64 (.y e)])) := by
  unfold tabV
  generalize hF : cellsF l = F
  obtain ⟨m, hm'⟩ : ∃ m, m = ilen l := ⟨_, rfl⟩
  have h0 := qah l
  rw [← hm'] at h0 hm ⊢
  generalize hS : S0 Tryz.prog = S
  refine qaa hS I.qzahk ?_
  cbv
  refine qaa hS I.qxh ?_
  cbv
  refine qiy hS I.qst ?_
  cbv
  refine qaa hS I.qpd ?_
  cbv
  refine qaa hS I.qpc ?_
  cbv
  refine qiy hS I.qlr ?_
  cbv
  refine qai hS ?_ ?_ <;> intro h <;> cbv
  · exfalso; simp at h
  have hc : ilen ([10] : List UInt8) = 1 := rfl
  have hc2 : (([10] : List UInt8).length : Int) = 1 := rfl
  refine qav hS 14 I.qhp (fun x : Int × List UInt8 => 0 ≤ x.1 ∧ x.1 ≤ 19 ∧ (i < 1 ∨ x.1 < i) ∧ x.2 = remT x.1.toNat) (fun _ => []) (fun x => [(8, .c [.i .i64 (.y x.1)]), (9, .c [.s x.2])]) (fun x => (19 - x.1).toNat) (0, remT 0) rfl
    ⟨⟨Int.le_refl _, by dsimp only; omega, by dsimp only; omega, rfl⟩, rfl, ?_, ?_, by cbv⟩ ?_
  · cbv; all_goals exact s_sA
  · cbv; all_goals exact s_bA
  intro x
  obtain ⟨j, s⟩ := x
  intro hx
  dsimp only at hx
  cbv
  obtain ⟨k0, k1, k2, k3⟩ := hx
  have hjj : j < 19 ∨ 19 ≤ j := by omega
  rcases hjj with hj | hj
  · obtain ⟨L, c, d, f1, f2, f3, f4, f5, f6, f7, f8, f9⟩ := line_at k0 hj
    rw [← k3] at f1 f2 f3 f7 f9
    refine sidx_u hS (c := 10) (by omega) f1 ?_
    generalize hn : ilen L = n at *
    have hn0 : 0 ≤ n := hn ▸ qah L
    cbv
    repeat' (first | (refine s_st hS ?_; try cbv) | (refine qai hS ?_ ?_ <;> intro h <;> (try cbv) <;> try exact s_ab h) | (refine qax hS ?_; intro _ _; try cbv) | (refine qzaek hS ?_; try cbv) | (refine qfp hS rfl rfl ?_; cbv) | fail)
    rename_i r1 hr1 j1 hj1
    have e1 : S.ssub s 0 r1 = L := by
      subst hS
      show (s.take r1.toNat).drop 0 = L
      rw [List.drop_zero, show r1.toNat = L.length by unfold ilen at hn; omega, f2]
    refine cut_u hS (x := S.ssub s 0 r1) (a := c) (b := d) (by rw [e1]; exact f4) (by rw [e1]; omega) (by rw [e1, hn]; exact f8) fun t => ?_
    cbv
    repeat' (first | (refine s_st hS ?_; try cbv) | (refine qai hS ?_ ?_ <;> intro h <;> (try cbv) <;> try exact s_ab h) | (refine s_stl hS ?_; intro _ _; try cbv) | (refine qzaek hS ?_; try cbv) | (refine qfp hS rfl rfl ?_; cbv) | fail)
    · rename_i h
      rw [at_i k0 (all_st f5) (by omega)] at hr
      cases hr
      all_goals exact s_sA
    · rename_i h r2 hr2
      refine ⟨(j1, S.ssub s r2 (S.slen s)), by dsimp only; omega, ⟨by dsimp only; omega, by dsimp only; omega, by dsimp only; omega, ?_⟩, rfl, ?_, ?_, by cbv⟩
      · dsimp only
        rw [hj1, ← f3]
        subst hS
        show (s.take s.length).drop r2.toNat = _
        rw [List.take_length, show r2.toNat = L.length + 1 by unfold ilen at hn; omega]
      · cbv; all_goals exact s_sA
      · cbv; all_goals exact s_bA
  · obtain ⟨c, d, f1, f4, f5, f7, f8⟩ := line_last (j := j) (by omega)
    rw [← k3] at f1 f4 f7 f8
    refine sidx_u hS (c := 10) (by omega) f1 ?_
    cbv
    refine s_br hS ?_ ?_ <;> intro h' <;> cbv <;> simp only [← hS, Int.ofNat_eq_natCast, cq, Bool.not_eq_true', Bool.not_eq_false', decide_eq_true_eq, decide_eq_false_iff_not, beq_iff_eq, beq_eq_false_iff_ne, ne_eq] at h'
    · repeat' (first | (refine qax hS ?_; intro _ _; try cbv) | (refine qfp hS rfl rfl ?_; cbv) | fail)
      refine cut_u hS (a := c) (b := d) f4 (by omega) f8 fun t => ?_
      cbv
      repeat' (first | (refine qai hS ?_ ?_ <;> intro h <;> (try cbv) <;> try exact s_ab h) | (refine qfp hS rfl rfl ?_; cbv) | fail)
      · rename_i h
        rw [at_i k0 (all_st f5) (by omega)] at hr
        cases hr
        all_goals exact s_sA
      · rename_i j1 hj1
        refine qav hS 15 I.qmc (fun x : Int × Int => 0 ≤ x.1 ∧ x.1 ≤ m ∧ x.2 = x.1 + 20 ∧ (i < 1 ∨ x.2 < i)) (fun x => [(29, .i .i64 (.y x.1))]) (fun x => [(8, .c [.i .i64 (.y x.2)])]) (fun x => (m - x.1).toNat) (0, j1) rfl
          ⟨⟨Int.le_refl _, by dsimp only; omega, by dsimp only; omega, by dsimp only; omega⟩, rfl, ?_, ?_, by cbv⟩ ?_
        · cbv; all_goals exact s_sA
        · cbv; all_goals exact s_bA
        intro x
        obtain ⟨q, u⟩ := x
        intro hx
        dsimp only at hx
        cbv
        obtain ⟨q0, q1, q2, q3⟩ := hx
        refine qai hS ?_ ?_ <;> intro h <;> cbv
        · obtain ⟨⟨v, w⟩, hp⟩ := qei (l := l) (i := q) (by omega) q0
          repeat' (first | (refine s_st hS ?_; try cbv) | (refine qai hS ?_ ?_ <;> intro h <;> (try cbv) <;> try exact s_ab h) | (refine qax hS ?_; intro _ _; try cbv) | (refine qfp hS rfl rfl ?_; cbv) | (refine rowF hS hF hp (by omega) ?_; cbv) | fail)
          · rw [at_i (j := u) (by omega) (all_row q0 q2 hp) (by omega)] at hr
            cases hr
            all_goals exact s_sA
          · rename_i u1 hu1 q4 hq4
            refine ⟨(q4, u1), by dsimp only; omega, ⟨by dsimp only; omega, by dsimp only; omega, by dsimp only; omega, by dsimp only; omega⟩, rfl, ?_, ?_, by cbv⟩
            · cbv; all_goals exact s_sA
            · cbv; all_goals exact s_bA
        · skip
          rw [qzahz (by omega)] at hr
          cases hr
          all_goals exact s_sA
    · omega
end Tb
end Cz
namespace Cz
open Go Go.RowKit Go.Proofs
section
variable {α : Type} [DecidableEq α]
def mapE (enc : α → SV) (ms : List (α × Int)) : List (SV × SV) := ms.map fun p => (enc p.1, .i .i64 (.y p.2))
def mget : List (α × Int) → α → Int
  | [], _ => 0
  | (k, v) :: r, a => if a = k then v else mget r a
theorem mget_app (a b : α) (n : Int) : ∀ ms : List (α × Int), (∀ p, p ∈ ms → 1 ≤ p.2) → mget (ms ++ [(b, n)]) a = if mget ms a ≠ 0 then mget ms a else if a = b then n else 0
  | [], _ => by simp [mget]
  | (k, v) :: r, hv => by
    simp only [List.cons_append, mget]
    split
    · have := hv (k, v) (List.mem_cons_self ..)
      dsimp only at this
      rw [if_pos (by omega)]
    · exact mget_app a b n r fun p hp => hv p (List.mem_cons_of_mem _ hp)
end
namespace Tb
theorem fstI_app (p : Fd → Bool) : ∀ (l r : List Fd) (k : Int), 1 ≤ k → fstI p (l ++ r) k = if fstI p l k ≠ 0 then fstI p l k else fstI p r (k + l.length)
  | [], r, k, _ => by simp [fstI]
  | x :: l, r, k, hk => by
    simp only [List.cons_append, fstI]
    split
    · rw [if_pos (by omega)]
    · rw [fstI_app p l r (k + 1) (by omega)]
      simp only [List.length_cons]
      rw [show k + 1 + (l.length : Int) = k + ((l.length + 1 : Nat) : Int) by omega]
end Tb
end Cz
namespace Cz
open Go Go.RowKit Go.Proofs
namespace Tb
def MapG {α : Type} [DecidableEq α] (enc : α → SV) (key : Fd → α) (E : List (SV × SV)) (L : List Fd) : Prop :=
  ∃ ms : List (α × Int), mapE enc ms = E ∧ (∀ p, p ∈ ms → 1 ≤ p.2) ∧ ∀ k, mget ms k = fstI (fun x => decide (key x = k)) L 1
section
variable {α : Type} [DecidableEq α] {enc : α → SV} {key : Fd → α} {E : List (SV × SV)} {L : List Fd}
theorem fst_snoc (p : Fd → Bool) (L : List Fd) (x : Fd) : fstI p (L ++ [x]) 1 = if fstI p L 1 ≠ 0 then fstI p L 1 else if p x then 1 + L.length else 0 := by
  rw [fstI_app p L [x] 1 (Int.le_refl _)]
  simp only [fstI]
theorem MapG.keep (h : MapG enc key E L) {x : Fd} (hx : fstI (fun y => decide (key y = key x)) L 1 ≠ 0) : MapG enc key E (L ++ [x]) := by
  obtain ⟨ms, h1, h2, h3⟩ := h
  refine ⟨ms, h1, h2, fun k => ?_⟩
  rw [h3, fst_snoc]
  split
  · rfl
  · rename_i h0
    split
    · rename_i hk
      exact absurd (by rw [← of_decide_eq_true hk] at h0; omega) hx
    · omega
theorem MapG.put (h : MapG enc key E L) {x : Fd} (hx : fstI (fun y => decide (key y = key x)) L 1 = 0) : MapG enc key (E ++ [(enc (key x), .i .i64 (.y (1 + L.length)))]) (L ++ [x]) := by
  obtain ⟨ms, h1, h2, h3⟩ := h
  refine ⟨ms ++ [(key x, (1 + L.length : Int))], ?_, ?_, fun k => ?_⟩
  · rw [← h1]; simp [mapE]
  · intro p hp
    rcases List.mem_append.1 hp with hp | hp
    · exact h2 p hp
    · rw [List.mem_singleton.1 hp]; dsimp only; omega
  · rw [mget_app _ _ _ _ h2, h3, fst_snoc]
    simp only [decide_eq_true_eq]
    split
    · rfl
    · split
      · rename_i e; rw [if_pos e.symm]
      · rename_i e; rw [if_neg fun e' => e e'.symm]
theorem MapG.nil : MapG enc key [] [] := ⟨[], rfl, fun _ h => by simp at h, fun _ => rfl⟩
end
section
variable {E : List (SV × SV)} {L : List Fd}
theorem MapG.gcN (h : MapG SV.s Prod.fst E L) (m : Nat) : gcM m E = true := by
  obtain ⟨ms, h1, -, -⟩ := h
  subst h1
  induction ms with
  | nil => rfl
  | cons p r ih => exact ih
end
end Tb
end Cz
namespace Cz
open Go Go.RowKit Go.Proofs
namespace Tb
section
variable {S : Sy} {bl : List Blk} {K : SV → List Blk → Prop} {cs : List SV} {mx mx' e n : Int} {l l' : List Fd} {F : List SV} {a b : List UInt8}
theorem qmg (hS : S0 Tryz.prog = S) {g : FuncId} {args args' : List SV} {y y' : SV} (hF : (S0 Tryz.prog).call g args' [] (Tell y)) (ha : SubL args args') (hr : refsBL (fun _ => false) args' = true) (hy : Sub y y') (hK : K y' bl) : S.call g args bl K := by
  subst hS
  exact qaw (qbv rfl hF ha hr (K := fun x l' => x = y ∧ l' = bl) ⟨rfl, rfl⟩) fun x l' h => ⟨y', h.1 ▸ hy, h.2 ▸ hK⟩
end
abbrev fa : Fd := ([97], [49])
abbrev fb : Fd := ([98], [50])
end Tb
end Cz
namespace Cz
open Go Go.RowKit Go.Proofs
namespace Tb
section
variable {S : Sy} {bl : List Blk} {K : SV → List Blk → Prop} {cs : List SV} {mx mx' e n : Int} {l l' : List Fd} {F : List SV} {a b : List UInt8}
theorem tabE_g (hF : cellsF l' = F) (hn : n = ilen l') : Sub (tabE mx' l' e) (.tp [.ag [.i .i64 (.y mx'), .v false 2 F (.y n)], .i .i64 (.y e)]) := by
  subst hF hn; exact .rfl
theorem add_g (hS : S0 Tryz.prog = S) (hc : TabC [] cs mx l) (hr : addR (mx, l) (a, b) = ((mx', l'), e)) (hF : cellsF l' = F) (hn : n = ilen l') (hb : fullL l ≤ 10000000) (hs : szF (a, b) ≤ 10000000)
    (hK : K (.tp [.ag [.i .i64 (.y mx'), .v false 2 F (.y n)], .i .i64 (.y e)]) bl) : S.call 39 [.ag cs, .ag [.s a, .s b]] bl K := by
  refine qmg hS (add_f hr hb hs) ?_ rfl (tabE_g hF hn) hK
  match hc.sub with
  | .cons h _ => exact .cons h .rfl
theorem radd_g (hS : S0 Tryz.prog = S) (hc : TabC [] cs mx l) (hr : addR (mx, l) (a, b) = ((mx', l'), e)) (hF : cellsF l' = F) (hn : n = ilen l') (hb : fullL l ≤ 1000000) (hs : szF (a, b) ≤ 1000000)
    (hK : K (.tp [.ag [.i .i64 (.y mx'), .v false 2 F (.y n)], .i .i64 (.y e)]) bl) : S.call 44 [.ag cs, .ag [.s a, .s b]] bl K := by
  refine qmg hS (radd_f hr hb hs) ?_ rfl (tabE_g hF hn) hK
  match hc.sub with
  | .cons h _ => exact .cons h .rfl
theorem res_g (hS : S0 Tryz.prog = S) (hc : TabC [] cs mx l) {most : Z} (hr : resR (mx, l) most.v = ((mx', l'), e)) (hF : cellsF l' = F) (hn : n = ilen l') (hb : fullL l ≤ 10000000)
    (hK : K (.tp [.ag [.i .i64 (.y mx'), .v false 2 F (.y n)], .i .i64 (.y e)]) bl) : S.call 35 [.ag cs, .i .i64 most] bl K := by
  refine qmg hS (res_f hr (by omega)) ?_ rfl (tabE_g hF hn) hK
  match hc.sub with
  | .cons h _ => exact .cons h (.cons (qae rfl) .nil)
theorem rres_g (hS : S0 Tryz.prog = S) (hc : TabC [] cs mx l) {most : Z} (hr : resR (mx, l) most.v = ((mx', l'), e)) (hF : cellsF l' = F) (hn : n = ilen l') (hb : fullL l ≤ 10000000)
    (hK : K (.tp [.ag [.i .i64 (.y mx'), .v false 2 F (.y n)], .i .i64 (.y e)]) bl) : S.call 42 [.ag cs, .i .i64 most] bl K := by
  refine qmg hS (rres_f hr hb) ?_ rfl (tabE_g hF hn) hK
  match hc.sub with
  | .cons h _ => exact .cons h (.cons (qae rfl) .nil)
theorem at_g (hS : S0 Tryz.prog = S) {z : Z} (hc : TabC bl cs mx l) (hr : atR l z.v = ((a, b), e)) (hm : ilen l ≤ 100000000) (hK : K (.tp [.ag [.s a, .s b], .i .i64 (.y e)]) bl) : S.call 93 [.ag cs, .i .i64 z] bl K :=
  qcd hS (at_f hr hm) (hc.fzi (qae (b := .y z.v) rfl) rfl) rfl rfl hK
theorem qzaep (hS : S0 Tryz.prog = S) {z : Z} (hc : TabC bl cs mx l) (hr : atR l z.v = ((a, b), e)) (hl : -9223372036854775808 ≤ z.v) (hu : z.v ≤ 9223372036854775807) (hm : ilen l ≤ 100000000) (hK : K (.tp [.ag [.s a, .s b], .i .i64 (.y e)]) bl) : S.call 66 [.ag cs, .i .i64 z] bl K :=
  qcd hS (rat_f hr hl hu hm) (hc.fzi (qae (b := .y z.v) rfl) rfl) rfl rfl hK
theorem right_g (hS : S0 Tryz.prog = S) (hc : TabC bl cs mx l) {t : Bool} (ht : rightL mx l = t) (h : fullL l ≤ 100000000) (hK : K (.b t) bl) : S.call 47 [.ag cs] bl K :=
  qcd hS (right_f ht h) hc.fz rfl rfl hK
theorem rright_g (hS : S0 Tryz.prog = S) (hc : TabC bl cs mx l) {t : Bool} (ht : rightL mx l = t) (h : fullL l ≤ 100000000) (hK : K (.b t) bl) : S.call 40 [.ag cs] bl K :=
  qcd hS (rright_f ht h) hc.fz rfl rfl hK
theorem size_g (hS : S0 Tryz.prog = S) (hn : n = szF (a, b)) (h : n ≤ 1000000000000000000) (hK : K (.i .i64 (.y n)) bl) : S.call 38 [.ag [.s a, .s b]] bl K :=
  qbf hS (size_f hn h) .rfl rfl rfl hK
theorem qvv (hS : S0 Tryz.prog = S) (hn : n = szF (a, b)) (h : n ≤ 1000000000000000000) (hK : K (.i .i64 (.y n)) bl) : S.call 58 [.ag [.s a, .s b]] bl K :=
  qbf hS (rsize_f hn h) .rfl rfl rfl hK
theorem rsame_g (hS : S0 Tryz.prog = S) {cs' : List SV} {my : Int} {k : List Fd} (hc : TabC bl cs mx l) (hc' : TabC bl cs' my k) {t : Bool} (ht : decide (mx = my ∧ l = k) = t) (hl : ilen l ≤ 100000000) (hk : ilen k ≤ 100000000) (hK : K (.b t) bl) :
    S.call 11 [.ag cs, .ag cs'] bl K :=
  qcd hS (rsame_f ht hl hk) (fz_two hc.fz hc'.fz rfl rfl) rfl rfl hK
end
end Tb
end Cz
namespace Cz
open Go Go.RowKit
def Ctx (C : SV → SV) : Prop := ∀ (ρ : Nms) (s : SV) (v : Value), den ρ (C s) v → ∃ u, den ρ s u ∧ ∀ (ρ' : Nms) (s' : SV), ρ'.fz = ρ.fz → den ρ' s' u → den ρ' (C s') v
section
variable {P : Program} {l : List Blk}
theorem call_one {C : SV → SV} (hC : Ctx C) {sz : Nat} {F : List SV} {n : Int} {g : FuncId} {args : List SV}
    (hF : (S0 P).call g args [] (fun x l' => ∃ (j : Nat) (lit : Bool) (st z : Z) (F' : List SV), x = C (.sl j sz (.l 0) z none) ∧ l'[j]? = some (.r false lit st sz F') ∧ plains F' = true ∧ F'.take (z.v.toNat * sz) = F ∧ z.v = n)) :
    (S0 P).call g args [] (fun x l' => ∃ (j : Nat) (z : Z), x = C (.sl j sz (.l 0) z none) ∧ l'[j]? = some (.r false false (.l 0) sz F) ∧ z.v = n) := by
  intro N W0 ρ W vals hR hd
  refine NextR.mono ?_ (hF N W0 ρ W vals hR hd)
  rintro v W' ⟨ρ', x, l', ⟨j, lit, st, z, F', rfl, hB, hp, hFF, hz⟩, hle, hll, hR', hdv⟩
  obtain ⟨u, hu, hback⟩ := hC _ _ _ hdv
  have hj := (List.getElem?_eq_some_iff.1 hB).1
  obtain ⟨hsz, hvs, _, hown⟩ := hR'.blk j _ hB
  obtain ⟨cur, _, _, hown2, _, _⟩ := hown rfl
  simp only [den] at hu
  obtain ⟨h0, h1, vw, hvw, hin, hs⟩ := hu
  have e0 : (Z.l 0).v.toNat = 0 := rfl
  rw [e0] at hs hin
  rw [Nat.zero_add] at hin
  -- the slice's own view
  have key : ∃ vw0 : View, vw0.n = F.length ∧ vw0.n ≤ vw0.cap * sz ∧ (∀ a, vw0.base = some a → vw.base = some a) ∧ ViewOk W' ρ' F vw0 ∧ OwnOk N W' vw0 (vw0.cap * sz) ∧ (0 + z.v.toNat) * sz ≤ vw0.n ∧ SlVal vw0 sz 0 z.v.toNat (Option.map Z.v none) u := by
    have empty : z.v.toNat = 0 → (∃ a', u = .slice a' 0 0) → ∃ vw0 : View, vw0.n = F.length ∧ vw0.n ≤ vw0.cap * sz ∧ (∀ a, vw0.base = some a → vw.base = some a) ∧ ViewOk W' ρ' F vw0 ∧ OwnOk N W' vw0 (vw0.cap * sz) ∧ (0 + z.v.toNat) * sz ≤ vw0.n ∧ SlVal vw0 sz 0 z.v.toNat (Option.map Z.v none) u := by
      intro hz0 ha
      have hF0 : F = [] := by rw [← hFF, hz0]; simp
      subst hF0
      exact ⟨⟨none, 0, 0⟩, rfl, Nat.zero_le _, (fun a h => by cases h), ⟨Nat.zero_le _, fun _ => ⟨rfl, rfl⟩, fun q x hq _ => by simp at hq⟩, (fun a h => by cases h), by rw [hz0]; simp, ⟨rfl, hz0, ha⟩⟩
    have hv := hvs vw hvw
    unfold SlVal at hs
    cases hb : vw.base with
    | none =>
      rw [hb] at hs
      rw [← hb] at *
      exact empty hs.2.1 hs.2.2
    | some a =>
      rw [hb] at hs
      rcases hs with ⟨c, e, hc, hc2, hc3⟩ | ⟨h2, h3, _⟩
      · have hlen : F.length = z.v.toNat * sz := by rw [← hFF, List.length_take]; have := hv.1; omega
        refine ⟨⟨some a, z.v.toNat * sz, c⟩, hlen.symm, Nat.mul_le_mul_right _ hc, fun b h => by rw [← h], ⟨by rw [hlen]; exact Nat.le_refl _, fun h => by (cases h), fun q x hq hx => ?_⟩, ?_, by rw [Nat.zero_add]; exact Nat.le_refl _, ?_⟩
        · have hq' : q < z.v.toNat * sz := hq
          have : F'[q]? = some x := by rw [← hFF, List.getElem?_take_of_lt hq'] at hx; exact hx
          obtain ⟨a', w, g1, g2, g3⟩ := hv.2.2 q x (by omega) this
          rw [hb] at g1
          exact ⟨a', w, g1, g2, g3⟩
        · have hc4 : c = vw.cap := by have h5 : 0 + c = vw.cap := hc3; omega
          intro b hb'
          have := hown2 vw hvw b (by rw [hb]; exact hb')
          rw [hc4]; exact this
        · unfold SlVal
          refine .inl ⟨c, e, hc, by rw [Nat.zero_add]; exact Nat.le_refl _, ?_⟩
          simp only [Option.map_none, Nat.zero_add]
      · exact hb ▸ empty h2 h3
  obtain ⟨vw0, k1, k2, k3, k4, k5, k6, k7⟩ := key
  let ρ2 : Nms := ⟨fun k => if k = j then [vw0] else ρ' k, ρ'.fz, ρ'.q⟩
  have hj2 : ρ2 j = [vw0] := by simp [ρ2]
  have ho2 : ∀ k, k ≠ j → ρ2 k = ρ' k := fun k hk => by simp [ρ2, hk]
  have hpF : plains F = true := by rw [← hFF]; exact qqm fun x hx => qcc hp x (List.mem_of_mem_take hx)
  have hat : ∀ (k : Nat) (B : Blk), ((List.replicate l'.length Blk.dead).set j (.r false false (.l 0) sz F))[k]? = some B → B.wr = true → k = j ∧ B = .r false false (.l 0) sz F := by
    intro k B hk hw
    by_cases e : k = j
    · subst e
      rw [List.getElem?_set_self (by simpa using hj)] at hk
      exact ⟨rfl, (Option.some.inj hk).symm⟩
    · rw [List.getElem?_set_ne (fun h => e h.symm), List.getElem?_replicate] at hk
      split at hk
      · cases hk; cases hw
      · cases hk
  refine ⟨ρ2, C (.sl j sz (.l 0) z none), (List.replicate l'.length Blk.dead).set j (.r false false (.l 0) sz F), ⟨j, z, rfl, ?_, hz⟩, ⟨fun k hk => absurd hk (Nat.not_lt_zero k), hle.fz, hle.fq, hle.q⟩, by simp, ⟨hR'.below, hR'.le, ?_, ?_, ?_, ?_, ?_, hR'.qN, hR'.fin, ?_⟩, ?_⟩
  · rw [List.getElem?_set_self (by simpa using hj)]
  · intro k hk
    simp only [List.length_set, List.length_replicate] at hk
    rw [ho2 k (by omega)]; exact hR'.out k hk
  · intro k vw' a hv ha
    by_cases e : k = j
    · subst e
      rw [hj2, List.mem_singleton] at hv; subst hv
      exact hR'.ids k vw a hvw (k3 a ha)
    · rw [ho2 k e] at hv; exact hR'.ids k vw' a hv ha
  · intro k B hk
    by_cases e : k = j
    · subst e
      rw [List.getElem?_set_self (by simpa using hj)] at hk
      simp only [Option.some.injEq] at hk; subst hk
      refine ⟨hsz, fun vw' hv => ?_, fun _ x hx => qcc hpF x hx, fun _ => ⟨vw0, by rw [hj2]; simp, k1, fun vw' hv => ?_, k2, fun vw' hv => ?_⟩⟩
      · rw [hj2, List.mem_singleton] at hv; subst hv
        exact ViewOk.plain (ρ := ρ') ρ2 (fun _ _ _ h => h) hpF k4
      · rw [hj2, List.mem_singleton] at hv; subst hv; exact k5
      · rw [hj2, List.mem_singleton] at hv; subst hv; exact .inl ⟨rfl, rfl⟩
    · rw [List.getElem?_set_ne (fun h => e h.symm), List.getElem?_replicate] at hk
      split at hk
      · cases hk; trivial
      · cases hk
  · intro k k' B vw1 vw2 a a' hB' hw hne hv hv' ha ha'
    obtain ⟨rfl, _⟩ := hat k B hB' hw
    rw [hj2, List.mem_singleton] at hv; subst hv
    rw [ho2 k' (fun e => hne e.symm)] at hv'
    exact hR'.sep k k' _ vw vw2 a a' hB rfl hne hvw hv' (k3 a ha) ha'
  · intro k B vw1 a hB' hw hv ha
    obtain ⟨rfl, _⟩ := hat k B hB' hw
    rw [hj2, List.mem_singleton] at hv; subst hv
    exact hR'.own k _ vw a hB rfl hvw (k3 a ha)
  · intro k B vw1 a hB' hw hv ha o
    obtain ⟨rfl, _⟩ := hat k B hB' hw
    rw [hj2, List.mem_singleton] at hv; subst hv
    exact hR'.fsep k _ vw a hB rfl hvw (k3 a ha) o
  · refine hback ρ2 _ rfl ?_
    simp only [den]
    exact ⟨h0, h1, vw0, by rw [hj2]; simp, by rw [e0]; exact k6, by rw [e0]; exact k7⟩
end
section
variable {P : Program} {l : List Blk}
theorem use_one {S : Sy} (hS : S0 P = S) {C : SV → SV} (hC : Ctx C) (hCz : ∀ (l' : List Blk) (j m : Nat) (z z' : Z) (sz : Nat), z.v = z'.v → Fz l' (fun i => m + i) [some j] (C (.sl j sz (.l 0) z none)) (C (.sl m sz (.l 0) z' none))) {sz : Nat} {F : List SV} {n : Int} {g : FuncId} {args args' : List SV} {K : SV → List Blk → Prop}
    (hF : (S0 P).call g args' [] (fun x l' => ∃ (j : Nat) (lit : Bool) (st z : Z) (F' : List SV), x = C (.sl j sz (.l 0) z none) ∧ l'[j]? = some (.r false lit st sz F') ∧ plains F' = true ∧ F'.take (z.v.toNat * sz) = F ∧ z.v = n)) (ha : SubL args args')
    (hr : refsBL (fun _ => false) args' = true) (hsz : 0 < sz) (hp : plains F = true) (hK : K (C (.sl (len l) sz (.l 0) (.y n) none)) (snoc l (.r false false (.y 0) sz F))) : S.call g args l K := by
  subst hS
  refine qrt ha (qzaaw (Z := fun sts => sts 0 = 0) (rows := [(sz, F)]) (y := fun m => C (.sl m sz (.l 0) (.y n) none)) (qaw (call_one hC hF) fun x l' h => ⟨x, .rfl, ?_⟩) hr ⟨⟨hsz, hp⟩, trivial⟩ fun sts hz => ?_)
  · obtain ⟨j, z, rfl, hj, hz⟩ := h
    refine ⟨[some j], ⟨⟨_, _, _, hj, .rfl⟩, rfl, trivial⟩, fun m => hCz l' j m z (.y n) sz hz, ?_⟩
    simp only [stsOf, List.getElem?_cons_zero, hj]
    rfl
  · have : rowBs sts [(sz, F)] 0 = [.r false false (.y 0) sz F] := by simp only [rowBs, hz]
    rw [this]
    rw [qbu, qbj] at hK
    exact hK
end
end Cz
namespace Cz
open Go Go.RowKit Go.Proofs
namespace Pa
def upP (w : Int) : Int := if w = 1 then 64 else if w = 2 then 16 else 0
def bitP (w : Int) : Int := if w = 1 then 6 else 4
def powP (w : Int) : Int := if w = 1 then 64 else 16
theorem of_f {w u k : Int} (hu : u = upP w) (hk : k = bitP w) : (S0 Tryz.prog).call 53 [.i .i64 (.y w)] [] (fun y _ => Sub y (.ag [.i .i64 (.y u), .i .i64 (.y k)])) := by
  generalize hS : S0 Tryz.prog = S
  refine qaa hS I.qzafo ?_
  cbv
  refine qaa hS I.qzc ?_
  cbv
  refine qkt hS rfl I.qry (by decide +kernel) ?_
  cbv
  refine ⟨?_, ?_⟩ <;> cbv
  all_goals
    repeat' (first | (refine qai hS ?_ ?_ <;> intro h <;> (try cbv) <;> try exact s_ab h) | (refine s_lk hS ?_; try cbv) | (refine s_mu hS ?_; try cbv) | fail)
    all_goals exact qco (.cons (qae (by simp only [Z.v]; rw [hu]; unfold upP; split <;> (try split) <;> omega)) (.cons (qae (by simp only [Z.v]; rw [hk]; unfold bitP; split <;> omega)) .nil))
theorem of_u {S : Sy} {bl : List Blk} {K : SV → List Blk → Prop} (hS : S0 Tryz.prog = S) {z : Z} {w : Int} (hz : z.v = w) (hK : ∀ u k, u = upP w → k = bitP w → K (.ag [.i .i64 (.y u), .i .i64 (.y k)]) bl) : S.call 53 [.i .i64 z] bl K :=
  qbf hS (of_f (w := w) rfl rfl) (.cons (qae hz) .nil) rfl rfl (hK _ _ rfl rfl)
theorem repS_len (z : List SV) : ∀ n, (repS n z).length = n * z.length
  | 0 => by simp [repS]
  | n + 1 => by rw [repS, qdp, List.length_append, repS_len z n, Nat.add_mul]; omega
theorem qsa {z : List SV} (h : plains z = true) : ∀ n, plains (repS n z) = true
  | 0 => rfl
  | n + 1 => by rw [repS, qdp]; exact qiz h (qsa h n)
theorem s_mkg {S : Sy} {zero : List SV} {n c : Int} {K : List SV → Prop} (hS : S0 Tryz.prog = S) (hc : n = c) (h0 : 0 ≤ n) (h1 : n ≤ 65536) (hz : plains zero = true) (h : ∀ F, F.length = n.toNat * zero.length → plains F = true → K F) : S.mkr zero n c K :=
  s_mk hS hc h0 h1 (qsa hz _) (h _ (repS_len _ _) (qsa hz _))
theorem grow_f {n : Int} (h0 : 0 < n) (h1 : n ≤ 65536) : (S0 Tryz.prog).call 87 [.re (.slice none 0 0), .i .i64 (.y n)] [] (fun x l' => ∃ (j : Nat) (lit : Bool) (st z : Z) (F' : List SV), x = (.sl j 1 (.l 0) z none) ∧ l'[j]? = some (.r false lit st 1 F') ∧ plains F' = true ∧ F'.take (z.v.toNat * 1) = [] ∧ z.v = 0) := by
  generalize hS : S0 Tryz.prog = S
  refine qaa hS I.qgh ?_
  cbv
  repeat' (first | (refine s_ck hS ?_; try cbv) | (refine qai hS ?_ ?_ <;> intro h <;> (try cbv) <;> try exact s_ab h) | (refine s_sb hS ?_; intro _ _; try cbv) | (refine s_mkg hS rfl (by omega) (by omega) rfl fun F hF hp => ?_; cbv) | fail)
  exact ⟨0, false, .l 0, .l 0, F, rfl, rfl, hp, rfl, rfl⟩
theorem grow_u {S : Sy} {bl : List Blk} {K : SV → List Blk → Prop} (hS : S0 Tryz.prog = S) {z : Z} (h0 : 0 < z.v) (h1 : z.v ≤ 65536) (hK : K (.sl (len bl) 1 (.l 0) (.y 0) none) (snoc bl (.r false false (.y 0) 1 []))) : S.call 87 [.re (.slice none 0 0), .i .i64 z] bl K :=
  use_one hS (C := fun s => s) (fun ρ s v d => ⟨v, d, fun _ _ _ d' => d'⟩) (fun l' j m z z' sz h => .keep (i := 0) rfl rfl h) (grow_f h0 h1) (.cons .rfl (.cons (qae rfl) .nil)) rfl (by decide) rfl hK
theorem tell_own {g : FuncId} {args : List SV} {F : List SV} {n : Int} (hF : (S0 Tryz.prog).call g args [] (OwnR 0 1 F false [])) (hpl : plains F = true) (hn : n * 1 = F.length) : (S0 Tryz.prog).call g args [] (Tell (.v false 1 F (.y n))) := by
  refine qaw hF fun x l' ⟨y, hs, hr⟩ => ⟨y, hs, ?_⟩
  rcases hr with ⟨rfl, rfl⟩ | ⟨k, m, lit, st, F', _, rfl, hB, hsub, hp, hm⟩
  · exact fun g => .nil (by decide) (by simp only [Z.v]; simpa using hn)
  · have hmn : m.v = n := by omega
    have hl : F'.length = F.length := hsub.1
    have e : (F'.drop ((Z.l 0).v.toNat * 1)).take (m.v.toNat * 1) = F' := by
      rw [show (Z.l 0).v.toNat * 1 = 0 from rfl, List.drop_zero, List.take_of_length_le (by omega)]
    exact fun g => .row hB rfl (.fsub (by rw [e]; exact hsub) hpl) hpl hmn
end Pa
end Cz
namespace Cz
open Go Go.RowKit Go.Proofs
namespace Pa
open Tb
abbrev Fd := Tb.Fd
theorem up_bd (w : Int) : 0 ≤ upP w ∧ upP w ≤ 64 ∧ 4 ≤ bitP w ∧ bitP w ≤ 6 ∧ 2 ^ (bitP w).toNat = powP w := by
  unfold upP bitP powP
  split
  · exact ⟨by decide, by decide, by decide, by decide, rfl⟩
  · split <;> exact ⟨by decide, by decide, by decide, by decide, rfl⟩
def nmB (i : Int) (b : List UInt8) (w : Int) : List Int := putI i (powP w) (upP w) ++ bestT (byS b)
def fldB (f : Fd) (w : Int) : List Int := putI 0 (powP w) (upP w) ++ bestT (byS f.1) ++ bestT (byS f.2)
def idxB (i : Int) : List Int := putI i 128 128
def sizB (n : Int) : List Int := putI n 32 32
structure Nx where
  e : Int
  sized : Bool
  added : Bool
  size : Int
  f : Fd
  rest : List Int
def nxE (e : Int) : Nx := ⟨e, false, false, 0, ([], []), []⟩
def powU (c : Int) : Int := if 128 ≤ c then 128 else if 64 ≤ c then 64 else if 32 ≤ c then 32 else 16
def litU (l : List Fd) (a : Bool) (i : Int) (b : List Int) : Nx :=
  if 0 < i then
    if (atR l i).2 ≠ 0 then nxE (atR l i).2 else if tE b ≠ 0 then nxE (tE b) else ⟨0, false, a, 0, ((atR l i).1.1, strB (tS b)), tR b⟩
  else if tE b ≠ 0 then nxE (tE b) else if tE (tR b) ≠ 0 then nxE (tE (tR b)) else ⟨0, false, a, 0, (strB (tS b), strB (tS (tR b))), tR (tR b)⟩
def nxtC (l : List Fd) (c n : Int) (r : List Int) : Nx :=
  if 128 ≤ c then (if (atR l n).2 ≠ 0 then nxE (atR l n).2 else ⟨0, false, false, 0, (atR l n).1, r⟩)
  else if 64 ≤ c then litU l true n r
  else if 32 ≤ c then ⟨0, true, false, n, ([], []), r⟩
  else litU l false n r
def nxtU (l : List Fd) (b : List Int) : Nx :=
  if preE b (powU (b.getD 0 0)) ≠ 0 then nxE (preE b (powU (b.getD 0 0))) else nxtC l (b.getD 0 0) (preN b (powU (b.getD 0 0))) (preR b (powU (b.getD 0 0)))
structure Un where
  b : List Int
  mx : Int
  l : List Fd
  out : List Fd
  size : Int
def tellU (s : Un) (x : Nx) : Un :=
  ⟨x.rest, s.mx, if x.added then evL s.mx (x.f :: s.l) else s.l, if 2000 < s.size + szF x.f then s.out else s.out ++ [x.f], s.size + szF x.f⟩
def stepU (most : Int) (s : Un) (x : Nx) : Int × Un :=
  if x.e ≠ 0 then (x.e, s)
  else if x.sized then (if 0 < s.size ∨ most < x.size then (100, s) else (0, ⟨x.rest, x.size, evL x.size s.l, s.out, s.size⟩))
  else (0, tellU s x)
def runU (most : Int) : Nat → Un → Int × Un
  | 0, s => (0, s)
  | n + 1, s => if s.b = [] then (0, s) else if (stepU most s (nxtU s.l s.b)).1 ≠ 0 then stepU most s (nxtU s.l s.b) else runU most n (stepU most s (nxtU s.l s.b)).2
def blkU (t : Tab) (most : Int) (b : List Int) : (List Fd × Bool × Tab) × Int :=
  if rightL t.1 t.2 = true ∧ 0 ≤ most ∧ most ≤ 4096 then
    (if (runU most b.length ⟨b, t.1, t.2, [], 0⟩).1 ≠ 0 then (([], false, (0, [])), (runU most b.length ⟨b, t.1, t.2, [], 0⟩).1)
    else (((runU most b.length ⟨b, t.1, t.2, [], 0⟩).2.out, decide (2000 < (runU most b.length ⟨b, t.1, t.2, [], 0⟩).2.size), ((runU most b.length ⟨b, t.1, t.2, [], 0⟩).2.mx, (runU most b.length ⟨b, t.1, t.2, [], 0⟩).2.l)), 0))
  else (([], false, (0, [])), 2)
theorem pgo_ge {b : List Int} : ∀ (f : Nat) (a n : Int), 1 ≤ a → (pgo b f a n).2.2 = 0 → a < (pgo b f a n).2.1
  | 0, _, _, _, h => by simp [pgo] at h
  | f + 1, a, n, h0, h => by
    rw [pgo] at h ⊢
    split at h
    · simp at h
    · split at h
      · simp at h
      · split at h
        · rename_i h1 h2; rw [if_neg h1, if_pos h2]; dsimp only; omega
        · rename_i h1 h2
          rw [if_neg h1, if_neg h2]
          have := pgo_ge f (a + 1) _ (by omega) h
          omega
theorem preR_lt {b : List Int} {p : Int} (h : preE b p = 0) : ilen (preR b p) < ilen b := by
  have h0 := qah b
  unfold preR
  rw [if_pos h]
  unfold preE at h
  cases b with
  | nil => simp [preI] at h
  | cons v b =>
    have h1 : 1 ≤ (preI (v :: b) p).2.1 := by
      unfold preI at h ⊢
      dsimp only at h ⊢
      split
      · exact Int.le_refl _
      · rename_i h2
        rw [if_neg h2] at h
        have := pgo_ge _ _ _ (by decide) h
        omega
    unfold ilen
    rw [List.length_drop, List.length_cons]
    omega
theorem litU_ok {l : List Fd} {a : Bool} {i : Int} {b : List Int} (hb : Hu.BOk b) (h : (litU l a i b).e = 0) : Hu.BOk (litU l a i b).rest ∧ ilen (litU l a i b).rest ≤ ilen b ∧ (litU l a i b).sized = false := by
  obtain ⟨h1, h2, h3⟩ := qzagr hb
  obtain ⟨g1, g2, g3⟩ := qzagr h2
  revert h
  unfold litU
  split
  · split
    · intro h; rename_i h1; exact absurd h h1
    · split
      · intro h; rename_i h1; exact absurd h h1
      · intro _; exact ⟨h2, h3, rfl⟩
  · split
    · intro h; rename_i h1; exact absurd h h1
    · split
      · intro h; rename_i h1; exact absurd h h1
      · intro _; exact ⟨g2, by dsimp only; omega, rfl⟩
theorem nxt_ok {l : List Fd} {b : List Int} (hb : Hu.BOk b) (h : (nxtU l b).e = 0) : Hu.BOk (nxtU l b).rest ∧ ilen (nxtU l b).rest < ilen b := by
  unfold nxtU at h ⊢
  split at h
  · rename_i h1; exact absurd h h1
  · rename_i h1
    rw [if_neg h1]
    have hlt := preR_lt (b := b) (p := powU (b.getD 0 0)) (by simpa using h1)
    have hok := qcw (p := powU (b.getD 0 0)) hb
    revert h
    unfold nxtC
    split
    · split
      · intro h; rename_i h1; exact absurd h h1
      · intro _; exact ⟨hok, hlt⟩
    · split
      · intro h
        have := litU_ok hok h
        exact ⟨this.1, by omega⟩
      · split
        · intro _; exact ⟨hok, hlt⟩
        · intro h
          have := litU_ok hok h
          exact ⟨this.1, by omega⟩
theorem qvn {most : Int} {s : Un} {x : Nx} (h : (stepU most s x).1 = 0) : x.e = 0 ∧ (stepU most s x).2.b = x.rest := by
  unfold stepU at h ⊢
  split at h
  · rename_i h1; exact absurd h h1
  · rename_i h1
    refine ⟨by simpa using h1, ?_⟩
    rw [if_neg h1]
    split at h
    · split at h
      · simp at h
      · rename_i h2 h3; rw [if_pos h2, if_neg h3]
    · rename_i h2; rw [if_neg h2]; rfl
theorem run_two (most : Int) : ∀ (n m : Nat) (s : Un), m ≤ n → Hu.BOk s.b → s.b.length ≤ m → runU most n s = runU most m s
  | 0, m, s, h, _, _ => by rw [show m = 0 by omega]
  | n + 1, 0, s, _, _, h => by
    have hs : s.b = [] := List.length_eq_zero_iff.1 (by omega)
    simp only [runU, hs, if_true]
  | n + 1, m + 1, s, hm, hb, h => by
    simp only [runU]
    split
    · rfl
    · split
      · rfl
      · rename_i h0 h1
        have h1 : (stepU most s (nxtU s.l s.b)).1 = 0 := by simpa using h1
        obtain ⟨h2, h3⟩ := qvn h1
        obtain ⟨h4, h5⟩ := nxt_ok hb h2
        exact run_two most n m _ (by omega) (by rw [h3]; exact h4) (by rw [h3]; unfold ilen at h5; omega)
theorem run_more (most : Int) (n : Nat) (s : Un) (hb : Hu.BOk s.b) (h : s.b.length ≤ n) : runU most n s = runU most s.b.length s := run_two most n _ s h hb (Nat.le_refl _)
def goU (most : Int) (s : Un) : Int × Un := runU most s.b.length s
theorem go_nil {most : Int} {s : Un} (h : s.b = []) : goU most s = (0, s) := by unfold goU; rw [h]; rfl
theorem go_err {most : Int} {s : Un} (h : s.b ≠ []) (h1 : (stepU most s (nxtU s.l s.b)).1 ≠ 0) : goU most s = stepU most s (nxtU s.l s.b) := by
  unfold goU
  obtain ⟨n, hn⟩ : ∃ n, s.b.length = n + 1 := ⟨s.b.length - 1, by have := List.length_pos_iff.2 h; omega⟩
  rw [hn, runU, if_neg h, if_pos h1]
theorem go_step {most : Int} {s : Un} (hb : Hu.BOk s.b) (h : s.b ≠ []) (h1 : (stepU most s (nxtU s.l s.b)).1 = 0) : goU most s = goU most (stepU most s (nxtU s.l s.b)).2 := by
  unfold goU
  obtain ⟨n, hn⟩ : ∃ n, s.b.length = n + 1 := ⟨s.b.length - 1, by have := List.length_pos_iff.2 h; omega⟩
  obtain ⟨h2, h3⟩ := qvn h1
  obtain ⟨h4, h5⟩ := nxt_ok hb h2
  rw [hn, runU, if_neg h, if_neg (by simpa using h1), run_more most n _ (by rw [h3]; exact h4) (by rw [h3]; unfold ilen at h5; omega)]
theorem blk_go {t : Tab} {most : Int} {b : List Int} : blkU t most b = if rightL t.1 t.2 = true ∧ 0 ≤ most ∧ most ≤ 4096 then
    (if (goU most ⟨b, t.1, t.2, [], 0⟩).1 ≠ 0 then (([], false, (0, [])), (goU most ⟨b, t.1, t.2, [], 0⟩).1)
    else (((goU most ⟨b, t.1, t.2, [], 0⟩).2.out, decide (2000 < (goU most ⟨b, t.1, t.2, [], 0⟩).2.size), ((goU most ⟨b, t.1, t.2, [], 0⟩).2.mx, (goU most ⟨b, t.1, t.2, [], 0⟩).2.l)), 0))
  else (([], false, (0, [])), 2) := rfl
theorem bok_way {i w : Int} (h0 : 0 ≤ i) : Hu.BOk (putI i (powP w) (upP w)) := by
  unfold powP upP
  split
  · exact qse h0 (by decide) (by decide) (by decide) (by decide)
  · split <;> exact qse h0 (by decide) (by decide) (by decide) (by decide)
theorem bok_nm {i w : Int} {b : List UInt8} (h0 : 0 ≤ i) : Hu.BOk (nmB i b w) := qzahy (bok_way h0) (qzadi (qyc _))
theorem bok_fld {w : Int} {f : Fd} : Hu.BOk (fldB f w) := qzahy (qzahy (bok_way (by decide)) (qzadi (qyc _))) (qzadi (qyc _))
theorem bok_idx {i : Int} (h0 : 0 ≤ i) : Hu.BOk (idxB i) := qse h0 (by decide) (by decide) (by decide) (by decide)
theorem bok_siz {i : Int} (h0 : 0 ≤ i) : Hu.BOk (sizB i) := qse h0 (by decide) (by decide) (by decide) (by decide)
theorem qkv {mx : Int} {l : List Fd} (h : rightL mx l = true) : ilen l ≤ 128 := by
  have h' := of_decide_eq_true h
  have := qbz l
  omega
end Pa
end Cz
namespace Cz
open Go Go.RowKit Go.Proofs
namespace Pa
theorem best_t {x : List UInt8} (hx : ilen x ≤ 1000000) : (S0 Tryz.prog).call 54 [.s x] [] (Tell (.v false 1 (cellsB (bestT (byS x))) (.y (ilen (bestT (byS x)))))) := tell_own (tbest_f hx) (qab _) (qby _)
theorem qna (b : List Int) : 1 ≤ ilen (bestT b) ∧ ilen (bestT b) ≤ ilen b + 6 := by
  have h0 := qah b
  unfold bestT
  split
  · rename_i h
    unfold shortB at h
    have h := of_decide_eq_true h
    unfold packT
    have h1 := qet (ilen (Hu.put b)) 128 128
    have h2 := Hu.qsd b
    have h3 : bitsI b (ilen b) = Hu.nbits b := by unfold bitsI; rw [qca (by omega)]
    have h4 := qah (Hu.put b)
    rw [qbh]
    unfold ilen at *
    omega
  · unfold plainT
    have h1 := qet (ilen b) 128 0
    rw [qbh]
    omega
section
variable {S : Sy} {bl : List Blk} {K : SV → List Blk → Prop}
theorem best_g (hS : S0 Tryz.prog = S) {x : List UInt8} {F : List SV} {n : Int} (hx : ilen x ≤ 1000000) (hF : cellsB (bestT (byS x)) = F) (hn : n = ilen (bestT (byS x))) (hK : K (.v false 1 F (.y n)) bl) : S.call 54 [.s x] bl K := by
  subst hF hn
  exact qbv hS (best_t hx) (.cons .rfl .nil) rfl hK
end
def C0 (s : SV) : SV := s
def C1 (e : Int) (s : SV) : SV := .tp [s, .i .i64 (.y e)]
theorem c1_ctx (e : Int) : Ctx (C1 e) := by
  intro ρ s v d
  unfold C1 at d
  simp only [den] at d
  obtain ⟨vs, rfl, d⟩ := d
  obtain ⟨vs⟩ := vs
  match vs, d with
  | [], d => simp [denL] at d
  | [_], d => simp [denL] at d
  | _ :: _ :: _ :: _, d => simp [denL] at d
  | [x, y], d =>
    simp only [denL, den] at d
    obtain ⟨dx, rfl, _⟩ := d
    refine ⟨x, dx, fun ρ' s' _ d' => ?_⟩
    unfold C1
    simp only [den]
    refine ⟨_, rfl, ?_⟩
    simp only [denL, den]
    exact ⟨d', trivial, trivial⟩
def OwnB (C : SV → SV) (L : List Int) (x : SV) (l' : List Blk) : Prop := ∃ (j : Nat) (lit : Bool) (st z : Z) (F' : List SV), Sub x (C (.sl j 1 (.l 0) z none)) ∧ l'[j]? = some (.r false lit st 1 F') ∧ plains F' = true ∧ F'.take (z.v.toNat * 1) = cellsB L ∧ z.v = ilen L
theorem qgb {C : SV → SV} {L : List Int} {l' : List Blk} {j : Nat} {lit : Bool} {st z : Z} {F : List SV} {x : SV} (hx : Sub x (C (.sl j 1 (.l 0) z none))) (hB : l'[j]? = some (.r false lit st 1 F)) (hF : F = cellsB L) (hz : z.v = ilen L) : OwnB C L x l' := by
  refine ⟨j, lit, st, z, F, hx, hB, hF ▸ qab L, ?_, hz⟩
  rw [hF, List.take_of_length_le]
  have := qat L
  unfold ilen at *
  omega
theorem fz_own {L : List Int} {l' : List Blk} {j : Nat} {lit : Bool} {st z : Z} {F' : List SV} (hB : l'[j]? = some (.r false lit st 1 F')) (h : F'.take (z.v.toNat * 1) = cellsB L) (hz : z.v = ilen L) (g : Nat → Nat) : Fz l' g [] (.sl j 1 (.l 0) z none) (.v false 1 (cellsB L) (.y (ilen L))) := by
  refine .row hB rfl (.fsub ?_ (qab L)) (qab L) hz
  rw [show (Z.l 0).v.toNat * 1 = 0 from rfl, List.drop_zero, h]
  exact .rfl
theorem own_eq {C : SV → SV} {g : FuncId} {args : List SV} {L : List Int} (h : (S0 Tryz.prog).call g args [] (OwnB C L)) :
    (S0 Tryz.prog).call g args [] (fun x l' => ∃ (j : Nat) (lit : Bool) (st z : Z) (F' : List SV), x = C (.sl j 1 (.l 0) z none) ∧ l'[j]? = some (.r false lit st 1 F') ∧ plains F' = true ∧ F'.take (z.v.toNat * 1) = cellsB L ∧ z.v = ilen L) :=
  qaw h fun x l' ⟨j, lit, st, z, F', hs, hB, h0, h1, h2⟩ => ⟨_, hs, j, lit, st, z, F', rfl, hB, h0, h1, h2⟩
theorem own_t0 {g : FuncId} {args : List SV} {L : List Int} {F : List SV} {n : Int} (h : (S0 Tryz.prog).call g args [] (OwnB C0 L)) (hF : cellsB L = F) (hn : n = ilen L) : (S0 Tryz.prog).call g args [] (Tell (.v false 1 F (.y n))) := by
  subst hF hn
  refine qaw h fun x l' h => ?_
  obtain ⟨j, lit, st, z, F', hs, hB, _, h1, h2⟩ := h
  refine ⟨_, hs, ?_⟩
  exact fun g => fz_own hB h1 h2 g
theorem qzaad {g : FuncId} {args : List SV} {L : List Int} {F : List SV} {n e : Int} (h : (S0 Tryz.prog).call g args [] (OwnB (C1 e) L)) (hF : cellsB L = F) (hn : n = ilen L) : (S0 Tryz.prog).call g args [] (Tell (.tp [.v false 1 F (.y n), .i .i64 (.y e)])) := by
  subst hF hn
  refine qaw h fun x l' h => ?_
  obtain ⟨j, lit, st, z, F', hs, hB, _, h1, h2⟩ := h
  refine ⟨_, hs, ?_⟩
  exact fun g => .tp (.cons (fz_own hB h1 h2 g) (.cons (.sub .rfl rfl) .nil))
section
variable {S : Sy} {bl : List Blk} {K : SV → List Blk → Prop} {g : FuncId} {args args' : List SV} {L : List Int} {F : List SV} {n e : Int}
theorem own_u1 (hS : S0 Tryz.prog = S) (h : (S0 Tryz.prog).call g args' [] (OwnB (C1 e) L)) (ha : SubL args args') (hr : refsBL (fun _ => false) args' = true) (hF : cellsB L = F) (hn : n = ilen L)
    (hK : K (.tp [.sl (len bl) 1 (.l 0) (.y n) none, .i .i64 (.y e)]) (snoc bl (.r false false (.y 0) 1 F))) : S.call g args bl K := by
  subst hF hn
  exact use_one hS (c1_ctx e) (fun l' j m z z' sz h => .tp (.cons (.keep (i := 0) rfl rfl h) (.cons (.sub .rfl rfl) .nil))) (own_eq h) ha hr (by decide) (qab _) hK
end
theorem idx_o {i : Int} (h0 : 0 ≤ i) (h1 : i < 2147483648) : (S0 Tryz.prog).call 23 [.i .i64 (.y i)] [] (OwnB (C1 0) (idxB i)) := by
  obtain ⟨L, hL⟩ : ∃ L, idxB i = L := ⟨_, rfl⟩
  rw [hL]
  generalize hS : S0 Tryz.prog = S
  refine qaa hS I.qig ?_
  cbv
  refine qaa hS I.qcm ?_
  cbv
  repeat' (first | (refine qwa hS i 7 128 128 rfl rfl rfl h0 h1 (by decide) (by decide) rfl (by decide) (by decide) fun F2 n2 st hF2 hn2 => ?_; cbv) | fail)
  exact qgb (z := .y n2) .rfl rfl (hL ▸ hF2.symm) (hL ▸ hn2)
theorem siz_o {i : Int} (h0 : 0 ≤ i) (h1 : i < 2147483648) : (S0 Tryz.prog).call 25 [.i .i64 (.y i)] [] (OwnB (C1 0) (sizB i)) := by
  obtain ⟨L, hL⟩ : ∃ L, sizB i = L := ⟨_, rfl⟩
  rw [hL]
  generalize hS : S0 Tryz.prog = S
  refine qaa hS I.qlp ?_
  cbv
  refine qaa hS I.qcm ?_
  cbv
  repeat' (first | (refine qwa hS i 5 32 32 rfl rfl rfl h0 h1 (by decide) (by decide) rfl (by decide) (by decide) fun F2 n2 st hF2 hn2 => ?_; cbv) | fail)
  exact qgb (z := .y n2) .rfl rfl (hL ▸ hF2.symm) (hL ▸ hn2)
theorem named_o {i w : Int} {b : List UInt8} (h0 : 0 < i) (h1 : i < 2147483648) (hb : ilen b ≤ 1000000) :
    (S0 Tryz.prog).call 27 [.i .i64 (.y i), .s b, .i .i64 (.y w)] [] (OwnB (C1 0) (nmB i b w)) := by
  obtain ⟨L, hL⟩ : ∃ L, nmB i b w = L := ⟨_, rfl⟩
  rw [hL]
  obtain ⟨B, hB⟩ : ∃ B, cellsB (bestT (byS b)) = B := ⟨_, rfl⟩
  obtain ⟨m, hm⟩ : ∃ m, m = ilen (bestT (byS b)) := ⟨_, rfl⟩
  have hm1 := qna (byS b)
  rw [← hm, qds] at hm1
  generalize hS : S0 Tryz.prog = S
  refine qaa hS I.qgg ?_
  cbv
  refine of_u hS (w := w) rfl fun u k hu hk => ?_
  obtain ⟨u0, u1, k0, k1, hp⟩ := up_bd w
  rw [← hu] at u0 u1
  rw [← hk] at k0 k1 hp
  cbv
  refine qaa hS I.qcm ?_
  cbv
  repeat' (first | (refine qai hS ?_ ?_ <;> intro h <;> (try cbv) <;> try exact s_ab h) | (refine qbr hS ?_; try cbv) | (refine qwa hS i k u (powP w) rfl rfl rfl (by omega) h1 (by omega) (by omega) hp (by omega) (by omega) fun F2 n2 st hF2 hn2 => ?_; cbv) | fail)
  have hpl := qet i (powP w) u
  rw [← hn2] at hpl
  have hfl : ilen F2 = n2 := by rw [← hF2, qat, hn2]
  refine best_g hS hb hB hm ?_
  cbv
  repeat' (first | (refine s_ck hS ?_; try cbv) | fail)
  have e1 : S.app F2 B = cellsB L := by rw [← hL]; unfold nmB; rw [← hu]; exact qdj hS hF2.symm hB.symm
  have e2 : S.pl n2 m = ilen L := by rw [← hL]; unfold nmB; rw [← hu, qbh, ← hn2, ← hm]; subst hS; rfl
  exact qgb (z := .y (S.pl n2 m)) (qar (.cons .rfl (.cons (qae rfl) .nil))) rfl e1 e2
theorem s_ckA {S : Sy} {a b : Int} {k : Unit → Prop} (hS : S0 Tryz.prog = S) (e : a = b) (h : k ()) : S.chk (S.cmp .eq a b) k := qzabh hS (by subst hS; rw [qzaat]; exact decide_eq_true e) h
theorem fld_o {w : Int} {a b : List UInt8} (hab : ilen a + ilen b ≤ 60000) :
    (S0 Tryz.prog).call 30 [.ag [.s a, .s b], .i .i64 (.y w)] [] (OwnB C0 (fldB (a, b) w)) := by
  obtain ⟨L, hL⟩ : ∃ L, fldB (a, b) w = L := ⟨_, rfl⟩
  rw [hL]
  have h0a := qah a
  have h0b := qah b
  have ha : ilen a ≤ 1000000 := by omega
  have hb : ilen b ≤ 1000000 := by omega
  obtain ⟨A, hA⟩ : ∃ B, cellsB (bestT (byS a)) = B := ⟨_, rfl⟩
  obtain ⟨ma, hma⟩ : ∃ m, m = ilen (bestT (byS a)) := ⟨_, rfl⟩
  have hm0 := qna (byS a)
  rw [← hma, qds] at hm0
  obtain ⟨B, hB⟩ : ∃ B, cellsB (bestT (byS b)) = B := ⟨_, rfl⟩
  obtain ⟨m, hm⟩ : ∃ m, m = ilen (bestT (byS b)) := ⟨_, rfl⟩
  have hm1 := qna (byS b)
  rw [← hm, qds] at hm1
  generalize hS : S0 Tryz.prog = S
  refine qaa hS I.qxe ?_
  cbv
  refine of_u hS (w := w) rfl fun u k hu hk => ?_
  obtain ⟨u0, u1, k0, k1, hp⟩ := up_bd w
  rw [← hu] at u0 u1
  rw [← hk] at k0 k1 hp
  cbv
  refine qaa hS I.qcm ?_
  cbv
  repeat' (first | (refine qbr hS ?_; try cbv) | (refine qwa hS 0 k u (powP w) rfl rfl rfl (by omega) (by omega) (by omega) (by omega) hp (by omega) (by omega) fun F2 n2 st hF2 hn2 => ?_; cbv) | fail)
  have hpl := qet 0 (powP w) u
  rw [← hn2] at hpl
  have hfl : ilen F2 = n2 := by rw [← hF2, qat, hn2]
  have hal : ilen A = ma := by rw [← hA, qat, hma]
  have hbl : ilen B = m := by rw [← hB, qat, hm]
  have hs1 : S.app [] (S.sub F2 0 n2 1) = F2 := by rw [qrv hS hF2 hn2, app_nil hS]
  have c1 : S.sc (S.pl 0 n2) 1 = S.flen (S.app [] (S.sub F2 0 n2 1)) := by rw [hs1]; subst hS; show (0 + n2) * 1 = ilen F2; omega
  have c2 : S.sc (S.pl (S.pl 0 n2) ma) 1 = S.flen (S.app (S.app [] (S.sub F2 0 n2 1)) A) := by rw [hs1]; subst hS; show (0 + n2 + ma) * 1 = ilen (F2 ++ A); rw [qbh]; omega
  refine qbn hS rfl I.qqn (by decide +kernel) ?_
  cbv
  refine best_g hS ha hA hma ?_
  cbv
  refine best_g hS hb hB hm ?_
  cbv
  skip
  refine qaa hS I.qfk ?_
  cbv
  repeat' (first | (refine s_ck hS ?_; try cbv) | (refine qai hS ?_ ?_ <;> intro h <;> (try cbv) <;> try exact s_ab h) | (refine s_ad hS ?_; intro _ _; try cbv) | (refine s_ckA hS c1 ?_; cbv) | (refine s_ckA hS c2 ?_; cbv) | (refine qag hS ?_; cbv) | (refine grow_u hS (by simp only [Z.v]; omega) (by simp only [Z.v]; omega) ?_; cbv) | fail)
  have e1 : S.app (S.app (S.app [] (S.sub F2 0 n2 1)) A) B = cellsB L := by
    rw [← hL]; rw [hs1, qdj hS hF2.symm hA.symm, qdj hS rfl hB.symm]; unfold fldB; rw [← hu]
  have e2 : S.pl (S.pl (S.pl 0 n2) ma) m = ilen L := by
    rw [← hL]; unfold fldB; rw [← hu, qbh, qbh, ← hn2, ← hm, ← hma]; subst hS; show 0 + n2 + ma + m = _; omega
  exact qgb (z := .y (S.pl (S.pl (S.pl 0 n2) ma) m)) .rfl rfl e1 e2
theorem pput_e {n k up : Int} (hn0 : n < 0 ∨ 2147483648 ≤ n) (l0 : -9223372036854775808 ≤ n) (u0 : n ≤ 9223372036854775807) (hk1 : 1 ≤ k) (hk8 : k ≤ 8) :
    (S0 Tryz.prog).call 76 [.i .i64 (.y n), .i .i64 (.y k), .i .u8 (.y up)] [] (fun x _ => Sub x (.tp [.re (.slice none 0 0), .i .i64 (.y 2)])) := by
  generalize hS : S0 Tryz.prog = S
  refine qaa hS I.qrb ?_
  cbv
  repeat' (first | (refine qai hS ?_ ?_ <;> intro h <;> (try cbv) <;> try exact s_ab h) | (refine qaa hS I.qgi ?_; cbv) | (refine qcs hS (c := 2147483648) rfl ?_; intro _ _; cbv) | fail)
  all_goals first
    | (exfalso; omega)
    | exact qar (.cons .rfl (.cons (qae rfl) .nil))
theorem qvw {n k up : Int} (hn0 : n < 0 ∨ 2147483648 ≤ n) (hk1 : 1 ≤ k) (hk8 : k ≤ 8) :
    (S0 Tryz.prog).call 52 [.i .i64 (.y n), .i .i64 (.y k), .i .u8 (.y up)] [] (fun x _ => Sub x (.tp [.re (.slice none 0 0), .i .i64 (.y 2)])) := by
  generalize hS : S0 Tryz.prog = S
  refine qaa hS I.qhg ?_
  cbv
  repeat' (first | (refine qai hS ?_ ?_ <;> intro h <;> (try cbv) <;> try exact s_ab h) | (refine qaa hS I.qhf ?_; cbv) | fail)
  all_goals first
    | (exfalso; omega)
    | exact qar (.cons .rfl (.cons (qae rfl) .nil))
end Pa
end Cz
namespace Cz
open Go Go.RowKit
section
variable {P : Program} {l : List Blk}
theorem Rel.reblk {N : Nat → Prop} {W0 W : World} {ρ : Nms} (hR : Rel P N W0 ρ l W) {k : Nat} {cs cs' : List SV} (hB : l[k]? = some (.c cs)) (hlen : cs'.length = cs.length)
    (hd : ∀ (q : Nat) (x' : SV), cs'[q]? = some x' → ∃ x, cs[q]? = some x ∧ ∀ v, den ρ x v → den ρ x' v) : Rel P N W0 ρ (l.set k (.c cs')) W := by
  have hk := (List.getElem?_eq_some_iff.1 hB).1
  have hat : ∀ (j : Nat) (B : Blk), (l.set k (.c cs'))[j]? = some B → B.wr = true → ∃ B0, l[j]? = some B0 ∧ B0.wr = true := by
    intro j B h hw
    by_cases e : j = k
    · subst e; exact ⟨_, hB, rfl⟩
    · rw [List.getElem?_set_ne (fun h => e h.symm)] at h; exact ⟨B, h, hw⟩
  refine ⟨hR.below, hR.le, fun j hj => hR.out j (by simpa using hj), hR.ids, fun j B h => ?_, fun j j' B vw vw' a a' h hw hne hv hv' ha ha' => ?_, fun j B vw a h hw hv ha => ?_, hR.qN, hR.fin, fun j B vw a h hw hv ha => ?_⟩
  · by_cases e : j = k
    · subst e
      rw [List.getElem?_set_self hk] at h
      simp only [Option.some.injEq] at h; subst h
      obtain ⟨b, h1, h2, h3⟩ := hR.blk j _ hB
      refine ⟨b, by rw [h1, hlen], ?_, by rw [hlen]; exact h3⟩
      refine ⟨by rw [hlen]; exact h2.1, fun hb => by (cases hb), fun q x' hq hx' => ?_⟩
      obtain ⟨x, hx, hdx⟩ := hd q x' hx'
      obtain ⟨a, v, g1, g2, g3⟩ := h2.2.2 q x (by simpa [hlen] using hq) hx
      exact ⟨a, v, g1, g2, hdx v g3⟩
    · rw [List.getElem?_set_ne (fun h => e h.symm)] at h
      exact hR.blk j B h
  · obtain ⟨B0, g1, g2⟩ := hat j B h hw
    exact hR.sep j j' B0 vw vw' a a' g1 g2 hne hv hv' ha ha'
  · obtain ⟨B0, g1, g2⟩ := hat j B h hw
    exact hR.own j B0 vw a g1 g2 hv ha
  · obtain ⟨B0, g1, g2⟩ := hat j B h hw
    exact hR.fsep j B0 vw a g1 g2 hv ha
theorem Rel.reblk' {N : Nat → Prop} {W0 W : World} {ρ : Nms} (hR : Rel P N W0 ρ l W) {k : Nat} {cs cs' : List SV} (hB : l[k]? = some (.c cs)) (hlen : cs'.length = cs.length)
    (hV : ∀ b, ρ k = [⟨some ⟨b, 0, none⟩, cs.length, cs.length⟩] → ViewOk W ρ cs' ⟨some ⟨b, 0, none⟩, cs.length, cs.length⟩) : Rel P N W0 ρ (l.set k (.c cs')) W := by
  have hk := (List.getElem?_eq_some_iff.1 hB).1
  have hat : ∀ (j : Nat) (B : Blk), (l.set k (.c cs'))[j]? = some B → B.wr = true → ∃ B0, l[j]? = some B0 ∧ B0.wr = true := by
    intro j B h hw
    by_cases e : j = k
    · subst e; exact ⟨_, hB, rfl⟩
    · rw [List.getElem?_set_ne (fun h => e h.symm)] at h; exact ⟨B, h, hw⟩
  refine ⟨hR.below, hR.le, fun j hj => hR.out j (by simpa using hj), hR.ids, fun j B h => ?_, fun j j' B vw vw' a a' h hw hne hv hv' ha ha' => ?_, fun j B vw a h hw hv ha => ?_, hR.qN, hR.fin, fun j B vw a h hw hv ha => ?_⟩
  · by_cases e : j = k
    · subst e
      rw [List.getElem?_set_self hk] at h
      simp only [Option.some.injEq] at h; subst h
      obtain ⟨b, h1, h2, h3⟩ := hR.blk j _ hB
      exact ⟨b, by rw [h1, hlen], by rw [hlen]; exact hV b h1, by rw [hlen]; exact h3⟩
    · rw [List.getElem?_set_ne (fun h => e h.symm)] at h
      exact hR.blk j B h
  · obtain ⟨B0, g1, g2⟩ := hat j B h hw
    exact hR.sep j j' B0 vw vw' a a' g1 g2 hne hv hv' ha ha'
  · obtain ⟨B0, g1, g2⟩ := hat j B h hw
    exact hR.own j B0 vw a g1 g2 hv ha
  · obtain ⟨B0, g1, g2⟩ := hat j B h hw
    exact hR.fsep j B0 vw a g1 g2 hv ha
theorem qvr {S : Sy} (hS : S0 P = S) (k q sz : Nat) {cs : List SV} {cx : Cx} {b : IR} {K : VK} {e : Env} (hsz : 0 < sz) (hB : lget l k = .c cs) (hq : nth cs q = .re (.slice none 0 0))
    (h : S.loop cx b e (snoc (lset l k (.c (put cs q (nilRow l sz)))) (.r false true (.l 0) sz [])) K) : S.loop cx b e l K := by
  subst hS
  have hB' := qau hB (by simp)
  have hk := (List.getElem?_eq_some_iff.1 hB').1
  rw [qbj, qce] at h
  intro c kl hc N W0 ρ rr a W hs hr hm
  have hle : Le l.length ρ (upd ρ l.length [⟨none, 0, 0⟩]) := qeh (Nat.le_refl _)
  have hE : EnvOk (upd ρ l.length [⟨none, 0, 0⟩]) e.vs a.tmps := hs.env.le hle hs.rel.out
  have hM : MkOk (upd ρ l.length [⟨none, 0, 0⟩]) e.mks a.defers := MkOk.le hle hs.rel.out _ _ hs.mks
  have hG := hs.rel.ghost false hsz
  have hR := hG.reblk (k := k) (cs := cs) (cs' := put cs q (nilRow l sz)) (by rw [List.getElem?_append_left hk]; exact hB') (by rw [qck, List.length_set]) (by
    intro j x' hx'
    by_cases hj : j = q
    · subst hj
      have hlt : j < cs.length := by have := (List.getElem?_eq_some_iff.1 hx').1; rw [qck, List.length_set] at this; exact this
      rw [qck, List.getElem?_set_self hlt] at hx'
      simp only [Option.some.injEq] at hx'; subst hx'
      refine ⟨_, List.getElem?_eq_getElem hlt, fun v hd => ?_⟩
      have : cs[j] = .re (.slice none 0 0) := by rw [qdq, List.getD_eq_getElem?_getD, List.getElem?_eq_getElem hlt] at hq; exact hq
      rw [this] at hd
      simp only [den] at hd
      rw [hd.1]; exact qii (by rw [qal]; simp)
    · rw [qck, List.getElem?_set_ne (fun e => hj e.symm)] at hx'
      exact ⟨x', hx', fun _ h => h⟩)
  rw [List.set_append_left _ _ hk] at hR
  exact Wp.mono (h c kl hc N W0 _ rr a W ⟨hR, hE, hM⟩ (hr.le (qeh hm)) (by simp; omega)) fun _ _ _ q => q.le (qeh hm)
theorem frz_rel {N : Nat → Prop} {W0 W : World} {ρ : Nms} (hR : Rel P N W0 ρ l W) (fs : List Nat) : ∃ ρ2 : Nms, Rel P N W0 ρ2 (frzL fs 0 l) W ∧ (∀ m, Le m ρ ρ2) ∧ ρ2.nm = ρ.nm ∧
    ∀ (x y : SV), Fz l id (others fs l.length) x y → refsB (fun _ => false) y = true → ∀ v, den ρ x v → den ρ2 y v := by
  have hRs : Rel P N W0 ρ (frzL fs 0 l) W := by
    refine hR.sub qjg fun k B' hB => ?_
    obtain ⟨B, h1, h2⟩ := qsq hB
    refine ⟨B, h1, ?_⟩
    rw [h2]
    split
    · exact sub_ro B
    · exact .rfl
  let Bs : Nat → Prop := fun b => ∃ (k : Nat) (lit : Bool) (st : Z) (sz : Nat) (F : List SV) (vw : View) (a : Addr), memN fs k = true ∧ l[k]? = some (.r false lit st sz F) ∧ vw ∈ ρ k ∧ vw.base = some a ∧ a.block = b
  have hBN : ∀ b, Bs b → N b := by
    rintro b ⟨k, lit, st, sz, F, vw, a, _, hk, hv, ha, rfl⟩
    exact hR.own k _ vw a hk rfl hv ha
  have hwr : ∀ (k : Nat) (Bk : Blk), (frzL fs 0 l)[k]? = some Bk → Bk.wr = true → ∃ B, l[k]? = some B ∧ B.wr = true ∧ ∀ lit st sz F, B = .r false lit st sz F → memN fs k = false := by
    intro k Bk hB hw
    obtain ⟨B, h1, h2⟩ := qsq hB
    rw [Nat.zero_add] at h2
    refine ⟨B, h1, ?_, fun lit st sz F e => ?_⟩
    · rw [h2] at hw
      split at hw
      · cases B <;> simp only [roB] at hw ⊢ <;> try exact hw
        rename_i ro _ _ _ _
        cases ro
        · rfl
        · exact hw
      · exact hw
    · cases hm : memN fs k with
      | false => rfl
      | true =>
        rw [h2, hm, e] at hw
        simp [roB, Blk.wr] at hw
  have hR2 : Rel P N W0 (fzx Bs W ρ) (frzL fs 0 l) W := by
    refine hRs.fzx hBN fun k Bk vw a hB hw hv ha => ?_
    rintro ⟨k', lit, st, sz, F, vw', a', hm, hk', hv', ha', hb⟩
    obtain ⟨B, h1, h2, h3⟩ := hwr k Bk hB hw
    have hne : k ≠ k' := by
      rintro rfl
      rw [h1] at hk'
      simp only [Option.some.injEq] at hk'
      rw [h3 _ _ _ _ hk'] at hm; cases hm
    exact hR.sep k k' B vw vw' a a' h1 h2 hne hv hv' ha ha' hb.symm
  refine ⟨fzx Bs W ρ, hR2, fun m => fzx_le hR hBN m, rfl, fun x y hxy hr v hd => ?_⟩
  let ρz : Nms := ⟨fun i => match (others fs l.length)[i]? with | some (some k) => ρ k | _ => [], (fzx Bs W ρ).fz, ρ.q⟩
  have h1 := @qzafk P N W0 W ρ ρz l id (others fs l.length) hR (fzx_le hR hBN 0).fz (by
    intro k lit st sz F vw a hB hk hv ha o u hu
    show (fzx Bs W ρ).fz a.block o = some u
    simp only [fzx]
    have hkl : k < l.length := (List.getElem?_eq_some_iff.1 hB).1
    have hmk : memN fs k = true := by
      cases hm : memN fs k with
      | true => rfl
      | false =>
        obtain ⟨i, hi⟩ := qwf hkl hm
        exact absurd hi (qdf hk i)
    rw [if_pos ⟨k, lit, st, sz, F, vw, a, hmk, hB, hv, ha, rfl⟩]
    exact hu) (by
    intro i k hk vw hv
    show vw ∈ (match (others fs l.length)[i]? with | some (some k) => ρ k | _ => [])
    rw [hk]; exact hv) (by
    intro i hi
    obtain ⟨k, hk⟩ := qja hi
    cases hk) x y hxy v hd
  have := qlz (ok := fun _ => false) (f := id) (ρ := ρz) (ρ' := fzx Bs W ρ) (fun _ _ _ h => h) (fun _ h => by cases h) y _ hr h1
  rwa [ren_id] at this
theorem s_loop_frz {S : Sy} (hS : S0 P = S) (fs : List Nat) (j q : Nat) {cs : List SV} {y : SV} {cx : Cx} {b : IR} {K : VK} {e : Env} (hB : lget l j = .c cs) (hy : Fz l id (others fs (len l)) (nth cs q) y) (hr : refsB (fun _ => false) y = true)
    (h : S.loop cx b e (lset (frzL fs 0 l) j (.c (put cs q y))) K) : S.loop cx b e l K := by
  subst hS
  have hB' := qau hB (by simp)
  have hj := (List.getElem?_eq_some_iff.1 hB').1
  rw [qce] at h
  rw [qbu] at hy
  intro c kl hc N W0 ρ rr a W hs hrr hm
  obtain ⟨ρ2, hR2, hle, hnm, hfz⟩ := frz_rel hs.rel fs
  have hE : EnvOk ρ2 e.vs a.tmps := hs.env.le (hle _) hs.rel.out
  have hM : MkOk ρ2 e.mks a.defers := MkOk.le (hle _) hs.rel.out _ _ hs.mks
  have hBf : (frzL fs 0 l)[j]? = some (.c cs) := by
    have hjf : j < (frzL fs 0 l).length := by rw [qjg]; exact hj
    obtain ⟨B, h1, h2⟩ := qsq (List.getElem?_eq_getElem hjf)
    rw [hB'] at h1
    simp only [Option.some.injEq] at h1; subst h1
    rw [List.getElem?_eq_getElem hjf, h2]
    split <;> rfl
  obtain ⟨b0, g1, g2, g3⟩ := hs.rel.blk j _ hB'
  have hR := hR2.reblk' (k := j) (cs := cs) (cs' := put cs q y) hBf (by rw [qck, List.length_set]) (by
    intro b1 hb1
    rw [hnm, g1] at hb1
    simp only [List.cons.injEq, View.mk.injEq, Option.some.injEq, Addr.mk.injEq, and_true] at hb1
    subst hb1
    refine ⟨by rw [qck, List.length_set]; exact g2.1, fun hb => by (cases hb), fun i x' hi hx' => ?_⟩
    by_cases hiq : i = q
    · subst hiq
      have hlt : i < cs.length := by have := (List.getElem?_eq_some_iff.1 hx').1; rw [qck, List.length_set] at this; exact this
      rw [qck, List.getElem?_set_self hlt] at hx'
      simp only [Option.some.injEq] at hx'; subst hx'
      obtain ⟨a1, v1, k1, k2, k3⟩ := g2.2.2 i _ hi (List.getElem?_eq_getElem hlt)
      refine ⟨a1, v1, k1, k2, hfz _ _ ?_ hr v1 k3⟩
      rw [qdq, List.getD_eq_getElem?_getD, List.getElem?_eq_getElem hlt] at hy
      exact hy
    · rw [qck, List.getElem?_set_ne (fun e => hiq e.symm)] at hx'
      obtain ⟨a1, v1, k1, k2, k3⟩ := g2.2.2 i _ hi hx'
      exact ⟨a1, v1, k1, k2, qfa (hle _) hs.rel.out _ _ k3⟩)
  exact Wp.mono (h c kl hc N W0 _ rr a W ⟨hR, hE, hM⟩ (hrr.le (hle _)) (by simp only [List.length_set, qjg]; exact hm)) fun _ _ _ q => q.le (hle _)
end
theorem s_qA {p : Prop} (h : p := by repeat' (first | exact trivial | exact SubB.rfl | exact Sub.rfl | refine And.intro ?_ ?_ | (exact SubB.c (by with_reducible assumption)) | refine SubB.c ?_ | exact SubB.r .rfl rfl rfl | exact SubB.r .rfl rfl (by assumption) | exact SubM.nil | refine SubM.cons ?_ ?_ ?_ | refine SubB.m ?_ | exact qci | exact SubL.nil | refine SubL.cons ?_ ?_ | exact qae rfl | refine qar ?_ | refine qco ?_ | exact qbw rfl rfl | exact qap rfl rfl | exact qkp rfl | exact qcg rfl | exact qes rfl | exact qea rfl | (refine qae ?_; simp only [Z.v]; omega) | (refine qqd ?_; assumption) | (refine qkp ?_; assumption) | (refine qcg ?_; assumption))) : p := h
end Cz
namespace Cz
open Go Go.RowKit Go.Proofs
namespace Pa
theorem qzafl {l' : List Blk} {g : Nat → Nat} {ks : List (Option Nat)} : ∀ {vs : List SV}, refsBL (fun _ => false) vs = true → FzL l' g ks vs vs
  | [], _ => .nil
  | x :: xs, h => by
    simp only [refsBL, Bool.and_eq_true] at h
    exact .cons (.sub .rfl h.1) (qzafl h.2)
theorem fzL_mid {l' : List Blk} {g : Nat → Nat} {ks : List (Option Nat)} {y y' : SV} {vs : List SV} (hy : Fz l' g ks y y') (hv : refsBL (fun _ => false) vs = true) : ∀ {pre : List SV}, refsBL (fun _ => false) pre = true → FzL l' g ks (pre ++ y :: vs) (pre ++ y' :: vs)
  | [], _ => .cons hy (qzafl hv)
  | x :: xs, h => by
    simp only [refsBL, Bool.and_eq_true] at h
    exact .cons (.sub .rfl h.1) (fzL_mid hy hv h.2)
theorem qqb {g : FuncId} {rest : List SV} {b : List Int} {F : List SV} {pre vs : List SV} {n : Int} (h : (S0 Tryz.prog).call g (.sl 0 1 (.l 0) (.y (ilen b)) none :: rest) [.r true true (.l 0) 1 (cellsB b)] (OwnP 1 1 F pre vs)) (hpl : plains F = true) (hn : n * 1 = F.length)
    (hr : refsBL (fun _ => false) rest = true) (hpre : refsBL (fun _ => false) pre = true) (hvs : refsBL (fun _ => false) vs = true) : (S0 Tryz.prog).call g (.v false 1 (cellsB b) (.y (ilen b)) :: rest) [] (Tell (mkP pre vs (.v false 1 F (.y n)))) := by
  refine s_thaw rfl 0 (args := .v false 1 (cellsB b) (.y (ilen b)) :: rest) (lit := false) (sz := 1) (F := cellsB b) (n := .y (ilen b)) rfl (by simp only [refsBL, refsB, Bool.true_and]; exact qbk (fun _ h => by cases h) _ hr) ?_
  show (S0 Tryz.prog).call g (.sl 0 1 (.l 0) (.y (ilen b)) none :: rest) [.r true false (.l 0) 1 (cellsB b)] _
  have h2 : (S0 Tryz.prog).call g (.sl 0 1 (.l 0) (.y (ilen b)) none :: rest) [.r true false (.l 0) 1 (cellsB b)] (OwnP 1 1 F pre vs) := by
    intro N W0 ρ W vals hR hd
    exact h N W0 ρ W vals (hR.sub rfl fun k B' hB => by
      cases k with
      | zero => simp only [List.getElem?_cons_zero, Option.some.injEq] at hB; subst hB; exact ⟨_, rfl, .r .rfl rfl (qab b)⟩
      | succ k => simp at hB) hd
  refine qaw h2 fun x l' ⟨y, hs, hy⟩ => ⟨_, hs, fun g => ?_⟩
  have hy2 : Fz l' g [] y (.v false 1 F (.y n)) := by
    rcases hy with ⟨rfl, hF⟩ | ⟨k, m, lit, st, F', _, rfl, hB, hsub, hp', hm⟩
    · subst hF
      exact .nil (by decide) (by simp only [Z.v]; simpa using hn)
    · refine .row hB rfl (.fsub ?_ hpl) hpl (show m.v = n by omega)
      rw [show (Z.l 0).v.toNat * 1 = 0 from rfl, List.drop_zero, List.take_of_length_le]
      · exact hsub
      · have := hsub.1; omega
  unfold mkP
  rw [qdp, qdp]
  exact .tp (fzL_mid hy2 hvs hpre)
section
variable {S : Sy} {bl : List Blk} {K : SV → List Blk → Prop} {b R : List Int} {N e n kk p : Int} {F : List SV} {x : SV}
theorem qky (hS : S0 Tryz.prog = S) (kk p : Int) {zk : Z} (hzk : zk.v = kk) (hx : Sub x (.v false 1 (cellsB b) (.y (ilen b)))) (hb : Hu.BOk b) (hl : ilen b ≤ 1000000) (hk1 : 1 ≤ kk) (hk8 : kk ≤ 8) (hp : 2 ^ kk.toNat = p) (hN : preN b p = N) (hE : preE b p = e) (hR : preR b p = R) (hF : cellsB R = F) (hn : n = ilen R)
    (hK : K (.tp [.i .i64 (.y N), .v false 1 F (.y n), .i .i64 (.y e)]) bl) : S.call 92 [x, .i .i64 zk] bl K := by
  subst hN hE hR hF hn
  exact qbv hS (qqb (ptake_f hb hl hk1 hk8 hp) (qab _) (qby _) rfl rfl rfl) (.cons hx (.cons (qae hzk) .nil)) rfl hK
theorem qbt (hS : S0 Tryz.prog = S) (kk p : Int) {zk : Z} (hzk : zk.v = kk) (hx : Sub x (.v false 1 (cellsB b) (.y (ilen b)))) (hb : Hu.BOk b) (hl : ilen b ≤ 1000000) (hk1 : 1 ≤ kk) (hk8 : kk ≤ 8) (hp : 2 ^ kk.toNat = p) (hN : preN b p = N) (hE : preE b p = e) (hR : preR b p = R) (hF : cellsB R = F) (hn : n = ilen R)
    (hK : K (.tp [.i .i64 (.y N), .v false 1 F (.y n), .i .i64 (.y e)]) bl) : S.call 95 [x, .i .i64 zk] bl K := by
  subst hN hE hR hF hn
  exact qbv hS (qqb (rptake_f hb hl hk1 hk8 hp) (qab _) (qby _) rfl rfl rfl) (.cons hx (.cons (qae hzk) .nil)) rfl hK
theorem qzabb (hS : S0 Tryz.prog = S) {t : List UInt8} (hx : Sub x (.v false 1 (cellsB b) (.y (ilen b)))) (hb : Hu.BOk b) (hl : ilen b ≤ 1000000) (ht : strB (tS b) = t) (hE : tE b = e) (hR : tR b = R) (hF : cellsB R = F) (hn : n = ilen R)
    (hK : K (.tp [.s t, .v false 1 F (.y n), .i .i64 (.y e)]) bl) : S.call 109 [x] bl K := by
  subst ht hE hR hF hn
  exact qbv hS (qqb (ttake_f hb hl) (qab _) (qby _) rfl rfl rfl) (.cons hx .nil) rfl hK
theorem qdb (hS : S0 Tryz.prog = S) {t : List UInt8} (hx : Sub x (.v false 1 (cellsB b) (.y (ilen b)))) (hb : Hu.BOk b) (hl : ilen b ≤ 1000000) (ht : strB (tS b) = t) (hE : tE b = e) (hR : tR b = R) (hF : cellsB R = F) (hn : n = ilen R)
    (hK : K (.tp [.s t, .v false 1 F (.y n), .i .i64 (.y e)]) bl) : S.call 110 [x] bl K := by
  subst ht hE hR hF hn
  exact qbv hS (qqb (rttake_f hb hl) (qab _) (qby _) rfl rfl rfl) (.cons hx .nil) rfl hK
end
end Pa
end Cz
namespace Cz
open Go Go.RowKit Go.Proofs
namespace Pa
open Tb
theorem takeL_len {d : List Int} (hd : Hu.BOk d) : ilen (takeL d) ≤ 8 * ilen d := by
  have h0 := qah d
  have htd : (takeE d = 0 ∧ Hu.put (takeL d) = d ∧ Hu.BOk (takeL d)) ∨ (takeE d = 70 ∧ takeL d = []) := by
    cases ht : Hu.take d with
    | some o =>
      obtain ⟨h1, h2⟩ := Hu.put_take hd ht
      refine .inl ?_
      unfold takeL takeE; rw [ht]; exact ⟨rfl, h1, h2⟩
    | none => refine .inr ?_; unfold takeL takeE; rw [ht]; exact ⟨rfl, rfl⟩
  rcases htd with ⟨_, h1, h2⟩ | ⟨_, h1⟩
  · have h3 := put_il2 (takeL d)
    rw [h1] at h3
    have h4 : 5 * ilen (takeL d) ≤ bitsI (takeL d) (ilen (takeL d)) := by
      rw [show bitsI (takeL d) (ilen (takeL d)) = Hu.nbits (takeL d) by unfold bitsI; rw [qca (by omega)]]
      unfold Hu.nbits Hu.enc
      generalize takeL d = l
      induction l with
      | nil => simp [ilen]
      | cons v l ih =>
        have := qtc v
        unfold clsI at this
        unfold ilen at ih ⊢
        simp only [List.flatMap_cons, List.length_append, List.length_cons, Hu.cod, Hu.qbg] at ih ⊢
        omega
    omega
  · rw [h1, qmn]; omega
theorem qzv {b : List Int} (hb : Hu.BOk b) : ilen (tS b) ≤ 8 * ilen b := by
  have h0 := qah b
  have hR := qec (b := b) (p := 128)
  have hp : ∀ n, ilen (part (preR b 128) 0 n) ≤ ilen b := by
    intro n
    unfold part ilen at *
    rw [List.length_take, List.length_drop]; omega
  unfold tS tTake
  split
  · rw [qmn]; omega
  · split
    · rw [qmn]; omega
    · split
      · have := hp (preN b 128); dsimp only; omega
      · split
        · have h1 := takeL_len (qmy (o := 0) (n := preN b 128) (qcw (p := 128) hb))
          have := hp (preN b 128); dsimp only; omega
        · rw [qmn]; omega
theorem qiv (b : List Int) : ilen (strB b) = ilen b := by unfold strB ilen; rw [List.length_map]
theorem qzage {l : List Fd} {i m : Int} (hl : fullL l ≤ m) (hm : 100 ≤ m) : szF (atR l i).1 ≤ m := by
  unfold atR
  split
  · show szF ([], []) ≤ m
    simp [szF, ilen]; omega
  · split
    · rename_i f hf
      unfold allF at hf
      rcases Nat.lt_or_ge (i - 1).toNat stL.length with h | h
      · rw [List.getElem?_append_left h] at hf
        have hall : ∀ f ∈ stL, szF f ≤ 100 := by decide
        have := hall f (List.mem_of_getElem? hf)
        show szF f ≤ m
        omega
      · rw [List.getElem?_append_right h] at hf
        have := qxb hf
        show szF f ≤ m
        omega
    · show szF ([], []) ≤ m
      simp [szF, ilen]; omega
theorem lit_len {l : List Fd} {a : Bool} {i : Int} {b : List Int} (hb : Hu.BOk b) (hl : fullL l ≤ 4096) : szF (litU l a i b).f ≤ 16 * ilen b + 5000 := by
  have h0 := qah b
  obtain ⟨g1, g2, g3⟩ := qzagr hb
  have h1 := qzv hb
  have h2 := qzv g2
  have h3 : szF (atR l i).1 ≤ 4096 := qzage hl (by decide)
  have hz : szF (nxE 0).f = 32 := rfl
  have h4 := qah (atR l i).1.1
  have h5 := qah (atR l i).1.2
  unfold szF at h3
  unfold litU
  split
  · split
    · show szF ([], []) ≤ _; simp [szF, ilen]; unfold ilen at h0; omega
    · split
      · show szF ([], []) ≤ _; simp [szF, ilen]; unfold ilen at h0; omega
      · unfold szF; dsimp only; rw [qiv]; omega
  · split
    · show szF ([], []) ≤ _; simp [szF, ilen]; unfold ilen at h0; omega
    · split
      · show szF ([], []) ≤ _; simp [szF, ilen]; unfold ilen at h0; omega
      · unfold szF; dsimp only; rw [qiv, qiv]; omega
theorem nxt_len {l : List Fd} {b : List Int} (hb : Hu.BOk b) (hl : fullL l ≤ 4096) : szF (nxtU l b).f ≤ 16 * ilen b + 5000 := by
  have h0 := qah b
  have hlt := qec (b := b) (p := powU (b.getD 0 0))
  have hok := qcw (p := powU (b.getD 0 0)) hb
  have hz : ∀ e, szF (nxE e).f ≤ 16 * ilen b + 5000 := fun e => by show szF ([], []) ≤ _; simp [szF, ilen]; unfold ilen at h0; omega
  have ha : szF (atR l (preN b (powU (b.getD 0 0)))).1 ≤ 4096 := qzage hl (by decide)
  have hL := fun a => lit_len (l := l) (a := a) (i := preN b (powU (b.getD 0 0))) hok hl
  unfold nxtU
  split
  · exact hz _
  · unfold nxtC
    split
    · split
      · exact hz _
      · show szF (atR l _).1 ≤ _; omega
    · split
      · have := hL true; omega
      · split
        · exact hz 0
        · have := hL false; omega
theorem pgo_lt {b : List Int} : ∀ (f : Nat) (a n : Int), (pgo b f a n).1 < 2147483648
  | 0, a, n => by simp [pgo]
  | f + 1, a, n => by
    rw [pgo]
    split
    · simp
    · split
      · simp
      · split
        · dsimp only; omega
        · exact pgo_lt f _ _
theorem qkz {b : List Int} {p : Int} (hp : 1 ≤ p) (hp1 : p ≤ 256) : preN b p < 2147483648 := by
  unfold preN preI
  split
  · simp
  · split
    · dsimp only; omega
    · exact pgo_lt _ _ _
section
variable {l : List Fd} {b : List Int} {c : Int}
theorem nx_128 (hc : b.getD 0 0 = c) (h : 128 ≤ c) : nxtU l b = if preE b 128 ≠ 0 then nxE (preE b 128) else if (atR l (preN b 128)).2 ≠ 0 then nxE (atR l (preN b 128)).2 else ⟨0, false, false, 0, (atR l (preN b 128)).1, preR b 128⟩ := by
  have hp : powU c = 128 := by unfold powU; rw [if_pos h]
  unfold nxtU; rw [hc, hp]
  unfold nxtC; rw [if_pos h]
theorem nx_64 (hc : b.getD 0 0 = c) (h : c < 128) (h' : 64 ≤ c) : nxtU l b = if preE b 64 ≠ 0 then nxE (preE b 64) else litU l true (preN b 64) (preR b 64) := by
  have hp : powU c = 64 := by unfold powU; rw [if_neg (by omega), if_pos h']
  unfold nxtU; rw [hc, hp]
  unfold nxtC; rw [if_neg (show ¬128 ≤ c by omega), if_pos h']
theorem nx_32 (hc : b.getD 0 0 = c) (h : c < 64) (h' : 32 ≤ c) : nxtU l b = if preE b 32 ≠ 0 then nxE (preE b 32) else ⟨0, true, false, preN b 32, ([], []), preR b 32⟩ := by
  have hp : powU c = 32 := by unfold powU; rw [if_neg (by omega), if_neg (by omega), if_pos h']
  unfold nxtU; rw [hc, hp]
  unfold nxtC; rw [if_neg (show ¬128 ≤ c by omega), if_neg (show ¬64 ≤ c by omega), if_pos h']
theorem nx_16 (hc : b.getD 0 0 = c) (h : c < 32) : nxtU l b = if preE b 16 ≠ 0 then nxE (preE b 16) else litU l false (preN b 16) (preR b 16) := by
  have hp : powU c = 16 := by unfold powU; rw [if_neg (by omega), if_neg (by omega), if_neg (by omega)]
  unfold nxtU; rw [hc, hp]
  unfold nxtC; rw [if_neg (show ¬128 ≤ c by omega), if_neg (show ¬64 ≤ c by omega), if_neg (show ¬32 ≤ c by omega)]
end
theorem step_e {most : Int} {s : Un} {x : Nx} (h : x.e ≠ 0) : stepU most s x = (x.e, s) := by unfold stepU; rw [if_pos h]
theorem step_f {most : Int} {s : Un} {x : Nx} (h : x.e = 0) (h2 : x.sized = false) : stepU most s x = (0, tellU s x) := by unfold stepU; rw [if_neg (by simpa using h), if_neg (by simp [h2])]
theorem qzaee {most : Int} {s : Un} {x : Nx} (h : x.e = 0) (h2 : x.sized = true) : stepU most s x = if 0 < s.size ∨ most < x.size then (100, s) else (0, ⟨x.rest, x.size, evL x.size s.l, s.out, s.size⟩) := by unfold stepU; rw [if_neg (by simpa using h), if_pos h2]
theorem go_E {most e : Int} {s t : Un} {x : Nx} (hx : nxtU s.l s.b = x) (hb : s.b ≠ []) (hg : goU most s = (e, t)) (h : (stepU most s x).1 ≠ 0) : e = (stepU most s x).1 := by
  subst hx
  rw [go_err hb h] at hg
  rw [hg]
theorem go_S {most e : Int} {s t u : Un} {x : Nx} (hx : nxtU s.l s.b = x) (hok : Hu.BOk s.b) (hb : s.b ≠ []) (hg : goU most s = (e, t)) (h : stepU most s x = (0, u)) : goU most u = (e, t) := by
  subst hx
  have h1 : (stepU most s (nxtU s.l s.b)).1 = 0 := by rw [h]
  rw [go_step hok hb h1, h] at hg
  exact hg
structure UnOk (B : Int) (s : Un) : Prop where
  b : Hu.BOk s.b
  len : ilen s.b ≤ 60000
  right : rightL s.mx s.l = true
  s0 : 0 ≤ s.size
  size : s.size + 17000000 * ilen s.b ≤ B
  o1 : fullL s.out ≤ s.size
  o2 : fullL s.out ≤ 2000
theorem qwh {B : Int} {s : Un} {x : Nx} (h : UnOk B s) (hx : nxtU s.l s.b = x) (he : x.e = 0) : Hu.BOk x.rest ∧ ilen x.rest < ilen s.b := by
  subst hx; exact nxt_ok h.b he
theorem qzahd {B : Int} {s : Un} {x : Nx} (h : UnOk B s) (hx : nxtU s.l s.b = x) (he : x.e = 0) : UnOk B (tellU s x) := by
  obtain ⟨h1, h2⟩ := qwh h hx he
  have hr := of_decide_eq_true h.right
  have hl := nxt_len (l := s.l) h.b (by omega)
  rw [hx] at hl
  have hp := qfy x.f
  have hn := h.len
  have hs := h.size
  have hs0 := h.s0
  have ho1 := h.o1
  have ho2 := h.o2
  refine ⟨h1, by dsimp only [tellU]; omega, ?_, by dsimp only [tellU]; omega, by dsimp only [tellU]; omega, ?_, ?_⟩
  · dsimp only [tellU]
    split
    · exact decide_eq_true ⟨hr.1, hr.2.1, qzafy hr.1⟩
    · exact h.right
  · dsimp only [tellU]
    split
    · omega
    · rw [qlo]; simp only [fullL]; omega
  · dsimp only [tellU]
    split
    · omega
    · rw [qlo]; simp only [fullL]; omega
theorem qzahe {B most : Int} {s : Un} {x : Nx} (h : UnOk B s) (hx : nxtU s.l s.b = x) (he : x.e = 0) (hm : most ≤ 4096) (h0 : 0 ≤ x.size) (h1 : x.size ≤ most) : UnOk B ⟨x.rest, x.size, evL x.size s.l, s.out, s.size⟩ := by
  obtain ⟨g1, g2⟩ := qwh h hx he
  have hn := h.len
  have hs := h.size
  exact ⟨g1, by dsimp only; omega, decide_eq_true ⟨h0, by dsimp only; omega, qzafy h0⟩, h.s0, by dsimp only; omega, h.o1, h.o2⟩
end Pa
end Cz
namespace Cz
open Go Go.RowKit Go.Proofs
namespace Pa
open Tb
structure Wx where
  f : Fd
  sized : Bool
  added : Bool
  size : Int
  rest : List Int
  e : Int
def valW (l : List Fd) (i : Int) (b : List Int) : Fd × List Int × Int :=
  if 0 < i then (if (atR l i).2 ≠ 0 then ((atR l i).1, b, (atR l i).2) else (((atR l i).1.1, strB (tS b)), tR b, tE b))
  else if tE b ≠ 0 then ((strB (tS b), []), tR b, tE b) else ((strB (tS b), strB (tS (tR b))), tR (tR b), tE (tR b))
def nextW (l : List Fd) (b : List Int) : Wx :=
  if preE b (powU (b.getD 0 0)) ≠ 0 then ⟨([], []), false, false, 0, [], preE b (powU (b.getD 0 0))⟩
  else if powU (b.getD 0 0) = 128 then ⟨(atR l (preN b 128)).1, false, false, 0, preR b 128, (atR l (preN b 128)).2⟩
  else if powU (b.getD 0 0) = 32 then ⟨([], []), true, false, preN b 32, preR b 32, 0⟩
  else ⟨(valW l (preN b (powU (b.getD 0 0))) (preR b (powU (b.getD 0 0)))).1, false, decide (powU (b.getD 0 0) = 64), 0, (valW l (preN b (powU (b.getD 0 0))) (preR b (powU (b.getD 0 0)))).2.1, (valW l (preN b (powU (b.getD 0 0))) (preR b (powU (b.getD 0 0)))).2.2⟩
theorem val_lit (l : List Fd) (a : Bool) (i : Int) (b : List Int) : (litU l a i b).e = (valW l i b).2.2 ∧ ((valW l i b).2.2 = 0 → litU l a i b = ⟨0, false, a, 0, (valW l i b).1, (valW l i b).2.1⟩) := by
  unfold litU valW
  split
  · split
    · rename_i h; exact ⟨rfl, fun h1 => absurd h1 h⟩
    · split
      · rename_i h; exact ⟨rfl, fun h1 => absurd h1 h⟩
      · rename_i h; exact ⟨(show (0 : Int) = tE b by omega), fun _ => rfl⟩
  · split
    · rename_i h; exact ⟨rfl, fun h1 => absurd h1 h⟩
    · split
      · rename_i h; exact ⟨rfl, fun h1 => absurd h1 h⟩
      · rename_i h; exact ⟨(show (0 : Int) = tE (tR b) by omega), fun _ => rfl⟩
theorem next_nxt (l : List Fd) (b : List Int) : (nxtU l b).e = (nextW l b).e ∧ ((nextW l b).e = 0 → nxtU l b = ⟨0, (nextW l b).sized, (nextW l b).added, (nextW l b).size, (nextW l b).f, (nextW l b).rest⟩) := by
  unfold nxtU nextW
  obtain ⟨c, hc⟩ : ∃ c, b.getD 0 0 = c := ⟨_, rfl⟩
  rw [hc]
  split
  · rename_i h; exact ⟨rfl, fun h1 => absurd h1 h⟩
  · unfold nxtC
    by_cases h7 : 128 ≤ c
    · have e : powU c = 128 := by unfold powU; rw [if_pos h7]
      rw [if_pos h7, e, if_pos rfl]
      split
      · rename_i h; exact ⟨rfl, fun h1 => absurd h1 h⟩
      · rename_i h; exact ⟨(show (0 : Int) = (atR l (preN b 128)).2 by omega), fun _ => rfl⟩
    · rw [if_neg h7]
      by_cases h6 : 64 ≤ c
      · have e : powU c = 64 := by unfold powU; rw [if_neg h7, if_pos h6]
        rw [if_pos h6, e, if_neg (by decide), if_neg (by decide)]
        exact val_lit l true (preN b 64) (preR b 64)
      · rw [if_neg h6]
        by_cases h5 : 32 ≤ c
        · have e : powU c = 32 := by unfold powU; rw [if_neg h7, if_neg h6, if_pos h5]
          rw [if_pos h5, e, if_neg (by decide), if_pos rfl]
          exact ⟨rfl, fun _ => rfl⟩
        · have e : powU c = 16 := by unfold powU; rw [if_neg h7, if_neg h6, if_neg h5]
          rw [if_neg h5, e, if_neg (by decide), if_neg (by decide)]
          exact val_lit l false (preN b 16) (preR b 16)
end Pa
end Cz
namespace Cz
open Go Go.RowKit Go.Proofs
namespace Pa
open Tb
theorem val_f {mx i : Int} {l : List Fd} {b : List Int} {f1 f2 : List UInt8} {R : List Int} {F : List SV} {n e : Int} (hb : Hu.BOk b) (hbl : ilen b ≤ 1000000) (hl : ilen l ≤ 100000000) (h : valW l i b = ((f1, f2), R, e)) (hF : cellsB R = F) (hn : n = ilen R) :
    (S0 Tryz.prog).call 94 [tabV mx l, .i .i64 (.y i), .v false 1 (cellsB b) (.y (ilen b))] [] (Tell (.tp [.ag [.s f1, .s f2], .v false 1 F (.y n), .i .i64 (.y e)])) := by
  unfold tabV
  generalize hG : cellsF l = G
  obtain ⟨m, hm⟩ : ∃ m, m = ilen l := ⟨_, rfl⟩
  generalize hB : cellsB b = B
  obtain ⟨k, hk⟩ : ∃ m, m = ilen b := ⟨_, rfl⟩
  rw [← hm, ← hk]
  unfold valW at h
  obtain ⟨⟨⟨xa, xb⟩, xe⟩, hat⟩ : ∃ r, atR l i = r := ⟨_, rfl⟩
  rw [hat] at h
  obtain ⟨T1, hT1⟩ : ∃ r, strB (tS b) = r := ⟨_, rfl⟩
  obtain ⟨e1, he1⟩ : ∃ r, tE b = r := ⟨_, rfl⟩
  obtain ⟨R1, hR1⟩ : ∃ r, tR b = r := ⟨_, rfl⟩
  obtain ⟨FR1, hFR1⟩ : ∃ r, cellsB R1 = r := ⟨_, rfl⟩
  obtain ⟨nR1, hnR1⟩ : ∃ r, r = ilen R1 := ⟨_, rfl⟩
  obtain ⟨T2, hT2⟩ : ∃ r, strB (tS R1) = r := ⟨_, rfl⟩
  obtain ⟨e2, he2⟩ : ∃ r, tE R1 = r := ⟨_, rfl⟩
  obtain ⟨R2, hR2⟩ : ∃ r, tR R1 = r := ⟨_, rfl⟩
  obtain ⟨FR2, hFR2⟩ : ∃ r, cellsB R2 = r := ⟨_, rfl⟩
  obtain ⟨nR2, hnR2⟩ : ∃ r, r = ilen R2 := ⟨_, rfl⟩
  rw [he1, hT1, hR1, he2, hT2, hR2] at h
  have hR1o : Hu.BOk R1 := hR1 ▸ tR_ok hb
  have hR1l := (qzagr hb).2.2
  rw [hR1] at hR1l
  have hBk : Sub (.v false 1 B (.y k)) (.v false 1 (cellsB b) (.y (ilen b))) := qap hB.symm hk
  generalize hS : S0 Tryz.prog = S
  refine qaa hS I.qxc ?_
  cbv
  by_cases h0 : 0 < i
  · rw [if_pos h0] at h
    by_cases hx : xe = 0
    · rw [if_neg (by simpa using hx)] at h
      cases h
      repeat' (first | (refine qai hS ?_ ?_ <;> intro h <;> (try cbv) <;> try exact s_ab h) | (refine at_g hS (.v (z := .y mx) (n := .y m) rfl hG hm) hat (by omega) ?_; cbv) | (refine qzabb hS hBk hb hbl hT1 he1 hR1 hFR1 hnR1 ?_; cbv) | fail)
      all_goals first
        | exact fun g => .sub (qar (.cons .rfl (.cons (qap (hFR1.symm.trans hF) (hnR1.trans hn.symm)) (.cons (qae rfl) .nil)))) rfl
        | exact fun g => .sub (qar (.cons .rfl (.cons (qap (hFR2.symm.trans hF) (hnR2.trans hn.symm)) (.cons (qae rfl) .nil)))) rfl
        | exact fun g => .sub (qar (.cons .rfl (.cons (qap (hB.symm.trans hF) (hk.trans hn.symm)) (.cons (qae rfl) .nil)))) rfl
    · rw [if_pos hx] at h
      cases h
      repeat' (first | (refine qai hS ?_ ?_ <;> intro h <;> (try cbv) <;> try exact s_ab h) | (refine at_g hS (.v (z := .y mx) (n := .y m) rfl hG hm) hat (by omega) ?_; cbv) | fail)
      all_goals first
        | exact fun g => .sub (qar (.cons .rfl (.cons (qap (hFR1.symm.trans hF) (hnR1.trans hn.symm)) (.cons (qae rfl) .nil)))) rfl
        | exact fun g => .sub (qar (.cons .rfl (.cons (qap (hFR2.symm.trans hF) (hnR2.trans hn.symm)) (.cons (qae rfl) .nil)))) rfl
        | exact fun g => .sub (qar (.cons .rfl (.cons (qap (hB.symm.trans hF) (hk.trans hn.symm)) (.cons (qae rfl) .nil)))) rfl
  · rw [if_neg h0] at h
    by_cases hx : e1 = 0
    · rw [if_neg (by simpa using hx)] at h
      cases h
      repeat' (first | (refine qai hS ?_ ?_ <;> intro h <;> (try cbv) <;> try exact s_ab h) | (refine qzabb hS hBk hb hbl hT1 he1 hR1 hFR1 hnR1 ?_; cbv) | (refine qzabb hS (qap hFR1.symm hnR1) hR1o (by omega) hT2 he2 hR2 hFR2 hnR2 ?_; cbv) | fail)
      all_goals first
        | exact fun g => .sub (qar (.cons .rfl (.cons (qap (hFR1.symm.trans hF) (hnR1.trans hn.symm)) (.cons (qae rfl) .nil)))) rfl
        | exact fun g => .sub (qar (.cons .rfl (.cons (qap (hFR2.symm.trans hF) (hnR2.trans hn.symm)) (.cons (qae rfl) .nil)))) rfl
        | exact fun g => .sub (qar (.cons .rfl (.cons (qap (hB.symm.trans hF) (hk.trans hn.symm)) (.cons (qae rfl) .nil)))) rfl
    · rw [if_pos hx] at h
      cases h
      repeat' (first | (refine qai hS ?_ ?_ <;> intro h <;> (try cbv) <;> try exact s_ab h) | (refine qzabb hS hBk hb hbl hT1 he1 hR1 hFR1 hnR1 ?_; cbv) | fail)
      all_goals first
        | exact fun g => .sub (qar (.cons .rfl (.cons (qap (hFR1.symm.trans hF) (hnR1.trans hn.symm)) (.cons (qae rfl) .nil)))) rfl
        | exact fun g => .sub (qar (.cons .rfl (.cons (qap (hFR2.symm.trans hF) (hnR2.trans hn.symm)) (.cons (qae rfl) .nil)))) rfl
        | exact fun g => .sub (qar (.cons .rfl (.cons (qap (hB.symm.trans hF) (hk.trans hn.symm)) (.cons (qae rfl) .nil)))) rfl
end Pa
end Cz
namespace Cz
open Go Go.RowKit Go.Proofs
namespace Pa
open Tb
section
variable {S : Sy} {bl : List Blk} {K : SV → List Blk → Prop} {b R : List Int} {e n i mx : Int} {F : List SV} {x : SV} {cs : List SV} {l : List Fd} {f1 f2 : List UInt8}
theorem val_g (hS : S0 Tryz.prog = S) {zi : Z} (hi : zi.v = i) (hc : TabC [] cs mx l) (hx : Sub x (.v false 1 (cellsB b) (.y (ilen b)))) (hb : Hu.BOk b) (hbl : ilen b ≤ 1000000) (hl : ilen l ≤ 100000000) (h : valW l i b = ((f1, f2), R, e)) (hF : cellsB R = F) (hn : n = ilen R)
    (hK : K (.tp [.ag [.s f1, .s f2], .v false 1 F (.y n), .i .i64 (.y e)]) bl) : S.call 94 [.ag cs, .i .i64 zi, x] bl K := by
  refine qbv hS (val_f (mx := mx) hb hbl hl h hF hn) ?_ rfl hK
  match hc.sub with
  | .cons h _ => exact .cons h (.cons (qae hi) (.cons hx .nil))
end
theorem next_f {mx c : Int} {l : List Fd} {b : List Int} {f1 f2 : List UInt8} {sd ad : Bool} {sz e n : Int} {R : List Int} {F : List SV} (hb : Hu.BOk b) (hbl : ilen b ≤ 1000000) (hl : ilen l ≤ 100000000) (hc : b[(0 : Int).toNat]? = some c) (hw : nextW l b = ⟨(f1, f2), sd, ad, sz, R, e⟩) (hF : cellsB R = F) (hn : n = ilen R) :
    (S0 Tryz.prog).call 71 [tabV mx l, .v false 1 (cellsB b) (.y (ilen b))] [] (Tell (.tp [.ag [.s f1, .s f2, .b sd, .b ad, .i .i64 (.y sz), .v false 1 F (.y n)], .i .i64 (.y e)])) := by
  have hcb := hb c (List.mem_of_getElem? hc)
  have hcd : b.getD 0 0 = c := by rw [List.getD_eq_getElem?_getD]; rw [show (0 : Int).toNat = 0 from rfl] at hc; rw [hc]; rfl
  unfold tabV
  generalize hG : cellsF l = G
  obtain ⟨m, hm⟩ : ∃ m, m = ilen l := ⟨_, rfl⟩
  generalize hB : cellsB b = B
  obtain ⟨k, hk⟩ : ∃ m, m = ilen b := ⟨_, rfl⟩
  rw [← hm, ← hk]
  unfold nextW at hw
  rw [hcd] at hw
  have hbl1 : 1 ≤ k := by
    have := (List.getElem?_eq_some_iff.1 hc).1
    rw [hk]; unfold ilen; omega
  have hBk : Sub (.v false 1 B (.y k)) (.v false 1 (cellsB b) (.y (ilen b))) := qap hB.symm hk
  generalize hS : S0 Tryz.prog = S
  refine qaa hS I.qzd ?_
  cbv
  by_cases c7 : 128 ≤ c
  · have e : powU c = 128 := by unfold powU; rw [if_pos c7]
    rw [e] at hw
    obtain ⟨N, hN⟩ : ∃ r, preN b 128 = r := ⟨_, rfl⟩
    have hN0 := qen (p := 128) hb (by decide)
    have hN1 := qkz (b := b) (p := 128) (by decide) (by decide)
    rw [hN] at hN0 hN1
    obtain ⟨E, hE⟩ : ∃ r, preE b 128 = r := ⟨_, rfl⟩
    obtain ⟨R0, hR0⟩ : ∃ r, preR b 128 = r := ⟨_, rfl⟩
    have hRo : Hu.BOk R0 := hR0 ▸ qcw hb
    have hRl := qec (b := b) (p := 128)
    rw [hR0] at hRl
    obtain ⟨FR, hFR⟩ : ∃ r, cellsB R0 = r := ⟨_, rfl⟩
    obtain ⟨nR, hnR⟩ : ∃ r, r = ilen R0 := ⟨_, rfl⟩
    rw [hN, hE, hR0] at hw
    by_cases hE0 : E = 0
    case neg =>
      rw [if_pos hE0] at hw
      cases hw
      repeat' (first | (refine s_ck hS ?_; try cbv) | (refine qai hS ?_ ?_ <;> intro h <;> (try cbv) <;> try exact s_ab h) | (refine rowB hS hB hc rfl (by omega) ?_; cbv) | (refine qag hS ?_; cbv) | (refine qcs hS (c := 128) rfl ?_; intro _ _; cbv) | (refine qhw hS (c := 2) (m := 1) (by decide) ?_; intro _ _; cbv) | (refine qky hS 7 128 rfl hBk hb hbl (by decide) (by decide) rfl hN hE hR0 hFR hnR ?_; cbv) | fail)
      all_goals first
        | (exfalso; omega)
        | exact fun g => .sub (qar (.cons (qco (.cons .rfl (.cons .rfl (.cons (qcg rfl) (.cons (qcg rfl) (.cons (qae rfl) (.cons (qnw (by decide) hF.symm hn) .nil))))))) (.cons (qae rfl) .nil))) rfl
    rw [if_neg (by simpa using hE0)] at hw
    obtain ⟨⟨⟨xa, xb⟩, xe⟩, hat⟩ : ∃ r, atR l N = r := ⟨_, rfl⟩
    rw [if_pos rfl, hat] at hw
    cases hw
    repeat' (first | (refine s_ck hS ?_; try cbv) | (refine qai hS ?_ ?_ <;> intro h <;> (try cbv) <;> try exact s_ab h) | (refine rowB hS hB hc rfl (by omega) ?_; cbv) | (refine qag hS ?_; cbv) | (refine qcs hS (c := 128) rfl ?_; intro _ _; cbv) | (refine qhw hS (c := 2) (m := 1) (by decide) ?_; intro _ _; cbv) | (refine qky hS 7 128 rfl hBk hb hbl (by decide) (by decide) rfl hN hE hR0 hFR hnR ?_; cbv) | (refine at_g hS (.v (z := .y mx) (n := .y m) rfl hG hm) hat (by omega) ?_; cbv) | fail)
    all_goals first
      | (exfalso; omega)
      | exact fun g => .sub (qar (.cons (qco (.cons .rfl (.cons .rfl (.cons (qcg rfl) (.cons (qcg rfl) (.cons (qae rfl) (.cons (qap (hFR.symm.trans hF) (hnR.trans hn.symm)) .nil))))))) (.cons (qae rfl) .nil))) rfl
  by_cases c6 : 64 ≤ c
  · have e : powU c = 64 := by unfold powU; rw [if_neg c7, if_pos c6]
    rw [e] at hw
    obtain ⟨N, hN⟩ : ∃ r, preN b 64 = r := ⟨_, rfl⟩
    have hN0 := qen (p := 64) hb (by decide)
    have hN1 := qkz (b := b) (p := 64) (by decide) (by decide)
    rw [hN] at hN0 hN1
    obtain ⟨E, hE⟩ : ∃ r, preE b 64 = r := ⟨_, rfl⟩
    obtain ⟨R0, hR0⟩ : ∃ r, preR b 64 = r := ⟨_, rfl⟩
    have hRo : Hu.BOk R0 := hR0 ▸ qcw hb
    have hRl := qec (b := b) (p := 64)
    rw [hR0] at hRl
    obtain ⟨FR, hFR⟩ : ∃ r, cellsB R0 = r := ⟨_, rfl⟩
    obtain ⟨nR, hnR⟩ : ∃ r, r = ilen R0 := ⟨_, rfl⟩
    rw [hN, hE, hR0] at hw
    by_cases hE0 : E = 0
    case neg =>
      rw [if_pos hE0] at hw
      cases hw
      repeat' (first | (refine s_ck hS ?_; try cbv) | (refine qai hS ?_ ?_ <;> intro h <;> (try cbv) <;> try exact s_ab h) | (refine rowB hS hB hc rfl (by omega) ?_; cbv) | (refine qag hS ?_; cbv) | (refine qcs hS (c := 128) rfl ?_; intro _ _; cbv) | (refine qcs hS (c := 64) rfl ?_; intro _ _; cbv) | (refine qhw hS (c := 2) (m := 1) (by decide) ?_; intro _ _; cbv) | (refine qky hS 6 64 rfl hBk hb hbl (by decide) (by decide) rfl hN hE hR0 hFR hnR ?_; cbv) | fail)
      all_goals first
        | (exfalso; omega)
        | exact fun g => .sub (qar (.cons (qco (.cons .rfl (.cons .rfl (.cons (qcg rfl) (.cons (qcg rfl) (.cons (qae rfl) (.cons (qnw (by decide) hF.symm hn) .nil))))))) (.cons (qae rfl) .nil))) rfl
    rw [if_neg (by simpa using hE0)] at hw
    obtain ⟨⟨⟨v1, v2⟩, R1, e1⟩, hval⟩ : ∃ r, valW l N R0 = r := ⟨_, rfl⟩
    obtain ⟨FR1, hFR1⟩ : ∃ r, cellsB R1 = r := ⟨_, rfl⟩
    obtain ⟨nR1, hnR1⟩ : ∃ r, r = ilen R1 := ⟨_, rfl⟩
    rw [if_neg (by decide), if_neg (by decide), hval] at hw
    cases hw
    repeat' (first | (refine s_ck hS ?_; try cbv) | (refine qai hS ?_ ?_ <;> intro h <;> (try cbv) <;> try exact s_ab h) | (refine rowB hS hB hc rfl (by omega) ?_; cbv) | (refine qag hS ?_; cbv) | (refine qcs hS (c := 128) rfl ?_; intro _ _; cbv) | (refine qcs hS (c := 64) rfl ?_; intro _ _; cbv) | (refine qhw hS (c := 2) (m := 1) (by decide) ?_; intro _ _; cbv) | (refine qky hS 6 64 rfl hBk hb hbl (by decide) (by decide) rfl hN hE hR0 hFR hnR ?_; cbv) | (refine val_g hS (i := N) rfl (.v (z := .y mx) (n := .y m) rfl hG hm) (qap (n := .y nR) hFR.symm hnR) hRo (by omega) (by omega) hval hFR1 hnR1 ?_; cbv) | fail)
    all_goals first
      | (exfalso; omega)
      | exact fun g => .sub (qar (.cons (qco (.cons .rfl (.cons .rfl (.cons (qcg rfl) (.cons (qkp rfl) (.cons (qae rfl) (.cons (qap (hFR1.symm.trans hF) (hnR1.trans hn.symm)) .nil))))))) (.cons (qae rfl) .nil))) rfl
      | exact fun g => .sub (qar (.cons (qco (.cons .rfl (.cons .rfl (.cons (qcg rfl) (.cons (qcg rfl) (.cons (qae rfl) (.cons (qap (hFR1.symm.trans hF) (hnR1.trans hn.symm)) .nil))))))) (.cons (qae rfl) .nil))) rfl
  by_cases c5 : 32 ≤ c
  · have e : powU c = 32 := by unfold powU; rw [if_neg c7, if_neg c6, if_pos c5]
    rw [e] at hw
    obtain ⟨N, hN⟩ : ∃ r, preN b 32 = r := ⟨_, rfl⟩
    have hN0 := qen (p := 32) hb (by decide)
    have hN1 := qkz (b := b) (p := 32) (by decide) (by decide)
    rw [hN] at hN0 hN1
    obtain ⟨E, hE⟩ : ∃ r, preE b 32 = r := ⟨_, rfl⟩
    obtain ⟨R0, hR0⟩ : ∃ r, preR b 32 = r := ⟨_, rfl⟩
    have hRo : Hu.BOk R0 := hR0 ▸ qcw hb
    have hRl := qec (b := b) (p := 32)
    rw [hR0] at hRl
    obtain ⟨FR, hFR⟩ : ∃ r, cellsB R0 = r := ⟨_, rfl⟩
    obtain ⟨nR, hnR⟩ : ∃ r, r = ilen R0 := ⟨_, rfl⟩
    rw [hN, hE, hR0] at hw
    by_cases hE0 : E = 0
    case neg =>
      rw [if_pos hE0] at hw
      cases hw
      repeat' (first | (refine s_ck hS ?_; try cbv) | (refine qai hS ?_ ?_ <;> intro h <;> (try cbv) <;> try exact s_ab h) | (refine rowB hS hB hc rfl (by omega) ?_; cbv) | (refine qag hS ?_; cbv) | (refine qcs hS (c := 128) rfl ?_; intro _ _; cbv) | (refine qcs hS (c := 64) rfl ?_; intro _ _; cbv) | (refine qcs hS (c := 32) rfl ?_; intro _ _; cbv) | (refine qhw hS (c := 2) (m := 1) (by decide) ?_; intro _ _; cbv) | (refine qky hS 5 32 rfl hBk hb hbl (by decide) (by decide) rfl hN hE hR0 hFR hnR ?_; cbv) | fail)
      all_goals first
        | (exfalso; omega)
        | exact fun g => .sub (qar (.cons (qco (.cons .rfl (.cons .rfl (.cons (qcg rfl) (.cons (qcg rfl) (.cons (qae rfl) (.cons (qnw (by decide) hF.symm hn) .nil))))))) (.cons (qae rfl) .nil))) rfl
    rw [if_neg (by simpa using hE0)] at hw
    rw [if_neg (by decide), if_pos rfl] at hw
    cases hw
    repeat' (first | (refine s_ck hS ?_; try cbv) | (refine qai hS ?_ ?_ <;> intro h <;> (try cbv) <;> try exact s_ab h) | (refine rowB hS hB hc rfl (by omega) ?_; cbv) | (refine qag hS ?_; cbv) | (refine qcs hS (c := 128) rfl ?_; intro _ _; cbv) | (refine qcs hS (c := 64) rfl ?_; intro _ _; cbv) | (refine qcs hS (c := 32) rfl ?_; intro _ _; cbv) | (refine qhw hS (c := 2) (m := 1) (by decide) ?_; intro _ _; cbv) | (refine qky hS 5 32 rfl hBk hb hbl (by decide) (by decide) rfl hN hE hR0 hFR hnR ?_; cbv) | fail)
    all_goals first
      | (exfalso; omega)
      | exact fun g => .sub (qar (.cons (qco (.cons .rfl (.cons .rfl (.cons (qkp rfl) (.cons (qcg rfl) (.cons (qae rfl) (.cons (qap (hFR.symm.trans hF) (hnR.trans hn.symm)) .nil))))))) (.cons (qae hE0) .nil))) rfl
  · have e : powU c = 16 := by unfold powU; rw [if_neg c7, if_neg c6, if_neg c5]
    rw [e] at hw
    obtain ⟨N, hN⟩ : ∃ r, preN b 16 = r := ⟨_, rfl⟩
    have hN0 := qen (p := 16) hb (by decide)
    have hN1 := qkz (b := b) (p := 16) (by decide) (by decide)
    rw [hN] at hN0 hN1
    obtain ⟨E, hE⟩ : ∃ r, preE b 16 = r := ⟨_, rfl⟩
    obtain ⟨R0, hR0⟩ : ∃ r, preR b 16 = r := ⟨_, rfl⟩
    have hRo : Hu.BOk R0 := hR0 ▸ qcw hb
    have hRl := qec (b := b) (p := 16)
    rw [hR0] at hRl
    obtain ⟨FR, hFR⟩ : ∃ r, cellsB R0 = r := ⟨_, rfl⟩
    obtain ⟨nR, hnR⟩ : ∃ r, r = ilen R0 := ⟨_, rfl⟩
    rw [hN, hE, hR0] at hw
    by_cases hE0 : E = 0
    case neg =>
      rw [if_pos hE0] at hw
      cases hw
      repeat' (first | (refine s_ck hS ?_; try cbv) | (refine qai hS ?_ ?_ <;> intro h <;> (try cbv) <;> try exact s_ab h) | (refine rowB hS hB hc rfl (by omega) ?_; cbv) | (refine qag hS ?_; cbv) | (refine qcs hS (c := 128) rfl ?_; intro _ _; cbv) | (refine qcs hS (c := 64) rfl ?_; intro _ _; cbv) | (refine qcs hS (c := 32) rfl ?_; intro _ _; cbv) | (refine qhw hS (c := 2) (m := 1) (by decide) ?_; intro _ _; cbv) | (refine qky hS 4 16 rfl hBk hb hbl (by decide) (by decide) rfl hN hE hR0 hFR hnR ?_; cbv) | fail)
      all_goals first
        | (exfalso; omega)
        | exact fun g => .sub (qar (.cons (qco (.cons .rfl (.cons .rfl (.cons (qcg rfl) (.cons (qcg rfl) (.cons (qae rfl) (.cons (qnw (by decide) hF.symm hn) .nil))))))) (.cons (qae rfl) .nil))) rfl
    rw [if_neg (by simpa using hE0)] at hw
    obtain ⟨⟨⟨v1, v2⟩, R1, e1⟩, hval⟩ : ∃ r, valW l N R0 = r := ⟨_, rfl⟩
    obtain ⟨FR1, hFR1⟩ : ∃ r, cellsB R1 = r := ⟨_, rfl⟩
    obtain ⟨nR1, hnR1⟩ : ∃ r, r = ilen R1 := ⟨_, rfl⟩
    rw [if_neg (by decide), if_neg (by decide), hval] at hw
    cases hw
    repeat' (first | (refine s_ck hS ?_; try cbv) | (refine qai hS ?_ ?_ <;> intro h <;> (try cbv) <;> try exact s_ab h) | (refine rowB hS hB hc rfl (by omega) ?_; cbv) | (refine qag hS ?_; cbv) | (refine qcs hS (c := 128) rfl ?_; intro _ _; cbv) | (refine qcs hS (c := 64) rfl ?_; intro _ _; cbv) | (refine qcs hS (c := 32) rfl ?_; intro _ _; cbv) | (refine qhw hS (c := 2) (m := 1) (by decide) ?_; intro _ _; cbv) | (refine qky hS 4 16 rfl hBk hb hbl (by decide) (by decide) rfl hN hE hR0 hFR hnR ?_; cbv) | (refine val_g hS (i := N) rfl (.v (z := .y mx) (n := .y m) rfl hG hm) (qap (n := .y nR) hFR.symm hnR) hRo (by omega) (by omega) hval hFR1 hnR1 ?_; cbv) | fail)
    all_goals first
      | (exfalso; omega)
      | exact fun g => .sub (qar (.cons (qco (.cons .rfl (.cons .rfl (.cons (qcg rfl) (.cons (qkp rfl) (.cons (qae rfl) (.cons (qap (hFR1.symm.trans hF) (hnR1.trans hn.symm)) .nil))))))) (.cons (qae rfl) .nil))) rfl
      | exact fun g => .sub (qar (.cons (qco (.cons .rfl (.cons .rfl (.cons (qcg rfl) (.cons (qcg rfl) (.cons (qae rfl) (.cons (qap (hFR1.symm.trans hF) (hnR1.trans hn.symm)) .nil))))))) (.cons (qae rfl) .nil))) rfl
end Pa
end Cz
namespace Cz
open Go Go.RowKit Go.Proofs
namespace Pa
open Tb
def unV (r : (List Tb.Fd × Bool × Tab) × Int) : SV := .tp [.ag [.v false 2 (cellsF r.1.1) (.y (ilen r.1.1)), .b r.1.2.1, .i .i64 (.y r.1.2.2.1), .v false 2 (cellsF r.1.2.2.2) (.y (ilen r.1.2.2.2))], .i .i64 (.y r.2)]
theorem unE_fz {e : Int} {ze : Z} {l' : List Blk} (he : ze.v = e) : Tell (unV (([], false, (0, [])), e)) (.tp [.ag [.re (.slice none 0 0), .ff, .i .i64 (.l 0), .re (.slice none 0 0)], .i .i64 ze]) l' :=
  fun g => .sub (qar (.cons (qco (.cons (qnw (by decide) rfl rfl) (.cons (qcg rfl) (.cons (qae rfl) (.cons (qnw (by decide) rfl rfl) .nil))))) (.cons (qae he) .nil))) rfl
theorem runb_e {mx most : Int} {l : List Tb.Fd} {b : List Int} (hv : ¬(rightL mx l = true ∧ 0 ≤ most ∧ most ≤ 4096)) (hl : fullL l ≤ 10000000) :
    (S0 Tryz.prog).call 21 [tabV mx l, .i .i64 (.y most), .v false 1 (cellsB b) (.y (ilen b))] [] (Tell (unV (([], false, (0, [])), 2))) := by
  unfold tabV
  generalize hG : cellsF l = G
  obtain ⟨k, hk⟩ : ∃ k, k = ilen l := ⟨_, rfl⟩
  generalize hF : cellsB b = F
  obtain ⟨n, hn⟩ : ∃ k, k = ilen b := ⟨_, rfl⟩
  obtain ⟨ri, hri⟩ : ∃ r, rightL mx l = r := ⟨_, rfl⟩
  obtain ⟨x, hx⟩ : ∃ x, unV (([], false, (0, [])), 2) = x := ⟨_, rfl⟩
  rw [← hk, ← hn, hx]
  rw [hri] at hv
  generalize hS : S0 Tryz.prog = S
  refine qaa hS I.qfn ?_
  cbv
  refine rright_g hS (.v (z := .y mx) (n := .y k) rfl hG hk) hri (by omega) ?_
  cbv
  repeat' (first | (refine s_ck hS ?_; try cbv) | (refine qai hS ?_ ?_ <;> intro h <;> (try cbv) <;> try exact s_ab h) | fail)
  all_goals first
    | (subst hx; exact unE_fz rfl)
    | (exfalso; exact hv ⟨by assumption, by omega, by omega⟩)
theorem runb_k {mx most : Int} {l : List Tb.Fd} {b : List Int} {e : Int} {s : Un} (hr : goU most ⟨b, mx, l, [], 0⟩ = (e, s)) (hR : rightL mx l = true) (h0 : 0 ≤ most) (h1 : most ≤ 4096) (hb : Hu.BOk b) (hbl : ilen b ≤ 60000) :
    (S0 Tryz.prog).call 21 [tabV mx l, .i .i64 (.y most), .v false 1 (cellsB b) (.y (ilen b))] [] (Tell (if e ≠ 0 then unV (([], false, (0, [])), e) else unV ((s.out, decide (2000 < s.size), (s.mx, s.l)), 0))) := by
  have hl0 := qkv hR
  have hR' := of_decide_eq_true hR
  unfold tabV
  generalize hG : cellsF l = G
  obtain ⟨k, hk⟩ : ∃ k, k = ilen l := ⟨_, rfl⟩
  have h0n := qah b
  generalize hF : cellsB b = F
  obtain ⟨n, hn⟩ : ∃ k, k = ilen b := ⟨_, rfl⟩
  have hres : resR (mx, l) mx = ((mx, l), 0) := by unfold resR; rw [if_pos ⟨hR, hR'.1, hR'.2.1⟩]; dsimp only; rw [evL_all hR'.2.2]
  obtain ⟨x, hx⟩ : ∃ x, (if e ≠ 0 then unV (([], false, (0, [])), e) else unV ((s.out, decide (2000 < s.size), (s.mx, s.l)), 0)) = x := ⟨_, rfl⟩
  rw [← hk, ← hn, hx]
  generalize hS : S0 Tryz.prog = S
  refine qaa hS I.qfn ?_
  cbv
  refine rright_g hS (.v (z := .y mx) (n := .y k) rfl hG hk) hR (by omega) ?_
  cbv
  repeat' (first | (refine s_ck hS ?_; try cbv) | (refine qai hS ?_ ?_ <;> intro h <;> (try cbv) <;> try exact s_ab h) | (refine rres_g hS (.v (z := .y mx) (n := .y k) rfl hG hk) hres hG hk (by omega) ?_; cbv) | fail)
  have e0 : S.app [] F = F := app_nil hS F
  have hFl : ilen F = n := by rw [← hF, qat, hn]
  have hFp : plains F = true := hF ▸ qab b
  refine s_loop_frz hS [2] 3 0 (y := .v false 1 F (.y n)) rfl (qzafj rfl rfl ?_ hFp rfl) rfl ?_
  · show ((S.app [] F).drop ((Z.l 0).v.toNat * 1)).take (n.toNat * 1) = F
    rw [e0, show (Z.l 0).v.toNat * 1 = 0 from rfl, List.drop_zero, List.take_of_length_le]
    unfold ilen at hFl; omega
  cbv
  refine qvr hS 3 1 2 (by decide) rfl rfl ?_
  cbv
  refine qav hS 5 I.qik (fun x : Un × List SV × Int × List SV × Int × List SV × Int × Int × Bool × Bool =>
      goU most x.1 = (e, s) ∧ UnOk 17000000000000 x.1 ∧ cellsB x.1.b = x.2.1 ∧ x.2.2.1 = ilen x.1.b ∧ cellsF x.1.l = x.2.2.2.1 ∧ x.2.2.2.2.1 = ilen x.1.l ∧ cellsF x.1.out = x.2.2.2.2.2.1 ∧ x.2.2.2.2.2.2.1 = ilen x.1.out ∧ x.2.2.2.2.2.2.2.2.1 = decide (2000 < x.1.size) ∧ x.2.2.2.2.2.2.2.2.2 = decide (0 < x.1.size)) (fun _ => [])
    (fun x => [(3, .c [.v false 1 x.2.1 (.y x.2.2.1), .sl 4 2 (.l 0) (.y x.2.2.2.2.2.2.1) none, .b x.2.2.2.2.2.2.2.2.1, .i .i64 (.y x.1.mx), .v false 2 x.2.2.2.1 (.y x.2.2.2.2.1), .i .i64 (.y x.1.size), .b x.2.2.2.2.2.2.2.2.2]), (4, .r false false (.y x.2.2.2.2.2.2.2.1) 2 x.2.2.2.2.2.1)])
    (fun x => x.1.b.length) (⟨b, mx, l, [], 0⟩, F, n, G, k, [], 0, 0, false, false) rfl
    ⟨⟨hr, ⟨hb, hbl, hR, Int.le_refl _, by dsimp only; omega, Int.le_refl _, (show (0 : Int) ≤ 2000 by decide)⟩, hF, hn, hG, hk, rfl, rfl, rfl, rfl⟩, rfl, ?_, ?_, by cbv⟩ ?_
  · cbv; exact s_qA
  · cbv; exact s_qA
  intro x
  obtain ⟨⟨b', mx', l', out', sz'⟩, B, bn, T, tn, O, on, st, lg, an⟩ := x
  intro hx'
  dsimp only at hx'
  cbv
  obtain ⟨g1, ok, g3, g4, g5, g6, g7, g8, g9, g10⟩ := hx'
  have hbok : Hu.BOk b' := ok.b
  have hbl0 : ilen b' ≤ 60000 := ok.len
  have hbl' : ilen b' ≤ 1000000 := by omega
  have hR2 : rightL mx' l' = true := ok.right
  have hs0 : 0 ≤ sz' := ok.s0
  have hsz : sz' + 17000000 * ilen b' ≤ 17000000000000 := ok.size
  have hl2 := qkv hR2
  have hR3 := of_decide_eq_true hR2
  have ho1 : fullL out' ≤ sz' := ok.o1
  have ho2 : fullL out' ≤ 2000 := ok.o2
  have ho3 := qbz out'
  have hn0 := qah b'
  have hOl : ilen O = on * 2 := by rw [← g7, g8]; have := qfw out'; unfold ilen; omega
  have hon0 := qah out'
  refine qai hS ?_ ?_ <;> intro hz <;> cbv
  · have hne : b' ≠ [] := by intro h; rw [h] at g4; unfold ilen at g4; simp at g4; omega
    obtain ⟨c, hc⟩ := qei (l := b') (i := 0) (by omega) (Int.le_refl _)
    have hcd : b'.getD 0 0 = c := by rw [List.getD_eq_getElem?_getD]; rw [show (0 : Int).toNat = 0 from rfl] at hc; rw [hc]; rfl
    have hcb := hbok c (List.mem_of_getElem? hc)
    refine qaa hS I.qgu ?_
    cbv
    have errL : ∀ (e' : Int) (y : Nx) (ze : Z) (l'' : List Blk), nxtU l' b' = y → (stepU most ⟨b', mx', l', out', sz'⟩ y).1 = e' → e' ≠ 0 → ze.v = e' → ∀ g, Fz l'' g [] (.tp [.ag [.re (.slice none 0 0), .ff, .i .i64 (.l 0), .re (.slice none 0 0)], .i .i64 ze]) x := by
      intro e' y ze l'' hy he hn0 hz
      have := go_E (s := ⟨b', mx', l', out', sz'⟩) hy hne g1 (by rw [he]; exact hn0)
      rw [he] at this
      subst this hx
      rw [if_pos hn0]
      exact unE_fz hz
    have telL : ∀ (y : Nx), nxtU l' b' = y → y.e = 0 → y.sized = false → goU most (tellU ⟨b', mx', l', out', sz'⟩ y) = (e, s) ∧ UnOk 17000000000000 (tellU ⟨b', mx', l', out', sz'⟩ y) ∧ y.rest.length < b'.length := by
      intro y hy he h2
      refine ⟨go_S (s := ⟨b', mx', l', out', sz'⟩) hy hbok hne g1 (step_f he h2), qzahd ok hy he, ?_⟩
      have := (qwh ok hy he).2
      unfold ilen at this; dsimp only at this; omega
    have fin : ∀ (R : List Int) (f : Tb.Fd) (a : Bool) (l2 : List Tb.Fd) (z : Int), nxtU l' b' = ⟨0, false, a, 0, f, R⟩ → z = szF f → (if a = true then evL mx' (f :: l') else l') = l2 → ∀ r, r = sz' + z →
        (2000 < r → goU most ⟨R, mx', l2, out', r⟩ = (e, s) ∧ UnOk 17000000000000 ⟨R, mx', l2, out', r⟩ ∧ R.length < b'.length) ∧ (¬2000 < r → goU most ⟨R, mx', l2, out' ++ [f], r⟩ = (e, s) ∧ UnOk 17000000000000 ⟨R, mx', l2, out' ++ [f], r⟩ ∧ R.length < b'.length) := by
      intro R f a l2 z hy hz hl2 r hr2
      have h := telL _ hy rfl rfl
      unfold tellU at h
      dsimp only at h
      rw [hl2, ← hz, ← hr2] at h
      exact ⟨fun h3 => by rwa [if_pos h3] at h, fun h3 => by rwa [if_neg h3] at h⟩
    have errN : ∀ (e' : Int) (l'' : List Blk), nxtU l' b' = nxE e' → e' ≠ 0 → ∀ g, Fz l'' g [] (.tp [.ag [.re (.slice none 0 0), .ff, .i .i64 (.l 0), .re (.slice none 0 0)], .i .i64 (.y e')]) x := by
      intro e' l'' hy h
      exact errL e' _ (.y e') l'' hy (by rw [step_e (x := nxE e') h]; rfl) h rfl
    by_cases c7 : 128 ≤ c
    · have hX := nx_128 (l := l') hcd c7
      obtain ⟨N, hN⟩ : ∃ r, preN b' 128 = r := ⟨_, rfl⟩
      have hN0 := qen (p := 128) hbok (by decide)
      have hN1 := qkz (b := b') (p := 128) (by decide) (by decide)
      rw [hN] at hN0 hN1
      obtain ⟨E, hE⟩ : ∃ r, preE b' 128 = r := ⟨_, rfl⟩
      obtain ⟨R, hR'⟩ : ∃ r, preR b' 128 = r := ⟨_, rfl⟩
      obtain ⟨FR, hFR⟩ : ∃ r, cellsB R = r := ⟨_, rfl⟩
      obtain ⟨nR, hnR⟩ : ∃ r, r = ilen R := ⟨_, rfl⟩
      obtain ⟨⟨⟨xa, xb⟩, xe⟩, hat⟩ : ∃ r, atR l' N = r := ⟨_, rfl⟩
      have hzb : szF (atR l' N).1 ≤ 4096 := qzage (by omega) (by decide)
      rw [hat] at hzb
      rw [hN, hE, hR', hat] at hX
      obtain ⟨z, hz'⟩ : ∃ z, z = szF (xa, xb) := ⟨_, rfl⟩
      dsimp only at hX hzb
      rw [← hz'] at hzb
      have hzp := qfy (xa, xb)
      rw [← hz'] at hzp
      by_cases hE0 : E = 0
      · rw [if_neg (by simpa using hE0)] at hX
        by_cases hx0 : xe = 0
        · rw [if_neg (by simpa using hx0)] at hX
          have fin := fin _ _ _ _ z hX hz' rfl
          rw [if_neg (by simp)] at fin
          repeat' (first | (refine s_ck hS ?_; try cbv) | (refine qai hS ?_ ?_ <;> intro h <;> (try cbv) <;> try exact s_ab h) | (refine s_ad hS ?_; intro _ _; try cbv) | (refine rowB hS g3 hc rfl (by omega) ?_; cbv) | (refine qaa hS I.qac ?_; cbv) | (refine qbt hS 7 128 rfl (qap g3.symm g4) hbok hbl' (by decide) (by decide) rfl hN hE hR' hFR hnR ?_; cbv) | (refine qzaep hS (.v (z := .y mx') (n := .y tn) rfl g5 g6) hat (by dsimp only [Z.v]; omega) (by dsimp only [Z.v]; omega) (by omega) ?_; cbv) | (refine qaa hS I.qbe ?_; cbv) | (refine qvv hS hz' (by omega) ?_; cbv) | (refine qbn hS rfl I.qba (by decide +kernel) ?_; cbv) | (refine qbn hS rfl I.qaz (by decide +kernel) ?_; cbv) | fail)
          all_goals first
            | (rename_i r hr2 h3
               obtain ⟨q1, q2, q3⟩ := (fin r hr2).1 h3
               refine ⟨(⟨R, mx', l', out', r⟩, FR, nR, T, tn, O, on, st, true, true), q3, ⟨q1, q2, hFR, hnR, g5, g6, g7, g8, (decide_eq_true h3).symm, (decide_eq_true (show 0 < r by omega)).symm⟩, rfl, ?_, ?_, by cbv⟩
               · cbv; exact s_qA
               · cbv; exact s_qA)
            | (rename_i r hr2
               have h3 := h
               obtain ⟨q1, q2, q3⟩ := (fin r hr2).1 h3
               refine ⟨(⟨R, mx', l', out', r⟩, FR, nR, T, tn, O, on, st, true, true), q3, ⟨q1, q2, hFR, hnR, g5, g6, g7, g8, (decide_eq_true h3).symm, (decide_eq_true (show 0 < r by omega)).symm⟩, rfl, ?_, ?_, by cbv⟩
               · cbv; exact s_qA
               · cbv; exact s_qA)
            | (rename_i r hr2 h3 h4
               obtain ⟨q1, q2, q3⟩ := (fin r hr2).2 h3
               have e1 : S.app O [.s xa, .s xb] = cellsF (out' ++ [(xa, xb)]) := by rw [← g7, qyf hS]; simp [cellsF, fdE]
               have e2 : S.pl on 1 = ilen (out' ++ [(xa, xb)]) := by rw [qbh, g8]; subst hS; rfl
               refine ⟨(⟨R, mx', l', out' ++ [(xa, xb)], r⟩, FR, nR, T, tn, S.app O [.s xa, .s xb], S.pl on 1, S.flen O, lg, true), q3, ⟨q1, q2, hFR, hnR, g5, g6, e1.symm, e2, h4.trans (decide_eq_false h3).symm, (decide_eq_true (show 0 < r by omega)).symm⟩, rfl, ?_, ?_, by cbv⟩
               · cbv; exact s_qA
               · cbv; exact s_qA)
            | (rename_i r hr2 h3
               have h4 := h
               obtain ⟨q1, q2, q3⟩ := (fin r hr2).2 h3
               have e1 : S.app O [.s xa, .s xb] = cellsF (out' ++ [(xa, xb)]) := by rw [← g7, qyf hS]; simp [cellsF, fdE]
               have e2 : S.pl on 1 = ilen (out' ++ [(xa, xb)]) := by rw [qbh, g8]; subst hS; rfl
               refine ⟨(⟨R, mx', l', out' ++ [(xa, xb)], r⟩, FR, nR, T, tn, S.app O [.s xa, .s xb], S.pl on 1, S.flen O, lg, true), q3, ⟨q1, q2, hFR, hnR, g5, g6, e1.symm, e2, h4.trans (decide_eq_false h3).symm, (decide_eq_true (show 0 < r by omega)).symm⟩, rfl, ?_, ?_, by cbv⟩
               · cbv; exact s_qA
               · cbv; exact s_qA)
            | (rename_i r hr2 h3 h4
               rw [g9] at h4
               have := of_decide_eq_true h4
               exfalso; omega)
            | (rename_i r hr2 h3
               have h4 := h
               rw [g9] at h4
               have := of_decide_eq_true h4
               exfalso; omega)
        · rw [if_pos hx0] at hX
          repeat' (first | (refine s_ck hS ?_; try cbv) | (refine qai hS ?_ ?_ <;> intro h <;> (try cbv) <;> try exact s_ab h) | (refine rowB hS g3 hc rfl (by omega) ?_; cbv) | (refine qaa hS I.qac ?_; cbv) | (refine qbt hS 7 128 rfl (qap g3.symm g4) hbok hbl' (by decide) (by decide) rfl hN hE hR' hFR hnR ?_; cbv) | (refine qzaep hS (.v (z := .y mx') (n := .y tn) rfl g5 g6) hat (by dsimp only [Z.v]; omega) (by dsimp only [Z.v]; omega) (by omega) ?_; cbv) | fail)
          all_goals first
            | exact errN xe _ hX hx0
      · rw [if_pos hE0] at hX
        repeat' (first | (refine s_ck hS ?_; try cbv) | (refine qai hS ?_ ?_ <;> intro h <;> (try cbv) <;> try exact s_ab h) | (refine rowB hS g3 hc rfl (by omega) ?_; cbv) | (refine qaa hS I.qac ?_; cbv) | (refine qbt hS 7 128 rfl (qap g3.symm g4) hbok hbl' (by decide) (by decide) rfl hN hE hR' hFR hnR ?_; cbv) | fail)
        all_goals first
          | exact errN E _ hX hE0
    by_cases c6 : 64 ≤ c
    · have hR2' := hR2
      have hX := nx_64 (l := l') hcd (by omega) c6
      obtain ⟨N, hN⟩ : ∃ r, preN b' 64 = r := ⟨_, rfl⟩
      have hN0 := qen (p := 64) hbok (by decide)
      have hN1 := qkz (b := b') (p := 64) (by decide) (by decide)
      rw [hN] at hN0 hN1
      obtain ⟨E, hE⟩ : ∃ r, preE b' 64 = r := ⟨_, rfl⟩
      obtain ⟨R, hR'⟩ : ∃ r, preR b' 64 = r := ⟨_, rfl⟩
      obtain ⟨FR, hFR⟩ : ∃ r, cellsB R = r := ⟨_, rfl⟩
      obtain ⟨nR, hnR⟩ : ∃ r, r = ilen R := ⟨_, rfl⟩
      obtain ⟨⟨⟨xa, xb⟩, xe⟩, hat⟩ : ∃ r, atR l' N = r := ⟨_, rfl⟩
      have hzb : szF (atR l' N).1 ≤ 4096 := qzage (by omega) (by decide)
      rw [hat] at hzb
      rw [hN, hE, hR'] at hX
      obtain ⟨T1, hT1⟩ : ∃ r, strB (tS R) = r := ⟨_, rfl⟩
      obtain ⟨e1, he1⟩ : ∃ r, tE R = r := ⟨_, rfl⟩
      obtain ⟨R1, hR1⟩ : ∃ r, tR R = r := ⟨_, rfl⟩
      obtain ⟨FR1, hFR1⟩ : ∃ r, cellsB R1 = r := ⟨_, rfl⟩
      obtain ⟨nR1, hnR1⟩ : ∃ r, r = ilen R1 := ⟨_, rfl⟩
      obtain ⟨T2, hT2⟩ : ∃ r, strB (tS R1) = r := ⟨_, rfl⟩
      obtain ⟨e2, he2⟩ : ∃ r, tE R1 = r := ⟨_, rfl⟩
      obtain ⟨R2, hR2⟩ : ∃ r, tR R1 = r := ⟨_, rfl⟩
      obtain ⟨FR2, hFR2⟩ : ∃ r, cellsB R2 = r := ⟨_, rfl⟩
      obtain ⟨nR2, hnR2⟩ : ∃ r, r = ilen R2 := ⟨_, rfl⟩
      have hRo : Hu.BOk R := hR' ▸ qcw hbok
      have hR1o : Hu.BOk R1 := hR1 ▸ tR_ok hRo
      have hRl := qec (b := b') (p := 64)
      have hR1l := (qzagr hRo).2.2
      rw [hR'] at hRl
      rw [hR1] at hR1l
      have hT1l := qzv hRo
      rw [← qiv, hT1] at hT1l
      have hT2l := qzv hR1o
      rw [← qiv, hT2] at hT2l
      obtain ⟨z1, hz1⟩ : ∃ z, z = szF (xa, T1) := ⟨_, rfl⟩
      obtain ⟨z2, hz2⟩ : ∃ z, z = szF (T1, T2) := ⟨_, rfl⟩
      have hz1' : z1 = ilen xa + ilen T1 + 32 := hz1
      have hz2' : z2 = ilen T1 + ilen T2 + 32 := hz2
      have hzb' : ilen xa + ilen xb + 32 ≤ 4096 := hzb
      have n0 := qah xa
      have n1 := qah xb
      have n2 := qah T1
      have n3 := qah T2
      have had1 : addR (mx', l') (xa, T1) = ((mx', evL mx' ((xa, T1) :: l')), 0) := by unfold addR; rw [if_pos hR2']
      obtain ⟨l1, hl1⟩ : ∃ r, evL mx' ((xa, T1) :: l') = r := ⟨_, rfl⟩
      rw [hl1] at had1
      obtain ⟨A1, hA1⟩ : ∃ r, cellsF l1 = r := ⟨_, rfl⟩
      obtain ⟨m1, hm1⟩ : ∃ r, r = ilen l1 := ⟨_, rfl⟩
      have had2 : addR (mx', l') (T1, T2) = ((mx', evL mx' ((T1, T2) :: l')), 0) := by unfold addR; rw [if_pos hR2']
      obtain ⟨l2, hl2⟩ : ∃ r, evL mx' ((T1, T2) :: l') = r := ⟨_, rfl⟩
      rw [hl2] at had2
      obtain ⟨A2, hA2⟩ : ∃ r, cellsF l2 = r := ⟨_, rfl⟩
      obtain ⟨m2, hm2⟩ : ∃ r, r = ilen l2 := ⟨_, rfl⟩
      by_cases hE0 : E = 0
      · rw [if_neg (by simpa using hE0)] at hX
        unfold litU at hX
        by_cases hN2 : 0 < N
        · rw [if_pos hN2, hat] at hX
          dsimp only at hX
          by_cases hx0 : xe = 0
          · rw [if_neg (by simpa using hx0), he1, hT1, hR1] at hX
            by_cases h1 : e1 = 0
            · rw [if_neg (by simpa using h1)] at hX
              have fin := fin _ _ _ _ z1 hX hz1 rfl
              rw [if_pos rfl, hl1] at fin
              repeat' (first | (refine s_ck hS ?_; try cbv) | (refine qai hS ?_ ?_ <;> intro h <;> (try cbv) <;> try exact s_ab h) | (refine s_ad hS ?_; intro _ _; try cbv) | (refine rowB hS g3 hc rfl (by omega) ?_; cbv) | (refine qaa hS I.qac ?_; cbv) | (refine qbt hS 6 64 rfl (qap g3.symm g4) hbok hbl' (by decide) (by decide) rfl hN hE hR' hFR hnR ?_; cbv) | (refine qaa hS I.qaf ?_; cbv) | (refine qaa hS I.qan ?_; cbv) | (refine qzaep hS (.v (z := .y mx') (n := .y tn) rfl g5 g6) hat (by dsimp only [Z.v]; omega) (by dsimp only [Z.v]; omega) (by omega) ?_; cbv) | (refine qdb hS (qap hFR.symm hnR) hRo (by omega) hT1 he1 hR1 hFR1 hnR1 ?_; cbv) | (refine qbn hS rfl I.qcl (by decide +kernel) ?_; cbv) | (refine qaa hS I.qbe ?_; cbv) | (refine qvv hS hz1 (by omega) ?_; cbv) | (refine qbn hS rfl I.qba (by decide +kernel) ?_; cbv) | (refine qbn hS rfl I.qaz (by decide +kernel) ?_; cbv) | (refine radd_g hS (.v (z := .y mx') (n := .y tn) rfl g5 g6) had1 hA1 hm1 (by omega) (by omega) ?_; cbv) | fail)
              all_goals first
                | (rename_i r hr2 h3
                   obtain ⟨q1, q2, q3⟩ := (fin r hr2).1 h3
                   refine ⟨(⟨R1, mx', l1, out', r⟩, FR1, nR1, A1, m1, O, on, st, true, true), q3, ⟨q1, q2, hFR1, hnR1, hA1, hm1, g7, g8, (decide_eq_true h3).symm, (decide_eq_true (show 0 < r by omega)).symm⟩, rfl, ?_, ?_, by cbv⟩
                   · cbv; exact s_qA
                   · cbv; exact s_qA)
                | (rename_i r hr2
                   have h3 := h
                   obtain ⟨q1, q2, q3⟩ := (fin r hr2).1 h3
                   refine ⟨(⟨R1, mx', l1, out', r⟩, FR1, nR1, A1, m1, O, on, st, true, true), q3, ⟨q1, q2, hFR1, hnR1, hA1, hm1, g7, g8, (decide_eq_true h3).symm, (decide_eq_true (show 0 < r by omega)).symm⟩, rfl, ?_, ?_, by cbv⟩
                   · cbv; exact s_qA
                   · cbv; exact s_qA)
                | (rename_i r hr2 h3 h4
                   obtain ⟨q1, q2, q3⟩ := (fin r hr2).2 h3
                   have e1 : S.app O [.s xa, .s T1] = cellsF (out' ++ [(xa, T1)]) := by rw [← g7, qyf hS]; simp [cellsF, fdE]
                   have e2 : S.pl on 1 = ilen (out' ++ [(xa, T1)]) := by rw [qbh, g8]; subst hS; rfl
                   refine ⟨(⟨R1, mx', l1, out' ++ [(xa, T1)], r⟩, FR1, nR1, A1, m1, S.app O [.s xa, .s T1], S.pl on 1, S.flen O, lg, true), q3, ⟨q1, q2, hFR1, hnR1, hA1, hm1, e1.symm, e2, h4.trans (decide_eq_false h3).symm, (decide_eq_true (show 0 < r by omega)).symm⟩, rfl, ?_, ?_, by cbv⟩
                   · cbv; exact s_qA
                   · cbv; exact s_qA)
                | (rename_i r hr2 h3
                   have h4 := h
                   obtain ⟨q1, q2, q3⟩ := (fin r hr2).2 h3
                   have e1 : S.app O [.s xa, .s T1] = cellsF (out' ++ [(xa, T1)]) := by rw [← g7, qyf hS]; simp [cellsF, fdE]
                   have e2 : S.pl on 1 = ilen (out' ++ [(xa, T1)]) := by rw [qbh, g8]; subst hS; rfl
                   refine ⟨(⟨R1, mx', l1, out' ++ [(xa, T1)], r⟩, FR1, nR1, A1, m1, S.app O [.s xa, .s T1], S.pl on 1, S.flen O, lg, true), q3, ⟨q1, q2, hFR1, hnR1, hA1, hm1, e1.symm, e2, h4.trans (decide_eq_false h3).symm, (decide_eq_true (show 0 < r by omega)).symm⟩, rfl, ?_, ?_, by cbv⟩
                   · cbv; exact s_qA
                   · cbv; exact s_qA)
                | (rename_i r hr2 h3 h4
                   rw [g9] at h4
                   have := of_decide_eq_true h4
                   exfalso; omega)
                | (rename_i r hr2 h3
                   have h4 := h
                   rw [g9] at h4
                   have := of_decide_eq_true h4
                   exfalso; omega)
            · rw [if_pos h1] at hX
              repeat' (first | (refine s_ck hS ?_; try cbv) | (refine qai hS ?_ ?_ <;> intro h <;> (try cbv) <;> try exact s_ab h) | (refine rowB hS g3 hc rfl (by omega) ?_; cbv) | (refine qaa hS I.qac ?_; cbv) | (refine qbt hS 6 64 rfl (qap g3.symm g4) hbok hbl' (by decide) (by decide) rfl hN hE hR' hFR hnR ?_; cbv) | (refine qaa hS I.qaf ?_; cbv) | (refine qaa hS I.qan ?_; cbv) | (refine qzaep hS (.v (z := .y mx') (n := .y tn) rfl g5 g6) hat (by dsimp only [Z.v]; omega) (by dsimp only [Z.v]; omega) (by omega) ?_; cbv) | (refine qdb hS (qap hFR.symm hnR) hRo (by omega) hT1 he1 hR1 hFR1 hnR1 ?_; cbv) | fail)
              all_goals exact errN e1 _ hX h1
          · rw [if_pos hx0] at hX
            repeat' (first | (refine s_ck hS ?_; try cbv) | (refine qai hS ?_ ?_ <;> intro h <;> (try cbv) <;> try exact s_ab h) | (refine rowB hS g3 hc rfl (by omega) ?_; cbv) | (refine qaa hS I.qac ?_; cbv) | (refine qbt hS 6 64 rfl (qap g3.symm g4) hbok hbl' (by decide) (by decide) rfl hN hE hR' hFR hnR ?_; cbv) | (refine qaa hS I.qaf ?_; cbv) | (refine qzaep hS (.v (z := .y mx') (n := .y tn) rfl g5 g6) hat (by dsimp only [Z.v]; omega) (by dsimp only [Z.v]; omega) (by omega) ?_; cbv) | fail)
            all_goals exact errN xe _ hX hx0
        · rw [if_neg hN2, he1, hR1] at hX
          by_cases h1 : e1 = 0
          · rw [if_neg (by simpa using h1), he2, hT1, hT2, hR2] at hX
            by_cases h2 : e2 = 0
            · rw [if_neg (by simpa using h2)] at hX
              have fin := fin _ _ _ _ z2 hX hz2 rfl
              rw [if_pos rfl, hl2] at fin
              repeat' (first | (refine s_ck hS ?_; try cbv) | (refine qai hS ?_ ?_ <;> intro h <;> (try cbv) <;> try exact s_ab h) | (refine s_ad hS ?_; intro _ _; try cbv) | (refine rowB hS g3 hc rfl (by omega) ?_; cbv) | (refine qaa hS I.qac ?_; cbv) | (refine qbt hS 6 64 rfl (qap g3.symm g4) hbok hbl' (by decide) (by decide) rfl hN hE hR' hFR hnR ?_; cbv) | (refine qaa hS I.qaf ?_; cbv) | (refine qaa hS I.qan ?_; cbv) | (refine qdb hS (qap hFR.symm hnR) hRo (by omega) hT1 he1 hR1 hFR1 hnR1 ?_; cbv) | (refine qdb hS (qap hFR1.symm hnR1) hR1o (by omega) hT2 he2 hR2 hFR2 hnR2 ?_; cbv) | (refine qbn hS rfl I.qcl (by decide +kernel) ?_; cbv) | (refine qaa hS I.qbe ?_; cbv) | (refine qvv hS hz2 (by omega) ?_; cbv) | (refine qbn hS rfl I.qba (by decide +kernel) ?_; cbv) | (refine qbn hS rfl I.qaz (by decide +kernel) ?_; cbv) | (refine radd_g hS (.v (z := .y mx') (n := .y tn) rfl g5 g6) had2 hA2 hm2 (by omega) (by omega) ?_; cbv) | fail)
              all_goals first
                | (rename_i r hr2 h3
                   obtain ⟨q1, q2, q3⟩ := (fin r hr2).1 h3
                   refine ⟨(⟨R2, mx', l2, out', r⟩, FR2, nR2, A2, m2, O, on, st, true, true), q3, ⟨q1, q2, hFR2, hnR2, hA2, hm2, g7, g8, (decide_eq_true h3).symm, (decide_eq_true (show 0 < r by omega)).symm⟩, rfl, ?_, ?_, by cbv⟩
                   · cbv; exact s_qA
                   · cbv; exact s_qA)
                | (rename_i r hr2
                   have h3 := h
                   obtain ⟨q1, q2, q3⟩ := (fin r hr2).1 h3
                   refine ⟨(⟨R2, mx', l2, out', r⟩, FR2, nR2, A2, m2, O, on, st, true, true), q3, ⟨q1, q2, hFR2, hnR2, hA2, hm2, g7, g8, (decide_eq_true h3).symm, (decide_eq_true (show 0 < r by omega)).symm⟩, rfl, ?_, ?_, by cbv⟩
                   · cbv; exact s_qA
                   · cbv; exact s_qA)
                | (rename_i r hr2 h3 h4
                   obtain ⟨q1, q2, q3⟩ := (fin r hr2).2 h3
                   have e1 : S.app O [.s T1, .s T2] = cellsF (out' ++ [(T1, T2)]) := by rw [← g7, qyf hS]; simp [cellsF, fdE]
                   have e2 : S.pl on 1 = ilen (out' ++ [(T1, T2)]) := by rw [qbh, g8]; subst hS; rfl
                   refine ⟨(⟨R2, mx', l2, out' ++ [(T1, T2)], r⟩, FR2, nR2, A2, m2, S.app O [.s T1, .s T2], S.pl on 1, S.flen O, lg, true), q3, ⟨q1, q2, hFR2, hnR2, hA2, hm2, e1.symm, e2, h4.trans (decide_eq_false h3).symm, (decide_eq_true (show 0 < r by omega)).symm⟩, rfl, ?_, ?_, by cbv⟩
                   · cbv; exact s_qA
                   · cbv; exact s_qA)
                | (rename_i r hr2 h3
                   have h4 := h
                   obtain ⟨q1, q2, q3⟩ := (fin r hr2).2 h3
                   have e1 : S.app O [.s T1, .s T2] = cellsF (out' ++ [(T1, T2)]) := by rw [← g7, qyf hS]; simp [cellsF, fdE]
                   have e2 : S.pl on 1 = ilen (out' ++ [(T1, T2)]) := by rw [qbh, g8]; subst hS; rfl
                   refine ⟨(⟨R2, mx', l2, out' ++ [(T1, T2)], r⟩, FR2, nR2, A2, m2, S.app O [.s T1, .s T2], S.pl on 1, S.flen O, lg, true), q3, ⟨q1, q2, hFR2, hnR2, hA2, hm2, e1.symm, e2, h4.trans (decide_eq_false h3).symm, (decide_eq_true (show 0 < r by omega)).symm⟩, rfl, ?_, ?_, by cbv⟩
                   · cbv; exact s_qA
                   · cbv; exact s_qA)
                | (rename_i r hr2 h3 h4
                   rw [g9] at h4
                   have := of_decide_eq_true h4
                   exfalso; omega)
                | (rename_i r hr2 h3
                   have h4 := h
                   rw [g9] at h4
                   have := of_decide_eq_true h4
                   exfalso; omega)
            · rw [if_pos h2] at hX
              repeat' (first | (refine s_ck hS ?_; try cbv) | (refine qai hS ?_ ?_ <;> intro h <;> (try cbv) <;> try exact s_ab h) | (refine rowB hS g3 hc rfl (by omega) ?_; cbv) | (refine qaa hS I.qac ?_; cbv) | (refine qbt hS 6 64 rfl (qap g3.symm g4) hbok hbl' (by decide) (by decide) rfl hN hE hR' hFR hnR ?_; cbv) | (refine qaa hS I.qaf ?_; cbv) | (refine qaa hS I.qan ?_; cbv) | (refine qdb hS (qap hFR.symm hnR) hRo (by omega) hT1 he1 hR1 hFR1 hnR1 ?_; cbv) | (refine qdb hS (qap hFR1.symm hnR1) hR1o (by omega) hT2 he2 hR2 hFR2 hnR2 ?_; cbv) | fail)
              all_goals exact errN e2 _ hX h2
          · rw [if_pos h1] at hX
            repeat' (first | (refine s_ck hS ?_; try cbv) | (refine qai hS ?_ ?_ <;> intro h <;> (try cbv) <;> try exact s_ab h) | (refine rowB hS g3 hc rfl (by omega) ?_; cbv) | (refine qaa hS I.qac ?_; cbv) | (refine qbt hS 6 64 rfl (qap g3.symm g4) hbok hbl' (by decide) (by decide) rfl hN hE hR' hFR hnR ?_; cbv) | (refine qaa hS I.qaf ?_; cbv) | (refine qaa hS I.qan ?_; cbv) | (refine qdb hS (qap hFR.symm hnR) hRo (by omega) hT1 he1 hR1 hFR1 hnR1 ?_; cbv) | fail)
            all_goals exact errN e1 _ hX h1
      · rw [if_pos hE0] at hX
        repeat' (first | (refine s_ck hS ?_; try cbv) | (refine qai hS ?_ ?_ <;> intro h <;> (try cbv) <;> try exact s_ab h) | (refine rowB hS g3 hc rfl (by omega) ?_; cbv) | (refine qaa hS I.qac ?_; cbv) | (refine qbt hS 6 64 rfl (qap g3.symm g4) hbok hbl' (by decide) (by decide) rfl hN hE hR' hFR hnR ?_; cbv) | (refine qaa hS I.qaf ?_; cbv) | fail)
        all_goals exact errN E _ hX hE0
    by_cases c5 : 32 ≤ c
    · have hX := nx_32 (l := l') hcd (by omega) c5
      obtain ⟨N, hN⟩ : ∃ r, preN b' 32 = r := ⟨_, rfl⟩
      have hN0 := qen (p := 32) hbok (by decide)
      have hN1 := qkz (b := b') (p := 32) (by decide) (by decide)
      rw [hN] at hN0 hN1
      obtain ⟨E, hE⟩ : ∃ r, preE b' 32 = r := ⟨_, rfl⟩
      obtain ⟨R, hR'⟩ : ∃ r, preR b' 32 = r := ⟨_, rfl⟩
      obtain ⟨FR, hFR⟩ : ∃ r, cellsB R = r := ⟨_, rfl⟩
      obtain ⟨nR, hnR⟩ : ∃ r, r = ilen R := ⟨_, rfl⟩
      rw [hN, hE, hR'] at hX
      by_cases hE0 : E = 0
      · rw [if_neg (by simpa using hE0)] at hX
        by_cases hs : 0 < sz' ∨ most < N
        · have hst : (stepU most ⟨b', mx', l', out', sz'⟩ ⟨0, true, false, N, ([], []), R⟩).1 = 100 := by rw [qzaee rfl rfl, if_pos hs]
          by_cases hs1 : 0 < sz'
          · have han : an = true := by rw [g10]; exact decide_eq_true hs1
            subst han
            repeat' (first | (refine s_ck hS ?_; try cbv) | (refine qai hS ?_ ?_ <;> intro h <;> (try cbv) <;> try exact s_ab h) | (refine rowB hS g3 hc rfl (by omega) ?_; cbv) | (refine qaa hS I.qac ?_; cbv) | (refine qbt hS 5 32 rfl (qap g3.symm g4) hbok hbl' (by decide) (by decide) rfl hN hE hR' hFR hnR ?_; cbv) | (refine qaa hS I.qbi ?_; cbv) | fail)
            all_goals exact errL 100 _ (.l 100) _ hX hst (by decide) rfl
          · have han : an = false := by rw [g10]; exact decide_eq_false hs1
            subst han
            repeat' (first | (refine s_ck hS ?_; try cbv) | (refine qai hS ?_ ?_ <;> intro h <;> (try cbv) <;> try exact s_ab h) | (refine rowB hS g3 hc rfl (by omega) ?_; cbv) | (refine qaa hS I.qac ?_; cbv) | (refine qbt hS 5 32 rfl (qap g3.symm g4) hbok hbl' (by decide) (by decide) rfl hN hE hR' hFR hnR ?_; cbv) | (refine qaa hS I.qbi ?_; cbv) | fail)
            all_goals exact errL 100 _ (.l 100) _ hX hst (by decide) rfl
        · have hst : stepU most ⟨b', mx', l', out', sz'⟩ ⟨0, true, false, N, ([], []), R⟩ = (0, ⟨R, N, evL N l', out', sz'⟩) := by rw [qzaee rfl rfl, if_neg hs]
          have q1 := go_S (s := ⟨b', mx', l', out', sz'⟩) hX hbok hne g1 hst
          have q2 := qzahe ok hX rfl h1 hN0 (show N ≤ most by omega)
          have q3 := (qwh ok hX rfl).2
          have hres2 : resR (mx', l') N = ((N, evL N l'), 0) := by unfold resR; rw [if_pos ⟨hR2, hN0, by omega⟩]
          obtain ⟨l2, hl2'⟩ : ∃ r, evL N l' = r := ⟨_, rfl⟩
          rw [hl2'] at hres2 q1 q2
          obtain ⟨A2, hA2⟩ : ∃ r, cellsF l2 = r := ⟨_, rfl⟩
          obtain ⟨m2, hm2⟩ : ∃ r, r = ilen l2 := ⟨_, rfl⟩
          have han : an = false := by rw [g10]; exact decide_eq_false (by omega)
          subst han
          repeat' (first | (refine s_ck hS ?_; try cbv) | (refine qai hS ?_ ?_ <;> intro h <;> (try cbv) <;> try exact s_ab h) | (refine rowB hS g3 hc rfl (by omega) ?_; cbv) | (refine qaa hS I.qac ?_; cbv) | (refine qbt hS 5 32 rfl (qap g3.symm g4) hbok hbl' (by decide) (by decide) rfl hN hE hR' hFR hnR ?_; cbv) | (refine qaa hS I.qbi ?_; cbv) | (refine rres_g hS (.v (z := .y mx') (n := .y tn) rfl g5 g6) hres2 hA2 hm2 (by omega) ?_; cbv) | fail)
          refine ⟨(⟨R, N, l2, out', sz'⟩, FR, nR, A2, m2, O, on, st, lg, false), by unfold ilen at q3; dsimp only at q3 ⊢; omega, ⟨q1, q2, hFR, hnR, hA2, hm2, g7, g8, g9, g10⟩, rfl, ?_, ?_, by cbv⟩
          · cbv; exact s_qA
          · cbv; exact s_qA
      · rw [if_pos hE0] at hX
        repeat' (first | (refine s_ck hS ?_; try cbv) | (refine qai hS ?_ ?_ <;> intro h <;> (try cbv) <;> try exact s_ab h) | (refine rowB hS g3 hc rfl (by omega) ?_; cbv) | (refine qaa hS I.qac ?_; cbv) | (refine qbt hS 5 32 rfl (qap g3.symm g4) hbok hbl' (by decide) (by decide) rfl hN hE hR' hFR hnR ?_; cbv) | (refine qaa hS I.qbi ?_; cbv) | fail)
        all_goals exact errN E _ hX hE0
    have hR2' := hR2
    have hX := nx_16 (l := l') hcd (by omega)
    obtain ⟨N, hN⟩ : ∃ r, preN b' 16 = r := ⟨_, rfl⟩
    have hN0 := qen (p := 16) hbok (by decide)
    have hN1 := qkz (b := b') (p := 16) (by decide) (by decide)
    rw [hN] at hN0 hN1
    obtain ⟨E, hE⟩ : ∃ r, preE b' 16 = r := ⟨_, rfl⟩
    obtain ⟨R, hR'⟩ : ∃ r, preR b' 16 = r := ⟨_, rfl⟩
    obtain ⟨FR, hFR⟩ : ∃ r, cellsB R = r := ⟨_, rfl⟩
    obtain ⟨nR, hnR⟩ : ∃ r, r = ilen R := ⟨_, rfl⟩
    obtain ⟨⟨⟨xa, xb⟩, xe⟩, hat⟩ : ∃ r, atR l' N = r := ⟨_, rfl⟩
    have hzb : szF (atR l' N).1 ≤ 4096 := qzage (by omega) (by decide)
    rw [hat] at hzb
    rw [hN, hE, hR'] at hX
    obtain ⟨T1, hT1⟩ : ∃ r, strB (tS R) = r := ⟨_, rfl⟩
    obtain ⟨e1, he1⟩ : ∃ r, tE R = r := ⟨_, rfl⟩
    obtain ⟨R1, hR1⟩ : ∃ r, tR R = r := ⟨_, rfl⟩
    obtain ⟨FR1, hFR1⟩ : ∃ r, cellsB R1 = r := ⟨_, rfl⟩
    obtain ⟨nR1, hnR1⟩ : ∃ r, r = ilen R1 := ⟨_, rfl⟩
    obtain ⟨T2, hT2⟩ : ∃ r, strB (tS R1) = r := ⟨_, rfl⟩
    obtain ⟨e2, he2⟩ : ∃ r, tE R1 = r := ⟨_, rfl⟩
    obtain ⟨R2, hR2⟩ : ∃ r, tR R1 = r := ⟨_, rfl⟩
    obtain ⟨FR2, hFR2⟩ : ∃ r, cellsB R2 = r := ⟨_, rfl⟩
    obtain ⟨nR2, hnR2⟩ : ∃ r, r = ilen R2 := ⟨_, rfl⟩
    have hRo : Hu.BOk R := hR' ▸ qcw hbok
    have hR1o : Hu.BOk R1 := hR1 ▸ tR_ok hRo
    have hRl := qec (b := b') (p := 16)
    have hR1l := (qzagr hRo).2.2
    rw [hR'] at hRl
    rw [hR1] at hR1l
    have hT1l := qzv hRo
    rw [← qiv, hT1] at hT1l
    have hT2l := qzv hR1o
    rw [← qiv, hT2] at hT2l
    obtain ⟨z1, hz1⟩ : ∃ z, z = szF (xa, T1) := ⟨_, rfl⟩
    obtain ⟨z2, hz2⟩ : ∃ z, z = szF (T1, T2) := ⟨_, rfl⟩
    have hz1' : z1 = ilen xa + ilen T1 + 32 := hz1
    have hz2' : z2 = ilen T1 + ilen T2 + 32 := hz2
    have hzb' : ilen xa + ilen xb + 32 ≤ 4096 := hzb
    have n0 := qah xa
    have n1 := qah xb
    have n2 := qah T1
    have n3 := qah T2
    by_cases hE0 : E = 0
    · rw [if_neg (by simpa using hE0)] at hX
      unfold litU at hX
      by_cases hN2 : 0 < N
      · rw [if_pos hN2, hat] at hX
        dsimp only at hX
        by_cases hx0 : xe = 0
        · rw [if_neg (by simpa using hx0), he1, hT1, hR1] at hX
          by_cases h1 : e1 = 0
          · rw [if_neg (by simpa using h1)] at hX
            have fin := fin _ _ _ _ z1 hX hz1 rfl
            rw [if_neg (by simp)] at fin
            repeat' (first | (refine s_ck hS ?_; try cbv) | (refine qai hS ?_ ?_ <;> intro h <;> (try cbv) <;> try exact s_ab h) | (refine s_ad hS ?_; intro _ _; try cbv) | (refine rowB hS g3 hc rfl (by omega) ?_; cbv) | (refine qaa hS I.qac ?_; cbv) | (refine qbt hS 4 16 rfl (qap g3.symm g4) hbok hbl' (by decide) (by decide) rfl hN hE hR' hFR hnR ?_; cbv) | (refine qaa hS I.qaf ?_; cbv) | (refine qaa hS I.qan ?_; cbv) | (refine qzaep hS (.v (z := .y mx') (n := .y tn) rfl g5 g6) hat (by dsimp only [Z.v]; omega) (by dsimp only [Z.v]; omega) (by omega) ?_; cbv) | (refine qdb hS (qap hFR.symm hnR) hRo (by omega) hT1 he1 hR1 hFR1 hnR1 ?_; cbv) | (refine qaa hS I.qbe ?_; cbv) | (refine qvv hS hz1 (by omega) ?_; cbv) | (refine qbn hS rfl I.qba (by decide +kernel) ?_; cbv) | (refine qbn hS rfl I.qaz (by decide +kernel) ?_; cbv) | fail)
            all_goals first
              | (rename_i r hr2 h3
                 obtain ⟨q1, q2, q3⟩ := (fin r hr2).1 h3
                 refine ⟨(⟨R1, mx', l', out', r⟩, FR1, nR1, T, tn, O, on, st, true, true), q3, ⟨q1, q2, hFR1, hnR1, g5, g6, g7, g8, (decide_eq_true h3).symm, (decide_eq_true (show 0 < r by omega)).symm⟩, rfl, ?_, ?_, by cbv⟩
                 · cbv; exact s_qA
                 · cbv; exact s_qA)
              | (rename_i r hr2
                 have h3 := h
                 obtain ⟨q1, q2, q3⟩ := (fin r hr2).1 h3
                 refine ⟨(⟨R1, mx', l', out', r⟩, FR1, nR1, T, tn, O, on, st, true, true), q3, ⟨q1, q2, hFR1, hnR1, g5, g6, g7, g8, (decide_eq_true h3).symm, (decide_eq_true (show 0 < r by omega)).symm⟩, rfl, ?_, ?_, by cbv⟩
                 · cbv; exact s_qA
                 · cbv; exact s_qA)
              | (rename_i r hr2 h3 h4
                 obtain ⟨q1, q2, q3⟩ := (fin r hr2).2 h3
                 have e1 : S.app O [.s xa, .s T1] = cellsF (out' ++ [(xa, T1)]) := by rw [← g7, qyf hS]; simp [cellsF, fdE]
                 have e2 : S.pl on 1 = ilen (out' ++ [(xa, T1)]) := by rw [qbh, g8]; subst hS; rfl
                 refine ⟨(⟨R1, mx', l', out' ++ [(xa, T1)], r⟩, FR1, nR1, T, tn, S.app O [.s xa, .s T1], S.pl on 1, S.flen O, lg, true), q3, ⟨q1, q2, hFR1, hnR1, g5, g6, e1.symm, e2, h4.trans (decide_eq_false h3).symm, (decide_eq_true (show 0 < r by omega)).symm⟩, rfl, ?_, ?_, by cbv⟩
                 · cbv; exact s_qA
                 · cbv; exact s_qA)
              | (rename_i r hr2 h3
                 have h4 := h
                 obtain ⟨q1, q2, q3⟩ := (fin r hr2).2 h3
                 have e1 : S.app O [.s xa, .s T1] = cellsF (out' ++ [(xa, T1)]) := by rw [← g7, qyf hS]; simp [cellsF, fdE]
                 have e2 : S.pl on 1 = ilen (out' ++ [(xa, T1)]) := by rw [qbh, g8]; subst hS; rfl
                 refine ⟨(⟨R1, mx', l', out' ++ [(xa, T1)], r⟩, FR1, nR1, T, tn, S.app O [.s xa, .s T1], S.pl on 1, S.flen O, lg, true), q3, ⟨q1, q2, hFR1, hnR1, g5, g6, e1.symm, e2, h4.trans (decide_eq_false h3).symm, (decide_eq_true (show 0 < r by omega)).symm⟩, rfl, ?_, ?_, by cbv⟩
                 · cbv; exact s_qA
                 · cbv; exact s_qA)
              | (rename_i r hr2 h3 h4
                 rw [g9] at h4
                 have := of_decide_eq_true h4
                 exfalso; omega)
              | (rename_i r hr2 h3
                 have h4 := h
                 rw [g9] at h4
                 have := of_decide_eq_true h4
                 exfalso; omega)
          · rw [if_pos h1] at hX
            repeat' (first | (refine s_ck hS ?_; try cbv) | (refine qai hS ?_ ?_ <;> intro h <;> (try cbv) <;> try exact s_ab h) | (refine rowB hS g3 hc rfl (by omega) ?_; cbv) | (refine qaa hS I.qac ?_; cbv) | (refine qbt hS 4 16 rfl (qap g3.symm g4) hbok hbl' (by decide) (by decide) rfl hN hE hR' hFR hnR ?_; cbv) | (refine qaa hS I.qaf ?_; cbv) | (refine qaa hS I.qan ?_; cbv) | (refine qzaep hS (.v (z := .y mx') (n := .y tn) rfl g5 g6) hat (by dsimp only [Z.v]; omega) (by dsimp only [Z.v]; omega) (by omega) ?_; cbv) | (refine qdb hS (qap hFR.symm hnR) hRo (by omega) hT1 he1 hR1 hFR1 hnR1 ?_; cbv) | fail)
            all_goals exact errN e1 _ hX h1
        · rw [if_pos hx0] at hX
          repeat' (first | (refine s_ck hS ?_; try cbv) | (refine qai hS ?_ ?_ <;> intro h <;> (try cbv) <;> try exact s_ab h) | (refine rowB hS g3 hc rfl (by omega) ?_; cbv) | (refine qaa hS I.qac ?_; cbv) | (refine qbt hS 4 16 rfl (qap g3.symm g4) hbok hbl' (by decide) (by decide) rfl hN hE hR' hFR hnR ?_; cbv) | (refine qaa hS I.qaf ?_; cbv) | (refine qzaep hS (.v (z := .y mx') (n := .y tn) rfl g5 g6) hat (by dsimp only [Z.v]; omega) (by dsimp only [Z.v]; omega) (by omega) ?_; cbv) | fail)
          all_goals exact errN xe _ hX hx0
      · rw [if_neg hN2, he1, hR1] at hX
        by_cases h1 : e1 = 0
        · rw [if_neg (by simpa using h1), he2, hT1, hT2, hR2] at hX
          by_cases h2 : e2 = 0
          · rw [if_neg (by simpa using h2)] at hX
            have fin := fin _ _ _ _ z2 hX hz2 rfl
            rw [if_neg (by simp)] at fin
            repeat' (first | (refine s_ck hS ?_; try cbv) | (refine qai hS ?_ ?_ <;> intro h <;> (try cbv) <;> try exact s_ab h) | (refine s_ad hS ?_; intro _ _; try cbv) | (refine rowB hS g3 hc rfl (by omega) ?_; cbv) | (refine qaa hS I.qac ?_; cbv) | (refine qbt hS 4 16 rfl (qap g3.symm g4) hbok hbl' (by decide) (by decide) rfl hN hE hR' hFR hnR ?_; cbv) | (refine qaa hS I.qaf ?_; cbv) | (refine qaa hS I.qan ?_; cbv) | (refine qdb hS (qap hFR.symm hnR) hRo (by omega) hT1 he1 hR1 hFR1 hnR1 ?_; cbv) | (refine qdb hS (qap hFR1.symm hnR1) hR1o (by omega) hT2 he2 hR2 hFR2 hnR2 ?_; cbv) | (refine qaa hS I.qbe ?_; cbv) | (refine qvv hS hz2 (by omega) ?_; cbv) | (refine qbn hS rfl I.qba (by decide +kernel) ?_; cbv) | (refine qbn hS rfl I.qaz (by decide +kernel) ?_; cbv) | fail)
            all_goals first
              | (rename_i r hr2 h3
                 obtain ⟨q1, q2, q3⟩ := (fin r hr2).1 h3
                 refine ⟨(⟨R2, mx', l', out', r⟩, FR2, nR2, T, tn, O, on, st, true, true), q3, ⟨q1, q2, hFR2, hnR2, g5, g6, g7, g8, (decide_eq_true h3).symm, (decide_eq_true (show 0 < r by omega)).symm⟩, rfl, ?_, ?_, by cbv⟩
                 · cbv; exact s_qA
                 · cbv; exact s_qA)
              | (rename_i r hr2
                 have h3 := h
                 obtain ⟨q1, q2, q3⟩ := (fin r hr2).1 h3
                 refine ⟨(⟨R2, mx', l', out', r⟩, FR2, nR2, T, tn, O, on, st, true, true), q3, ⟨q1, q2, hFR2, hnR2, g5, g6, g7, g8, (decide_eq_true h3).symm, (decide_eq_true (show 0 < r by omega)).symm⟩, rfl, ?_, ?_, by cbv⟩
                 · cbv; exact s_qA
                 · cbv; exact s_qA)
              | (rename_i r hr2 h3 h4
                 obtain ⟨q1, q2, q3⟩ := (fin r hr2).2 h3
                 have e1 : S.app O [.s T1, .s T2] = cellsF (out' ++ [(T1, T2)]) := by rw [← g7, qyf hS]; simp [cellsF, fdE]
                 have e2 : S.pl on 1 = ilen (out' ++ [(T1, T2)]) := by rw [qbh, g8]; subst hS; rfl
                 refine ⟨(⟨R2, mx', l', out' ++ [(T1, T2)], r⟩, FR2, nR2, T, tn, S.app O [.s T1, .s T2], S.pl on 1, S.flen O, lg, true), q3, ⟨q1, q2, hFR2, hnR2, g5, g6, e1.symm, e2, h4.trans (decide_eq_false h3).symm, (decide_eq_true (show 0 < r by omega)).symm⟩, rfl, ?_, ?_, by cbv⟩
                 · cbv; exact s_qA
                 · cbv; exact s_qA)
              | (rename_i r hr2 h3
                 have h4 := h
                 obtain ⟨q1, q2, q3⟩ := (fin r hr2).2 h3
                 have e1 : S.app O [.s T1, .s T2] = cellsF (out' ++ [(T1, T2)]) := by rw [← g7, qyf hS]; simp [cellsF, fdE]
                 have e2 : S.pl on 1 = ilen (out' ++ [(T1, T2)]) := by rw [qbh, g8]; subst hS; rfl
                 refine ⟨(⟨R2, mx', l', out' ++ [(T1, T2)], r⟩, FR2, nR2, T, tn, S.app O [.s T1, .s T2], S.pl on 1, S.flen O, lg, true), q3, ⟨q1, q2, hFR2, hnR2, g5, g6, e1.symm, e2, h4.trans (decide_eq_false h3).symm, (decide_eq_true (show 0 < r by omega)).symm⟩, rfl, ?_, ?_, by cbv⟩
                 · cbv; exact s_qA
                 · cbv; exact s_qA)
              | (rename_i r hr2 h3 h4
                 rw [g9] at h4
                 have := of_decide_eq_true h4
                 exfalso; omega)
              | (rename_i r hr2 h3
                 have h4 := h
                 rw [g9] at h4
                 have := of_decide_eq_true h4
                 exfalso; omega)
          · rw [if_pos h2] at hX
            repeat' (first | (refine s_ck hS ?_; try cbv) | (refine qai hS ?_ ?_ <;> intro h <;> (try cbv) <;> try exact s_ab h) | (refine rowB hS g3 hc rfl (by omega) ?_; cbv) | (refine qaa hS I.qac ?_; cbv) | (refine qbt hS 4 16 rfl (qap g3.symm g4) hbok hbl' (by decide) (by decide) rfl hN hE hR' hFR hnR ?_; cbv) | (refine qaa hS I.qaf ?_; cbv) | (refine qaa hS I.qan ?_; cbv) | (refine qdb hS (qap hFR.symm hnR) hRo (by omega) hT1 he1 hR1 hFR1 hnR1 ?_; cbv) | (refine qdb hS (qap hFR1.symm hnR1) hR1o (by omega) hT2 he2 hR2 hFR2 hnR2 ?_; cbv) | fail)
            all_goals exact errN e2 _ hX h2
        · rw [if_pos h1] at hX
          repeat' (first | (refine s_ck hS ?_; try cbv) | (refine qai hS ?_ ?_ <;> intro h <;> (try cbv) <;> try exact s_ab h) | (refine rowB hS g3 hc rfl (by omega) ?_; cbv) | (refine qaa hS I.qac ?_; cbv) | (refine qbt hS 4 16 rfl (qap g3.symm g4) hbok hbl' (by decide) (by decide) rfl hN hE hR' hFR hnR ?_; cbv) | (refine qaa hS I.qaf ?_; cbv) | (refine qaa hS I.qan ?_; cbv) | (refine qdb hS (qap hFR.symm hnR) hRo (by omega) hT1 he1 hR1 hFR1 hnR1 ?_; cbv) | fail)
          all_goals exact errN e1 _ hX h1
    · rw [if_pos hE0] at hX
      repeat' (first | (refine s_ck hS ?_; try cbv) | (refine qai hS ?_ ?_ <;> intro h <;> (try cbv) <;> try exact s_ab h) | (refine rowB hS g3 hc rfl (by omega) ?_; cbv) | (refine qaa hS I.qac ?_; cbv) | (refine qbt hS 4 16 rfl (qap g3.symm g4) hbok hbl' (by decide) (by decide) rfl hN hE hR' hFR hnR ?_; cbv) | (refine qaa hS I.qaf ?_; cbv) | fail)
      all_goals exact errN E _ hX hE0
  · have hbe : b' = [] := by
      apply List.eq_nil_of_length_eq_zero
      unfold ilen at g4; omega
    have hg := go_nil (most := most) (s := ⟨b', mx', l', out', sz'⟩) hbe
    rw [hg] at g1
    cases g1
    rw [if_neg (by simp)] at hx
    subst hx
    have hO : (O.drop ((Z.l 0).v.toNat * 2)).take (on.toNat * 2) = cellsF out' := by
      rw [show (Z.l 0).v.toNat * 2 = 0 from rfl, List.drop_zero, List.take_of_length_le, g7]
      unfold ilen at hOl; omega
    exact fun g => .tp (.cons (.ag (.cons (qzafj rfl rfl hO (qcu _) g8) (.cons (.sub (qqd g9) rfl) (.cons (.sub (qae rfl) rfl) (.cons (.sub (qap g5.symm g6) rfl) .nil))))) (.cons (.sub (qae rfl) rfl) .nil))
end Pa
end Cz
namespace Cz
open Go Go.RowKit Go.Proofs
namespace Pa
open Tb
section
variable {S : Sy} {bl : List Blk} {K : SV → List Blk → Prop} {b R : List Int} {e n sz c mx : Int} {F : List SV} {x : SV} {cs : List SV} {l : List Fd} {f1 f2 : List UInt8} {sd ad : Bool}
theorem qzaaf (hS : S0 Tryz.prog = S) (hc : TabC [] cs mx l) (hx : Sub x (.v false 1 (cellsB b) (.y (ilen b)))) (hb : Hu.BOk b) (hbl : ilen b ≤ 1000000) (hl : ilen l ≤ 100000000) (hc0 : b[(0 : Int).toNat]? = some c) (hw : nextW l b = ⟨(f1, f2), sd, ad, sz, R, e⟩) (hF : cellsB R = F) (hn : n = ilen R)
    (hK : K (.tp [.ag [.s f1, .s f2, .b sd, .b ad, .i .i64 (.y sz), .v false 1 F (.y n)], .i .i64 (.y e)]) bl) : S.call 71 [.ag cs, x] bl K := by
  refine qbv hS (next_f (mx := mx) hb hbl hl hc0 hw hF hn) ?_ rfl hK
  match hc.sub with
  | .cons h _ => exact .cons h (.cons hx .nil)
end
theorem next_sz {l : List Fd} {b : List Int} (hb : Hu.BOk b) : 0 ≤ (nextW l b).size := by
  unfold nextW
  split
  · exact Int.le_refl _
  · split
    · exact Int.le_refl _
    · split
      · exact qen (p := 32) hb (by decide)
      · exact Int.le_refl _
theorem unb_e {mx most : Int} {l : List Tb.Fd} {b : List Int} (hv : ¬(rightL mx l = true ∧ 0 ≤ most ∧ most ≤ 4096)) (hl : fullL l ≤ 10000000) :
    (S0 Tryz.prog).call 20 [tabV mx l, .i .i64 (.y most), .v false 1 (cellsB b) (.y (ilen b))] [] (Tell (unV (([], false, (0, [])), 2))) := by
  unfold tabV
  generalize hG : cellsF l = G
  obtain ⟨k, hk⟩ : ∃ k, k = ilen l := ⟨_, rfl⟩
  generalize hF : cellsB b = F
  obtain ⟨n, hn⟩ : ∃ k, k = ilen b := ⟨_, rfl⟩
  obtain ⟨ri, hri⟩ : ∃ r, rightL mx l = r := ⟨_, rfl⟩
  obtain ⟨x, hx⟩ : ∃ x, unV (([], false, (0, [])), 2) = x := ⟨_, rfl⟩
  rw [← hk, ← hn, hx]
  rw [hri] at hv
  generalize hS : S0 Tryz.prog = S
  refine qaa hS I.qlq ?_
  cbv
  refine right_g hS (.v (z := .y mx) (n := .y k) rfl hG hk) hri (by omega) ?_
  cbv
  cases ri <;> cbv
  all_goals
    repeat' (first | (refine qai hS ?_ ?_ <;> intro h <;> (try cbv) <;> try exact s_ab h) | (refine qek hS rfl ?_; cbv) | (refine qbn hS rfl I.qdc (by decide +kernel) ?_; cbv) | fail)
  all_goals first
    | (subst hx; exact unE_fz rfl)
    | (exfalso; exact hv ⟨rfl, by omega, by omega⟩)
theorem unb_k {mx most : Int} {l : List Tb.Fd} {b : List Int} {e : Int} {s : Un} (hr : goU most ⟨b, mx, l, [], 0⟩ = (e, s)) (hR : rightL mx l = true) (h0 : 0 ≤ most) (h1 : most ≤ 4096) (hb : Hu.BOk b) (hbl : ilen b ≤ 60000) :
    (S0 Tryz.prog).call 20 [tabV mx l, .i .i64 (.y most), .v false 1 (cellsB b) (.y (ilen b))] [] (Tell (if e ≠ 0 then unV (([], false, (0, [])), e) else unV ((s.out, decide (2000 < s.size), (s.mx, s.l)), 0))) := by
  have hl0 := qkv hR
  have hR' := of_decide_eq_true hR
  unfold tabV
  generalize hG : cellsF l = G
  obtain ⟨k, hk⟩ : ∃ k, k = ilen l := ⟨_, rfl⟩
  have h0n := qah b
  generalize hF : cellsB b = F
  obtain ⟨n, hn⟩ : ∃ k, k = ilen b := ⟨_, rfl⟩
  have hres : resR (mx, l) mx = ((mx, l), 0) := by unfold resR; rw [if_pos ⟨hR, hR'.1, hR'.2.1⟩]; dsimp only; rw [evL_all hR'.2.2]
  obtain ⟨x, hx⟩ : ∃ x, (if e ≠ 0 then unV (([], false, (0, [])), e) else unV ((s.out, decide (2000 < s.size), (s.mx, s.l)), 0)) = x := ⟨_, rfl⟩
  rw [← hk, ← hn, hx]
  generalize hS : S0 Tryz.prog = S
  refine qaa hS I.qlq ?_
  cbv
  refine right_g hS (.v (z := .y mx) (n := .y k) rfl hG hk) hR (by omega) ?_
  cbv
  repeat' (first | (refine qai hS ?_ ?_ <;> intro h <;> (try cbv) <;> try exact s_ab h) | (refine res_g hS (.v (z := .y mx) (n := .y k) rfl hG hk) hres hG hk (by omega) ?_; cbv) | (refine qaa hS I.qxd ?_; cbv) | (refine qiy hS I.qss ?_; cbv) | fail)
  refine qvr hS 2 0 2 (by decide) rfl rfl ?_
  cbv
  refine qav hS 11 I.qmb (fun x : Un × List SV × Int × List SV × Int × List SV × Int × Int × Bool × Int × Int =>
      goU most x.1 = (e, s) ∧ UnOk 17000000000000 x.1 ∧ cellsB x.1.b = x.2.1 ∧ x.2.2.1 = ilen x.1.b ∧ cellsF x.1.l = x.2.2.2.1 ∧ x.2.2.2.2.1 = ilen x.1.l ∧ cellsF x.1.out = x.2.2.2.2.2.1 ∧ x.2.2.2.2.2.2.1 = ilen x.1.out ∧ x.2.2.2.2.2.2.2.2.1 = decide (2000 < x.1.size) ∧ 0 ≤ x.2.2.2.2.2.2.2.2.2.2 ∧ (0 < x.2.2.2.2.2.2.2.2.2.2 ↔ 0 < x.1.size) ∧ x.2.2.2.2.2.2.2.2.2.2 + ilen x.1.b ≤ 60000) (fun _ => [])
    (fun x => [(2, .c [.sl 10 2 (.l 0) (.y x.2.2.2.2.2.2.1) none, .b x.2.2.2.2.2.2.2.2.1, .i .i64 (.y x.1.mx), .v false 2 x.2.2.2.1 (.y x.2.2.2.2.1)]), (3, .c [.i .i64 (.y x.2.2.2.2.2.2.2.2.2.1)]), (4, .c [.i .i64 (.y x.1.size)]), (5, .c [.i .i64 (.y x.2.2.2.2.2.2.2.2.2.2)]), (7, .c [.v false 1 x.2.1 (.y x.2.2.1)]), (10, .r false false (.y x.2.2.2.2.2.2.2.1) 2 x.2.2.2.2.2.1)])
    (fun x => x.1.b.length) (⟨b, mx, l, [], 0⟩, F, n, G, k, [], 0, 0, false, 2, 0) rfl
    ⟨⟨hr, ⟨hb, hbl, hR, Int.le_refl _, by dsimp only; omega, Int.le_refl _, (show (0 : Int) ≤ 2000 by decide)⟩, hF, hn, hG, hk, rfl, rfl, rfl, Int.le_refl _, Iff.rfl, by dsimp only; omega⟩, rfl, ?_, ?_, by cbv⟩ ?_
  · cbv; exact s_qA
  · cbv; exact s_qA
  intro x'
  obtain ⟨⟨b', mx', l', out', sz'⟩, B, bn, T, tn, O, on, st, lg, ev, fi⟩ := x'
  intro hx'
  dsimp only at hx'
  cbv
  obtain ⟨g1, ok, g3, g4, g5, g6, g7, g8, g9, g10, g11, g12⟩ := hx'
  have hbok : Hu.BOk b' := ok.b
  have hbl0 : ilen b' ≤ 60000 := ok.len
  have hbl' : ilen b' ≤ 1000000 := by omega
  have hR2 : rightL mx' l' = true := ok.right
  have hs0 : 0 ≤ sz' := ok.s0
  have hsz : sz' + 17000000 * ilen b' ≤ 17000000000000 := ok.size
  have hl2 := qkv hR2
  have hR3 := of_decide_eq_true hR2
  have ho1 : fullL out' ≤ sz' := ok.o1
  have ho2 : fullL out' ≤ 2000 := ok.o2
  have ho3 := qbz out'
  have hn0 := qah b'
  have hOl : ilen O = on * 2 := by rw [← g7, g8]; have := qfw out'; unfold ilen; omega
  have hon0 := qah out'
  refine qai hS ?_ ?_ <;> intro hz <;> cbv
  · have hne : b' ≠ [] := by intro h; rw [h] at g4; unfold ilen at g4; simp at g4; omega
    obtain ⟨c, hc⟩ := qei (l := b') (i := 0) (by omega) (Int.le_refl _)
    obtain ⟨⟨⟨f1, f2⟩, sd, ad, sz, R, ew⟩, hw⟩ : ∃ r, nextW l' b' = r := ⟨_, rfl⟩
    obtain ⟨hX, hY⟩ := next_nxt l' b'
    rw [hw] at hX hY
    dsimp only at hX hY
    obtain ⟨FR, hFR⟩ : ∃ r, cellsB R = r := ⟨_, rfl⟩
    obtain ⟨nR, hnR⟩ : ∃ r, r = ilen R := ⟨_, rfl⟩
    have errL : ∀ (e' : Int) (y : Nx) (ze : Z) (l'' : List Blk), nxtU l' b' = y → (stepU most ⟨b', mx', l', out', sz'⟩ y).1 = e' → e' ≠ 0 → ze.v = e' → ∀ g, Fz l'' g [] (.tp [.ag [.re (.slice none 0 0), .ff, .i .i64 (.l 0), .re (.slice none 0 0)], .i .i64 ze]) x := by
      intro e' y ze l'' hy he hn0 hz
      have := go_E (s := ⟨b', mx', l', out', sz'⟩) hy hne g1 (by rw [he]; exact hn0)
      rw [he] at this
      subst this hx
      rw [if_pos hn0]
      exact unE_fz hz
    by_cases he0 : ew = 0
    case neg =>
      have hst : (stepU most ⟨b', mx', l', out', sz'⟩ (nxtU l' b')).1 = ew := by rw [step_e (by rw [hX]; exact he0), hX]
      repeat' (first | (refine qai hS ?_ ?_ <;> intro h <;> (try cbv) <;> try exact s_ab h) | (refine qek hS rfl ?_; cbv) | (refine qkt hS rfl I.qbo (by decide +kernel) ?_; cbv; refine ⟨?_, ?_⟩ <;> cbv) | (refine qzaaf hS (.v (z := .y mx') (n := .y tn) rfl g5 g6) (qap (n := .y bn) g3.symm g4) hbok hbl' (by omega) hc hw hFR hnR ?_; cbv) | (refine qfp hS rfl rfl ?_; cbv) | (refine qbn hS rfl I.qdc (by decide +kernel) ?_; cbv) | fail)
      all_goals exact errL ew _ (.y ew) _ rfl hst he0 rfl
    replace hY := hY he0
    subst he0
    have hlt : ilen R < ilen b' := by have h := (qwh ok hY rfl).2; dsimp only at h; exact h
    have hR0 := qah R
    have hlt' : R.length < b'.length := by unfold ilen at hlt; omega
    cases sd with
    | true =>
      by_cases hs : 0 < sz' ∨ most < sz
      · have hst : (stepU most ⟨b', mx', l', out', sz'⟩ ⟨0, true, ad, sz, (f1, f2), R⟩).1 = 100 := by rw [qzaee rfl rfl, if_pos hs]
        by_cases hs1 : 0 < fi
        · repeat' (first | (refine qai hS ?_ ?_ <;> intro h <;> (try cbv) <;> try exact s_ab h) | (refine qek hS rfl ?_; cbv) | (refine qkt hS rfl I.qbo (by decide +kernel) ?_; cbv; refine ⟨?_, ?_⟩ <;> cbv) | (refine qzaaf hS (.v (z := .y mx') (n := .y tn) rfl g5 g6) (qap (n := .y bn) g3.symm g4) hbok hbl' (by omega) hc hw hFR hnR ?_; cbv) | (refine qfp hS rfl rfl ?_; cbv) | (refine qbn hS rfl I.qdc (by decide +kernel) ?_; cbv) | fail)
          all_goals first
            | (exfalso; omega)
            | exact errL 100 _ (.l 100) _ hY hst (by decide) rfl
        · repeat' (first | (refine qai hS ?_ ?_ <;> intro h <;> (try cbv) <;> try exact s_ab h) | (refine qek hS rfl ?_; cbv) | (refine qkt hS rfl I.qbo (by decide +kernel) ?_; cbv; refine ⟨?_, ?_⟩ <;> cbv) | (refine qzaaf hS (.v (z := .y mx') (n := .y tn) rfl g5 g6) (qap (n := .y bn) g3.symm g4) hbok hbl' (by omega) hc hw hFR hnR ?_; cbv) | (refine qfp hS rfl rfl ?_; cbv) | (refine qbn hS rfl I.qdc (by decide +kernel) ?_; cbv) | fail)
          all_goals first
            | (exfalso; omega)
            | exact errL 100 _ (.l 100) _ hY hst (by decide) rfl
      · have hst : stepU most ⟨b', mx', l', out', sz'⟩ ⟨0, true, ad, sz, (f1, f2), R⟩ = (0, ⟨R, sz, evL sz l', out', sz'⟩) := by rw [qzaee rfl rfl, if_neg hs]
        have hsz0 : 0 ≤ sz := by have h := next_sz (l := l') hbok; rw [hw] at h; exact h
        have q1 := go_S (s := ⟨b', mx', l', out', sz'⟩) hY hbok hne g1 hst
        have q2 := qzahe ok hY rfl h1 hsz0 (show sz ≤ most by omega)
        have hres2 : resR (mx', l') sz = ((sz, evL sz l'), 0) := by unfold resR; rw [if_pos ⟨hR2, hsz0, by omega⟩]
        obtain ⟨l2, hl2'⟩ : ∃ r, evL sz l' = r := ⟨_, rfl⟩
        rw [hl2'] at hres2 q1 q2
        obtain ⟨A2, hA2⟩ : ∃ r, cellsF l2 = r := ⟨_, rfl⟩
        obtain ⟨m2, hm2⟩ : ∃ r, r = ilen l2 := ⟨_, rfl⟩
        repeat' (first | (refine qai hS ?_ ?_ <;> intro h <;> (try cbv) <;> try exact s_ab h) | (refine qkt hS rfl I.qbo (by decide +kernel) ?_; cbv; refine ⟨?_, ?_⟩ <;> cbv) | (refine qzaaf hS (.v (z := .y mx') (n := .y tn) rfl g5 g6) (qap (n := .y bn) g3.symm g4) hbok hbl' (by omega) hc hw hFR hnR ?_; cbv) | (refine qfp hS rfl rfl ?_; cbv) | (refine res_g hS (.v (z := .y mx') (n := .y tn) rfl g5 g6) hres2 hA2 hm2 (by omega) ?_; cbv) | fail)
        all_goals
          refine ⟨(⟨R, sz, l2, out', sz'⟩, FR, nR, A2, m2, O, on, st, lg, 100, fi), hlt', ⟨q1, q2, hFR, hnR, hA2, hm2, g7, g8, g9, g10, g11, by dsimp only; omega⟩, rfl, ?_, ?_, by cbv⟩
          · cbv; exact s_qA
          · cbv; exact s_qA
    | false =>
      have telL : goU most (tellU ⟨b', mx', l', out', sz'⟩ ⟨0, false, ad, sz, (f1, f2), R⟩) = (e, s) ∧ UnOk 17000000000000 (tellU ⟨b', mx', l', out', sz'⟩ ⟨0, false, ad, sz, (f1, f2), R⟩) :=
        ⟨go_S (s := ⟨b', mx', l', out', sz'⟩) hY hbok hne g1 (step_f rfl rfl), qzahd ok hY rfl⟩
      unfold tellU at telL
      dsimp only at telL
      have hzb := nxt_len (l := l') hbok (by omega)
      rw [hY] at hzb
      dsimp only at hzb
      obtain ⟨z, hz'⟩ : ∃ z, z = szF (f1, f2) := ⟨_, rfl⟩
      have hzp := qfy (f1, f2)
      rw [← hz'] at hzb telL hzp
      have fin : ∀ (r : Int) (l2 : List Fd), (if ad = true then evL mx' ((f1, f2) :: l') else l') = l2 → r = sz' + z →
          (2000 < r → goU most ⟨R, mx', l2, out', r⟩ = (e, s) ∧ UnOk 17000000000000 ⟨R, mx', l2, out', r⟩) ∧ (¬2000 < r → goU most ⟨R, mx', l2, out' ++ [(f1, f2)], r⟩ = (e, s) ∧ UnOk 17000000000000 ⟨R, mx', l2, out' ++ [(f1, f2)], r⟩) := by
        intro r l2 h2 hr2
        rw [h2, ← hr2] at telL
        exact ⟨fun h3 => by rwa [if_pos h3] at telL, fun h3 => by rwa [if_neg h3] at telL⟩
      have e1 : S.app O [.s f1, .s f2] = cellsF (out' ++ [(f1, f2)]) := by rw [← g7, qyf hS]; simp [cellsF, fdE]
      have e2 : S.pl on 1 = ilen (out' ++ [(f1, f2)]) := by rw [qbh, g8]; subst hS; rfl
      have hlg : ∀ r, r = sz' + z → ¬2000 < r → lg = decide (2000 < r) := by
        intro r h1 h2
        rw [g9, decide_eq_false h2, decide_eq_false (by omega)]
      cases ad with
      | true =>
        have had : addR (mx', l') (f1, f2) = ((mx', evL mx' ((f1, f2) :: l')), 0) := by unfold addR; rw [if_pos hR2]
        obtain ⟨l2, hl2'⟩ : ∃ r, evL mx' ((f1, f2) :: l') = r := ⟨_, rfl⟩
        rw [hl2'] at had
        have fin := fun r => fin r l2 (by rw [if_pos rfl, hl2'])
        obtain ⟨A2, hA2⟩ : ∃ r, cellsF l2 = r := ⟨_, rfl⟩
        obtain ⟨m2, hm2⟩ : ∃ r, r = ilen l2 := ⟨_, rfl⟩
        repeat' (first | (refine s_ck hS ?_; try cbv) | (refine qai hS ?_ ?_ <;> intro h <;> (try cbv) <;> try exact s_ab h) | (refine s_ad hS ?_; intro _ _; try cbv) | (refine qkt hS rfl I.qbo (by decide +kernel) ?_; cbv; refine ⟨?_, ?_⟩ <;> cbv) | (refine qzaaf hS (.v (z := .y mx') (n := .y tn) rfl g5 g6) (qap (n := .y bn) g3.symm g4) hbok hbl' (by omega) hc hw hFR hnR ?_; cbv) | (refine qfp hS rfl rfl ?_; cbv) | (refine qbn hS rfl I.qhc (by decide +kernel) ?_; cbv) | (refine add_g hS (.v (z := .y mx') (n := .y tn) rfl g5 g6) had hA2 hm2 (by omega) (by omega) ?_; cbv) | (refine size_g hS hz' (by omega) ?_; cbv) | fail)
        all_goals
          rename_i fi2 hfi r hr2 h3
          first
            | (have h3 : 2000 < r := h3
               obtain ⟨q1, q2⟩ := (fin r hr2).1 h3
               refine ⟨(⟨R, mx', l2, out', r⟩, FR, nR, A2, m2, O, on, st, true, 0, fi2), hlt', ⟨q1, q2, hFR, hnR, hA2, hm2, g7, g8, (decide_eq_true h3).symm, by dsimp only; omega, ⟨fun _ => by dsimp only; omega, fun _ => by dsimp only; omega⟩, by dsimp only; omega⟩, rfl, ?_, ?_, by cbv⟩
               · cbv; exact s_qA
               · cbv; exact s_qA)
            | (have h3 : ¬2000 < r := h3
               obtain ⟨q1, q2⟩ := (fin r hr2).2 h3
               refine ⟨(⟨R, mx', l2, out' ++ [(f1, f2)], r⟩, FR, nR, A2, m2, S.app O [.s f1, .s f2], S.pl on 1, S.flen O, lg, 0, fi2), hlt', ⟨q1, q2, hFR, hnR, hA2, hm2, e1.symm, e2, hlg r hr2 h3, by dsimp only; omega, ⟨fun _ => by dsimp only; omega, fun _ => by dsimp only; omega⟩, by dsimp only; omega⟩, rfl, ?_, ?_, by cbv⟩
               · cbv; exact s_qA
               · cbv; exact s_qA)
      | false =>
        have fin := fun r => fin r l' (by rw [if_neg (by simp)])
        repeat' (first | (refine s_ck hS ?_; try cbv) | (refine qai hS ?_ ?_ <;> intro h <;> (try cbv) <;> try exact s_ab h) | (refine s_ad hS ?_; intro _ _; try cbv) | (refine qkt hS rfl I.qbo (by decide +kernel) ?_; cbv; refine ⟨?_, ?_⟩ <;> cbv) | (refine qzaaf hS (.v (z := .y mx') (n := .y tn) rfl g5 g6) (qap (n := .y bn) g3.symm g4) hbok hbl' (by omega) hc hw hFR hnR ?_; cbv) | (refine qfp hS rfl rfl ?_; cbv) | (refine qbn hS rfl I.qhc (by decide +kernel) ?_; cbv) | (refine size_g hS hz' (by omega) ?_; cbv) | fail)
        all_goals
          rename_i fi2 hfi r hr2 h3
          first
            | (have h3 : 2000 < r := h3
               obtain ⟨q1, q2⟩ := (fin r hr2).1 h3
               refine ⟨(⟨R, mx', l', out', r⟩, FR, nR, T, tn, O, on, st, true, 0, fi2), hlt', ⟨q1, q2, hFR, hnR, g5, g6, g7, g8, (decide_eq_true h3).symm, by dsimp only; omega, ⟨fun _ => by dsimp only; omega, fun _ => by dsimp only; omega⟩, by dsimp only; omega⟩, rfl, ?_, ?_, by cbv⟩
               · cbv; exact s_qA
               · cbv; exact s_qA)
            | (have h3 : ¬2000 < r := h3
               obtain ⟨q1, q2⟩ := (fin r hr2).2 h3
               refine ⟨(⟨R, mx', l', out' ++ [(f1, f2)], r⟩, FR, nR, T, tn, S.app O [.s f1, .s f2], S.pl on 1, S.flen O, lg, 0, fi2), hlt', ⟨q1, q2, hFR, hnR, g5, g6, e1.symm, e2, hlg r hr2 h3, by dsimp only; omega, ⟨fun _ => by dsimp only; omega, fun _ => by dsimp only; omega⟩, by dsimp only; omega⟩, rfl, ?_, ?_, by cbv⟩
               · cbv; exact s_qA
               · cbv; exact s_qA)
  · have hbe : b' = [] := by
      apply List.eq_nil_of_length_eq_zero
      unfold ilen at g4; omega
    have hg := go_nil (most := most) (s := ⟨b', mx', l', out', sz'⟩) hbe
    rw [hg] at g1
    cases g1
    rw [if_neg (by simp)] at hx
    subst hx
    have hO : (O.drop ((Z.l 0).v.toNat * 2)).take (on.toNat * 2) = cellsF out' := by
      rw [show (Z.l 0).v.toNat * 2 = 0 from rfl, List.drop_zero, List.take_of_length_le, g7]
      unfold ilen at hOl; omega
    skip
    exact fun g => .tp (.cons (.ag (.cons (qzafj rfl rfl hO (qcu _) g8) (.cons (.sub (qqd g9) rfl) (.cons (.sub (qae rfl) rfl) (.cons (.sub (qap g5.symm g6) rfl) .nil))))) (.cons (.sub (qae rfl) rfl) .nil))
end Pa
end Cz
namespace Cz
open Go Go.RowKit Go.Proofs
namespace Pa
open Tb
theorem named_z {w : Int} {b : List UInt8} : (S0 Tryz.prog).call 27 [.i .i64 (.y 0), .s b, .i .i64 (.y w)] [] (fun y _ => Sub y (.tp [.re (.slice none 0 0), .i .i64 (.y 2)])) := by
  generalize hS : S0 Tryz.prog = S
  refine qaa hS I.qgg ?_
  cbv
  refine of_u hS (w := w) rfl fun u k hu hk => ?_
  obtain ⟨u0, u1, k0, k1, hp⟩ := up_bd w
  rw [← hu] at u0 u1
  rw [← hk] at k0 k1 hp
  cbv
  refine qaa hS I.qcm ?_
  cbv
  repeat' (first | (refine qai hS ?_ ?_ <;> intro h <;> (try cbv) <;> try exact s_ab h) | (refine qbr hS ?_; try cbv) | (refine qwa hS 0 k u (powP w) rfl rfl rfl (by omega) (by omega) (by omega) (by omega) hp (by omega) (by omega) fun F2 n2 st hF2 hn2 => ?_; cbv) | fail)
  exact qar (.cons .rfl (.cons (qae rfl) .nil))
section
variable {S : Sy} {bl : List Blk} {K : SV → List Blk → Prop} {L : List Int} {F : List SV} {n i w : Int} {a b : List UInt8}
theorem named_g (hS : S0 Tryz.prog = S) {zi zw : Z} (hi : zi.v = i) (hw : zw.v = w) (h0 : 0 < i) (h1 : i < 2147483648) (hb : ilen b ≤ 1000000) (hF : cellsB (nmB i b w) = F) (hn : n = ilen (nmB i b w)) (hK : K (.tp [.v false 1 F (.y n), .i .i64 (.y 0)]) bl) :
    S.call 27 [.i .i64 zi, .s b, .i .i64 zw] bl K :=
  qbv hS (qzaad (named_o h0 h1 hb) hF hn) (.cons (qae hi) (.cons .rfl (.cons (qae hw) .nil))) rfl hK
theorem fld_g (hS : S0 Tryz.prog = S) {zw : Z} (hw : zw.v = w) (hab : ilen a + ilen b ≤ 60000) (hF : cellsB (fldB (a, b) w) = F) (hn : n = ilen (fldB (a, b) w)) (hK : K (.v false 1 F (.y n)) bl) : S.call 30 [.ag [.s a, .s b], .i .i64 zw] bl K :=
  qbv hS (own_t0 (fld_o hab) hF hn) (.cons .rfl (.cons (qae hw) .nil)) rfl hK
theorem idx_g (hS : S0 Tryz.prog = S) {zi : Z} (hi : zi.v = i) (h0 : 0 ≤ i) (h1 : i < 2147483648) (hF : cellsB (idxB i) = F) (hn : n = ilen (idxB i)) (hK : K (.tp [.v false 1 F (.y n), .i .i64 (.y 0)]) bl) : S.call 23 [.i .i64 zi] bl K :=
  qbv hS (qzaad (idx_o h0 h1) hF hn) (.cons (qae hi) .nil) rfl hK
end
end Pa
end Cz
namespace Cz
open Go Go.RowKit Go.Proofs
namespace Pa
open Tb
theorem strB_inj {a b : List Int} (ha : Hu.BOk a) (hb : Hu.BOk b) (h : strB a = strB b) : a = b := by rw [← byS_strB ha, ← byS_strB hb, h]
section
variable {S : Sy} {bl : List Blk} {K : SV → List Blk → Prop}
inductive ByC (bl : List Blk) : SV → List Int → Prop where
  | v {n : Z} {lit : Bool} {F : List SV} {b : List Int} (hF : cellsB b = F) (hn : n.v = ilen b) : ByC bl (.v lit 1 F n) b
  | nil : ByC bl (.re (.slice none 0 0)) []
  | row {n st : Z} {k : Nat} {lit : Bool} {cap : Option Z} {F : List SV} {b : List Int} (hB : lget bl k = .r false lit st 1 F) (hF : FSub F (cellsB b)) (hn : n.v = ilen b) : ByC bl (.sl k 1 (.l 0) n cap) b
theorem ByC.fz {x : SV} {b : List Int} (h : ByC bl x b) {g : Nat → Nat} : Fz bl g [] x (.v false 1 (cellsB b) (.y (ilen b))) := by
  cases h with
  | v hF hn => exact .sub (qap hF.symm hn) rfl
  | nil => exact .nil (by decide) rfl
  | @row n st k lit cap F b hB hF hn =>
    refine .row (qau hB (by simp)) rfl (.fsub ?_ (qab _)) (qab _) hn
    rw [show (Z.l 0).v.toNat * 1 = 0 from rfl, List.drop_zero, List.take_of_length_le]
    · exact hF
    · have h1 := hF.1
      have h2 := qat b
      unfold ilen at *
      omega
theorem ByC.two {x y : SV} {a b : List Int} (h : ByC bl x a) (h' : ByC bl y b) {g : Nat → Nat} : FzL bl g [] [x, y] [.v false 1 (cellsB a) (.y (ilen a)), .v false 1 (cellsB b) (.y (ilen b))] := .cons h.fz (.cons h'.fz .nil)
end
section
variable {S : Sy} {bl : List Blk} {K : SV → List Blk → Prop}
theorem use_frz_l (hS : S0 Tryz.prog = S) (fs : List Nat) {g : FuncId} {args args' : List SV} {y y' : SV} (hF : (S0 Tryz.prog).call g args' [] (Tell y)) (ha : FzL bl id (others fs (len bl)) args args') (hr : refsBL (fun _ => false) args' = true) (hy : Sub y y') (hK : K y' (frzL fs 0 bl)) : S.call g args bl K := by
  subst hS
  exact qaw (use_frz rfl fs (rows := []) (y := fun _ => y) (qaw hF fun x l' h => ⟨x, .rfl, [], trivial, fun m => h _⟩) ha hr trivial (K := fun x l' => x = y ∧ l' = frzL fs 0 bl) (fun _ => ⟨rfl, rfl⟩)) fun x l' h => ⟨y', h.1 ▸ hy, h.2 ▸ hK⟩
variable {mx n m : Int} {l l' q : List Tb.Fd} {a b : List UInt8} {L : List Int} {F R : List SV} {args : List SV}
end
theorem tab_fz {bl : List Blk} {g : Nat → Nat} {ks : List (Option Nat)} {z n : Z} {lit : Bool} {F : List SV} {mx : Int} {l : List Tb.Fd} (hz : z.v = mx) (hF : cellsF l = F) (hn : n.v = ilen l) : Fz bl g ks (.ag [.i .i64 z, .v lit 2 F n]) (tabV mx l) :=
  .ag (.cons (.sub (qae hz) rfl) (.cons (.sub (qap hF.symm hn) rfl) .nil))
theorem qvl {bl : List Blk} {g : Nat → Nat} {ks : List (Option Nat)} {z : Z} {mx : Int} (hz : z.v = mx) : Fz bl g ks (.ag [.i .i64 z, .re (.slice none 0 0)]) (tabV mx []) :=
  .ag (.cons (.sub (qae hz) rfl) (.cons (.sub (qnw (by decide) rfl rfl) rfl) .nil))
end Pa
end Cz
namespace Cz
open Go Go.RowKit Go.Proofs
namespace Pa
open Tb
theorem go_ok {B most : Int} (hm : most ≤ 4096) : ∀ (n : Nat) (s t : Un), s.b.length ≤ n → UnOk B s → goU most s = (0, t) → UnOk B t := by
  intro n
  induction n with
  | zero =>
    intro s t hn hb hg
    have hs : s.b = [] := List.length_eq_zero_iff.1 (by omega)
    rw [go_nil hs] at hg; cases hg; exact hb
  | succ n ih =>
    intro s t hn hb hg
    by_cases hs : s.b = []
    · rw [go_nil hs] at hg; cases hg; exact hb
    · by_cases h1 : (stepU most s (nxtU s.l s.b)).1 = 0
      · obtain ⟨u, hu⟩ : ∃ u, stepU most s (nxtU s.l s.b) = (0, u) := ⟨_, Prod.ext h1 rfl⟩
        obtain ⟨h2, h3⟩ := qvn h1
        obtain ⟨h4, h5⟩ := nxt_ok hb.b h2
        have hg' := go_S rfl hb.b hs hg hu
        rw [hu] at h3
        refine ih u t (by rw [show u.b = (nxtU s.l s.b).rest from h3]; unfold ilen at h5; omega) ?_ hg'
        by_cases hz : (nxtU s.l s.b).sized = true
        · rw [qzaee h2 hz] at hu
          by_cases h6 : 0 < s.size ∨ most < (nxtU s.l s.b).size
          · rw [if_pos h6] at hu; cases hu
          · rw [if_neg h6] at hu
            cases hu
            refine qzahe hb rfl h2 hm ?_ (by omega)
            have hp : ∀ p, 1 ≤ p → 0 ≤ preN s.b p := fun p h => qen hb.b h
            have hq : 1 ≤ powU (s.b.getD 0 0) := by unfold powU; split; decide; split; decide; split <;> decide
            have hL : ∀ a i r, (litU s.l a i r).size = 0 := by
              intro a i r; unfold litU; split
              · split
                · rfl
                · split <;> rfl
              · split
                · rfl
                · split <;> rfl
            unfold nxtU
            split
            · exact Int.le_refl _
            · unfold nxtC
              split
              · split <;> exact Int.le_refl _
              · split
                · rw [hL]; decide
                · split
                  · exact hp _ hq
                  · rw [hL]; decide
        · rw [step_f h2 (by simpa using hz)] at hu
          cases hu
          exact qzahd hb rfl h2
      · rw [go_err hs h1] at hg
        rw [hg] at h1; exact absurd rfl h1
end Pa
end Cz
namespace Cz
open Go Go.RowKit Go.Proofs
namespace Pa
open Tb
theorem ugreat_f {mx : Int} {l : List Fd} {t : Bool} (ht : decide (200 < ilen l ∨ 9000 < fullL l - 32 * ilen l) = t) (hs : shortL l) (hm1 : ilen l ≤ 140737488355328) : (S0 Tryz.prog).call 18 [tabV mx l] [] (fun y _ => Sub y (.b t)) := by
  unfold tabV
  generalize hF : cellsF l = F
  obtain ⟨m, hm⟩ : ∃ m, m = ilen l := ⟨_, rfl⟩
  have h0 := qah l
  rw [← hm] at ht h0 hm1 ⊢
  generalize hS : S0 Tryz.prog = S
  refine qaa hS I.qnp ?_
  cbv
  refine qav hS 1 I.qij (fun x : Int × Int => 0 ≤ x.1 ∧ x.1 ≤ m ∧ x.1 ≤ 201 ∧ x.2 = fullL (l.take x.1.toNat) - 32 * x.1) (fun x => [(3, .i .i64 (.y x.2)), (4, .i .i64 (.y x.1))]) (fun _ => []) (fun x => (m - x.1).toNat) (0, 0) rfl
    ⟨⟨Int.le_refl _, by omega, by omega, rfl⟩, rfl, ?_, ?_, by cbv⟩ ?_
  · cbv; all_goals exact s_sA
  · cbv; all_goals exact s_bA
  intro x
  obtain ⟨i, s⟩ := x
  intro hx
  dsimp only at hx
  cbv
  obtain ⟨k0, k1, k3, k2⟩ := hx
  have hs0 := qbz (l.take i.toNat)
  have hs1 := qmp (l := l.take i.toNat) fun f hf => hs f (List.mem_of_mem_take hf)
  have hs2 : ilen (l.take i.toNat) = i := by unfold ilen at hm ⊢; rw [List.length_take]; omega
  rw [hs2] at hs0 hs1
  refine qai hS ?_ ?_ <;> intro h <;> cbv
  · refine s_br hS ?_ ?_ <;> intro h' <;> cbv <;> simp only [← hS, Int.ofNat_eq_natCast, cq, Bool.not_eq_true', Bool.not_eq_false', decide_eq_true_eq, decide_eq_false_iff_not, beq_iff_eq, beq_eq_false_iff_ne, ne_eq] at h'
    · obtain ⟨⟨a, b⟩, hp⟩ := qei (l := l) (i := i) (by omega) k0
      have hsz := hs _ (List.mem_of_getElem? hp)
      dsimp only at hsz
      have hsn : szF (a, b) = ilen a + ilen b + 32 := rfl
      have ha := qah a
      have hb := qah b
      have hnx := qez hp k0
      refine qbn hS rfl I.qjb (by decide +kernel) ?_
      cbv
      repeat' (first | (refine s_st hS ?_; try cbv) | (refine qax hS ?_; intro _ _; try cbv) | (refine s_stl hS ?_; intro _ _; try cbv) | (refine rowF1 hS hF hp (by omega) ?_; cbv) | (refine rowF2 hS hF hp (by omega) ?_; cbv) | fail)
      rename_i s1 hs1' s2 hs2' i2 hi2
      refine ⟨(i2, s2), by dsimp only; omega, ⟨by dsimp only; omega, by dsimp only; omega, by dsimp only; omega, by dsimp only; rw [hi2, hnx]; omega⟩, rfl, ?_, ?_, by cbv⟩
      · cbv; all_goals exact s_sA
      · cbv; all_goals exact s_bA
    · have e : t = true := by rw [← ht]; exact decide_eq_true (.inl (by omega))
      repeat' (first | (refine qai hS ?_ ?_ <;> intro h <;> (try cbv) <;> try exact s_ab h) | fail)
      all_goals
        cbv
        all_goals exact s_sA
  · rw [qca (by omega)] at k2
    repeat' (first | (refine qai hS ?_ ?_ <;> intro h <;> (try cbv) <;> try exact s_ab h) | fail)
    · have e : t = true := by rw [← ht]; exact decide_eq_true (.inl (by omega))
      all_goals exact s_sA
    · refine qqd ?_
      rw [← ht, ← hS]
      simp only [cq]
      exact decide_eq_decide.2 ⟨fun h => .inr (by omega), fun h => by omega⟩
theorem ufields_f {l k : List Fd} {t : Bool} (ht : decide (l = k) = t) (h1 : ilen l ≤ 100000000) (h2 : ilen k ≤ 100000000) : (S0 Tryz.prog).call 50 [.v false 2 (cellsF l) (.y (ilen l)), .v false 2 (cellsF k) (.y (ilen k))] [] (fun y _ => Sub y (.b t)) := by
  generalize hF : cellsF l = F
  generalize hG : cellsF k = G
  obtain ⟨m, hm⟩ : ∃ m, m = ilen l := ⟨_, rfl⟩
  obtain ⟨n, hn⟩ : ∃ n, n = ilen k := ⟨_, rfl⟩
  have h3 := qah l
  have h4 := qah k
  rw [← hm] at h1 h3 ⊢
  rw [← hn] at h2 h4 ⊢
  generalize hS : S0 Tryz.prog = S
  refine qaa hS I.qlt ?_
  cbv
  refine qai hS ?_ ?_ <;> intro h <;> cbv
  · have e : t = false := by rw [← ht]; exact decide_eq_false (fun e => by subst e; omega)
    all_goals exact s_sA
  refine qav hS 0 I.qhq (fun x : Int => 0 ≤ x ∧ x ≤ m ∧ l.take x.toNat = k.take x.toNat) (fun x => [(5, .i .i64 (.y x))]) (fun _ => []) (fun x => (m - x).toNat) 0 rfl
    ⟨⟨Int.le_refl _, by omega, rfl⟩, rfl, ?_, ?_, by cbv⟩ ?_
  · cbv; all_goals exact s_sA
  · cbv; all_goals exact s_bA
  intro i hx
  cbv
  obtain ⟨k0, k1, k2⟩ := hx
  refine s_br hS ?_ ?_ <;> intro h' <;> cbv <;> simp only [← hS, Int.ofNat_eq_natCast, cq, Bool.not_eq_true', Bool.not_eq_false', decide_eq_true_eq, decide_eq_false_iff_not, beq_iff_eq, beq_eq_false_iff_ne, ne_eq] at h'
  · obtain ⟨⟨a, b⟩, hp⟩ := qei (l := l) (i := i) (by omega) k0
    obtain ⟨⟨c, d⟩, hq⟩ := qei (l := k) (i := i) (by omega) k0
    refine qbn hS rfl I.qib (by decide +kernel) ?_
    cbv
    repeat' (first | (refine s_st hS ?_; try cbv) | (refine qai hS ?_ ?_ <;> intro h <;> (try cbv) <;> try exact s_ab h) | (refine qax hS ?_; intro _ _; try cbv) | (refine rowF hS hF hp (by omega) ?_; cbv) | (refine rowF hS hG hq (by omega) ?_; cbv) | fail)
    · have he : (a, b) = (c, d) := by congr
      rename_i r hr
      refine ⟨r, by omega, ⟨by omega, by omega, ?_⟩, rfl, ?_, ?_, by cbv⟩
      · rw [hr]; exact qko k0 (he ▸ hp) hq k2
      · cbv; all_goals exact s_sA
      · cbv; all_goals exact s_bA
    all_goals
      have e : t = false := by rw [← ht]; exact decide_eq_false (qzago hp hq (by intro e; cases e; simp_all))
      all_goals exact s_sA
  · have e : t = true := by rw [← ht]; exact decide_eq_true (by rwa [qca (by omega), qca (by omega)] at k2)
    all_goals exact s_sA
theorem ufields_g {S : Sy} {bl : List Blk} {K : SV → List Blk → Prop} (hS : S0 Tryz.prog = S) {x y : SV} {l k : List Fd} {t : Bool} (ht : decide (l = k) = t) (hc : FzL bl id [] [x, y] [.v false 2 (cellsF l) (.y (ilen l)), .v false 2 (cellsF k) (.y (ilen k))]) (hl : ilen l ≤ 100000000) (hk : ilen k ≤ 100000000) (hK : K (.b t) bl) :
    S.call 50 [x, y] bl K := qcd hS (ufields_f ht hl hk) hc rfl rfl hK
theorem rusize_f {l : List Fd} {n : Int} (hn : n = fullL l) (h : n ≤ 1000000000000000000) : (S0 Tryz.prog).call 33 [.v false 2 (cellsF l) (.y (ilen l))] [] (fun y _ => Sub y (.i .i64 (.y n))) := by
  generalize hF : cellsF l = F
  obtain ⟨m, hm⟩ : ∃ m, m = ilen l := ⟨_, rfl⟩
  have hlen := qbz l
  have h0 := qah l
  rw [← hm]
  generalize hS : S0 Tryz.prog = S
  refine qaa hS I.qpf ?_
  cbv
  refine qav hS 0 I.qjm (fun x : Int × Int => 0 ≤ x.1 ∧ x.1 ≤ m ∧ x.2 = fullL (l.take x.1.toNat)) (fun x => [(3, .i .i64 (.y x.2)), (4, .i .i64 (.y x.1))]) (fun _ => []) (fun x => (m - x.1).toNat) (0, 0) rfl
    ⟨⟨Int.le_refl _, by omega, rfl⟩, rfl, ?_, ?_, by cbv⟩ ?_
  · cbv; all_goals exact s_sA
  · cbv; all_goals exact s_bA
  intro x
  obtain ⟨i, s⟩ := x
  intro hx
  dsimp only at hx
  cbv
  obtain ⟨k0, k1, k2⟩ := hx
  have hs0 := qfs (l.take i.toNat)
  have hs1 := qdg l i.toNat
  rw [← k2] at hs0 hs1
  refine qai hS ?_ ?_ <;> intro h <;> cbv
  · obtain ⟨⟨a, b⟩, hp⟩ := qei (l := l) (i := i) (by omega) k0
    have hsz := qxb hp
    have hsp := qfy (a, b)
    have hnx := qez hp k0
    rw [← k2] at hnx
    have hs2 := qdg l (i + 1).toNat
    repeat' (first | (refine s_st hS ?_; try cbv) | (refine qax hS ?_; intro _ _; try cbv) | (refine rowF hS hF hp (by omega) ?_; cbv) | (refine rsize_u hS (by omega) fun n1 hn1 => ?_; cbv) | fail)
    rename_i s2 hs2 i2 hi2
    refine ⟨(i2, s2), by dsimp only; omega, ⟨by dsimp only; omega, by dsimp only; omega, by dsimp only; rw [hs2, hi2, hnx]; omega⟩, rfl, ?_, ?_, by cbv⟩
    · cbv; all_goals exact s_sA
    · cbv; all_goals exact s_bA
  · refine qae ?_
    simp only [Z.v]; rw [hn, k2, qca (by omega)]
theorem usize_f {l : List Fd} {n : Int} (hn : n = fullL l) (h : n ≤ 1000000000000000000) : (S0 Tryz.prog).call 32 [.v false 2 (cellsF l) (.y (ilen l))] [] (fun y _ => Sub y (.i .i64 (.y n))) := by
  generalize hF : cellsF l = F
  obtain ⟨m, hm⟩ : ∃ m, m = ilen l := ⟨_, rfl⟩
  have hlen := qbz l
  have h0 := qah l
  rw [← hm]
  generalize hS : S0 Tryz.prog = S
  refine qaa hS I.qze ?_
  cbv
  refine qav hS 0 I.qrk (fun x : Int × Int => 0 ≤ x.1 ∧ x.1 ≤ m ∧ x.2 = fullL (l.take x.1.toNat)) (fun x => [(2, .i .i64 (.y x.2)), (7, .i .i64 (.y x.1))]) (fun _ => []) (fun x => (m - x.1).toNat) (0, 0) rfl
    ⟨⟨Int.le_refl _, by omega, rfl⟩, rfl, ?_, ?_, by cbv⟩ ?_
  · cbv; all_goals exact s_sA
  · cbv; all_goals exact s_bA
  intro x
  obtain ⟨i, s⟩ := x
  intro hx
  dsimp only at hx
  cbv
  obtain ⟨k0, k1, k2⟩ := hx
  have hs0 := qfs (l.take i.toNat)
  have hs1 := qdg l i.toNat
  rw [← k2] at hs0 hs1
  refine qai hS ?_ ?_ <;> intro h <;> cbv
  · obtain ⟨⟨a, b⟩, hp⟩ := qei (l := l) (i := i) (by omega) k0
    have hsz := qxb hp
    have hsp := qfy (a, b)
    have hnx := qez hp k0
    rw [← k2] at hnx
    have hs2 := qdg l (i + 1).toNat
    repeat' (first | (refine s_st hS ?_; try cbv) | (refine qax hS ?_; intro _ _; try cbv) | (refine rowF hS hF hp (by omega) ?_; cbv) | (refine size_u hS (by omega) fun n1 hn1 => ?_; cbv) | fail)
    rename_i s2 hs2 i2 hi2
    refine ⟨(i2, s2), by dsimp only; omega, ⟨by dsimp only; omega, by dsimp only; omega, by dsimp only; rw [hs2, hi2, hnx]; omega⟩, rfl, ?_, ?_, by cbv⟩
    · cbv; all_goals exact s_sA
    · cbv; all_goals exact s_bA
  · refine qae ?_
    simp only [Z.v]; rw [hn, k2, qca (by omega)]
section
variable {S : Sy} {bl : List Blk} {K : SV → List Blk → Prop} {cs : List SV} {mx : Int} {l : List Fd} {x : SV} {n : Int}
theorem ugreat_u (hS : S0 Tryz.prog = S) (hc : TabC bl cs mx l) (hs : shortL l) (hm : ilen l ≤ 140737488355328) (h1 : K .tt bl) (h2 : ilen l ≤ 200 → fullL l ≤ 9000 + 32 * ilen l → K .ff bl) : S.call 18 [.ag cs] bl K := by
  by_cases h : 200 < ilen l ∨ 9000 < fullL l - 32 * ilen l
  · exact qcd hS (qdm (ugreat_f (decide_eq_true h) hs hm)) hc.fz rfl rfl h1
  · exact qcd hS (qdm (ugreat_f (decide_eq_false h) hs hm)) hc.fz rfl rfl (h2 (by omega) (by omega))
theorem rusize_g (hS : S0 Tryz.prog = S) (hc : FzL bl id [] [x] [.v false 2 (cellsF l) (.y (ilen l))]) (hn : n = fullL l) (h : n ≤ 1000000000000000000) (hK : K (.i .i64 (.y n)) bl) : S.call 33 [x] bl K :=
  qcd hS (rusize_f hn h) hc rfl rfl hK
theorem usize_g (hS : S0 Tryz.prog = S) (hc : FzL bl id [] [x] [.v false 2 (cellsF l) (.y (ilen l))]) (hn : n = fullL l) (h : n ≤ 1000000000000000000) (hK : K (.i .i64 (.y n)) bl) : S.call 32 [x] bl K :=
  qcd hS (usize_f hn h) hc rfl rfl hK
end
theorem bsm_f {a b : List Int} {t : Bool} (ha : Hu.BOk a) (hb : Hu.BOk b) (ht : decide (a = b) = t) : (S0 Tryz.prog).call 29 [.v false 1 (cellsB a) (.y (ilen a)), .v false 1 (cellsB b) (.y (ilen b))] [] (fun x _ => Sub x (.b t)) := by
  generalize hF : cellsB a = F
  generalize hG : cellsB b = G
  obtain ⟨m, hm⟩ : ∃ m, m = ilen a := ⟨_, rfl⟩
  obtain ⟨n, hn⟩ : ∃ n, n = ilen b := ⟨_, rfl⟩
  rw [← hm, ← hn]
  obtain ⟨x, hx⟩ : ∃ x, strB a = x := ⟨_, rfl⟩
  obtain ⟨y, hy⟩ : ∃ x, strB b = x := ⟨_, rfl⟩
  generalize hS : S0 Tryz.prog = S
  refine qaa hS I.qpu ?_
  cbv
  repeat' (first | (refine s_bsx hS ha hF hm hx ?_; cbv) | (refine s_bsx hS hb hG hn hy ?_; cbv) | fail)
  refine qqd ?_
  subst hS
  show (x == y) = t
  rw [← ht, ← hx, ← hy]
  by_cases h : a = b
  · simp [h]
  · have : strB a ≠ strB b := fun e => h (strB_inj ha hb e)
    simp [h, this]
section
variable {S : Sy} {bl : List Blk} {K : SV → List Blk → Prop} {cs : List SV} {mx most n k m : Int} {l q l' : List Tb.Fd} {b : List Int} {x y : SV} {r : (List Tb.Fd × Bool × Tab) × Int} {F R : List SV}
theorem bsm_t (hS : S0 Tryz.prog = S) (hc : FzL bl id [] [x, y] [.v false 1 (cellsB b) (.y (ilen b)), .v false 1 (cellsB b) (.y (ilen b))]) (ha : Hu.BOk b) (hK : K .tt bl) : S.call 29 [x, y] bl K :=
  qcd hS (qdm (bsm_f ha ha (decide_eq_true rfl))) hc rfl rfl hK
theorem unb_f (hr : blkU (mx, l) most b = r) (hb : Hu.BOk b) (hbl : ilen b ≤ 60000) (hl : fullL l ≤ 10000000) :
    (S0 Tryz.prog).call 20 [tabV mx l, .i .i64 (.y most), .v false 1 (cellsB b) (.y (ilen b))] [] (Tell (unV r)) := by
  subst hr
  rw [blk_go]
  split
  · rename_i h
    have h' : rightL mx l = true ∧ 0 ≤ most ∧ most ≤ 4096 := h
    have := unb_k (e := (goU most ⟨b, mx, l, [], 0⟩).1) (s := (goU most ⟨b, mx, l, [], 0⟩).2) rfl h'.1 h'.2.1 h'.2.2 hb hbl
    dsimp only
    split
    · rename_i h2; rw [if_pos h2] at this; exact this
    · rename_i h2; rw [if_neg h2] at this; exact this
  · rename_i h
    exact unb_e h hl
theorem unb_g {t : Bool} {e mx' : Int} {o : List Tb.Fd} (hS : S0 Tryz.prog = S) {zm : Z} (hr : blkU (mx, l) most b = ((o, t, (mx', l')), e)) (hc : TabC [] cs mx l) (hm : zm.v = most) (hx : Sub x (.v false 1 (cellsB b) (.y (ilen b)))) (hb : Hu.BOk b) (hbl : ilen b ≤ 60000) (hl : fullL l ≤ 10000000)
    (hF : cellsF o = F) (hn : n = ilen o) (hRr : cellsF l' = R) (hk : k = ilen l') (hK : K (.tp [.ag [.v false 2 F (.y n), .b t, .i .i64 (.y mx'), .v false 2 R (.y k)], .i .i64 (.y e)]) bl) :
    S.call 20 [.ag cs, .i .i64 zm, x] bl K := by
  subst hF hn hRr hk
  refine qbv hS (unb_f hr hb hbl hl) ?_ rfl hK
  match hc.sub with
  | .cons h _ => exact .cons h (.cons (qae hm) (.cons hx .nil))
theorem unb_l (hS : S0 Tryz.prog = S) (fs : List Nat) {args : List SV} {t : Bool} {e mx' : Int} {o : List Tb.Fd} (ha : FzL bl id (others fs (len bl)) args [tabV mx l, .i .i64 (.y most), .v false 1 (cellsB b) (.y (ilen b))]) (hr : blkU (mx, l) most b = ((o, t, (mx', l')), e)) (hb : Hu.BOk b) (hbl : ilen b ≤ 60000) (hl : fullL l ≤ 10000000)
    (hF : cellsF o = F) (hn : ilen o = n) (hRr : cellsF l' = R) (hk : ilen l' = k) {tv : SV} (ht : Sub (.b t) tv) (hK : K (.tp [.ag [.v true 2 F (.l n), tv, .i .i64 (.l mx'), .v true 2 R (.l k)], .i .i64 (.l e)]) (frzL fs 0 bl)) : S.call 20 args bl K :=
  use_frz_l hS fs (unb_f hr hb hbl hl) ha rfl (y' := .tp [.ag [.v true 2 F (.l n), tv, .i .i64 (.l mx'), .v true 2 R (.l k)], .i .i64 (.l e)]) (qar (.cons (qco (.cons (qap hF hn) (.cons ht (.cons (qae rfl) (.cons (qap hRr hk) .nil))))) (.cons (qae rfl) .nil))) hK
end
end Pa
end Cz
namespace Cz
open Go Go.RowKit Go.Proofs
namespace Pa
open Tb
def upV (o : List Fd) (lg : Bool) (mx : Int) (l : List Fd) : SV := .ag [.v false 2 (cellsF o) (.y (ilen o)), .b lg, .i .i64 (.y mx), .v false 2 (cellsF l) (.y (ilen l))]
theorem usame_f {o o' l l' : List Fd} {lg lg' t : Bool} {mx mx' : Int} (ht : decide (lg = lg' ∧ o = o' ∧ mx = mx' ∧ l = l') = t) (h1 : ilen o ≤ 100000000) (h2 : ilen o' ≤ 100000000) (h3 : ilen l ≤ 100000000) (h4 : ilen l' ≤ 100000000) :
    (S0 Tryz.prog).call 34 [upV o lg mx l, upV o' lg' mx' l'] [] (fun y _ => Sub y (.b t)) := by
  unfold upV
  generalize hF : cellsF o = F
  generalize hF' : cellsF o' = F'
  generalize hG : cellsF l = G
  generalize hG' : cellsF l' = G'
  obtain ⟨m, hm⟩ : ∃ m, m = ilen o := ⟨_, rfl⟩
  obtain ⟨m', hm'⟩ : ∃ m, m = ilen o' := ⟨_, rfl⟩
  obtain ⟨n, hn⟩ : ∃ m, m = ilen l := ⟨_, rfl⟩
  obtain ⟨n', hn'⟩ : ∃ m, m = ilen l' := ⟨_, rfl⟩
  rw [← hm, ← hm', ← hn, ← hn']
  generalize hS : S0 Tryz.prog = S
  refine qaa hS I.qzf ?_
  cbv
  cases lg <;> cases lg' <;> cbv
  all_goals
    repeat' (first | (refine s_eqs hS rfl ?_; try cbv) | (refine qai hS ?_ ?_ <;> intro h <;> (try cbv) <;> try exact s_ab h) | (refine equal_u hS (l := o) (k := o') (.cons (.sub (qap hF.symm hm) rfl) (.cons (.sub (qap hF'.symm hm') rfl) .nil)) h1 h2 (fun ho => ?_) (fun ho => ?_) <;> cbv) | (refine Tb.same_u hS (.v (z := .y mx) (n := .y n) rfl hG hn) (.v (z := .y mx') (n := .y n') rfl hG' hn') h3 h4 (fun hq hr => ?_) (fun hq => ?_) <;> cbv) | (refine s_eqo hS ?_; try cbv) | fail)
  all_goals try (refine Tb.same_u hS (mx := mx) (my := mx') (l := l) (k := l') (.v (z := .y mx) (n := .y n) rfl hG hn) (.v (z := .y mx') (n := .y n') rfl hG' hn') h3 h4 (fun hq hr => ?_) (fun hq => ?_) <;> cbv)
  all_goals first
    | (refine qkp ?_; rw [← ht]; exact decide_eq_true ⟨rfl, by assumption, by assumption, by assumption⟩)
    | (refine qcg ?_; rw [← ht]; refine decide_eq_false ?_; rintro ⟨q1, q2, q3, q4⟩; first | (cases q1; done) | (exact absurd q2 (by assumption)) | (exact (by assumption : ¬(_ ∧ _)) ⟨q3, q4⟩))
section
variable {S : Sy} {bl : List Blk} {K : SV → List Blk → Prop}
theorem qzagg (hS : S0 Tryz.prog = S) {x y : SV} {o o' l l' : List Fd} {lg lg' t : Bool} {mx mx' : Int} (ht : decide (lg = lg' ∧ o = o' ∧ mx = mx' ∧ l = l') = t) (hc : FzL bl id [] [x, y] [upV o lg mx l, upV o' lg' mx' l']) (h1 : ilen o ≤ 100000000) (h2 : ilen o' ≤ 100000000) (h3 : ilen l ≤ 100000000) (h4 : ilen l' ≤ 100000000)
    (hK : K (.b t) bl) : S.call 34 [x, y] bl K :=
  qcd hS (usame_f ht h1 h2 h3 h4) hc rfl rfl hK
end
theorem qln {bl : List Blk} {g : Nat → Nat} {ks : List (Option Nat)} {k : Nat} {lit : Bool} {st n : Z} {cap : Option Z} {F : List SV} {b : List Int} (hB : lget bl k = .r false lit st 1 F) (hk : kpOf ks k = none) (hF : FSub F (cellsB b)) (hn : n.v = ilen b) : Fz bl g ks (.sl k 1 (.l 0) n cap) (.v false 1 (cellsB b) (.y (ilen b))) := by
  refine .row (qau hB (by simp)) hk (.fsub ?_ (qab _)) (qab _) hn
  rw [show (Z.l 0).v.toNat * 1 = 0 from rfl, List.drop_zero, List.take_of_length_le]
  · exact hF
  · have h1 := hF.1
    have h2 := qat b
    unfold ilen at *
    omega
abbrev fpost : Fd := ([58, 109, 101, 116, 104, 111, 100], [80, 79, 83, 84])
theorem uwakes_f : (S0 Tryz.prog).call 19 [] [] (fun y _ => Sub y .tt) := by
  generalize hS : S0 Tryz.prog = S
  refine qaa hS I.qnu ?_
  cbv
  refine unb_l hS [1] (mx := 100) (l := []) (most := 100) (b := [130]) (o := [fpost]) (t := false) (e := 0) (mx' := 100) (l' := []) (.cons (qvl rfl) (.cons (.sub (qae rfl) rfl) (.cons (qln rfl rfl (SubL.fsub (by repeat' (first | exact SubL.nil | refine SubL.cons (qae rfl) ?_))) rfl) .nil))) (by kernel_rfl) (by intro v hv; simp at hv; omega) (by decide +kernel) (by decide +kernel) rfl rfl rfl rfl (tv := .ff) (qea rfl) ?_
  cbv
  refine unb_l hS [3] (mx := 100) (l := []) (most := 100) (b := [64, 1, 97, 1, 49]) (o := [fa]) (t := false) (e := 0) (mx' := 100) (l' := [fa]) (.cons (qvl rfl) (.cons (.sub (qae rfl) rfl) (.cons (qln rfl rfl (SubL.fsub (by repeat' (first | exact SubL.nil | refine SubL.cons (qae rfl) ?_))) rfl) .nil))) (by kernel_rfl) (by intro v hv; simp at hv; omega) (by decide +kernel) (by decide +kernel) rfl rfl rfl rfl (tv := .ff) (qea rfl) ?_
  cbv
  refine unb_l hS [5] (mx := 100) (l := []) (most := 100) (b := [128]) (o := []) (t := false) (e := 90) (mx' := 0) (l' := []) (.cons (qvl rfl) (.cons (.sub (qae rfl) rfl) (.cons (qln rfl rfl (SubL.fsub (by repeat' (first | exact SubL.nil | refine SubL.cons (qae rfl) ?_))) rfl) .nil))) (by kernel_rfl) (by intro v hv; simp at hv; omega) (by decide +kernel) (by decide +kernel) rfl rfl rfl rfl (tv := .ff) (qea rfl) ?_
  cbv
  refine unb_l hS [7] (mx := 100) (l := []) (most := 100) (b := [130, 32]) (o := []) (t := false) (e := 100) (mx' := 0) (l' := []) (.cons (qvl rfl) (.cons (.sub (qae rfl) rfl) (.cons (qln rfl rfl (SubL.fsub (by repeat' (first | exact SubL.nil | refine SubL.cons (qae rfl) ?_))) rfl) .nil))) (by kernel_rfl) (by intro v hv; simp at hv; omega) (by decide +kernel) (by decide +kernel) rfl rfl rfl rfl (tv := .ff) (qea rfl) ?_
  cbv
  refine unb_l hS [9] (mx := 100) (l := [fa]) (most := 100) (b := [32]) (o := []) (t := false) (e := 0) (mx' := 0) (l' := []) (.cons (tab_fz rfl rfl rfl) (.cons (.sub (qae rfl) rfl) (.cons (qln rfl rfl (SubL.fsub (by repeat' (first | exact SubL.nil | refine SubL.cons (qae rfl) ?_))) rfl) .nil))) (by kernel_rfl) (by intro v hv; simp at hv; omega) (by decide +kernel) (by decide +kernel) rfl rfl rfl rfl (tv := .ff) (qea rfl) ?_
  cbv
  refine unb_l hS [11] (mx := 100) (l := []) (most := 100) (b := [63, 70]) (o := []) (t := false) (e := 100) (mx' := 0) (l' := []) (.cons (qvl rfl) (.cons (.sub (qae rfl) rfl) (.cons (qln rfl rfl (SubL.fsub (by repeat' (first | exact SubL.nil | refine SubL.cons (qae rfl) ?_))) rfl) .nil))) (by kernel_rfl) (by intro v hv; simp at hv; omega) (by decide +kernel) (by decide +kernel) rfl rfl rfl rfl (tv := .ff) (qea rfl) ?_
  cbv
  refine idx_g hS (i := 2) (F := cellsB [130]) (n := 1) rfl (by decide) (by decide) (by kernel_rfl) (by kernel_rfl) ?_
  cbv
  refine named_g hS (i := 21) (w := 2) (b := [50]) (F := cellsB [31, 6, 1, 50]) (n := 4) rfl rfl (by decide) (by decide) (by decide) (by kernel_rfl) (by kernel_rfl) ?_
  cbv
  repeat' (first | (refine s_eqs hS rfl ?_; try cbv) | (refine qai hS ?_ ?_ <;> intro h <;> (try cbv) <;> try exact s_ab h) | (refine qbn hS rfl I.qje (by decide +kernel) ?_; cbv) | fail)
  refine bsm_t hS (b := [130]) (.cons (.sub (qap rfl rfl) rfl) (.cons (qln rfl rfl (SubL.fsub (by repeat' (first | exact SubL.nil | refine SubL.cons (qae rfl) ?_))) rfl) .nil)) (by intro v hv; simp at hv; omega) ?_
  cbv
  repeat' (first | (refine qai hS ?_ ?_ <;> intro h <;> (try cbv) <;> try exact s_ab h) | fail)
  refine bsm_t hS (b := [31, 6, 1, 50]) (.cons (.sub (qap rfl rfl) rfl) (.cons (qln rfl rfl (SubL.fsub (by repeat' (first | exact SubL.nil | refine SubL.cons (qae rfl) ?_))) rfl) .nil)) (by intro v hv; simp at hv; omega) ?_
  cbv
  skip
  refine usize_g hS (l := [fa]) (n := 34) (.cons (.sub (qap rfl rfl) rfl) .nil) (by kernel_rfl) (by decide) ?_
  cbv
  repeat' (first | (refine qai hS ?_ ?_ <;> intro h <;> (try cbv) <;> try exact s_ab h) | fail)
  refine qzagg hS (o := [fpost]) (o' := [fpost]) (l := []) (l' := []) (lg := false) (lg' := false) (mx := 100) (mx' := 100) (t := true) (decide_eq_true ⟨rfl, rfl, rfl, rfl⟩) (.cons (.sub (qco (.cons (qap rfl rfl) (.cons (qcg rfl) (.cons (qae rfl) (.cons (qap rfl rfl) .nil))))) rfl) (.cons (.sub (qco (.cons (qap rfl rfl) (.cons (qcg rfl) (.cons (qae rfl) (.cons (qap rfl rfl) .nil))))) rfl) .nil)) (by decide) (by decide) (by decide) (by decide) ?_
  cbv
  repeat' (first | (refine qai hS ?_ ?_ <;> intro h <;> (try cbv) <;> try exact s_ab h) | fail)
  refine qzagg hS (o := [fpost]) (o' := [fa]) (l := []) (l' := [fa]) (lg := false) (lg' := false) (mx := 100) (mx' := 100) (t := false) (decide_eq_false (by rintro ⟨_, h, _⟩; exact absurd h (by decide))) (.cons (.sub (qco (.cons (qap rfl rfl) (.cons (qcg rfl) (.cons (qae rfl) (.cons (qap rfl rfl) .nil))))) rfl) (.cons (.sub (qco (.cons (qap rfl rfl) (.cons (qcg rfl) (.cons (qae rfl) (.cons (qap rfl rfl) .nil))))) rfl) .nil)) (by decide) (by decide) (by decide) (by decide) ?_
  cbv
  skip
  exact qes (by subst hS; rfl)
theorem qzaba {S : Sy} {bl : List Blk} {K : SV → List Blk → Prop} (hS : S0 Tryz.prog = S) (hK : K .tt bl) : S.call 19 [] bl K := qbf hS uwakes_f .rfl rfl rfl hK
end Pa
end Cz
namespace Cz
open Go Go.RowKit Go.Proofs
namespace Pa
theorem rbest_t {x : List UInt8} (hx : ilen x ≤ 5000) : (S0 Tryz.prog).call 56 [.s x] [] (Tell (.v false 1 (cellsB (bestT (byS x))) (.y (ilen (bestT (byS x)))))) := tell_own (rtbest_f hx) (qab _) (qby _)
section
variable {S : Sy} {bl : List Blk} {K : SV → List Blk → Prop}
theorem qzagz (hS : S0 Tryz.prog = S) {x : List UInt8} {F : List SV} {n : Int} (hx : ilen x ≤ 5000) (hF : cellsB (bestT (byS x)) = F) (hn : n = ilen (bestT (byS x))) (hK : K (.v false 1 F (.y n)) bl) : S.call 56 [.s x] bl K := by
  subst hF hn
  exact qbv hS (rbest_t hx) (.cons .rfl .nil) rfl hK
end
theorem zidx_o {i : Int} (h0 : 0 ≤ i) (h1 : i < 2147483648) : (S0 Tryz.prog).call 24 [.i .i64 (.y i)] [] (OwnB (C1 0) (idxB i)) := by
  obtain ⟨L, hL⟩ : ∃ L, idxB i = L := ⟨_, rfl⟩
  rw [hL]
  generalize hS : S0 Tryz.prog = S
  refine qaa hS I.qel ?_
  cbv
  repeat' (first | (refine qod hS i 7 128 128 rfl rfl rfl h0 h1 (by decide) (by decide) rfl (by decide) (by decide) fun F2 n2 st hF2 hn2 => ?_; cbv) | fail)
  exact qgb (z := .y n2) .rfl rfl (hL ▸ hF2.symm) (hL ▸ hn2)
theorem zsiz_o {i : Int} (h0 : 0 ≤ i) (h1 : i < 2147483648) : (S0 Tryz.prog).call 26 [.i .i64 (.y i)] [] (OwnB (C1 0) (sizB i)) := by
  obtain ⟨L, hL⟩ : ∃ L, sizB i = L := ⟨_, rfl⟩
  rw [hL]
  generalize hS : S0 Tryz.prog = S
  refine qaa hS I.qfm ?_
  cbv
  repeat' (first | (refine qod hS i 5 32 32 rfl rfl rfl h0 h1 (by decide) (by decide) rfl (by decide) (by decide) fun F2 n2 st hF2 hn2 => ?_; cbv) | fail)
  exact qgb (z := .y n2) .rfl rfl (hL ▸ hF2.symm) (hL ▸ hn2)
theorem qzaho {i w : Int} (h0 : 0 ≤ i) (h1 : i < 2147483648) : (S0 Tryz.prog).call 55 [.i .i64 (.y i), .i .i64 (.y w)] [] (OwnB (C1 0) (putI i (powP w) (upP w))) := by
  obtain ⟨L, hL⟩ : ∃ L, putI i (powP w) (upP w) = L := ⟨_, rfl⟩
  rw [hL]
  have hw : (w = 1 ∧ powP w = 64 ∧ upP w = 64) ∨ (w = 2 ∧ powP w = 16 ∧ upP w = 16) ∨ (w ≠ 1 ∧ w ≠ 2 ∧ powP w = 16 ∧ upP w = 0) := by
    unfold powP upP
    by_cases a1 : w = 1
    · exact .inl ⟨a1, by simp [a1], by simp [a1]⟩
    by_cases a2 : w = 2
    · exact .inr (.inl ⟨a2, by simp [a1], by simp [a1, a2]⟩)
    exact .inr (.inr ⟨a1, a2, by simp [a1], by simp [a1, a2]⟩)
  generalize hS : S0 Tryz.prog = S
  rcases hw with ⟨e0, e1, e2⟩ | ⟨e0, e1, e2⟩ | ⟨e0, e3, e1, e2⟩
  · rw [e1, e2] at hL
    refine qaa hS I.qcq ?_
    cbv
    repeat' (first | (refine qai hS ?_ ?_ <;> intro h <;> (try cbv) <;> try exact s_ab h) | (refine qod hS i 6 64 64 rfl rfl rfl h0 h1 (by decide) (by decide) rfl (by decide) (by decide) fun F2 n2 st hF2 hn2 => ?_; cbv) | fail)
    exact qgb (z := .y n2) .rfl rfl (hL ▸ hF2.symm) (hL ▸ hn2)
  · rw [e1, e2] at hL
    refine qaa hS I.qcq ?_
    cbv
    repeat' (first | (refine qai hS ?_ ?_ <;> intro h <;> (try cbv) <;> try exact s_ab h) | (refine qod hS i 4 16 16 rfl rfl rfl h0 h1 (by decide) (by decide) rfl (by decide) (by decide) fun F2 n2 st hF2 hn2 => ?_; cbv) | fail)
    exact qgb (z := .y n2) .rfl rfl (hL ▸ hF2.symm) (hL ▸ hn2)
  · rw [e1, e2] at hL
    refine qaa hS I.qcq ?_
    cbv
    repeat' (first | (refine qai hS ?_ ?_ <;> intro h <;> (try cbv) <;> try exact s_ab h) | (refine qod hS i 4 0 16 rfl rfl rfl h0 h1 (by decide) (by decide) rfl (by decide) (by decide) fun F2 n2 st hF2 hn2 => ?_; cbv) | fail)
    exact qgb (z := .y n2) .rfl rfl (hL ▸ hF2.symm) (hL ▸ hn2)
theorem znm_o {i w : Int} {b : List UInt8} (h0 : 0 < i) (h1 : i < 2147483648) (hb : ilen b ≤ 5000) :
    (S0 Tryz.prog).call 28 [.i .i64 (.y i), .s b, .i .i64 (.y w)] [] (OwnB (C1 0) (nmB i b w)) := by
  obtain ⟨L, hL⟩ : ∃ L, nmB i b w = L := ⟨_, rfl⟩
  rw [hL]
  obtain ⟨B, hB⟩ : ∃ B, cellsB (bestT (byS b)) = B := ⟨_, rfl⟩
  obtain ⟨m, hm⟩ : ∃ m, m = ilen (bestT (byS b)) := ⟨_, rfl⟩
  have hm1 := qna (byS b)
  rw [← hm, qds] at hm1
  obtain ⟨A, hA⟩ : ∃ B, cellsB (putI i (powP w) (upP w)) = B := ⟨_, rfl⟩
  obtain ⟨k, hk⟩ : ∃ m, m = ilen (putI i (powP w) (upP w)) := ⟨_, rfl⟩
  have hkl := qet i (powP w) (upP w)
  rw [← hk] at hkl
  have hfl : ilen A = k := by rw [← hA, qat, hk]
  generalize hS : S0 Tryz.prog = S
  refine qaa hS I.qdo ?_
  cbv
  repeat' (first | (refine s_ck hS ?_; try cbv) | (refine qai hS ?_ ?_ <;> intro h <;> (try cbv) <;> try exact s_ab h) | (refine own_u1 hS (qzaho (i := i) (w := w) (by omega) h1) (.cons (qae rfl) (.cons (qae rfl) .nil)) rfl hA hk ?_; cbv) | (refine qzagz hS hb hB hm ?_; cbv) | fail)
  have e1 : S.app A B = cellsB L := by rw [← hL]; unfold nmB; exact qdj hS hA.symm hB.symm
  have e2 : S.pl k m = ilen L := by rw [← hL]; unfold nmB; rw [qbh, ← hk, ← hm]; subst hS; rfl
  exact qgb (z := .y (S.pl k m)) (qar (.cons .rfl (.cons (qae rfl) .nil))) rfl e1 e2
theorem zfl_o {w : Int} {a b : List UInt8} (ha : ilen a ≤ 5000) (hb : ilen b ≤ 5000) :
    (S0 Tryz.prog).call 31 [.ag [.s a, .s b], .i .i64 (.y w)] [] (OwnB C0 (fldB (a, b) w)) := by
  obtain ⟨L, hL⟩ : ∃ L, fldB (a, b) w = L := ⟨_, rfl⟩
  rw [hL]
  obtain ⟨B, hB⟩ : ∃ B, cellsB (bestT (byS b)) = B := ⟨_, rfl⟩
  obtain ⟨m, hm⟩ : ∃ m, m = ilen (bestT (byS b)) := ⟨_, rfl⟩
  have hm1 := qna (byS b)
  rw [← hm, qds] at hm1
  obtain ⟨D, hD⟩ : ∃ B, cellsB (bestT (byS a)) = B := ⟨_, rfl⟩
  obtain ⟨q, hq⟩ : ∃ m, m = ilen (bestT (byS a)) := ⟨_, rfl⟩
  have hq1 := qna (byS a)
  rw [← hq, qds] at hq1
  obtain ⟨A, hA⟩ : ∃ B, cellsB (putI 0 (powP w) (upP w)) = B := ⟨_, rfl⟩
  obtain ⟨k, hk⟩ : ∃ m, m = ilen (putI 0 (powP w) (upP w)) := ⟨_, rfl⟩
  have hkl := qet 0 (powP w) (upP w)
  rw [← hk] at hkl
  have hfl : ilen A = k := by rw [← hA, qat, hk]
  have hdl : ilen D = q := by rw [← hD, qat, hq]
  generalize hS : S0 Tryz.prog = S
  have hal : ilen (S.app A D) = S.pl k q := by rw [qdj hS hA.symm hD.symm, qat, qbh, ← hk, ← hq]; subst hS; rfl
  have c1 : S.sc (S.pl k q) 1 = S.flen (S.app A D) := by subst hS; show (S0 _).pl k q * 1 = ilen _; rw [hal]; omega
  refine qaa hS I.qnq ?_
  cbv
  repeat' (first | (refine s_ck hS ?_; try cbv) | (refine own_u1 hS (qzaho (i := 0) (w := w) (by omega) (by omega)) (.cons (qae rfl) (.cons (qae rfl) .nil)) rfl hA hk ?_; cbv) | (refine qzagz hS ha hD hq ?_; cbv) | (refine qzagz hS hb hB hm ?_; cbv) | (refine s_ckA hS c1 ?_; cbv) | (refine qbn hS rfl I.qjc (by decide +kernel) ?_; cbv) | fail)
  have e1 : S.app (S.app A D) B = cellsB L := by rw [← hL, qdj hS hA.symm hD.symm, qdj hS rfl hB.symm]; rfl
  have e2 : S.pl (S.pl k q) m = ilen L := by rw [← hL]; unfold fldB; rw [qbh, qbh, ← hk, ← hm, ← hq]; subst hS; rfl
  exact qgb (z := .y (S.pl (S.pl k q) m)) .rfl rfl e1 e2
section
variable {S : Sy} {bl : List Blk} {K : SV → List Blk → Prop} {L : List Int} {F : List SV} {n i w : Int} {a b : List UInt8}
theorem zidx_g (hS : S0 Tryz.prog = S) {zi : Z} (hi : zi.v = i) (h0 : 0 ≤ i) (h1 : i < 2147483648) (hF : cellsB (idxB i) = F) (hn : n = ilen (idxB i)) (hK : K (.tp [.v false 1 F (.y n), .i .i64 (.y 0)]) bl) : S.call 24 [.i .i64 zi] bl K :=
  qbv hS (qzaad (zidx_o h0 h1) hF hn) (.cons (qae hi) .nil) rfl hK
theorem znm_g (hS : S0 Tryz.prog = S) {zi zw : Z} (hi : zi.v = i) (hw : zw.v = w) (h0 : 0 < i) (h1 : i < 2147483648) (hb : ilen b ≤ 5000) (hF : cellsB (nmB i b w) = F) (hn : n = ilen (nmB i b w)) (hK : K (.tp [.v false 1 F (.y n), .i .i64 (.y 0)]) bl) :
    S.call 28 [.i .i64 zi, .s b, .i .i64 zw] bl K :=
  qbv hS (qzaad (znm_o h0 h1 hb) hF hn) (.cons (qae hi) (.cons .rfl (.cons (qae hw) .nil))) rfl hK
theorem zfl_g (hS : S0 Tryz.prog = S) {zw : Z} (hw : zw.v = w) (ha : ilen a ≤ 5000) (hb : ilen b ≤ 5000) (hF : cellsB (fldB (a, b) w) = F) (hn : n = ilen (fldB (a, b) w)) (hK : K (.v false 1 F (.y n)) bl) : S.call 31 [.ag [.s a, .s b], .i .i64 zw] bl K :=
  qbv hS (own_t0 (zfl_o ha hb) hF hn) (.cons .rfl (.cons (qae hw) .nil)) rfl hK
end
end Pa
end Cz
namespace Cz
open Go Go.RowKit Go.Proofs
namespace Pa
open Tb
section
variable {S : Sy} {bl : List Blk} {K : SV → List Blk → Prop} {cs : List SV} {mx most n k m : Int} {l q l' : List Tb.Fd} {b : List Int} {x : SV} {r : (List Tb.Fd × Bool × Tab) × Int} {F R : List SV}
theorem runb_f (hr : blkU (mx, l) most b = r) (hb : Hu.BOk b) (hbl : ilen b ≤ 60000) (hl : fullL l ≤ 10000000) :
    (S0 Tryz.prog).call 21 [tabV mx l, .i .i64 (.y most), .v false 1 (cellsB b) (.y (ilen b))] [] (Tell (unV r)) := by
  subst hr
  rw [blk_go]
  split
  · rename_i h
    have h' : rightL mx l = true ∧ 0 ≤ most ∧ most ≤ 4096 := h
    have := runb_k (e := (goU most ⟨b, mx, l, [], 0⟩).1) (s := (goU most ⟨b, mx, l, [], 0⟩).2) rfl h'.1 h'.2.1 h'.2.2 hb hbl
    dsimp only
    split
    · rename_i h2; rw [if_pos h2] at this; exact this
    · rename_i h2; rw [if_neg h2] at this; exact this
  · rename_i h
    exact runb_e h hl
theorem runb_g {t : Bool} {e mx' : Int} {o : List Tb.Fd} (hS : S0 Tryz.prog = S) {zm : Z} (hr : blkU (mx, l) most b = ((o, t, (mx', l')), e)) (hc : TabC [] cs mx l) (hm : zm.v = most) (hx : Sub x (.v false 1 (cellsB b) (.y (ilen b)))) (hb : Hu.BOk b) (hbl : ilen b ≤ 60000) (hl : fullL l ≤ 10000000)
    (hF : cellsF o = F) (hn : n = ilen o) (hRr : cellsF l' = R) (hk : k = ilen l') (hK : K (.tp [.ag [.v false 2 F (.y n), .b t, .i .i64 (.y mx'), .v false 2 R (.y k)], .i .i64 (.y e)]) bl) :
    S.call 21 [.ag cs, .i .i64 zm, x] bl K := by
  subst hF hn hRr hk
  refine qbv hS (runb_f hr hb hbl hl) ?_ rfl hK
  match hc.sub with
  | .cons h _ => exact .cons h (.cons (qae hm) (.cons hx .nil))
end
end Pa
end Cz
namespace Cz
open Go Go.RowKit Go.Proofs
namespace Pa
open Tb
def nilE : SV := .tp [.re (.slice none 0 0), .i .i64 (.y 2)]
theorem zi_e {i : Int} (hi : i < 0 ∨ 2147483648 ≤ i) (l0 : -9223372036854775808 ≤ i) (u0 : i ≤ 9223372036854775807) : (S0 Tryz.prog).call 23 [.i .i64 (.y i)] [] (fun x _ => Sub x nilE) := by
  unfold nilE
  generalize hS : S0 Tryz.prog = S
  refine qaa hS I.qig ?_
  cbv
  refine qaa hS I.qcm ?_
  cbv
  refine qbf hS (pput_e (n := i) (k := 7) (up := 128) hi l0 u0 (by decide) (by decide)) (.cons .rfl (.cons (qae rfl) (.cons (qae rfl) .nil))) rfl rfl ?_
  cbv
  exact .rfl
theorem zri_e {i : Int} (hi : i < 0 ∨ 2147483648 ≤ i) : (S0 Tryz.prog).call 24 [.i .i64 (.y i)] [] (fun x _ => Sub x nilE) := by
  unfold nilE
  generalize hS : S0 Tryz.prog = S
  refine qaa hS I.qel ?_
  cbv
  refine qbf hS (qvw (n := i) (k := 7) (up := 128) hi (by decide) (by decide)) (.cons .rfl (.cons (qae rfl) (.cons (qae rfl) .nil))) rfl rfl ?_
  cbv
  exact .rfl
theorem zs_e {i : Int} (hi : i < 0 ∨ 2147483648 ≤ i) (l0 : -9223372036854775808 ≤ i) (u0 : i ≤ 9223372036854775807) : (S0 Tryz.prog).call 25 [.i .i64 (.y i)] [] (fun x _ => Sub x nilE) := by
  unfold nilE
  generalize hS : S0 Tryz.prog = S
  refine qaa hS I.qlp ?_
  cbv
  refine qaa hS I.qcm ?_
  cbv
  refine qbf hS (pput_e (n := i) (k := 5) (up := 32) hi l0 u0 (by decide) (by decide)) (.cons .rfl (.cons (qae rfl) (.cons (qae rfl) .nil))) rfl rfl ?_
  cbv
  exact .rfl
theorem zrs_e {i : Int} (hi : i < 0 ∨ 2147483648 ≤ i) : (S0 Tryz.prog).call 26 [.i .i64 (.y i)] [] (fun x _ => Sub x nilE) := by
  unfold nilE
  generalize hS : S0 Tryz.prog = S
  refine qaa hS I.qfm ?_
  cbv
  refine qbf hS (qvw (n := i) (k := 5) (up := 32) hi (by decide) (by decide)) (.cons .rfl (.cons (qae rfl) (.cons (qae rfl) .nil))) rfl rfl ?_
  cbv
  exact .rfl
theorem zn_e {i w : Int} {b : List UInt8} (hi : i < 0 ∨ 2147483648 ≤ i) (l0 : -9223372036854775808 ≤ i) (u0 : i ≤ 9223372036854775807) : (S0 Tryz.prog).call 27 [.i .i64 (.y i), .s b, .i .i64 (.y w)] [] (fun x _ => Sub x nilE) := by
  unfold nilE
  generalize hS : S0 Tryz.prog = S
  refine qaa hS I.qgg ?_
  cbv
  refine of_u hS (w := w) rfl fun u k hu hk => ?_
  obtain ⟨u0', u1, k0, k1, hp⟩ := up_bd w
  rw [← hu] at u0' u1
  rw [← hk] at k0 k1 hp
  cbv
  refine qaa hS I.qcm ?_
  cbv
  repeat' (first | (refine qai hS ?_ ?_ <;> intro h <;> (try cbv) <;> try exact s_ab h) | (refine qbr hS ?_; try cbv) | (refine qbf hS (pput_e (n := i) (k := k) (up := u) hi l0 u0 (by omega) (by omega)) (.cons .rfl (.cons (qae rfl) (.cons (qae rfl) .nil))) rfl rfl ?_; cbv) | fail)
  exact qar (.cons .rfl (.cons (qae rfl) .nil))
theorem first_e {i w : Int} (hi : i < 0 ∨ 2147483648 ≤ i) : (S0 Tryz.prog).call 55 [.i .i64 (.y i), .i .i64 (.y w)] [] (fun x _ => Sub x nilE) := by
  unfold nilE
  generalize hS : S0 Tryz.prog = S
  refine qaa hS I.qcq ?_
  cbv
  repeat' (first | (refine qai hS ?_ ?_ <;> intro h <;> (try cbv) <;> try exact s_ab h) | (refine qbf hS (qvw (n := i) (k := 6) (up := 64) hi (by omega) (by omega)) (.cons .rfl (.cons (qae rfl) (.cons (qae rfl) .nil))) rfl rfl ?_; cbv) | (refine qbf hS (qvw (n := i) (k := 4) (up := 16) hi (by omega) (by omega)) (.cons .rfl (.cons (qae rfl) (.cons (qae rfl) .nil))) rfl rfl ?_; cbv) | (refine qbf hS (qvw (n := i) (k := 4) (up := 0) hi (by omega) (by omega)) (.cons .rfl (.cons (qae rfl) (.cons (qae rfl) .nil))) rfl rfl ?_; cbv) | fail)
  all_goals exact .rfl
theorem zrn_e {i w : Int} {b : List UInt8} (hi : i < 0 ∨ 2147483648 ≤ i) : (S0 Tryz.prog).call 28 [.i .i64 (.y i), .s b, .i .i64 (.y w)] [] (fun x _ => Sub x nilE) := by
  unfold nilE
  generalize hS : S0 Tryz.prog = S
  refine qaa hS I.qdo ?_
  cbv
  refine qbf hS (first_e (i := i) (w := w) hi) (.cons .rfl (.cons .rfl .nil)) rfl rfl ?_
  cbv
  repeat' (first | (refine qai hS ?_ ?_ <;> intro h <;> (try cbv) <;> try exact s_ab h) | fail)
  exact qar (.cons .rfl (.cons (qae rfl) .nil))
theorem zrn_z {w : Int} {b : List UInt8} : (S0 Tryz.prog).call 28 [.i .i64 (.y 0), .s b, .i .i64 (.y w)] [] (fun x _ => Sub x nilE) := by
  unfold nilE
  obtain ⟨F0, hF0⟩ : ∃ r, cellsB (putI 0 (powP w) (upP w)) = r := ⟨_, rfl⟩
  obtain ⟨n0, hn0⟩ : ∃ r, r = ilen (putI 0 (powP w) (upP w)) := ⟨_, rfl⟩
  generalize hS : S0 Tryz.prog = S
  refine qaa hS I.qdo ?_
  cbv
  refine own_u1 hS (qzaho (i := 0) (w := w) (by omega) (by omega)) (.cons (qae rfl) (.cons (qae rfl) .nil)) rfl hF0 hn0 ?_
  cbv
  repeat' (first | (refine qai hS ?_ ?_ <;> intro h <;> (try cbv) <;> try exact s_ab h) | fail)
  exact qar (.cons .rfl (.cons (qae rfl) .nil))
theorem qlf {S : Sy} {g : FuncId} {args : List SV} (hS : S0 Tryz.prog = S) (h : (S0 Tryz.prog).call g args [] (fun x _ => Sub x nilE)) (hr : refsBL (fun _ => false) args = true) (bl : List Blk) (K : SV → List Blk → Prop) (hK : K (.tp [.v false 1 [] (.y 0), .i .i64 (.y 2)]) bl) : S.call g args bl K :=
  qbf hS (sv := .tp [.v false 1 [] (.y 0), .i .i64 (.y 2)]) (qaw h fun x _ h => ⟨x, .rfl, h.trans (qar (.cons (qnw (by decide) rfl rfl) (.cons .rfl .nil)))⟩) .rfl hr rfl hK
def Both (S : Sy) (g g' : FuncId) (args : List SV) (P : List Int) (F : List SV) (n e : Int) : Prop := cellsB P = F ∧ n = ilen P ∧ Hu.BOk P ∧ (∀ (bl : List Blk) (K : SV → List Blk → Prop), K (.tp [.v false 1 F (.y n), .i .i64 (.y e)]) bl → S.call g args bl K) ∧ (∀ (bl : List Blk) (K : SV → List Blk → Prop), K (.tp [.v false 1 F (.y n), .i .i64 (.y e)]) bl → S.call g' args bl K)
theorem ix_x {S : Sy} (hS : S0 Tryz.prog = S) {i : Int} (l0 : -9223372036854775808 ≤ i) (u0 : i ≤ 9223372036854775807) : ∃ P F n e, Both S 23 24 [.i .i64 (.y i)] P F n e := by
  by_cases hi : 0 ≤ i ∧ i < 2147483648
  · exact ⟨idxB i, _, _, 0, rfl, rfl, bok_idx hi.1, fun bl K h => idx_g hS (i := i) rfl hi.1 hi.2 rfl rfl h, fun bl K h => zidx_g hS (i := i) rfl hi.1 hi.2 rfl rfl h⟩
  · exact ⟨[], [], 0, 2, rfl, rfl, (by intro v hv; cases hv), qlf hS (zi_e (by omega) l0 u0) rfl, qlf hS (zri_e (by omega)) rfl⟩
theorem sz_x {S : Sy} (hS : S0 Tryz.prog = S) {i : Int} (l0 : -9223372036854775808 ≤ i) (u0 : i ≤ 9223372036854775807) : ∃ P F n e, Both S 25 26 [.i .i64 (.y i)] P F n e := by
  by_cases hi : 0 ≤ i ∧ i < 2147483648
  · exact ⟨sizB i, _, _, 0, rfl, rfl, bok_siz hi.1, fun bl K h => qbv hS (qzaad (siz_o hi.1 hi.2) rfl rfl) (.cons .rfl .nil) rfl h, fun bl K h => qbv hS (qzaad (zsiz_o hi.1 hi.2) rfl rfl) (.cons .rfl .nil) rfl h⟩
  · exact ⟨[], [], 0, 2, rfl, rfl, (by intro v hv; cases hv), qlf hS (zs_e (by omega) l0 u0) rfl, qlf hS (zrs_e (by omega)) rfl⟩
theorem nm_x {S : Sy} (hS : S0 Tryz.prog = S) {i w : Int} {b : List UInt8} (hb : ilen b ≤ 5000) (l0 : -9223372036854775808 ≤ i) (u0 : i ≤ 9223372036854775807) : ∃ P F n e, Both S 27 28 [.i .i64 (.y i), .s b, .i .i64 (.y w)] P F n e := by
  by_cases hi : 0 < i ∧ i < 2147483648
  · exact ⟨nmB i b w, _, _, 0, rfl, rfl, bok_nm (by omega), fun bl K h => named_g hS (i := i) (w := w) rfl rfl hi.1 hi.2 (by omega) rfl rfl h, fun bl K h => znm_g hS (i := i) (w := w) rfl rfl hi.1 hi.2 (by omega) rfl rfl h⟩
  · by_cases h0 : i = 0
    · subst h0
      exact ⟨[], [], 0, 2, rfl, rfl, (by intro v hv; cases hv), qlf hS named_z rfl, qlf hS zrn_z rfl⟩
    · exact ⟨[], [], 0, 2, rfl, rfl, (by intro v hv; cases hv), qlf hS (zn_e (by omega) l0 u0) rfl, qlf hS (zrn_e (by omega)) rfl⟩
theorem rusame_f {o o' l l' : List Fd} {lg lg' t : Bool} {mx mx' : Int} (ht : decide (lg = lg' ∧ o = o' ∧ mx = mx' ∧ l = l') = t) (h1 : ilen o ≤ 100000000) (h2 : ilen o' ≤ 100000000) (h3 : ilen l ≤ 100000000) (h4 : ilen l' ≤ 100000000) :
    (S0 Tryz.prog).call 22 [upV o lg mx l, upV o' lg' mx' l'] [] (fun y _ => Sub y (.b t)) := by
  unfold upV
  obtain ⟨tf, htf⟩ : ∃ t, decide (o = o') = t := ⟨_, rfl⟩
  obtain ⟨ts, hts⟩ : ∃ t, decide (mx = mx' ∧ l = l') = t := ⟨_, rfl⟩
  have htt : t = (tf && (lg == lg') && ts) := by
    rw [← ht, ← htf, ← hts]
    by_cases a : o = o' <;> by_cases c : (mx = mx' ∧ l = l') <;> cases lg <;> cases lg' <;> simp [a, c]
  generalize hF : cellsF o = F
  generalize hF' : cellsF o' = F'
  generalize hG : cellsF l = G
  generalize hG' : cellsF l' = G'
  obtain ⟨m, hm⟩ : ∃ m, m = ilen o := ⟨_, rfl⟩
  obtain ⟨m', hm'⟩ : ∃ m, m = ilen o' := ⟨_, rfl⟩
  obtain ⟨n, hn⟩ : ∃ m, m = ilen l := ⟨_, rfl⟩
  obtain ⟨n', hn'⟩ : ∃ m, m = ilen l' := ⟨_, rfl⟩
  rw [← hm, ← hm', ← hn, ← hn']
  generalize hS : S0 Tryz.prog = S
  refine qaa hS I.qpg ?_
  cbv
  cases lg <;> cases lg' <;> cases tf <;> cases ts <;> cbv
  all_goals
    repeat' (first | (refine s_eqs hS rfl ?_; try cbv) | (refine qai hS ?_ ?_ <;> intro h <;> (try cbv) <;> try exact s_ab h) | (refine ufields_g hS htf (.cons (.sub (qap hF.symm hm) rfl) (.cons (.sub (qap hF'.symm hm') rfl) .nil)) h1 h2 ?_; cbv) | (refine rsame_g hS (.v (z := .y mx) (n := .y n) rfl hG hn) (.v (z := .y mx') (n := .y n') rfl hG' hn') hts h3 h4 ?_; cbv) | (refine s_eqo hS ?_; try cbv) | fail)
  all_goals first
    | (refine qkp ?_; rw [htt]; rfl)
    | (refine qcg ?_; rw [htt]; rfl)
    | (refine qqd ?_; rw [htt]; rfl)
    | (rw [htt]; exact .rfl)
section
variable {S : Sy} {bl : List Blk} {K : SV → List Blk → Prop}
theorem rusame_g (hS : S0 Tryz.prog = S) {x y : SV} {o o' l l' : List Fd} {lg lg' t : Bool} {mx mx' : Int} (ht : decide (lg = lg' ∧ o = o' ∧ mx = mx' ∧ l = l') = t) (hc : FzL bl id [] [x, y] [upV o lg mx l, upV o' lg' mx' l']) (h1 : ilen o ≤ 100000000) (h2 : ilen o' ≤ 100000000) (h3 : ilen l ≤ 100000000) (h4 : ilen l' ≤ 100000000)
    (hK : K (.b t) bl) : S.call 22 [x, y] bl K :=
  qcd hS (rusame_f ht h1 h2 h3 h4) hc rfl rfl hK
end
theorem qmp : ∀ {l : List Fd}, shortL l → fullL l ≤ ilen l * 281474976710688
  | [], _ => by decide
  | f :: l, h => by
    have h1 := h f List.mem_cons_self
    have h2 := qmp (l := l) fun g hg => h g (List.mem_cons_of_mem _ hg)
    have e : fullL (f :: l) = szF f + fullL l := rfl
    have e2 : szF f = ilen f.1 + ilen f.2 + 32 := rfl
    rw [qwy]
    omega
theorem blk_bd {mx most e mx' : Int} {l o l' : List Fd} {t : Bool} {b : List Int} (hb : Hu.BOk b) (hbl : ilen b ≤ 2000) (h : blkU (mx, l) most b = ((o, t, (mx', l')), e)) : ilen o ≤ 100000 ∧ ilen l' ≤ 100000 := by
  rw [blk_go] at h
  split at h
  · rename_i hv
    have hv' : rightL mx l = true ∧ 0 ≤ most ∧ most ≤ 4096 := hv
    obtain ⟨⟨e', s⟩, hg⟩ : ∃ r, goU most ⟨b, mx, l, [], 0⟩ = r := ⟨_, rfl⟩
    dsimp only at h
    rw [hg] at h
    dsimp only at h
    split at h
    · cases h
      exact ⟨by decide, by decide⟩
    · rename_i he
      have he0 : e' = 0 := Classical.byContradiction fun x => he x
      subst he0
      have hok := go_ok (B := 34000000000000) hv'.2.2 b.length ⟨b, mx, l, [], 0⟩ s (Nat.le_refl _) ⟨hb, by dsimp only; omega, hv'.1, Int.le_refl _, by dsimp only; have := qah b; omega, Int.le_refl _, (show (0 : Int) ≤ 2000 by decide)⟩ hg
      cases h
      have h1 := qbz s.out
      have h2 := hok.o2
      have h3 := qkv hok.right
      omega
  · cases h
    exact ⟨by decide, by decide⟩
end Pa
end Cz
namespace Cz
open Go Go.RowKit Go.Proofs
namespace Tb
theorem op_i {svs : List SV} (h : pkVs [.i .i64] svs) : ∃ n, svs = [.i .i64 (.y n)] ∧ -9223372036854775808 ≤ n ∧ n ≤ 9223372036854775807 := by
  obtain ⟨x, rfl, h'⟩ := qzabq h
  simp only [pkV] at h'
  obtain ⟨n, rfl, h1, h2⟩ := h'
  exact ⟨n, rfl, h1, h2⟩
theorem op_fd' {svs : List SV} (h : pkVs [.s, .s] svs) : ∃ f : Fd, svs = fdE f ∧ ilen f.1 ≤ 140737488355328 ∧ ilen f.2 ≤ 140737488355328 := by
  match svs, h with
  | [], h => simp [pkVs] at h
  | [_], h => simp [pkVs] at h
  | _ :: _ :: _ :: _, h => simp [pkVs] at h
  | [x, y], h =>
    simp only [pkVs, pkV] at h
    obtain ⟨⟨a, rfl, ha⟩, ⟨b, rfl, hb⟩, _⟩ := h
    exact ⟨(a, b), rfl, ha, hb⟩
theorem op_fd {svs : List SV} (h : pkVs [.s, .s] svs) : ∃ a b, svs = [.s a, .s b] ∧ shortL [(a, b)] := by
  obtain ⟨f, rfl, h1, h2⟩ := op_fd' h
  exact ⟨f.1, f.2, rfl, fun g hg => by rw [List.mem_singleton.1 hg]; exact ⟨h1, h2⟩⟩
theorem op_fds' {x : SV} (h : pkV (.sl [.s, .s]) x) : ∃ l : List Fd, x = .v false 2 (cellsF l) (.y (ilen l)) ∧ ilen l ≤ 140737488355328 ∧ shortL l := by
  obtain ⟨l, h1, h2, h3⟩ := pk_rows (ec := fdE) (good := fun f => ilen f.1 ≤ 140737488355328 ∧ ilen f.2 ≤ 140737488355328) (fun svs h => op_fd' h) h
  exact ⟨l, h1, h2, h3⟩
theorem op_fds {svs : List SV} (h : pkVs [.sl [.s, .s]] svs) : ∃ l : List Fd, svs = [.v false 2 (cellsF l) (.y (ilen l))] ∧ ilen l ≤ 140737488355328 ∧ shortL l := by
  obtain ⟨x, rfl, h'⟩ := qzabq h
  obtain ⟨l, rfl, h1, h2⟩ := op_fds' h'
  exact ⟨l, rfl, h1, h2⟩
theorem op_tab {svs : List SV} (h : pkVs [.i .i64, .sl [.s, .s]] svs) : ∃ mx l, svs = [.i .i64 (.y mx), .v false 2 (cellsF l) (.y (ilen l))] ∧ -9223372036854775808 ≤ mx ∧ mx ≤ 9223372036854775807 ∧ ilen l ≤ 140737488355328 ∧ shortL l := by
  match svs, h with
  | [], h => simp [pkVs] at h
  | [_], h => simp [pkVs] at h
  | _ :: _ :: _ :: _, h => simp [pkVs] at h
  | [x, y], h =>
    simp only [pkVs] at h
    obtain ⟨h1, h2, _⟩ := h
    simp only [pkV] at h1
    obtain ⟨n, rfl, h3, h4⟩ := h1
    obtain ⟨l, rfl, h5, h6⟩ := op_fds' h2
    exact ⟨n, l, rfl, h3, h4, h5, h6⟩
end Tb
end Cz
namespace Cz
open Go Go.RowKit Go.Proofs
namespace Tb
theorem op_by {svs : List SV} (h : pkVs [.sl [.i .u8]] svs) : ∃ b : List Int, svs = [.v false 1 (cellsB b) (.y (ilen b))] ∧ ilen b ≤ 140737488355328 ∧ Hu.BOk b := by
  obtain ⟨x, rfl, h'⟩ := qzabq h
  obtain ⟨l, h1, h2, h3⟩ := pk_rows (ec := by1) (good := fun v => 0 ≤ v ∧ v < 256) (fun svs h => pk1 h) h'
  exact ⟨l, by rw [h1]; rfl, h2, h3⟩
end Tb
end Cz
