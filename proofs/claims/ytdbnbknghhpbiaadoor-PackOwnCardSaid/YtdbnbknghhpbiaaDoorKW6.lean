/- What the claims of this group lean on, part 6: our engine, the functions' simplified codes, their contracts. No condition. -/
import Derived.Test.YtdbnbknghhpbiaaDoorKW5
set_option linter.unusedSimpArgs false
set_option linter.unusedVariables false
set_option maxRecDepth 100000
set_option maxHeartbeats 4000000
namespace Cz
open Go Go.RowKit Go.Proofs
section
variable {α : Type} [DecidableEq α]
def mapE (enc : α → SV) (ms : List (α × Int)) : List (SV × SV) := ms.map fun p => (enc p.1, .i .i64 (.y p.2))
def mget : List (α × Int) → α → Int
  | [], _ => 0
  | (k, v) :: r, a => if a = k then v else mget r a
theorem mget_app (a b : α) (n : Int) : ∀ ms : List (α × Int), (∀ p, p ∈ ms → 1 ≤ p.2) → mget (ms ++ [(b, n)]) a = if mget ms a ≠ 0 then mget ms a else if a = b then n else 0
  | [], _ => by simp [mget]
  | (k, v) :: r, hv => by
    simp only [List.cons_append, mget]
    split
    · have := hv (k, v) (List.mem_cons_self ..)
      dsimp only at this
      rw [if_pos (by omega)]
    · exact mget_app a b n r fun p hp => hv p (List.mem_cons_of_mem _ hp)
theorem lk_g {P : Program} {S : Sy} {sig : Sg} {enc : α → SV} {zero : SV} {K : SV → Bool → Prop} {a : α} (hS : S0 P = S) (heq : ∀ (b : α) (k1 k2 : Unit → Prop), (a = b → k1 ()) → (a ≠ b → k2 ()) → veq S sig (enc a) (enc b) k1 k2)
    {ms : List (α × Int)} {E : List (SV × SV)} (hE : mapE enc ms = E) (h1 : mget ms a ≠ 0 → K (.i .i64 (.y (mget ms a))) true) (h2 : mget ms a = 0 → K zero false) (hv : ∀ p, p ∈ ms → 1 ≤ p.2) : S.lk sig (enc a) K zero E := by
  refine s_lk hS ?_
  subst hE
  induction ms with
  | nil => exact h2 rfl
  | cons p r ih =>
    obtain ⟨k, v⟩ := p
    simp only [mapE, List.map_cons, vlook]
    have h0 := hv (k, v) (List.mem_cons_self ..)
    dsimp only at h0
    refine heq k _ _ (fun e => ?_) (fun e => ?_)
    · simp only [mget, if_pos e] at h1
      exact h1 (by omega)
    · simp only [mget, if_neg e] at h1 h2
      exact ih h1 h2 fun p hp => hv p (List.mem_cons_of_mem _ hp)
theorem mu_g {P : Program} {S : Sy} {sig : Sg} {enc : α → SV} {K : List (SV × SV) → Prop} {a : α} {z : Z} (hS : S0 P = S) (heq : ∀ (b : α) (k1 k2 : Unit → Prop), (a = b → k1 ()) → (a ≠ b → k2 ()) → veq S sig (enc a) (enc b) k1 k2)
    {ms : List (α × Int)} {E : List (SV × SV)} (hE : mapE enc ms = E) (h0 : mget ms a = 0) (hv : ∀ p, p ∈ ms → 1 ≤ p.2) (h : ∀ E', E ++ [(enc a, .i .i64 z)] = E' → K E') : S.mu sig (enc a) (.i .i64 z) K [] E := by
  refine s_mu hS ?_
  have key : ∀ (r : List (α × Int)) (acc : List (SV × SV)), (∀ p, p ∈ r → 1 ≤ p.2) → mget r a = 0 → acc ++ mapE enc r = E → vmupd S sig (enc a) (.i .i64 z) K acc (mapE enc r) := by
    intro r
    induction r with
    | nil => intro acc _ _ he; simp only [mapE, List.map_nil, List.append_nil, vmupd] at he ⊢; exact h _ (by rw [he])
    | cons p r ih =>
      intro acc hv h0 he
      obtain ⟨k, v⟩ := p
      have h1 := hv (k, v) (List.mem_cons_self ..)
      dsimp only at h1
      simp only [mget] at h0
      have hk : a ≠ k := by intro e; rw [if_pos e] at h0; omega
      rw [if_neg hk] at h0
      simp only [mapE, List.map_cons, vmupd]
      exact heq k _ _ (fun e => absurd e hk) fun _ => ih _ (fun p hp => hv p (List.mem_cons_of_mem _ hp)) h0 (by rw [← he]; simp [mapE])
  have := key ms [] hv h0 (by simpa using hE)
  rwa [hE] at this
end
namespace Tb
theorem fstI_app (p : Fd → Bool) : ∀ (l r : List Fd) (k : Int), 1 ≤ k → fstI p (l ++ r) k = if fstI p l k ≠ 0 then fstI p l k else fstI p r (k + l.length)
  | [], r, k, _ => by simp [fstI]
  | x :: l, r, k, hk => by
    simp only [List.cons_append, fstI]
    split
    · rw [if_pos (by omega)]
    · rw [fstI_app p l r (k + 1) (by omega)]
      simp only [List.length_cons]
      rw [show k + 1 + (l.length : Int) = k + ((l.length + 1 : Nat) : Int) by omega]
theorem qor (p : Fd → Bool) : ∀ (l : List Fd) (k : Int), 1 ≤ k → 0 ≤ fstI p l k ∧ fstI p l k ≤ k + l.length - 1 ∧ (fstI p l k ≠ 0 → k ≤ fstI p l k)
  | [], k, hk => by simp [fstI]; omega
  | x :: l, k, hk => by
    simp only [fstI, List.length_cons]
    split
    · omega
    · have := qor p l (k + 1) (by omega)
      omega
theorem allF_len (l : List Fd) : ilen (allF l) = 20 + ilen l := by
  unfold ilen allF
  rw [List.length_append, qin]; omega
end Tb
end Cz
namespace Cz
open Go Go.RowKit Go.Proofs
namespace Tb
theorem eqF' {S : Sy} (hS : S0 Tryd.prog = S) (x y : Fd) (k1 k2 : Unit → Prop) (h1 : x = y → k1 ()) (h2 : x ≠ y → k2 ()) : veq S ⟨true, [.ks, .ks]⟩ (.ag [.s x.1, .s x.2]) (.ag [.s y.1, .s y.2]) k1 k2 := by
  obtain ⟨a, b⟩ := x
  obtain ⟨c, d⟩ := y
  cbv
  refine s_br hS (fun h => ?_) (fun h => ?_) <;> cbv <;> simp only [← hS, Int.ofNat_eq_natCast, cq, Bool.not_eq_true', Bool.not_eq_false', decide_eq_true_eq, decide_eq_false_iff_not, beq_iff_eq, beq_eq_false_iff_ne, ne_eq] at h
  · refine s_br hS (fun h' => ?_) (fun h' => ?_) <;> cbv <;> simp only [← hS, Int.ofNat_eq_natCast, cq, Bool.not_eq_true', Bool.not_eq_false', decide_eq_true_eq, decide_eq_false_iff_not, beq_iff_eq, beq_eq_false_iff_ne, ne_eq] at h'
    · exact h1 (by rw [h, h'])
    · exact h2 (by intro e; cases e; exact h' rfl)
  · exact h2 (by intro e; cases e; exact h rfl)
theorem eqN' {S : Sy} (hS : S0 Tryd.prog = S) (x y : List UInt8) (k1 k2 : Unit → Prop) (h1 : x = y → k1 ()) (h2 : x ≠ y → k2 ()) : veq S ⟨false, [.ks]⟩ (.s x) (.s y) k1 k2 := by
  cbv
  refine s_br hS (fun h => ?_) (fun h => ?_) <;> cbv <;> simp only [← hS, Int.ofNat_eq_natCast, cq, Bool.not_eq_true', Bool.not_eq_false', decide_eq_true_eq, decide_eq_false_iff_not, beq_iff_eq, beq_eq_false_iff_ne, ne_eq] at h
  · exact h1 h
  · exact h2 h
def encF (x : Fd) : SV := .ag [.s x.1, .s x.2]
def MapG {α : Type} [DecidableEq α] (enc : α → SV) (key : Fd → α) (E : List (SV × SV)) (L : List Fd) : Prop :=
  ∃ ms : List (α × Int), mapE enc ms = E ∧ (∀ p, p ∈ ms → 1 ≤ p.2) ∧ ∀ k, mget ms k = fstI (fun x => decide (key x = k)) L 1
section
variable {α : Type} [DecidableEq α] {enc : α → SV} {key : Fd → α} {E : List (SV × SV)} {L : List Fd}
theorem fst_snoc (p : Fd → Bool) (L : List Fd) (x : Fd) : fstI p (L ++ [x]) 1 = if fstI p L 1 ≠ 0 then fstI p L 1 else if p x then 1 + L.length else 0 := by
  rw [fstI_app p L [x] 1 (Int.le_refl _)]
  simp only [fstI]
theorem MapG.keep (h : MapG enc key E L) {x : Fd} (hx : fstI (fun y => decide (key y = key x)) L 1 ≠ 0) : MapG enc key E (L ++ [x]) := by
  obtain ⟨ms, h1, h2, h3⟩ := h
  refine ⟨ms, h1, h2, fun k => ?_⟩
  rw [h3, fst_snoc]
  split
  · rfl
  · rename_i h0
    split
    · rename_i hk
      exact absurd (by rw [← of_decide_eq_true hk] at h0; omega) hx
    · omega
theorem MapG.put (h : MapG enc key E L) {x : Fd} (hx : fstI (fun y => decide (key y = key x)) L 1 = 0) : MapG enc key (E ++ [(enc (key x), .i .i64 (.y (1 + L.length)))]) (L ++ [x]) := by
  obtain ⟨ms, h1, h2, h3⟩ := h
  refine ⟨ms ++ [(key x, (1 + L.length : Int))], ?_, ?_, fun k => ?_⟩
  · rw [← h1]; simp [mapE]
  · intro p hp
    rcases List.mem_append.1 hp with hp | hp
    · exact h2 p hp
    · rw [List.mem_singleton.1 hp]; dsimp only; omega
  · rw [mget_app _ _ _ _ h2, h3, fst_snoc]
    simp only [decide_eq_true_eq]
    split
    · rfl
    · split
      · rename_i e; rw [if_pos e.symm]
      · rename_i e; rw [if_neg fun e' => e e'.symm]
theorem MapG.nil : MapG enc key [] [] := ⟨[], rfl, fun _ h => by simp at h, fun _ => rfl⟩
theorem lkG {S : Sy} {sig : Sg} {zero : SV} {K : SV → Bool → Prop} (hS : S0 Tryd.prog = S) (heq : ∀ (a b : α) (k1 k2 : Unit → Prop), (a = b → k1 ()) → (a ≠ b → k2 ()) → veq S sig (enc a) (enc b) k1 k2) (h : MapG enc key E L) {a : α} {n : Int} (hn : n = fstI (fun x => decide (key x = a)) L 1)
    (h1 : n ≠ 0 → K (.i .i64 (.y n)) true) (h2 : n = 0 → K zero false) : S.lk sig (enc a) K zero E := by
  obtain ⟨ms, hE, hv, hm⟩ := h
  rw [← hm] at hn
  subst hn
  exact lk_g (enc := enc) (a := a) hS (heq a) hE h1 h2 hv
theorem muG {S : Sy} {sig : Sg} {K : List (SV × SV) → Prop} (hS : S0 Tryd.prog = S) (heq : ∀ (a b : α) (k1 k2 : Unit → Prop), (a = b → k1 ()) → (a ≠ b → k2 ()) → veq S sig (enc a) (enc b) k1 k2) (h : MapG enc key E L) {x : Fd} {n : Int} (h0 : fstI (fun y => decide (key y = key x)) L 1 = 0) (hz : n = 1 + L.length)
    (hK : ∀ E', MapG enc key E' (L ++ [x]) → K E') : S.mu sig (enc (key x)) (.i .i64 (.y n)) K [] E := by
  have h' := h.put h0
  obtain ⟨ms, hE, hv, hm⟩ := h
  refine mu_g (enc := enc) (a := key x) hS (heq (key x)) hE (by rw [hm]; exact h0) hv fun E' hE' => hK E' ?_
  rw [← hE', hz]; exact h'
end
section
variable {S : Sy} {E : List (SV × SV)} {L : List Fd} {a b : List UInt8} {n : Int}
theorem lkF (hS : S0 Tryd.prog = S) (h : MapG encF id E L) (hn : n = fstI (fun x => decide (id x = (a, b))) L 1) {zero : SV} {K : SV → Bool → Prop} (h1 : n ≠ 0 → K (.i .i64 (.y n)) true) (h2 : n = 0 → K zero false) :
    S.lk ⟨true, [.ks, .ks]⟩ (.ag [.s a, .s b]) K zero E := lkG (enc := encF) (a := (a, b)) hS (eqF' hS) h hn h1 h2
theorem lkN (hS : S0 Tryd.prog = S) (h : MapG SV.s Prod.fst E L) (hn : n = fstI (fun x => decide (x.1 = a)) L 1) {zero : SV} {K : SV → Bool → Prop} (h1 : n ≠ 0 → K (.i .i64 (.y n)) true) (h2 : n = 0 → K zero false) :
    S.lk ⟨false, [.ks]⟩ (.s a) K zero E := lkG (enc := SV.s) (a := a) hS (eqN' hS) h hn h1 h2
theorem muF (hS : S0 Tryd.prog = S) (h : MapG encF id E L) (h0 : fstI (fun x => decide (id x = (a, b))) L 1 = 0) (hz : n = 1 + L.length) {K : List (SV × SV) → Prop} (hK : ∀ E', MapG encF id E' (L ++ [(a, b)]) → K E') :
    S.mu ⟨true, [.ks, .ks]⟩ (.ag [.s a, .s b]) (.i .i64 (.y n)) K [] E := muG (enc := encF) (key := id) (x := (a, b)) hS (eqF' hS) h h0 hz hK
theorem muN (hS : S0 Tryd.prog = S) (h : MapG SV.s Prod.fst E L) (h0 : fstI (fun x => decide (x.1 = a)) L 1 = 0) (hz : n = 1 + L.length) {K : List (SV × SV) → Prop} (hK : ∀ E', MapG SV.s Prod.fst E' (L ++ [(a, b)]) → K E') :
    S.mu ⟨false, [.ks]⟩ (.s a) (.i .i64 (.y n)) K [] E := muG (enc := SV.s) (key := Prod.fst) (x := (a, b)) hS (eqN' hS) h h0 hz hK
end
section
variable {E : List (SV × SV)} {L : List Fd}
theorem MapG.gcF (h : MapG encF id E L) (m : Nat) : gcM m E = true := by
  obtain ⟨ms, h1, -, -⟩ := h
  subst h1
  induction ms with
  | nil => rfl
  | cons p r ih => exact ih
theorem MapG.gcN (h : MapG SV.s Prod.fst E L) (m : Nat) : gcM m E = true := by
  obtain ⟨ms, h1, -, -⟩ := h
  subst h1
  induction ms with
  | nil => rfl
  | cons p r ih => exact ih
end
theorem line_last2 {j : Int} (h1 : j = 19) (l : List Fd) : ∃ (a b : List UInt8), idxI (remT j.toNat) 10 = -1 ∧ cutR (remT j.toNat) = (a, b) ∧ stL[j.toNat]? = some (a, b) ∧ ilen (remT j.toNat) ≤ 300 ∧ idxI (remT j.toNat) 32 < ilen (remT j.toNat) ∧
    fstI (fun x => decide (id x = (a, b))) ((allF l).take j.toNat) 1 = 0 ∧ fstI (fun x => decide (x.1 = a)) ((allF l).take j.toNat) 1 = 0 := by
  subst h1
  unfold allF
  rw [List.take_append_of_le_length (by decide)]
  exact ⟨[117, 115, 101, 114, 45, 97, 103, 101, 110, 116], [], by decide +kernel⟩
theorem find_f {mx n : Int} {l : List Fd} {a b : List UInt8} {t : Bool} (hr : findR l (a, b) = (n, t)) (hm : ilen l ≤ 100000000) : (S0 Tryd.prog).call 34 [tabV mx l, .ag [.s a, .s b]] [] (fun y _ => Sub y (.tp [.i .i64 (.y n), .b t])) := by
  unfold tabV
  generalize hF : cellsF l = F
  obtain ⟨m, hm'⟩ : ∃ m, m = ilen l := ⟨_, rfl⟩
  have h0 := qai l
  unfold findR at hr
  rw [← hm'] at h0 hm ⊢
  generalize hS : S0 Tryd.prog = S
  refine qab hS I.qtd ?_
  cbv
  refine qab hS I.qhc ?_
  cbv
  refine qed hS I.qfn ?_
  cbv
  refine qab hS I.qeg ?_
  cbv
  refine qab hS I.qef ?_
  cbv
  refine qed hS I.qdi ?_
  cbv
  refine qac hS ?_ ?_ <;> intro h <;> cbv
  · exfalso; simp at h
  have hc : ilen ([10] : List UInt8) = 1 := rfl
  have hc2 : (([10] : List UInt8).length : Int) = 1 := rfl
  refine qbh hS 16 I.qcr (fun x : Int × List UInt8 × List (SV × SV) × List (SV × SV) => 0 ≤ x.1 ∧ x.1 ≤ 19 ∧ x.2.1 = remT x.1.toNat ∧ MapG encF id x.2.2.1 ((allF l).take x.1.toNat) ∧ MapG SV.s Prod.fst x.2.2.2 ((allF l).take x.1.toNat)) (fun _ => [])
    (fun x => [(2, .m x.2.2.1), (3, .m x.2.2.2), (10, .c [.i .i64 (.y x.1)]), (11, .c [.s x.2.1])]) (fun x => (19 - x.1).toNat) (0, remT 0, [], []) rfl
    ⟨⟨Int.le_refl _, by dsimp only; omega, rfl, .nil, .nil⟩, rfl, ?_, ?_, by cbv⟩ ?_
  · cbv; all_goals exact s_sA
  · cbv; all_goals exact s_bA
  intro x
  obtain ⟨j, s, E1, E2⟩ := x
  intro hx
  dsimp only at hx
  cbv
  obtain ⟨k0, k1, k3, g1, g2⟩ := hx
  have hjj : j < 19 ∨ 19 ≤ j := by omega
  rcases hjj with hj | hj
  · obtain ⟨L, c, d, f1, f2, f3, f4, f5, f6, f7, f8, f9⟩ := line_at k0 hj
    rw [← k3] at f1 f2 f3 f7 f9
    have hall := all_st (l := l) f5
    have htn := qdh hall k0
    have hlt : ((allF l).take j.toNat).length = j.toNat := by rw [List.length_take]; have := (List.getElem?_eq_some_iff.1 hall).1; omega
    refine sidx_u hS (c := 10) (by omega) f1 ?_
    generalize hn : ilen L = n1 at *
    have hn0 : 0 ≤ n1 := hn ▸ qai L
    cbv
    repeat' (first
      | (refine s_st hS ?_; try cbv)
      | (refine qac hS ?_ ?_ <;> intro h <;> (try cbv) <;> try exact s_ab h)
      | (refine qau hS ?_; intro _ _; try cbv)
      | (refine qaf hS ?_; try cbv)
      | (refine qav hS ?_; intro _ _; try cbv)
      | (refine qbz hS ?_; try cbv)
      | (refine qev hS rfl rfl ?_; cbv)
      | fail)
    rename_i r1 hr1 j1 hj1
    have e1 : S.ssub s 0 r1 = L := by
      subst hS
      show (s.take r1.toNat).drop 0 = L
      rw [List.drop_zero, show r1.toNat = L.length by unfold ilen at hn; omega, f2]
    refine cut_u hS (x := S.ssub s 0 r1) (a := c) (b := d) (by rw [e1]; exact f4) (by rw [e1]; omega) (by rw [e1, hn]; exact f8) fun t => ?_
    generalize hT : (allF l).take j.toNat = T at *
    cbv
    refine qev hS rfl rfl ?_
    cbv
    obtain ⟨nf, hnf⟩ : ∃ nf, nf = fstI (fun x => decide (id x = (c, d))) T 1 := ⟨_, rfl⟩
    obtain ⟨nn, hnn⟩ : ∃ nn, nn = fstI (fun x => decide (x.1 = c)) T 1 := ⟨_, rfl⟩
    refine lkF hS g1 hnf (fun q => ?_) (fun q => ?_) <;> cbv
    · have g1' := g1.keep (x := (c, d)) (fun e => q (hnf.trans e))
      refine lkN hS g2 hnn (fun q2 => ?_) (fun q2 => ?_) <;> cbv
      · have g2' := g2.keep (x := (c, d)) (fun e => q2 (hnn.trans e))
        repeat' (first
          | (refine s_st hS ?_; try cbv)
          | (refine qac hS ?_ ?_ <;> intro h <;> (try cbv) <;> try exact s_ab h)
          | (refine qau hS ?_; intro _ _; try cbv)
          | (refine qaf hS ?_; try cbv)
          | (refine qav hS ?_; intro _ _; try cbv)
          | (refine qbz hS ?_; try cbv)
          | fail)
        rename_i r2 hr2
        refine ⟨(j1, S.ssub s r2 (S.slen s), E1, E2), by dsimp only; omega, ⟨by dsimp only; omega, by dsimp only; omega, ?_, by dsimp only; rw [hj1, htn]; exact g1', by dsimp only; rw [hj1, htn]; exact g2'⟩, rfl, ?_, ?_, by cbv; (have ga := MapG.gcF g1' 16; have gb := MapG.gcN g2' 16; cbv at ga gb; first | rw [ga, gb] | (rw [ga]; rw [gb]))⟩
        · dsimp only
          rw [hj1, ← f3]
          subst hS
          show (s.take s.length).drop r2.toNat = _
          rw [List.take_length, show r2.toNat = L.length + 1 by unfold ilen at hn; omega]
        · cbv; all_goals exact s_sA
        · cbv; all_goals exact s_bA
      · refine muN (b := d) hS g2 (hnn.symm.trans q2) (show j1 = 1 + (T.length : Int) by omega) fun E2' g2' => ?_
        cbv
        repeat' (first
          | (refine s_st hS ?_; try cbv)
          | (refine qac hS ?_ ?_ <;> intro h <;> (try cbv) <;> try exact s_ab h)
          | (refine qau hS ?_; intro _ _; try cbv)
          | (refine qaf hS ?_; try cbv)
          | (refine qav hS ?_; intro _ _; try cbv)
          | (refine qbz hS ?_; try cbv)
          | fail)
        rename_i r2 hr2
        refine ⟨(j1, S.ssub s r2 (S.slen s), E1, E2'), by dsimp only; omega, ⟨by dsimp only; omega, by dsimp only; omega, ?_, by dsimp only; rw [hj1, htn]; exact g1', by dsimp only; rw [hj1, htn]; exact g2'⟩, rfl, ?_, ?_, by cbv; (have ga := MapG.gcF g1' 16; have gb := MapG.gcN g2' 16; cbv at ga gb; first | rw [ga, gb] | (rw [ga]; rw [gb]))⟩
        · dsimp only
          rw [hj1, ← f3]
          subst hS
          show (s.take s.length).drop r2.toNat = _
          rw [List.take_length, show r2.toNat = L.length + 1 by unfold ilen at hn; omega]
        · cbv; all_goals exact s_sA
        · cbv; all_goals exact s_bA
    · refine muF hS g1 (hnf.symm.trans q) (show j1 = 1 + (T.length : Int) by omega) fun E1' g1' => ?_
      cbv
      refine lkN hS g2 hnn (fun q2 => ?_) (fun q2 => ?_) <;> cbv
      · have g2' := g2.keep (x := (c, d)) (fun e => q2 (hnn.trans e))
        repeat' (first
          | (refine s_st hS ?_; try cbv)
          | (refine qac hS ?_ ?_ <;> intro h <;> (try cbv) <;> try exact s_ab h)
          | (refine qau hS ?_; intro _ _; try cbv)
          | (refine qaf hS ?_; try cbv)
          | (refine qav hS ?_; intro _ _; try cbv)
          | (refine qbz hS ?_; try cbv)
          | fail)
        rename_i r2 hr2
        refine ⟨(j1, S.ssub s r2 (S.slen s), E1', E2), by dsimp only; omega, ⟨by dsimp only; omega, by dsimp only; omega, ?_, by dsimp only; rw [hj1, htn]; exact g1', by dsimp only; rw [hj1, htn]; exact g2'⟩, rfl, ?_, ?_, by cbv; (have ga := MapG.gcF g1' 16; have gb := MapG.gcN g2' 16; cbv at ga gb; first | rw [ga, gb] | (rw [ga]; rw [gb]))⟩
        · dsimp only
          rw [hj1, ← f3]
          subst hS
          show (s.take s.length).drop r2.toNat = _
          rw [List.take_length, show r2.toNat = L.length + 1 by unfold ilen at hn; omega]
        · cbv; all_goals exact s_sA
        · cbv; all_goals exact s_bA
      · refine muN (b := d) hS g2 (hnn.symm.trans q2) (show j1 = 1 + (T.length : Int) by omega) fun E2' g2' => ?_
        cbv
        repeat' (first
          | (refine s_st hS ?_; try cbv)
          | (refine qac hS ?_ ?_ <;> intro h <;> (try cbv) <;> try exact s_ab h)
          | (refine qau hS ?_; intro _ _; try cbv)
          | (refine qaf hS ?_; try cbv)
          | (refine qav hS ?_; intro _ _; try cbv)
          | (refine qbz hS ?_; try cbv)
          | fail)
        rename_i r2 hr2
        refine ⟨(j1, S.ssub s r2 (S.slen s), E1', E2'), by dsimp only; omega, ⟨by dsimp only; omega, by dsimp only; omega, ?_, by dsimp only; rw [hj1, htn]; exact g1', by dsimp only; rw [hj1, htn]; exact g2'⟩, rfl, ?_, ?_, by cbv; (have ga := MapG.gcF g1' 16; have gb := MapG.gcN g2' 16; cbv at ga gb; first | rw [ga, gb] | (rw [ga]; rw [gb]))⟩
        · dsimp only
          rw [hj1, ← f3]
          subst hS
          show (s.take s.length).drop r2.toNat = _
          rw [List.take_length, show r2.toNat = L.length + 1 by unfold ilen at hn; omega]
        · cbv; all_goals exact s_sA
        · cbv; all_goals exact s_bA
  · obtain ⟨c, d, f1, f4, f5, f7, f8, f9, f10⟩ := line_last2 (j := j) (by omega) l
    rw [← k3] at f1 f4 f7 f8
    have hall := all_st (l := l) f5
    have htn := qdh hall k0
    have hlt : ((allF l).take j.toNat).length = j.toNat := by rw [List.length_take]; have := (List.getElem?_eq_some_iff.1 hall).1; omega
    generalize hT : (allF l).take j.toNat = T at *
    refine sidx_u hS (c := 10) (by omega) f1 ?_
    cbv
    refine s_br hS ?_ ?_ <;> intro h' <;> cbv <;> simp only [← hS, Int.ofNat_eq_natCast, cq, Bool.not_eq_true', Bool.not_eq_false', decide_eq_true_eq, decide_eq_false_iff_not, beq_iff_eq, beq_eq_false_iff_ne, ne_eq] at h'
    · repeat' (first
      | (refine s_st hS ?_; try cbv)
      | (refine qac hS ?_ ?_ <;> intro h <;> (try cbv) <;> try exact s_ab h)
      | (refine qau hS ?_; intro _ _; try cbv)
      | (refine qaf hS ?_; try cbv)
      | (refine qav hS ?_; intro _ _; try cbv)
      | (refine qbz hS ?_; try cbv)
      | (refine qev hS rfl rfl ?_; cbv)
      | fail)
      rename_i j1 hj1
      refine cut_u hS (a := c) (b := d) f4 (by omega) f8 fun t => ?_
      cbv
      refine qev hS rfl rfl ?_
      cbv
      obtain ⟨nzf9, hnzf9⟩ : ∃ nz, nz = (0 : Int) := ⟨_, rfl⟩
      refine lkF hS g1 (hnzf9.trans f9.symm) (fun q => ?_) (fun _ => ?_) <;> cbv
      · exact absurd hnzf9 q
      refine muF hS g1 f9 (show j1 = 1 + (T.length : Int) by omega) fun E1' g1' => ?_
      cbv
      obtain ⟨nzf10, hnzf10⟩ : ∃ nz, nz = (0 : Int) := ⟨_, rfl⟩
      refine lkN hS g2 (hnzf10.trans f10.symm) (fun q => ?_) (fun _ => ?_) <;> cbv
      · exact absurd hnzf10 q
      refine muN (b := d) hS g2 f10 (show j1 = 1 + (T.length : Int) by omega) fun E2' g2' => ?_
      cbv
      repeat' (first
        | (refine s_st hS ?_; try cbv)
        | (refine qac hS ?_ ?_ <;> intro h <;> (try cbv) <;> try exact s_ab h)
        | (refine qau hS ?_; intro _ _; try cbv)
        | (refine qaf hS ?_; try cbv)
        | (refine qav hS ?_; intro _ _; try cbv)
        | (refine qbz hS ?_; try cbv)
        | fail)
      rw [← htn] at g1' g2'
      clear g1 g2 htn hlt hall
      refine qbh hS 17 I.qdj (fun x : Int × Int × List (SV × SV) × List (SV × SV) => 0 ≤ x.1 ∧ x.1 ≤ m ∧ x.2.1 = x.1 + 20 ∧ MapG encF id x.2.2.1 ((allF l).take x.2.1.toNat) ∧ MapG SV.s Prod.fst x.2.2.2 ((allF l).take x.2.1.toNat)) (fun x => [(29, .i .i64 (.y x.1))]) (fun x => [(2, .m x.2.2.1), (3, .m x.2.2.2), (10, .c [.i .i64 (.y x.2.1)])]) (fun x => (m - x.1).toNat) (0, j1, E1', E2') rfl
        ⟨⟨Int.le_refl _, by dsimp only; omega, by dsimp only; omega, by dsimp only; rw [hj1]; exact g1', by dsimp only; rw [hj1]; exact g2'⟩, rfl, ?_, ?_, by cbv; (have ga := MapG.gcF g1' 17; have gb := MapG.gcN g2' 17; cbv at ga gb; first | rw [ga, gb] | (rw [ga]; rw [gb]))⟩ ?_
      · cbv; all_goals exact s_sA
      · cbv; all_goals exact s_bA
      clear g1' g2'
      intro x
      obtain ⟨q, u, E1, E2⟩ := x
      intro hx
      dsimp only at hx
      cbv
      obtain ⟨q0, q1, q2, g1, g2⟩ := hx
      refine qac hS ?_ ?_ <;> intro h <;> cbv
      · obtain ⟨⟨c, d⟩, hp⟩ := qkl (l := l) (i := q) (by omega) q0
        have hall := all_row q0 q2 hp
        have htn := qdh hall (by omega)
        have hlt : ((allF l).take u.toNat).length = u.toNat := by rw [List.length_take]; have := (List.getElem?_eq_some_iff.1 hall).1; omega
        generalize hT' : (allF l).take u.toNat = T at *
        repeat' (first
          | (refine s_st hS ?_; try cbv)
          | (refine qac hS ?_ ?_ <;> intro h <;> (try cbv) <;> try exact s_ab h)
          | (refine qau hS ?_; intro _ _; try cbv)
          | (refine qaf hS ?_; try cbv)
          | (refine qav hS ?_; intro _ _; try cbv)
          | (refine qbz hS ?_; try cbv)
          | (refine rowF hS hF hp (by omega) ?_; cbv)
          | fail)
        rename_i u1 hu1
        refine qev hS rfl rfl ?_
        cbv
        obtain ⟨nf, hnf⟩ : ∃ nf, nf = fstI (fun x => decide (id x = (c, d))) T 1 := ⟨_, rfl⟩
        obtain ⟨nn, hnn⟩ : ∃ nn, nn = fstI (fun x => decide (x.1 = c)) T 1 := ⟨_, rfl⟩
        refine lkF hS g1 hnf (fun q => ?_) (fun q => ?_) <;> cbv
        · have g1' := g1.keep (x := (c, d)) (fun e => q (hnf.trans e))
          refine lkN hS g2 hnn (fun q2 => ?_) (fun q2 => ?_) <;> cbv
          · have g2' := g2.keep (x := (c, d)) (fun e => q2 (hnn.trans e))
            repeat' (first
              | (refine s_st hS ?_; try cbv)
              | (refine qac hS ?_ ?_ <;> intro h <;> (try cbv) <;> try exact s_ab h)
              | (refine qau hS ?_; intro _ _; try cbv)
              | (refine qaf hS ?_; try cbv)
              | (refine qav hS ?_; intro _ _; try cbv)
              | (refine qbz hS ?_; try cbv)
              | fail)
            rename_i q4 hq4
            refine ⟨(q4, u1, E1, E2), by dsimp only; omega, ⟨by dsimp only; omega, by dsimp only; omega, by dsimp only; omega, by dsimp only; rw [hu1, htn]; exact g1', by dsimp only; rw [hu1, htn]; exact g2'⟩, rfl, ?_, ?_, by cbv; (have ga := MapG.gcF g1' 17; have gb := MapG.gcN g2' 17; cbv at ga gb; first | rw [ga, gb] | (rw [ga]; rw [gb]))⟩
            · cbv; all_goals exact s_sA
            · cbv; all_goals exact s_bA
          · refine muN (b := d) hS g2 (hnn.symm.trans q2) (show u1 = 1 + (T.length : Int) by omega) fun E2' g2' => ?_
            cbv
            repeat' (first
              | (refine s_st hS ?_; try cbv)
              | (refine qac hS ?_ ?_ <;> intro h <;> (try cbv) <;> try exact s_ab h)
              | (refine qau hS ?_; intro _ _; try cbv)
              | (refine qaf hS ?_; try cbv)
              | (refine qav hS ?_; intro _ _; try cbv)
              | (refine qbz hS ?_; try cbv)
              | fail)
            rename_i q4 hq4
            refine ⟨(q4, u1, E1, E2'), by dsimp only; omega, ⟨by dsimp only; omega, by dsimp only; omega, by dsimp only; omega, by dsimp only; rw [hu1, htn]; exact g1', by dsimp only; rw [hu1, htn]; exact g2'⟩, rfl, ?_, ?_, by cbv; (have ga := MapG.gcF g1' 17; have gb := MapG.gcN g2' 17; cbv at ga gb; first | rw [ga, gb] | (rw [ga]; rw [gb]))⟩
            · cbv; all_goals exact s_sA
            · cbv; all_goals exact s_bA
        · refine muF hS g1 (hnf.symm.trans q) (show u1 = 1 + (T.length : Int) by omega) fun E1' g1' => ?_
          cbv
          refine lkN hS g2 hnn (fun q2 => ?_) (fun q2 => ?_) <;> cbv
          · have g2' := g2.keep (x := (c, d)) (fun e => q2 (hnn.trans e))
            repeat' (first
              | (refine s_st hS ?_; try cbv)
              | (refine qac hS ?_ ?_ <;> intro h <;> (try cbv) <;> try exact s_ab h)
              | (refine qau hS ?_; intro _ _; try cbv)
              | (refine qaf hS ?_; try cbv)
              | (refine qav hS ?_; intro _ _; try cbv)
              | (refine qbz hS ?_; try cbv)
              | fail)
            rename_i q4 hq4
            refine ⟨(q4, u1, E1', E2), by dsimp only; omega, ⟨by dsimp only; omega, by dsimp only; omega, by dsimp only; omega, by dsimp only; rw [hu1, htn]; exact g1', by dsimp only; rw [hu1, htn]; exact g2'⟩, rfl, ?_, ?_, by cbv; (have ga := MapG.gcF g1' 17; have gb := MapG.gcN g2' 17; cbv at ga gb; first | rw [ga, gb] | (rw [ga]; rw [gb]))⟩
            · cbv; all_goals exact s_sA
            · cbv; all_goals exact s_bA
          · refine muN (b := d) hS g2 (hnn.symm.trans q2) (show u1 = 1 + (T.length : Int) by omega) fun E2' g2' => ?_
            cbv
            repeat' (first
              | (refine s_st hS ?_; try cbv)
              | (refine qac hS ?_ ?_ <;> intro h <;> (try cbv) <;> try exact s_ab h)
              | (refine qau hS ?_; intro _ _; try cbv)
              | (refine qaf hS ?_; try cbv)
              | (refine qav hS ?_; intro _ _; try cbv)
              | (refine qbz hS ?_; try cbv)
              | fail)
            rename_i q4 hq4
            refine ⟨(q4, u1, E1', E2'), by dsimp only; omega, ⟨by dsimp only; omega, by dsimp only; omega, by dsimp only; omega, by dsimp only; rw [hu1, htn]; exact g1', by dsimp only; rw [hu1, htn]; exact g2'⟩, rfl, ?_, ?_, by cbv; (have ga := MapG.gcF g1' 17; have gb := MapG.gcN g2' 17; cbv at ga gb; first | rw [ga, gb] | (rw [ga]; rw [gb]))⟩
            · cbv; all_goals exact s_sA
            · cbv; all_goals exact s_bA
      · have hta : (allF l).take u.toNat = allF l := qbf (by rw [allF_len]; omega)
        rw [hta] at g1 g2
        have b1 : (fun x : Fd => x == (a, b)) = fun x => decide (id x = (a, b)) := by funext x; rw [Bool.eq_iff_iff]; simp
        have b2 : (fun x : Fd => x.1 == (a, b).1) = fun x => decide (x.1 = a) := by funext x; rw [Bool.eq_iff_iff]; simp
        rw [b1, b2] at hr
        obtain ⟨nf, hnf⟩ : ∃ nf, nf = fstI (fun x => decide (id x = (a, b))) (allF l) 1 := ⟨_, rfl⟩
        obtain ⟨nn, hnn⟩ : ∃ nn, nn = fstI (fun x => decide (x.1 = a)) (allF l) 1 := ⟨_, rfl⟩
        rw [← hnf, ← hnn] at hr
        refine lkF hS g1 hnf (fun q => ?_) (fun q => ?_) <;> cbv
        · rw [if_pos q] at hr
          cases hr
          repeat' (first
            | (refine s_st hS ?_; try cbv)
            | (refine qac hS ?_ ?_ <;> intro h <;> (try cbv) <;> try exact s_ab h)
            | (refine qau hS ?_; intro _ _; try cbv)
            | (refine qaf hS ?_; try cbv)
            | (refine qav hS ?_; intro _ _; try cbv)
            | (refine qbz hS ?_; try cbv)
            | fail)
          all_goals exact s_sA
        · rw [if_neg (fun h => h q)] at hr
          refine lkN hS g2 hnn (fun q => ?_) (fun q => ?_) <;> cbv
          · cases hr
            repeat' (first
              | (refine s_st hS ?_; try cbv)
              | (refine qac hS ?_ ?_ <;> intro h <;> (try cbv) <;> try exact s_ab h)
              | (refine qau hS ?_; intro _ _; try cbv)
              | (refine qaf hS ?_; try cbv)
              | (refine qav hS ?_; intro _ _; try cbv)
              | (refine qbz hS ?_; try cbv)
              | fail)
            all_goals exact s_sA
          · cases hr
            repeat' (first
              | (refine s_st hS ?_; try cbv)
              | (refine qac hS ?_ ?_ <;> intro h <;> (try cbv) <;> try exact s_ab h)
              | (refine qau hS ?_; intro _ _; try cbv)
              | (refine qaf hS ?_; try cbv)
              | (refine qav hS ?_; intro _ _; try cbv)
              | (refine qbz hS ?_; try cbv)
              | fail)
            all_goals exact s_sA
    · omega
end Tb
end Cz
namespace Cz
open Go Go.RowKit Go.Proofs
namespace Tb
section
variable {S : Sy} {bl : List Blk} {K : SV → List Blk → Prop} {cs : List SV} {mx mx' e n : Int} {l l' : List Fd} {F : List SV} {a b : List UInt8}
theorem qhk (hS : S0 Tryd.prog = S) {g : FuncId} {args args' : List SV} {y y' : SV} (hF : (S0 Tryd.prog).call g args' [] (Tell y)) (ha : SubL args args') (hr : refsBL (fun _ => false) args' = true) (hy : Sub y y') (hK : K y' bl) : S.call g args bl K := by
  subst hS
  exact qbi (qft rfl hF ha hr (K := fun x l' => x = y ∧ l' = bl) ⟨rfl, rfl⟩) fun x l' h => ⟨y', h.1 ▸ hy, h.2 ▸ hK⟩
theorem tabE_l (hF : cellsF l' = F) (hn : ilen l' = n) : Sub (tabE mx' l' e) (.tp [.ag [.i .i64 (.l mx'), .v true 2 F (.l n)], .i .i64 (.l e)]) := by
  subst hF hn
  exact qch (.cons (qec (.cons (qba rfl) (.cons (qcg rfl rfl) .nil))) (.cons (qba rfl) .nil))
theorem new_l (hS : S0 Tryd.prog = S) {most : Z} (hr : newR most.v = ((mx', l'), e)) (hF : cellsF l' = F) (hn : ilen l' = n) (hK : K (.tp [.ag [.i .i64 (.l mx'), .v true 2 F (.l n)], .i .i64 (.l e)]) bl) :
    S.call 19 [.i .i64 most] bl K :=
  qbq hS (qbi (new_f hr) fun x _ h => ⟨x, .rfl, h.trans (tabE_l (e := e) hF hn)⟩) (.cons (qba rfl) .nil) rfl rfl hK
theorem add_l (hS : S0 Tryd.prog = S) (hc : TabC [] cs mx l) (hr : addR (mx, l) (a, b) = ((mx', l'), e)) (hF : cellsF l' = F) (hn : ilen l' = n) (hb : fullL l ≤ 10000000) (hs : szF (a, b) ≤ 10000000)
    (hK : K (.tp [.ag [.i .i64 (.l mx'), .v true 2 F (.l n)], .i .i64 (.l e)]) bl) : S.call 28 [.ag cs, .ag [.s a, .s b]] bl K := by
  refine qhk hS (add_f hr hb hs) ?_ rfl (tabE_l hF hn) hK
  match hc.sub with
  | .cons h _ => exact .cons h .rfl
theorem res_l (hS : S0 Tryd.prog = S) (hc : TabC [] cs mx l) {most : Z} (hr : resR (mx, l) most.v = ((mx', l'), e)) (hF : cellsF l' = F) (hn : ilen l' = n) (hb : fullL l ≤ 100000000)
    (hK : K (.tp [.ag [.i .i64 (.l mx'), .v true 2 F (.l n)], .i .i64 (.l e)]) bl) : S.call 30 [.ag cs, .i .i64 most] bl K := by
  refine qhk hS (res_f hr hb) ?_ rfl (tabE_l hF hn) hK
  match hc.sub with
  | .cons h _ => exact .cons h (.cons (qba rfl) .nil)
theorem find_l (hS : S0 Tryd.prog = S) (hc : TabC bl cs mx l) {t : Bool} (hr : findR l (a, b) = (n, t)) (hm : ilen l ≤ 100000000) (hK : K (.tp [.i .i64 (.l n), ofB t]) bl) : S.call 34 [.ag cs, .ag [.s a, .s b]] bl K :=
  qbw hS (qbg (find_f hr hm)) (hc.fzi .rfl rfl) rfl (by cases t <;> rfl) hK
theorem at_l (hS : S0 Tryd.prog = S) {z : Z} (hc : TabC bl cs mx l) (hr : atR l z.v = ((a, b), e)) (hm : ilen l ≤ 100000000) (hK : K (.tp [.ag [.s a, .s b], .i .i64 (.l e)]) bl) : S.call 32 [.ag cs, .i .i64 z] bl K :=
  qbw hS (qbg (at_f hr hm)) (hc.fzi (qba (b := .y z.v) rfl) rfl) rfl rfl hK
theorem static_l (hS : S0 Tryd.prog = S) {z : Z} {t : Bool} (hr : statR z.v = ((a, b), t)) (hK : K (.tp [.ag [.s a, .s b], ofB t]) bl) : S.call 17 [.i .i64 z] bl K :=
  qbq hS (qbg (static_f hr)) (.cons (qba rfl) .nil) rfl (by cases t <;> rfl) hK
theorem full_l (hS : S0 Tryd.prog = S) (hc : TabC bl cs mx l) (hn : n = fullL l) (h : n ≤ 100000000) (hK : K (.i .i64 (.l n)) bl) : S.call 24 [.ag cs] bl K :=
  qbw hS (qbg (full_f hn h)) hc.fz rfl rfl hK
theorem right_l (hS : S0 Tryd.prog = S) (hc : TabC bl cs mx l) {t : Bool} (ht : rightL mx l = t) (h : fullL l ≤ 100000000) (hK : K (ofB t) bl) : S.call 26 [.ag cs] bl K :=
  qbw hS (qbg (right_f ht h)) hc.fz rfl (by cases t <;> rfl) hK
theorem size_l (hS : S0 Tryd.prog = S) (hn : n = szF (a, b)) (h : n ≤ 1000000000) (hK : K (.i .i64 (.l n)) bl) : S.call 22 [.ag [.s a, .s b]] bl K :=
  qbq hS (qbg (size_f hn (by omega))) .rfl rfl rfl hK
theorem same_l (hS : S0 Tryd.prog = S) {cs' : List SV} {my : Int} {k : List Fd} (hc : TabC bl cs mx l) (hc' : TabC bl cs' my k) {t : Bool} (ht : decide (mx = my ∧ l = k) = t) (hl : ilen l ≤ 100000000) (hk : ilen k ≤ 100000000) (hK : K (ofB t) bl) :
    S.call 36 [.ag cs, .ag cs'] bl K :=
  qbw hS (qbg (same_f ht hl hk)) (fz_two hc.fz hc'.fz rfl rfl) rfl (by cases t <;> rfl) hK
end
abbrev fa : Fd := ([97], [49])
abbrev fb : Fd := ([98], [50])
abbrev fc : Fd := ([99], [51])
theorem qwk : (S0 Tryd.prog).call 16 [] [] (fun y _ => Sub y .tt) := by
  generalize hS : S0 Tryd.prog = S
  refine qab hS I.qie ?_
  cbv
  refine new_l hS (mx' := 100) (l' := []) (e := 0) rfl rfl rfl ?_
  cbv
  refine add_l hS (mx := 100) (l := []) (mx' := 100) (l' := [fa]) (e := 0) (.v rfl rfl rfl) (by decide +kernel) rfl rfl (by decide +kernel) (by decide +kernel) ?_
  cbv
  refine add_l hS (mx := 100) (l := [fa]) (mx' := 100) (l' := [fb, fa]) (e := 0) (.v rfl rfl rfl) (by decide +kernel) rfl rfl (by decide +kernel) (by decide +kernel) ?_
  cbv
  refine add_l hS (mx := 100) (l := [fb, fa]) (mx' := 100) (l' := [fc, fb]) (e := 0) (.v rfl rfl rfl) (by decide +kernel) rfl rfl (by decide +kernel) (by decide +kernel) ?_
  cbv
  refine find_l hS (mx := 100) (l := [fc, fb]) (.v rfl rfl rfl) (n := 1) (t := false) (by decide +kernel) (by decide +kernel) ?_
  cbv
  refine find_l hS (mx := 100) (l := [fc, fb]) (.v rfl rfl rfl) (n := 2) (t := true) (by decide +kernel) (by decide +kernel) ?_
  cbv
  refine find_l hS (mx := 100) (l := [fc, fb]) (.v rfl rfl rfl) (n := 22) (t := true) (by decide +kernel) (by decide +kernel) ?_
  cbv
  refine at_l hS (mx := 100) (l := [fc, fb]) (.v rfl rfl rfl) (a := [99]) (b := [51]) (e := 0) (by decide +kernel) (by decide +kernel) ?_
  cbv
  refine at_l hS (mx := 100) (l := [fc, fb]) (.v rfl rfl rfl) (a := []) (b := []) (e := 90) (by decide +kernel) (by decide +kernel) ?_
  cbv
  refine static_l hS (a := [112, 114, 105, 111, 114, 105, 116, 121]) (b := [117, 61, 49]) (t := true) (by decide +kernel) ?_
  cbv
  refine static_l hS (a := []) (b := []) (t := false) (by decide +kernel) ?_
  cbv
  refine res_l hS (mx := 100) (l := [fc, fb]) (mx' := 40) (l' := [fc]) (e := 0) (.v rfl rfl rfl) (by decide +kernel) rfl rfl (by decide +kernel) ?_
  cbv
  refine new_l hS (mx' := 0) (l' := []) (e := 2) rfl rfl rfl ?_
  cbv
  refine full_l hS (mx := 100) (l := [fa]) (.v rfl rfl rfl) (n := 34) (by decide +kernel) (by decide) ?_
  cbv
  refine full_l hS (mx := 100) (l := [fb, fa]) (.v rfl rfl rfl) (n := 68) (by decide +kernel) (by decide) ?_
  cbv
  refine full_l hS (mx := 100) (l := [fc, fb]) (.v rfl rfl rfl) (n := 68) (by decide +kernel) (by decide) ?_
  cbv
  repeat' (first
    | (refine s_st hS ?_; try cbv)
    | (refine qac hS ?_ ?_ <;> intro h <;> (try cbv) <;> try exact s_ab h)
    | (refine qau hS ?_; intro _ _; try cbv)
    | (refine qaf hS ?_; try cbv)
    | (refine qav hS ?_; intro _ _; try cbv)
    | (refine qbz hS ?_; try cbv)
    | fail)
  refine right_l hS (mx := 100) (l := [fc, fb]) (.v rfl rfl rfl) (t := true) (by decide +kernel) (by decide +kernel) ?_
  cbv
  refine right_l hS (mx := -1) (l := []) (.nil rfl) (t := false) (by decide +kernel) (by decide +kernel) ?_
  cbv
  refine size_l hS (n := 43) (by decide +kernel) (by decide) ?_
  cbv
  refine same_l hS (mx := 100) (l := [fc, fb]) (my := 100) (k := [fc, fb]) (.v rfl rfl rfl) (.v rfl rfl rfl) (t := true) (by decide +kernel) (by decide +kernel) (by decide +kernel) ?_
  cbv
  refine same_l hS (mx := 100) (l := [fc, fb]) (my := 40) (k := [fc]) (.v rfl rfl rfl) (.v rfl rfl rfl) (t := false) (by decide +kernel) (by decide +kernel) (by decide +kernel) ?_
  cbv
  exact .rfl
theorem qfs {S : Sy} {bl : List Blk} {K : SV → List Blk → Prop} (hS : S0 Tryd.prog = S) (hK : K .tt bl) : S.call 16 [] bl K := qbq hS qwk .rfl rfl rfl hK
theorem evL_len (mx : Int) (l : List Fd) : ilen (evL mx l) ≤ ilen l := by unfold ilen evL; rw [List.length_take]; omega
theorem right_ev {mx : Int} {l : List Fd} (h0 : 0 ≤ mx) (h1 : mx ≤ 4096) : rightL mx (evL mx l) = true := decide_eq_true ⟨h0, h1, qwb h0⟩
end Tb
end Cz
namespace Cz
open Go Go.RowKit Go.Proofs
namespace Tb
section
variable {S : Sy} {bl : List Blk} {K : SV → List Blk → Prop} {cs : List SV} {mx mx' e n : Int} {l l' : List Fd} {F : List SV} {a b : List UInt8}
theorem tabE_g (hF : cellsF l' = F) (hn : n = ilen l') : Sub (tabE mx' l' e) (.tp [.ag [.i .i64 (.y mx'), .v false 2 F (.y n)], .i .i64 (.y e)]) := by
  subst hF hn; exact .rfl
theorem add_g (hS : S0 Tryd.prog = S) (hc : TabC [] cs mx l) (hr : addR (mx, l) (a, b) = ((mx', l'), e)) (hF : cellsF l' = F) (hn : n = ilen l') (hb : fullL l ≤ 10000000) (hs : szF (a, b) ≤ 10000000)
    (hK : K (.tp [.ag [.i .i64 (.y mx'), .v false 2 F (.y n)], .i .i64 (.y e)]) bl) : S.call 28 [.ag cs, .ag [.s a, .s b]] bl K := by
  refine qhk hS (add_f hr hb hs) ?_ rfl (tabE_g hF hn) hK
  match hc.sub with
  | .cons h _ => exact .cons h .rfl
theorem qww (hS : S0 Tryd.prog = S) (hc : TabC [] cs mx l) {most : Z} (hr : resR (mx, l) most.v = ((mx', l'), e)) (hF : cellsF l' = F) (hn : n = ilen l') (hb : fullL l ≤ 10000000)
    (hK : K (.tp [.ag [.i .i64 (.y mx'), .v false 2 F (.y n)], .i .i64 (.y e)]) bl) : S.call 30 [.ag cs, .i .i64 most] bl K := by
  refine qhk hS (res_f hr (by omega)) ?_ rfl (tabE_g hF hn) hK
  match hc.sub with
  | .cons h _ => exact .cons h (.cons (qba rfl) .nil)
theorem find_g (hS : S0 Tryd.prog = S) {t : Bool} (hc : TabC bl cs mx l) (hr : findR l (a, b) = (n, t)) (hm : ilen l ≤ 100000000) (hK : K (.tp [.i .i64 (.y n), .b t]) bl) : S.call 34 [.ag cs, .ag [.s a, .s b]] bl K :=
  qbw hS (find_f hr hm) (hc.fzi .rfl rfl) rfl rfl hK
theorem qly (hS : S0 Tryd.prog = S) (hn : n = szF (a, b)) (h : n ≤ 1000000000000000000) (hK : K (.i .i64 (.y n)) bl) : S.call 22 [.ag [.s a, .s b]] bl K :=
  qbq hS (size_f hn h) .rfl rfl rfl hK
theorem rsame_t (hS : S0 Tryd.prog = S) {cs' : List SV} (hc : TabC bl cs mx l) (hc' : TabC bl cs' mx l) (hl : ilen l ≤ 100000000) (hK : K .tt bl) : S.call 21 [.ag cs, .ag cs'] bl K :=
  qbw hS (qbg (rsame_f (decide_eq_true ⟨rfl, rfl⟩) hl hl)) (fz_two hc.fz hc'.fz rfl rfl) rfl rfl hK
end
end Tb
end Cz
namespace Cz
open Go Go.RowKit
def Ctx (C : SV → SV) : Prop := ∀ (ρ : Nms) (s : SV) (v : Value), den ρ (C s) v → ∃ u, den ρ s u ∧ ∀ (ρ' : Nms) (s' : SV), ρ'.fz = ρ.fz → den ρ' s' u → den ρ' (C s') v
section
variable {P : Program} {l : List Blk}
theorem call_one {C : SV → SV} (hC : Ctx C) {sz : Nat} {F : List SV} {n : Int} {g : FuncId} {args : List SV}
    (hF : (S0 P).call g args [] (fun x l' => ∃ (j : Nat) (lit : Bool) (st z : Z) (F' : List SV), x = C (.sl j sz (.l 0) z none) ∧ l'[j]? = some (.r false lit st sz F') ∧ plains F' = true ∧ F'.take (z.v.toNat * sz) = F ∧ z.v = n)) :
    (S0 P).call g args [] (fun x l' => ∃ (j : Nat) (z : Z), x = C (.sl j sz (.l 0) z none) ∧ l'[j]? = some (.r false false (.l 0) sz F) ∧ z.v = n) := by
  intro N W0 ρ W vals hR hd
  refine NextR.mono ?_ (hF N W0 ρ W vals hR hd)
  rintro v W' ⟨ρ', x, l', ⟨j, lit, st, z, F', rfl, hB, hp, hFF, hz⟩, hle, hll, hR', hdv⟩
  obtain ⟨u, hu, hback⟩ := hC _ _ _ hdv
  have hj := (List.getElem?_eq_some_iff.1 hB).1
  obtain ⟨hsz, hvs, _, hown⟩ := hR'.blk j _ hB
  obtain ⟨cur, _, _, hown2, _, _⟩ := hown rfl
  simp only [den] at hu
  obtain ⟨h0, h1, vw, hvw, hin, hs⟩ := hu
  have e0 : (Z.l 0).v.toNat = 0 := rfl
  rw [e0] at hs hin
  rw [Nat.zero_add] at hin
  -- the slice's own view
  have key : ∃ vw0 : View, vw0.n = F.length ∧ vw0.n ≤ vw0.cap * sz ∧ (∀ a, vw0.base = some a → vw.base = some a) ∧ ViewOk W' ρ' F vw0 ∧ OwnOk N W' vw0 (vw0.cap * sz) ∧ (0 + z.v.toNat) * sz ≤ vw0.n ∧ SlVal vw0 sz 0 z.v.toNat (Option.map Z.v none) u := by
    have empty : z.v.toNat = 0 → (∃ a', u = .slice a' 0 0) → ∃ vw0 : View, vw0.n = F.length ∧ vw0.n ≤ vw0.cap * sz ∧ (∀ a, vw0.base = some a → vw.base = some a) ∧ ViewOk W' ρ' F vw0 ∧ OwnOk N W' vw0 (vw0.cap * sz) ∧ (0 + z.v.toNat) * sz ≤ vw0.n ∧ SlVal vw0 sz 0 z.v.toNat (Option.map Z.v none) u := by
      intro hz0 ha
      have hF0 : F = [] := by rw [← hFF, hz0]; simp
      subst hF0
      exact ⟨⟨none, 0, 0⟩, rfl, Nat.zero_le _, (fun a h => by cases h), ⟨Nat.zero_le _, fun _ => ⟨rfl, rfl⟩, fun q x hq _ => by simp at hq⟩, (fun a h => by cases h), by rw [hz0]; simp, ⟨rfl, hz0, ha⟩⟩
    have hv := hvs vw hvw
    unfold SlVal at hs
    cases hb : vw.base with
    | none =>
      rw [hb] at hs
      rw [← hb] at *
      exact empty hs.2.1 hs.2.2
    | some a =>
      rw [hb] at hs
      rcases hs with ⟨c, e, hc, hc2, hc3⟩ | ⟨h2, h3, _⟩
      · have hlen : F.length = z.v.toNat * sz := by rw [← hFF, List.length_take]; have := hv.1; omega
        refine ⟨⟨some a, z.v.toNat * sz, c⟩, hlen.symm, Nat.mul_le_mul_right _ hc, fun b h => by rw [← h], ⟨by rw [hlen]; exact Nat.le_refl _, fun h => by (cases h), fun q x hq hx => ?_⟩, ?_, by rw [Nat.zero_add]; exact Nat.le_refl _, ?_⟩
        · have hq' : q < z.v.toNat * sz := hq
          have : F'[q]? = some x := by rw [← hFF, List.getElem?_take_of_lt hq'] at hx; exact hx
          obtain ⟨a', w, g1, g2, g3⟩ := hv.2.2 q x (by omega) this
          rw [hb] at g1
          exact ⟨a', w, g1, g2, g3⟩
        · have hc4 : c = vw.cap := by have h5 : 0 + c = vw.cap := hc3; omega
          intro b hb'
          have := hown2 vw hvw b (by rw [hb]; exact hb')
          rw [hc4]; exact this
        · unfold SlVal
          refine .inl ⟨c, e, hc, by rw [Nat.zero_add]; exact Nat.le_refl _, ?_⟩
          simp only [Option.map_none, Nat.zero_add]
      · exact hb ▸ empty h2 h3
  obtain ⟨vw0, k1, k2, k3, k4, k5, k6, k7⟩ := key
  let ρ2 : Nms := ⟨fun k => if k = j then [vw0] else ρ' k, ρ'.fz, ρ'.q⟩
  have hj2 : ρ2 j = [vw0] := by simp [ρ2]
  have ho2 : ∀ k, k ≠ j → ρ2 k = ρ' k := fun k hk => by simp [ρ2, hk]
  have hpF : plains F = true := by rw [← hFF]; exact qgv fun x hx => qbp hp x (List.mem_of_mem_take hx)
  have hat : ∀ (k : Nat) (B : Blk), ((List.replicate l'.length Blk.dead).set j (.r false false (.l 0) sz F))[k]? = some B → B.wr = true → k = j ∧ B = .r false false (.l 0) sz F := by
    intro k B hk hw
    by_cases e : k = j
    · subst e
      rw [List.getElem?_set_self (by simpa using hj)] at hk
      exact ⟨rfl, (Option.some.inj hk).symm⟩
    · rw [List.getElem?_set_ne (fun h => e h.symm), List.getElem?_replicate] at hk
      split at hk
      · cases hk; cases hw
      · cases hk
  refine ⟨ρ2, C (.sl j sz (.l 0) z none), (List.replicate l'.length Blk.dead).set j (.r false false (.l 0) sz F), ⟨j, z, rfl, ?_, hz⟩, ⟨fun k hk => absurd hk (Nat.not_lt_zero k), hle.fz, hle.fq, hle.q⟩, by simp, ⟨hR'.below, hR'.le, ?_, ?_, ?_, ?_, ?_, hR'.qN, hR'.fin, ?_⟩, ?_⟩
  · rw [List.getElem?_set_self (by simpa using hj)]
  · intro k hk
    simp only [List.length_set, List.length_replicate] at hk
    rw [ho2 k (by omega)]; exact hR'.out k hk
  · intro k vw' a hv ha
    by_cases e : k = j
    · subst e
      rw [hj2, List.mem_singleton] at hv; subst hv
      exact hR'.ids k vw a hvw (k3 a ha)
    · rw [ho2 k e] at hv; exact hR'.ids k vw' a hv ha
  · intro k B hk
    by_cases e : k = j
    · subst e
      rw [List.getElem?_set_self (by simpa using hj)] at hk
      simp only [Option.some.injEq] at hk; subst hk
      refine ⟨hsz, fun vw' hv => ?_, fun _ x hx => qbp hpF x hx, fun _ => ⟨vw0, by rw [hj2]; simp, k1, fun vw' hv => ?_, k2, fun vw' hv => ?_⟩⟩
      · rw [hj2, List.mem_singleton] at hv; subst hv
        exact ViewOk.plain (ρ := ρ') ρ2 (fun _ _ _ h => h) hpF k4
      · rw [hj2, List.mem_singleton] at hv; subst hv; exact k5
      · rw [hj2, List.mem_singleton] at hv; subst hv; exact .inl ⟨rfl, rfl⟩
    · rw [List.getElem?_set_ne (fun h => e h.symm), List.getElem?_replicate] at hk
      split at hk
      · cases hk; trivial
      · cases hk
  · intro k k' B vw1 vw2 a a' hB' hw hne hv hv' ha ha'
    obtain ⟨rfl, _⟩ := hat k B hB' hw
    rw [hj2, List.mem_singleton] at hv; subst hv
    rw [ho2 k' (fun e => hne e.symm)] at hv'
    exact hR'.sep k k' _ vw vw2 a a' hB rfl hne hvw hv' (k3 a ha) ha'
  · intro k B vw1 a hB' hw hv ha
    obtain ⟨rfl, _⟩ := hat k B hB' hw
    rw [hj2, List.mem_singleton] at hv; subst hv
    exact hR'.own k _ vw a hB rfl hvw (k3 a ha)
  · intro k B vw1 a hB' hw hv ha o
    obtain ⟨rfl, _⟩ := hat k B hB' hw
    rw [hj2, List.mem_singleton] at hv; subst hv
    exact hR'.fsep k _ vw a hB rfl hvw (k3 a ha) o
  · refine hback ρ2 _ rfl ?_
    simp only [den]
    exact ⟨h0, h1, vw0, by rw [hj2]; simp, by rw [e0]; exact k6, by rw [e0]; exact k7⟩
end
section
variable {P : Program} {l : List Blk}
theorem qng {S : Sy} (hS : S0 P = S) {C : SV → SV} (hC : Ctx C) (hCz : ∀ (l' : List Blk) (j m : Nat) (z z' : Z) (sz : Nat), z.v = z'.v → Fz l' (fun i => m + i) [some j] (C (.sl j sz (.l 0) z none)) (C (.sl m sz (.l 0) z' none))) {sz : Nat} {F : List SV} {n : Int} {g : FuncId} {args args' : List SV} {K : SV → List Blk → Prop}
    (hF : (S0 P).call g args' [] (fun x l' => ∃ (j : Nat) (lit : Bool) (st z : Z) (F' : List SV), x = C (.sl j sz (.l 0) z none) ∧ l'[j]? = some (.r false lit st sz F') ∧ plains F' = true ∧ F'.take (z.v.toNat * sz) = F ∧ z.v = n)) (ha : SubL args args')
    (hr : refsBL (fun _ => false) args' = true) (hsz : 0 < sz) (hp : plains F = true) (hK : K (C (.sl (len l) sz (.l 0) (.y n) none)) (snoc l (.r false false (.y 0) sz F))) : S.call g args l K := by
  subst hS
  refine qki ha (qrj (Z := fun sts => sts 0 = 0) (rows := [(sz, F)]) (y := fun m => C (.sl m sz (.l 0) (.y n) none)) (qbi (call_one hC hF) fun x l' h => ⟨x, .rfl, ?_⟩) hr ⟨⟨hsz, hp⟩, trivial⟩ fun sts hz => ?_)
  · obtain ⟨j, z, rfl, hj, hz⟩ := h
    refine ⟨[some j], ⟨⟨_, _, _, hj, .rfl⟩, rfl, trivial⟩, fun m => hCz l' j m z (.y n) sz hz, ?_⟩
    simp only [stsOf, List.getElem?_cons_zero, hj]
    rfl
  · have : rowBs sts [(sz, F)] 0 = [.r false false (.y 0) sz F] := by simp only [rowBs, hz]
    rw [this]
    rw [qbo, qbx] at hK
    exact hK
end
end Cz
namespace Cz
open Go Go.RowKit Go.Proofs
namespace Pa
def upP (w : Int) : Int := if w = 1 then 64 else if w = 2 then 16 else 0
def bitP (w : Int) : Int := if w = 1 then 6 else 4
def powP (w : Int) : Int := if w = 1 then 64 else 16
theorem of_f {w u k : Int} (hu : u = upP w) (hk : k = bitP w) : (S0 Tryd.prog).call 70 [.i .i64 (.y w)] [] (fun y _ => Sub y (.ag [.i .i64 (.y u), .i .i64 (.y k)])) := by
  generalize hS : S0 Tryd.prog = S
  refine qab hS I.qvu ?_
  cbv
  refine qab hS I.qqc ?_
  cbv
  refine s_drawT hS rfl I.qkq (by decide +kernel) ?_
  cbv
  refine ⟨?_, ?_⟩ <;> cbv
  all_goals
    repeat' (first
      | (refine qbl hS rfl ?_; try cbv)
      | (refine s_ck hS ?_; try cbv)
      | (refine qac hS ?_ ?_ <;> intro h <;> (try cbv) <;> try exact s_ab h)
      | (refine s_ad hS ?_; intro _ _; try cbv)
      | (refine s_sb hS ?_; intro _ _; try cbv)
      | (refine qav hS ?_; intro _ _; try cbv)
      | (refine qaf hS ?_; try cbv)
      | (refine qbm hS ?_; try cbv)
      | (refine s_lk hS ?_; try cbv)
      | (refine s_mu hS ?_; try cbv)
      | fail)
    all_goals exact qec (.cons (qba (by simp only [Z.v]; rw [hu]; unfold upP; split <;> (try split) <;> omega)) (.cons (qba (by simp only [Z.v]; rw [hk]; unfold bitP; split <;> omega)) .nil))
theorem of_u {S : Sy} {bl : List Blk} {K : SV → List Blk → Prop} (hS : S0 Tryd.prog = S) {z : Z} {w : Int} (hz : z.v = w) (hK : ∀ u k, u = upP w → k = bitP w → K (.ag [.i .i64 (.y u), .i .i64 (.y k)]) bl) : S.call 70 [.i .i64 z] bl K :=
  qbq hS (of_f (w := w) rfl rfl) (.cons (qba hz) .nil) rfl rfl (hK _ _ rfl rfl)
theorem repS_len (z : List SV) : ∀ n, (repS n z).length = n * z.length
  | 0 => by simp [repS]
  | n + 1 => by rw [repS, qgk, List.length_append, repS_len z n, Nat.add_mul]; omega
theorem qkr {z : List SV} (h : plains z = true) : ∀ n, plains (repS n z) = true
  | 0 => rfl
  | n + 1 => by rw [repS, qgk]; exact qfz h (qkr h n)
theorem s_mkg {S : Sy} {zero : List SV} {n c : Int} {K : List SV → Prop} (hS : S0 Tryd.prog = S) (hc : n = c) (h0 : 0 ≤ n) (h1 : n ≤ 65536) (hz : plains zero = true) (h : ∀ F, F.length = n.toNat * zero.length → plains F = true → K F) : S.mkr zero n c K :=
  s_mk hS hc h0 h1 (qkr hz _) (h _ (repS_len _ _) (qkr hz _))
theorem grow_f {n : Int} (h0 : 0 < n) (h1 : n ≤ 65536) : (S0 Tryd.prog).call 87 [.re (.slice none 0 0), .i .i64 (.y n)] [] (fun x l' => ∃ (j : Nat) (lit : Bool) (st z : Z) (F' : List SV), x = (.sl j 1 (.l 0) z none) ∧ l'[j]? = some (.r false lit st 1 F') ∧ plains F' = true ∧ F'.take (z.v.toNat * 1) = [] ∧ z.v = 0) := by
  generalize hS : S0 Tryd.prog = S
  refine qab hS I.qeh ?_
  cbv
  repeat' (first
    | (refine qbl hS rfl ?_; try cbv)
    | (refine s_ck hS ?_; try cbv)
    | (refine qac hS ?_ ?_ <;> intro h <;> (try cbv) <;> try exact s_ab h)
    | (refine s_ad hS ?_; intro _ _; try cbv)
    | (refine s_sb hS ?_; intro _ _; try cbv)
    | (refine qav hS ?_; intro _ _; try cbv)
    | (refine qaf hS ?_; try cbv)
    | (refine s_mkg hS rfl (by omega) (by omega) rfl fun F hF hp => ?_; cbv)
    | (refine qbm hS ?_; try cbv)
    | (refine s_lk hS ?_; try cbv)
    | (refine s_mu hS ?_; try cbv)
    | fail)
  exact ⟨0, false, .l 0, .l 0, F, rfl, rfl, hp, rfl, rfl⟩
theorem grow_u {S : Sy} {bl : List Blk} {K : SV → List Blk → Prop} (hS : S0 Tryd.prog = S) {z : Z} (h0 : 0 < z.v) (h1 : z.v ≤ 65536) (hK : K (.sl (len bl) 1 (.l 0) (.y 0) none) (snoc bl (.r false false (.y 0) 1 []))) : S.call 87 [.re (.slice none 0 0), .i .i64 z] bl K :=
  qng hS (C := fun s => s) (fun ρ s v d => ⟨v, d, fun _ _ _ d' => d'⟩) (fun l' j m z z' sz h => .keep (i := 0) rfl rfl h) (grow_f h0 h1) (.cons .rfl (.cons (qba rfl) .nil)) rfl (by decide) rfl hK
theorem tell_own {g : FuncId} {args : List SV} {F : List SV} {n : Int} (hF : (S0 Tryd.prog).call g args [] (OwnR 0 1 F false [])) (hpl : plains F = true) (hn : n * 1 = F.length) : (S0 Tryd.prog).call g args [] (Tell (.v false 1 F (.y n))) := by
  refine qbi hF fun x l' ⟨y, hs, hr⟩ => ⟨y, hs, ?_⟩
  rcases hr with ⟨rfl, rfl⟩ | ⟨k, m, lit, st, F', _, rfl, hB, hsub, hp, hm⟩
  · exact fun g => .nil (by decide) (by simp only [Z.v]; simpa using hn)
  · have hmn : m.v = n := by omega
    have hl : F'.length = F.length := hsub.1
    have e : (F'.drop ((Z.l 0).v.toNat * 1)).take (m.v.toNat * 1) = F' := by
      rw [show (Z.l 0).v.toNat * 1 = 0 from rfl, List.drop_zero, List.take_of_length_le (by omega)]
    exact fun g => .row hB rfl (.fsub (by rw [e]; exact hsub) hpl) hpl hmn
end Pa
end Cz
namespace Cz
open Go Go.RowKit Go.Proofs
namespace Pa
open Tb
abbrev Fd := Tb.Fd
theorem up_bd (w : Int) : 0 ≤ upP w ∧ upP w ≤ 64 ∧ 4 ≤ bitP w ∧ bitP w ≤ 6 ∧ 2 ^ (bitP w).toNat = powP w := by
  unfold upP bitP powP
  split
  · exact ⟨by decide, by decide, by decide, by decide, rfl⟩
  · split <;> exact ⟨by decide, by decide, by decide, by decide, rfl⟩
def nmB (i : Int) (b : List UInt8) (w : Int) : List Int := putI i (powP w) (upP w) ++ bestT (byS b)
def fldB (f : Fd) (w : Int) : List Int := putI 0 (powP w) (upP w) ++ bestT (byS f.1) ++ bestT (byS f.2)
def idxB (i : Int) : List Int := putI i 128 128
def sizB (n : Int) : List Int := putI n 32 32
def ckN : List UInt8 := [99, 111, 111, 107, 105, 101]
def wayP (mx : Int) (f : Fd) : Int := if f.1 = ckN then 2 else if szF f ≤ mx then 1 else 3
def ownB (i : Int) (f : Fd) (w : Int) : List Int := if 0 < i then nmB i f.2 w else fldB f w
def fieldB (mx : Int) (l : List Fd) (f : Fd) : List Int := if (Tb.findR l f).2 = true then idxB (Tb.findR l f).1 else ownB (Tb.findR l f).1 f (wayP mx f)
def addP (mx : Int) (l : List Fd) (f : Fd) : Bool := decide ((Tb.findR l f).2 = false ∧ wayP mx f = 1)
def fieldL (mx : Int) (l : List Fd) (f : Fd) : List Fd := if addP mx l f = true then evL mx (f :: l) else l
def blockB (mx : Int) : List Fd → List Fd → List Int
  | _, [] => []
  | l, f :: fs => fieldB mx l f ++ blockB mx (fieldL mx l f) fs
def blockL (mx : Int) : List Fd → List Fd → List Fd
  | l, [] => l
  | l, f :: fs => blockL mx (fieldL mx l f) fs
theorem find_rng (l : List Fd) (f : Fd) : 0 ≤ (Tb.findR l f).1 ∧ (Tb.findR l f).1 ≤ 20 + ilen l := by
  have hal := allF_len l
  have r1 := qor (fun x => x == f) (allF l) 1 (Int.le_refl _)
  have r2 := qor (fun x => x.1 == f.1) (allF l) 1 (Int.le_refl _)
  unfold ilen at hal
  unfold Tb.findR
  split
  · exact ⟨r1.1, by unfold ilen; dsimp only; omega⟩
  · exact ⟨r2.1, by unfold ilen; dsimp only; omega⟩
theorem qwa {mx : Int} {l : List Fd} {f : Fd} (h : rightL mx l = true) : rightL mx (fieldL mx l f) = true := by
  unfold fieldL
  have h' := of_decide_eq_true h
  split
  · exact decide_eq_true ⟨h'.1, h'.2.1, qwb h'.1⟩
  · exact h
theorem qfe {mx : Int} {l : List Fd} (h : rightL mx l = true) : ilen l ≤ 128 := by
  have h' := of_decide_eq_true h
  have := qcj l
  omega
theorem qwi (mx : Int) : ∀ (A B l : List Fd), blockB mx l (A ++ B) = blockB mx l A ++ blockB mx (blockL mx l A) B ∧ blockL mx l (A ++ B) = blockL mx (blockL mx l A) B
  | [], B, l => ⟨rfl, rfl⟩
  | f :: A, B, l => by
    obtain ⟨h1, h2⟩ := qwi mx A B (fieldL mx l f)
    simp only [List.cons_append, blockB, blockL]
    exact ⟨by rw [h1, List.append_assoc], h2⟩
theorem qgm {mx : Int} : ∀ {fs l : List Fd}, rightL mx l = true → rightL mx (blockL mx l fs) = true
  | [], l, h => h
  | f :: fs, l, h => by simp only [blockL]; exact qgm (qwa h)
theorem qvb (b : List Int) : ilen (bestT b) ≤ ilen b + 6 := by
  have h0 := qai b
  unfold bestT
  split
  · rename_i h
    unfold shortB at h
    have h := of_decide_eq_true h
    unfold packT
    have h1 := qct (ilen (Hu.put b)) 128 128
    have h2 := Hu.qku b
    have h3 : bitsI b (ilen b) = Hu.nbits b := by unfold bitsI; rw [qbf (by omega)]
    have h4 := qai (Hu.put b)
    rw [qbt]
    unfold ilen at *
    omega
  · unfold plainT
    have h1 := qct (ilen b) 128 0
    rw [qbt]
    omega
theorem qpb (mx : Int) (l : List Fd) (f : Fd) : ilen (fieldB mx l f) ≤ szF f := by
  have h1 := qvb (byS f.1)
  have h2 := qvb (byS f.2)
  have a1 := qai f.1
  have a2 := qai f.2
  rw [qgl] at h1 h2
  unfold fieldB ownB nmB fldB idxB szF
  split
  · have := qct (Tb.findR l f).1 128 128; omega
  · split
    · have := qct (Tb.findR l f).1 (powP (wayP mx f)) (upP (wayP mx f)); rw [qbt]; omega
    · have := qct 0 (powP (wayP mx f)) (upP (wayP mx f)); rw [qbt, qbt]; omega
theorem qkj (mx : Int) : ∀ (fs l : List Fd), ilen (blockB mx l fs) ≤ fullL fs
  | [], l => Int.le_refl _
  | f :: fs, l => by
    have h1 := qpb mx l f
    have h2 := qkj mx fs (fieldL mx l f)
    simp only [blockB, fullL]
    rw [qbt]; omega
theorem qrk {mx : Int} {l fs : List Fd} {i : Int} {f : Fd} (hf : fs[i.toNat]? = some f) (h0 : 0 ≤ i) :
    blockB mx l (fs.take (i + 1).toNat) = blockB mx l (fs.take i.toNat) ++ fieldB mx (blockL mx l (fs.take i.toNat)) f ∧ blockL mx l (fs.take (i + 1).toNat) = fieldL mx (blockL mx l (fs.take i.toNat)) f := by
  have e : fs.take (i + 1).toNat = fs.take i.toNat ++ [f] := by rw [show (i + 1).toNat = i.toNat + 1 by omega, List.take_add_one, hf]; rfl
  rw [e]
  obtain ⟨h1, h2⟩ := qwi mx (fs.take i.toNat) [f] l
  rw [h1, h2]
  simp only [blockB, blockL, List.append_nil]
  exact ⟨trivial, trivial⟩
end Pa
end Cz
namespace Cz
open Go Go.RowKit Go.Proofs
namespace Pa
theorem bytes_fz {l' : List Blk} {k : Nat} {lit : Bool} {st z : Z} {F : List SV} {L : List Int} {n : Int} (hB : l'[k]? = some (.r false lit st 1 F)) (hF : cellsB L = F) (hz : z.v = ilen L) (hn : n = ilen L) (g : Nat → Nat) : Fz l' g [] (.sl k 1 (.l 0) z none) (.v false 1 (cellsB L) (.y n)) := by
  subst hF hn
  refine .row hB rfl (.fsub ?_ (qam L)) (qam L) hz
  rw [show (Z.l 0).v.toNat * 1 = 0 from rfl, List.drop_zero, List.take_of_length_le]
  · exact .rfl
  · have := qbc L
    unfold ilen at *
    omega
theorem best_t {x : List UInt8} (hx : ilen x ≤ 1000000) : (S0 Tryd.prog).call 72 [.s x] [] (Tell (.v false 1 (cellsB (bestT (byS x))) (.y (ilen (bestT (byS x)))))) := tell_own (tbest_f hx) (qam _) (qkg _)
theorem qtu (b : List Int) : 1 ≤ ilen (bestT b) ∧ ilen (bestT b) ≤ ilen b + 6 := by
  have h0 := qai b
  unfold bestT
  split
  · rename_i h
    unfold shortB at h
    have h := of_decide_eq_true h
    unfold packT
    have h1 := qct (ilen (Hu.put b)) 128 128
    have h2 := Hu.qku b
    have h3 : bitsI b (ilen b) = Hu.nbits b := by unfold bitsI; rw [qbf (by omega)]
    have h4 := qai (Hu.put b)
    rw [qbt]
    unfold ilen at *
    omega
  · unfold plainT
    have h1 := qct (ilen b) 128 0
    rw [qbt]
    omega
section
variable {S : Sy} {bl : List Blk} {K : SV → List Blk → Prop}
theorem best_g (hS : S0 Tryd.prog = S) {x : List UInt8} {F : List SV} {n : Int} (hx : ilen x ≤ 1000000) (hF : cellsB (bestT (byS x)) = F) (hn : n = ilen (bestT (byS x))) (hK : K (.v false 1 F (.y n)) bl) : S.call 72 [.s x] bl K := by
  subst hF hn
  exact qft hS (best_t hx) (.cons .rfl .nil) rfl hK
end
def C0 (s : SV) : SV := s
def C1 (e : Int) (s : SV) : SV := .tp [s, .i .i64 (.y e)]
theorem c1_ctx (e : Int) : Ctx (C1 e) := by
  intro ρ s v d
  unfold C1 at d
  simp only [den] at d
  obtain ⟨vs, rfl, d⟩ := d
  obtain ⟨vs⟩ := vs
  match vs, d with
  | [], d => simp [denL] at d
  | [_], d => simp [denL] at d
  | _ :: _ :: _ :: _, d => simp [denL] at d
  | [x, y], d =>
    simp only [denL, den] at d
    obtain ⟨dx, rfl, _⟩ := d
    refine ⟨x, dx, fun ρ' s' _ d' => ?_⟩
    unfold C1
    simp only [den]
    refine ⟨_, rfl, ?_⟩
    simp only [denL, den]
    exact ⟨d', trivial, trivial⟩
def OwnB (C : SV → SV) (L : List Int) (x : SV) (l' : List Blk) : Prop := ∃ (j : Nat) (lit : Bool) (st z : Z) (F' : List SV), Sub x (C (.sl j 1 (.l 0) z none)) ∧ l'[j]? = some (.r false lit st 1 F') ∧ plains F' = true ∧ F'.take (z.v.toNat * 1) = cellsB L ∧ z.v = ilen L
theorem qsh {C : SV → SV} {L : List Int} {l' : List Blk} {j : Nat} {lit : Bool} {st z : Z} {F : List SV} {x : SV} (hx : Sub x (C (.sl j 1 (.l 0) z none))) (hB : l'[j]? = some (.r false lit st 1 F)) (hF : F = cellsB L) (hz : z.v = ilen L) : OwnB C L x l' := by
  refine ⟨j, lit, st, z, F, hx, hB, hF ▸ qam L, ?_, hz⟩
  rw [hF, List.take_of_length_le]
  have := qbc L
  unfold ilen at *
  omega
theorem fz_own {L : List Int} {l' : List Blk} {j : Nat} {lit : Bool} {st z : Z} {F' : List SV} (hB : l'[j]? = some (.r false lit st 1 F')) (h : F'.take (z.v.toNat * 1) = cellsB L) (hz : z.v = ilen L) (g : Nat → Nat) : Fz l' g [] (.sl j 1 (.l 0) z none) (.v false 1 (cellsB L) (.y (ilen L))) := by
  refine .row hB rfl (.fsub ?_ (qam L)) (qam L) hz
  rw [show (Z.l 0).v.toNat * 1 = 0 from rfl, List.drop_zero, h]
  exact .rfl
theorem own_eq {C : SV → SV} {g : FuncId} {args : List SV} {L : List Int} (h : (S0 Tryd.prog).call g args [] (OwnB C L)) :
    (S0 Tryd.prog).call g args [] (fun x l' => ∃ (j : Nat) (lit : Bool) (st z : Z) (F' : List SV), x = C (.sl j 1 (.l 0) z none) ∧ l'[j]? = some (.r false lit st 1 F') ∧ plains F' = true ∧ F'.take (z.v.toNat * 1) = cellsB L ∧ z.v = ilen L) :=
  qbi h fun x l' ⟨j, lit, st, z, F', hs, hB, h0, h1, h2⟩ => ⟨_, hs, j, lit, st, z, F', rfl, hB, h0, h1, h2⟩
theorem own_t0 {g : FuncId} {args : List SV} {L : List Int} {F : List SV} {n : Int} (h : (S0 Tryd.prog).call g args [] (OwnB C0 L)) (hF : cellsB L = F) (hn : n = ilen L) : (S0 Tryd.prog).call g args [] (Tell (.v false 1 F (.y n))) := by
  subst hF hn
  refine qbi h fun x l' h => ?_
  obtain ⟨j, lit, st, z, F', hs, hB, _, h1, h2⟩ := h
  refine ⟨_, hs, ?_⟩
  exact fun g => fz_own hB h1 h2 g
theorem own_t1 {g : FuncId} {args : List SV} {L : List Int} {F : List SV} {n e : Int} (h : (S0 Tryd.prog).call g args [] (OwnB (C1 e) L)) (hF : cellsB L = F) (hn : n = ilen L) : (S0 Tryd.prog).call g args [] (Tell (.tp [.v false 1 F (.y n), .i .i64 (.y e)])) := by
  subst hF hn
  refine qbi h fun x l' h => ?_
  obtain ⟨j, lit, st, z, F', hs, hB, _, h1, h2⟩ := h
  refine ⟨_, hs, ?_⟩
  exact fun g => .tp (.cons (fz_own hB h1 h2 g) (.cons (.sub .rfl rfl) .nil))
section
variable {S : Sy} {bl : List Blk} {K : SV → List Blk → Prop} {g : FuncId} {args args' : List SV} {L : List Int} {F : List SV} {n e : Int}
theorem own_u1 (hS : S0 Tryd.prog = S) (h : (S0 Tryd.prog).call g args' [] (OwnB (C1 e) L)) (ha : SubL args args') (hr : refsBL (fun _ => false) args' = true) (hF : cellsB L = F) (hn : n = ilen L)
    (hK : K (.tp [.sl (len bl) 1 (.l 0) (.y n) none, .i .i64 (.y e)]) (snoc bl (.r false false (.y 0) 1 F))) : S.call g args bl K := by
  subst hF hn
  exact qng hS (c1_ctx e) (fun l' j m z z' sz h => .tp (.cons (.keep (i := 0) rfl rfl h) (.cons (.sub .rfl rfl) .nil))) (own_eq h) ha hr (by decide) (qam _) hK
end
theorem idx_o {i : Int} (h0 : 0 ≤ i) (h1 : i < 2147483648) : (S0 Tryd.prog).call 53 [.i .i64 (.y i)] [] (OwnB (C1 0) (idxB i)) := by
  obtain ⟨L, hL⟩ : ∃ L, idxB i = L := ⟨_, rfl⟩
  rw [hL]
  generalize hS : S0 Tryd.prog = S
  refine qab hS I.qlf ?_
  cbv
  refine qab hS I.qda ?_
  cbv
  repeat' (first
    | (refine qbl hS rfl ?_; try cbv)
    | (refine s_ck hS ?_; try cbv)
    | (refine qac hS ?_ ?_ <;> intro h <;> (try cbv) <;> try exact s_ab h)
    | (refine s_ad hS ?_; intro _ _; try cbv)
    | (refine s_sb hS ?_; intro _ _; try cbv)
    | (refine qav hS ?_; intro _ _; try cbv)
    | (refine qaf hS ?_; try cbv)
    | (refine qnu hS i 7 128 128 rfl rfl rfl h0 h1 (by decide) (by decide) rfl (by decide) (by decide) fun F2 n2 st hF2 hn2 => ?_; cbv)
    | (refine qbm hS ?_; try cbv)
    | (refine s_lk hS ?_; try cbv)
    | (refine s_mu hS ?_; try cbv)
    | fail)
  exact qsh (z := .y n2) .rfl rfl (hL ▸ hF2.symm) (hL ▸ hn2)
theorem siz_o {i : Int} (h0 : 0 ≤ i) (h1 : i < 2147483648) : (S0 Tryd.prog).call 55 [.i .i64 (.y i)] [] (OwnB (C1 0) (sizB i)) := by
  obtain ⟨L, hL⟩ : ∃ L, sizB i = L := ⟨_, rfl⟩
  rw [hL]
  generalize hS : S0 Tryd.prog = S
  refine qab hS I.qos ?_
  cbv
  refine qab hS I.qda ?_
  cbv
  repeat' (first
    | (refine qbl hS rfl ?_; try cbv)
    | (refine s_ck hS ?_; try cbv)
    | (refine qac hS ?_ ?_ <;> intro h <;> (try cbv) <;> try exact s_ab h)
    | (refine s_ad hS ?_; intro _ _; try cbv)
    | (refine s_sb hS ?_; intro _ _; try cbv)
    | (refine qav hS ?_; intro _ _; try cbv)
    | (refine qaf hS ?_; try cbv)
    | (refine qnu hS i 5 32 32 rfl rfl rfl h0 h1 (by decide) (by decide) rfl (by decide) (by decide) fun F2 n2 st hF2 hn2 => ?_; cbv)
    | (refine qbm hS ?_; try cbv)
    | (refine s_lk hS ?_; try cbv)
    | (refine s_mu hS ?_; try cbv)
    | fail)
  exact qsh (z := .y n2) .rfl rfl (hL ▸ hF2.symm) (hL ▸ hn2)
theorem named_o {i w : Int} {b : List UInt8} (h0 : 0 < i) (h1 : i < 2147483648) (hb : ilen b ≤ 1000000) :
    (S0 Tryd.prog).call 54 [.i .i64 (.y i), .s b, .i .i64 (.y w)] [] (OwnB (C1 0) (nmB i b w)) := by
  obtain ⟨L, hL⟩ : ∃ L, nmB i b w = L := ⟨_, rfl⟩
  rw [hL]
  obtain ⟨B, hB⟩ : ∃ B, cellsB (bestT (byS b)) = B := ⟨_, rfl⟩
  obtain ⟨m, hm⟩ : ∃ m, m = ilen (bestT (byS b)) := ⟨_, rfl⟩
  have hm1 := qtu (byS b)
  rw [← hm, qgl] at hm1
  generalize hS : S0 Tryd.prog = S
  refine qab hS I.qhb ?_
  cbv
  refine of_u hS (w := w) rfl fun u k hu hk => ?_
  obtain ⟨u0, u1, k0, k1, hp⟩ := up_bd w
  rw [← hu] at u0 u1
  rw [← hk] at k0 k1 hp
  cbv
  refine qab hS I.qda ?_
  cbv
  repeat' (first
    | (refine qbl hS rfl ?_; try cbv)
    | (refine s_ck hS ?_; try cbv)
    | (refine qac hS ?_ ?_ <;> intro h <;> (try cbv) <;> try exact s_ab h)
    | (refine s_ad hS ?_; intro _ _; try cbv)
    | (refine s_sb hS ?_; intro _ _; try cbv)
    | (refine qav hS ?_; intro _ _; try cbv)
    | (refine qaf hS ?_; try cbv)
    | (refine qnu hS i k u (powP w) rfl rfl rfl (by omega) h1 (by omega) (by omega) hp (by omega) (by omega) fun F2 n2 st hF2 hn2 => ?_; cbv)
    | (refine qbm hS ?_; try cbv)
    | (refine s_lk hS ?_; try cbv)
    | (refine s_mu hS ?_; try cbv)
    | fail)
  have hpl := qct i (powP w) u
  rw [← hn2] at hpl
  have hfl : ilen F2 = n2 := by rw [← hF2, qbc, hn2]
  refine best_g hS hb hB hm ?_
  cbv
  repeat' (first
    | (refine qbl hS rfl ?_; try cbv)
    | (refine s_ck hS ?_; try cbv)
    | (refine qac hS ?_ ?_ <;> intro h <;> (try cbv) <;> try exact s_ab h)
    | (refine s_ad hS ?_; intro _ _; try cbv)
    | (refine s_sb hS ?_; intro _ _; try cbv)
    | (refine qav hS ?_; intro _ _; try cbv)
    | (refine qaf hS ?_; try cbv)
    | (refine qbm hS ?_; try cbv)
    | (refine s_lk hS ?_; try cbv)
    | (refine s_mu hS ?_; try cbv)
    | fail)
  have e1 : S.app F2 B = cellsB L := by rw [← hL]; unfold nmB; rw [← hu]; exact qdl hS hF2.symm hB.symm
  have e2 : S.pl n2 m = ilen L := by rw [← hL]; unfold nmB; rw [← hu, qbt, ← hn2, ← hm]; subst hS; rfl
  exact qsh (z := .y (S.pl n2 m)) (qch (.cons .rfl (.cons (qba rfl) .nil))) rfl e1 e2
theorem s_ckA {S : Sy} {a b : Int} {k : Unit → Prop} (hS : S0 Tryd.prog = S) (e : a = b) (h : k ()) : S.chk (S.cmp .eq a b) k := qrw hS (by subst hS; rw [cmp_eq]; exact decide_eq_true e) h
theorem fld_o {w : Int} {a b : List UInt8} (hab : ilen a + ilen b ≤ 60000) :
    (S0 Tryd.prog).call 52 [.ag [.s a, .s b], .i .i64 (.y w)] [] (OwnB C0 (fldB (a, b) w)) := by
  obtain ⟨L, hL⟩ : ∃ L, fldB (a, b) w = L := ⟨_, rfl⟩
  rw [hL]
  have h0a := qai a
  have h0b := qai b
  have ha : ilen a ≤ 1000000 := by omega
  have hb : ilen b ≤ 1000000 := by omega
  obtain ⟨A, hA⟩ : ∃ B, cellsB (bestT (byS a)) = B := ⟨_, rfl⟩
  obtain ⟨ma, hma⟩ : ∃ m, m = ilen (bestT (byS a)) := ⟨_, rfl⟩
  have hm0 := qtu (byS a)
  rw [← hma, qgl] at hm0
  obtain ⟨B, hB⟩ : ∃ B, cellsB (bestT (byS b)) = B := ⟨_, rfl⟩
  obtain ⟨m, hm⟩ : ∃ m, m = ilen (bestT (byS b)) := ⟨_, rfl⟩
  have hm1 := qtu (byS b)
  rw [← hm, qgl] at hm1
  generalize hS : S0 Tryd.prog = S
  refine qab hS I.qot ?_
  cbv
  refine of_u hS (w := w) rfl fun u k hu hk => ?_
  obtain ⟨u0, u1, k0, k1, hp⟩ := up_bd w
  rw [← hu] at u0 u1
  rw [← hk] at k0 k1 hp
  cbv
  refine qab hS I.qda ?_
  cbv
  repeat' (first
    | (refine qbl hS rfl ?_; try cbv)
    | (refine s_ck hS ?_; try cbv)
    | (refine qac hS ?_ ?_ <;> intro h <;> (try cbv) <;> try exact s_ab h)
    | (refine s_ad hS ?_; intro _ _; try cbv)
    | (refine s_sb hS ?_; intro _ _; try cbv)
    | (refine qav hS ?_; intro _ _; try cbv)
    | (refine qaf hS ?_; try cbv)
    | (refine qnu hS 0 k u (powP w) rfl rfl rfl (by omega) (by omega) (by omega) (by omega) hp (by omega) (by omega) fun F2 n2 st hF2 hn2 => ?_; cbv)
    | (refine qbm hS ?_; try cbv)
    | (refine s_lk hS ?_; try cbv)
    | (refine s_mu hS ?_; try cbv)
    | fail)
  have hpl := qct 0 (powP w) u
  rw [← hn2] at hpl
  have hfl : ilen F2 = n2 := by rw [← hF2, qbc, hn2]
  have hal : ilen A = ma := by rw [← hA, qbc, hma]
  have hbl : ilen B = m := by rw [← hB, qbc, hm]
  have hs1 : S.app [] (S.sub F2 0 n2 1) = F2 := by rw [qnj hS hF2 hn2, qhj hS]
  have c1 : S.sc (S.pl 0 n2) 1 = S.flen (S.app [] (S.sub F2 0 n2 1)) := by rw [hs1]; subst hS; show (0 + n2) * 1 = ilen F2; omega
  have c2 : S.sc (S.pl (S.pl 0 n2) ma) 1 = S.flen (S.app (S.app [] (S.sub F2 0 n2 1)) A) := by rw [hs1]; subst hS; show (0 + n2 + ma) * 1 = ilen (F2 ++ A); rw [qbt]; omega
  refine qad hS rfl I.qjr (by decide +kernel) ?_
  cbv
  refine best_g hS ha hA hma ?_
  cbv
  refine best_g hS hb hB hm ?_
  cbv
  repeat' (first
    | (refine qbl hS rfl ?_; try cbv)
    | (refine s_ck hS ?_; try cbv)
    | (refine qac hS ?_ ?_ <;> intro h <;> (try cbv) <;> try exact s_ab h)
    | (refine s_ad hS ?_; intro _ _; try cbv)
    | (refine s_sb hS ?_; intro _ _; try cbv)
    | (refine qav hS ?_; intro _ _; try cbv)
    | (refine qaf hS ?_; try cbv)
    | (refine qbm hS ?_; try cbv)
    | (refine s_lk hS ?_; try cbv)
    | (refine s_mu hS ?_; try cbv)
    | fail)
  refine qab hS I.qds ?_
  cbv
  repeat' (first
    | (refine qbl hS rfl ?_; try cbv)
    | (refine s_ck hS ?_; try cbv)
    | (refine qac hS ?_ ?_ <;> intro h <;> (try cbv) <;> try exact s_ab h)
    | (refine s_ad hS ?_; intro _ _; try cbv)
    | (refine s_sb hS ?_; intro _ _; try cbv)
    | (refine qav hS ?_; intro _ _; try cbv)
    | (refine qaf hS ?_; try cbv)
    | (refine s_ckA hS c1 ?_; cbv)
    | (refine s_ckA hS c2 ?_; cbv)
    | (refine qax hS ?_; cbv)
    | (refine grow_u hS (by simp only [Z.v]; omega) (by simp only [Z.v]; omega) ?_; cbv)
    | (refine qbm hS ?_; try cbv)
    | (refine s_lk hS ?_; try cbv)
    | (refine s_mu hS ?_; try cbv)
    | fail)
  have e1 : S.app (S.app (S.app [] (S.sub F2 0 n2 1)) A) B = cellsB L := by
    rw [← hL]; rw [hs1, qdl hS hF2.symm hA.symm, qdl hS rfl hB.symm]; unfold fldB; rw [← hu]
  have e2 : S.pl (S.pl (S.pl 0 n2) ma) m = ilen L := by
    rw [← hL]; unfold fldB; rw [← hu, qbt, qbt, ← hn2, ← hm, ← hma]; subst hS; show 0 + n2 + ma + m = _; omega
  exact qsh (z := .y (S.pl (S.pl (S.pl 0 n2) ma) m)) .rfl rfl e1 e2
end Pa
end Cz
namespace Cz
open Go Go.RowKit Go.Proofs
namespace Pa
open Tb
theorem qrv {a b : List UInt8} {t : Bool} (ht : decide (a = ckN) = t) : (S0 Tryd.prog).call 43 [.ag [.s a, .s b]] [] (fun y _ => Sub y (.b t)) := by
  generalize hS : S0 Tryd.prog = S
  refine qab hS I.qqh ?_
  cbv
  repeat' (first
    | (refine qbl hS rfl ?_; try cbv)
    | (refine s_ck hS ?_; try cbv)
    | (refine qac hS ?_ ?_ <;> intro h <;> (try cbv) <;> try exact s_ab h)
    | (refine s_ad hS ?_; intro _ _; try cbv)
    | (refine s_sb hS ?_; intro _ _; try cbv)
    | (refine qav hS ?_; intro _ _; try cbv)
    | (refine qaf hS ?_; try cbv)
    | (refine qbm hS ?_; try cbv)
    | (refine s_lk hS ?_; try cbv)
    | (refine s_mu hS ?_; try cbv)
    | fail)
  refine qup ?_
  subst hS
  rw [← ht]
  show (a == ckN) = decide (a = ckN)
  by_cases h : a = ckN <;> simp [h]
theorem named_z {w : Int} {b : List UInt8} : (S0 Tryd.prog).call 54 [.i .i64 (.y 0), .s b, .i .i64 (.y w)] [] (fun y _ => Sub y (.tp [.re (.slice none 0 0), .i .i64 (.y 2)])) := by
  generalize hS : S0 Tryd.prog = S
  refine qab hS I.qhb ?_
  cbv
  refine of_u hS (w := w) rfl fun u k hu hk => ?_
  obtain ⟨u0, u1, k0, k1, hp⟩ := up_bd w
  rw [← hu] at u0 u1
  rw [← hk] at k0 k1 hp
  cbv
  refine qab hS I.qda ?_
  cbv
  repeat' (first
    | (refine qbl hS rfl ?_; try cbv)
    | (refine s_ck hS ?_; try cbv)
    | (refine qac hS ?_ ?_ <;> intro h <;> (try cbv) <;> try exact s_ab h)
    | (refine s_ad hS ?_; intro _ _; try cbv)
    | (refine s_sb hS ?_; intro _ _; try cbv)
    | (refine qav hS ?_; intro _ _; try cbv)
    | (refine qaf hS ?_; try cbv)
    | (refine qnu hS 0 k u (powP w) rfl rfl rfl (by omega) (by omega) (by omega) (by omega) hp (by omega) (by omega) fun F2 n2 st hF2 hn2 => ?_; cbv)
    | (refine qbm hS ?_; try cbv)
    | (refine s_lk hS ?_; try cbv)
    | (refine s_mu hS ?_; try cbv)
    | fail)
  exact qch (.cons .rfl (.cons (qba rfl) .nil))
section
variable {S : Sy} {bl : List Blk} {K : SV → List Blk → Prop} {L : List Int} {F : List SV} {n i w : Int} {a b : List UInt8}
theorem qcs (hS : S0 Tryd.prog = S) {t : Bool} (ht : decide (a = ckN) = t) (hK : K (.b t) bl) : S.call 43 [.ag [.s a, .s b]] bl K := qbq hS (qrv ht) .rfl rfl rfl hK
theorem qcd (hS : S0 Tryd.prog = S) {zi zw : Z} (hi : zi.v = i) (hw : zw.v = w) (h0 : 0 < i) (h1 : i < 2147483648) (hb : ilen b ≤ 1000000) (hF : cellsB (nmB i b w) = F) (hn : n = ilen (nmB i b w)) (hK : K (.tp [.v false 1 F (.y n), .i .i64 (.y 0)]) bl) :
    S.call 54 [.i .i64 zi, .s b, .i .i64 zw] bl K :=
  qft hS (own_t1 (named_o h0 h1 hb) hF hn) (.cons (qba hi) (.cons .rfl (.cons (qba hw) .nil))) rfl hK
theorem qla (hS : S0 Tryd.prog = S) {zi zw : Z} (hi : zi.v = 0) (hK : K (.tp [.re (.slice none 0 0), .i .i64 (.y 2)]) bl) : S.call 54 [.i .i64 zi, .s b, .i .i64 zw] bl K :=
  qbq hS (named_z (w := zw.v)) (.cons (qba hi) (.cons .rfl (.cons (qba rfl) .nil))) rfl rfl hK
theorem qgp (hS : S0 Tryd.prog = S) {zw : Z} (hw : zw.v = w) (hab : ilen a + ilen b ≤ 60000) (hF : cellsB (fldB (a, b) w) = F) (hn : n = ilen (fldB (a, b) w)) (hK : K (.v false 1 F (.y n)) bl) : S.call 52 [.ag [.s a, .s b], .i .i64 zw] bl K :=
  qft hS (own_t0 (fld_o hab) hF hn) (.cons .rfl (.cons (qba hw) .nil)) rfl hK
theorem idx_g (hS : S0 Tryd.prog = S) {zi : Z} (hi : zi.v = i) (h0 : 0 ≤ i) (h1 : i < 2147483648) (hF : cellsB (idxB i) = F) (hn : n = ilen (idxB i)) (hK : K (.tp [.v false 1 F (.y n), .i .i64 (.y 0)]) bl) : S.call 53 [.i .i64 zi] bl K :=
  qft hS (own_t1 (idx_o h0 h1) hF hn) (.cons (qba hi) .nil) rfl hK
end
theorem field_f {mx : Int} {l l' : List Tb.Fd} {a b : List UInt8} {L : List Int} {F R : List SV} {n m : Int} (hR : rightL mx l = true) (hL : fieldB mx l (a, b) = L) (hl : fieldL mx l (a, b) = l') (hF : cellsB L = F) (hn : n = ilen L) (hRr : cellsF l' = R) (hm : m = ilen l')
    (hab : ilen a + ilen b ≤ 60000) :
    (S0 Tryd.prog).call 44 [tabV mx l, .ag [.s a, .s b]] [] (Tell (.tp [.v false 1 F (.y n), .ag [.i .i64 (.y mx), .v false 2 R (.y m)], .i .i64 (.y 0)])) := by
  have hl0 := qfe hR
  have hR' := of_decide_eq_true hR
  have h0a := qai a
  have h0b := qai b
  unfold tabV
  generalize hG : cellsF l = G
  obtain ⟨k, hk⟩ : ∃ k, k = ilen l := ⟨_, rfl⟩
  obtain ⟨sz, hsz⟩ : ∃ r, r = szF (a, b) := ⟨_, rfl⟩
  have hsz' : sz = ilen a + ilen b + 32 := hsz
  have hres : resR (mx, l) mx = ((mx, l), 0) := by unfold resR; rw [if_pos ⟨hR, hR'.1, hR'.2.1⟩]; dsimp only; rw [qhg hR'.2.2]
  have hadd : addR (mx, l) (a, b) = ((mx, evL mx ((a, b) :: l)), 0) := by unfold addR; rw [if_pos hR]
  have hrg := find_rng l (a, b)
  unfold fieldL addP at hl
  unfold fieldB ownB at hL
  unfold wayP at hL hl
  rw [← hsz] at hL hl
  obtain ⟨⟨fi, ft⟩, hfi⟩ : ∃ r, Tb.findR l (a, b) = r := ⟨_, rfl⟩
  rw [hfi] at hL hl hrg
  dsimp only at hL hl hrg
  rw [← hk]
  generalize hS : S0 Tryd.prog = S
  refine qab hS I.qka ?_
  cbv
  refine qww hS (.v (z := .y mx) (n := .y k) rfl hG hk) hres hG hk (by omega) ?_
  cbv
  repeat' (first
    | (refine qbl hS rfl ?_; try cbv)
    | (refine s_ck hS ?_; try cbv)
    | (refine qac hS ?_ ?_ <;> intro h <;> (try cbv) <;> try exact s_ab h)
    | (refine s_ad hS ?_; intro _ _; try cbv)
    | (refine s_sb hS ?_; intro _ _; try cbv)
    | (refine qav hS ?_; intro _ _; try cbv)
    | (refine qaf hS ?_; try cbv)
    | (refine qbm hS ?_; try cbv)
    | (refine s_lk hS ?_; try cbv)
    | (refine s_mu hS ?_; try cbv)
    | fail)
  refine find_g hS (.v (z := .y mx) (n := .y k) rfl hG hk) hfi (by omega) ?_
  cbv
  cases ft with
  | true =>
    cbv
    simp only [if_true] at hL hl
    simp at hl
    subst hl hL
    repeat' (first
      | (refine qbl hS rfl ?_; try cbv)
      | (refine s_ck hS ?_; try cbv)
      | (refine qac hS ?_ ?_ <;> intro h <;> (try cbv) <;> try exact s_ab h)
      | (refine s_ad hS ?_; intro _ _; try cbv)
      | (refine s_sb hS ?_; intro _ _; try cbv)
      | (refine qav hS ?_; intro _ _; try cbv)
      | (refine qaf hS ?_; try cbv)
      | (refine idx_g hS (i := fi) rfl hrg.1 (by omega) hF hn ?_; cbv)
      | (refine qad hS rfl I.qas (by decide +kernel) ?_; cbv)
      | (refine qad hS rfl I.qar (by decide +kernel) ?_; cbv)
      | (refine qad hS rfl I.qaq (by decide +kernel) ?_; cbv)
      | (refine qad hS rfl I.qap (by decide +kernel) ?_; cbv)
      | (refine qad hS rfl I.qao (by decide +kernel) ?_; cbv)
      | (refine qad hS rfl I.qan (by decide +kernel) ?_; cbv)
      | (refine qbm hS ?_; try cbv)
      | (refine s_lk hS ?_; try cbv)
      | (refine s_mu hS ?_; try cbv)
      | fail)
    exact fun g => .sub (qch (.cons .rfl (.cons (qec (.cons .rfl (.cons (qcg (hG.symm.trans hRr) (hk.trans hm.symm)) .nil))) (.cons (qba rfl) .nil)))) rfl
  | false =>
    cbv
    rw [if_neg (by simp)] at hL
    by_cases hc : a = ckN
    · rw [if_pos hc] at hL hl
      rw [if_neg (by simp)] at hl
      subst hl
      by_cases hp : 0 < fi
      · rw [if_pos hp] at hL
        subst hL
        repeat' (first
          | (refine qbl hS rfl ?_; try cbv)
          | (refine s_ck hS ?_; try cbv)
          | (refine qac hS ?_ ?_ <;> intro h <;> (try cbv) <;> try exact s_ab h)
          | (refine s_ad hS ?_; intro _ _; try cbv)
          | (refine s_sb hS ?_; intro _ _; try cbv)
          | (refine qav hS ?_; intro _ _; try cbv)
          | (refine qaf hS ?_; try cbv)
          | (refine qcs hS (t := true) (decide_eq_true hc) ?_; cbv)
          | (refine qcd hS (i := fi) (w := 2) rfl rfl hp (by omega) (by omega) hF hn ?_; cbv)
          | (refine qcd hS (i := fi) (w := 3) rfl rfl hp (by omega) (by omega) hF hn ?_; cbv)
          | (refine qcd hS (i := fi) (w := 1) rfl rfl hp (by omega) (by omega) hF hn ?_; cbv)
          | (refine qad hS rfl I.qas (by decide +kernel) ?_; cbv)
          | (refine qad hS rfl I.qar (by decide +kernel) ?_; cbv)
          | (refine qad hS rfl I.qaq (by decide +kernel) ?_; cbv)
          | (refine qad hS rfl I.qap (by decide +kernel) ?_; cbv)
          | (refine qad hS rfl I.qao (by decide +kernel) ?_; cbv)
          | (refine qad hS rfl I.qan (by decide +kernel) ?_; cbv)
          | (refine qab hS I.qaz ?_; cbv)
          | (refine qbm hS ?_; try cbv)
          | (refine s_lk hS ?_; try cbv)
          | (refine s_mu hS ?_; try cbv)
          | fail)
        exact fun g => .sub (qch (.cons .rfl (.cons (qec (.cons .rfl (.cons (qcg (hG.symm.trans hRr) (hk.trans hm.symm)) .nil))) (.cons (qba rfl) .nil)))) rfl
      · rw [if_neg hp] at hL
        subst hL
        have hp0 : fi = 0 := by omega
        repeat' (first
          | (refine qbl hS rfl ?_; try cbv)
          | (refine s_ck hS ?_; try cbv)
          | (refine qac hS ?_ ?_ <;> intro h <;> (try cbv) <;> try exact s_ab h)
          | (refine s_ad hS ?_; intro _ _; try cbv)
          | (refine s_sb hS ?_; intro _ _; try cbv)
          | (refine qav hS ?_; intro _ _; try cbv)
          | (refine qaf hS ?_; try cbv)
          | (refine qcs hS (t := true) (decide_eq_true hc) ?_; cbv)
          | (refine qgp hS (w := 2) rfl hab hF hn ?_; cbv)
          | (refine qgp hS (w := 3) rfl hab hF hn ?_; cbv)
          | (refine qgp hS (w := 1) rfl hab hF hn ?_; cbv)
          | (refine qad hS rfl I.qas (by decide +kernel) ?_; cbv)
          | (refine qad hS rfl I.qar (by decide +kernel) ?_; cbv)
          | (refine qad hS rfl I.qaq (by decide +kernel) ?_; cbv)
          | (refine qad hS rfl I.qap (by decide +kernel) ?_; cbv)
          | (refine qad hS rfl I.qao (by decide +kernel) ?_; cbv)
          | (refine qad hS rfl I.qan (by decide +kernel) ?_; cbv)
          | (refine qla hS hp0 ?_; cbv)
          | (refine qab hS I.qaz ?_; cbv)
          | (refine qbm hS ?_; try cbv)
          | (refine s_lk hS ?_; try cbv)
          | (refine s_mu hS ?_; try cbv)
          | fail)
        exact fun g => .sub (qch (.cons .rfl (.cons (qec (.cons .rfl (.cons (qcg (hG.symm.trans hRr) (hk.trans hm.symm)) .nil))) (.cons (qba rfl) .nil)))) rfl
    · rw [if_neg hc] at hL hl
      by_cases hs : sz ≤ mx
      · rw [if_pos hs] at hL hl
        rw [if_pos (by simp)] at hl
        subst hl
        by_cases hp : 0 < fi
        · rw [if_pos hp] at hL
          subst hL
          repeat' (first
            | (refine qbl hS rfl ?_; try cbv)
            | (refine s_ck hS ?_; try cbv)
            | (refine qac hS ?_ ?_ <;> intro h <;> (try cbv) <;> try exact s_ab h)
            | (refine s_ad hS ?_; intro _ _; try cbv)
            | (refine s_sb hS ?_; intro _ _; try cbv)
            | (refine qav hS ?_; intro _ _; try cbv)
            | (refine qaf hS ?_; try cbv)
            | (refine qcs hS (t := false) (decide_eq_false hc) ?_; cbv)
            | (refine qcd hS (i := fi) (w := 2) rfl rfl hp (by omega) (by omega) hF hn ?_; cbv)
            | (refine qcd hS (i := fi) (w := 3) rfl rfl hp (by omega) (by omega) hF hn ?_; cbv)
            | (refine qcd hS (i := fi) (w := 1) rfl rfl hp (by omega) (by omega) hF hn ?_; cbv)
            | (refine qad hS rfl I.qas (by decide +kernel) ?_; cbv)
            | (refine qad hS rfl I.qar (by decide +kernel) ?_; cbv)
            | (refine qad hS rfl I.qaq (by decide +kernel) ?_; cbv)
            | (refine qad hS rfl I.qap (by decide +kernel) ?_; cbv)
            | (refine qad hS rfl I.qao (by decide +kernel) ?_; cbv)
            | (refine qad hS rfl I.qan (by decide +kernel) ?_; cbv)
            | (refine qab hS I.qaz ?_; cbv)
            | (refine qly hS hsz (by omega) ?_; cbv)
            | (refine add_g hS (.v (z := .y mx) (n := .y k) rfl hG hk) hadd hRr hm (by omega) (by omega) ?_; cbv)
            | (refine qbm hS ?_; try cbv)
            | (refine s_lk hS ?_; try cbv)
            | (refine s_mu hS ?_; try cbv)
            | fail)
          exact fun g => .sub (qch (.cons .rfl (.cons .rfl (.cons (qba rfl) .nil)))) rfl
        · rw [if_neg hp] at hL
          subst hL
          have hp0 : fi = 0 := by omega
          repeat' (first
            | (refine qbl hS rfl ?_; try cbv)
            | (refine s_ck hS ?_; try cbv)
            | (refine qac hS ?_ ?_ <;> intro h <;> (try cbv) <;> try exact s_ab h)
            | (refine s_ad hS ?_; intro _ _; try cbv)
            | (refine s_sb hS ?_; intro _ _; try cbv)
            | (refine qav hS ?_; intro _ _; try cbv)
            | (refine qaf hS ?_; try cbv)
            | (refine qcs hS (t := false) (decide_eq_false hc) ?_; cbv)
            | (refine qgp hS (w := 2) rfl hab hF hn ?_; cbv)
            | (refine qgp hS (w := 3) rfl hab hF hn ?_; cbv)
            | (refine qgp hS (w := 1) rfl hab hF hn ?_; cbv)
            | (refine qad hS rfl I.qas (by decide +kernel) ?_; cbv)
            | (refine qad hS rfl I.qar (by decide +kernel) ?_; cbv)
            | (refine qad hS rfl I.qaq (by decide +kernel) ?_; cbv)
            | (refine qad hS rfl I.qap (by decide +kernel) ?_; cbv)
            | (refine qad hS rfl I.qao (by decide +kernel) ?_; cbv)
            | (refine qad hS rfl I.qan (by decide +kernel) ?_; cbv)
            | (refine qla hS hp0 ?_; cbv)
            | (refine qab hS I.qaz ?_; cbv)
            | (refine qly hS hsz (by omega) ?_; cbv)
            | (refine add_g hS (.v (z := .y mx) (n := .y k) rfl hG hk) hadd hRr hm (by omega) (by omega) ?_; cbv)
            | (refine qbm hS ?_; try cbv)
            | (refine s_lk hS ?_; try cbv)
            | (refine s_mu hS ?_; try cbv)
            | fail)
          exact fun g => .sub (qch (.cons .rfl (.cons .rfl (.cons (qba rfl) .nil)))) rfl
      · rw [if_neg hs] at hL hl
        rw [if_neg (by simp)] at hl
        subst hl
        by_cases hp : 0 < fi
        · rw [if_pos hp] at hL
          subst hL
          repeat' (first
            | (refine qbl hS rfl ?_; try cbv)
            | (refine s_ck hS ?_; try cbv)
            | (refine qac hS ?_ ?_ <;> intro h <;> (try cbv) <;> try exact s_ab h)
            | (refine s_ad hS ?_; intro _ _; try cbv)
            | (refine s_sb hS ?_; intro _ _; try cbv)
            | (refine qav hS ?_; intro _ _; try cbv)
            | (refine qaf hS ?_; try cbv)
            | (refine qcs hS (t := false) (decide_eq_false hc) ?_; cbv)
            | (refine qcd hS (i := fi) (w := 2) rfl rfl hp (by omega) (by omega) hF hn ?_; cbv)
            | (refine qcd hS (i := fi) (w := 3) rfl rfl hp (by omega) (by omega) hF hn ?_; cbv)
            | (refine qcd hS (i := fi) (w := 1) rfl rfl hp (by omega) (by omega) hF hn ?_; cbv)
            | (refine qad hS rfl I.qas (by decide +kernel) ?_; cbv)
            | (refine qad hS rfl I.qar (by decide +kernel) ?_; cbv)
            | (refine qad hS rfl I.qaq (by decide +kernel) ?_; cbv)
            | (refine qad hS rfl I.qap (by decide +kernel) ?_; cbv)
            | (refine qad hS rfl I.qao (by decide +kernel) ?_; cbv)
            | (refine qad hS rfl I.qan (by decide +kernel) ?_; cbv)
            | (refine qab hS I.qaz ?_; cbv)
            | (refine qly hS hsz (by omega) ?_; cbv)
            | (refine qbm hS ?_; try cbv)
            | (refine s_lk hS ?_; try cbv)
            | (refine s_mu hS ?_; try cbv)
            | fail)
          exact fun g => .sub (qch (.cons .rfl (.cons (qec (.cons .rfl (.cons (qcg (hG.symm.trans hRr) (hk.trans hm.symm)) .nil))) (.cons (qba rfl) .nil)))) rfl
        · rw [if_neg hp] at hL
          subst hL
          have hp0 : fi = 0 := by omega
          repeat' (first
            | (refine qbl hS rfl ?_; try cbv)
            | (refine s_ck hS ?_; try cbv)
            | (refine qac hS ?_ ?_ <;> intro h <;> (try cbv) <;> try exact s_ab h)
            | (refine s_ad hS ?_; intro _ _; try cbv)
            | (refine s_sb hS ?_; intro _ _; try cbv)
            | (refine qav hS ?_; intro _ _; try cbv)
            | (refine qaf hS ?_; try cbv)
            | (refine qcs hS (t := false) (decide_eq_false hc) ?_; cbv)
            | (refine qgp hS (w := 2) rfl hab hF hn ?_; cbv)
            | (refine qgp hS (w := 3) rfl hab hF hn ?_; cbv)
            | (refine qgp hS (w := 1) rfl hab hF hn ?_; cbv)
            | (refine qad hS rfl I.qas (by decide +kernel) ?_; cbv)
            | (refine qad hS rfl I.qar (by decide +kernel) ?_; cbv)
            | (refine qad hS rfl I.qaq (by decide +kernel) ?_; cbv)
            | (refine qad hS rfl I.qap (by decide +kernel) ?_; cbv)
            | (refine qad hS rfl I.qao (by decide +kernel) ?_; cbv)
            | (refine qad hS rfl I.qan (by decide +kernel) ?_; cbv)
            | (refine qla hS hp0 ?_; cbv)
            | (refine qab hS I.qaz ?_; cbv)
            | (refine qly hS hsz (by omega) ?_; cbv)
            | (refine qbm hS ?_; try cbv)
            | (refine s_lk hS ?_; try cbv)
            | (refine s_mu hS ?_; try cbv)
            | fail)
          exact fun g => .sub (qch (.cons .rfl (.cons (qec (.cons .rfl (.cons (qcg (hG.symm.trans hRr) (hk.trans hm.symm)) .nil))) (.cons (qba rfl) .nil)))) rfl
end Pa
end Cz
namespace Cz
open Go Go.RowKit
section
variable {P : Program} {l : List Blk}
theorem Rel.reblk {N : Nat → Prop} {W0 W : World} {ρ : Nms} (hR : Rel P N W0 ρ l W) {k : Nat} {cs cs' : List SV} (hB : l[k]? = some (.c cs)) (hlen : cs'.length = cs.length)
    (hd : ∀ (q : Nat) (x' : SV), cs'[q]? = some x' → ∃ x, cs[q]? = some x ∧ ∀ v, den ρ x v → den ρ x' v) : Rel P N W0 ρ (l.set k (.c cs')) W := by
  have hk := (List.getElem?_eq_some_iff.1 hB).1
  have hat : ∀ (j : Nat) (B : Blk), (l.set k (.c cs'))[j]? = some B → B.wr = true → ∃ B0, l[j]? = some B0 ∧ B0.wr = true := by
    intro j B h hw
    by_cases e : j = k
    · subst e; exact ⟨_, hB, rfl⟩
    · rw [List.getElem?_set_ne (fun h => e h.symm)] at h; exact ⟨B, h, hw⟩
  refine ⟨hR.below, hR.le, fun j hj => hR.out j (by simpa using hj), hR.ids, fun j B h => ?_, fun j j' B vw vw' a a' h hw hne hv hv' ha ha' => ?_, fun j B vw a h hw hv ha => ?_, hR.qN, hR.fin, fun j B vw a h hw hv ha => ?_⟩
  · by_cases e : j = k
    · subst e
      rw [List.getElem?_set_self hk] at h
      simp only [Option.some.injEq] at h; subst h
      obtain ⟨b, h1, h2, h3⟩ := hR.blk j _ hB
      refine ⟨b, by rw [h1, hlen], ?_, by rw [hlen]; exact h3⟩
      refine ⟨by rw [hlen]; exact h2.1, fun hb => by (cases hb), fun q x' hq hx' => ?_⟩
      obtain ⟨x, hx, hdx⟩ := hd q x' hx'
      obtain ⟨a, v, g1, g2, g3⟩ := h2.2.2 q x (by simpa [hlen] using hq) hx
      exact ⟨a, v, g1, g2, hdx v g3⟩
    · rw [List.getElem?_set_ne (fun h => e h.symm)] at h
      exact hR.blk j B h
  · obtain ⟨B0, g1, g2⟩ := hat j B h hw
    exact hR.sep j j' B0 vw vw' a a' g1 g2 hne hv hv' ha ha'
  · obtain ⟨B0, g1, g2⟩ := hat j B h hw
    exact hR.own j B0 vw a g1 g2 hv ha
  · obtain ⟨B0, g1, g2⟩ := hat j B h hw
    exact hR.fsep j B0 vw a g1 g2 hv ha
theorem qno {S : Sy} (hS : S0 P = S) (k q sz : Nat) {cs : List SV} {cx : Cx} {b : IR} {K : VK} {e : Env} (hsz : 0 < sz) (hB : lget l k = .c cs) (hq : nth cs q = .re (.slice none 0 0))
    (h : S.loop cx b e (snoc (lset l k (.c (put cs q (nilRow l sz)))) (.r false true (.l 0) sz [])) K) : S.loop cx b e l K := by
  subst hS
  have hB' := qaj hB (by simp)
  have hk := (List.getElem?_eq_some_iff.1 hB').1
  rw [qbx, qbr] at h
  intro c kl hc N W0 ρ rr a W hs hr hm
  have hle : Le l.length ρ (upd ρ l.length [⟨none, 0, 0⟩]) := qgb (Nat.le_refl _)
  have hE : EnvOk (upd ρ l.length [⟨none, 0, 0⟩]) e.vs a.tmps := hs.env.le hle hs.rel.out
  have hM : MkOk (upd ρ l.length [⟨none, 0, 0⟩]) e.mks a.defers := MkOk.le hle hs.rel.out _ _ hs.mks
  have hG := hs.rel.ghost false hsz
  have hR := hG.reblk (k := k) (cs := cs) (cs' := put cs q (nilRow l sz)) (by rw [List.getElem?_append_left hk]; exact hB') (by rw [qce, List.length_set]) (by
    intro j x' hx'
    by_cases hj : j = q
    · subst hj
      have hlt : j < cs.length := by have := (List.getElem?_eq_some_iff.1 hx').1; rw [qce, List.length_set] at this; exact this
      rw [qce, List.getElem?_set_self hlt] at hx'
      simp only [Option.some.injEq] at hx'; subst hx'
      refine ⟨_, List.getElem?_eq_getElem hlt, fun v hd => ?_⟩
      have : cs[j] = .re (.slice none 0 0) := by rw [qcy, List.getD_eq_getElem?_getD, List.getElem?_eq_getElem hlt] at hq; exact hq
      rw [this] at hd
      simp only [den] at hd
      rw [hd.1]; exact qlm (by rw [qah]; simp)
    · rw [qce, List.getElem?_set_ne (fun e => hj e.symm)] at hx'
      exact ⟨x', hx', fun _ h => h⟩)
  rw [List.set_append_left _ _ hk] at hR
  exact Wp.mono (h c kl hc N W0 _ rr a W ⟨hR, hE, hM⟩ (hr.le (qgb hm)) (by simp; omega)) fun _ _ _ q => q.le (qgb hm)
end
theorem s_qA {p : Prop} (h : p := by repeat' (first | exact trivial | exact SubB.rfl | exact Sub.rfl | refine And.intro ?_ ?_ | (exact SubB.c (by with_reducible assumption)) | refine SubB.c ?_ | exact SubB.r .rfl rfl rfl | exact SubB.r .rfl rfl (by assumption) | exact SubM.nil | refine SubM.cons ?_ ?_ ?_ | refine SubB.m ?_ | exact qgr | exact SubL.nil | refine SubL.cons ?_ ?_ | exact qba rfl | refine qch ?_ | refine qec ?_ | exact qjh rfl rfl | exact qcg rfl rfl | exact qni rfl | exact qun rfl | exact sub_b_tt rfl | exact sub_b_ff rfl | (refine qba ?_; simp only [Z.v]; omega) | (refine qup ?_; assumption) | (refine qni ?_; assumption) | (refine qun ?_; assumption))) : p := h
end Cz
namespace Cz
open Go Go.RowKit Go.Proofs
namespace Pa
open Tb
section
variable {S : Sy} {bl : List Blk} {K : SV → List Blk → Prop}
theorem field_g (hS : S0 Tryd.prog = S) {cs : List SV} {mx : Int} {l l' : List Tb.Fd} {a b : List UInt8} {L : List Int} {F R : List SV} {n m : Int} (hc : TabC [] cs mx l) (hR : rightL mx l = true) (hL : fieldB mx l (a, b) = L) (hl : fieldL mx l (a, b) = l') (hF : cellsB L = F) (hn : n = ilen L) (hRr : cellsF l' = R) (hm : m = ilen l')
    (hab : ilen a + ilen b ≤ 60000) (hK : K (.tp [.v false 1 F (.y n), .ag [.i .i64 (.y mx), .v false 2 R (.y m)], .i .i64 (.y 0)]) bl) : S.call 44 [.ag cs, .ag [.s a, .s b]] bl K := by
  refine qft hS (field_f hR hL hl hF hn hRr hm hab) ?_ rfl hK
  match hc.sub with
  | .cons h _ => exact .cons h .rfl
end
theorem block_f {mx : Int} {l l' fs : List Tb.Fd} {L : List Int} {F R : List SV} {n m : Int} (hR : rightL mx l = true) (hL : blockB mx l fs = L) (hl : blockL mx l fs = l') (hF : cellsB L = F) (hn : n = ilen L) (hRr : cellsF l' = R) (hm : m = ilen l')
    (hfs : fullL fs ≤ 60000) :
    (S0 Tryd.prog).call 40 [tabV mx l, .v false 2 (cellsF fs) (.y (ilen fs))] [] (Tell (.tp [.v false 1 F (.y n), .ag [.i .i64 (.y mx), .v false 2 R (.y m)], .i .i64 (.y 0)])) := by
  have hl0 := qfe hR
  have hR' := of_decide_eq_true hR
  unfold tabV
  generalize hG : cellsF l = G
  obtain ⟨k, hk⟩ : ∃ k, k = ilen l := ⟨_, rfl⟩
  generalize hH : cellsF fs = H
  obtain ⟨q, hq⟩ : ∃ k, k = ilen fs := ⟨_, rfl⟩
  have hres : resR (mx, l) mx = ((mx, l), 0) := by unfold resR; rw [if_pos ⟨hR, hR'.1, hR'.2.1⟩]; dsimp only; rw [qhg hR'.2.2]
  rw [← hk, ← hq]
  generalize hS : S0 Tryd.prog = S
  refine qab hS I.qdz ?_
  cbv
  refine qww hS (.v (z := .y mx) (n := .y k) rfl hG hk) hres hG hk (by omega) ?_
  cbv
  repeat' (first
    | (refine qbl hS rfl ?_; try cbv)
    | (refine s_ck hS ?_; try cbv)
    | (refine qac hS ?_ ?_ <;> intro h <;> (try cbv) <;> try exact s_ab h)
    | (refine s_ad hS ?_; intro _ _; try cbv)
    | (refine s_sb hS ?_; intro _ _; try cbv)
    | (refine qav hS ?_; intro _ _; try cbv)
    | (refine qaf hS ?_; try cbv)
    | (refine qab hS I.qew ?_; cbv)
    | (refine qed hS I.qdt ?_; cbv)
    | (refine qbm hS ?_; try cbv)
    | (refine s_lk hS ?_; try cbv)
    | (refine s_mu hS ?_; try cbv)
    | fail)
  refine qno hS 1 0 1 (by decide) rfl rfl ?_
  cbv
  refine qbh hS 8 I.qdw (fun x : Int × Int × List SV × Int × List SV × Int => 0 ≤ x.1 ∧ x.1 ≤ q ∧ ∃ Lb lt, blockB mx l (fs.take x.1.toNat) = Lb ∧ blockL mx l (fs.take x.1.toNat) = lt ∧ cellsB Lb = x.2.2.1 ∧ x.2.2.2.1 = ilen Lb ∧ cellsF lt = x.2.2.2.2.1 ∧ x.2.2.2.2.2 = ilen lt)
    (fun x => [(9, .i .i64 (.y x.1))])
    (fun x => [(1, .c [.sl 7 1 (.l 0) (.y x.2.2.2.1) none]), (2, .c [.i .i64 (.y mx), .v false 2 x.2.2.2.2.1 (.y x.2.2.2.2.2)]), (3, .c [.i .i64 (.y mx), .v false 2 x.2.2.2.2.1 (.y x.2.2.2.2.2)]), (7, .r false false (.y x.2.1) 1 x.2.2.1)])
    (fun x => (q - x.1).toNat) (0, 0, [], 0, G, k) rfl
    ⟨⟨Int.le_refl _, by dsimp only; rw [hq]; exact qai _, [], l, rfl, rfl, rfl, rfl, hG, hk⟩, rfl, ?_, ?_, by cbv⟩ ?_
  · cbv; exact s_qA
  · cbv; exact s_qA
  intro x
  obtain ⟨i, st, B, bn, T, tn⟩ := x
  intro hx
  dsimp only at hx
  cbv
  obtain ⟨k0, k1, Lb, lt, f1, f2, f3, f4, f5, f6⟩ := hx
  refine qac hS ?_ ?_ <;> intro h <;> cbv
  · obtain ⟨⟨a, b⟩, hp⟩ := qkl (l := fs) (i := i) (by omega) k0
    have hRt : rightL mx lt = true := f2 ▸ qgm hR
    have hsz := qxf hp
    have hsz' : szF (a, b) = ilen a + ilen b + 32 := rfl
    have h0a := qai a
    have h0b := qai b
    obtain ⟨Lf, hLf⟩ : ∃ L, fieldB mx lt (a, b) = L := ⟨_, rfl⟩
    obtain ⟨lf, hlf⟩ : ∃ L, fieldL mx lt (a, b) = L := ⟨_, rfl⟩
    obtain ⟨Ff, hFf⟩ : ∃ F, cellsB Lf = F := ⟨_, rfl⟩
    obtain ⟨nf, hnf⟩ : ∃ n, n = ilen Lf := ⟨_, rfl⟩
    obtain ⟨Rf, hRf⟩ : ∃ F, cellsF lf = F := ⟨_, rfl⟩
    obtain ⟨mf, hmf⟩ : ∃ n, n = ilen lf := ⟨_, rfl⟩
    obtain ⟨nx1, nx2⟩ := qrk (mx := mx) (l := l) hp k0
    rw [f1, f2, hLf] at nx1
    rw [f2, hlf] at nx2
    have hfl := qpb mx lt (a, b)
    rw [hLf, ← hnf] at hfl
    have hbl := qkj mx (fs.take i.toNat) l
    have hft := qfm fs i.toNat
    rw [f1, ← f4] at hbl
    have hnf0 : 0 ≤ nf := hnf ▸ qai _
    have hbn0 : 0 ≤ bn := f4 ▸ qai _
    have hfn := qcj fs
    have hBl : ilen B = bn := by rw [← f3, qbc, f4]
    repeat' (first
      | (refine qbl hS rfl ?_; try cbv)
      | (refine s_ck hS ?_; try cbv)
      | (refine qac hS ?_ ?_ <;> intro h <;> (try cbv) <;> try exact s_ab h)
      | (refine s_ad hS ?_; intro _ _; try cbv)
      | (refine s_sb hS ?_; intro _ _; try cbv)
      | (refine qav hS ?_; intro _ _; try cbv)
      | (refine qaf hS ?_; try cbv)
      | (refine rowF hS hH hp k0 ?_; cbv)
      | (refine field_g hS (.v (z := .y mx) (n := .y tn) rfl f5 f6) hRt hLf hlf hFf hnf hRf hmf (by omega) ?_; cbv)
      | (refine qev hS rfl rfl ?_; cbv)
      | (refine qad hS rfl I.qcu (by decide +kernel) ?_; cbv)
      | (refine qad hS rfl I.qdp (by decide +kernel) ?_; cbv)
      | (refine qbm hS ?_; try cbv)
      | (refine s_lk hS ?_; try cbv)
      | (refine s_mu hS ?_; try cbv)
      | fail)
    rename_i i2 hi2
    have e1 : S.app B Ff = cellsB (Lb ++ Lf) := qdl hS f3.symm hFf.symm
    have e2 : S.pl bn nf = ilen (Lb ++ Lf) := by rw [qbt, ← f4, ← hnf]; subst hS; rfl
    refine ⟨(i2, S.flen B, S.app B Ff, S.pl bn nf, Rf, mf), by dsimp only; omega, ⟨by dsimp only; omega, by dsimp only; omega, Lb ++ Lf, lf, by dsimp only; rw [hi2]; exact nx1, by dsimp only; rw [hi2]; exact nx2, e1.symm, e2, hRf, hmf⟩, rfl, ?_, ?_, by cbv⟩
    · cbv; exact s_qA
    · cbv; exact s_qA
  · refine qad hS rfl I.qdo (by decide +kernel) ?_
    cbv
    have hft : fs.take i.toNat = fs := qbf (by omega)
    rw [hft] at f1 f2
    have e1 : cellsB L = F := hF
    rw [← hL, f1] at e1 hn
    rw [← hl, f2] at hRr hm
    subst e1 hRr
    exact fun g => .tp (.cons (bytes_fz (z := .y bn) rfl f3 f4 hn g) (.cons (.ag (.cons (.sub .rfl rfl) (.cons (.sub (qcg f5.symm (f6.trans hm.symm)) rfl) .nil))) (.cons (.sub (qba rfl) rfl) .nil)))
section
variable {S : Sy} {bl : List Blk} {K : SV → List Blk → Prop}
theorem block_g (hS : S0 Tryd.prog = S) {cs : List SV} {x : SV} {mx : Int} {l l' fs : List Tb.Fd} {L : List Int} {F R : List SV} {n m : Int} (hc : TabC [] cs mx l) (hx : Sub x (.v false 2 (cellsF fs) (.y (ilen fs)))) (hR : rightL mx l = true) (hL : blockB mx l fs = L) (hl : blockL mx l fs = l') (hF : cellsB L = F) (hn : n = ilen L) (hRr : cellsF l' = R) (hm : m = ilen l')
    (hfs : fullL fs ≤ 60000) (hK : K (.tp [.v false 1 F (.y n), .ag [.i .i64 (.y mx), .v false 2 R (.y m)], .i .i64 (.y 0)]) bl) : S.call 40 [.ag cs, x] bl K := by
  refine qft hS (block_f hR hL hl hF hn hRr hm hfs) ?_ rfl hK
  match hc.sub with
  | .cons h _ => exact .cons h (.cons hx .nil)
end
theorem sized_f {mx most : Int} {l l' fs : List Tb.Fd} {L : List Int} {F R : List SV} {n m : Int} (hR : rightL mx l = true) (h0 : 0 ≤ most) (h1 : most ≤ 4096) (hL : sizB most ++ blockB most (evL most l) fs = L) (hl : blockL most (evL most l) fs = l') (hF : cellsB L = F) (hn : n = ilen L) (hRr : cellsF l' = R) (hm : m = ilen l')
    (hfs : fullL fs ≤ 60000) :
    (S0 Tryd.prog).call 42 [tabV mx l, .i .i64 (.y most), .v false 2 (cellsF fs) (.y (ilen fs))] [] (Tell (.tp [.v false 1 F (.y n), .ag [.i .i64 (.y most), .v false 2 R (.y m)], .i .i64 (.y 0)])) := by
  have hl0 := qfe hR
  have hR' := of_decide_eq_true hR
  unfold tabV
  generalize hG : cellsF l = G
  obtain ⟨k, hk⟩ : ∃ k, k = ilen l := ⟨_, rfl⟩
  obtain ⟨lr, hlr⟩ : ∃ r, evL most l = r := ⟨_, rfl⟩
  obtain ⟨rF, hrF⟩ : ∃ r, cellsF lr = r := ⟨_, rfl⟩
  obtain ⟨rn, hrn⟩ : ∃ r, r = ilen lr := ⟨_, rfl⟩
  have hres : resR (mx, l) most = ((most, lr), 0) := by unfold resR; rw [if_pos ⟨hR, h0, h1⟩, hlr]
  have hRr2 : rightL most lr = true := hlr ▸ right_ev h0 h1
  rw [hlr] at hL hl
  obtain ⟨Lb, hLb⟩ : ∃ L, blockB most lr fs = L := ⟨_, rfl⟩
  obtain ⟨Fb, hFb⟩ : ∃ F, cellsB Lb = F := ⟨_, rfl⟩
  obtain ⟨nb, hnb⟩ : ∃ n, n = ilen Lb := ⟨_, rfl⟩
  have hbl := qkj most fs lr
  rw [hLb] at hL
  rw [hLb, ← hnb] at hbl
  obtain ⟨Fz, hFz⟩ : ∃ F, cellsB (sizB most) = F := ⟨_, rfl⟩
  obtain ⟨nz, hnz⟩ : ∃ n, n = ilen (sizB most) := ⟨_, rfl⟩
  have hzl := qct most 32 32
  have hzl2 : nz = ilen (putI most 32 32) := hnz
  have hFl : ilen Fz = nz := by rw [← hFz, qbc, hnz]
  rw [← hzl2] at hzl
  generalize hH : cellsF fs = H
  obtain ⟨q, hq⟩ : ∃ k, k = ilen fs := ⟨_, rfl⟩
  rw [← hk, ← hq]
  generalize hS : S0 Tryd.prog = S
  refine qab hS I.qtf ?_
  cbv
  refine qww hS (.v (z := .y mx) (n := .y k) rfl hG hk) hres hrF hrn (by omega) ?_
  cbv
  repeat' (first
    | (refine qbl hS rfl ?_; try cbv)
    | (refine s_ck hS ?_; try cbv)
    | (refine qac hS ?_ ?_ <;> intro h <;> (try cbv) <;> try exact s_ab h)
    | (refine s_ad hS ?_; intro _ _; try cbv)
    | (refine s_sb hS ?_; intro _ _; try cbv)
    | (refine qav hS ?_; intro _ _; try cbv)
    | (refine qaf hS ?_; try cbv)
    | (refine own_u1 hS (siz_o h0 (by omega)) (.cons (qba rfl) .nil) rfl hFz hnz ?_; cbv)
    | (refine block_g hS (.v (z := .y most) (n := .y rn) rfl hrF hrn) (qcg hH.symm hq) hRr2 hLb hl hFb hnb hRr hm hfs ?_; cbv)
    | (refine qad hS rfl I.qmk (by decide +kernel) ?_; cbv)
    | (refine qad hS rfl I.qmj (by decide +kernel) ?_; cbv)
    | (refine qbm hS ?_; try cbv)
    | (refine s_lk hS ?_; try cbv)
    | (refine s_mu hS ?_; try cbv)
    | fail)
  have e1 : S.app Fz Fb = cellsB L := by rw [qdl hS hFz.symm hFb.symm, hL]
  have e2 : S.pl nz nb = ilen L := by rw [← hL, qbt, ← hnz, ← hnb]; subst hS; rfl
  subst hF
  exact fun g => .tp (.cons (bytes_fz (z := .y (S.pl nz nb)) rfl e1.symm e2 hn g) (.cons (.sub .rfl rfl) (.cons (.sub (qba rfl) rfl) .nil)))
def errP : SV := .tp [.v false 1 [] (.y 0), .ag [.i .i64 (.y 0), .v false 2 [] (.y 0)], .i .i64 (.y 2)]
theorem err_fz {x : SV} {l' : List Blk} (h : Sub x (.tp [.re (.slice none 0 0), .ag [.i .i64 (.l 0), .re (.slice none 0 0)], .i .i64 (.l 2)]) ∨ Sub x (.tp [.re (.slice none 0 0), .ag [.i .i64 (.y 0), .v false 2 [] (.y 0)], .i .i64 (.l 2)])) (hr : refsB (fun _ => false) x = true) : Tell errP x l' := by
  refine fun g => .sub ?_ hr
  rcases h with h | h
  · exact h.trans (qch (.cons (qql (by decide) rfl rfl) (.cons (qec (.cons (qba rfl) (.cons (qql (by decide) rfl rfl) .nil))) (.cons (qba rfl) .nil))))
  · exact h.trans (qch (.cons (qql (by decide) rfl rfl) (.cons .rfl (.cons (qba rfl) .nil))))
theorem block_e {mx : Int} {l fs : List Tb.Fd} (hR : rightL mx l = false) (hb : fullL l ≤ 10000000) : (S0 Tryd.prog).call 40 [tabV mx l, .v false 2 (cellsF fs) (.y (ilen fs))] [] (Tell errP) := by
  unfold tabV
  generalize hG : cellsF l = G
  obtain ⟨k, hk⟩ : ∃ k, k = ilen l := ⟨_, rfl⟩
  have hres : resR (mx, l) mx = ((0, []), 2) := by unfold resR; rw [if_neg (by rw [hR]; simp)]
  rw [← hk]
  generalize hH : cellsF fs = H
  obtain ⟨q, hq⟩ : ∃ k, k = ilen fs := ⟨_, rfl⟩
  rw [← hq]
  generalize hS : S0 Tryd.prog = S
  refine qab hS I.qdz ?_
  cbv
  refine qww hS (.v (z := .y mx) (n := .y k) rfl hG hk) hres rfl rfl (by omega) ?_
  cbv
  repeat' (first
    | (refine qbl hS rfl ?_; try cbv)
    | (refine s_ck hS ?_; try cbv)
    | (refine qac hS ?_ ?_ <;> intro h <;> (try cbv) <;> try exact s_ab h)
    | (refine s_ad hS ?_; intro _ _; try cbv)
    | (refine s_sb hS ?_; intro _ _; try cbv)
    | (refine qav hS ?_; intro _ _; try cbv)
    | (refine qaf hS ?_; try cbv)
    | (refine qad hS rfl I.qcu (by decide +kernel) ?_; cbv)
    | (refine qbm hS ?_; try cbv)
    | (refine s_lk hS ?_; try cbv)
    | (refine s_mu hS ?_; try cbv)
    | fail)
  exact err_fz (.inr .rfl) rfl
end Pa
end Cz
namespace Cz
open Go Go.RowKit Go.Proofs
namespace Pa
open Tb
theorem strB_inj {a b : List Int} (ha : Hu.BOk a) (hb : Hu.BOk b) (h : strB a = strB b) : a = b := by rw [← byS_strB ha, ← byS_strB hb, h]
theorem rsm_f {a b : List Int} {t : Bool} (ha : Hu.BOk a) (hb : Hu.BOk b) (ht : decide (a = b) = t) : (S0 Tryd.prog).call 46 [.v false 1 (cellsB a) (.y (ilen a)), .v false 1 (cellsB b) (.y (ilen b))] [] (fun x _ => Sub x (.b t)) := by
  generalize hF : cellsB a = F
  generalize hG : cellsB b = G
  obtain ⟨m, hm⟩ : ∃ m, m = ilen a := ⟨_, rfl⟩
  obtain ⟨n, hn⟩ : ∃ n, n = ilen b := ⟨_, rfl⟩
  rw [← hm, ← hn]
  obtain ⟨x, hx⟩ : ∃ x, strB a = x := ⟨_, rfl⟩
  obtain ⟨y, hy⟩ : ∃ x, strB b = x := ⟨_, rfl⟩
  generalize hS : S0 Tryd.prog = S
  refine qab hS I.qja ?_
  cbv
  repeat' (first
    | (refine qbl hS rfl ?_; try cbv)
    | (refine s_ck hS ?_; try cbv)
    | (refine qac hS ?_ ?_ <;> intro h <;> (try cbv) <;> try exact s_ab h)
    | (refine s_ad hS ?_; intro _ _; try cbv)
    | (refine s_sb hS ?_; intro _ _; try cbv)
    | (refine qav hS ?_; intro _ _; try cbv)
    | (refine qaf hS ?_; try cbv)
    | (refine s_bsx hS ha hF hm hx ?_; cbv)
    | (refine s_bsx hS hb hG hn hy ?_; cbv)
    | (refine qbm hS ?_; try cbv)
    | (refine s_lk hS ?_; try cbv)
    | (refine s_mu hS ?_; try cbv)
    | fail)
  refine qup ?_
  subst hS
  show (x == y) = t
  rw [← ht, ← hx, ← hy]
  by_cases h : a = b
  · simp [h]
  · have : strB a ≠ strB b := fun e => h (strB_inj ha hb e)
    simp [h, this]
section
variable {S : Sy} {bl : List Blk} {K : SV → List Blk → Prop}
theorem rsm_u (hS : S0 Tryd.prog = S) {x y : SV} {a b : List Int} (hc : FzL bl id [] [x, y] [.v false 1 (cellsB a) (.y (ilen a)), .v false 1 (cellsB b) (.y (ilen b))]) (ha : Hu.BOk a) (hb : Hu.BOk b) (h1 : a = b → K .tt bl) (h2 : a ≠ b → K .ff bl) : S.call 46 [x, y] bl K := by
  by_cases h : a = b
  · exact qbw hS (qbg (rsm_f ha hb (decide_eq_true h))) hc rfl rfl (h1 h)
  · exact qbw hS (qbg (rsm_f ha hb (decide_eq_false h))) hc rfl rfl (h2 h)
theorem rsm_t (hS : S0 Tryd.prog = S) {x y : SV} {a : List Int} (hc : FzL bl id [] [x, y] [.v false 1 (cellsB a) (.y (ilen a)), .v false 1 (cellsB a) (.y (ilen a))]) (ha : Hu.BOk a) (hK : K .tt bl) : S.call 46 [x, y] bl K :=
  rsm_u hS hc ha ha (fun _ => hK) (fun h => absurd rfl h)
inductive ByC (bl : List Blk) : SV → List Int → Prop where
  | v {n : Z} {lit : Bool} {F : List SV} {b : List Int} (hF : cellsB b = F) (hn : n.v = ilen b) : ByC bl (.v lit 1 F n) b
  | nil : ByC bl (.re (.slice none 0 0)) []
  | row {n st : Z} {k : Nat} {lit : Bool} {cap : Option Z} {F : List SV} {b : List Int} (hB : lget bl k = .r false lit st 1 F) (hF : FSub F (cellsB b)) (hn : n.v = ilen b) : ByC bl (.sl k 1 (.l 0) n cap) b
theorem ByC.fz {x : SV} {b : List Int} (h : ByC bl x b) {g : Nat → Nat} : Fz bl g [] x (.v false 1 (cellsB b) (.y (ilen b))) := by
  cases h with
  | v hF hn => exact .sub (qcg hF.symm hn) rfl
  | nil => exact .nil (by decide) rfl
  | @row n st k lit cap F b hB hF hn =>
    refine .row (qaj hB (by simp)) rfl (.fsub ?_ (qam _)) (qam _) hn
    rw [show (Z.l 0).v.toNat * 1 = 0 from rfl, List.drop_zero, List.take_of_length_le]
    · exact hF
    · have h1 := hF.1
      have h2 := qbc b
      unfold ilen at *
      omega
theorem ByC.two {x y : SV} {a b : List Int} (h : ByC bl x a) (h' : ByC bl y b) {g : Nat → Nat} : FzL bl g [] [x, y] [.v false 1 (cellsB a) (.y (ilen a)), .v false 1 (cellsB b) (.y (ilen b))] := .cons h.fz (.cons h'.fz .nil)
end
section
variable {S : Sy} {bl : List Blk} {K : SV → List Blk → Prop}
theorem qjf (hS : S0 Tryd.prog = S) (fs : List Nat) {g : FuncId} {args args' : List SV} {y y' : SV} (hF : (S0 Tryd.prog).call g args' [] (Tell y)) (ha : FzL bl id (others fs (len bl)) args args') (hr : refsBL (fun _ => false) args' = true) (hy : Sub y y') (hK : K y' (frzL fs 0 bl)) : S.call g args bl K := by
  subst hS
  exact qbi (use_frz rfl fs (rows := []) (y := fun _ => y) (qbi hF fun x l' h => ⟨x, .rfl, [], trivial, fun m => h _⟩) ha hr trivial (K := fun x l' => x = y ∧ l' = frzL fs 0 bl) (fun _ => ⟨rfl, rfl⟩)) fun x l' h => ⟨y', h.1 ▸ hy, h.2 ▸ hK⟩
variable {mx n m : Int} {l l' q : List Tb.Fd} {a b : List UInt8} {L : List Int} {F R : List SV} {args : List SV}
theorem pv_l (hF : cellsB L = F) (hn : ilen L = n) (hRr : cellsF l' = R) (hm : ilen l' = m) : Sub (.tp [.v false 1 (cellsB L) (.y (ilen L)), .ag [.i .i64 (.y mx), .v false 2 (cellsF l') (.y (ilen l'))], .i .i64 (.y 0)]) (.tp [.v true 1 F (.l n), .ag [.i .i64 (.l mx), .v true 2 R (.l m)], .i .i64 (.l 0)]) :=
  qch (.cons (qcg hF hn) (.cons (qec (.cons (qba rfl) (.cons (qcg hRr hm) .nil))) (.cons (qba rfl) .nil)))
theorem block_l (hS : S0 Tryd.prog = S) (fs : List Nat) (ha : FzL bl id (others fs (len bl)) args [tabV mx l, .v false 2 (cellsF q) (.y (ilen q))]) (hR : rightL mx l = true) (hL : blockB mx l q = L) (hl : blockL mx l q = l') (hF : cellsB L = F) (hn : ilen L = n) (hRr : cellsF l' = R) (hm : ilen l' = m)
    (hq : fullL q ≤ 60000) (hK : K (.tp [.v true 1 F (.l n), .ag [.i .i64 (.l mx), .v true 2 R (.l m)], .i .i64 (.l 0)]) (frzL fs 0 bl)) : S.call 40 args bl K :=
  qjf hS fs (block_f hR hL hl rfl rfl rfl rfl hq) ha rfl (pv_l hF hn hRr hm) hK
theorem block_el (hS : S0 Tryd.prog = S) (fs : List Nat) (ha : FzL bl id (others fs (len bl)) args [tabV mx l, .v false 2 (cellsF q) (.y (ilen q))]) (hR : rightL mx l = false) (hb : fullL l ≤ 10000000) (hK : K (.tp [.v true 1 [] (.l 0), .ag [.i .i64 (.l 0), .v true 2 [] (.l 0)], .i .i64 (.l 2)]) (frzL fs 0 bl)) : S.call 40 args bl K :=
  qjf hS fs (block_e hR hb) ha rfl (y' := .tp [.v true 1 [] (.l 0), .ag [.i .i64 (.l 0), .v true 2 [] (.l 0)], .i .i64 (.l 2)]) (qch (.cons (qcg rfl rfl) (.cons (qec (.cons (qba rfl) (.cons (qcg rfl rfl) .nil))) (.cons (qba rfl) .nil)))) hK
theorem field_l (hS : S0 Tryd.prog = S) (fs : List Nat) (ha : FzL bl id (others fs (len bl)) args [tabV mx l, .ag [.s a, .s b]]) (hR : rightL mx l = true) (hL : fieldB mx l (a, b) = L) (hl : fieldL mx l (a, b) = l') (hF : cellsB L = F) (hn : ilen L = n) (hRr : cellsF l' = R) (hm : ilen l' = m)
    (hab : ilen a + ilen b ≤ 60000) (hK : K (.tp [.v true 1 F (.l n), .ag [.i .i64 (.l mx), .v true 2 R (.l m)], .i .i64 (.l 0)]) (frzL fs 0 bl)) : S.call 44 args bl K :=
  qjf hS fs (field_f hR hL hl rfl rfl rfl rfl hab) ha rfl (pv_l hF hn hRr hm) hK
theorem sized_l (hS : S0 Tryd.prog = S) (fs : List Nat) {most : Int} (ha : FzL bl id (others fs (len bl)) args [tabV mx l, .i .i64 (.y most), .v false 2 (cellsF q) (.y (ilen q))]) (hR : rightL mx l = true) (h0 : 0 ≤ most) (h1 : most ≤ 4096) (hL : sizB most ++ blockB most (evL most l) q = L) (hl : blockL most (evL most l) q = l') (hF : cellsB L = F) (hn : ilen L = n) (hRr : cellsF l' = R) (hm : ilen l' = m)
    (hq : fullL q ≤ 60000) (hK : K (.tp [.v true 1 F (.l n), .ag [.i .i64 (.l most), .v true 2 R (.l m)], .i .i64 (.l 0)]) (frzL fs 0 bl)) : S.call 42 args bl K :=
  qjf hS fs (sized_f hR h0 h1 hL hl rfl rfl rfl rfl hq) ha rfl (pv_l hF hn hRr hm) hK
end
abbrev fget : Tb.Fd := ([58, 109, 101, 116, 104, 111, 100], [71, 69, 84])
theorem tab_fz {bl : List Blk} {g : Nat → Nat} {ks : List (Option Nat)} {z n : Z} {lit : Bool} {F : List SV} {mx : Int} {l : List Tb.Fd} (hz : z.v = mx) (hF : cellsF l = F) (hn : n.v = ilen l) : Fz bl g ks (.ag [.i .i64 z, .v lit 2 F n]) (tabV mx l) :=
  .ag (.cons (.sub (qba hz) rfl) (.cons (.sub (qcg hF.symm hn) rfl) .nil))
theorem qwr {bl : List Blk} {g : Nat → Nat} {ks : List (Option Nat)} {z : Z} {mx : Int} (hz : z.v = mx) : Fz bl g ks (.ag [.i .i64 z, .re (.slice none 0 0)]) (tabV mx []) :=
  .ag (.cons (.sub (qba hz) rfl) (.cons (.sub (qql (by decide) rfl rfl) rfl) .nil))
theorem qwk : (S0 Tryd.prog).call 39 [] [] (fun y _ => Sub y .tt) := by
  generalize hS : S0 Tryd.prog = S
  refine qab hS I.qic ?_
  cbv
  refine block_l hS [2] (mx := 100) (l := []) (q := [fget, fa, fa]) (L := [129, 64, 1, 97, 1, 49, 149]) (l' := [fa]) (.cons (qwr rfl) (.cons (fz_row (qaj rfl (by simp)) rfl rfl rfl rfl) .nil)) (by decide +kernel) (by decide +kernel) (by decide +kernel) rfl rfl rfl rfl (by decide +kernel) ?_
  cbv
  refine field_l hS [] (mx := 100) (l := []) (a := ckN) (b := [49]) (L := [29, 1, 49]) (l' := []) (.cons (qwr rfl) (.cons (.sub .rfl rfl) .nil)) (by decide +kernel) (by decide +kernel) (by decide +kernel) rfl rfl rfl rfl (by decide +kernel) ?_
  cbv
  refine block_el hS [] (mx := -1) (l := []) (q := []) (.cons (qwr rfl) (.cons (.nil (by decide) rfl) .nil)) (by decide +kernel) (by decide +kernel) ?_
  cbv
  refine sized_l hS [6] (mx := 100) (l := [fa]) (most := 0) (q := [fa]) (L := [32, 0, 1, 97, 1, 49]) (l' := []) (.cons (tab_fz rfl rfl rfl) (.cons (.sub (qba rfl) rfl) (.cons (fz_row (qaj rfl (by simp)) rfl rfl rfl rfl) .nil))) (by decide +kernel) (by decide) (by decide) (by decide +kernel) (by decide +kernel) rfl rfl rfl rfl (by decide +kernel) ?_
  cbv
  refine rsm_t hS (a := [129, 64, 1, 97, 1, 49, 149]) (ByC.two (.v (b := [129, 64, 1, 97, 1, 49, 149]) rfl rfl) (.row (b := [129, 64, 1, 97, 1, 49, 149]) rfl ?_ rfl)) (by intro v hv; simp at hv; omega) ?_
  · exact SubL.fsub (by repeat' (first | exact SubL.nil | refine SubL.cons (qba rfl) ?_))
  cbv
  refine rsame_t hS (mx := 100) (l := [fa]) (.v rfl rfl rfl) (.row (l0 := [fa]) rfl rfl rfl rfl rfl) (by decide) ?_
  cbv
  refine rsm_t hS (a := [29, 1, 49]) (ByC.two (.v (b := [29, 1, 49]) rfl rfl) (.row (b := [29, 1, 49]) rfl ?_ rfl)) (by intro v hv; simp at hv; omega) ?_
  · exact SubL.fsub (by repeat' (first | exact SubL.nil | refine SubL.cons (qba rfl) ?_))
  cbv
  refine rsm_t hS (a := [32, 0, 1, 97, 1, 49]) (ByC.two (.v (b := [32, 0, 1, 97, 1, 49]) rfl rfl) (.row (b := [32, 0, 1, 97, 1, 49]) rfl ?_ rfl)) (by intro v hv; simp at hv; omega) ?_
  · exact SubL.fsub (by repeat' (first | exact SubL.nil | refine SubL.cons (qba rfl) ?_))
  cbv
  refine qbq hS (qbg (qrv (a := ckN) (b := []) (decide_eq_true rfl))) .rfl rfl rfl ?_
  cbv
  refine qbq hS (qbg (qrv (a := [97]) (b := [49]) (t := false) (by decide))) .rfl rfl rfl ?_
  cbv
  exact .rfl
theorem qfs {S : Sy} {bl : List Blk} {K : SV → List Blk → Prop} (hS : S0 Tryd.prog = S) (hK : K .tt bl) : S.call 39 [] bl K := qbq hS qwk .rfl rfl rfl hK
theorem qop {mx : Int} {l q : List Tb.Fd} {t : Bool} (ht : decide ((140 < ilen l ∨ 5000 < fullL l - 32 * ilen l) ∨ (140 < ilen q ∨ 5000 < fullL q - 32 * ilen q) ∨ 40 < ilen q) = t) (hs : shortL l) (hm0 : ilen l ≤ 140737488355328) (hs2 : shortL q) (hm2 : ilen q ≤ 140737488355328) :
    (S0 Tryd.prog).call 38 [tabV mx l, .v false 2 (cellsF q) (.y (ilen q))] [] (fun y _ => Sub y (.b t)) := by
  unfold tabV
  generalize hF : cellsF l = F
  obtain ⟨m, hm⟩ : ∃ m, m = ilen l := ⟨_, rfl⟩
  generalize hG : cellsF q = G
  obtain ⟨n, hn⟩ : ∃ m, m = ilen q := ⟨_, rfl⟩
  rw [← hm, ← hn]
  generalize hS : S0 Tryd.prog = S
  refine qab hS I.qid ?_
  cbv
  refine qsy hS (l := l) (.cons (.sub (qcg hF.symm hm) rfl) .nil) hs hm0 (fun hg => ?_) (fun hg1 hg2 => ?_) <;> cbv
  · refine qni ?_
    rw [← ht]; exact decide_eq_true (.inl hg)
  refine qsy hS (l := q) (.cons (.sub (qcg hG.symm hn) rfl) .nil) hs2 hm2 (fun hg => ?_) (fun hg3 hg4 => ?_) <;> cbv
  · refine qni ?_
    rw [← ht]; exact decide_eq_true (.inr (.inl hg))
  repeat' (first
    | (refine qbl hS rfl ?_; try cbv)
    | (refine s_ck hS ?_; try cbv)
    | (refine qac hS ?_ ?_ <;> intro h <;> (try cbv) <;> try exact s_ab h)
    | (refine s_ad hS ?_; intro _ _; try cbv)
    | (refine s_sb hS ?_; intro _ _; try cbv)
    | (refine qav hS ?_; intro _ _; try cbv)
    | (refine qaf hS ?_; try cbv)
    | (refine qbm hS ?_; try cbv)
    | (refine s_lk hS ?_; try cbv)
    | (refine s_mu hS ?_; try cbv)
    | fail)
  refine qup ?_
  subst hS
  show decide (40 < n) = t
  rw [← ht]
  exact decide_eq_decide.2 ⟨fun h => .inr (.inr (hn ▸ h)), fun h => by omega⟩
section
variable {S : Sy} {bl : List Blk} {K : SV → List Blk → Prop} {cs : List SV} {mx : Int} {l q : List Tb.Fd} {x : SV}
theorem pgreat_u (hS : S0 Tryd.prog = S) (hc : FzL bl id [] [.ag cs, x] [tabV mx l, .v false 2 (cellsF q) (.y (ilen q))]) (hs : shortL l) (hm0 : ilen l ≤ 140737488355328) (hs2 : shortL q) (hm2 : ilen q ≤ 140737488355328)
    (h1 : K .tt bl) (h2 : ilen l ≤ 140 → fullL l ≤ 5000 + 32 * ilen l → ilen q ≤ 40 → fullL q ≤ 5000 + 32 * ilen q → K .ff bl) : S.call 38 [.ag cs, x] bl K := by
  by_cases h : (140 < ilen l ∨ 5000 < fullL l - 32 * ilen l) ∨ (140 < ilen q ∨ 5000 < fullL q - 32 * ilen q) ∨ 40 < ilen q
  · exact qbw hS (qbg (qop (decide_eq_true h) hs hm0 hs2 hm2)) hc rfl rfl h1
  · exact qbw hS (qbg (qop (decide_eq_false h) hs hm0 hs2 hm2)) hc rfl rfl (h2 (by omega) (by omega) (by omega) (by omega))
end
end Pa
end Cz
namespace Cz
open Go Go.RowKit Go.Proofs
namespace Tb
def tabX (mx e : Int) (s : SV) : SV := .tp [.ag [.i .i64 (.y mx), s], .i .i64 (.l e)]
theorem tabX_ctx (mx e : Int) : Ctx (tabX mx e) := by
  intro ρ s v d
  unfold tabX at d
  simp only [den] at d
  obtain ⟨vs, rfl, d⟩ := d
  obtain ⟨vs⟩ := vs
  match vs, d with
  | [], d => simp [denL] at d
  | [_], d => simp [denL] at d
  | _ :: _ :: _ :: _, d => simp [denL] at d
  | [x, y], d =>
    simp only [denL, den] at d
    obtain ⟨⟨ws, rfl, d⟩, rfl, _⟩ := d
    obtain ⟨ws⟩ := ws
    match ws, d with
    | [], d => simp [denL] at d
    | [_], d => simp [denL] at d
    | _ :: _ :: _ :: _, d => simp [denL] at d
    | [x, y], d =>
      simp only [denL, den] at d
      obtain ⟨rfl, d, _⟩ := d
      refine ⟨y, d, fun ρ' s' _ d' => ?_⟩
      unfold tabX
      simp only [den]
      refine ⟨_, rfl, ?_⟩
      simp only [denL, den]
      exact ⟨⟨_, rfl, by simp only [denL, den]; exact ⟨trivial, d', trivial⟩⟩, trivial, trivial⟩
theorem tabX_fz {mx e : Int} (l' : List Blk) (j m : Nat) (z z' : Z) (sz : Nat) (h : z.v = z'.v) : Fz l' (fun i => m + i) [some j] (tabX mx e (.sl j sz (.l 0) z none)) (tabX mx e (.sl m sz (.l 0) z' none)) :=
  .tp (.cons (.ag (.cons (.sub .rfl rfl) (.cons (.keep (i := 0) rfl rfl h) .nil))) (.cons (.sub .rfl rfl) .nil))
def OwnT (mx n : Int) (F : List SV) (x : SV) (l' : List Blk) : Prop := ∃ (j : Nat) (lit : Bool) (st z : Z) (F' : List SV), x = tabX mx 0 (.sl j 2 (.l 0) z none) ∧ l'[j]? = some (.r false lit st 2 F') ∧ plains F' = true ∧ F'.take (z.v.toNat * 2) = F ∧ z.v = n
theorem res_k {mx most m n : Int} {l : List Fd} {F R : List SV} (hF : cellsF l = F) (hm : m = ilen l) (hR : rightL mx l = true) (h1 : 0 ≤ most) (h2 : most ≤ 4096) (hn : n = ilen (evL most l)) (hr : cellsF (evL most l) = R) (hb : fullL l ≤ 100000000) :
    (S0 Tryd.prog).call 30 [.ag [.i .i64 (.y mx), .v false 2 F (.y m)], .i .i64 (.y most)] [] (OwnT most n R) := by
  have hlen := qcj l
  have hm0 := qai l
  generalize hS : S0 Tryd.prog = S
  refine qab hS I.qhd ?_
  cbv
  refine new_u hS (fun h1 => ?_) (fun h1 h2 => ?_) <;> cbv <;> dsimp only [Z.v] at *
  · omega
  · refine qrz hS (.v rfl hF hm) hb (fun h3 => ?_) (fun h3 => ?_) <;> cbv <;> dsimp only [Z.v] at *
    · refine clone_u hS .rfl hF hm (by omega) fun st => ?_
      cbv
      refine qtk hS (mx := most) hF h1 hb fun n1 hn1 => ?_
      cbv
      have e : n1 = n := hn1.trans hn.symm
      refine ⟨3, false, _, .y n1, F, rfl, rfl, hF ▸ qal l, ?_, e⟩
      rw [← hF, qlq, ← hr]
      exact congrArg cellsF (by rw [show (Z.y n1).v = n1 from rfl, hn1]; exact (qna most l).symm)
    · rw [hR] at h3; cases h3
theorem add_k {mx m n : Int} {l : List Fd} {F R : List SV} {a b : List UInt8} (hF : cellsF l = F) (hm : m = ilen l) (hR : rightL mx l = true) (hn : n = ilen (evL mx ((a, b) :: l))) (hr : cellsF (evL mx ((a, b) :: l)) = R) (hb : fullL l ≤ 10000000) (hs : szF (a, b) ≤ 10000000) :
    (S0 Tryd.prog).call 28 [.ag [.i .i64 (.y mx), .v false 2 F (.y m)], .ag [.s a, .s b]] [] (OwnT mx n R) := by
  have hlen := qcj l
  have hm0 := qai l
  have hfl : ilen F = m * 2 := by rw [← hF, hm]; have := qcb l; unfold ilen; omega
  generalize hS : S0 Tryd.prog = S
  refine qab hS I.qmc ?_
  cbv
  refine qrz hS (.v rfl hF hm) (by omega) (fun h3 => ?_) (fun h3 => ?_) <;> cbv <;> dsimp only [Z.v] at *
  · have hmx : 0 ≤ mx := by unfold rightL at h3; have := of_decide_eq_true h3; omega
    repeat' (first
      | (refine s_st hS ?_; try cbv)
      | (refine qac hS ?_ ?_ <;> intro h <;> (try cbv) <;> try exact s_ab h)
      | (refine qau hS ?_; intro _ _; try cbv)
      | (refine qaf hS ?_; try cbv)
      | (refine qav hS ?_; intro _ _; try cbv)
      | (refine qbz hS ?_; try cbv)
      | fail)
    have e1 : S.app [.s a, .s b] F = cellsF ((a, b) :: l) := by subst hS; rw [← hF]; rfl
    have e2 : S.pl 1 m = ilen ((a, b) :: l) := by subst hS; rw [hm]; simp only [pl_eq]; simp [ilen]; omega
    have e3 : fullL ((a, b) :: l) = szF (a, b) + fullL l := rfl
    refine qtk hS (mx := mx) (l := (a, b) :: l) e1.symm hmx (by omega) fun n1 hn1 => ?_
    cbv
    have e : n1 = n := hn1.trans hn.symm
    refine ⟨3, false, _, .y n1, S.app [.s a, .s b] F, rfl, rfl, e1 ▸ qal _, ?_, e⟩
    rw [e1, qlq, ← hr]
    exact congrArg cellsF (by rw [show (Z.y n1).v = n1 from rfl, hn1]; exact (qna mx ((a, b) :: l)).symm)
  · rw [hR] at h3; cases h3
section
variable {S : Sy} {bl : List Blk} {K : SV → List Blk → Prop} {cs : List SV} {mx n : Int} {l : List Fd} {F : List SV} {a b : List UInt8}
theorem res_ku (hS : S0 Tryd.prog = S) (hc : TabC [] cs mx l) {most : Z} (hR : rightL mx l = true) (h1 : 0 ≤ most.v) (h2 : most.v ≤ 4096) (hF : cellsF (evL most.v l) = F) (hn : n = ilen (evL most.v l)) (hb : fullL l ≤ 100000000)
    (hK : K (.tp [.ag [.i .i64 (.y most.v), .sl (len bl) 2 (.l 0) (.y n) none], .i .i64 (.l 0)]) (snoc bl (.r false false (.y 0) 2 F))) : S.call 30 [.ag cs, .i .i64 most] bl K := by
  refine qng hS (tabX_ctx most.v 0) (fun l' j m z z' sz h => tabX_fz l' j m z z' sz h) (res_k rfl rfl hR h1 h2 hn hF hb) ?_ rfl (by decide) (hF ▸ qal _) hK
  match hc.sub with
  | .cons h _ => exact .cons h (.cons (qba rfl) .nil)
theorem add_ku (hS : S0 Tryd.prog = S) (hc : TabC [] cs mx l) (hR : rightL mx l = true) (hF : cellsF (evL mx ((a, b) :: l)) = F) (hn : n = ilen (evL mx ((a, b) :: l))) (hb : fullL l ≤ 10000000) (hs : szF (a, b) ≤ 10000000)
    (hK : K (.tp [.ag [.i .i64 (.y mx), .sl (len bl) 2 (.l 0) (.y n) none], .i .i64 (.l 0)]) (snoc bl (.r false false (.y 0) 2 F))) : S.call 28 [.ag cs, .ag [.s a, .s b]] bl K := by
  refine qng hS (tabX_ctx mx 0) (fun l' j m z z' sz h => tabX_fz l' j m z z' sz h) (add_k rfl rfl hR hn hF hb hs) ?_ rfl (by decide) (hF ▸ qal _) hK
  match hc.sub with
  | .cons h _ => exact .cons h .rfl
end
theorem qnw : ∀ (ws F : List SV) (o : Nat), plains F = true → plains ws = true → plains (repl F o ws) = true
  | [], F, o, h, _ => by simpa [repl] using h
  | w :: ws, F, o, h, hw => by
    rw [repl]
    simp only [plains, Bool.and_eq_true] at hw
    refine qnw ws _ _ (qgv fun x hx => ?_) hw.2
    rw [qce] at hx
    rcases List.mem_or_eq_of_mem_set hx with h1 | h1
    · exact qbp h x h1
    · subst h1; exact hw.1
theorem s_wrg {S : Sy} {F : List SV} {i : Int} {sz j : Nat} {ws : List SV} {K : List SV → Prop} (hS : S0 Tryd.prog = S) (h0 : 0 ≤ i) (h1 : (i.toNat + 1) * sz ≤ F.length) (h2 : j + ws.length ≤ sz) (h3 : plains ws = true) (hp : plains F = true)
    (h : ∀ F', F'.length = F.length → plains F' = true → K F') : S.wr F i sz j ws K :=
  s_wr hS h0 h1 h2 h3 (h _ (qbv _ _ _) (qnw _ _ _ hp h3))
theorem own_f {mx most : Int} {l : List Fd} {a b : List UInt8} (hs : shortL l) (hm0 : ilen l ≤ 140737488355328) (hs1 : shortL [(a, b)]) : (S0 Tryd.prog).call 7 [tabV mx l, .ag [.s a, .s b], .i .i64 (.y most)] [] (fun y _ => Sub y .tt) := by
  unfold tabV
  generalize hF : cellsF l = F
  obtain ⟨m, hm⟩ : ∃ m, m = ilen l := ⟨_, rfl⟩
  have h0 := qai l
  have hsz1 : fullL [(a, b)] = szF (a, b) := by simp [fullL]
  have hfl : ilen F = m * 2 := by rw [← hF, hm]; have := qcb l; unfold ilen; omega
  rw [← hm] at h0 ⊢
  obtain ⟨A, hA⟩ : ∃ A, cellsF (evL mx ((a, b) :: l)) = A := ⟨_, rfl⟩
  obtain ⟨B, hB⟩ : ∃ B, cellsF (evL most l) = B := ⟨_, rfl⟩
  obtain ⟨na, hna⟩ : ∃ n, n = ilen (evL mx ((a, b) :: l)) := ⟨_, rfl⟩
  obtain ⟨nr, hnr⟩ : ∃ n, n = ilen (evL most l) := ⟨_, rfl⟩
  generalize hS : S0 Tryd.prog = S
  refine qab hS I.qgf ?_
  cbv
  refine qsy hS (.cons (.sub (qcg hF.symm hm) rfl) .nil) hs hm0 (fun hg => ?_) (fun hg1 hg2 => ?_) <;> cbv
  · refine qfs hS ?_
    cbv
    exact .rfl
  refine qsy hS (l := [(a, b)]) (.cons (qfw (l := [(a, b)]) (m := 1) (n := .y 1) (qaj rfl (by simp)) rfl rfl rfl rfl) .nil) hs1 (by rw [show ilen [(a, b)] = 1 from rfl]; omega) (fun hg => ?_) (fun hg3 hg4 => ?_) <;> cbv
  · refine qfs hS ?_
    cbv
    exact .rfl
  rw [hsz1, show ilen [(a, b)] = 1 from rfl] at hg4
  repeat' (first
    | (refine qbl hS rfl ?_; try cbv)
    | (refine s_ck hS ?_; try cbv)
    | (refine qac hS ?_ ?_ <;> intro h <;> (try cbv) <;> try exact s_ab h)
    | (refine s_ad hS ?_; intro _ _; try cbv)
    | (refine s_sb hS ?_; intro _ _; try cbv)
    | (refine qav hS ?_; intro _ _; try cbv)
    | (refine qaf hS ?_; try cbv)
    | (refine qbm hS ?_; try cbv)
    | (refine s_lk hS ?_; try cbv)
    | (refine s_mu hS ?_; try cbv)
    | fail)
  by_cases hR : rightL mx l = true
  · refine add_ku hS (.v (z := .y mx) (n := .y m) rfl hF hm) hR hA hna (by omega) (by omega) ?_
    cbv
    have hA2 : A.length = na.toNat * 2 := by rw [← hA, qcb, hna]; unfold ilen; omega
    have hB2 : B.length = nr.toNat * 2 := by rw [← hB, qcb, hnr]; unfold ilen; omega
    have hBp : plains B = true := hB ▸ qal _
    have hr0 : 0 ≤ nr := hnr ▸ qai _
    have hr1 := evL_len most l
    rw [← hnr] at hr1
    have hAp : plains A = true := hA ▸ qal _
    have hn1 := evL_len mx ((a, b) :: l)
    rw [← hna, qjw] at hn1
    have hn0 : 0 ≤ na := hna ▸ qai _
    by_cases hmo : 0 ≤ most ∧ most ≤ 4096
    · refine res_ku hS (.v (z := .y mx) (n := .y m) rfl hF hm) hR hmo.1 hmo.2 hB hnr (by omega) ?_
      cbv
      refine qbh hS 8 I.qcm (fun x : Int × List SV => 0 ≤ x.1 ∧ x.1 ≤ na ∧ x.2.length = A.length ∧ plains x.2 = true) (fun x => [(12, .i .i64 (.y x.1))]) (fun x => [(4, .r false false (.y 0) 2 x.2)]) (fun x => (na - x.1).toNat) (0, A) rfl
        ⟨⟨Int.le_refl _, hn0, rfl, hAp⟩, rfl, ?_, ?_, by cbv⟩ ?_
      · cbv; all_goals exact s_sA
      · cbv; all_goals exact s_bA
      intro x
      obtain ⟨i, A'⟩ := x
      intro hx
      dsimp only at hx
      cbv
      obtain ⟨k0, k1, k2, k3⟩ := hx
      refine qac hS ?_ ?_ <;> intro h <;> cbv
      · repeat' (first
        | (refine qbl hS rfl ?_; try cbv)
        | (refine s_ck hS ?_; try cbv)
        | (refine qac hS ?_ ?_ <;> intro h <;> (try cbv) <;> try exact s_ab h)
        | (refine s_ad hS ?_; intro _ _; try cbv)
        | (refine s_sb hS ?_; intro _ _; try cbv)
        | (refine qav hS ?_; intro _ _; try cbv)
        | (refine qaf hS ?_; try cbv)
        | (refine s_wrg hS k0 (by omega) (by decide) rfl k3 fun F2 e1 e2 => ?_; cbv)
        | (refine qbm hS ?_; try cbv)
        | (refine s_lk hS ?_; try cbv)
        | (refine s_mu hS ?_; try cbv)
        | fail)
        rename_i i2 hi2
        refine ⟨(i2, F2), by dsimp only; omega, ⟨by dsimp only; omega, by dsimp only; omega, e1.trans k2, e2⟩, rfl, ?_, ?_, by cbv⟩
        · cbv; all_goals exact s_sA
        · cbv; all_goals exact s_bA
      · cbv
        refine qbh hS 8 I.qei (fun x : Int × List SV => 0 ≤ x.1 ∧ x.1 ≤ nr ∧ x.2.length = B.length ∧ plains x.2 = true) (fun x => [(13, .i .i64 (.y x.1))]) (fun x => [(6, .r false false (.y 0) 2 x.2)]) (fun x => (nr - x.1).toNat) (0, B) rfl
          ⟨⟨Int.le_refl _, hr0, rfl, hBp⟩, rfl, ?_, ?_, by cbv⟩ ?_
        · cbv; all_goals exact s_sA
        · cbv; all_goals exact s_bA
        intro x
        obtain ⟨i3, B'⟩ := x
        intro hx
        dsimp only at hx
        cbv
        obtain ⟨q0, q1, q2, q3⟩ := hx
        refine qac hS ?_ ?_ <;> intro h <;> cbv
        · repeat' (first
          | (refine qbl hS rfl ?_; try cbv)
          | (refine s_ck hS ?_; try cbv)
          | (refine qac hS ?_ ?_ <;> intro h <;> (try cbv) <;> try exact s_ab h)
          | (refine s_ad hS ?_; intro _ _; try cbv)
          | (refine s_sb hS ?_; intro _ _; try cbv)
          | (refine qav hS ?_; intro _ _; try cbv)
          | (refine qaf hS ?_; try cbv)
          | (refine s_wrg hS q0 (by omega) (by decide) rfl q3 fun F2 e1 e2 => ?_; cbv)
          | (refine qbm hS ?_; try cbv)
          | (refine s_lk hS ?_; try cbv)
          | (refine s_mu hS ?_; try cbv)
          | fail)
          rename_i i2 hi2
          refine ⟨(i2, F2), by dsimp only; omega, ⟨by dsimp only; omega, by dsimp only; omega, e1.trans q2, e2⟩, rfl, ?_, ?_, by cbv⟩
          · cbv; all_goals exact s_sA
          · cbv; all_goals exact s_bA
        · refine qet hS (l := l) (k := l) (.cons (.sub (qcg hF.symm hm) rfl) (.cons ?_ .nil)) (by omega) (by omega) (fun _ => ?_) (fun e => ?_)
          · rw [show cellsF l = cellsF (l.take m.toNat) by rw [qbf (by omega)]]
            exact qfw (qaj rfl (by simp)) rfl ((qhj hS F).trans hF.symm) (by dsimp only [Z.v]; omega) (by dsimp only [Z.v]; exact hm)
          · cbv
            refine qfs hS ?_
            cbv
            exact .rfl
          · cbv
            exact absurd rfl e
    · have hrr : resR (mx, l) most = ((0, []), 2) := by unfold resR; rw [if_neg (by intro h; exact hmo h.2)]
      refine qww hS (.v (z := .y mx) (n := .y m) rfl hF hm) hrr rfl rfl (by omega) ?_
      cbv
      refine qbh hS 7 I.qcm (fun x : Int × List SV => 0 ≤ x.1 ∧ x.1 ≤ na ∧ x.2.length = A.length ∧ plains x.2 = true) (fun x => [(12, .i .i64 (.y x.1))]) (fun x => [(4, .r false false (.y 0) 2 x.2)]) (fun x => (na - x.1).toNat) (0, A) rfl
        ⟨⟨Int.le_refl _, hn0, rfl, hAp⟩, rfl, ?_, ?_, by cbv⟩ ?_
      · cbv; all_goals exact s_sA
      · cbv; all_goals exact s_bA
      intro x
      obtain ⟨i, A'⟩ := x
      intro hx
      dsimp only at hx
      cbv
      obtain ⟨k0, k1, k2, k3⟩ := hx
      refine qac hS ?_ ?_ <;> intro h <;> cbv
      · repeat' (first
        | (refine qbl hS rfl ?_; try cbv)
        | (refine s_ck hS ?_; try cbv)
        | (refine qac hS ?_ ?_ <;> intro h <;> (try cbv) <;> try exact s_ab h)
        | (refine s_ad hS ?_; intro _ _; try cbv)
        | (refine s_sb hS ?_; intro _ _; try cbv)
        | (refine qav hS ?_; intro _ _; try cbv)
        | (refine qaf hS ?_; try cbv)
        | (refine s_wrg hS k0 (by omega) (by decide) rfl k3 fun F2 e1 e2 => ?_; cbv)
        | (refine qbm hS ?_; try cbv)
        | (refine s_lk hS ?_; try cbv)
        | (refine s_mu hS ?_; try cbv)
        | fail)
        rename_i i2 hi2
        refine ⟨(i2, F2), by dsimp only; omega, ⟨by dsimp only; omega, by dsimp only; omega, e1.trans k2, e2⟩, rfl, ?_, ?_, by cbv⟩
        · cbv; all_goals exact s_sA
        · cbv; all_goals exact s_bA
      · cbv
        refine qax hS ?_
        cbv
        refine qac hS ?_ ?_ <;> intro h <;> cbv
        · exact absurd h (by decide)
        refine qet hS (l := l) (k := l) (.cons (.sub (qcg hF.symm hm) rfl) (.cons ?_ .nil)) (by omega) (by omega) (fun _ => ?_) (fun e => ?_)
        · rw [show cellsF l = cellsF (l.take m.toNat) by rw [qbf (by omega)]]
          exact qfw (qaj rfl (by simp)) rfl ((qhj hS F).trans hF.symm) (by dsimp only [Z.v]; omega) (by dsimp only [Z.v]; exact hm)
        · cbv
          refine qfs hS ?_
          cbv
          exact .rfl
        · cbv
          exact absurd rfl e
  · have haa : addR (mx, l) (a, b) = ((0, []), 2) := by unfold addR; rw [if_neg (by simpa using hR)]
    have hrr : resR (mx, l) most = ((0, []), 2) := by unfold resR; rw [if_neg (by intro h; exact hR h.1)]
    refine add_g hS (.v (z := .y mx) (n := .y m) rfl hF hm) haa rfl rfl (by omega) (by omega) ?_
    cbv
    refine qww hS (.v (z := .y mx) (n := .y m) rfl hF hm) hrr rfl rfl (by omega) ?_
    cbv
    refine qax hS ?_
    cbv
    refine qac hS ?_ ?_ <;> intro h <;> cbv
    · exact absurd h (by decide)
    refine qax hS ?_
    cbv
    refine qac hS ?_ ?_ <;> intro h <;> cbv
    · exact absurd h (by decide)
    refine qet hS (l := l) (k := l) (.cons (.sub (qcg hF.symm hm) rfl) (.cons ?_ .nil)) (by omega) (by omega) (fun _ => ?_) (fun e => ?_)
    · rw [show cellsF l = cellsF (l.take m.toNat) by rw [qbf (by omega)]]
      exact qfw (qaj rfl (by simp)) rfl ((qhj hS F).trans hF.symm) (by dsimp only [Z.v]; omega) (by dsimp only [Z.v]; exact hm)
    · cbv
      refine qfs hS ?_
      cbv
      exact .rfl
    · cbv
      exact absurd rfl e
end Tb
end Cz
namespace Cz
open Go Go.RowKit Go.Proofs
section
variable {P : Program} {l : List Blk}
theorem use_onef {S : Sy} (hS : S0 P = S) (fs : List Nat) {C : SV → SV} (hC : Ctx C) (hCz : ∀ (l' : List Blk) (j m : Nat) (z z' : Z) (sz : Nat), z.v = z'.v → Fz l' (fun i => m + i) [some j] (C (.sl j sz (.l 0) z none)) (C (.sl m sz (.l 0) z' none))) {sz : Nat} {F : List SV} {n : Int} {g : FuncId} {args args' : List SV} {K : SV → List Blk → Prop}
    (hF : (S0 P).call g args' [] (fun x l' => ∃ (j : Nat) (lit : Bool) (st z : Z) (F' : List SV), x = C (.sl j sz (.l 0) z none) ∧ l'[j]? = some (.r false lit st sz F') ∧ plains F' = true ∧ F'.take (z.v.toNat * sz) = F ∧ z.v = n)) (ha : FzL l id (others fs (len l)) args args')
    (hr : refsBL (fun _ => false) args' = true) (hsz : 0 < sz) (hp : plains F = true) (hK : K (C (.sl (len l) sz (.l 0) (.y n) none)) (snoc (frzL fs 0 l) (.r false false (.y 0) sz F))) : S.call g args l K := by
  subst hS
  refine call_frz fs (by rw [← qbo]; exact ha) hr ?_
  refine qng rfl hC hCz hF .rfl hr hsz hp ?_
  rw [qbo] at hK ⊢
  rw [qjx]
  exact hK
end
namespace Pa
open Tb
theorem len2 (l : List Tb.Fd) : (cellsF l).length = 2 * (ilen l).toNat := by rw [qcb]; unfold ilen; omega
def C3 (y : SV) (mx : Int) (s : SV) : SV := .tp [y, .ag [.i .i64 (.y mx), s], .i .i64 (.y 0)]
theorem c3_ctx {y : SV} (hy : refsB (fun _ => false) y = true) (mx : Int) : Ctx (C3 y mx) := by
  intro ρ s v d
  unfold C3 at d
  simp only [den] at d
  obtain ⟨vs, rfl, d⟩ := d
  obtain ⟨vs⟩ := vs
  match vs, d with
  | [], d => simp [denL] at d
  | [_], d => simp [denL] at d
  | [_, _], d => simp [denL] at d
  | _ :: _ :: _ :: _ :: _, d => simp [denL] at d
  | [w, x, z], d =>
    simp only [denL, den] at d
    obtain ⟨dw, ⟨ws, rfl, d⟩, rfl, _⟩ := d
    obtain ⟨ws⟩ := ws
    match ws, d with
    | [], d => simp [denL] at d
    | [_], d => simp [denL] at d
    | _ :: _ :: _ :: _, d => simp [denL] at d
    | [x, u], d =>
      simp only [denL, den] at d
      obtain ⟨rfl, d, _⟩ := d
      refine ⟨u, d, fun ρ' s' hf d' => ?_⟩
      unfold C3
      simp only [den]
      refine ⟨_, rfl, ?_⟩
      simp only [denL, den]
      have dw' := qln (ρ := ρ) (ρ' := ρ') (vs := [y]) (fun b o u h => by rw [hf]; exact h) (by simp only [refsBL, hy, Bool.and_self]) [w] (by simp only [denL]; exact ⟨dw, trivial⟩)
      simp only [denL] at dw'
      exact ⟨dw'.1, ⟨_, rfl, by simp only [denL, den]; exact ⟨trivial, d', trivial⟩⟩, trivial, trivial⟩
def OwnP3 (y : SV) (mx m : Int) (R : List SV) (x : SV) (l' : List Blk) : Prop := ∃ (j : Nat) (lit : Bool) (st z : Z) (F' : List SV), Sub x (C3 y mx (.sl j 2 (.l 0) z none)) ∧ l'[j]? = some (.r false lit st 2 F') ∧ plains F' = true ∧ F'.take (z.v.toNat * 2) = R ∧ z.v = m
theorem own3 {y : SV} {mx m k : Int} {R F : List SV} {j : Nat} {lit : Bool} {st e : Z} {l' : List Blk} (hB : l'[j]? = some (.r false lit st 2 F)) (hF : F = R) (hp : plains R = true) (hk : k = m) (hl : R.length = 2 * m.toNat) (he : e.v = 0 := by rfl) : OwnP3 y mx m R (.tp [y, .ag [.i .i64 (.y mx), .sl j 2 (.l 0) (.y k) none], .i .i64 e]) l' := by
  subst hF hk
  refine ⟨j, lit, st, .y k, F, qch (.cons .rfl (.cons .rfl (.cons (qba he) .nil))), hB, hp, ?_, rfl⟩
  rw [List.take_of_length_le]
  show F.length ≤ k.toNat * 2
  omega
theorem field_k {mx : Int} {l l' : List Tb.Fd} {a b : List UInt8} {L : List Int} {F R : List SV} {n m : Int} (hR : rightL mx l = true) (hL : fieldB mx l (a, b) = L) (hl : fieldL mx l (a, b) = l') (hF : cellsB L = F) (hn : n = ilen L) (hRr : cellsF l' = R) (hm : m = ilen l')
    (hab : ilen a + ilen b ≤ 60000) :
    (S0 Tryd.prog).call 44 [tabV mx l, .ag [.s a, .s b]] [] (OwnP3 (.v false 1 F (.y n)) mx m R) := by
  have hl0 := qfe hR
  have hR' := of_decide_eq_true hR
  have h0a := qai a
  have h0b := qai b
  unfold tabV
  generalize hG : cellsF l = G
  obtain ⟨k, hk⟩ : ∃ k, k = ilen l := ⟨_, rfl⟩
  obtain ⟨sz, hsz⟩ : ∃ r, r = szF (a, b) := ⟨_, rfl⟩
  have hsz' : sz = ilen a + ilen b + 32 := hsz
  have hres : resR (mx, l) mx = ((mx, l), 0) := by unfold resR; rw [if_pos ⟨hR, hR'.1, hR'.2.1⟩]; dsimp only; rw [qhg hR'.2.2]
  have hadd : addR (mx, l) (a, b) = ((mx, evL mx ((a, b) :: l)), 0) := by unfold addR; rw [if_pos hR]
  have hrg := find_rng l (a, b)
  unfold fieldL addP at hl
  unfold fieldB ownB at hL
  unfold wayP at hL hl
  rw [← hsz] at hL hl
  obtain ⟨⟨fi, ft⟩, hfi⟩ : ∃ r, Tb.findR l (a, b) = r := ⟨_, rfl⟩
  rw [hfi] at hL hl hrg
  dsimp only at hL hl hrg
  rw [← hk]
  generalize hS : S0 Tryd.prog = S
  refine qab hS I.qka ?_
  cbv
  refine res_ku hS (F := G) (.v (z := .y mx) (n := .y k) rfl hG hk) (most := .y mx) hR hR'.1 hR'.2.1 (by show cellsF (evL mx l) = G; rw [qhg hR'.2.2]; exact hG) (n := k) (by show k = ilen (evL mx l); rw [qhg hR'.2.2]; exact hk) (by omega) ?_
  cbv
  repeat' (first
    | (refine qbl hS rfl ?_; try cbv)
    | (refine s_ck hS ?_; try cbv)
    | (refine qac hS ?_ ?_ <;> intro h <;> (try cbv) <;> try exact s_ab h)
    | (refine s_ad hS ?_; intro _ _; try cbv)
    | (refine s_sb hS ?_; intro _ _; try cbv)
    | (refine qav hS ?_; intro _ _; try cbv)
    | (refine qaf hS ?_; try cbv)
    | (refine qbm hS ?_; try cbv)
    | (refine s_lk hS ?_; try cbv)
    | (refine s_mu hS ?_; try cbv)
    | fail)
  refine find_g hS (.v (z := .y mx) (n := .y k) rfl hG hk) hfi (by omega) ?_
  cbv
  cases ft with
  | true =>
    cbv
    simp only [if_true] at hL hl
    simp at hl
    subst hl hL
    repeat' (first
      | (refine qbl hS rfl ?_; try cbv)
      | (refine s_ck hS ?_; try cbv)
      | (refine qac hS ?_ ?_ <;> intro h <;> (try cbv) <;> try exact s_ab h)
      | (refine s_ad hS ?_; intro _ _; try cbv)
      | (refine s_sb hS ?_; intro _ _; try cbv)
      | (refine qav hS ?_; intro _ _; try cbv)
      | (refine qaf hS ?_; try cbv)
      | (refine idx_g hS (i := fi) rfl hrg.1 (by omega) hF hn ?_; cbv)
      | (refine qad hS rfl I.qas (by decide +kernel) ?_; cbv)
      | (refine qad hS rfl I.qar (by decide +kernel) ?_; cbv)
      | (refine qad hS rfl I.qaq (by decide +kernel) ?_; cbv)
      | (refine qad hS rfl I.qap (by decide +kernel) ?_; cbv)
      | (refine qad hS rfl I.qao (by decide +kernel) ?_; cbv)
      | (refine qad hS rfl I.qan (by decide +kernel) ?_; cbv)
      | (refine qbm hS ?_; try cbv)
      | (refine s_lk hS ?_; try cbv)
      | (refine s_mu hS ?_; try cbv)
      | fail)
    exact own3 rfl (hG.symm.trans hRr) (hRr ▸ qal _) (hk.trans hm.symm) (hRr ▸ hm ▸ len2 _)
  | false =>
    cbv
    rw [if_neg (by simp)] at hL
    by_cases hc : a = ckN
    · rw [if_pos hc] at hL hl
      rw [if_neg (by simp)] at hl
      subst hl
      by_cases hp : 0 < fi
      · rw [if_pos hp] at hL
        subst hL
        repeat' (first
          | (refine qbl hS rfl ?_; try cbv)
          | (refine s_ck hS ?_; try cbv)
          | (refine qac hS ?_ ?_ <;> intro h <;> (try cbv) <;> try exact s_ab h)
          | (refine s_ad hS ?_; intro _ _; try cbv)
          | (refine s_sb hS ?_; intro _ _; try cbv)
          | (refine qav hS ?_; intro _ _; try cbv)
          | (refine qaf hS ?_; try cbv)
          | (refine qcs hS (t := true) (decide_eq_true hc) ?_; cbv)
          | (refine qcd hS (i := fi) (w := 2) rfl rfl hp (by omega) (by omega) hF hn ?_; cbv)
          | (refine qcd hS (i := fi) (w := 3) rfl rfl hp (by omega) (by omega) hF hn ?_; cbv)
          | (refine qcd hS (i := fi) (w := 1) rfl rfl hp (by omega) (by omega) hF hn ?_; cbv)
          | (refine qad hS rfl I.qas (by decide +kernel) ?_; cbv)
          | (refine qad hS rfl I.qar (by decide +kernel) ?_; cbv)
          | (refine qad hS rfl I.qaq (by decide +kernel) ?_; cbv)
          | (refine qad hS rfl I.qap (by decide +kernel) ?_; cbv)
          | (refine qad hS rfl I.qao (by decide +kernel) ?_; cbv)
          | (refine qad hS rfl I.qan (by decide +kernel) ?_; cbv)
          | (refine qab hS I.qaz ?_; cbv)
          | (refine qbm hS ?_; try cbv)
          | (refine s_lk hS ?_; try cbv)
          | (refine s_mu hS ?_; try cbv)
          | fail)
        exact own3 rfl (hG.symm.trans hRr) (hRr ▸ qal _) (hk.trans hm.symm) (hRr ▸ hm ▸ len2 _)
      · rw [if_neg hp] at hL
        subst hL
        have hp0 : fi = 0 := by omega
        repeat' (first
          | (refine qbl hS rfl ?_; try cbv)
          | (refine s_ck hS ?_; try cbv)
          | (refine qac hS ?_ ?_ <;> intro h <;> (try cbv) <;> try exact s_ab h)
          | (refine s_ad hS ?_; intro _ _; try cbv)
          | (refine s_sb hS ?_; intro _ _; try cbv)
          | (refine qav hS ?_; intro _ _; try cbv)
          | (refine qaf hS ?_; try cbv)
          | (refine qcs hS (t := true) (decide_eq_true hc) ?_; cbv)
          | (refine qgp hS (w := 2) rfl hab hF hn ?_; cbv)
          | (refine qgp hS (w := 3) rfl hab hF hn ?_; cbv)
          | (refine qgp hS (w := 1) rfl hab hF hn ?_; cbv)
          | (refine qad hS rfl I.qas (by decide +kernel) ?_; cbv)
          | (refine qad hS rfl I.qar (by decide +kernel) ?_; cbv)
          | (refine qad hS rfl I.qaq (by decide +kernel) ?_; cbv)
          | (refine qad hS rfl I.qap (by decide +kernel) ?_; cbv)
          | (refine qad hS rfl I.qao (by decide +kernel) ?_; cbv)
          | (refine qad hS rfl I.qan (by decide +kernel) ?_; cbv)
          | (refine qla hS hp0 ?_; cbv)
          | (refine qab hS I.qaz ?_; cbv)
          | (refine qbm hS ?_; try cbv)
          | (refine s_lk hS ?_; try cbv)
          | (refine s_mu hS ?_; try cbv)
          | fail)
        exact own3 rfl (hG.symm.trans hRr) (hRr ▸ qal _) (hk.trans hm.symm) (hRr ▸ hm ▸ len2 _)
    · rw [if_neg hc] at hL hl
      by_cases hs : sz ≤ mx
      · rw [if_pos hs] at hL hl
        rw [if_pos (by simp)] at hl
        subst hl
        by_cases hp : 0 < fi
        · rw [if_pos hp] at hL
          subst hL
          repeat' (first
            | (refine qbl hS rfl ?_; try cbv)
            | (refine s_ck hS ?_; try cbv)
            | (refine qac hS ?_ ?_ <;> intro h <;> (try cbv) <;> try exact s_ab h)
            | (refine s_ad hS ?_; intro _ _; try cbv)
            | (refine s_sb hS ?_; intro _ _; try cbv)
            | (refine qav hS ?_; intro _ _; try cbv)
            | (refine qaf hS ?_; try cbv)
            | (refine qcs hS (t := false) (decide_eq_false hc) ?_; cbv)
            | (refine qcd hS (i := fi) (w := 2) rfl rfl hp (by omega) (by omega) hF hn ?_; cbv)
            | (refine qcd hS (i := fi) (w := 3) rfl rfl hp (by omega) (by omega) hF hn ?_; cbv)
            | (refine qcd hS (i := fi) (w := 1) rfl rfl hp (by omega) (by omega) hF hn ?_; cbv)
            | (refine qad hS rfl I.qas (by decide +kernel) ?_; cbv)
            | (refine qad hS rfl I.qar (by decide +kernel) ?_; cbv)
            | (refine qad hS rfl I.qaq (by decide +kernel) ?_; cbv)
            | (refine qad hS rfl I.qap (by decide +kernel) ?_; cbv)
            | (refine qad hS rfl I.qao (by decide +kernel) ?_; cbv)
            | (refine qad hS rfl I.qan (by decide +kernel) ?_; cbv)
            | (refine qab hS I.qaz ?_; cbv)
            | (refine qly hS hsz (by omega) ?_; cbv)
            | (refine add_ku hS (.v (z := .y mx) (n := .y k) rfl hG hk) hR hRr hm (by omega) (by omega) ?_; cbv)
            | (refine qbm hS ?_; try cbv)
            | (refine s_lk hS ?_; try cbv)
            | (refine s_mu hS ?_; try cbv)
            | fail)
          exact own3 rfl rfl (hRr ▸ qal _) rfl (hRr ▸ hm ▸ len2 _)
        · rw [if_neg hp] at hL
          subst hL
          have hp0 : fi = 0 := by omega
          repeat' (first
            | (refine qbl hS rfl ?_; try cbv)
            | (refine s_ck hS ?_; try cbv)
            | (refine qac hS ?_ ?_ <;> intro h <;> (try cbv) <;> try exact s_ab h)
            | (refine s_ad hS ?_; intro _ _; try cbv)
            | (refine s_sb hS ?_; intro _ _; try cbv)
            | (refine qav hS ?_; intro _ _; try cbv)
            | (refine qaf hS ?_; try cbv)
            | (refine qcs hS (t := false) (decide_eq_false hc) ?_; cbv)
            | (refine qgp hS (w := 2) rfl hab hF hn ?_; cbv)
            | (refine qgp hS (w := 3) rfl hab hF hn ?_; cbv)
            | (refine qgp hS (w := 1) rfl hab hF hn ?_; cbv)
            | (refine qad hS rfl I.qas (by decide +kernel) ?_; cbv)
            | (refine qad hS rfl I.qar (by decide +kernel) ?_; cbv)
            | (refine qad hS rfl I.qaq (by decide +kernel) ?_; cbv)
            | (refine qad hS rfl I.qap (by decide +kernel) ?_; cbv)
            | (refine qad hS rfl I.qao (by decide +kernel) ?_; cbv)
            | (refine qad hS rfl I.qan (by decide +kernel) ?_; cbv)
            | (refine qla hS hp0 ?_; cbv)
            | (refine qab hS I.qaz ?_; cbv)
            | (refine qly hS hsz (by omega) ?_; cbv)
            | (refine add_ku hS (.v (z := .y mx) (n := .y k) rfl hG hk) hR hRr hm (by omega) (by omega) ?_; cbv)
            | (refine qbm hS ?_; try cbv)
            | (refine s_lk hS ?_; try cbv)
            | (refine s_mu hS ?_; try cbv)
            | fail)
          exact own3 rfl rfl (hRr ▸ qal _) rfl (hRr ▸ hm ▸ len2 _)
      · rw [if_neg hs] at hL hl
        rw [if_neg (by simp)] at hl
        subst hl
        by_cases hp : 0 < fi
        · rw [if_pos hp] at hL
          subst hL
          repeat' (first
            | (refine qbl hS rfl ?_; try cbv)
            | (refine s_ck hS ?_; try cbv)
            | (refine qac hS ?_ ?_ <;> intro h <;> (try cbv) <;> try exact s_ab h)
            | (refine s_ad hS ?_; intro _ _; try cbv)
            | (refine s_sb hS ?_; intro _ _; try cbv)
            | (refine qav hS ?_; intro _ _; try cbv)
            | (refine qaf hS ?_; try cbv)
            | (refine qcs hS (t := false) (decide_eq_false hc) ?_; cbv)
            | (refine qcd hS (i := fi) (w := 2) rfl rfl hp (by omega) (by omega) hF hn ?_; cbv)
            | (refine qcd hS (i := fi) (w := 3) rfl rfl hp (by omega) (by omega) hF hn ?_; cbv)
            | (refine qcd hS (i := fi) (w := 1) rfl rfl hp (by omega) (by omega) hF hn ?_; cbv)
            | (refine qad hS rfl I.qas (by decide +kernel) ?_; cbv)
            | (refine qad hS rfl I.qar (by decide +kernel) ?_; cbv)
            | (refine qad hS rfl I.qaq (by decide +kernel) ?_; cbv)
            | (refine qad hS rfl I.qap (by decide +kernel) ?_; cbv)
            | (refine qad hS rfl I.qao (by decide +kernel) ?_; cbv)
            | (refine qad hS rfl I.qan (by decide +kernel) ?_; cbv)
            | (refine qab hS I.qaz ?_; cbv)
            | (refine qly hS hsz (by omega) ?_; cbv)
            | (refine qbm hS ?_; try cbv)
            | (refine s_lk hS ?_; try cbv)
            | (refine s_mu hS ?_; try cbv)
            | fail)
          exact own3 rfl (hG.symm.trans hRr) (hRr ▸ qal _) (hk.trans hm.symm) (hRr ▸ hm ▸ len2 _)
        · rw [if_neg hp] at hL
          subst hL
          have hp0 : fi = 0 := by omega
          repeat' (first
            | (refine qbl hS rfl ?_; try cbv)
            | (refine s_ck hS ?_; try cbv)
            | (refine qac hS ?_ ?_ <;> intro h <;> (try cbv) <;> try exact s_ab h)
            | (refine s_ad hS ?_; intro _ _; try cbv)
            | (refine s_sb hS ?_; intro _ _; try cbv)
            | (refine qav hS ?_; intro _ _; try cbv)
            | (refine qaf hS ?_; try cbv)
            | (refine qcs hS (t := false) (decide_eq_false hc) ?_; cbv)
            | (refine qgp hS (w := 2) rfl hab hF hn ?_; cbv)
            | (refine qgp hS (w := 3) rfl hab hF hn ?_; cbv)
            | (refine qgp hS (w := 1) rfl hab hF hn ?_; cbv)
            | (refine qad hS rfl I.qas (by decide +kernel) ?_; cbv)
            | (refine qad hS rfl I.qar (by decide +kernel) ?_; cbv)
            | (refine qad hS rfl I.qaq (by decide +kernel) ?_; cbv)
            | (refine qad hS rfl I.qap (by decide +kernel) ?_; cbv)
            | (refine qad hS rfl I.qao (by decide +kernel) ?_; cbv)
            | (refine qad hS rfl I.qan (by decide +kernel) ?_; cbv)
            | (refine qla hS hp0 ?_; cbv)
            | (refine qab hS I.qaz ?_; cbv)
            | (refine qly hS hsz (by omega) ?_; cbv)
            | (refine qbm hS ?_; try cbv)
            | (refine s_lk hS ?_; try cbv)
            | (refine s_mu hS ?_; try cbv)
            | fail)
          exact own3 rfl (hG.symm.trans hRr) (hRr ▸ qal _) (hk.trans hm.symm) (hRr ▸ hm ▸ len2 _)
end Pa
end Cz
namespace Cz
open Go Go.RowKit Go.Proofs
section
variable {P : Program}
theorem s_loop_or {S : Sy} {α : Type} (hS : S0 P = S) (m : Nat) (ds : List Nat) (ok : α → Prop) (ups : α → List (Nat × SV)) (bups : α → List (Nat × Blk)) (μ : α → Nat) (a0 : α) {cx : Cx} {b : IR} {K : VK}
    {e : Env} {l : List Blk} (hcm : Nat.ble cx.m m = true) (h0 : En2 m ds ok ups bups e l a0 e l)
    (step : ∀ a, ok a → vc S cx b (seqK (fun K e' l' => (∃ a', μ a' < μ a ∧ En2 m ds ok ups bups e l a' e' l') ∨ S.loop cx b e' l' K) K) ⟨slots (ups a) (puts e.vs ds .any), e.mks⟩ (setBs (bups a) (takeB m l))) : S.loop cx b e l K := by
  subst hS
  have hcm := Nat.le_of_ble_eq_true hcm
  have hlen : ∀ {a : α} {e1 : Env} {l1 : List Blk}, En2 m ds ok ups bups e l a e1 l1 → (setBs (bups a) (takeB m l)).length = m := fun h => h.2.2.2.1.at.1
  have main : ∀ n a, μ a = n → ok a → (setBs (bups a) (takeB m l)).length = m → ∀ c kl, conv P kl c = some b → WP P cx (.loop c) K ⟨slots (ups a) (puts e.vs ds .any), e.mks⟩ (setBs (bups a) (takeB m l)) := by
    intro n
    induction n using Nat.strongRecOn with
    | ind n ih =>
      intro a hn ha hl c kl hc N W0 ρ rr ac W hs hr hm
      refine qwj (Wp.mono (qcn c hc (step a ha) N W0 ρ rr ac W hs hr hm) ?_)
      rintro ex a' w' ⟨ρ', e', l', hK, hle, hm', hs'⟩
      cases ex with
      | normal =>
        rcases hK with ⟨a2, hlt, hE⟩ | hL
        · have hle2 : Le cx.m ρ (res m ρ') := hle.trans (qjt hcm)
          exact Wp.mono (ih (μ a2) (by omega) a2 rfl hE.1 (hlen hE) c kl hc N W0 (res m ρ') rr a' w' (hE.st hs') (hr.le hle2) (by rw [hlen hE]; omega)) fun _ _ _ q => q.le hle2
        · exact Wp.mono (hL c kl hc N W0 ρ' rr a' w' hs' (hr.le hle) hm') fun _ _ _ q => q.le hle
      | exit id => exact ⟨ρ', e', l', hK, hle, hm', hs'⟩
      | goto g => exact ⟨ρ', e', l', hK, hle, hm', hs'⟩
      | ret => exact ⟨ρ', e', l', hK, hle, hm', hs'⟩
  intro c kl hc N W0 ρ rr a W hs hr hm
  exact Wp.mono (main _ a0 rfl h0.1 (hlen h0) c kl hc N W0 (res m ρ) rr a W (h0.st hs) (hr.le (qjt hcm)) (by rw [hlen h0]; omega)) fun _ _ _ q => q.le (qjt hcm)
end
namespace Pa
open Tb
theorem own_eq3 {y : SV} {mx m : Int} {R : List SV} {g : FuncId} {args : List SV} (h : (S0 Tryd.prog).call g args [] (OwnP3 y mx m R)) :
    (S0 Tryd.prog).call g args [] (fun x l' => ∃ (j : Nat) (lit : Bool) (st z : Z) (F' : List SV), x = C3 y mx (.sl j 2 (.l 0) z none) ∧ l'[j]? = some (.r false lit st 2 F') ∧ plains F' = true ∧ F'.take (z.v.toNat * 2) = R ∧ z.v = m) :=
  qbi h fun x l' ⟨j, lit, st, z, F', hs, hB, h0, h1, h2⟩ => ⟨_, hs, j, lit, st, z, F', rfl, hB, h0, h1, h2⟩
theorem c3_fz {y : SV} (hy : refsB (fun _ => false) y = true) {mx : Int} (l' : List Blk) (j m : Nat) (z z' : Z) (sz : Nat) (h : z.v = z'.v) : Fz l' (fun i => m + i) [some j] (C3 y mx (.sl j sz (.l 0) z none)) (C3 y mx (.sl m sz (.l 0) z' none)) :=
  .tp (.cons (.sub .rfl hy) (.cons (.ag (.cons (.sub .rfl rfl) (.cons (.keep (i := 0) rfl rfl h) .nil))) (.cons (.sub .rfl rfl) .nil)))
section
variable {S : Sy} {bl : List Blk} {K : SV → List Blk → Prop} {mx n m : Int} {l l' : List Tb.Fd} {a b : List UInt8} {L : List Int} {F R : List SV} {args : List SV}
theorem field_ku (hS : S0 Tryd.prog = S) (fs : List Nat) (ha : FzL bl id (others fs (len bl)) args [tabV mx l, .ag [.s a, .s b]]) (hR : rightL mx l = true) (hL : fieldB mx l (a, b) = L) (hl : fieldL mx l (a, b) = l') (hF : cellsB L = F) (hn : n = ilen L) (hRr : cellsF l' = R) (hm : m = ilen l')
    (hab : ilen a + ilen b ≤ 60000) (hK : K (.tp [.v false 1 F (.y n), .ag [.i .i64 (.y mx), .sl (len bl) 2 (.l 0) (.y m) none], .i .i64 (.y 0)]) (snoc (frzL fs 0 bl) (.r false false (.y 0) 2 R))) : S.call 44 args bl K :=
  use_onef hS fs (c3_ctx rfl mx) (c3_fz rfl) (own_eq3 (field_k hR hL hl hF hn hRr hm hab)) ha rfl (by decide) (hRr ▸ qal _) hK
end
theorem own3a {x : SV} {mx m k : Int} {R F : List SV} {j : Nat} {lit : Bool} {st e : Z} {l' : List Blk} (hB : l'[j]? = some (.r false lit st 2 F)) (hF : F = R) (hp : plains F = true) (hk : k = m) (hl : R.length = 2 * m.toNat) (he : e.v = 0 := by rfl) : OwnP3 .any mx m R (.tp [x, .ag [.i .i64 (.y mx), .sl j 2 (.l 0) (.y k) none], .i .i64 e]) l' := by
  subst hF hk
  refine ⟨j, lit, st, .y k, F, qch (.cons qgr (.cons .rfl (.cons (qba he) .nil))), hB, hp, ?_, rfl⟩
  rw [List.take_of_length_le]
  show F.length ≤ k.toNat * 2
  omega
theorem block_k {mx : Int} {l l' fs : List Tb.Fd} {R : List SV} {m : Int} (hR : rightL mx l = true) (hl : blockL mx l fs = l') (hRr : cellsF l' = R) (hm : m = ilen l')
    (hfs : fullL fs ≤ 60000) :
    (S0 Tryd.prog).call 40 [tabV mx l, .v false 2 (cellsF fs) (.y (ilen fs))] [] (OwnP3 .any mx m R) := by
  have hl0 := qfe hR
  have hR' := of_decide_eq_true hR
  unfold tabV
  generalize hG : cellsF l = G
  obtain ⟨k, hk⟩ : ∃ k, k = ilen l := ⟨_, rfl⟩
  generalize hH : cellsF fs = H
  obtain ⟨q, hq⟩ : ∃ k, k = ilen fs := ⟨_, rfl⟩
  have hq0' : 0 ≤ q := hq ▸ qai _
  have hres : resR (mx, l) mx = ((mx, l), 0) := by unfold resR; rw [if_pos ⟨hR, hR'.1, hR'.2.1⟩]; dsimp only; rw [qhg hR'.2.2]
  rw [← hk, ← hq]
  by_cases hq0 : q = 0
  · have hnil : fs = [] := by
      cases fs with
      | nil => rfl
      | cons f fs => rw [hq, qjw] at hq0; have := qai fs; omega
    subst hnil
    have hlr : l = l' := hl
    subst hlr
    generalize hS : S0 Tryd.prog = S
    refine qab hS I.qdz ?_
    cbv
    refine res_ku hS (F := G) (.v (z := .y mx) (n := .y k) rfl hG hk) (most := .y mx) hR hR'.1 hR'.2.1 (by show cellsF (evL mx l) = G; rw [qhg hR'.2.2]; exact hG) (n := k) (by show k = ilen (evL mx l); rw [qhg hR'.2.2]; exact hk) (by omega) ?_
    cbv
    repeat' (first
      | (refine qbl hS rfl ?_; try cbv)
      | (refine s_ck hS ?_; try cbv)
      | (refine qac hS ?_ ?_ <;> intro h <;> (try cbv) <;> try exact s_ab h)
      | (refine s_ad hS ?_; intro _ _; try cbv)
      | (refine s_sb hS ?_; intro _ _; try cbv)
      | (refine qav hS ?_; intro _ _; try cbv)
      | (refine qaf hS ?_; try cbv)
      | (refine qab hS I.qew ?_; cbv)
      | (refine qed hS I.qdt ?_; cbv)
      | (refine qbm hS ?_; try cbv)
      | (refine s_lk hS ?_; try cbv)
      | (refine s_mu hS ?_; try cbv)
      | fail)
    refine qax hS ?_
    cbv
    refine qac hS ?_ ?_ <;> intro h <;> cbv
    · omega
    refine qad hS rfl I.qdo (by decide +kernel) ?_
    cbv
    exact own3a rfl (hG.symm.trans hRr) (hG ▸ qal _) (hk.trans hm.symm) (hRr ▸ hm ▸ len2 _)
  generalize hS : S0 Tryd.prog = S
  refine qab hS I.qdz ?_
  cbv
  refine qww hS (.v (z := .y mx) (n := .y k) rfl hG hk) hres hG hk (by omega) ?_
  cbv
  repeat' (first
    | (refine qbl hS rfl ?_; try cbv)
    | (refine s_ck hS ?_; try cbv)
    | (refine qac hS ?_ ?_ <;> intro h <;> (try cbv) <;> try exact s_ab h)
    | (refine s_ad hS ?_; intro _ _; try cbv)
    | (refine s_sb hS ?_; intro _ _; try cbv)
    | (refine qav hS ?_; intro _ _; try cbv)
    | (refine qaf hS ?_; try cbv)
    | (refine qab hS I.qew ?_; cbv)
    | (refine qed hS I.qdt ?_; cbv)
    | (refine qbm hS ?_; try cbv)
    | (refine s_lk hS ?_; try cbv)
    | (refine s_mu hS ?_; try cbv)
    | fail)
  refine qno hS 1 0 1 (by decide) rfl rfl ?_
  cbv
  refine s_loop_or hS 8 I.qdw (fun x : Int × Int × List SV × Int × List SV × Int => 0 ≤ x.1 ∧ x.1 < q ∧ ∃ Lb lt, blockB mx l (fs.take x.1.toNat) = Lb ∧ blockL mx l (fs.take x.1.toNat) = lt ∧ cellsB Lb = x.2.2.1 ∧ x.2.2.2.1 = ilen Lb ∧ cellsF lt = x.2.2.2.2.1 ∧ x.2.2.2.2.2 = ilen lt)
    (fun x => [(9, .i .i64 (.y x.1))])
    (fun x => [(1, .c [.sl 7 1 (.l 0) (.y x.2.2.2.1) none]), (2, .c [.i .i64 (.y mx), .v false 2 x.2.2.2.2.1 (.y x.2.2.2.2.2)]), (3, .c [.i .i64 (.y mx), .v false 2 x.2.2.2.2.1 (.y x.2.2.2.2.2)]), (7, .r false false (.y x.2.1) 1 x.2.2.1)])
    (fun x => (q - x.1).toNat) (0, 0, [], 0, G, k) rfl
    ⟨⟨Int.le_refl _, by dsimp only; omega, [], l, rfl, rfl, rfl, rfl, hG, hk⟩, rfl, ?_, ?_, by cbv⟩ ?_
  · cbv; exact s_qA
  · cbv; exact s_qA
  intro x
  obtain ⟨i, st, B, bn, T, tn⟩ := x
  intro hx
  dsimp only at hx
  cbv
  obtain ⟨k0, k1, Lb, lt, f1, f2, f3, f4, f5, f6⟩ := hx
  refine qac hS ?_ ?_ <;> intro h <;> cbv
  · obtain ⟨⟨a, b⟩, hp⟩ := qkl (l := fs) (i := i) (by omega) k0
    have hRt : rightL mx lt = true := f2 ▸ qgm hR
    have hsz := qxf hp
    have hsz' : szF (a, b) = ilen a + ilen b + 32 := rfl
    have h0a := qai a
    have h0b := qai b
    obtain ⟨Lf, hLf⟩ : ∃ L, fieldB mx lt (a, b) = L := ⟨_, rfl⟩
    obtain ⟨lf, hlf⟩ : ∃ L, fieldL mx lt (a, b) = L := ⟨_, rfl⟩
    obtain ⟨Ff, hFf⟩ : ∃ F, cellsB Lf = F := ⟨_, rfl⟩
    obtain ⟨nf, hnf⟩ : ∃ n, n = ilen Lf := ⟨_, rfl⟩
    obtain ⟨Rf, hRf⟩ : ∃ F, cellsF lf = F := ⟨_, rfl⟩
    obtain ⟨mf, hmf⟩ : ∃ n, n = ilen lf := ⟨_, rfl⟩
    obtain ⟨nx1, nx2⟩ := qrk (mx := mx) (l := l) hp k0
    rw [f1, f2, hLf] at nx1
    rw [f2, hlf] at nx2
    have hfl := qpb mx lt (a, b)
    rw [hLf, ← hnf] at hfl
    have hbl := qkj mx (fs.take i.toNat) l
    have hft := qfm fs i.toNat
    rw [f1, ← f4] at hbl
    have hnf0 : 0 ≤ nf := hnf ▸ qai _
    have hbn0 : 0 ≤ bn := f4 ▸ qai _
    have hfn := qcj fs
    have hBl : ilen B = bn := by rw [← f3, qbc, f4]
    by_cases hlast : i + 1 = q
    · have hlr : lf = l' := by
        rw [qbf (by omega)] at nx2
        exact nx2.symm.trans hl
      repeat' (first
        | (refine qbl hS rfl ?_; try cbv)
        | (refine s_ck hS ?_; try cbv)
        | (refine qac hS ?_ ?_ <;> intro h <;> (try cbv) <;> try exact s_ab h)
        | (refine s_ad hS ?_; intro _ _; try cbv)
        | (refine s_sb hS ?_; intro _ _; try cbv)
        | (refine qav hS ?_; intro _ _; try cbv)
        | (refine qaf hS ?_; try cbv)
        | (refine rowF hS hH hp k0 ?_; cbv)
        | (refine field_ku hS [] (FzL.cons (.sub (qec (.cons .rfl (.cons (qcg f5.symm f6) .nil))) rfl) (.cons (.sub .rfl rfl) .nil)) hRt hLf hlf hFf hnf hRf hmf (by omega) ?_; cbv)
        | (refine qev hS rfl rfl ?_; cbv)
        | (refine qad hS rfl I.qcu (by decide +kernel) ?_; cbv)
        | (refine qad hS rfl I.qdp (by decide +kernel) ?_; cbv)
        | (refine qbm hS ?_; try cbv)
        | (refine s_lk hS ?_; try cbv)
        | (refine s_mu hS ?_; try cbv)
        | fail)
      refine Or.inr ?_
      refine qax hS ?_
      cbv
      refine qac hS ?_ ?_ <;> intro h <;> cbv
      · omega
      refine qad hS rfl I.qdo (by decide +kernel) ?_
      cbv
      exact own3a rfl (by rw [← hRf, ← hRr, hlr]) (hRf ▸ qal _) (by rw [hmf, hlr, hm]) (hRr ▸ hm ▸ len2 _)
    · repeat' (first
      | (refine qbl hS rfl ?_; try cbv)
      | (refine s_ck hS ?_; try cbv)
      | (refine qac hS ?_ ?_ <;> intro h <;> (try cbv) <;> try exact s_ab h)
      | (refine s_ad hS ?_; intro _ _; try cbv)
      | (refine s_sb hS ?_; intro _ _; try cbv)
      | (refine qav hS ?_; intro _ _; try cbv)
      | (refine qaf hS ?_; try cbv)
      | (refine rowF hS hH hp k0 ?_; cbv)
      | (refine field_g hS (.v (z := .y mx) (n := .y tn) rfl f5 f6) hRt hLf hlf hFf hnf hRf hmf (by omega) ?_; cbv)
      | (refine qev hS rfl rfl ?_; cbv)
      | (refine qad hS rfl I.qcu (by decide +kernel) ?_; cbv)
      | (refine qad hS rfl I.qdp (by decide +kernel) ?_; cbv)
      | (refine qbm hS ?_; try cbv)
      | (refine s_lk hS ?_; try cbv)
      | (refine s_mu hS ?_; try cbv)
      | fail)
      rename_i i2 hi2
      refine Or.inl ?_
      have e1 : S.app B Ff = cellsB (Lb ++ Lf) := qdl hS f3.symm hFf.symm
      have e2 : S.pl bn nf = ilen (Lb ++ Lf) := by rw [qbt, ← f4, ← hnf]; subst hS; rfl
      refine ⟨(i2, S.flen B, S.app B Ff, S.pl bn nf, Rf, mf), by dsimp only; omega, ⟨by dsimp only; omega, by dsimp only; omega, Lb ++ Lf, lf, by dsimp only; rw [hi2]; exact nx1, by dsimp only; rw [hi2]; exact nx2, e1.symm, e2, hRf, hmf⟩, rfl, ?_, ?_, by cbv⟩
      · cbv; exact s_qA
      · cbv; exact s_qA
  · omega
section
variable {S : Sy} {bl : List Blk} {K : SV → List Blk → Prop} {mx m : Int} {l l' fs : List Tb.Fd} {R : List SV} {args : List SV}
theorem block_ku (hS : S0 Tryd.prog = S) (ks : List Nat) (ha : FzL bl id (others ks (len bl)) args [tabV mx l, .v false 2 (cellsF fs) (.y (ilen fs))]) (hR : rightL mx l = true) (hl : blockL mx l fs = l') (hRr : cellsF l' = R) (hm : m = ilen l')
    (hfs : fullL fs ≤ 60000) (hK : K (.tp [.any, .ag [.i .i64 (.y mx), .sl (len bl) 2 (.l 0) (.y m) none], .i .i64 (.y 0)]) (snoc (frzL ks 0 bl) (.r false false (.y 0) 2 R))) : S.call 40 args bl K :=
  use_onef hS ks (c3_ctx rfl mx) (c3_fz rfl) (own_eq3 (block_k hR hl hRr hm hfs)) ha rfl (by decide) (hRr ▸ qal _) hK
end
end Pa
end Cz
namespace Cz
open Go Go.RowKit Go.Proofs
namespace Tb
theorem op_fd' {svs : List SV} (h : pkVs [.s, .s] svs) : ∃ f : Fd, svs = fdE f ∧ ilen f.1 ≤ 140737488355328 ∧ ilen f.2 ≤ 140737488355328 := by
  match svs, h with
  | [], h => simp [pkVs] at h
  | [_], h => simp [pkVs] at h
  | _ :: _ :: _ :: _, h => simp [pkVs] at h
  | [x, y], h =>
    simp only [pkVs, pkV] at h
    obtain ⟨⟨a, rfl, ha⟩, ⟨b, rfl, hb⟩, _⟩ := h
    exact ⟨(a, b), rfl, ha, hb⟩
theorem op_fds' {x : SV} (h : pkV (.sl [.s, .s]) x) : ∃ l : List Fd, x = .v false 2 (cellsF l) (.y (ilen l)) ∧ ilen l ≤ 140737488355328 ∧ shortL l := by
  obtain ⟨l, h1, h2, h3⟩ := pk_rows (ec := fdE) (good := fun f => ilen f.1 ≤ 140737488355328 ∧ ilen f.2 ≤ 140737488355328) (fun svs h => op_fd' h) h
  exact ⟨l, h1, h2, h3⟩
theorem op_fds {svs : List SV} (h : pkVs [.sl [.s, .s]] svs) : ∃ l : List Fd, svs = [.v false 2 (cellsF l) (.y (ilen l))] ∧ ilen l ≤ 140737488355328 ∧ shortL l := by
  obtain ⟨x, rfl, h'⟩ := pkVs_one h
  obtain ⟨l, rfl, h1, h2⟩ := op_fds' h'
  exact ⟨l, rfl, h1, h2⟩
theorem op_tab {svs : List SV} (h : pkVs [.i .i64, .sl [.s, .s]] svs) : ∃ mx l, svs = [.i .i64 (.y mx), .v false 2 (cellsF l) (.y (ilen l))] ∧ -9223372036854775808 ≤ mx ∧ mx ≤ 9223372036854775807 ∧ ilen l ≤ 140737488355328 ∧ shortL l := by
  match svs, h with
  | [], h => simp [pkVs] at h
  | [_], h => simp [pkVs] at h
  | _ :: _ :: _ :: _, h => simp [pkVs] at h
  | [x, y], h =>
    simp only [pkVs] at h
    obtain ⟨h1, h2, _⟩ := h
    simp only [pkV] at h1
    obtain ⟨n, rfl, h3, h4⟩ := h1
    obtain ⟨l, rfl, h5, h6⟩ := op_fds' h2
    exact ⟨n, l, rfl, h3, h4, h5, h6⟩
end Tb
end Cz
