/- The engine, part J: each operation does what its condition says (numbers, comparisons, parts). No condition. -/
import Derived.Test.YtjnpmipoenijdaaCzG
import Derived.Test.YtjnpmipoenijdaaCzI
import Derived.Laws.Concat
namespace Cz
open Go Go.RowKit
set_option linter.unusedSimpArgs false
set_option linter.unusedVariables false

section
variable {P : Program} {N : Nat} {W0 W : World} {ρ : Nms} {l : List Blk} {vs : List SV} {a : Act} {K : SV → List Blk → Prop} {o : Oper}

/-! ### Numbers and texts -/
theorem guard_int {op : BinOp} {t : TypeId} {x y : Operand} {k k' : IntKind} {m n : Int} : (eqGuard op t x y (.int k m) (.int k' n)).run P W = .ok () W := by
  cases op <;> simp [eqGuard]
theorem guard_str {op : BinOp} {t : TypeId} {x y : Operand} {m n : ByteArray} : (eqGuard op t x y (.string m) (.string n)).run P W = .ok () W := by
  cases op <;> simp [eqGuard]

theorem run_int {op : BinOp} {bk : BK} {t : TypeId} {k : IntKind} {m n : Int} (hb : bkOf op = some bk) (hs : bk ≠ .shl ∧ bk ≠ .shr) (hd : bk = .quo ∨ bk = .rem → n ≠ 0) :
    (Go.binOp op t (.int k m) (.int k n)).run P W = .ok (if bk.isCmp then .bool (bk.cmpLit m n) else .int k (arS bk k m n)) W := by
  cases op <;> simp only [bkOf, Option.some.injEq] at hb <;> subst hb <;> simp at hs hd <;>
    simp [Go.binOp, Op.intArith, Op.intDiv, Op.intBits, Op.intCmp, BK.isCmp, BK.cmpLit, arS, hd]
  · rfl
  · simp [bne]; rfl

theorem run_shift {op : BinOp} {bk : BK} {t : TypeId} {k k' : IntKind} {m n : Int} (hb : bkOf op = some bk) (hs : bk = .shl ∨ bk = .shr) (hn : 0 ≤ n) :
    (Go.binOp op t (.int k m) (.int k' n)).run P W = .ok (.int k (arS bk k m n)) W := by
  have hn' : ¬ n < 0 := by omega
  cases op <;> simp only [bkOf, Option.some.injEq] at hb <;> subst hb <;> simp at hs <;>
    simp [Go.binOp, Op.shift, arS, hn']

theorem run_str {op : BinOp} {bk : BK} {t : TypeId} {x y : List UInt8} (hb : bkOf op = some bk) (hc : bk.isCmp = true) :
    (Go.binOp op t (.string ⟨x.toArray⟩) (.string ⟨y.toArray⟩)).run P W = .ok (.bool (scmpS bk x y)) W := by
  cases op <;> simp only [bkOf, Option.some.injEq] at hb <;> subst hb <;> simp [BK.isCmp] at hc <;>
    simp [Go.binOp, Op.stringOp, scmpS]

theorem s_bin {op : BinOp} {bk : BK} {t t' : TypeId} {x y : Operand} {x' y' : Opd} (ho : o.op = .binOp op t x y t') (hb : bkOf op = some bk) (hx : cOpd x = some x') (hy : cOpd y = some y') :
    Sound P o (.bin bk x' y') := by
  intro N W0 W ρ l vs a K h hR hE
  have hdx := ev_ok hE hx
  have hdy := ev_ok hE hy
  have fin : ∀ (v : Value) (sv : SV), (eqGuard op t x y (a.eval x) (a.eval y)).run P W = .ok () W → (Go.binOp op t (a.eval x) (a.eval y)).run P W = .ok v W → K sv l → den ρ sv v →
      OpRuns P o a W (OpPost P N W0 ρ l K) := by
    intro v sv hg hr hK hd
    exact .val (v := v) (W' := W) (by simp [ho, isDefer]) (by simp [execOp, ho, hg, hr]) (post_same hR hK hd)
  simp only [vop] at h
  generalize hX : ev vs x' = X at *
  generalize hY : ev vs y' = Y at *
  unfold vbin at h
  split at h
  · rename_i k za k' zb
    simp only [den] at hdx hdy
    have hsh : (bk = .shl ∨ bk = .shr) → (0 ≤ zb.v) → K (.i k (.y (arS bk k za.v zb.v))) l → OpRuns P o a W (OpPost P N W0 ρ l K) := by
      intro hbk hn hK
      exact fin _ _ (by rw [hdx, hdy]; exact guard_int) (by rw [hdx, hdy]; exact run_shift hb hbk hn) hK (by simp [den, Z.v])
    have har : bk.isCmp = false → (bk ≠ .shl ∧ bk ≠ .shr) → (bk = .quo ∨ bk = .rem → zb.v ≠ 0) → k = k' → ∀ sv, K sv l → den ρ sv (.int k (arS bk k za.v zb.v)) → OpRuns P o a W (OpPost P N W0 ρ l K) := by
      intro hc hs hz hk sv hK hd
      subst hk
      exact fin _ sv (by rw [hdx, hdy]; exact guard_int) (by rw [hdx, hdy, run_int hb hs hz, hc]; rfl) hK hd
    have hcm : bk.isCmp = true → k = k' → ∀ sv, K sv l → den ρ sv (.bool (bk.cmpLit za.v zb.v)) → OpRuns P o a W (OpPost P N W0 ρ l K) := by
      intro hc hk sv hK hd
      subst hk
      exact fin _ sv (by rw [hdx, hdy]; exact guard_int) (by rw [hdx, hdy, run_int hb (by cases bk <;> simp [BK.isCmp] at hc ⊢) (by cases bk <;> simp [BK.isCmp] at hc ⊢), hc]; rfl) hK hd
    split at h
    case h_1 =>
      split at h
      · split at h
        · rename_i hn; exact hsh (.inl rfl) hn h
        · exact h.elim
      · obtain ⟨hn, h⟩ := h
        exact hsh (.inl rfl) (by simpa [S0, BK.cmpLit, Z.v] using hn) h
    case h_2 =>
      split at h
      · split at h
        · rename_i hn; exact hsh (.inr rfl) hn h
        · exact h.elim
      · obtain ⟨hn, h⟩ := h
        exact hsh (.inr rfl) (by simpa [S0, BK.cmpLit, Z.v] using hn) h
    case h_3 =>
      split at h
      · rename_i hk
        split at h
        · split at h
          · exact h.elim
          · rename_i hn; exact har rfl (by simp) (fun _ => hn) hk (.i k (.y (arS _ k za.v _))) h (by simp [den, Z.v])
        · obtain ⟨hn, h⟩ := h
          exact har rfl (by simp) (fun _ => by simpa [S0, BK.cmpLit, Z.v] using hn) hk (.i k (.y (arS _ k za.v _))) h (by simp [den, Z.v])
      · exact h.elim
    case h_4 =>
      split at h
      · rename_i hk
        split at h
        · split at h
          · exact h.elim
          · rename_i hn; exact har rfl (by simp) (fun _ => hn) hk (.i k (.y (arS _ k za.v _))) h (by simp [den, Z.v])
        · obtain ⟨hn, h⟩ := h
          exact har rfl (by simp) (fun _ => by simpa [S0, BK.cmpLit, Z.v] using hn) hk (.i k (.y (arS _ k za.v _))) h (by simp [den, Z.v])
      · exact h.elim
    case h_5 =>
      rename_i n1 n2 n3 n4
      split at h
      · rename_i hk
        split at h
        · rename_i hc
          split at h
          · exact hcm hc hk _ h (by simp only [Z.v]; cases bk.cmpLit _ _ <;> simp [den, ofB])
          · exact hcm hc hk _ h (by simp [den, S0])
        · rename_i hc
          have hc' : bk.isCmp = false := by simpa using hc
          have hq : bk = .quo ∨ bk = .rem → zb.v ≠ 0 := fun e => by rcases e with e | e <;> simp_all
          have hs : bk ≠ .shl ∧ bk ≠ .shr := ⟨fun e => by simp_all, fun e => by simp_all⟩
          split at h
          · split at h
            · rename_i r hr
              refine har hc' hs hq hk _ h ?_
              simp only [den, Z.v]
              cases bk <;> simp [BK.lit] at hr <;> subst hr <;> simp [arS]
            · exact har hc' hs hq hk (.i k (.y (arS bk k _ _))) h (by simp [den, Z.v])
          · exact har hc' hs hq hk (.i k (.y (arS bk k _ _))) h (by simp [den, Z.v])
      · exact h.elim
  · rename_i s1 s2
    simp only [den] at hdx hdy
    split at h
    · obtain ⟨hle, h⟩ := h
      have hle' : ((s1.length : Int) + s2.length) ≤ 1099511627776 := by simpa [S0, BK.cmpLit] using hle
      cases op <;> simp only [bkOf, Option.some.injEq, reduceCtorEq] at hb
      refine fin (.string ⟨(s1 ++ s2).toArray⟩) _ (by rw [hdx, hdy]; exact guard_str) ?_ h (by simp [den, S0])
      rw [hdx, hdy]
      have e1 : (ByteArray.mk s1.toArray).size = s1.length := by show s1.toArray.size = _; simp
      have e2 : (ByteArray.mk s2.toArray).size = s2.length := by show s2.toArray.size = _; simp
      have e3 : ¬ (IntKind.i64.max < ((s1.length : Int) + s2.length)) := by
        have : IntKind.i64.max = 9223372036854775807 := rfl
        omega
      simp only [Go.binOp, Op.stringOp, e1, e2]
      rw [if_neg (by simpa using e3), ByteArray.mk_append_mk]
      rfl
    · split at h
      · rename_i hc
        exact fin _ _ (by rw [hdx, hdy]; exact guard_str) (by rw [hdx, hdy]; exact run_str hb hc) h (by simp [den, S0])
      · exact h.elim
  · exact h.elim

theorem s_neg {t : TypeId} {x : Operand} {x' : Opd} (ho : o.op = .unOp .neg t x) (hx : cOpd x = some x') : Sound P o (.neg x') := by
  intro N W0 W ρ l vs a K h hR hE
  have hd := ev_ok hE hx
  simp only [vop] at h
  split at h
  · rename_i k z he
    rw [he] at hd; simp only [den] at hd
    refine .val (v := .int k (k.wrap (0 - z.v))) (W' := W) (by simp [ho, isDefer]) (by simp [execOp, ho, hd, Op.unary, Op.intArith]) (post_same (sv := .i k (.y (arS .sub k 0 z.v))) hR h ?_)
    simp [den, Z.v, arS]
  · exact h.elim

theorem s_cv {t u : TypeId} {k k0 : IntKind} {x : Operand} {x' : Opd} (ho : o.op = .convert t u x) (ht : P.underlying t = some (.int k0)) (hu : P.underlying u = some (.int k)) (hx : cOpd x = some x') :
    Sound P o (.cv k x') := by
  intro N W0 W ρ l vs a K h hR hE
  have hd := ev_ok hE hx
  have run : ∀ k1 n, a.eval x = .int k1 n → (execOp a.eval o).run P W = .ok (.value (.int k (k.wrap n))) W := by
    intro k1 n e
    simp [execOp, ho, e, Go.convert, run_underlying ht, run_underlying hu, Conv.intToInt]
  simp only [vop] at h
  split at h
  · rename_i k1 n he
    rw [he] at hd; simp only [den, Z.v] at hd
    exact .val (by simp [ho, isDefer]) (run _ _ hd) (post_same hR h (by simp [den, Z.v]))
  · rename_i k1 n he
    rw [he] at hd; simp only [den, Z.v] at hd
    exact .val (by simp [ho, isDefer]) (run _ _ hd) (post_same (sv := .i k (.y (k.wrap n))) hR h (by simp [den, Z.v]))
  · exact h.elim

/-! ### Comparisons of plain values -/
theorem kinds_ok {ρ : Nms} : ∀ {ss : List Kd} {xs ys : List SV} {vs us : List Value}, kinds ss xs ys = true → denL ρ xs vs → denL ρ ys us → PairsOk ss vs us
  | [], [], [], [], [], _, _, _ => trivial
  | [], [], [], _ :: _, _, _, h, _ => by simp [denL] at h
  | [], [], [], [], _ :: _, _, _, h => by simp [denL] at h
  | [], x :: xs, ys, _, _, h, _, _ => by cases ys <;> simp [kinds] at h
  | [], [], y :: ys, _, _, h, _, _ => by simp [kinds] at h
  | k :: ss, [], ys, _, _, h, _, _ => by cases k <;> cases ys <;> simp [kinds] at h
  | k :: ss, x :: xs, [], _, _, h, _, _ => by cases k <;> cases x <;> simp [kinds] at h
  | k :: ss, x :: xs, y :: ys, [], _, _, h, _ => by simp [denL] at h
  | k :: ss, x :: xs, y :: ys, _ :: _, [], _, _, h => by simp [denL] at h
  | k :: ss, x :: xs, y :: ys, v :: vs, u :: us, h, hx, hy => by
    simp only [denL] at hx hy
    cases k with
    | kb =>
      simp only [kinds, Bool.and_eq_true] at h
      refine ⟨?_, kinds_ok h.2 hx.2 hy.2⟩
      have h1 := h.1.1
      have h2 := h.1.2
      have e1 : ∃ b, v = .bool b := by
        cases x <;> simp at h1 <;> (have := hx.1; simp only [den] at this; exact ⟨_, this⟩)
      have e2 : ∃ b, u = .bool b := by
        cases y <;> simp at h2 <;> (have := hy.1; simp only [den] at this; exact ⟨_, this⟩)
      obtain ⟨b1, rfl⟩ := e1
      obtain ⟨b2, rfl⟩ := e2
      exact ⟨b1, b2, rfl, rfl⟩
    | ki =>
      cases x <;> cases y <;> simp [kinds] at h
      obtain ⟨hk, h⟩ := h
      subst hk
      refine ⟨?_, kinds_ok h hx.2 hy.2⟩
      have := hx.1; have h2 := hy.1
      simp only [den] at this h2
      exact ⟨_, _, _, this, h2⟩
    | ks =>
      cases x <;> cases y <;> simp [kinds] at h
      refine ⟨?_, kinds_ok h hx.2 hy.2⟩
      have := hx.1; have h2 := hy.1
      simp only [den] at this h2
      exact ⟨_, _, this, h2⟩

theorem veq1_ok {s : Kd} {x y : SV} {v u : Value} {K1 K2 : Unit → Prop} (h : veq1 (S0 P) s x y K1 K2) (hx : den ρ x v) (hy : den ρ y u) :
    ∃ r, r = eqC v u ∧ (r = true → K1 ()) ∧ (r = false → K2 ()) := by
  cases s with
  | kb =>
    cases x <;> simp only [veq1] at h <;> first | exact h.elim | skip
    all_goals cases y <;> first | exact h.elim | skip
    all_goals simp only [den] at hx hy; subst hx; subst hy; refine ⟨_, rfl, ?_⟩
    all_goals first
      | exact ⟨fun _ => h, fun e => by simp [eqC] at e⟩
      | exact ⟨fun e => by simp [eqC] at e, fun _ => h⟩
      | (refine ⟨fun e => h.1 ?_, fun e => h.2 ?_⟩ <;> simpa [eqC, S0] using e)
      | (refine ⟨fun e => h.2 ?_, fun e => h.1 ?_⟩ <;> simpa [eqC, S0] using e)
  | ki =>
    cases x <;> simp only [veq1] at h <;> first | exact h.elim | skip
    all_goals cases y <;> first | exact h.elim | skip
    rename_i k1 z1 k2 z2
    simp only [den] at hx hy; subst hx; subst hy
    simp only at h
    split at h
    · split at h
      · rename_i m n
        split at h
        · rename_i e; subst e; exact ⟨_, rfl, fun _ => h, fun e => by simp [eqC, Z.v] at e⟩
        · rename_i e; exact ⟨_, rfl, fun e2 => absurd (by simpa [eqC, Z.v] using e2) e, fun _ => h⟩
      · exact ⟨_, rfl, fun e => h.1 (by simpa [eqC, S0, BK.cmpLit] using e), fun e => h.2 (by simpa [eqC, S0, BK.cmpLit] using e)⟩
    · exact h.elim
  | ks =>
    cases x <;> simp only [veq1] at h <;> first | exact h.elim | skip
    all_goals cases y <;> first | exact h.elim | skip
    simp only [den] at hx hy; subst hx; subst hy
    exact ⟨_, rfl, fun e => h.1 (by simpa [eqC, S0, scmpS] using e), fun e => h.2 (by simpa [eqC, S0, scmpS] using e)⟩

theorem veqL_ok {K1 K2 : Unit → Prop} : ∀ {ss : List Kd} {xs ys : List SV} {vs us : List Value}, veqL (S0 P) ss xs ys K1 K2 → kinds ss xs ys = true → denL ρ xs vs → denL ρ ys us →
    ∃ r, r = eqCs vs us ∧ (r = true → K1 ()) ∧ (r = false → K2 ())
  | [], [], [], [], [], h, _, _, _ => ⟨true, rfl, fun _ => h, (fun e => by cases e)⟩
  | [], [], [], _ :: _, _, _, _, h, _ => by simp [denL] at h
  | [], [], [], [], _ :: _, _, _, _, h => by simp [denL] at h
  | [], x :: xs, ys, _, _, _, h, _, _ => by cases ys <;> simp [kinds] at h
  | [], [], y :: ys, _, _, _, h, _, _ => by simp [kinds] at h
  | k :: ss, [], ys, _, _, h, _, _, _ => by simp [veqL] at h
  | k :: ss, x :: xs, [], _, _, h, _, _, _ => by simp [veqL] at h
  | k :: ss, x :: xs, y :: ys, [], _, _, _, h, _ => by simp [denL] at h
  | k :: ss, x :: xs, y :: ys, _ :: _, [], _, _, _, h => by simp [denL] at h
  | k :: ss, x :: xs, y :: ys, v :: vs, u :: us, h, hk, hx, hy => by
    simp only [denL] at hx hy
    simp only [veqL] at h
    have hk2 : kinds ss xs ys = true := by
      cases k with
      | kb => simp only [kinds, Bool.and_eq_true] at hk; exact hk.2
      | ki => cases x <;> cases y <;> simp [kinds] at hk; exact hk.2
      | ks => cases x <;> cases y <;> simp [kinds] at hk; exact hk
    obtain ⟨r, hr, h1, h2⟩ := veq1_ok h hx.1 hy.1
    cases r with
    | false => exact ⟨false, by simp [eqCs, ← hr], (fun e => by cases e), fun _ => h2 rfl⟩
    | true =>
      obtain ⟨r', hr', h1', h2'⟩ := veqL_ok (h1 rfl) hk2 hx.2 hy.2
      exact ⟨r', by simp [eqCs, ← hr, hr'], h1', h2'⟩

theorem made_of {t : TypeId} {agg : Bool} {x : SV} {v : Value} {xs : List SV} (ha : aggOf P t = some agg) (hi : isAg x = agg) (hc : cellsOf x = some xs) (hd : den ρ x v) : Made P t v := by
  unfold Made
  rw [ha]
  cases agg with
  | true =>
    cases x <;> simp [isAg] at hi
    simp only [den] at hd
    obtain ⟨us, rfl, _⟩ := hd
    simp
  | false =>
    simp only [Option.some.injEq, Bool.false_eq_true, if_false]
    refine den_oneC ?_ hd
    cases x <;> simp [isAg] at hi <;> simp [cellsOf] at hc <;> rfl

theorem veq_ok {t : TypeId} {sig : Sg} {x y : SV} {v u : Value} {K1 K2 : Unit → Prop} (hsg : sgOf P t = some sig) (h : veq (S0 P) sig x y K1 K2) (hx : den ρ x v) (hy : den ρ y u) :
    ∃ r, (∀ m, 50 ≤ m → (Op.equalIn m t v u).run P W = .ok r W) ∧ (r = true → K1 ()) ∧ (r = false → K2 ()) ∧
      PairsOk sig.ks v.cells.toList u.cells.toList ∧ Made P t v ∧ Made P t u ∧ r = eqCs v.cells.toList u.cells.toList := by
  simp only [sgOf, Option.bind_eq_bind, Option.bind_eq_some_iff, Option.pure_def, Option.some.injEq] at hsg
  obtain ⟨s, hs, ag, ha, rfl⟩ := hsg
  unfold veq at h
  split at h
  · rename_i xs ys hcx hcy
    split at h
    · rename_i hh
      obtain ⟨h1, h2, hk⟩ := hh
      have dx := cells_ok hcx hx
      have dy := cells_ok hcy hy
      have hp := kinds_ok hk dx dy
      have mx := made_of ha h1 hcx hx
      have my := made_of ha h2 hcy hy
      obtain ⟨r, hr, k1, k2⟩ := veqL_ok h hk dx dy
      exact ⟨r, fun m hm => by rw [hr]; exact equalIn_ok 50 t s hs m hm v u hp mx my, k1, k2, hp, mx, my, hr⟩
    · exact h.elim
  · exact h.elim

theorem sig_flat {d : Nat} {t : TypeId} {s : List Kd} (h : sigOf P d t = some s) (ha : aggOf P t = some false) (hnk : ∀ k, P.underlying t ≠ some (.int k)) (hns : P.underlying t ≠ some .string) : s = [.kb] := by
  cases d with
  | zero => simp [sigOf] at h
  | succ d =>
    simp only [sigOf] at h
    cases hu : P.underlying t with
    | none => simp [hu] at h
    | some D =>
      rw [hu] at h
      cases D <;> simp at h
      case bool => exact h.symm
      case int k => exact absurd hu (hnk k)
      case string => exact absurd hu hns
      case struct fs => simp [aggOf, hu] at ha
      case array n e => simp [aggOf, hu] at ha

theorem s_eqA {op : BinOp} {neg : Bool} {t t' : TypeId} {sig : Sg} {x y : Operand} {x' y' : Opd} (ho : o.op = .binOp op t x y t') (hop : op = if neg then .neq else .eql)
    (hsg : sgOf P t = some sig) (hg : P.eqGuardType P.depth t = false) (hnk : ∀ k, P.underlying t ≠ some (.int k)) (hns : P.underlying t ≠ some .string)
    (hx : cOpd x = some x') (hy : cOpd y = some y') : Sound P o (.eqA sig neg x' y') := by
  intro N W0 W ρ l vs a K h hR hE
  have hdx := ev_ok hE hx
  have hdy := ev_ok hE hy
  simp only [vop, eqv_eq] at h
  obtain ⟨r, hr, h1, h2, hp, mx, my, _⟩ := veq_ok (W := W) hsg h hdx hdy
  have hrun : (Op.equal t (a.eval x) (a.eval y)).run P W = .ok r W := hr _ (by simp [Op.maxDepth])
  have shape : (∃ c d, a.eval x = .agg c ∧ a.eval y = .agg d) ∨ ∃ c d, a.eval x = .bool c ∧ a.eval y = .bool d := by
    simp only [sgOf, Option.bind_eq_bind, Option.bind_eq_some_iff, Option.pure_def, Option.some.injEq] at hsg
    obtain ⟨s, hs, ag, ha, rfl⟩ := hsg
    cases ag with
    | true =>
      simp only [Made, ha, if_true] at mx my
      obtain ⟨c, hc⟩ := mx
      obtain ⟨d, hd⟩ := my
      exact .inl ⟨c, d, hc, hd⟩
    | false =>
      simp only [Made, ha, Option.some.injEq, Bool.false_eq_true, if_false] at mx my
      obtain rfl := sig_flat hs ha hnk hns
      exact .inr (pairs_one mx my hp)
  have hguard : (eqGuard op t x y (a.eval x) (a.eval y)).run P W = .ok () W := by
    rcases shape with ⟨c, d, e1, e2⟩ | ⟨c, d, e1, e2⟩ <;> rw [e1, e2] <;> subst hop <;> cases neg <;> simp [eqGuard, program, Sem.run, bind, Sem.bind, pure, hg]
  have hbin : (Go.binOp op t (a.eval x) (a.eval y)).run P W = .ok (.bool (if neg then !r else r)) W := by
    rcases shape with ⟨c, d, e1, e2⟩ | ⟨c, d, e1, e2⟩ <;> rw [e1, e2] at hrun ⊢ <;> subst hop <;> cases neg <;> simp [Go.binOp, hrun]
  have hop2 : (execOp a.eval o).run P W = .ok (.value (.bool (if neg then !r else r))) W := by
    simp [execOp, ho, hguard, hbin]
  cases r with
  | true =>
    refine .val (by simp [ho, isDefer]) hop2 (post_same hR (h1 rfl) ?_)
    cases neg <;> simp [den, ofB]
  | false =>
    refine .val (by simp [ho, isDefer]) hop2 (post_same hR (h2 rfl) ?_)
    cases neg <;> simp [den, ofB]

theorem vnil_ok {mp : Bool} {x : SV} {v : Value} {b : Bool} (h : vnil mp x = some b) (hd : den ρ x v) :
    if mp then (if b then v = .map none else ∃ r, v = .map (some r)) else (if b then v = .nilFunc else ∃ f c d, v = .func f c d) := by
  unfold vnil at h
  split at h <;> simp only [Option.some.injEq, reduceCtorEq] at h <;> subst h <;> simp only [den] at hd
  · simpa using hd.1
  · simpa using hd.1
  · obtain ⟨c, d, e, _⟩ := hd; simp [e]
  · obtain ⟨vw, _, ad, _, e⟩ := hd; simp [e]
  · obtain ⟨vw, _, ad, _, e⟩ := hd; simp [e]

/-- The lesser or the greater one of two. -/
theorem s_minmax {c : Call} {bk : BK} {x y : Operand} {x' y' : Opd} (ho : o.op = .call c) (hb : (c.callee = .builtin .min ∧ bk = .min) ∨ (c.callee = .builtin .max ∧ bk = .max)) (hn : c.args.toList = [x, y]) (hx : cOpd x = some x') (hy : cOpd y = some y') :
    Sound P o (.bin bk x' y') := by
  intro N W0 W ρ l vs a K h hR hE
  have hdx := ev_ok hE hx
  have hdy := ev_ok hE hy
  have fin : ∀ (k : IntKind) (m n : Int) (sv : SV), a.eval x = .int k m → a.eval y = .int k n → K sv l → den ρ sv (.int k (arS bk k m n)) → OpRuns P o a W (OpPost P N W0 ρ l K) := by
    intro k m n sv e1 e2 hK hd
    obtain ⟨cal, args, tys⟩ := c
    obtain rfl : args = #[x, y] := by cases args; simp at hn; simp [hn]
    simp only at hb
    refine .val (v := .int k (arS bk k m n)) (W' := W) (by simp [ho, isDefer]) ?_ (post_same hR hK hd)
    rcases hb with ⟨rfl, rfl⟩ | ⟨rfl, rfl⟩
    · simp [execOp, ho, resolve, invoke, builtin, Builtin.min_, Builtin.min2, e1, e2, arS]
    · simp [execOp, ho, resolve, invoke, builtin, Builtin.max_, Builtin.max2, e1, e2, arS]
  simp only [vop] at h
  generalize hX : ev vs x' = X at *
  generalize hY : ev vs y' = Y at *
  unfold vbin at h
  split at h
  · rename_i k za k' zb
    simp only [den] at hdx hdy
    rcases hb with ⟨_, rfl⟩ | ⟨_, rfl⟩
    all_goals
      simp only [BK.isCmp, Bool.false_eq_true, if_false] at h
      split at h
      · rename_i hk
        subst hk
        split at h
        · simp only [BK.lit] at h
          refine fin _ _ _ _ hdx hdy h ?_
          simp only [den, Z.v, arS]; rfl
        · exact fin _ _ _ (.i k (.y (arS _ k _ _))) hdx hdy h (by simp [den, Z.v])
      · exact h.elim
  · rcases hb with ⟨_, rfl⟩ | ⟨_, rfl⟩ <;> simp [BK.isCmp] at h
  · exact h.elim

/-! ### A slice, compared with nil -/
theorem eq_sl {d : Nat} {t e : TypeId} {b : Option Addr} {n c : Nat} (ht : P.underlying t = some (.slice e)) : (Op.equalIn (d + 1) t (.slice b n c) (.slice none 0 0)).run P W = .ok b.isNone W := by
  cases b <;> simp [Op.equalIn, run_underlying ht]
theorem sl_nil {k sz : Nat} {off ln : Z} {cap : Option Z} {n c : Nat} (hd : den ρ (.sl k sz off ln cap) (.slice none n c)) : ln.v = 0 := by
  simp only [den] at hd
  obtain ⟨h0, h1, vw, _, _, hs⟩ := hd
  unfold SlVal at hs
  split at hs
  · obtain ⟨_, e0, _⟩ := hs; omega
  · rcases hs with ⟨c, e, _⟩ | ⟨e0, _⟩
    · cases e
    · omega
theorem s_nilS {op : BinOp} {neg : Bool} {t t' : TypeId} {x y : Operand} {x' : Opd} (ho : o.op = .binOp op t x y t') (hop : op = if neg then .neq else .eql) (ht : ∃ e, P.underlying t = some (.slice e))
    (hx : cOpd x = some x') (hy : cOpd y = some (.c (.re (.slice none 0 0)))) : Sound P o (.nilS neg x') := by
  intro N W0 W ρ l vs a K h hR hE
  obtain ⟨e, ht⟩ := ht
  have hdx := ev_ok hE hx
  have hdy := ev_ok hE hy
  simp only [ev, den] at hdy
  have key : ∀ b n c, a.eval x = .slice b n c → K (ofB (if neg then !b.isNone else b.isNone)) l → OpRuns P o a W (OpPost P N W0 ρ l K) := by
    intro b n c e1 hK
    have hg : (eqGuard op t x y (a.eval x) (a.eval y)).run P W = .ok () W := by
      rw [e1, hdy.1]; subst hop; cases neg <;> simp [eqGuard]
    have hq : (Op.equal t (.slice b n c) (.slice none 0 0)).run P W = .ok b.isNone W := eq_sl (d := 9999) ht
    have hbin : (Go.binOp op t (a.eval x) (a.eval y)).run P W = .ok (.bool (if neg then !b.isNone else b.isNone)) W := by
      rw [e1, hdy.1]; subst hop; cases neg <;> simp [Go.binOp, hq]
    refine .val (v := .bool (if neg then !b.isNone else b.isNone)) (W' := W) (by simp [ho, isDefer]) (by simp [execOp, ho, hg, hbin]) (post_same hR hK ?_)
    generalize (if neg then !b.isNone else b.isNone) = r
    cases r <;> simp [den, ofB]
  simp only [vop] at h
  split at h
  · rename_i he
    rw [he] at hdx
    simp only [den] at hdx
    exact key none 0 0 hdx.1 (by cases neg <;> exact h)
  · rename_i k sz off ln cap he
    rw [he] at hdx
    obtain ⟨b, c, e1, _⟩ := den_sl_shape hdx
    cases b with
    | none => exact key _ _ _ e1 (by have := h.1 (sl_nil (e1 ▸ hdx)); cases neg <;> exact this)
    | some b => exact key _ _ _ e1 (by cases neg <;> exact h.2)
  · exact h.elim

theorem eq_nn {d : Nat} {t : TypeId} {p r : Array TypeId} {b : Bool} (ht : P.underlying t = some (.func p r b)) : (Op.equalIn (d + 1) t .nilFunc .nilFunc).run P W = .ok true W := by
  simp [Op.equalIn, run_underlying ht]
theorem eq_nf {d : Nat} {t : TypeId} {p r : Array TypeId} {b : Bool} {f : Fn} {x y : Array Value} (ht : P.underlying t = some (.func p r b)) : (Op.equalIn (d + 1) t .nilFunc (.func f x y)).run P W = .ok false W := by
  simp [Op.equalIn, run_underlying ht]
theorem eq_fn {d : Nat} {t : TypeId} {p r : Array TypeId} {b : Bool} {f : Fn} {x y : Array Value} (ht : P.underlying t = some (.func p r b)) : (Op.equalIn (d + 1) t (.func f x y) .nilFunc).run P W = .ok false W := by
  simp [Op.equalIn, run_underlying ht]
theorem eq_mm {d : Nat} {t p r : TypeId} {m : Option Nat} (ht : P.underlying t = some (.map p r)) : (Op.equalIn (d + 1) t (.map none) (.map m)).run P W = .ok m.isNone W := by
  simp [Op.equalIn, run_underlying ht]
theorem eq_mn {d : Nat} {t p r : TypeId} {m : Nat} (ht : P.underlying t = some (.map p r)) : (Op.equalIn (d + 1) t (.map (some m)) (.map none)).run P W = .ok false W := by
  simp [Op.equalIn, run_underlying ht]

theorem s_eqN {op : BinOp} {mp neg : Bool} {t t' : TypeId} {x y : Operand} {x' y' : Opd} (ho : o.op = .binOp op t x y t') (hop : op = if neg then .neq else .eql)
    (ht : if mp then ∃ k e, P.underlying t = some (.map k e) else ∃ p r b, P.underlying t = some (.func p r b))
    (hx : cOpd x = some x') (hy : cOpd y = some y') : Sound P o (.eqN mp neg x' y') := by
  intro N W0 W ρ l vs a K h hR hE
  have hdx := ev_ok hE hx
  have hdy := ev_ok hE hy
  simp only [vop, veqN] at h
  have key : ∀ r : Bool, (eqGuard op t x y (a.eval x) (a.eval y)).run P W = .ok () W → (Op.equal t (a.eval x) (a.eval y)).run P W = .ok r W →
      ((∃ m, a.eval x = .map m) ∨ a.eval x = .nilFunc ∨ ∃ f c d, a.eval x = .func f c d) →
      (fun b => K (ofB (if neg then !b else b)) l) r → OpRuns P o a W (OpPost P N W0 ρ l K) := by
    intro r hg hq n1 hK
    have hbin : (Go.binOp op t (a.eval x) (a.eval y)).run P W = .ok (.bool (if neg then !r else r)) W := by
      subst hop
      rcases n1 with ⟨m, e⟩ | e | ⟨f, c, d, e⟩ <;> rw [e] at hq ⊢ <;> cases neg <;> simp [Go.binOp, hq]
    refine .val (v := .bool (if neg then !r else r)) (W' := W) (by simp [ho, isDefer]) (by simp [execOp, ho, hg, hbin]) (post_same hR hK ?_)
    cases neg <;> cases r <;> simp [den, ofB]
  have gd : ∀ u v : Value, ((∃ m, u = .map m) ∨ u = .nilFunc ∨ ∃ f c d, u = .func f c d) → (eqGuard op t x y u v).run P W = .ok () W := by
    intro u v h1
    subst hop
    rcases h1 with ⟨m, rfl⟩ | rfl | ⟨f, c, d, rfl⟩ <;> cases neg <;> simp [eqGuard]
  cases mp with
  | false =>
    simp only [Bool.false_eq_true, if_false] at ht
    obtain ⟨p, r, b, ht⟩ := ht
    split at h
    · rename_i b1 e1 e2
      have f1 := vnil_ok e1 hdx
      have f2 := vnil_ok e2 hdy
      simp only [Bool.false_eq_true, if_false, if_true] at f1 f2
      cases b1 with
      | true =>
        simp only [if_true] at f2
        exact key true (gd _ _ (by simp [f1])) (by rw [f1, f2]; exact eq_nn (d := 9999) ht) (by simp [f1]) h
      | false =>
        simp only [Bool.false_eq_true, if_false] at f2
        obtain ⟨f, c, d, f2⟩ := f2
        exact key false (gd _ _ (by simp [f1])) (by rw [f1, f2]; exact eq_nf (d := 9999) ht) (by simp [f1]) h
    · rename_i e1 e2
      have f1 := vnil_ok e1 hdx
      have f2 := vnil_ok e2 hdy
      simp only [Bool.false_eq_true, if_false, if_true] at f1 f2
      obtain ⟨f, c, d, f1⟩ := f1
      exact key false (gd _ _ (by simp [f1])) (by rw [f1, f2]; exact eq_fn (d := 9999) ht) (by simp [f1]) h
    · exact h.elim
  | true =>
    simp only [if_true] at ht
    obtain ⟨p, r, ht⟩ := ht
    split at h
    · rename_i b1 e1 e2
      have f1 := vnil_ok e1 hdx
      have f2 := vnil_ok e2 hdy
      simp only [if_true] at f1 f2
      cases b1 with
      | true =>
        simp only [if_true] at f2
        exact key true (gd _ _ (by simp [f1])) (by rw [f1, f2]; exact eq_mm (d := 9999) ht) (by simp [f1]) h
      | false =>
        simp only [Bool.false_eq_true, if_false] at f2
        obtain ⟨c, f2⟩ := f2
        exact key false (gd _ _ (by simp [f1])) (by rw [f1, f2]; exact eq_mm (d := 9999) ht) (by simp [f1]) h
    · rename_i e1 e2
      have f1 := vnil_ok e1 hdx
      have f2 := vnil_ok e2 hdy
      simp only [Bool.false_eq_true, if_false, if_true] at f1 f2
      obtain ⟨c, f1⟩ := f1
      exact key false (gd _ _ (by simp [f1])) (by rw [f1, f2]; exact eq_mn (d := 9999) ht) (by simp [f1]) h
    · exact h.elim
end
end Cz
