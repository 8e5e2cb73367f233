/- The engine, part U: texts' bytes, parts of rows and texts, new rows, appending. No condition. -/
import Derived.Test.YtjnpmipoenijdaaCzK
import Derived.Test.YtjnpmipoenijdaaCzH
import Derived.Laws.MakeOwn
import Derived.Laws.BytesString
namespace Cz
open Go Go.RowKit
set_option linter.unusedSimpArgs false
set_option linter.unusedVariables false

section
variable {P : Program} {N : Nat} {W0 W : World} {ρ : Nms} {l : List Blk} {vs : List SV} {a : Act} {o : Oper}

theorem zv_l {n : Int} : (Z.l n).v = n := rfl
theorem zv_y {n : Int} : (Z.y n).v = n := rfl

theorem s_cvSS {t u : TypeId} {x : Operand} {x' : Opd} (ho : o.op = .convert t u x) (ht : P.underlying t = some .string) (hu : P.underlying u = some .string) (hx : cOpd x = some x') : Sound P o (.cvSS x') := by
  intro N W0 W ρ l vs a K h hR hE
  have hd := ev_ok hE hx
  simp only [vop] at h
  split at h
  · rename_i s he
    rw [he] at hd
    simp only [den] at hd
    exact .val (v := a.eval x) (W' := W) (by simp [ho, isDefer]) (by simp [execOp, ho, convert, run_underlying ht, run_underlying hu, hd]) (post_same hR h (by simp only [den]; exact hd))
  · exact h.elim

theorem s_ixS {t : TypeId} {x i : Operand} {x' i' : Opd} (ho : o.op = .index t x i) (ht : P.underlying t = some .string) (hx : cOpd x = some x') (hi : cOpd i = some i') : Sound P o (.ixS x' i') := by
  intro N W0 W ρ l vs a K h hR hE
  have hdx := ev_ok hE hx
  have hdi := ev_ok hE hi
  simp only [vop] at h
  split at h
  · rename_i s z he hz
    rw [he] at hdx
    simp only [den] at hdx
    obtain ⟨ki, hvi⟩ := intZ_ok hz hdi
    obtain ⟨h1, h⟩ := zle_ok h
    obtain ⟨h2, h⟩ := zlt_ok h
    replace h1 : 0 ≤ z.v := h1
    replace h2 : z.v < (s.length : Int) := h2
    have hlt : z.v.toNat < s.length := by omega
    have hget : (ByteArray.mk s.toArray)[z.v.toNat]? = some (s[z.v.toNat]) := by
      rw [getElem?_eq_some_iff]
      exact ⟨by show z.v.toNat < s.toArray.size; simpa using hlt, by show s.toArray[z.v.toNat] = _; simp⟩
    refine .val (v := .int .u8 (s[z.v.toNat]).toNat) (W' := W) (by simp [ho, isDefer]) ?_ (post_same hR h ?_)
    · simp only [execOp, ho, Instr.index, hvi, hdx, asIntOf, Sem.run_bind, Sem.run_pure, Result.andThen_ok, run_underlying ht]
      rw [if_pos h1, hget]
      rfl
    · simp only [den, zv_y]
      show _ = Value.int .u8 ((s.getD z.v.toNat 0).toNat : Int)
      rw [List.getD_eq_getElem?_getD, List.getElem?_eq_getElem hlt]
      rfl
  · exact h.elim

/-! ### Parts -/
theorem run_bound {x : Value} {k : IntKind} {z : Int} {y : Nat} {code : BoundsCode} (hx : x = .int k z) (h0 : 0 ≤ z) (h1 : z ≤ y) : (Instr.sliceBound x y code).run P W = .ok z.toNat W := by
  subst hx
  simp only [Instr.sliceBound, asIntOf, Sem.run_bind, Sem.run_pure, Result.andThen_ok]
  rw [if_pos ⟨h0, h1⟩]
  rfl

theorem opt_ok {x : Option Operand} {x' : Option Opd} {d z : Z} (hE : EnvOk ρ vs a.tmps) (hx : cOpt x = some x') (hz : optZ vs d x' = some z) :
    (x = none ∧ z = d) ∨ ∃ y k, x = some y ∧ a.eval y = .int k z.v := by
  cases x with
  | none =>
    simp only [cOpt, Option.some.injEq] at hx; subst hx
    simp only [optZ, Option.some.injEq] at hz
    exact .inl ⟨rfl, hz.symm⟩
  | some y =>
    simp only [cOpt, Option.map_eq_some_iff] at hx
    obtain ⟨y', hy, rfl⟩ := hx
    simp only [optZ] at hz
    obtain ⟨k, hk⟩ := intZ_ok hz (ev_ok hE hy)
    exact .inr ⟨y, k, rfl, hk⟩

/-- The bounds of a part: low, high; and of the capacity. -/
theorem run_bounds {isS : Bool} {len cap : Nat} {lo hi mx : Option Operand} {za zb : Z} {m : Nat} (hab : za.v ≤ zb.v) (h0 : 0 ≤ za.v) (hlc : len ≤ cap)
    (hlo : (lo = none ∧ za = .l 0) ∨ ∃ y k, lo = some y ∧ a.eval y = .int k za.v)
    (hhi : (hi = none ∧ zb.v = len ∧ mx = none) ∨ ∃ y k, hi = some y ∧ a.eval y = .int k zb.v)
    (hmx : (mx = none ∧ m = cap) ∨ ∃ y k, mx = some y ∧ a.eval y = .int k (m : Int) ∧ m ≤ cap) (hbm : zb.v ≤ m) :
    (Instr.sliceBounds isS len cap (lo.map a.eval) (hi.map a.eval) (mx.map a.eval)).run P W = .ok (za.v.toNat, zb.v.toNat, m) W := by
  have elo : ∀ (y : Operand) (k : IntKind) (code : BoundsCode), a.eval y = .int k za.v → (Instr.sliceBound (a.eval y) zb.v.toNat code).run P W = .ok za.v.toNat W :=
    fun y k code e => run_bound e h0 (by omega)
  have ehi : ∀ (y : Operand) (k : IntKind) (code : BoundsCode), a.eval y = .int k zb.v → (Instr.sliceBound (a.eval y) m code).run P W = .ok zb.v.toNat W :=
    fun y k code e => run_bound e (by omega) hbm
  have emx : ∀ (y : Operand) (k : IntKind) (code : BoundsCode), a.eval y = .int k (m : Int) → m ≤ cap → (Instr.sliceBound (a.eval y) cap code).run P W = .ok m W :=
    fun y k code e hm => by simpa using run_bound (P := P) (W := W) (code := code) e (by omega) (by omega : (m : Int) ≤ cap)
  rcases hmx with ⟨rfl, rfl⟩ | ⟨ym, km, rfl, hm, hmc⟩
  · rcases hhi with ⟨rfl, hb, _⟩ | ⟨yh, kh, rfl, hh⟩
    · have hbn : zb.v.toNat = len := by omega
      rcases hlo with ⟨rfl, rfl⟩ | ⟨yl, kl, rfl, hl⟩
      · simp [Instr.sliceBounds, hbn, zv_l, pure]
      · have := elo yl kl .sliceB hl
        rw [hbn] at this
        simp [Instr.sliceBounds, this, hbn]
    · rcases hlo with ⟨rfl, rfl⟩ | ⟨yl, kl, rfl, hl⟩
      · cases isS <;> simp [Instr.sliceBounds, ehi yh kh _ hh, zv_l]
      · cases isS <;> simp [Instr.sliceBounds, ehi yh kh _ hh, elo yl kl _ hl]
  · rcases hhi with ⟨rfl, hb, hn⟩ | ⟨yh, kh, rfl, hh⟩
    · cases hn
    · rcases hlo with ⟨rfl, rfl⟩ | ⟨yl, kl, rfl, hl⟩
      · cases isS <;> simp [Instr.sliceBounds, emx ym km _ hm hmc, ehi yh kh _ hh, zv_l]
      · cases isS <;> simp [Instr.sliceBounds, emx ym km _ hm hmc, ehi yh kh _ hh, elo yl kl _ hl]

theorem s_slcS {t : TypeId} {x : Operand} {x' : Opd} {lo hi mx : Option Operand} {lo' hi' : Option Opd} (ho : o.op = .slice t x lo hi mx) (hm : mx = none) (ht : P.underlying t = some .string) (hx : cOpd x = some x')
    (hlo : cOpt lo = some lo') (hhi : cOpt hi = some hi') : Sound P o (.slcS x' lo' hi') := by
  intro N W0 W ρ l vs a K h hR hE
  have hdx := ev_ok hE hx
  subst hm
  simp only [vop] at h
  split at h
  · rename_i s he
    rw [he] at hdx
    simp only [den] at hdx
    split at h
    · rename_i za zb hza hzb
      obtain ⟨h1, h⟩ := zle_ok h
      obtain ⟨h2, h⟩ := zle_ok h
      obtain ⟨h3, h⟩ := zle_ok h
      replace h1 : 0 ≤ za.v := h1
      replace h3 : zb.v ≤ (s.length : Int) := h3
      have hsz : (ByteArray.mk s.toArray).size = s.length := by show s.toArray.size = s.length; simp
      have hb := run_bounds (P := P) (W := W) (a := a) (isS := false) (len := s.length) (cap := s.length) (lo := lo) (hi := hi) (mx := none) (m := s.length) h2 h1 (Nat.le_refl _) (opt_ok hE hlo hza)
        (by rcases opt_ok hE hhi hzb with ⟨e1, e2⟩ | r
            · exact .inl ⟨e1, by rw [e2]; rfl, rfl⟩
            · exact .inr r) (.inl ⟨rfl, rfl⟩) h3
      refine .val (v := .string ((ByteArray.mk s.toArray).extract za.v.toNat zb.v.toNat)) (W' := W) (by simp [ho, isDefer]) ?_ (post_same hR h ?_)
      · simp only [Option.map_none] at hb
        simp [execOp, ho, Instr.sliceAt, Instr.slice, hdx, run_underlying ht, hsz, hb]
      · simp only [den, S0]
        congr 1
        apply ByteArray.ext
        show (ByteArray.extract _ _ _).data = _
        rw [ByteArray.data_extract]
        apply Array.ext'
        have : za.v.toNat + (zb.v.toNat - za.v.toNat) = zb.v.toNat := by omega
        simp [List.take_drop, this]
    · exact h.elim
  · exact h.elim

theorem s_slc {t e : TypeId} {n : Nat} {x : Operand} {x' : Opd} {lo hi mx : Option Operand} {lo' hi' mx' : Option Opd} (ho : o.op = .slice t x lo hi mx) (ht : P.underlying t = some (.slice e)) (hn : szOf P e = some n)
    (hx : cOpd x = some x') (hlo : cOpt lo = some lo') (hhi : cOpt hi = some hi') (hmx : cOpt mx = some mx') (hhn : mx' ≠ none → hi ≠ none) : Sound P o (.slc n x' lo' hi' mx') := by
  intro N W0 W ρ l vs a K h hR hE
  have hdx := ev_ok hE hx
  have run : ∀ (b : Option Addr) (ln cp : Nat) (za zb : Z) (m : Nat), a.eval x = .slice b ln cp →
      (Instr.sliceBounds true ln cp (lo.map a.eval) (hi.map a.eval) (mx.map a.eval)).run P W = .ok (za.v.toNat, zb.v.toNat, m) W →
      (execOp a.eval o).run P W = .ok (.value (.slice (if m = za.v.toNat then b else b.map (·.add (za.v.toNat * n))) (zb.v.toNat - za.v.toNat) (m - za.v.toNat))) W := by
    intro b ln cp za zb m e1 e2
    simp [execOp, ho, Instr.sliceAt, Instr.slice, e1, run_underlying ht, e2, run_sizeOf hn]
  simp only [vop] at h
  split at h
  · -- a slice
    rename_i k sz' off ln cap he
    rw [he] at hdx
    split at h
    case isFalse => exact h.elim
    rename_i hsz
    subst hsz
    simp only [den] at hdx
    obtain ⟨ho0, hl0, vw, hvw, hin, hsv⟩ := hdx
    have fin : ∀ (za zb : Z) (zm : Option Z), optZ vs (.l 0) lo' = some za → optZ vs ln hi' = some zb → 0 ≤ za.v → za.v ≤ zb.v → zb.v ≤ ln.v → cap = none →
        ((mx' = none ∧ zm = none) ∨ ∃ y z, mx' = some y ∧ intZ (ev vs y) = some z ∧ zm = some z ∧ zb.v ≤ z.v ∧ z.v ≤ ln.v) →
        K (.sl k n (zadd (S0 P) off za) (zsub (S0 P) zb za) (zm.map fun z => zsub (S0 P) z za)) l → OpRuns P o a W (OpPost P N W0 ρ l K) := by
      intro za zb zm hza hzb h1 h2 h3 hc hm hK
      subst hc
      -- what the slice is
      have hshape : ∃ b0 C, a.eval x = .slice b0 ln.v.toNat C ∧ ln.v.toNat ≤ C := by
        unfold SlVal at hsv
        split at hsv
        · obtain ⟨_, h5, a', e⟩ := hsv; exact ⟨a', 0, by rw [e, h5], by omega⟩
        · rcases hsv with ⟨c, e, h5, _⟩ | ⟨h5, ⟨a', e⟩, _⟩
          · exact ⟨_, c, e, h5⟩
          · exact ⟨a', 0, by rw [e, h5], by omega⟩
      obtain ⟨b0, C, hv, hLC⟩ := hshape
      -- the capacity's bound
      have hmm : ∃ m : Nat, zb.v ≤ m ∧ m ≤ C ∧ ((mx = none ∧ m = C) ∨ ∃ y k, mx = some y ∧ a.eval y = .int k (m : Int) ∧ m ≤ C) ∧
          (zm = none → m = C) ∧ (∀ z, zm = some z → (m : Int) = z.v ∧ m ≤ ln.v.toNat) ∧ (mx = none ∨ hi ≠ none ∨ True) := by
        rcases hm with ⟨e1, e2⟩ | ⟨y, z, e1, e2, e3, h4, h5⟩
        · subst e1
          have : mx = none := by
            cases mx with
            | none => rfl
            | some y => simp [cOpt] at hmx
          exact ⟨C, by omega, Nat.le_refl _, .inl ⟨this, rfl⟩, fun _ => rfl, (fun z hz => by rw [e2] at hz; cases hz), .inr (.inr trivial)⟩
        · subst e1
          cases mx with
          | none => simp [cOpt] at hmx
          | some y0 =>
            simp only [cOpt, Option.map_eq_some_iff, Option.some.injEq] at hmx
            obtain ⟨y1, hy1, rfl⟩ := hmx
            obtain ⟨kk, hkk⟩ := intZ_ok e2 (ev_ok hE hy1)
            have e5 : ((z.v.toNat : Nat) : Int) = z.v := Int.toNat_of_nonneg (by omega)
            refine ⟨z.v.toNat, by omega, by omega, .inr ⟨y0, kk, rfl, by rw [e5]; exact hkk, by omega⟩, (fun e => by rw [e3] at e; cases e), fun z' hz' => ?_, .inr (.inr trivial)⟩
            rw [e3] at hz'; simp at hz'; subst hz'
            exact ⟨e5, by omega⟩
      obtain ⟨m, hbm, hmC, hmx2, hmn, hms, _⟩ := hmm
      have hhi2 : (hi = none ∧ zb.v = ln.v.toNat ∧ mx = none) ∨ ∃ y k, hi = some y ∧ a.eval y = .int k zb.v := by
        rcases opt_ok hE hhi hzb with ⟨e1, e2⟩ | r
        · rcases hm with ⟨e3, e4⟩ | ⟨y, z, e3, _⟩
          · have : mx = none := by
              subst e3
              cases mx with
              | none => rfl
              | some y => simp [cOpt] at hmx
            exact .inl ⟨e1, by rw [e2]; omega, this⟩
          · exact absurd e1 (hhn (by rw [e3]; simp))
        · exact .inr r
      have hb := run_bounds (P := P) (W := W) (a := a) (isS := true) (len := ln.v.toNat) (cap := C) (lo := lo) (hi := hi) (mx := mx) (m := m) h2 h1 hLC (opt_ok hE hlo hza) hhi2 hmx2 hbm
      refine .val (by simp [ho, isDefer]) (run b0 _ C za zb m hv hb) (post_same hR hK ?_)
      have eoff : (zadd (S0 P) off za).v = off.v + za.v := zadd_v _ _
      have elen : (zsub (S0 P) zb za).v = zb.v - za.v := zsub_v _ _
      have e1 : (off.v + za.v).toNat = off.v.toNat + za.v.toNat := Int.toNat_add ho0 h1
      have e2 : (zb.v - za.v).toNat = zb.v.toNat - za.v.toNat := by omega
      simp only [den]
      rw [eoff, elen, e1, e2]
      refine ⟨by omega, by omega, vw, hvw, Nat.le_trans (Nat.mul_le_mul_right n (by omega)) hin, ?_⟩
      have ecap : ∀ z', (zm.map fun z => zsub (S0 P) z za).map Z.v = some z' → z' = (m : Int) - za.v := by
        intro z' hz'
        cases zm with
        | none => simp at hz'
        | some z => simp only [Option.map_some, Option.some.injEq] at hz'; rw [← hz', zsub_v, ← (hms z rfl).1]
      have ecn : (zm.map fun z => zsub (S0 P) z za).map Z.v = none → m = C := by
        intro hz'
        cases zm with
        | none => exact hmn rfl
        | some z => simp at hz'
      unfold SlVal at hsv ⊢
      cases hbase : vw.base with
      | none =>
        rw [hbase] at hsv
        obtain ⟨q1, q2, a', q3⟩ := hsv
        rw [q3] at hv
        simp only [Value.slice.injEq] at hv
        obtain ⟨rfl, _, rfl⟩ := hv
        have hz : za.v.toNat = 0 := by omega
        have hm0 : m = 0 := by omega
        refine ⟨by omega, by omega, a', ?_⟩
        rw [if_pos (by omega), hm0, hz]
        congr 1
        omega
      | some ad =>
        rw [hbase] at hsv
        by_cases hma : m = za.v.toNat
        · rw [if_pos hma]
          refine .inr ⟨by omega, ⟨b0, ?_⟩, fun z' hz' => ?_⟩
          · rw [show zb.v.toNat - za.v.toNat = 0 by omega, show m - za.v.toNat = 0 by omega]
          · have := ecap z' hz'; omega
        · rw [if_neg hma]
          rcases hsv with ⟨c, q1, q2, q3, q4⟩ | ⟨q1, ⟨a', q2⟩, _⟩
          · rw [q1] at hv
            simp only [Value.slice.injEq] at hv
            obtain ⟨rfl, _, rfl⟩ := hv
            refine .inl ⟨m - za.v.toNat, ?_, by omega, by omega, ?_⟩
            · simp only [Option.map_some, addr_add]
              congr 3
              rw [Nat.add_mul, Nat.add_assoc]
            · cases hcc : (zm.map fun z => zsub (S0 P) z za).map Z.v with
              | none =>
                have := ecn hcc
                simp only [Option.map_none] at q4
                simp only
                omega
              | some z' =>
                have := ecap z' hcc
                simp only
                omega
          · rw [q2] at hv
            simp only [Value.slice.injEq] at hv
            obtain ⟨rfl, _, rfl⟩ := hv
            omega
    split at h
    · rename_i za zb hza hzb
      obtain ⟨h1, h⟩ := zle_ok h
      obtain ⟨h2, h⟩ := zle_ok h
      obtain ⟨h3, h⟩ := zle_ok h
      exact fin za zb none hza hzb h1 h2 h3 rfl (.inl ⟨rfl, rfl⟩) h
    · rename_i za zb y hza hzb
      split at h
      · rename_i zm hzm
        obtain ⟨h1, h⟩ := zle_ok h
        obtain ⟨h2, h⟩ := zle_ok h
        obtain ⟨h3, h⟩ := zle_ok h
        obtain ⟨h4, h⟩ := zle_ok h
        exact fin za zb (some zm) hza hzb h1 h2 (by omega) rfl (.inr ⟨y, zm, rfl, hzm, rfl, h3, h4⟩) h
      · exact h.elim
    · exact h.elim
  · -- nil
    rename_i he
    rw [he] at hdx
    simp only [den] at hdx
    split at h
    case h_2 => exact h.elim
    rename_i za zb zm hza hzb hzm
    obtain ⟨h1, h⟩ := zle_ok h
    obtain ⟨h2, h⟩ := zle_ok h
    obtain ⟨h3, h⟩ := zle_ok h
    obtain ⟨h4, h⟩ := zle_ok h
    replace h1 : 0 ≤ za.v := h1
    replace h4 : zm.v ≤ 0 := h4
    have hm0 : zm.v = 0 := by omega
    have hb := run_bounds (P := P) (W := W) (a := a) (isS := true) (len := 0) (cap := 0) (lo := lo) (hi := hi) (mx := mx) (m := 0) h2 h1 (Nat.le_refl _) (opt_ok hE hlo hza)
      (by rcases opt_ok hE hhi hzb with ⟨e1, e2⟩ | r
          · refine .inl ⟨e1, by rw [e2]; rfl, ?_⟩
            cases mx with
            | none => rfl
            | some y =>
              simp only [cOpt, Option.map_eq_some_iff] at hmx
              obtain ⟨y1, _, rfl⟩ := hmx
              exact absurd e1 (hhn (by simp))
          · exact .inr r)
      (by rcases opt_ok hE hmx hzm with ⟨e1, e2⟩ | ⟨y, k, e1, e2⟩
          · exact .inl ⟨e1, rfl⟩
          · exact .inr ⟨y, k, e1, by rw [e2, hm0]; rfl, Nat.le_refl _⟩) (by omega)
    have ha0 : za.v.toNat = 0 := by omega
    have hb0 : zb.v.toNat = 0 := by omega
    have hr := run none 0 0 za zb 0 hdx.1 hb
    rw [ha0, hb0] at hr
    refine .val (by simp [ho, isDefer]) hr (post_same hR h ?_)
    simp [den, oneC]
  · exact h.elim

/-! ### New rows -/
theorem s_mkS {t e : TypeId} {n : Nat} {zero : List SV} {x y : Operand} {x' y' : Opd} (ho : o.op = .makeSlice t x y) (ht : P.underlying t = some (.slice e)) (hn : szOf P e = some n)
    (hz : zeroOf P e = some zero) (h0 : n ≠ 0) (hzl : zero.length = n) (hby : ¬ P.bytesOf e > 1024) (hx : cOpd x = some x') (hy : cOpd y = some y') : Sound P o (.mkS n zero x' y') := by
  intro N W0 W ρ l vs a K h hR hE
  obtain ⟨i, z, hi, hz', hd⟩ := zeroOf_ok hz
  have key : ∀ (m : Int) (zm : Z) (lit : Bool), zm.v = m → (∃ k1, a.eval x = .int k1 m) → (∃ k2, a.eval y = .int k2 m) → 0 ≤ m → m ≤ 65536 → (lit = false → ∀ x ∈ repS m.toNat zero, plainV x = true) →
      K (.sl l.length n (.l 0) zm none) (l ++ [.r false lit (.l 0) n (repS m.toNat zero)]) → OpRuns P o a W (OpPost P N W0 ρ l K) := by
    rintro m zm lit hzm ⟨k1, e1⟩ ⟨k2, e2⟩ hm0 hmb hp h
    have hsz : i.size = n := by simp only [szOf, hi, Option.map_some, Option.some.injEq] at hn; exact hn
    have hby' : i.bytes ≤ 1024 := by simp only [Program.bytesOf, hi, Option.map_some, Option.getD_some] at hby; omega
    have hmul : (i.bytes : Int) * m ≤ 1024 * 65536 := by
      have h1 : (i.bytes : Int) * m ≤ 1024 * m := Int.mul_le_mul_of_nonneg_right (by omega) hm0
      have h2 : (1024 : Int) * m ≤ 1024 * 65536 := by omega
      omega
    have hrun := run_make (P := P) W t e i z ht hi hz' k1 k2 m m hm0 (Int.le_refl _) (by omega) (by omega)
    rw [hsz] at hrun
    have hdz := zeros_ok (n := m.toNat) (hd ρ) hzl h0
    refine .val (v := .slice (some ⟨W.heap.size, 0, none⟩) m.toNat m.toNat) (W' := W.alloc (.cells (madeCells z.cells (m.toNat * n)) e)) (by simp [ho, isDefer]) ?_
      ⟨_, _, _, h, le_new hR _, by simp, hR.newR (cap := m.toNat) e (by omega) ?_ ?_ hp (fun q x hx => ?_), ?_⟩
    · simp [execOp, ho, e1, e2, hrun]
    · have := denL_length hdz
      simp only [Array.length_toList, Array.size_map, Array.size_range] at this
      omega
    · rw [size_madeCells]; exact Nat.le_refl _
    · obtain ⟨v, hv, d⟩ := denL_get q x hdz hx
      exact ⟨v, by rw [← Array.getElem?_toList]; exact hv, d⟩
    · have hlen := denL_length hdz
      simp only [Array.length_toList, Array.size_map, Array.size_range] at hlen
      simp only [den]
      refine ⟨by simp [zv_l], by rw [hzm]; exact hm0, _, by rw [upd_same]; exact List.mem_singleton.2 rfl, by simp [zv_l, hzm]; omega, ?_⟩
      simp only [SlVal, zv_l, hzm]
      exact .inl ⟨m.toNat, by simp, by simp, by simp, by simp⟩
  simp only [vop, len_eq, snoc_eq] at h
  split at h
  · rename_i m c hm hc
    obtain ⟨k1, e1⟩ := intZ_ok hm (ev_ok hE hx)
    obtain ⟨k2, e2⟩ := intZ_ok hc (ev_ok hE hy)
    split at h
    · rename_i hb
      obtain ⟨rfl, hm0, hmb⟩ := hb
      rw [zv_l] at e1 e2
      exact key m (.l m) true zv_l ⟨k1, e1⟩ ⟨k2, e2⟩ hm0 hmb (by simp) h
    · exact h.elim
  · rename_i m c _ hm hc
    obtain ⟨k1, e1⟩ := intZ_ok hm (ev_ok hE hx)
    obtain ⟨k2, e2⟩ := intZ_ok hc (ev_ok hE hy)
    obtain ⟨hmc, hm0, hmb, hp, hK⟩ := h
    exact key m.v (.y m.v) false rfl ⟨k1, e1⟩ ⟨k2, by rw [e2, hmc]⟩ hm0 hmb (fun _ x hx => plains_mem hp x hx) hK
  · exact h.elim

/-! ### Texts and bytes -/
theorem bytes_cells {F : List SV} {off n : Nat} {x : List UInt8} (hb : bytesOf F off n x) {vw : View} {ad : Addr} (hv : ViewOk W ρ F vw) (hbase : vw.base = some ad) (hin : off + n ≤ vw.n) :
    ∀ j, j < n → W.cell? ⟨ad.block, ad.off + off + j, none⟩ = some (.int .u8 ((x.getD j 0).toNat : Int)) := by
  intro j hj
  have hjl : j < x.length := by rw [hb.1]; exact hj
  obtain ⟨z, hz, hzv⟩ := hb.2 j x[j] (List.getElem?_eq_getElem hjl)
  obtain ⟨a', v, e1, e2, e3⟩ := hv.2.2 (off + j) _ (by omega) hz
  rw [hbase] at e1
  simp at e1; subst e1
  simp only [den] at e3
  rw [Nat.add_assoc, e2, e3, hzv, List.getD_eq_getElem?_getD, List.getElem?_eq_getElem hjl]
  rfl

theorem push_bytes : ∀ (x : List UInt8) (s : ByteArray), (x.map fun c => (c.toNat : Int)).foldl (fun r n => r.push (UInt8.ofNat n.toNat)) s = ⟨s.data ++ x.toArray⟩
  | [], s => by simp
  | c :: x, s => by
    simp only [List.map_cons, List.foldl_cons]
    rw [push_bytes x]
    congr 1
    apply Array.ext'
    simp [ByteArray.push]

theorem s_cvBS {t u e : TypeId} {x : Operand} {x' : Opd} (ho : o.op = .convert t u x) (ht : P.underlying t = some (.slice e)) (he : isU8 P e = true) (hu : P.underlying u = some .string) (hx : cOpd x = some x') :
    Sound P o (.cvBS x') := by
  intro N W0 W ρ l vs a K h hR hE
  have hd := ev_ok hE hx
  have he' : P.underlying e = some (.int .u8) := by
    unfold isU8 at he
    split at he
    · rename_i h1; exact h1
    · cases he
  have run : ∀ (b : Option Addr) (ln cp : Nat) (s : ByteArray), a.eval x = .slice b ln cp → (Conv.bytesToString (.slice b ln cp)).run P W = .ok (.string s) W →
      (execOp a.eval o).run P W = .ok (.value (.string s)) W := by
    intro b ln cp s e1 e2
    simp [execOp, ho, e1, run_convert_bytes_string W t u e b ln cp ht he' hu, e2]
  simp only [vop] at h
  split at h
  · rename_i k sz off ln cap hev
    rw [hev] at hd
    split at h
    case h_2 => exact h.elim
    rename_i ro lit st sz' F hF
    split at h
    case isFalse => exact h.elim
    rename_i hsz
    obtain ⟨rfl, rfl⟩ := hsz
    obtain ⟨_, hvs, _, _⟩ := hR.blk k _ (lget_some hF (by simp))
    obtain ⟨ho0, hl0, xs, hb, hK⟩ := h
    simp only [den] at hd
    obtain ⟨_, _, vw, hvw, hin, hsv⟩ := hd
    rw [Nat.mul_one] at hin
    have hv := hvs vw hvw
    have hnil : ln.v.toNat = 0 → xs = [] := fun h0 => List.eq_nil_of_length_eq_zero (by rw [hb.1, h0])
    have empty : ∀ a', a.eval x = .slice a' 0 0 → ln.v.toNat = 0 → (execOp a.eval o).run P W = .ok (.value (.string ⟨xs.toArray⟩)) W := by
      intro a' e1 h0
      rw [hnil h0]
      refine run a' 0 0 _ e1 ?_
      cases a' with
      | none => rfl
      | some ad => exact run_bytesToString W ad 0 0 [] (by simp [loadCells, loadCellsFrom, Sem.run_pure])
    refine .val (v := .string ⟨xs.toArray⟩) (W' := W) (by simp [ho, isDefer]) ?_ (post_same hR hK (by simp only [den]))
    unfold SlVal at hsv
    cases hbase : vw.base with
    | none =>
      rw [hbase] at hsv
      obtain ⟨_, h0, a', e1⟩ := hsv; exact empty a' e1 h0
    | some ad =>
      rw [hbase] at hsv
      rcases hsv with ⟨c, e1, _⟩ | ⟨h0, ⟨a', e1⟩, _⟩
      · refine run _ _ _ _ e1 ?_
        have hlen : (xs.map fun c => SV.i .u8 (.y (c.toNat : Int))).length = ln.v.toNat := by rw [List.length_map]; exact hb.1
        obtain ⟨us, hus, hdu⟩ := run_loadCells_at (P := P) (W := W) (ρ := ρ) (b := ad.block) (o := ad.off + off.v.toNat * 1) (n := ln.v.toNat) hlen (fun q y hy => by
          rw [List.getElem?_map, Option.map_eq_some_iff] at hy
          obtain ⟨c, hc, rfl⟩ := hy
          have hq : q < ln.v.toNat := by rw [← hb.1]; exact (List.getElem?_eq_some_iff.1 hc).1
          refine ⟨_, ?_, rfl⟩
          rw [Nat.mul_one, bytes_cells hb hv hbase hin q hq, List.getD_eq_getElem?_getD, hc]
          rfl)
        have hus2 : us = ((xs.map fun c => (c.toNat : Int)).map (Value.int .u8)).toArray := by
          have : ∀ (xs : List UInt8) (us : List Value), denL ρ (xs.map fun c => SV.i .u8 (.y (c.toNat : Int))) us → us = (xs.map fun c => (c.toNat : Int)).map (Value.int .u8) := by
            intro xs
            induction xs with
            | nil => intro us hd; cases us with | nil => rfl | cons => simp [denL] at hd
            | cons c xs ih =>
              intro us hd
              cases us with
              | nil => simp [denL] at hd
              | cons u us =>
                simp only [List.map_cons, denL, den] at hd ⊢
                rw [hd.1, ih us hd.2]
                rfl
          rw [← this xs us.toList hdu]
        rw [hus2] at hus
        rw [run_bytesToString W _ _ _ _ hus, push_bytes]
        simp
      · exact empty a' e1 h0
  · rename_i hev
    rw [hev] at hd
    simp only [den] at hd
    refine .val (v := .string ⟨#[]⟩) (W' := W) (by simp [ho, isDefer]) (run none _ _ _ hd.1 rfl) (post_same hR h (by simp [den]))
  · exact h.elim
end
end Cz
