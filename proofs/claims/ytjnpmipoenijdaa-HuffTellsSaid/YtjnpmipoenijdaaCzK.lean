/- The engine, part K: each operation does what its condition says (elements, literals, maps). No condition. -/
import Derived.Test.YtjnpmipoenijdaaCzJ
namespace Cz
open Go Go.RowKit
set_option linter.unusedSimpArgs false
set_option linter.unusedVariables false

section
variable {P : Program} {N : Nat} {W0 W : World} {ρ : Nms} {l : List Blk} {vs : List SV} {a : Act} {K : SV → List Blk → Prop} {o : Oper}

theorem zle_ok {x y : Z} {k : Unit → Prop} (h : zle (S0 P) x y k) : x.v ≤ y.v ∧ k () := by
  unfold zle at h
  split at h
  · split at h
    · rename_i hh; exact ⟨hh, h⟩
    · exact h.elim
  · exact ⟨by simpa [S0, BK.cmpLit] using h.1, h.2⟩
theorem zlt_ok {x y : Z} {k : Unit → Prop} (h : zlt (S0 P) x y k) : x.v < y.v ∧ k () := by
  unfold zlt at h
  split at h
  · split at h
    · rename_i hh; exact ⟨hh, h⟩
    · exact h.elim
  · exact ⟨by simpa [S0, BK.cmpLit] using h.1, h.2⟩
theorem zadd_v (x y : Z) : (zadd (S0 P) x y).v = x.v + y.v := by
  unfold zadd
  split <;> simp [Z.v, S0]
theorem zsub_v (x y : Z) : (zsub (S0 P) x y).v = x.v - y.v := by
  unfold zsub
  split <;> simp [Z.v, S0]
theorem intZ_ok {x : SV} {z : Z} {v : Value} (h : intZ x = some z) (hd : den ρ x v) : ∃ k, v = .int k z.v := by
  cases x <;> simp [intZ] at h
  subst h
  simp only [den] at hd
  exact ⟨_, hd⟩

theorem s_iadS {t e : TypeId} {x i : Operand} {x' i' : Opd} {n : Nat} (ho : o.op = .indexAddr t x i) (ht : P.underlying t = some (.slice e)) (hn : szOf P e = some n)
    (hx : cOpd x = some x') (hi : cOpd i = some i') : Sound P o (.iadS n x' i') := by
  intro N W0 W ρ l vs a K h hR hE
  have hdx := ev_ok hE hx
  have hdi := ev_ok hE hi
  simp only [vop] at h
  split at h
  · rename_i k sz' off ln cap z he hz
    rw [he] at hdx
    obtain ⟨ki, hvi⟩ := intZ_ok hz hdi
    split at h
    · rename_i hsz
      subst hsz
      obtain ⟨h1, h⟩ := zle_ok h
      obtain ⟨h2, h⟩ := zlt_ok h
      replace h1 : 0 ≤ z.v := h1
      simp only [den] at hdx
      obtain ⟨ho0, hl0, vw, hvw, hin, hs⟩ := hdx
      unfold SlVal at hs
      cases hb : vw.base with
      | none =>
        rw [hb] at hs
        have := hs.2.1
        omega
      | some ad =>
        rw [hb] at hs
        have hnat : z.v.toNat < ln.v.toNat := by omega
        rcases hs with ⟨c, hv, _⟩ | ⟨hl, _⟩
        · have hz0 : (z.v.toNat : Int) = z.v := Int.toNat_of_nonneg h1
          have hrun : (execOp a.eval o).run P W = .ok (.value (.pointer (some ⟨ad.block, ad.off + off.v.toNat * n + z.v.toNat * n, none⟩))) W := by
            have hlt : z.v < (ln.v.toNat : Int) := by omega
            simp only [execOp, ho, Instr.indexAt, hvi, hv, asIntOf, Sem.run_bind, run_underlying ht, Result.andThen_ok, Sem.run_pure]
            rw [if_pos ⟨h1, hlt⟩]
            simp [run_sizeOf hn, addr_add]
          refine .val (by simp [ho, isDefer]) hrun (post_same hR h ?_)
          simp only [den]
          rw [zadd_v]
          have e1 : (off.v + z.v).toNat = off.v.toNat + z.v.toNat := Int.toNat_add ho0 h1
          refine ⟨by omega, vw, hvw, ad, hb, ?_, ?_⟩
          · rw [e1]
            exact Nat.le_trans (Nat.mul_le_mul_right n (by omega)) hin
          · rw [e1, Nat.add_mul, Nat.add_zero, Nat.add_assoc]
        · omega
    · exact h.elim
  · exact h.elim

theorem s_iadA {t e : TypeId} {x i : Operand} {x' i' : Opd} {n len : Nat} (ho : o.op = .indexAddr t x i) (ht : P.underlying t = some (.array len e)) (hn : szOf P e = some n)
    (hx : cOpd x = some x') (hi : cOpd i = some i') : Sound P o (.iadA len n x' i') := by
  intro N W0 W ρ l vs a K h hR hE
  have hdx := ev_ok hE hx
  have hdi := ev_ok hE hi
  simp only [vop] at h
  split at h
  · rename_i k z he hz
    rw [he] at hdx
    obtain ⟨ki, hvi⟩ := intZ_ok hz hdi
    split at h
    · rename_i cs hcs
      split at h
      · rename_i hlen
        rw [lenS_eq] at hlen
        obtain ⟨h1, h⟩ := zle_ok h
        obtain ⟨h2, h⟩ := zlt_ok h
        replace h1 : 0 ≤ z.v := h1
        replace h2 : z.v < (len : Int) := h2
        obtain ⟨b, e1, hv, _⟩ := hR.blk k _ (lget_some hcs (by simp))
        simp only [den] at hdx
        obtain ⟨vw, hvw, ad, hb, hve⟩ := hdx
        obtain rfl := mem_one e1 hvw
        simp at hb; subst hb
        have hrun : (execOp a.eval o).run P W = .ok (.value (.pointer (some ⟨b, z.v.toNat * n, none⟩))) W := by
          simp only [execOp, ho, Instr.indexAt, hvi, hve, asIntOf, Sem.run_bind, run_underlying ht, Result.andThen_ok, Sem.run_pure, Instr.sureAddr]
          rw [if_pos ⟨h1, h2⟩]
          simp [run_sizeOf hn, addr_add]
        refine .val (by simp [ho, isDefer]) hrun (post_same hR h ?_)
        simp only [den]
        refine ⟨h1, _, hvw, _, rfl, ?_, by simp⟩
        show (z.v.toNat + 1) * n ≤ cs.length
        rw [← hlen]
        exact Nat.mul_le_mul_right n (by omega)
      · exact h.elim
    · exact h.elim
  · rename_i k i0 sz0 j z he hz
    rw [he] at hdx
    obtain ⟨ki, hvi⟩ := intZ_ok hz hdi
    replace hvi : a.eval i = .int ki z := hvi
    split at h
    · rename_i hc
      obtain ⟨h1, h2, _⟩ := hc
      simp only [den] at hdx ⊢
      obtain ⟨g0, vw, hvw, ad, hb, g1, hve⟩ := hdx
      have hrun : (execOp a.eval o).run P W = .ok (.value (.pointer (some ⟨ad.block, ad.off + (i0.v.toNat * sz0 + j) + z.toNat * n, none⟩))) W := by
        simp only [execOp, ho, Instr.indexAt, hvi, hve, asIntOf, Sem.run_bind, run_underlying ht, Result.andThen_ok, Sem.run_pure, Instr.sureAddr]
        rw [if_pos ⟨h1, h2⟩]
        simp [run_sizeOf hn, addr_add]
      refine .val (by simp [ho, isDefer]) hrun (post_same hR h ?_)
      simp only [den]
      exact ⟨g0, vw, hvw, ad, hb, g1, by congr 3; omega⟩
    · exact h.elim
  · exact h.elim

theorem part_ok {t : TypeId} {agg : Bool} {cs : List SV} {us : Array Value} {off n : Nat} {sv : SV} (ha : aggOf P t = some agg) (hn : szOf P t = some n) (hd : denL ρ cs us.toList)
    (hle : off + n ≤ cs.length) (hm : mkv agg ((cs.drop off).take n) = some sv) : ∃ v, (part t us off).run P W = .ok v W ∧ den ρ sv v := by
  have hl := denL_length hd
  simp only [Array.length_toList] at hl
  have hget : ∀ (q : Nat) (x : SV), ((cs.drop off).take n)[q]? = some x → ∃ v, us.toList[off + q]? = some v ∧ den ρ x v := by
    intro q x hx
    rw [List.getElem?_take] at hx
    split at hx
    · rw [List.getElem?_drop] at hx
      exact denL_get _ x hd hx
    · cases hx
  cases agg with
  | true =>
    simp only [mkv, Option.some.injEq] at hm
    subst hm
    refine ⟨.agg (us.extract off (off + n)), by simp [part, run_isAgg ha, run_sizeOf hn], ?_⟩
    simp only [den]
    refine ⟨_, rfl, denL_of_get (by simp; omega) fun q x hx => ?_⟩
    obtain ⟨v, hv, d⟩ := hget q x hx
    refine ⟨v, ?_, d⟩
    have hq : q < n := by
      have := (List.getElem?_eq_some_iff.1 hx).1
      simp at this; omega
    simp only [Array.toList_extract, List.extract_eq_take_drop]
    rw [List.getElem?_take, if_pos (by omega), List.getElem?_drop]
    exact hv
  | false =>
    match hc : (cs.drop off).take n, hm with
    | [x], hm =>
      simp only [mkv, Option.some.injEq] at hm
      subst hm
      obtain ⟨v, hv, d⟩ := hget 0 x (by rw [hc]; rfl)
      have hv' : us[off]? = some v := by simpa using hv
      exact ⟨v, by simp [part, run_isAgg ha, hv'], d⟩

theorem s_fld {t : TypeId} {x : Operand} {x' : Opd} {f n : Nat} {agg : Bool} {fs : Array Field} {g : Field} (ho : o.op = .field t x f) (hx : cOpd x = some x') (ht : P.underlying t = some (.struct fs))
    (hg : fs[f]? = some g) (hn : szOf P g.type = some n) (ha : aggOf P g.type = some agg) : Sound P o (.fld agg g.offset n x') := by
  intro N W0 W ρ l vs a K h hR hE
  have hd := ev_ok hE hx
  simp only [vop] at h
  split at h
  · rename_i cs he
    rw [he] at hd
    simp only [den] at hd
    obtain ⟨us, hve, d⟩ := hd
    split at h
    · rename_i hle
      rw [lenS_eq] at hle
      split at h
      · rename_i sv hm
        rw [dropS_eq, takeS_eq] at hm
        obtain ⟨v, hv, dv⟩ := part_ok (W := W) ha hn d hle hm
        exact .val (v := v) (W' := W) (by simp [ho, isDefer]) (by simp [execOp, ho, Instr.field, run_underlying ht, hg, hve, asAgg, hv]) (post_same hR h dv)
      · exact h.elim
    · exact h.elim
  · exact h.elim

theorem s_ixA {t e : TypeId} {x i : Operand} {x' i' : Opd} {n len : Nat} {agg : Bool} (ho : o.op = .index t x i) (ht : P.underlying t = some (.array len e)) (hn : szOf P e = some n) (ha : aggOf P e = some agg) (h0 : n ≠ 0)
    (hx : cOpd x = some x') (hi : cOpd i = some i') : Sound P o (.ixA agg len n x' i') := by
  intro N W0 W ρ l vs a K h hR hE
  have hd := ev_ok hE hx
  have hdi := ev_ok hE hi
  have go : ∀ (cs : List SV) (z : Int) (sv : SV), ev vs x' = .ag cs → (∃ k, a.eval i = .int k z) → 0 ≤ z → z < len → len * n = cs.length → mkv agg ((cs.drop (z.toNat * n)).take n) = some sv → K sv l →
      OpRuns P o a W (OpPost P N W0 ρ l K) := by
    intro cs z sv he ⟨k, hvi⟩ h1 h2 h3 hm hK
    rw [he] at hd
    simp only [den] at hd
    obtain ⟨us, hve, d⟩ := hd
    have hle : z.toNat * n + n ≤ cs.length := by
      rw [← h3]
      have : (z.toNat + 1) * n ≤ len * n := Nat.mul_le_mul_right n (by omega)
      rw [Nat.add_mul, Nat.one_mul] at this
      exact this
    obtain ⟨v, hv, dv⟩ := part_ok (W := W) ha hn d hle hm
    refine .val (v := v) (W' := W) (by simp [ho, isDefer]) ?_ (post_same hR hK dv)
    simp only [execOp, ho, Instr.index, hvi, hve, asIntOf, Sem.run_bind, run_underlying ht, Result.andThen_ok, Sem.run_pure]
    rw [if_pos ⟨h1, h2⟩]
    simp [run_sizeOf hn, hv]
  simp only [vop] at h
  split at h
  · rename_i cs z he hz
    split at h
    · rename_i hh
      obtain ⟨h1, h2, h3⟩ := hh
      rw [lenS_eq] at h3
      split at h
      · rename_i sv hm
        rw [dropS_eq, takeS_eq] at hm
        exact go cs z sv he (intZ_ok hz hdi) h1 h2 h3 hm h
      · exact h.elim
    · exact h.elim
  · rename_i cs z he hz
    split at h
    · rename_i h3
      rw [lenS_eq] at h3
      obtain ⟨h1, h2, _, sv, hm, hK⟩ := h
      refine go cs z sv he (intZ_ok hz hdi) h1 ?_ h3 (by simpa using hm) hK
      rw [← h3] at h2
      have := Nat.le_of_mul_le_mul_right h2 (by omega)
      omega
    · exact h.elim
  · exact h.elim

/-! ### Literals -/
theorem foldl_repl (off : Nat) : ∀ (xs : List SV) (us : List Value) (k : Nat) (cs : List SV) (cells : Array Value), denL ρ xs us → denL ρ cs cells.toList → off + k + xs.length ≤ cs.length →
    denL ρ (repl cs (off + k) xs) ((us.zipIdx k).foldl (fun (cs : Array Value) (p : Value × Nat) => cs.setIfInBounds (off + p.2) p.1) cells).toList
  | [], [], k, cs, cells, _, hc, _ => by simpa [repl] using hc
  | [], _ :: _, _, _, _, h, _, _ => by simp [denL] at h
  | _ :: _, [], _, _, _, h, _, _ => by simp [denL] at h
  | x :: xs, u :: us, k, cs, cells, h, hc, hl => by
    simp only [denL] at h
    simp only [List.length_cons] at hl
    simp only [repl, List.zipIdx_cons, List.foldl_cons]
    have := foldl_repl off xs us (k + 1) (put cs (off + k) x) (cells.setIfInBounds (off + k) u) h.2 ?_ (by simp [put_eq]; omega)
    · simpa [Nat.add_assoc] using this
    · rw [put_eq]
      have hlen := denL_length hc
      refine denL_of_get (by simpa using hlen) fun q y hy => ?_
      by_cases hq : q = off + k
      · subst hq
        have hlt : off + k < cs.length := by omega
        rw [List.getElem?_set_self hlt] at hy
        simp at hy; subst hy
        refine ⟨u, ?_, h.1⟩
        have : off + k < cells.size := by simp at hlen; omega
        simp [this]
      · rw [List.getElem?_set_ne (Ne.symm hq)] at hy
        obtain ⟨v, hv, d⟩ := denL_get q y hc hy
        refine ⟨v, ?_, d⟩
        have : cells[q]? = some v := by simpa using hv
        simp [Ne.symm hq, this]

theorem fill_ok {place : Nat → Option (Nat × Nat)} (hE : EnvOk ρ vs a.tmps) : ∀ (parts : List (Nat × Operand)) (parts' : List (Nat × Nat × Opd)) (cs out : List SV) (cells : Array Value),
    parts.mapM (fun (p : Nat × Operand) => do let pl ← place p.1; pure (pl.1, pl.2, ← cOpd p.2)) = some parts' → fillS vs cs parts' = some out → denL ρ cs cells.toList →
    ∃ cells', Instr.fill place cells (parts.map fun p => (p.1, a.eval p.2)) = some cells' ∧ denL ρ out cells'.toList
  | [], parts', cs, out, cells, hp, hf, hc => by
    simp at hp; subst hp
    simp only [fillS, Option.some.injEq] at hf
    subst hf
    exact ⟨cells, rfl, hc⟩
  | (i, x) :: parts, parts', cs, out, cells, hp, hf, hc => by
    simp only [List.mapM_cons, Option.bind_eq_bind, Option.bind_eq_some_iff, Option.pure_def, Option.some.injEq] at hp
    obtain ⟨_, ⟨⟨off, n⟩, hpl, x', hx', rfl⟩, ps, hps, rfl⟩ := hp
    simp only [fillS, replL_eq] at hf
    split at hf
    · rename_i ws hws
      split at hf
      · rename_i hh
        obtain ⟨h1, h2⟩ := hh
        rw [lenS_eq] at h1 h2
        have hdx := cells_ok hws (ev_ok hE hx')
        have hlx := denL_length hdx
        have hlc := denL_length hc
        simp only [Array.length_toList] at hlx hlc
        have hrep := foldl_repl (ρ := ρ) off ws (a.eval x).cells.toList 0 cs cells hdx hc (by omega)
        obtain ⟨cells', hfl, hd'⟩ := fill_ok hE parts ps _ out _ hps hf hrep
        refine ⟨cells', ?_, hd'⟩
        simp only [List.map_cons, Instr.fill, hpl]
        rw [if_neg (by simp; omega)]
        rw [← hfl]
        congr 1
        rw [← Array.foldl_toList, Array.toList_zipIdx]
      · cases hf
    · cases hf

theorem s_mkM {t : TypeId} (ho : o.op = .makeMap t none) : Sound P o .mkM := by
  intro N W0 W ρ l vs a K h hR hE
  simp only [vop, len_eq, snoc_eq] at h
  refine .val (v := .map (some W.heap.size)) (W' := W.alloc (.map #[] 0)) (by simp [ho, isDefer]) (by simp [execOp, ho, Instr.makeMap])
    ⟨upd ρ l.length [⟨some ⟨W.heap.size, 0, none⟩, 0, 0⟩], _, _, h, le_new hR _, by simp, ?_, ?_⟩
  · refine hR.push (Below.allocW hR _) (by simp) (fun i hi => heap_old hi) ?_ ⟨W.heap.size, #[], 0, ⟨upd_same, hR.hN⟩, heap_new, by simp [MapRel]⟩
    intro vw hv ad ha
    simp only [List.mem_singleton] at hv
    subst hv
    simp at ha; subst ha; simp
  · simp only [den]
    exact ⟨_, by rw [upd_same]; exact List.mem_singleton.2 rfl, _, rfl, rfl⟩

theorem s_mkMh {t kt e : TypeId} {k : IntKind} {n : Int} (ho : o.op = .makeMap t (some (.const (.int k n)))) (ht : P.underlying t = some (.map kt e)) : Sound P o .mkM := by
  intro N W0 W ρ l vs a K h hR hE
  simp only [vop, len_eq, snoc_eq] at h
  refine .val (v := .map (some W.heap.size)) (W' := W.alloc (.map #[] 0)) (by simp [ho, isDefer]) (by simp [execOp, ho, Instr.makeMap, run_underlying ht, Act.eval, asInt, asIntOf])
    ⟨upd ρ l.length [⟨some ⟨W.heap.size, 0, none⟩, 0, 0⟩], _, _, h, le_new hR _, by simp, ?_, ?_⟩
  · refine hR.push (Below.allocW hR _) (by simp) (fun i hi => heap_old hi) ?_ ⟨W.heap.size, #[], 0, ⟨upd_same, hR.hN⟩, heap_new, by simp [MapRel]⟩
    intro vw hv ad ha
    simp only [List.mem_singleton] at hv
    subst hv
    simp at ha; subst ha; simp
  · simp only [den]
    exact ⟨_, by rw [upd_same]; exact List.mem_singleton.2 rfl, _, rfl, rfl⟩

theorem List.mapM_congr_opt {α β : Type} {f g : α → Option β} : ∀ {l : List α}, (∀ x ∈ l, f x = g x) → l.mapM f = l.mapM g
  | [], _ => rfl
  | x :: l, h => by
    simp only [List.mapM_cons]
    rw [h x (by simp), List.mapM_congr_opt (fun y hy => h y (by simp [hy]))]

theorem run_places {fs : List Field} (h : ∀ f ∈ fs, (szOf P f.type).isSome = true) :
    (fs.mapM (fun (f : Field) => (do pure (f.offset, ← Go.sizeOf f.type) : Sem (Nat × Nat)))).run P W = .ok (fs.map fun f => (f.offset, (szOf P f.type).getD 0)) W := by
  induction fs with
  | nil => simp
  | cons f fs ih =>
    have h1 := h f (by simp)
    obtain ⟨n, hn⟩ := Option.isSome_iff_exists.1 h1
    simp only [List.mapM_cons, Sem.run_bind, run_sizeOf hn, Result.andThen_ok, Sem.run_pure, ih (fun g hg => h g (by simp [hg])), List.map_cons, hn, Option.getD_some]

theorem s_build_struct {t : TypeId} {parts : Array (Nat × Operand)} {fs : Array Field} {zero : List SV} {ps : List (Nat × Nat × Opd)} (ho : o.op = .build t parts) (ht : P.underlying t = some (.struct fs))
    (hz : zeroOf P t = some zero) (hall : fs.all (fun f => (szOf P f.type).isSome) = true)
    (hp : parts.toList.mapM (fun (p : Nat × Operand) => do let f ← fs[p.1]?; let n ← szOf P f.type; pure (f.offset, n, ← cOpd p.2)) = some ps) : Sound P o (.build zero ps) := by
  intro N W0 W ρ l vs a K h hR hE
  obtain ⟨i, z, hi, hz', hd⟩ := zeroOf_ok hz
  simp only [vop] at h
  split at h
  · rename_i cs hcs
    split at h
    · have hall' : ∀ f ∈ fs.toList, (szOf P f.type).isSome = true := by
        intro f hf
        rw [Array.all_eq_true'] at hall
        exact hall f (by simpa using hf)
      have hpl : parts.toList.mapM (fun (p : Nat × Operand) => do let pl ← (fun i => (fs.toList.map fun f => (f.offset, (szOf P f.type).getD 0))[i]?) p.1; pure (pl.1, pl.2, ← cOpd p.2)) = some ps := by
        rw [← hp]
        refine List.mapM_congr_opt fun p _ => ?_
        simp only [List.getElem?_map, Array.getElem?_toList]
        cases hf : fs[p.1]? with
        | none => simp
        | some f =>
          have hmem : f ∈ fs.toList := by
            have := Array.mem_of_getElem? hf
            simpa using this
          obtain ⟨n, hn⟩ := Option.isSome_iff_exists.1 (hall' f hmem)
          simp [hn]
      obtain ⟨cells', hfl, hdc⟩ := fill_ok hE parts.toList ps zero cs z.cells hpl hcs (hd ρ)
      refine .val (v := .agg cells') (W' := W) (by simp [ho, isDefer]) ?_ (post_same hR h (by simp only [den]; exact ⟨_, rfl, hdc⟩))
      have hplaces := run_places (P := P) (W := W) hall'
      simp only [execOp, ho, Instr.build, Sem.run_bind, run_zeroValue hi hz', Result.andThen_ok, Sem.run_pure, run_underlying ht, Array.toList_map]
      rw [Array.mapM_eq_mapM_toList]
      simp only [Sem.run_map, hplaces, Result.andThen_ok]
      have e : (fun (x : Nat) => Option.map (fun (f : Field) => (f.offset, (szOf P f.type).getD 0)) fs[x]?) = fun i => (fs.toList.map fun f => (f.offset, (szOf P f.type).getD 0))[i]? := by
        funext x; simp
      have hfl' : Instr.fill (fun (x : Nat) => Option.map (fun (f : Field) => (f.offset, (szOf P f.type).getD 0)) fs[x]?) z.cells (parts.toList.map fun p => (p.1, a.eval p.2)) = some cells' := by
        rw [e]; exact hfl
      simp [hfl']
    · exact h.elim
  · exact h.elim

theorem s_build_array {t e : TypeId} {parts : Array (Nat × Operand)} {n len : Nat} {zero : List SV} {ps : List (Nat × Nat × Opd)} (ho : o.op = .build t parts) (ht : P.underlying t = some (.array len e))
    (hz : zeroOf P t = some zero) (hn : szOf P e = some n)
    (hp : parts.toList.mapM (fun (p : Nat × Operand) => do pure (p.1 * n, n, ← cOpd p.2)) = some ps) : Sound P o (.build zero ps) := by
  intro N W0 W ρ l vs a K h hR hE
  obtain ⟨i, z, hi, hz', hd⟩ := zeroOf_ok hz
  simp only [vop] at h
  split at h
  · rename_i cs hcs
    split at h
    · obtain ⟨cells', hfl, hdc⟩ := fill_ok (place := fun i => some (i * n, n)) hE parts.toList ps zero cs z.cells (by rw [← hp]; rfl) hcs (hd ρ)
      refine .val (v := .agg cells') (W' := W) (by simp [ho, isDefer]) ?_ (post_same hR h (by simp only [den]; exact ⟨_, rfl, hdc⟩))
      simp only [execOp, ho, Instr.build, Sem.run_bind, run_zeroValue hi hz', Result.andThen_ok, Sem.run_pure, run_underlying ht, Array.toList_map, run_sizeOf hn, hfl]
    · exact h.elim
  · exact h.elim

theorem repS_eq : ∀ (n : Nat) (z : List SV), repS n z = (List.replicate n z).flatten
  | 0, _ => rfl
  | n + 1, z => by simp [repS, catS_eq, repS_eq n z, List.replicate_succ]

theorem zeros_ok {zero : List SV} {z : Array Value} {n sz : Nat} (hd : denL ρ zero z.toList) (hl : zero.length = sz) (h0 : sz ≠ 0) :
    denL ρ (repS n zero) ((Array.range (n * sz)).map (z[· % z.size]!)).toList := by
  have hz : z.size = sz := by have := denL_length hd; simp at this; omega
  have hlen : ((List.replicate n zero).flatten).length = n * sz := by simp [hl]
  rw [repS_eq]
  refine denL_of_get (by simp [hlen]) fun q x hx => ?_
  have hq : q < n * sz := by
    have := (List.getElem?_eq_some_iff.1 hx).1
    omega
  have hm : q % sz < sz := Nat.mod_lt _ (by omega)
  have key : ∀ (n q : Nat), q < n * sz → ((List.replicate n zero).flatten)[q]? = zero[q % sz]? := by
    intro n
    induction n with
    | zero => intro q h; simp at h
    | succ n ih =>
      intro q h
      simp only [List.replicate_succ, List.flatten_cons]
      by_cases h1 : q < sz
      · rw [List.getElem?_append_left (by omega), Nat.mod_eq_of_lt h1]
      · have hlt : q - sz < n * sz := by
          rw [Nat.add_mul, Nat.one_mul] at h
          omega
        have e2 : (q - sz) % sz = q % sz := (Nat.mod_eq_sub_mod (by omega)).symm
        rw [List.getElem?_append_right (by omega), hl, ih _ hlt, e2]
  rw [key n q hq] at hx
  obtain ⟨v, hv, d⟩ := denL_get _ x hd hx
  refine ⟨v, ?_, d⟩
  have hv' : z[q % sz]? = some v := by simpa using hv
  simp [hq, hz, getElem!_def, hv']

theorem fillS_length : ∀ (parts : List (Nat × Nat × Opd)) (cs out : List SV), fillS vs cs parts = some out → out.length = cs.length
  | [], cs, out, h => by simp [fillS] at h; rw [h]
  | (off, n, x) :: parts, cs, out, h => by
    simp only [fillS, replL_eq] at h
    split at h
    · split at h
      · rw [fillS_length parts _ out h, repl_length]
      · cases h
    · cases h

theorem s_buildS {t e : TypeId} {parts : Array (Nat × Operand)} {n len : Nat} {zero : List SV} {ps : List (Nat × Opd)} (ho : o.op = .buildSlice t len parts) (ht : P.underlying t = some (.slice e))
    (hz : zeroOf P e = some zero) (hn : szOf P e = some n) (h0 : n ≠ 0) (hzl : zero.length = n) (hbig : ¬ len * n > 2 ^ 20)
    (hp : parts.toList.mapM (fun (p : Nat × Operand) => do pure (p.1, ← cOpd p.2)) = some ps) : Sound P o (.buildS n len zero ps) := by
  intro N W0 W ρ l vs a K h hR hE
  obtain ⟨i, z, hi, hz', hd⟩ := zeroOf_ok hz
  simp only [vop, len_eq, snoc_eq] at h
  split at h
  · rename_i cs hcs
    split at h
    · have hp2 : parts.toList.mapM (fun (p : Nat × Operand) => do let pl ← (fun i => some (i * n, n)) p.1; pure (pl.1, pl.2, ← cOpd p.2)) = some (ps.map fun (i, x) => (i * n, n, x)) := by
        clear hcs
        generalize parts.toList = ql at hp
        induction ql generalizing ps with
        | nil => simp at hp; subst hp; simp
        | cons q ql ih =>
          simp only [List.mapM_cons, Option.bind_eq_bind, Option.bind_eq_some_iff, Option.pure_def, Option.some.injEq] at hp ⊢
          obtain ⟨_, ⟨x', hx', rfl⟩, ps', hps, rfl⟩ := hp
          exact ⟨_, ⟨_, rfl, x', hx', rfl⟩, _, ih hps, rfl⟩
      obtain ⟨cells', hfl, hdc⟩ := fill_ok (place := fun i => some (i * n, n)) hE parts.toList _ _ cs _ hp2 hcs (zeros_ok (n := len) (hd ρ) hzl h0)
      have hcl : cs.length = len * n := by
        rw [fillS_length _ _ _ hcs, repS_eq]
        simp [hzl]
      have hcsz : cells'.size = cs.length := by have := denL_length hdc; simpa using this.symm
      refine .val (v := .slice (some ⟨W.heap.size, 0, none⟩) len len) (W' := W.alloc (.cells cells' e)) (by simp [ho, isDefer]) ?_
        ⟨_, _, _, h, le_new hR _, by simp, hR.newR (cap := len) e (by omega) (by omega) (by omega) (by simp) (fun q x hx => ?_), ?_⟩
      · have hb24 : ¬ len * n > 2 ^ 24 := by omega
        by_cases hln : len * n = 0
        · have hr : Array.range (len * n) = #[] := by rw [hln]; rfl
          rw [hr] at hfl
          have hfl2 : Instr.fill (fun i => some (i * n, n)) #[] (parts.toList.map fun p => (p.1, a.eval p.2)) = some cells' := by simpa using hfl
          simp only [execOp, ho, Instr.buildSlice, Sem.run_bind, run_underlying ht, Result.andThen_ok, run_sizeOf hn]
          rw [if_neg hb24]
          simp only [Sem.run_pure]
          rw [if_pos hln]
          simp only [Array.toList_map, hr, List.map_toArray, List.map_nil, hfl2, newRow]
          simp
        · simp only [execOp, ho, Instr.buildSlice, Sem.run_bind, run_underlying ht, Result.andThen_ok, run_sizeOf hn]
          rw [if_neg hb24]
          simp only [Sem.run_pure]
          rw [if_neg hln]
          simp only [Sem.run_bind, run_zeroValue hi hz', Sem.run_pure, Result.andThen_ok, Array.toList_map, hfl]
          simp [newRow]
      · obtain ⟨v, hv, d⟩ := denL_get q x hdc hx
        exact ⟨v, by simpa using hv, d⟩
      · simp only [den]
        refine ⟨by simp [Z.v], by simp [Z.v], _, by rw [upd_same]; exact List.mem_singleton.2 rfl, by simp [Z.v]; omega, ?_⟩
        simp only [SlVal, Z.v]
        exact .inl ⟨len, by simp, by simp, by simp, by simp⟩
    · exact h.elim
  · exact h.elim
end
end Cz
