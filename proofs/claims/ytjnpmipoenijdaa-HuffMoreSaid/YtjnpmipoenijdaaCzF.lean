/- The engine, part F: new memory, reading it, writing it. No condition. -/
import Derived.Test.YtjnpmipoenijdaaCzE
namespace Cz
open Go Go.RowKit
set_option linter.unusedSimpArgs false
set_option linter.unusedVariables false

section
variable {P : Program} {N : Nat} {W0 W : World} {ρ : Nms} {l : List Blk}

theorem heap_new {o : Obj} : (W.alloc o).heap[W.heap.size]? = some o := by
  show (W.heap.push o)[W.heap.size]? = some o
  simp
theorem cell_new {c : Array Value} {T : TypeId} {q : Nat} : (W.alloc (.cells c T)).cell? ⟨W.heap.size, q, none⟩ = c[q]? := by
  simp only [World.cell?, heap_new (W := W) (o := .cells c T)]
  rfl
theorem frozen_new {c : Array Value} {T : TypeId} {q : Nat} : (W.alloc (.cells c T)).frozen? ⟨W.heap.size, q, none⟩ = false := by
  simp only [World.frozen?, heap_new (W := W) (o := .cells c T)]
  simp
theorem heap_old {o : Obj} {i : Nat} (h : i < W.heap.size) : (W.alloc o).heap[i]? = W.heap[i]? := Below.heap_alloc W o i h

theorem denL_upd {xs : List SV} {vs : List Value} {k : Nat} {vws : List View} (h : denL ρ xs vs) (hk : ρ k = []) (ho : ∀ j, k ≤ j → ρ j = []) : denL (upd ρ k vws) xs vs :=
  denL_le (le_upd (m := k) (by rw [hk]; simp)) ho xs vs h

theorem Below.allocW (h : Rel P N W0 ρ l W) (o : Obj) : Below N W0 (W.alloc o) := h.below.alloc h.hN o

/-- A new variable. -/
theorem Rel.newC (h : Rel P N W0 ρ l W) {cs : List SV} {c : Array Value} (T : TypeId) (hd : denL ρ cs c.toList) :
    Rel P N W0 (upd ρ l.length [⟨some ⟨W.heap.size, 0, none⟩, cs.length, cs.length⟩]) (l ++ [.c cs]) (W.alloc (.cells c T)) := by
  have hlen : cs.length = c.size := by simpa using denL_length hd
  refine h.push (Below.allocW h _) (by simp) (fun i hi => heap_old hi) ?_ ⟨W.heap.size, upd_same, ?_, ?_⟩
  · intro vw hv a ha
    simp only [List.mem_singleton] at hv
    subst hv
    simp at ha; subst ha; simp
  · refine ⟨Nat.le_refl _, by simp, fun q x _ hx => ?_⟩
    obtain ⟨v, hv, d⟩ := denL_get q x (denL_upd hd (h.out _ (Nat.le_refl _)) h.out) hx
    exact ⟨_, v, rfl, by rw [Nat.zero_add, cell_new]; simpa using hv, d⟩
  · intro a ha
    simp at ha; subst ha
    exact ⟨h.hN, c, T, (0, 0), heap_new, by simp [hlen], fun q _ => frozen_new, .inl rfl⟩

/-- A new row, with room behind it perhaps. -/
theorem Rel.newR (h : Rel P N W0 ρ l W) {F : List SV} {c : Array Value} (T : TypeId) {lit : Bool} {sz cap : Nat} (hsz : 0 < sz) (hn : F.length ≤ cap * sz) (hcap : cap * sz ≤ c.size)
    (hp : lit = false → ∀ x ∈ F, plainV x = true)
    (hd : ∀ (q : Nat) (x : SV), F[q]? = some x → ∃ v, c[q]? = some v ∧ den ρ x v) :
    Rel P N W0 (upd ρ l.length [⟨some ⟨W.heap.size, 0, none⟩, F.length, cap⟩]) (l ++ [.r false lit (.l 0) sz F]) (W.alloc (.cells c T)) := by
  refine h.push (Below.allocW h _) (by simp) (fun i hi => heap_old hi) ?_ ⟨hsz, ?_, hp, ?_⟩
  · intro vw hv a ha
    simp only [List.mem_singleton] at hv
    subst hv
    simp at ha; subst ha; simp
  · intro vw hv
    rw [upd_same, List.mem_singleton] at hv
    subst hv
    refine ⟨Nat.le_refl _, by simp, fun q x _ hx => ?_⟩
    obtain ⟨v, hv, d⟩ := hd q x hx
    exact ⟨_, v, rfl, by rw [Nat.zero_add, cell_new]; exact hv, den_le (le_upd (m := l.length) (by rw [h.out _ (Nat.le_refl _)]; simp)) h.out x v d⟩
  · intro _
    rw [upd_same]
    refine ⟨_, List.mem_singleton.2 rfl, rfl, ?_, hn, ?_⟩
    · intro a ha
      simp at ha; subst ha
      exact ⟨h.hN, c, T, (0, 0), heap_new, by simpa using hcap, fun q _ => frozen_new, .inl rfl⟩
    · intro vw hv
      rw [List.mem_singleton] at hv
      subst hv
      exact .inl ⟨rfl, rfl⟩

theorem le_new (h : Rel P N W0 ρ l W) (vws : List View) : Le l.length ρ (upd ρ l.length vws) := le_upd (by rw [h.out _ (Nat.le_refl _)]; simp)

/-- A draw of the tape turns nothing. -/
theorem Rel.drew (h : Rel P N W0 ρ l W) : Rel P N W0 ρ l { W with drawn := W.drawn + 1 } := h.later ⟨rfl, rfl, rfl, Nat.le_refl _, fun _ _ => rfl⟩

/-! ### Reading -/
theorem run_load {a : Addr} {v : Value} (h : W.cell? a = some v) : (load a).run P W = .ok v W := by
  simp [load, Sem.run, h]

theorem addr_add {b o q : Nat} : (⟨b, o, none⟩ : Addr).add q = ⟨b, o + q, none⟩ := by
  simp only [Addr.add]
  split
  · rename_i h; subst h; rfl
  · rfl

/-- The cells of a stretch that is known. -/
theorem run_loadCells_at {b o n : Nat} {xs : List SV} (hlen : xs.length = n) (h : ∀ (q : Nat) (x : SV), xs[q]? = some x → ∃ v, W.cell? ⟨b, o + q, none⟩ = some v ∧ den ρ x v) :
    ∃ us : Array Value, (loadCells ⟨b, o, none⟩ n).run P W = .ok us W ∧ denL ρ xs us.toList := by
  have hc : ∀ q, q < n → ∃ v, W.cell? ⟨b, o + q, none⟩ = some v := fun q hq => by
    obtain ⟨v, e, _⟩ := h q xs[q] (List.getElem?_eq_getElem (by omega))
    exact ⟨v, e⟩
  refine ⟨((List.range n).map fun q => (W.cell? ⟨b, o + q, none⟩).getD undef).toArray, ?_, ?_⟩
  · rw [run_loadCells (P := P) (w := W) ⟨b, o, none⟩ n (fun q => (W.cell? ⟨b, o + q, none⟩).getD undef) (fun j hj => by
      rw [addr_add]
      obtain ⟨v, e⟩ := hc j hj
      rw [e]; rfl)]
  · refine denL_of_get (by simp [hlen]) fun q x hx => ?_
    obtain ⟨v, e, d⟩ := h q x hx
    have hq : q < n := by
      have := (List.getElem?_eq_some_iff.1 hx).1
      omega
    exact ⟨v, by simp [hq, e], d⟩

theorem run_loadVar {t : TypeId} {agg : Bool} {n b o : Nat} {xs : List SV} {sv : SV} (ha : aggOf P t = some agg) (hn : szOf P t = some n) (hlen : xs.length = n)
    (h : ∀ (q : Nat) (x : SV), xs[q]? = some x → ∃ v, W.cell? ⟨b, o + q, none⟩ = some v ∧ den ρ x v) (hm : mkv agg xs = some sv) :
    ∃ v, (loadVar t ⟨b, o, none⟩).run P W = .ok v W ∧ den ρ sv v := by
  cases agg with
  | true =>
    simp only [mkv, Option.some.injEq] at hm
    subst hm
    obtain ⟨us, e, d⟩ := run_loadCells_at (P := P) hlen h
    exact ⟨.agg us, by simp [loadVar, run_isAgg ha, run_sizeOf hn, e], by simp only [den]; exact ⟨us, rfl, d⟩⟩
  | false =>
    match xs, hm with
    | [x], hm =>
      simp only [mkv, Option.some.injEq] at hm
      subst hm
      obtain ⟨v, e, d⟩ := h 0 x (by simp)
      exact ⟨v, by simpa [loadVar, run_isAgg ha] using run_load (P := P) e, d⟩

/-! ### Writing -/
theorem setO_size {r : Nat} {o : Obj} : (setO W r o).heap.size = W.heap.size := by simp [setO]
theorem setO_other {r i : Nat} {o : Obj} (h : i ≠ r) : (setO W r o).heap[i]? = W.heap[i]? := by
  simp [setO, Ne.symm h]
theorem setO_same {r : Nat} {o : Obj} (h : r < W.heap.size) : (setO W r o).heap[r]? = some o := by
  simp [setO, h]
theorem setO_setO {r : Nat} {o o' : Obj} : setO (setO W r o) r o' = setO W r o' := by
  simp only [setO]
  congr 1
  apply Array.ext_getElem?
  intro i
  simp only [Array.getElem?_setIfInBounds, Array.size_setIfInBounds]
  split <;> rfl
theorem lt_of_heap {r : Nat} {o : Obj} (h : W.heap[r]? = some o) : r < W.heap.size := (Array.getElem?_eq_some_iff.1 h).1

/-- The array 'c' with 'vs' from o on. -/
def splice (c : Array Value) (o : Nat) : List Value → Array Value
  | [] => c
  | v :: vs => splice (c.setIfInBounds o v) (o + 1) vs

theorem splice_size : ∀ (vs : List Value) (c : Array Value) (o : Nat), (splice c o vs).size = c.size
  | [], _, _ => rfl
  | v :: vs, c, o => by rw [splice, splice_size vs]; simp
theorem splice_get : ∀ (vs : List Value) (c : Array Value) (o q : Nat), o + vs.length ≤ c.size →
    (splice c o vs)[q]? = if o ≤ q ∧ q < o + vs.length then vs[q - o]? else c[q]?
  | [], c, o, q, _ => by simp [splice]; omega
  | v :: vs, c, o, q, h => by
    simp only [List.length_cons] at h
    rw [splice, splice_get vs _ _ q (by simp; omega)]
    by_cases h1 : q = o
    · subst h1
      have : q < c.size := by omega
      rw [if_neg (by omega), if_pos (by simp), Array.getElem?_setIfInBounds]
      simp [this]
    · by_cases h2 : o + 1 ≤ q ∧ q < o + 1 + vs.length
      · rw [if_pos h2, if_pos (by simp; omega)]
        obtain ⟨j, rfl⟩ : ∃ j, q = o + 1 + j := ⟨q - (o + 1), by omega⟩
        simp [show o + 1 + j - o = j + 1 by omega]
      · rw [if_neg h2, if_neg (by simp; omega), Array.getElem?_setIfInBounds, if_neg (Ne.symm h1)]

theorem setCell_eq {b o : Nat} {v : Value} {c : Array Value} {e : TypeId} {fz : Nat × Nat} (h : W.heap[b]? = some (.cells c e fz)) :
    W.setCell ⟨b, o, none⟩ v = setO W b (.cells (c.setIfInBounds o v) e fz) := by
  simp only [World.setCell, setO]
  congr 1
  apply Array.ext_getElem?
  intro i
  rw [Array.getElem?_modify, Array.getElem?_setIfInBounds]
  split
  · rename_i h1
    subst h1
    rw [h]
    simp [lt_of_heap h]
  · rfl

theorem frozen_setO {b q : Nat} {c c' : Array Value} {e : TypeId} {fz : Nat × Nat} (h : W.heap[b]? = some (.cells c e fz)) :
    (setO W b (.cells c' e fz)).frozen? ⟨b, q, none⟩ = W.frozen? ⟨b, q, none⟩ := by
  simp [World.frozen?, setO_same (lt_of_heap h), h]

theorem run_storeCells_at {b : Nat} {e : TypeId} {fz : Nat × Nat} : ∀ (vs : List Value) (o i : Nat) (c : Array Value) (W : World), W.heap[b]? = some (.cells c e fz) →
    o + i + vs.length ≤ c.size → (∀ q, q < c.size → W.frozen? ⟨b, q, none⟩ = false) → (∀ v ∈ vs, oneC v = true) →
    (storeCells ⟨b, o, none⟩ vs i).run P W = .ok () (setO W b (.cells (splice c (o + i) vs) e fz))
  | [], o, i, c, W, h, _, _, _ => by
    have : setO W b (.cells c e fz) = W := by
      simp only [setO]
      have hh : W.heap.setIfInBounds b (.cells c e fz) = W.heap := by
        apply Array.ext_getElem?
        intro j
        rw [Array.getElem?_setIfInBounds]
        split
        · rename_i h1; subst h1; rw [h]; simp [lt_of_heap h]
        · rfl
      rw [hh]
    simp [storeCells, splice, this, pure]
  | v :: vs, o, i, c, W, h, hl, hf, h1 => by
    simp only [List.length_cons] at hl
    have hv := h1 v (by simp)
    have hcell : ∃ u, W.cell? ⟨b, o + i, none⟩ = some u := by
      simp only [World.cell?, h]
      exact ⟨c[o + i]'(by omega), by simp⟩
    obtain ⟨u, hu⟩ := hcell
    have hst : (store (⟨b, o, none⟩ : Addr) v).run P W = (store (⟨b, o, none⟩ : Addr) v).run P W := rfl
    clear hst
    have hs : (store ((⟨b, o, none⟩ : Addr).add i) v).run P W = .ok () (setO W b (.cells (c.setIfInBounds (o + i) v) e fz)) := by
      rw [addr_add, ← setCell_eq h]
      cases v <;> first | (simp [oneC] at hv; done) | simp [store, Sem.run, hu, hf (o + i) (by omega)]
    have ih := run_storeCells_at vs o (i + 1) (c.setIfInBounds (o + i) v) (setO W b (.cells (c.setIfInBounds (o + i) v) e fz)) (setO_same (lt_of_heap h)) (by simp; omega)
      (fun q hq => by rw [frozen_setO h]; exact hf q (by simpa using hq)) (fun u hu => h1 u (by simp [hu]))
    rw [storeCells]
    simp only [Sem.run_bind, hs, Result.andThen_ok, ih, splice, setO_setO]
    rfl

theorem repl_length : ∀ (ws cs : List SV) (o : Nat), (repl cs o ws).length = cs.length
  | [], cs, _ => by simp [repl]
  | w :: ws, cs, o => by rw [repl, repl_length ws]; simp [put_eq]
theorem repl_get : ∀ (ws cs : List SV) (o q : Nat), o + ws.length ≤ cs.length →
    (repl cs o ws)[q]? = if o ≤ q ∧ q < o + ws.length then ws[q - o]? else cs[q]?
  | [], cs, o, q, _ => by simp [repl]; omega
  | w :: ws, cs, o, q, h => by
    simp only [List.length_cons] at h
    rw [repl, repl_get ws _ _ q (by simp [put_eq]; omega), put_eq]
    by_cases h1 : q = o
    · subst h1
      rw [if_neg (by omega), if_pos (by simp)]
      simp [show q < cs.length by omega]
    · by_cases h2 : o + 1 ≤ q ∧ q < o + 1 + ws.length
      · rw [if_pos h2, if_pos (by simp; omega)]
        obtain ⟨j, rfl⟩ : ∃ j, q = o + 1 + j := ⟨q - (o + 1), by omega⟩
        simp [show o + 1 + j - o = j + 1 by omega]
      · rw [if_neg h2, if_neg (by simp; omega), List.getElem?_set_ne (Ne.symm h1)]

theorem den_oneC {x : SV} {v : Value} (hs : scalar x = true) (hd : den ρ x v) : oneC v = true := by
  have : cellsOf x = some [x] ∨ cellsOf x = none := by cases x <;> simp [cellsOf, scalar] at *
  rcases this with h | h
  · have := cells_ok h hd
    cases v <;> simp [oneC]
    · simp only [Value.cells] at this
      cases x <;> simp [scalar] at hs <;> simp [den] at hd
      case sl k sz off ln cap =>
        obtain ⟨_, _, vw, _, _, hsv⟩ := hd
        unfold SlVal at hsv
        split at hsv
        · obtain ⟨_, _, a', e⟩ := hsv; cases e
        · rcases hsv with ⟨c, e, _⟩ | ⟨_, ⟨a', e⟩, _⟩ <;> cases e
      case re u => obtain ⟨rfl, h1⟩ := hd; simp [oneC] at h1
    · cases x <;> simp [scalar] at hs <;> simp [den] at hd
      case sl k sz off ln cap =>
        obtain ⟨_, _, vw, _, _, hsv⟩ := hd
        unfold SlVal at hsv
        split at hsv
        · obtain ⟨_, _, a', e⟩ := hsv; cases e
        · rcases hsv with ⟨c, e, _⟩ | ⟨_, ⟨a', e⟩, _⟩ <;> cases e
      case re u => obtain ⟨rfl, h1⟩ := hd; simp [oneC] at h1
  · cases x <;> simp [cellsOf, scalar] at *

theorem scalars_mem : ∀ {ws : List SV}, scalars ws = true → ∀ x ∈ ws, scalar x = true
  | [], _, _, h => by cases h
  | w :: ws, h, x, hx => by
    simp only [scalars, Bool.and_eq_true] at h
    rcases List.mem_cons.1 hx with rfl | hx
    · exact h.1
    · exact scalars_mem h.2 x hx

theorem denL_oneC {ws : List SV} {us : List Value} (hs : scalars ws = true) (hd : denL ρ ws us) : ∀ v ∈ us, oneC v = true := by
  intro v hv
  obtain ⟨q, hq, rfl⟩ := List.getElem_of_mem hv
  have hl := denL_length hd
  obtain ⟨v', e, d⟩ := denL_get q ws[q] hd (List.getElem?_eq_getElem (by omega))
  rw [List.getElem?_eq_getElem hq] at e
  simp at e; subst e
  exact den_oneC (scalars_mem hs _ (List.getElem_mem _)) d

/-- A store into a variable. -/
theorem Rel.storeC (h : Rel P N W0 ρ l W) {k o : Nat} {cs ws : List SV} {us : List Value} (hk : l[k]? = some (.c cs)) (ho : o + ws.length ≤ cs.length)
    (hs : scalars ws = true) (hd : denL ρ ws us) :
    ∃ b, ρ k = [⟨some ⟨b, 0, none⟩, cs.length, cs.length⟩] ∧ ∃ W', (storeCells ⟨b, o, none⟩ us).run P W = .ok () W' ∧ Rel P N W0 ρ (l.set k (.c (repl cs o ws))) W' := by
  obtain ⟨b, e, hv, hown⟩ := h.blk k _ hk
  obtain ⟨hNb, c, T, fz, hh, hcs, hf, hfz⟩ := hown ⟨b, 0, none⟩ rfl
  simp only [Nat.zero_add] at hcs
  have hul := denL_length hd
  have hrun := run_storeCells_at (P := P) (b := b) us o 0 c W hh (by omega) hf (denL_oneC hs hd)
  simp only [Nat.add_zero] at hrun
  refine ⟨b, e, _, hrun, ?_⟩
  have hup : upd ρ k (ρ k) = ρ := by
    funext j
    by_cases hj : j = k
    · subst hj; exact upd_same
    · exact upd_other hj
  have hlt := lt_of_heap hh
  rw [← hup]
  refine h.turn hk rfl ?_ (by rw [setO_size]; exact Nat.le_refl _) ?_ (fun _ hv => hv) ?_ ?_
  · exact h.below.trans ⟨rfl, rfl, rfl, by rw [setO_size]; exact Nat.le_refl _, fun j hj => setO_other (by simp at hNb; omega)⟩
  · intro i _ hi
    exact setO_other (fun hib => hi _ (by rw [e]; exact List.mem_singleton.2 rfl) _ rfl hib.symm)
  · intro vw hvw a ha
    exact ⟨by rw [setO_size]; exact h.ids k vw a hvw ha, .inr ⟨vw, hvw, a, ha, rfl⟩⟩
  · rw [hup]
    refine ⟨b, by rw [repl_length]; exact e, ?_, ?_⟩
    · rw [repl_length]
      refine ⟨by rw [repl_length]; exact Nat.le_refl _, by simp, fun q x hq hx => ?_⟩
      rw [repl_get ws cs o q ho] at hx
      have hcell : (setO W b (.cells (splice c o us) T fz)).cell? ⟨b, q, none⟩ = (splice c o us)[q]? := by
        simp [World.cell?, setO_same hlt]
      refine ⟨⟨b, 0, none⟩, ?_⟩
      rw [Nat.zero_add, hcell, splice_get us c o q (by omega)]
      by_cases hr : o ≤ q ∧ q < o + ws.length
      · rw [if_pos hr] at hx
        rw [if_pos (by omega)]
        obtain ⟨v, hv', d⟩ := denL_get _ x hd hx
        exact ⟨v, rfl, hv', d⟩
      · rw [if_neg hr] at hx
        rw [if_neg (by omega)]
        obtain ⟨a, v, ea, hcv, d⟩ := hv.2.2 q x (by simpa using hq) hx
        simp at ea; subst ea
        simp [World.cell?, hh] at hcv
        exact ⟨v, rfl, hcv, d⟩
    · rw [repl_length]
      intro a ha
      simp at ha; subst ha
      exact ⟨hNb, splice c o us, T, fz, setO_same hlt, by rw [splice_size]; simpa using hcs, (fun q hq => by rw [frozen_setO hh]; exact hf q (by rw [splice_size] at hq; exact hq)), by rw [splice_size]; exact hfz⟩
end
end Cz
