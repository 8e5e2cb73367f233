/- The engine, part D: how symbolic blocks lie in a real world; what keeps them. No condition. -/
import Derived.Test.YtjnpmipoenijdaaCzC
import Derived.Laws.World
namespace Cz
open Go Go.RowKit
set_option linter.unusedSimpArgs false
set_option linter.unusedVariables false

def EnvOk (ρ : Nms) (vs : List SV) (tmps : Array Value) : Prop :=
  ∀ (q : Nat) (x : SV), vs[q]? = some x → ∃ v, tmps[q]? = some v ∧ den ρ x v

def ViewOk (W : World) (ρ : Nms) (F : List SV) (vw : View) : Prop :=
  vw.n ≤ F.length ∧ (vw.base = none → vw.n = 0 ∧ vw.cap = 0) ∧
    ∀ (q : Nat) (x : SV), q < vw.n → F[q]? = some x → ∃ a v, vw.base = some a ∧ W.cell? ⟨a.block, a.off + q, none⟩ = some v ∧ den ρ x v

def OwnOk (N : Nat) (W : World) (vw : View) (cells : Nat) : Prop :=
  ∀ a, vw.base = some a → N ≤ a.block ∧ ∃ c e fz, W.heap[a.block]? = some (.cells c e fz) ∧ a.off + cells ≤ c.size ∧
    (∀ q, q < c.size → W.frozen? ⟨a.block, q, none⟩ = false) ∧ (fz.1 = fz.2 ∨ c.size ≤ fz.1)

def MapRel (ρ : Nms) : List (SV × SV) → List MapEntry → Prop
  | [], [] => True
  | (k, v) :: r, e :: es => den ρ k e.key ∧ den ρ v e.val ∧ MapRel ρ r es
  | _, _ => False

def PhOk (ph : Ph) (L : Loop) : Prop :=
  match ph with
  | .ready => L.state = .ready ∧ L.pending = none
  | .busy => L.state = .busy ∧ L.pending = none
  | .done e => L.state = .done ∧ L.pending = e.jump

/-- A block of one name, of an object other than cells. -/
def One (ρ : Nms) (k N b : Nat) : Prop := ρ k = [⟨some ⟨b, 0, none⟩, 0, 0⟩] ∧ N ≤ b

def BlkOk (P : Program) (N : Nat) (W : World) (ρ : Nms) (k : Nat) : Blk → Prop
  | .c cs => ∃ b, ρ k = [⟨some ⟨b, 0, none⟩, cs.length, cs.length⟩] ∧ ViewOk W ρ cs ⟨some ⟨b, 0, none⟩, cs.length, cs.length⟩ ∧ OwnOk N W ⟨some ⟨b, 0, none⟩, cs.length, cs.length⟩ cs.length
  | .r ro lit st sz F => 0 < sz ∧ (∀ vw ∈ ρ k, ViewOk W ρ F vw) ∧ (lit = false → ∀ x ∈ F, plainV x = true) ∧
      (ro = false → ∃ cur ∈ ρ k, cur.n = F.length ∧ OwnOk N W cur (cur.cap * sz) ∧ cur.n ≤ cur.cap * sz ∧
        ∀ vw ∈ ρ k, (vw.base = cur.base ∧ vw.cap = cur.cap) ∨ (vw.n ≤ st.v.toNat ∧ vw.n < F.length ∧ ∀ a a', vw.base = some a → cur.base = some a' → a.block ≠ a'.block))
  | .m es => ∃ b es' clock, One ρ k N b ∧ W.heap[b]? = some (.map es' clock) ∧ MapRel ρ es es'.toList
  | .df => ∃ b, One ρ k N b ∧ W.heap[b]? = some (.deferred (some []))
  | .lp vs ps asg body ph => ∃ b L, One ρ k N b ∧ W.heap[b]? = some (.loop L) ∧ L.params.toList = ps ∧ (∃ kl, conv P kl L.assign = some asg) ∧ (∃ kl, conv P kl L.body = some body) ∧
      EnvOk ρ vs L.tmps ∧ PhOk ph L
  | .dead => True

def Blk.wr : Blk → Bool
  | .r true _ _ _ _ => false
  | .dead => false
  | _ => true

structure Rel (P : Program) (N : Nat) (W0 : World) (ρ : Nms) (l : List Blk) (W : World) : Prop where
  below : Below N W0 W
  le : N ≤ W0.heap.size
  out : ∀ k, l.length ≤ k → ρ k = []
  ids : ∀ k vw a, vw ∈ ρ k → vw.base = some a → a.block < W.heap.size
  blk : ∀ k B, l[k]? = some B → BlkOk P N W ρ k B
  sep : ∀ k k' B vw vw' a a', l[k]? = some B → B.wr = true → k ≠ k' → vw ∈ ρ k → vw' ∈ ρ k' → vw.base = some a → vw'.base = some a' → a.block ≠ a'.block
  own : ∀ k B vw a, l[k]? = some B → B.wr = true → vw ∈ ρ k → vw.base = some a → N ≤ a.block

theorem Rel.hN {P : Program} {N : Nat} {W0 W : World} {ρ : Nms} {l : List Blk} (h : Rel P N W0 ρ l W) : N ≤ W.heap.size :=
  Nat.le_trans h.le h.below.size

def MkOk (ρ : Nms) : List Nat → List Deferred → Prop
  | [], [] => True
  | k :: ks, d :: ds => (∃ vw ∈ ρ k, ∃ b, vw.base = some ⟨b, 0, none⟩ ∧ d = mark b) ∧ MkOk ρ ks ds
  | _, _ => False

/-! ### What keeps -/
theorem EnvOk.le {m : Nat} {ρ ρ' : Nms} {vs : List SV} {t : Array Value} (h : EnvOk ρ vs t) (hl : Le m ρ ρ') (ho : ∀ k, m ≤ k → ρ k = []) : EnvOk ρ' vs t :=
  fun q x hx => let ⟨v, e, d⟩ := h q x hx; ⟨v, e, den_le hl ho x v d⟩

theorem cell_congr {W W' : World} {a : Addr} (h : W'.heap[a.block]? = W.heap[a.block]?) : W'.cell? a = W.cell? a := by
  simp only [World.cell?, h]
theorem frozen_congr {W W' : World} {a : Addr} (h : W'.heap[a.block]? = W.heap[a.block]?) : W'.frozen? a = W.frozen? a := by
  simp only [World.frozen?, h]

theorem ViewOk.keep {m : Nat} {W W' : World} {ρ ρ' : Nms} {F : List SV} {vw : View} (h : ViewOk W ρ F vw) (hl : Le m ρ ρ') (ho : ∀ k, m ≤ k → ρ k = [])
    (hw : ∀ a, vw.base = some a → W'.heap[a.block]? = W.heap[a.block]?) : ViewOk W' ρ' F vw := by
  refine ⟨h.1, h.2.1, fun q x hq hx => ?_⟩
  obtain ⟨a, v, e, c, d⟩ := h.2.2 q x hq hx
  exact ⟨a, v, e, (cell_congr (a := ⟨a.block, a.off + q, none⟩) (hw a e)).trans c, den_le hl ho x v d⟩

theorem OwnOk.keep {N : Nat} {W W' : World} {vw : View} {n : Nat} (h : OwnOk N W vw n) (hw : ∀ a, vw.base = some a → W'.heap[a.block]? = W.heap[a.block]?) : OwnOk N W' vw n := by
  intro a ha
  obtain ⟨h1, c, e, fz, h2, h3, h4, h5⟩ := h a ha
  exact ⟨h1, c, e, fz, by rw [hw a ha]; exact h2, h3, fun q hq => (frozen_congr (a := ⟨a.block, q, none⟩) (hw a ha)).trans (h4 q hq), h5⟩

theorem MapRel.le {m : Nat} {ρ ρ' : Nms} (hl : Le m ρ ρ') (ho : ∀ k, m ≤ k → ρ k = []) : ∀ (es : List (SV × SV)) (es' : List MapEntry), MapRel ρ es es' → MapRel ρ' es es'
  | [], [], h => h
  | [], _ :: _, h => h
  | (_, _) :: _, [], h => h
  | (k, v) :: r, _ :: es, h => ⟨den_le hl ho k _ h.1, den_le hl ho v _ h.2.1, MapRel.le hl ho r es h.2.2⟩

theorem BlkOk.keep {P : Program} {N m : Nat} {W W' : World} {ρ ρ' : Nms} {k : Nat} {B : Blk} (h : BlkOk P N W ρ k B) (hl : Le m ρ ρ') (ho : ∀ k, m ≤ k → ρ k = [])
    (hk : ρ' k = ρ k) (hw : ∀ vw ∈ ρ k, ∀ a, vw.base = some a → W'.heap[a.block]? = W.heap[a.block]?) : BlkOk P N W' ρ' k B := by
  cases B with
  | c cs =>
    obtain ⟨b, e, hv, hown⟩ := h
    have hw' := hw _ (by rw [e]; exact List.mem_singleton.2 rfl)
    exact ⟨b, hk.trans e, hv.keep hl ho hw', hown.keep hw'⟩
  | r ro lit st sz F =>
    obtain ⟨h0, hv, hp, hown⟩ := h
    refine ⟨h0, ?_, hp, ?_⟩
    · rw [hk]; exact fun vw hm => (hv vw hm).keep hl ho (hw vw hm)
    · intro hr
      obtain ⟨cur, hc, hn, h1, h2, h3⟩ := hown hr
      rw [hk]
      exact ⟨cur, hc, hn, h1.keep (hw cur hc), h2, h3⟩
  | m es =>
    obtain ⟨b, es', clock, ⟨e, hN⟩, hh, hm⟩ := h
    exact ⟨b, es', clock, ⟨hk.trans e, hN⟩, (hw _ (by rw [e]; exact List.mem_singleton.2 rfl) _ rfl).trans hh, MapRel.le hl ho _ _ hm⟩
  | df =>
    obtain ⟨b, ⟨e, hN⟩, hh⟩ := h
    exact ⟨b, ⟨hk.trans e, hN⟩, (hw _ (by rw [e]; exact List.mem_singleton.2 rfl) _ rfl).trans hh⟩
  | lp vs ps asg body ph =>
    obtain ⟨b, L, ⟨e, hN⟩, hh, h1, h2, h3, h4, h5⟩ := h
    exact ⟨b, L, ⟨hk.trans e, hN⟩, (hw _ (by rw [e]; exact List.mem_singleton.2 rfl) _ rfl).trans hh, h1, h2, h3, h4.le hl ho, h5⟩
  | dead => trivial

theorem MkOk.le {m : Nat} {ρ ρ' : Nms} (hl : Le m ρ ρ') (ho : ∀ k, m ≤ k → ρ k = []) : ∀ (ks : List Nat) (ds : List Deferred), MkOk ρ ks ds → MkOk ρ' ks ds
  | [], [], h => h
  | [], _ :: _, h => h
  | _ :: _, [], h => h
  | _ :: ks, _ :: ds, ⟨⟨vw, hv, r⟩, h⟩ => ⟨⟨vw, lew hl ho hv, r⟩, MkOk.le hl ho ks ds h⟩

def upd (ρ : Nms) (k : Nat) (vws : List View) : Nms := fun j => if j = k then vws else ρ j
theorem upd_same {ρ : Nms} {k : Nat} {vws : List View} : upd ρ k vws k = vws := by simp [upd]
theorem upd_other {ρ : Nms} {k j : Nat} {vws : List View} (h : j ≠ k) : upd ρ k vws j = ρ j := by simp [upd, h]
theorem le_upd {ρ : Nms} {k m : Nat} {vws : List View} (h : ∀ vw ∈ ρ k, vw ∈ vws) : Le m ρ (upd ρ k vws) := by
  intro j _ vw hv
  by_cases hj : j = k
  · subst hj; rw [upd_same]; exact h vw hv
  · rw [upd_other hj]; exact hv

/-- A new block. -/
theorem Rel.push {P : Program} {N : Nat} {W0 W W' : World} {ρ : Nms} {l : List Blk} (h : Rel P N W0 ρ l W) {B : Blk} {vws : List View} (hW : Below N W0 W')
    (hsz : W.heap.size ≤ W'.heap.size) (hold : ∀ i, i < W.heap.size → W'.heap[i]? = W.heap[i]?)
    (hids : ∀ vw ∈ vws, ∀ a, vw.base = some a → W.heap.size ≤ a.block ∧ a.block < W'.heap.size)
    (hB : BlkOk P N W' (upd ρ l.length vws) l.length B) : Rel P N W0 (upd ρ l.length vws) (l ++ [B]) W' := by
  have hl : Le l.length ρ (upd ρ l.length vws) := le_upd (by rw [h.out _ (Nat.le_refl _)]; simp)
  refine ⟨hW, h.le, ?_, ?_, ?_, ?_, ?_⟩
  · intro k hk
    simp at hk
    rw [upd_other (by omega)]; exact h.out k (by omega)
  · intro k vw a hv ha
    by_cases hk : k = l.length
    · subst hk; rw [upd_same] at hv; exact (hids vw hv a ha).2
    · rw [upd_other hk] at hv; exact Nat.lt_of_lt_of_le (h.ids k vw a hv ha) hsz
  · intro k C hC
    by_cases hk : k = l.length
    · subst hk; simp at hC; subst hC; exact hB
    · have hlt : k < l.length := by
        have := (List.getElem?_eq_some_iff.1 hC).1
        simp at this; omega
      rw [List.getElem?_append_left hlt] at hC
      exact (h.blk k C hC).keep hl h.out (upd_other hk) fun vw hv a ha => hold _ (h.ids k vw a hv ha)
  · intro k k' C vw vw' a a' hC hwr hne hv hv' ha ha'
    by_cases hk : k = l.length
    · subst hk
      rw [upd_same] at hv
      rw [upd_other (Ne.symm hne)] at hv'
      have := (hids vw hv a ha).1
      have := h.ids k' vw' a' hv' ha'
      omega
    · have hlt : k < l.length := by
        have := (List.getElem?_eq_some_iff.1 hC).1
        simp at this; omega
      rw [List.getElem?_append_left hlt] at hC
      rw [upd_other hk] at hv
      by_cases hk' : k' = l.length
      · subst hk'
        rw [upd_same] at hv'
        have := (hids vw' hv' a' ha').1
        have := h.ids k vw a hv ha
        omega
      · rw [upd_other hk'] at hv'
        exact h.sep k k' C vw vw' a a' hC hwr hne hv hv' ha ha'
  · intro k C vw a hC hwr hv ha
    by_cases hk : k = l.length
    · subst hk
      rw [upd_same] at hv
      exact Nat.le_trans h.hN (hids vw hv a ha).1
    · have hlt : k < l.length := by
        have := (List.getElem?_eq_some_iff.1 hC).1
        simp at this; omega
      rw [List.getElem?_append_left hlt] at hC
      rw [upd_other hk] at hv
      exact h.own k C vw a hC hwr hv ha

/-- A block turned in place: block k's own real blocks (and new ones) may have turned. -/
theorem Rel.turn {P : Program} {N : Nat} {W0 W W' : World} {ρ : Nms} {l : List Blk} (h : Rel P N W0 ρ l W) {k : Nat} {A B : Blk} {vws : List View}
    (hk : l[k]? = some A) (hA : A.wr = true) (hW : Below N W0 W') (hsz : W.heap.size ≤ W'.heap.size)
    (hold : ∀ i, i < W.heap.size → (∀ vw ∈ ρ k, ∀ a, vw.base = some a → a.block ≠ i) → W'.heap[i]? = W.heap[i]?)
    (hsub : ∀ vw ∈ ρ k, vw ∈ vws)
    (hids : ∀ vw ∈ vws, ∀ a, vw.base = some a → a.block < W'.heap.size ∧ (W.heap.size ≤ a.block ∨ ∃ vw' ∈ ρ k, ∃ a', vw'.base = some a' ∧ a'.block = a.block))
    (hB : BlkOk P N W' (upd ρ k vws) k B) : Rel P N W0 (upd ρ k vws) (l.set k B) W' := by
  have hlt : k < l.length := (List.getElem?_eq_some_iff.1 hk).1
  have hl : Le l.length ρ (upd ρ k vws) := le_upd hsub
  have other : ∀ j vw a, j ≠ k → vw ∈ ρ j → vw.base = some a → ∀ vw' ∈ ρ k, ∀ a', vw'.base = some a' → a'.block ≠ a.block :=
    fun j vw a hj hv ha vw' hv' a' ha' => h.sep k j A vw' vw a' a hk hA (Ne.symm hj) hv' hv ha' ha
  refine ⟨hW, h.le, ?_, ?_, ?_, ?_, ?_⟩
  · intro j hj
    simp at hj
    rw [upd_other (by omega)]; exact h.out j hj
  · intro j vw a hv ha
    by_cases hj : j = k
    · subst hj; rw [upd_same] at hv; exact (hids vw hv a ha).1
    · rw [upd_other hj] at hv; exact Nat.lt_of_lt_of_le (h.ids j vw a hv ha) hsz
  · intro j C hC
    by_cases hj : j = k
    · subst hj
      rw [List.getElem?_set_self hlt] at hC
      simp at hC; subst hC; exact hB
    · rw [List.getElem?_set_ne (Ne.symm hj)] at hC
      exact (h.blk j C hC).keep hl h.out (upd_other hj) fun vw hv a ha => hold _ (h.ids j vw a hv ha) (other j vw a hj hv ha)
  · intro j j' C vw vw' a a' hC hwr hne hv hv' ha ha'
    have key : ∀ j vw a, j ≠ k → vw ∈ ρ j → vw.base = some a → ∀ vw' ∈ vws, ∀ a', vw'.base = some a' → a'.block ≠ a.block := by
      intro j vw a hj hv ha vw' hv' a' ha'
      have h1 := h.ids j vw a hv ha
      rcases (hids vw' hv' a' ha').2 with h2 | ⟨vw2, hv2, a2, ha2, e⟩
      · omega
      · rw [← e]; exact other j vw a hj hv ha vw2 hv2 a2 ha2
    by_cases hj : j = k
    · subst hj
      rw [upd_same] at hv
      rw [upd_other (Ne.symm hne)] at hv'
      exact key j' vw' a' (Ne.symm hne) hv' ha' vw hv a ha
    · rw [upd_other hj] at hv
      rw [List.getElem?_set_ne (Ne.symm hj)] at hC
      by_cases hj' : j' = k
      · subst hj'
        rw [upd_same] at hv'
        exact fun e => key j vw a hj hv ha vw' hv' a' ha' e.symm
      · rw [upd_other hj'] at hv'
        exact h.sep j j' C vw vw' a a' hC hwr hne hv hv' ha ha'
  · intro j C vw a hC hwr hv ha
    by_cases hj : j = k
    · subst hj
      rw [upd_same] at hv
      rcases (hids vw hv a ha).2 with h2 | ⟨vw2, hv2, a2, ha2, e⟩
      · exact Nat.le_trans h.hN h2
      · rw [← e]; exact h.own j A vw2 a2 hk hA hv2 ha2
    · rw [List.getElem?_set_ne (Ne.symm hj)] at hC
      rw [upd_other hj] at hv
      exact h.own j C vw a hC hwr hv ha

/-- A call that left old memory alone. -/
theorem Rel.later {P : Program} {N : Nat} {W0 W W' : World} {ρ : Nms} {l : List Blk} (h : Rel P N W0 ρ l W) (hb : Below W.heap.size W W') : Rel P N W0 ρ l W' := by
  refine ⟨h.below.trans (hb.mono h.hN), h.le, h.out, fun k vw a hv ha => Nat.lt_of_lt_of_le (h.ids k vw a hv ha) hb.size, fun k B hB => ?_, h.sep, h.own⟩
  exact (h.blk k B hB).keep (Le.refl l.length ρ) h.out rfl fun vw hv a ha => hb.block _ (h.ids k vw a hv ha)
end Cz
