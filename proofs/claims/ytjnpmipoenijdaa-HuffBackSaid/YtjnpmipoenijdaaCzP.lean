/- The engine, part P: a function proved in a small heap is called in a greater one. No condition. -/
import Derived.Test.YtjnpmipoenijdaaCzO
namespace Cz
open Go Go.RowKit
set_option linter.unusedSimpArgs false
set_option linter.unusedVariables false

mutual
def ren (f : Nat → Nat) : SV → SV
  | .p k o => .p (f k) o
  | .pe k i sz j => .pe (f k) i sz j
  | .sl k sz off len cap => .sl (f k) sz off len cap
  | .ag cs => .ag (renL f cs)
  | .tp cs => .tp (renL f cs)
  | .fn g a c => .fn g (renL f a) (renL f c)
  | .yl k => .yl (f k)
  | .m k => .m (f k)
  | x => x
def renL (f : Nat → Nat) : List SV → List SV
  | [] => []
  | x :: xs => ren f x :: renL f xs
end
mutual
def refsB (ok : Nat → Bool) : SV → Bool
  | .p k _ | .pe k _ _ _ | .sl k _ _ _ _ | .yl k | .m k => ok k
  | .ag cs | .tp cs => refsBL ok cs
  | .fn _ a c => refsBL ok a && refsBL ok c
  | _ => true
def refsBL (ok : Nat → Bool) : List SV → Bool
  | [] => true
  | x :: xs => refsB ok x && refsBL ok xs
end

section
variable {ok : Nat → Bool} {ρ ρ' : Nms} {f : Nat → Nat}
mutual
theorem den_ren (h : ∀ k, ok k = true → ∀ vw ∈ ρ k, vw ∈ ρ' (f k)) : ∀ (x : SV) (v : Value), refsB ok x = true → den ρ x v → den ρ' (ren f x) v
  | .tt, _, _, d => d
  | .ff, _, _, d => d
  | .b _, _, _, d => d
  | .i _ _, _, _, d => d
  | .s _, _, _, d => d
  | .p k o, v, r, d => by
    simp only [den, ren, refsB] at d r ⊢
    obtain ⟨vw, hv, q⟩ := d
    exact ⟨vw, h k r vw hv, q⟩
  | .pe k i sz j, v, r, d => by
    simp only [den, ren, refsB] at d r ⊢
    obtain ⟨h0, vw, hv, q⟩ := d
    exact ⟨h0, vw, h k r vw hv, q⟩
  | .sl k sz off len cap, v, r, d => by
    simp only [den, ren, refsB] at d r ⊢
    obtain ⟨h0, h1, vw, hv, q⟩ := d
    exact ⟨h0, h1, vw, h k r vw hv, q⟩
  | .ag cs, v, r, d => by
    simp only [den, ren, refsB] at d r ⊢
    obtain ⟨vs, e, q⟩ := d
    exact ⟨vs, e, denL_ren h cs _ r q⟩
  | .tp cs, v, r, d => by
    simp only [den, ren, refsB] at d r ⊢
    obtain ⟨vs, e, q⟩ := d
    exact ⟨vs, e, denL_ren h cs _ r q⟩
  | .fn g a c, v, r, d => by
    simp only [den, ren, refsB, Bool.and_eq_true] at d r ⊢
    obtain ⟨as, cs, e, r1, r2⟩ := d
    exact ⟨as, cs, e, denL_ren h a _ r.1 r1, denL_ren h c _ r.2 r2⟩
  | .yl k, v, r, d => by
    simp only [den, ren, refsB] at d r ⊢
    obtain ⟨vw, hv, q⟩ := d
    exact ⟨vw, h k r vw hv, q⟩
  | .m k, v, r, d => by
    simp only [den, ren, refsB] at d r ⊢
    obtain ⟨vw, hv, q⟩ := d
    exact ⟨vw, h k r vw hv, q⟩
  | .re _, _, _, d => d
  | .un, _, _, d => d
  | .any, _, _, d => d
theorem denL_ren (h : ∀ k, ok k = true → ∀ vw ∈ ρ k, vw ∈ ρ' (f k)) : ∀ (xs : List SV) (vs : List Value), refsBL ok xs = true → denL ρ xs vs → denL ρ' (renL f xs) vs
  | [], [], _, d => d
  | [], _ :: _, _, d => by simp [denL] at d
  | _ :: _, [], _, d => by simp [denL] at d
  | x :: xs, v :: vs, r, d => by
    simp only [denL, renL, refsBL, Bool.and_eq_true] at d r ⊢
    exact ⟨den_ren h x v r.1 d.1, denL_ren h xs vs r.2 d.2⟩
end
mutual
theorem den_unren (h : ∀ k, ok k = true → ∀ vw ∈ ρ (f k), vw ∈ ρ' k) : ∀ (x : SV) (v : Value), refsB ok x = true → den ρ (ren f x) v → den ρ' x v
  | .tt, _, _, d => d
  | .ff, _, _, d => d
  | .b _, _, _, d => d
  | .i _ _, _, _, d => d
  | .s _, _, _, d => d
  | .p k o, v, r, d => by
    simp only [den, ren, refsB] at d r ⊢
    obtain ⟨vw, hv, q⟩ := d
    exact ⟨vw, h k r vw hv, q⟩
  | .pe k i sz j, v, r, d => by
    simp only [den, ren, refsB] at d r ⊢
    obtain ⟨h0, vw, hv, q⟩ := d
    exact ⟨h0, vw, h k r vw hv, q⟩
  | .sl k sz off len cap, v, r, d => by
    simp only [den, ren, refsB] at d r ⊢
    obtain ⟨h0, h1, vw, hv, q⟩ := d
    exact ⟨h0, h1, vw, h k r vw hv, q⟩
  | .ag cs, v, r, d => by
    simp only [den, ren, refsB] at d r ⊢
    obtain ⟨vs, e, q⟩ := d
    exact ⟨vs, e, denL_unren h cs _ r q⟩
  | .tp cs, v, r, d => by
    simp only [den, ren, refsB] at d r ⊢
    obtain ⟨vs, e, q⟩ := d
    exact ⟨vs, e, denL_unren h cs _ r q⟩
  | .fn g a c, v, r, d => by
    simp only [den, ren, refsB, Bool.and_eq_true] at d r ⊢
    obtain ⟨as, cs, e, r1, r2⟩ := d
    exact ⟨as, cs, e, denL_unren h a _ r.1 r1, denL_unren h c _ r.2 r2⟩
  | .yl k, v, r, d => by
    simp only [den, ren, refsB] at d r ⊢
    obtain ⟨vw, hv, q⟩ := d
    exact ⟨vw, h k r vw hv, q⟩
  | .m k, v, r, d => by
    simp only [den, ren, refsB] at d r ⊢
    obtain ⟨vw, hv, q⟩ := d
    exact ⟨vw, h k r vw hv, q⟩
  | .re _, _, _, d => d
  | .un, _, _, d => d
  | .any, _, _, d => d
theorem denL_unren (h : ∀ k, ok k = true → ∀ vw ∈ ρ (f k), vw ∈ ρ' k) : ∀ (xs : List SV) (vs : List Value), refsBL ok xs = true → denL ρ (renL f xs) vs → denL ρ' xs vs
  | [], [], _, d => d
  | [], _ :: _, _, d => by simp [denL, renL] at d
  | _ :: _, [], _, d => by simp [denL, renL] at d
  | x :: xs, v :: vs, r, d => by
    simp only [denL, renL, refsBL, Bool.and_eq_true] at d r ⊢
    exact ⟨den_unren h x v r.1 d.1, denL_unren h xs vs r.2 d.2⟩
end
end

theorem den_plain {ρ : Nms} (ρ' : Nms) {x : SV} {v : Value} (hp : plainV x = true) (hd : den ρ x v) : den ρ' x v := by
  cases x <;> simp [plainV] at hp <;> exact hd

theorem plains_mem' : ∀ {ws : List SV}, plains ws = true → ∀ x ∈ ws, plainV x = true
  | [], _, _, h => by cases h
  | w :: ws, h, x, hx => by
    simp only [plains, Bool.and_eq_true] at h
    rcases List.mem_cons.1 hx with rfl | hx
    · exact h.1
    · exact plains_mem' h.2 x hx

theorem ViewOk.plain {W : World} {ρ : Nms} (ρ' : Nms) {F : List SV} {vw : View} (hp : plains F = true) (h : ViewOk W ρ F vw) : ViewOk W ρ' F vw := by
  refine ⟨h.1, h.2.1, fun q x hq hx => ?_⟩
  obtain ⟨a, v, e, c, d⟩ := h.2.2 q x hq hx
  exact ⟨a, v, e, c, den_plain ρ' (plains_mem' hp x (List.mem_of_getElem? hx)) d⟩

mutual
theorem ren_noref (f : Nat → Nat) : ∀ (x : SV), refsB (fun _ => false) x = true → ren f x = x
  | .tt, _ => rfl
  | .ff, _ => rfl
  | .b _, _ => rfl
  | .i _ _, _ => rfl
  | .s _, _ => rfl
  | .p _ _, h => by simp [refsB] at h
  | .pe _ _ _ _, h => by simp [refsB] at h
  | .sl _ _ _ _ _, h => by simp [refsB] at h
  | .ag cs, h => by simp only [refsB] at h; simp only [ren, renL_noref f cs h]
  | .tp cs, h => by simp only [refsB] at h; simp only [ren, renL_noref f cs h]
  | .fn _ a c, h => by simp only [refsB, Bool.and_eq_true] at h; simp only [ren, renL_noref f a h.1, renL_noref f c h.2]
  | .yl _, h => by simp [refsB] at h
  | .m _, h => by simp [refsB] at h
  | .re _, _ => rfl
  | .un, _ => rfl
  | .any, _ => rfl
theorem renL_noref (f : Nat → Nat) : ∀ (xs : List SV), refsBL (fun _ => false) xs = true → renL f xs = xs
  | [], _ => rfl
  | x :: xs, h => by simp only [refsBL, Bool.and_eq_true] at h; simp only [renL, ren_noref f x h.1, renL_noref f xs h.2]
end
def norefM : List (SV × SV) → Bool
  | [] => true
  | (k, v) :: r => refsB (fun _ => false) k && refsB (fun _ => false) v && norefM r
def plainB : Blk → Bool
  | .r _ _ _ _ F => plains F
  | .c cs => plains cs
  | .m es => norefM es
  | _ => false
theorem den_noref {ρ : Nms} (ρ' : Nms) {x : SV} {v : Value} (hr : refsB (fun _ => false) x = true) (hd : den ρ x v) : den ρ' x v := by
  have := den_ren (ok := fun _ => false) (f := id) (ρ := ρ) (ρ' := ρ') (fun _ h => by cases h) x v hr hd
  rwa [ren_noref _ _ hr] at this
theorem MapRel.noref {ρ : Nms} (ρ' : Nms) : ∀ {es : List (SV × SV)} {es' : List MapEntry}, norefM es = true → MapRel ρ es es' → MapRel ρ' es es'
  | [], [], _, h => h
  | [], _ :: _, _, h => h
  | (_, _) :: _, [], _, h => h
  | (k, v) :: r, e :: es, hg, h => by
    simp only [norefM, Bool.and_eq_true] at hg
    exact ⟨den_noref ρ' hg.1.1 h.1, den_noref ρ' hg.1.2 h.2.1, MapRel.noref ρ' hg.2 h.2.2⟩

theorem OwnOk.lower {N M : Nat} {W : World} {vw : View} {n : Nat} (hM : M ≤ N) (h : OwnOk N W vw n) : OwnOk M W vw n :=
  fun a ha => let ⟨h1, r⟩ := h a ha; ⟨Nat.le_trans hM h1, r⟩

/-- A block that holds plain values alone, under another number. -/
theorem BlkOk.move {P : Program} {N M : Nat} {W : World} {ρ ρ' : Nms} {k j : Nat} {B : Blk} (h : BlkOk P N W ρ k B) (hp : plainB B = true) (hM : M ≤ N) (he : ρ' j = ρ k) : BlkOk P M W ρ' j B := by
  cases B <;> simp only [plainB, Bool.false_eq_true] at hp
  case c cs =>
    obtain ⟨b, e, hv, ho⟩ := h
    exact ⟨b, he.trans e, hv.plain ρ' hp, ho.lower hM⟩
  case r ro lit st sz F =>
    obtain ⟨h0, hv, hl, ho⟩ := h
    refine ⟨h0, ?_, hl, ?_⟩
    · rw [he]; exact fun vw hm => (hv vw hm).plain ρ' hp
    · intro hr
      obtain ⟨cur, hc, hn, h1, h2, h3⟩ := ho hr
      rw [he]
      exact ⟨cur, hc, hn, h1.lower hM, h2, h3⟩
  case m es =>
    obtain ⟨b, es', clock, ⟨e1, hN⟩, hh, hm⟩ := h
    exact ⟨b, es', clock, ⟨he.trans e1, Nat.le_trans hM hN⟩, hh, hm.noref ρ' hp⟩

section
variable {P : Program}

/-- Cells of which more is known. -/
def FSub (F' F : List SV) : Prop := F'.length = F.length ∧ ∀ (q : Nat) (x : SV), F[q]? = some x → ∃ x', F'[q]? = some x' ∧ ∀ ρ v, den ρ x' v → den ρ x v
theorem FSub.rfl {F : List SV} : FSub F F := ⟨_root_.rfl, fun _ x h => ⟨x, h, fun _ _ d => d⟩⟩
theorem FSub.view {W : World} {ρ : Nms} {F' F : List SV} {vw : View} (hs : FSub F' F) (h : ViewOk W ρ F' vw) : ViewOk W ρ F vw := by
  refine ⟨by rw [← hs.1]; exact h.1, h.2.1, fun q x hq hx => ?_⟩
  obtain ⟨x', hx', hd⟩ := hs.2 q x hx
  obtain ⟨a, v, e, c, d⟩ := h.2.2 q x' hq hx'
  exact ⟨a, v, e, c, hd _ _ d⟩

/-- What a function does in a heap of what it reads alone, it does in any heap that has that. -/
theorem call_frame {g : FuncId} {args0 : List SV} {l0 : List Blk} {R : SV → List Blk → Prop} (hF : (S0 P).call g args0 l0 R) (f : Nat → Nat) {l : List Blk} {args : List SV} {K : SV → List Blk → Prop}
    (hargs : args = renL f args0) (hrefs : refsBL (fun k => decide (k < l0.length)) args0 = true)
    (hread : ∀ j B, l0[j]? = some B → ∃ lit st sz F ro' lit' st' F', B = .r true lit st sz F ∧ plains F = true ∧ l[f j]? = some (.r ro' lit' st' sz F') ∧ FSub F' F)
    (hK : ∀ sv l', R sv l' → ∃ (js : List Nat) (h : Nat → Nat), js.Nodup ∧ (∀ j ∈ js, l0.length ≤ j ∧ ∃ B, l'[j]? = some B ∧ B.wr = true ∧ plainB B = true) ∧
      refsB (fun j => decide (js[h j]? = some j)) sv = true ∧ K (ren (fun j => l.length + h j) sv) (l ++ js.map (lget l'))) : (S0 P).call g args l K := by
  subst hargs
  intro N W0 ρ W vals hR hd
  let ρ0 : Nms := fun j => if j < l0.length then ρ (f j) else []
  have hρ0 : ∀ j, j < l0.length → ρ0 j = ρ (f j) := fun j hj => by simp [ρ0, hj]
  have hR0 : Rel P W.heap.size W ρ0 l0 W := by
    refine ⟨⟨rfl, rfl, rfl, Nat.le_refl _, fun _ _ => rfl⟩, Nat.le_refl _, fun k hk => by simp [ρ0]; omega, ?_, ?_, ?_, ?_⟩
    · intro k vw a hv ha
      by_cases hk : k < l0.length
      · rw [hρ0 k hk] at hv; exact hR.ids _ vw a hv ha
      · simp [ρ0, hk] at hv
    · intro k B hB
      have hk : k < l0.length := (List.getElem?_eq_some_iff.1 hB).1
      obtain ⟨lit, st, sz, F, ro', lit', st', F', rfl, hp, hl, hsub⟩ := hread k B hB
      obtain ⟨h0, hv, _, _⟩ := hR.blk _ _ hl
      refine ⟨h0, ?_, fun _ x hx => plains_mem' hp x hx, fun h => by cases h⟩
      rw [hρ0 k hk]
      exact fun vw hm => (hsub.view (hv vw hm)).plain ρ0 hp
    · intro k k' B vw vw' a a' hB hwr
      obtain ⟨lit, st, sz, F, ro', lit', st', F', rfl, hp, hl, hsub⟩ := hread k B hB
      simp [Blk.wr] at hwr
    · intro k B vw a hB hwr
      obtain ⟨lit, st, sz, F, ro', lit', st', F', rfl, hp, hl, hsub⟩ := hread k B hB
      simp [Blk.wr] at hwr
  have hd0 : denL ρ0 args0 vals.toList := by
    refine denL_unren (ok := fun k => decide (k < l0.length)) (ρ := ρ) (f := f) ?_ args0 _ hrefs hd
    intro k hk vw hv
    rw [hρ0 k (by simpa using hk)]; exact hv
  refine NextR.mono ?_ (hF _ _ _ _ _ hR0 hd0)
  rintro v W' ⟨ρ', sv, l', hRsv, hle, hll, hR', hdv⟩
  obtain ⟨js, h, hnd, hjs, hrf, hKK⟩ := hK sv l' hRsv
  let ρ2 : Nms := fun k => if k < l.length then ρ k else match js[k - l.length]? with
    | some j => ρ' j
    | none => []
  have hold : ∀ k, k < l.length → ρ2 k = ρ k := fun k hk => by simp [ρ2, hk]
  have hnew : ∀ i j, js[i]? = some j → ρ2 (l.length + i) = ρ' j := fun i j hij => by simp only [ρ2]; rw [if_neg (by omega)]; simp [hij]
  have hcase : ∀ k, k < l.length ∨ (∃ i j, k = l.length + i ∧ js[i]? = some j) ∨ ρ2 k = [] := by
    intro k
    by_cases hk : k < l.length
    · exact .inl hk
    · cases hq : js[k - l.length]? with
      | none => exact .inr (.inr (by simp [ρ2, hk, hq]))
      | some j => exact .inr (.inl ⟨k - l.length, j, by omega, hq⟩)
  have hleρ : Le l.length ρ ρ2 := fun k hk vw hv => by rw [hold k hk]; exact hv
  have hmem : ∀ i j, js[i]? = some j → j ∈ js := fun i j h => List.mem_of_getElem? h
  have hblk : ∀ i j B, js[i]? = some j → (l ++ js.map (lget l'))[l.length + i]? = some B → l'[j]? = some B ∧ B.wr = true ∧ plainB B = true := by
    intro i j B hij hB
    obtain ⟨_, B', hB', hw, hp⟩ := hjs j (hmem i j hij)
    rw [List.getElem?_append_right (by omega), List.getElem?_map] at hB
    simp only [Nat.add_sub_cancel_left, hij, Option.map_some, Option.some.injEq] at hB
    have : lget l' j = B' := by rw [lget_eq, List.getD_eq_getElem?_getD, hB']; rfl
    rw [this] at hB; subst hB
    exact ⟨hB', hw, hp⟩
  have hfresh : ∀ (i j : Nat) (vw : View) (a : Addr), js[i]? = some j → vw ∈ ρ' j → vw.base = some a → W.heap.size ≤ a.block := by
    intro i j vw a hij hv ha
    obtain ⟨_, B', hB', hw, hp⟩ := hjs j (hmem i j hij)
    exact hR'.own j B' vw a hB' hw hv ha
  refine ⟨ρ2, _, _, hKK, hleρ, by simp, ⟨?_, hR.le, ?_, ?_, ?_, ?_, ?_⟩, ?_⟩
  · exact hR.below.trans (hR'.below.mono hR.hN)
  · intro k hk
    simp only [List.length_append, List.length_map] at hk
    have : js[k - l.length]? = none := List.getElem?_eq_none (by omega)
    simp [ρ2, show ¬ k < l.length by omega, this]
  · intro k vw a hv ha
    rcases hcase k with hk | ⟨i, j, rfl, hij⟩ | hk
    · rw [hold k hk] at hv
      exact Nat.lt_of_lt_of_le (hR.ids k vw a hv ha) hR'.below.size
    · rw [hnew i j hij] at hv
      exact hR'.ids j vw a hv ha
    · rw [hk] at hv; cases hv
  · intro k B hB
    by_cases hk : k < l.length
    · rw [List.getElem?_append_left hk] at hB
      exact (hR.blk k B hB).keep hleρ hR.out (hold k hk) fun vw hv a ha => hR'.below.block _ (hR.ids k vw a hv ha)
    · have hlt := (List.getElem?_eq_some_iff.1 hB).1
      simp only [List.length_append, List.length_map] at hlt
      obtain ⟨i, rfl⟩ : ∃ i, k = l.length + i := ⟨k - l.length, by omega⟩
      have hij : js[i]? = some js[i] := List.getElem?_eq_getElem (by omega)
      obtain ⟨hB', hw, hp⟩ := hblk i _ B hij hB
      exact (hR'.blk _ B hB').move hp hR.hN (hnew i _ hij)
  · intro k k' B vw vw' a a' hB hwr hne hv hv' ha ha'
    rcases hcase k with hk | ⟨i, j, rfl, hij⟩ | hk
    · rw [hold k hk] at hv
      rcases hcase k' with hk' | ⟨i', j', rfl, hij'⟩ | hk'
      · rw [hold k' hk'] at hv'
        rw [List.getElem?_append_left hk] at hB
        exact hR.sep k k' B vw vw' a a' hB hwr hne hv hv' ha ha'
      · rw [hnew i' j' hij'] at hv'
        have h1 := hfresh i' j' vw' a' hij' hv' ha'
        have h2 := hR.ids k vw a hv ha
        omega
      · rw [hk'] at hv'; cases hv'
    · rw [hnew i j hij] at hv
      obtain ⟨hB', hw, hp⟩ := hblk i j B hij hB
      rcases hcase k' with hk' | ⟨i', j', rfl, hij'⟩ | hk'
      · rw [hold k' hk'] at hv'
        have h1 := hfresh i j vw a hij hv ha
        have h2 := hR.ids k' vw' a' hv' ha'
        omega
      · rw [hnew i' j' hij'] at hv'
        have hjj : j ≠ j' := by
          intro e
          subst e
          have hi := (List.getElem?_eq_some_iff.1 hij).1
          exact hne (congrArg _ ((List.getElem?_inj hi hnd).1 (hij.trans hij'.symm)))
        exact hR'.sep j j' B vw vw' a a' hB' hw hjj hv hv' ha ha'
      · rw [hk'] at hv'; cases hv'
    · rw [hk] at hv; cases hv
  · intro k B vw a hB hwr hv ha
    rcases hcase k with hk | ⟨i, j, rfl, hij⟩ | hk
    · rw [hold k hk] at hv
      rw [List.getElem?_append_left hk] at hB
      exact hR.own k B vw a hB hwr hv ha
    · rw [hnew i j hij] at hv
      exact Nat.le_trans hR.hN (hfresh i j vw a hij hv ha)
    · rw [hk] at hv; cases hv
  · refine den_ren (ok := fun j => decide (js[h j]? = some j)) (ρ := ρ') ?_ sv v hrf hdv
    intro j hj vw hv
    simp only [decide_eq_true_eq] at hj
    rw [hnew _ _ hj]; exact hv
end
end Cz
