/- The engine, part N: from the conditions to the code. No condition. -/
import Derived.Test.YtjnpmipoenijdaaCzL
namespace Cz
open Go Go.RowKit
set_option linter.unusedSimpArgs false
set_option linter.unusedVariables false

section
variable {P : Program} {N : Nat} {W0 W : World} {ρ : Nms} {l : List Blk}

theorem push_get {x : Obj} {h : Array Obj} : (h.push x)[h.size]? = some x := by simp
theorem mem_upd {ρ : Nms} {k : Nat} {vw : View} {vws : List View} (h : vw ∈ vws) : vw ∈ upd ρ k vws k := by rw [upd_same]; exact h

/-- A new real block of one name. -/
theorem Rel.push1 (h : Rel P N W0 ρ l W) {B : Blk} {x : Obj}
    (hB : BlkOk P N { W with heap := W.heap.push x } (upd ρ l.length [⟨some ⟨W.heap.size, 0, none⟩, 0, 0⟩]) l.length B) :
    Rel P N W0 (upd ρ l.length [⟨some ⟨W.heap.size, 0, none⟩, 0, 0⟩]) (l ++ [B]) { W with heap := W.heap.push x } := by
  refine h.push ?_ (by simp) ?_ ?_ hB
  · refine h.below.trans ⟨rfl, rfl, rfl, by simp, fun j hj => ?_⟩
    have := h.hN
    have : j < W.heap.size := by omega
    simp [Array.getElem?_push, show j ≠ W.heap.size by omega]
  · intro i hi
    simp [Array.getElem?_push, show i ≠ W.heap.size by omega]
  · intro vw hv a ha
    rw [List.mem_singleton] at hv; subst hv
    simp at ha; subst ha
    simp

theorem vc_sound {cx : Cx} {kl : Nat → List Nat} : ∀ (c : Code) {ir : IR} {K : VK} {e : Env} {l : List Blk}, conv P kl c = some ir → vc (S0 P) cx ir K e l → WP P cx c K e l
  | .skip, ir, K, e, l, hc, h => fun N W0 ρ rr a W hs hr hm => by
    simp only [conv, Option.some.injEq] at hc; subst hc
    exact wp_skip (here hs hm h)
  | .label _, ir, K, e, l, hc, h => fun N W0 ρ rr a W hs hr hm => by
    simp only [conv, Option.some.injEq] at hc; subst hc
    exact wp_label (here hs hm h)
  | .exit id, ir, K, e, l, hc, h => fun N W0 ρ rr a W hs hr hm => by
    simp only [conv, Option.some.injEq] at hc; subst hc
    exact wp_exit (here hs hm h)
  | .goto g, ir, K, e, l, hc, h => fun N W0 ρ rr a W hs hr hm => by
    simp only [conv, Option.some.injEq] at hc; subst hc
    exact wp_goto (here hs hm h)
  | .ret, ir, K, e, l, hc, h => fun N W0 ρ rr a W hs hr hm => by
    simp only [conv, Option.some.injEq] at hc; subst hc
    exact wp_ret (here hs hm h)
  | .refuse _, ir, K, e, l, hc, h => by simp [conv] at hc
  | .region id ops false, ir, K, e, l, hc, h => fun N W0 ρ rr a W hs hr hm => by
    simp only [conv, Option.bind_eq_bind, Option.bind_eq_some_iff, Option.pure_def, Option.some.injEq] at hc
    obtain ⟨aos, ha, rfl⟩ := hc
    have hlen := mapM_length ha
    have hsnd := vrg_sound cx.m aos 0 (by simpa using ha) N W0 W ρ l e.vs a e.mks h hs.rel hs.env hs.mks hm
    refine wp_region ?_
    have e1 : List.range ops.size = List.range' 0 aos.length := by rw [hlen, List.range_eq_range']; simp
    rw [e1]
    refine Rg.mono ?_ _ _ _ hsnd
    rintro a' w' ⟨ρ', vs', l', hK, hle, hm', hR, hE, hM⟩
    exact ⟨ρ', _, l', hK, hle, hm', hR, hE.kill _, hM⟩
  | .region id ops true, ir, K, e, l, hc, h => fun N W0 ρ rr a W hs hr hm => by
    simp only [conv, Option.bind_eq_bind, Option.bind_eq_some_iff, Option.pure_def, Option.some.injEq] at hc
    obtain ⟨aos, ha, rfl⟩ := hc
    have hd := h ops ha rfl id N W0 ρ rr a W hs hr hm
    refine Wp.mono hd ?_
    rintro ex a' w' ⟨ρ', e', l', hK, hle, hm', hR, hE, hM⟩
    cases ex with
    | normal => exact ⟨ρ', _, l', hK, hle, hm', hR, hE.kill _, hM⟩
    | exit id => exact hK.elim
    | goto g => exact hK.elim
    | ret => exact hK.elim
  | .seq x y, ir, K, e, l, hc, h => fun N W0 ρ rr a W hs hr hm => by
    simp only [conv, Option.bind_eq_bind, Option.bind_eq_some_iff, Option.pure_def, Option.some.injEq] at hc
    obtain ⟨i1, h1, i2, h2, rfl⟩ := hc
    simp only [vc] at h
    refine wp_seq (Wp.mono (vc_sound x h1 h N W0 ρ rr a W hs hr hm) ?_)
    rintro ex a' w' ⟨ρ', e', l', hK, hle, hm', hs'⟩
    cases ex with
    | normal => exact Wp.mono (vc_sound y h2 hK N W0 ρ' rr a' w' hs' (hr.le hle) hm') fun _ _ _ q => q.le hle
    | exit id => exact ⟨ρ', e', l', hK, hle, hm', hs'⟩
    | goto g => exact ⟨ρ', e', l', hK, hle, hm', hs'⟩
    | ret => exact ⟨ρ', e', l', hK, hle, hm', hs'⟩
  | .cond c x y, ir, K, e, l, hc, h => fun N W0 ρ rr a W hs hr hm => by
    simp only [conv, Option.bind_eq_bind, Option.bind_eq_some_iff, Option.pure_def, Option.some.injEq] at hc
    obtain ⟨c', hc', i1, h1, i2, h2, rfl⟩ := hc
    simp only [vc] at h
    obtain ⟨b, hb, k1, k2⟩ := brv_ok h (ev_ok hs.env hc')
    refine wp_cond hb ?_
    cases b
    · exact vc_sound y h2 (k2 rfl) N W0 ρ rr a W hs hr hm
    · exact vc_sound x h1 (k1 rfl) N W0 ρ rr a W hs hr hm
  | .block id b, ir, K, e, l, hc, h => fun N W0 ρ rr a W hs hr hm => by
    simp only [conv, Option.map_eq_some_iff] at hc
    obtain ⟨i1, h1, rfl⟩ := hc
    simp only [vc] at h
    refine wp_block (Wp.mono (vc_sound b h1 h N W0 ρ rr a W hs hr hm) ?_)
    rintro ex a' w' ⟨ρ', e', l', hK, hle, hm', hs'⟩
    cases ex with
    | normal => exact ⟨ρ', e', l', hK, hle, hm', hs'⟩
    | exit id' =>
      simp only [Ex.inBlock]
      split
      · rename_i hid; simp only [blkK, hid, if_true] at hK; exact ⟨ρ', e', l', hK, hle, hm', hs'⟩
      · rename_i hid; simp only [blkK, hid, if_false] at hK; exact ⟨ρ', e', l', hK, hle, hm', hs'⟩
    | goto g => exact ⟨ρ', e', l', hK, hle, hm', hs'⟩
    | ret => exact ⟨ρ', e', l', hK, hle, hm', hs'⟩
  | .loop b, ir, K, e, l, hc, h => by
    simp only [conv, Option.map_eq_some_iff] at hc
    obtain ⟨i1, h1, rfl⟩ := hc
    exact h b kl h1
  | .scope b, ir, K, e, l, hc, h => fun N W0 ρ rr a W hs hr hm => by
    simp only [conv, Option.map_eq_some_iff] at hc
    obtain ⟨i1, h1, rfl⟩ := hc
    simp only [vc] at h
    refine wp_scope (inScope_of (Wp.mono (vc_sound b h1 h N W0 ρ rr a W hs hr hm) ?_))
    rintro ex a' w' ⟨ρ', e', l', hK, hle, hm', hs'⟩
    cases ex with
    | normal => exact ⟨ρ', e', l', hK, hle, hm', hs'⟩
    | exit id => exact ⟨ρ', e', l', hK, hle, hm', hs'⟩
    | ret => exact ⟨ρ', e', l', hK, hle, hm', hs'⟩
    | goto g =>
      have hf := findL_ok (g := g) h1
      simp only [Ex.inScope]
      cases hq : findLabel b g with
      | none =>
        rw [hq] at hf
        simp only [Option.isSome_none] at hf
        cases hi : findL i1 g with
        | none => simp only [scpK, hi] at hK; exact ⟨ρ', e', l', hK, hle, hm', hs'⟩
        | some r => rw [hi] at hf; simp at hf
      | some rest =>
        rw [hq] at hf
        cases hi : findL i1 g with
        | none => rw [hi] at hf; simp at hf
        | some r =>
          simp only [scpK, hi] at hK
          exact From.mono (hK b kl h1 rest hq N W0 ρ' rr a' w' hs' (hr.le hle) hm') fun _ _ _ q => q.le hle
  | .rangeFunc f ps x y, ir, K, e, l, hc, h => fun N W0 ρ rr a W hs hr hm => by
    simp only [conv, Option.bind_eq_bind, Option.bind_eq_some_iff, Option.pure_def, Option.some.injEq] at hc
    obtain ⟨f', hf, i1, h1, i2, h2, rfl⟩ := hc
    simp only [vc] at h
    split at h
    case h_2 => exact h.elim
    rename_i g a0 c0 hev
    have hd := ev_ok hs.env hf
    rw [hev] at hd
    simp only [den] at hd
    obtain ⟨as, cs, hval, das, dcs⟩ := hd
    have hR := hs.rel
    split at h
    · -- in a function
      rename_i hro
      have hrr : rr = none := by simpa [RoOk, hro] using hr
      subst hrr
      obtain ⟨hg, hcall⟩ := h
      simp only [snoc_eq, len_eq] at hcall
      refine wp_rangeFunc hval hg fun fid => ?_
      have hR1 := hR.push1 (B := .df) (x := .deferred (some [])) ⟨W.heap.size, ⟨upd_same, hR.hN⟩, by simp⟩
      have hR2 := hR1.push1 (B := .lp e.vs ps.toList i1 i2 .ready) (x := .loop (loopOf a fid ps x y W.heap.size)) ?_
      rotate_left
      · refine ⟨_, loopOf a fid ps x y W.heap.size, ⟨upd_same, ?_⟩, push_get, rfl, ⟨kl, h1⟩, ⟨kl, h2⟩, ?_, ⟨rfl, rfl⟩⟩
        · exact Nat.le_trans hR.hN (by simp)
        · refine EnvOk.le (m := l.length + 1) (ρ := upd ρ l.length [⟨some ⟨W.heap.size, 0, none⟩, 0, 0⟩]) ?_ ?_ ?_
          · exact hs.env.le (m := l.length) (le_upd (by rw [hR.out _ (Nat.le_refl _)]; simp)) hR.out
          · simp only [List.length_append, List.length_singleton]
            exact le_upd (by rw [upd_other (by omega), hR.out _ (by omega)]; simp)
          · intro k hk; rw [upd_other (by omega)]; exact hR.out k (by omega)
      have hle2 : Le l.length ρ (upd (upd ρ l.length [⟨some ⟨W.heap.size, 0, none⟩, 0, 0⟩]) (l.length + 1) [⟨some ⟨W.heap.size + 1, 0, none⟩, 0, 0⟩]) := by
        intro k hk vw hv
        rw [upd_other (by omega), upd_other (by omega)]; exact hv
      simp only [List.length_append, List.length_singleton, Array.size_push] at hR2
      have hfin := hcall N W0 _ _ (as ++ #[.func (.yield (W.heap.size + 1)) #[] #[]] ++ cs) hR2 ?_
      rotate_left
      · rw [catS_eq]
        simp only [Array.toList_append, List.append_assoc]
        refine denL_append (denL_le hle2 hR.out _ _ das) ?_
        simp only [List.cons_append, List.nil_append, denL]
        refine ⟨?_, denL_le hle2 hR.out _ _ dcs⟩
        simp only [den]
        exact ⟨_, mem_upd (List.mem_singleton.2 rfl), _, rfl, rfl⟩
      refine Calls.mono hfin ?_
      rintro en W2 ⟨v, rfl, ρ', sv, l', hK, hle, hll, hR', hdv⟩
      refine ⟨⟨v, rfl⟩, ?_⟩
      simp only [List.length_append, List.length_singleton] at hle hll
      have hle' : Le l.length ρ ρ' := hle2.trans (hle.mono (by omega))
      refine rf_end (k := l.length + 1) (vs := e.vs) (mk := l.length :: e.mks) hR' ?_ (hle'.mono hm) (by omega) ?_ ?_ hK
      · exact hle _ (by omega) _ (mem_upd (List.mem_singleton.2 rfl))
      · exact hs.env.le hle' hR.out
      · refine ⟨⟨_, hle l.length (by omega) _ (by rw [upd_other (by omega)]; exact mem_upd (List.mem_singleton.2 rfl)), W.heap.size, rfl, rfl⟩, ?_⟩
        exact MkOk.le hle' hR.out _ _ hs.mks
    · -- within a round
      rename_i k0 hro
      split at h
      case h_2 => exact h.elim
      rename_i hl0
      have hr' := hr
      simp only [RoOk, hro] at hr'
      obtain ⟨hk0, vw0, hvw0, b0, hb0, rfl⟩ := hr'
      have hkB := lget_some hl0 (by simp)
      obtain ⟨b', L, ⟨e1, hN'⟩, hh, _⟩ := hR.blk k0 _ hkB
      rw [e1, List.mem_singleton] at hvw0
      subst hvw0
      simp at hb0; subst hb0
      obtain ⟨hg, hcall⟩ := h
      simp only [snoc_eq, len_eq] at hcall
      refine wp_rangeFunc_in hh hval hg fun fid => ?_
      have hle2 : Le l.length ρ (upd ρ l.length [⟨some ⟨W.heap.size, 0, none⟩, 0, 0⟩]) := le_upd (by rw [hR.out _ (Nat.le_refl _)]; simp)
      have hR2 := hR.push1 (B := .lp e.vs ps.toList i1 i2 .ready) (x := .loop (loopOf a fid ps x y L.defers)) ?_
      rotate_left
      · refine ⟨_, loopOf a fid ps x y L.defers, ⟨upd_same, hR.hN⟩, by simp, rfl, ⟨kl, h1⟩, ⟨kl, h2⟩, ?_, ⟨rfl, rfl⟩⟩
        exact hs.env.le hle2 hR.out
      have hfin := hcall N W0 _ _ (as ++ #[.func (.yield W.heap.size) #[] #[]] ++ cs) hR2 ?_
      rotate_left
      · rw [catS_eq]
        simp only [Array.toList_append, List.append_assoc]
        refine denL_append (denL_le hle2 hR.out _ _ das) ?_
        simp only [List.cons_append, List.nil_append, denL]
        refine ⟨?_, denL_le hle2 hR.out _ _ dcs⟩
        simp only [den]
        exact ⟨_, mem_upd (List.mem_singleton.2 rfl), _, rfl, rfl⟩
      refine Calls.mono hfin ?_
      rintro en W2 ⟨v, rfl, ρ', sv, l', hK, hle, hll, hR', hdv⟩
      refine ⟨⟨v, rfl⟩, ?_⟩
      simp only [List.length_append, List.length_singleton] at hle hll
      have hle' : Le l.length ρ ρ' := hle2.trans (hle.mono (by omega))
      refine rf_end (k := l.length) (vs := e.vs) (mk := e.mks) hR' ?_ (hle'.mono hm) (by omega) ?_ ?_ hK
      · exact hle _ (by omega) _ (mem_upd (List.mem_singleton.2 rfl))
      · exact hs.env.le hle' hR.out
      · exact MkOk.le hle' hR.out _ _ hs.mks
end
end Cz
