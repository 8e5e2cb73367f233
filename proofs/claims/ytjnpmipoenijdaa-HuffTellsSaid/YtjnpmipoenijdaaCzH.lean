/- The engine, part H: each operation does what its condition says (stores, numbers, comparisons, slices, maps). No condition. -/
import Derived.Test.YtjnpmipoenijdaaCzG
namespace Cz
open Go Go.RowKit
set_option linter.unusedSimpArgs false
set_option linter.unusedVariables false

section
variable {P : Program} {N : Nat} {W0 W : World} {ρ : Nms} {l : List Blk} {vs : List SV} {a : Act} {K : SV → List Blk → Prop} {o : Oper}

/-- A store into a row's elements, of what no elder view sees. -/
theorem Rel.storeR (h : Rel P N W0 ρ l W) {k q0 sz : Nat} {lit lit' : Bool} {st : Z} {F ws : List SV} {us : List Value} {vw : View} {ad : Addr} (hk : l[k]? = some (.r false lit st sz F))
    (hvw : vw ∈ ρ k) (hb : vw.base = some ad) (ho : q0 + ws.length ≤ vw.n) (hst : st.v.toNat ≤ q0) (hw : 0 < ws.length)
    (hs : scalars ws = true) (hp : lit' = false → (∀ x ∈ ws, plainV x = true) ∧ ∀ x ∈ F, plainV x = true) (hd : denL ρ ws us) :
    ∃ W', (storeCells ⟨ad.block, ad.off + q0, none⟩ us).run P W = .ok () W' ∧ Rel P N W0 ρ (l.set k (.r false lit' st sz (repl F q0 ws))) W' := by
  obtain ⟨hsz, hvs, hpl, hown⟩ := h.blk k _ hk
  obtain ⟨cur, hcur, hcn, hcown, hcap, hall⟩ := hown rfl
  have hsame : vw.base = cur.base := by
    rcases hall vw hvw with h1 | ⟨h1, _⟩
    · exact h1.1
    · omega
  have hcb : cur.base = some ad := hsame ▸ hb
  obtain ⟨hNb, c, T, fz, hh, hcs, hf, hfz⟩ := hcown ad hcb
  have hul := denL_length hd
  have hvn := (hvs vw hvw).1
  have hrun := run_storeCells_at (P := P) (b := ad.block) us (ad.off + q0) 0 c W hh (by omega) hf (denL_oneC hs hd)
  simp only [Nat.add_zero] at hrun
  refine ⟨_, hrun, ?_⟩
  have hup : upd ρ k (ρ k) = ρ := by
    funext j
    by_cases hj : j = k
    · subst hj; exact upd_same
    · exact upd_other hj
  have hlt := lt_of_heap hh
  have hFl : q0 + ws.length ≤ F.length := by omega
  rw [← hup]
  refine h.turn hk rfl ?_ (by rw [setO_size]; exact Nat.le_refl _) ?_ (fun _ hv => hv) ?_ ?_
  · exact h.below.trans ⟨rfl, rfl, rfl, by rw [setO_size]; exact Nat.le_refl _, fun j hj => setO_other (by omega)⟩
  · intro i _ hi
    exact setO_other (fun hib => hi _ hcur _ hcb hib.symm)
  · intro vw' hvw' a' ha'
    exact ⟨by rw [setO_size]; exact h.ids k vw' a' hvw' ha', .inr ⟨vw', hvw', a', ha', rfl⟩⟩
  · rw [hup]
    refine ⟨hsz, ?_, ?_, ?_⟩
    · intro vw' hvw'
      obtain ⟨hv1, hv2, hv3⟩ := hvs vw' hvw'
      refine ⟨by rw [repl_length]; exact hv1, hv2, fun q x hq hx => ?_⟩
      rw [repl_get ws F q0 q hFl] at hx
      rcases hall vw' hvw' with ⟨h1, _⟩ | ⟨h1, _, h2⟩
      · rw [h1, hcb]
        have hcell : (setO W ad.block (.cells (splice c (ad.off + q0) us) T fz)).cell? ⟨ad.block, ad.off + q, none⟩ = (splice c (ad.off + q0) us)[ad.off + q]? := by
          simp [World.cell?, setO_same hlt]
        refine ⟨ad, ?_⟩
        rw [hcell, splice_get us c (ad.off + q0) (ad.off + q) (by omega)]
        by_cases hr : q0 ≤ q ∧ q < q0 + ws.length
        · rw [if_pos hr] at hx
          rw [if_pos (by omega)]
          obtain ⟨v, hv', d⟩ := denL_get _ x hd hx
          exact ⟨v, rfl, by rw [show ad.off + q - (ad.off + q0) = q - q0 by omega]; exact hv', d⟩
        · rw [if_neg hr] at hx
          rw [if_neg (by omega)]
          obtain ⟨a', v, ea, hcv, d⟩ := hv3 q x hq hx
          rw [h1, hcb] at ea
          simp at ea; subst ea
          simp [World.cell?, hh] at hcv
          exact ⟨v, rfl, hcv, d⟩
      · rw [if_neg (by omega)] at hx
        obtain ⟨a', v, ea, hcv, d⟩ := hv3 q x hq hx
        refine ⟨a', v, ea, ?_, d⟩
        rw [cell_congr (W := W)]
        · exact hcv
        · exact setO_other (h2 a' ad ea hcb)
    · intro hl x hx
      obtain ⟨q, hq, rfl⟩ := List.getElem_of_mem hx
      have hg := List.getElem?_eq_getElem hq
      rw [repl_get ws F q0 q hFl] at hg
      split at hg
      · exact (hp hl).1 _ (List.mem_of_getElem? hg)
      · exact (hp hl).2 _ (List.mem_of_getElem? hg)
    · intro _
      refine ⟨cur, hcur, by rw [repl_length]; exact hcn, ?_, hcap, ?_⟩
      · intro a' ha'
        rw [hcb] at ha'
        simp at ha'; subst ha'
        exact ⟨hNb, splice c (ad.off + q0) us, T, fz, setO_same hlt, by rw [splice_size]; exact hcs, (fun q hq => by rw [frozen_setO hh]; exact hf q (by rw [splice_size] at hq; exact hq)), by rw [splice_size]; exact hfz⟩
      · rw [repl_length]; exact hall

theorem plains_mem : ∀ {ws : List SV}, plains ws = true → ∀ x ∈ ws, plainV x = true
  | [], _, _, h => by cases h
  | w :: ws, h, x, hx => by
    simp only [plains, Bool.and_eq_true] at h
    rcases List.mem_cons.1 hx with rfl | hx
    · exact h.1
    · exact plains_mem h.2 x hx

theorem plains_scalars : ∀ {ws : List SV}, plains ws = true → scalars ws = true
  | [], _ => rfl
  | x :: ws, h => by
    simp only [plains, Bool.and_eq_true] at h
    simp only [scalars, Bool.and_eq_true]
    refine ⟨?_, plains_scalars h.2⟩
    have := h.1
    cases x <;> simp [plainV] at this <;> rfl
theorem vstore_imp {n : Nat} {x y : SV} {K : List Blk → Prop} (h : vstore (S0 P) l n x y K) : vstore0 (S0 P) l n x y K := by
  unfold vstore at h
  split at h
  · rename_i hb
    have hb := Nat.le_of_ble_eq_true hb
    unfold vstoreB at h
    split at h
    · rename_i ws
      split at h
      · rename_i k o
        split at h
        · rename_i cs hc
          obtain ⟨h1, h2, h3, h4, h5, h6⟩ := h
          have hl : ws.length = n := by
            have : (ws.length : Int) = n := by simpa [S0, BK.cmpLit] using h1
            omega
          simp only [Int.toNat_zero, Nat.zero_add, Nat.one_mul, Nat.zero_mul] at h3 h6
          unfold vstore0
          simp only [cellsOf, hc, lenS_eq, replL_eq]
          rw [if_pos ⟨hl, plains_scalars h5, by omega⟩, if_pos (by omega)]
          exact h6
        · exact h.elim
      · exact h.elim
    · exact h.elim
  · exact h
theorem store_ok0 {n : Nat} {t : TypeId} {x y : SV} {v u : Value} {K : List Blk → Prop} (hn : szOf P t = some n) (hR : Rel P N W0 ρ l W)
    (h : vstore0 (S0 P) l n x y K) (hd : den ρ x v) (hdy : den ρ y u) : ∃ W' l', (Instr.storeAt t v u).run P W = .ok () W' ∧ K l' ∧ l.length ≤ l'.length ∧ Rel P N W0 ρ l' W' := by
  have run : ∀ ad W', (storeCells ad u.cells.toList).run P W = .ok () W' → u.cells.size = n → v = .pointer (some ad) → (Instr.storeAt t v u).run P W = .ok () W' := by
    intro ad W' hr hsz hve
    simp [Instr.storeAt, Instr.sureAddr, hve, storeVar, run_sizeOf hn, hsz, hr]
  unfold vstore0 at h
  simp only [replL_eq] at h
  split at h
  · exact h.elim
  · rename_i ws hws
    have hdw := cells_ok hws hdy
    have hlw := denL_length hdw
    split at h
    · rename_i hlen
      obtain ⟨hl1, hsc, hn0⟩ := hlen
      rw [lenS_eq] at hl1
      have husz : u.cells.size = n := by simpa using hlw.symm.trans hl1
      split at h
      · rename_i k off
        simp only [den] at hd
        obtain ⟨vw, hvw, ad, hb, hve⟩ := hd
        split at h
        · rename_i cs hcs
          split at h
          · rename_i hle
            rw [lenS_eq] at hle
            obtain ⟨b, e, W', hrun, hR'⟩ := hR.storeC (o := off) (lget_some hcs (by simp)) (by omega) hsc hdw
            obtain rfl := mem_one e hvw
            simp at hb; subst hb
            rw [lset_eq] at h
            exact ⟨W', _, run _ W' hrun husz (by simpa using hve), h, by simp, hR'⟩
          · exact h.elim
        · exact h.elim
      · rename_i k i sz j
        simp only [den] at hd
        obtain ⟨h0, vw, hvw, ad, hb, hin, hve⟩ := hd
        have h3 : ∀ m : Nat, (m + 1) * sz = m * sz + sz := fun m => by rw [Nat.add_mul, Nat.one_mul]
        split at h
        · rename_i cs hcs
          split at h
          · rename_i i'
            split at h
            · rename_i hle
              rw [lenS_eq] at hle
              obtain ⟨b, e, W', hrun, hR'⟩ := hR.storeC (o := i'.toNat * sz + j) (lget_some hcs (by simp)) (by omega) hsc hdw
              obtain rfl := mem_one e hvw
              simp at hb; subst hb
              rw [lset_eq] at h
              exact ⟨W', _, run _ W' hrun husz (by simpa [Z.v] using hve), h, by simp, hR'⟩
            · exact h.elim
          · rename_i i'
            obtain ⟨_, hl2, hj, hpl, hK⟩ := h
            rw [h3] at hl2
            obtain ⟨b, e, W', hrun, hR'⟩ := hR.storeC (o := i'.toNat * sz + j) (lget_some hcs (by simp)) (by omega) hsc hdw
            obtain rfl := mem_one e hvw
            simp at hb; subst hb
            rw [lset_eq] at hK
            exact ⟨W', _, run _ W' hrun husz (by simpa [Z.v] using hve), hK, by simp, hR'⟩
        · rename_i lit st sz' F hF
          split at h
          · rename_i hsz'
            obtain ⟨hsz', hjn⟩ := hsz'
            subst hsz'
            have hkF := lget_some hF (by simp)
            obtain ⟨hsz, hvs, hplF, hown⟩ := hR.blk k _ hkF
            split at h
            · rename_i i' s
              split at h
              · rename_i hle
                rw [lset_eq] at h
                simp only [Z.v, h3] at hin
                obtain ⟨W', hrun, hR'⟩ := hR.storeR (lit' := true) (q0 := i'.toNat * sz + j) hkF hvw hb (by omega) (by simp only [Z.v]; omega) (by omega) hsc (by simp) hdw
                exact ⟨W', _, run _ W' hrun husz (by simpa [Z.v] using hve), h, by simp, hR'⟩
              · exact h.elim
            · split at h
              · rename_i hpi
                obtain ⟨hle, _, hl2, hj2, hpl, hK⟩ := h
                rw [lset_eq] at hK
                rw [h3] at hin
                have hpF : ∀ x ∈ F, plainV x = true := by
                  cases lit with
                  | true => exact plains_mem hpi
                  | false => exact hplF rfl
                have hst : st.v.toNat ≤ i.v.toNat * sz + j := by
                  have h5 : st.v ≤ i.v * sz := by simpa [S0, BK.cmpLit] using hle
                  have h6 : (i.v.toNat : Int) = i.v := Int.toNat_of_nonneg h0
                  have h7 : st.v ≤ ((i.v.toNat * sz : Nat) : Int) := by rw [Int.natCast_mul, h6]; exact h5
                  omega
                obtain ⟨W', hrun, hR'⟩ := hR.storeR (lit' := false) (q0 := i.v.toNat * sz + j) hkF hvw hb (by omega) hst (by omega) hsc (fun _ => ⟨plains_mem hpl, hpF⟩) hdw
                exact ⟨W', _, run _ W' hrun husz hve, hK, by simp, hR'⟩
              · exact h.elim
          · exact h.elim
        · exact h.elim
      · exact h.elim
    · exact h.elim

theorem store_ok {n : Nat} {t : TypeId} {x y : SV} {v u : Value} {K : List Blk → Prop} (hn : szOf P t = some n) (hR : Rel P N W0 ρ l W)
    (h : vstore (S0 P) l n x y K) (hd : den ρ x v) (hdy : den ρ y u) : ∃ W' l', (Instr.storeAt t v u).run P W = .ok () W' ∧ K l' ∧ l.length ≤ l'.length ∧ Rel P N W0 ρ l' W' :=
  store_ok0 hn hR (vstore_imp h) hd hdy

theorem s_store {t : TypeId} {x y : Operand} {x' y' : Opd} {n : Nat} (ho : o.op = .store t x y) (hx : cOpd x = some x') (hy : cOpd y = some y') (hn : szOf P t = some n) :
    Sound P o (.store n x' y') := by
  intro N W0 W ρ l vs a K h hR hE
  obtain ⟨W', l', hrun, hK, hl, hR'⟩ := store_ok hn hR h (ev_ok hE hx) (ev_ok hE hy)
  exact .unit (W' := W') (by simp [ho, isDefer]) (by simp [execOp, ho, hrun]) ⟨ρ, .un, l', hK, Le.refl _ _, hl, hR', by simp [den]⟩

end
end Cz
