/- The engine, part W: a row grows. No condition. -/
import Derived.Test.YtjnpmipoenijdaaCzV
namespace Cz
open Go Go.RowKit
set_option linter.unusedSimpArgs false
set_option linter.unusedVariables false

section
variable {P : Program} {N : Nat} {W0 W : World} {ρ : Nms} {l : List Blk} {vs : List SV} {a : Act} {o : Oper}

/-- A row grows in its room. -/
theorem Rel.appIn (h : Rel P N W0 ρ l W) {k sz : Nat} {lit lit' : Bool} {st st' : Z} {F ys : List SV} {us : List Value} {vw : View} {ad : Addr} (hk : l[k]? = some (.r false lit st sz F)) (hvw : vw ∈ ρ k)
    (hb : vw.base = some ad) (hn : vw.n = F.length) (hroom : F.length + ys.length ≤ vw.cap * sz) (hst : st'.v.toNat = F.length) (hone : ∀ v ∈ us, oneC v = true)
    (hp : lit' = false → (∀ x ∈ F, plainV x = true) ∧ ∀ x ∈ ys, plainV x = true) (hd : denL ρ ys us) :
    ∃ W', (storeCells ⟨ad.block, ad.off + F.length, none⟩ us).run P W = .ok () W' ∧
      Rel P N W0 (upd ρ k (⟨some ad, F.length + ys.length, vw.cap⟩ :: ρ k)) (l.set k (.r false lit' st' sz (F ++ ys))) W' := by
  obtain ⟨hsz, hvs, hpl, hown⟩ := h.blk k _ hk
  obtain ⟨cur, hcur, hcn, hcown, hcap, hall⟩ := hown rfl
  have hsame : vw.base = cur.base ∧ vw.cap = cur.cap := by
    rcases hall vw hvw with h1 | ⟨_, h1, _⟩
    · exact h1
    · omega
  have hcb : cur.base = some ad := hsame.1 ▸ hb
  obtain ⟨hNb, c, T, fz, hh, hcs, hf, hfz⟩ := hcown ad hcb
  rw [← hsame.2] at hcs hcap
  have hul := denL_length hd
  have hrun := run_storeCells_at (P := P) (b := ad.block) us (ad.off + F.length) 0 c W hh (by omega) hf hone
  simp only [Nat.add_zero] at hrun
  refine ⟨_, hrun, ?_⟩
  have hlt := lt_of_heap hh
  have hle : Le l.length ρ (upd ρ k (⟨some ad, F.length + ys.length, vw.cap⟩ :: ρ k)) := le_upd (fun _ hv => List.mem_cons_of_mem _ hv)
  have hcell : ∀ q, (setO W ad.block (.cells (splice c (ad.off + F.length) us) T fz)).cell? ⟨ad.block, ad.off + q, none⟩ = (splice c (ad.off + F.length) us)[ad.off + q]? := fun q => by
    simp [World.cell?, setO_same hlt]
  have hold : ∀ (vw' : View), vw' ∈ ρ k → vw'.base = some ad → ∀ (q : Nat) (x : SV), q < vw'.n → F[q]? = some x →
      ∃ v, (setO W ad.block (.cells (splice c (ad.off + F.length) us) T fz)).cell? ⟨ad.block, ad.off + q, none⟩ = some v ∧ den ρ x v := by
    intro vw' hvw' hb' q x hq hx
    obtain ⟨hv1, _, hv3⟩ := hvs vw' hvw'
    obtain ⟨a', v, ea, hcv, d⟩ := hv3 q x hq hx
    rw [hb'] at ea
    simp at ea; subst ea
    refine ⟨v, ?_, d⟩
    rw [hcell, splice_get us c _ _ (by omega), if_neg (by omega)]
    simpa [World.cell?, hh] using hcv
  refine h.turn hk rfl ?_ (by rw [setO_size]; exact Nat.le_refl _) ?_ (fun _ hv => List.mem_cons_of_mem _ hv) ?_ ?_
  · exact h.below.trans ⟨rfl, rfl, rfl, by rw [setO_size]; exact Nat.le_refl _, fun j hj => setO_other (by omega)⟩
  · intro i _ hi
    exact setO_other (fun hib => hi _ hcur _ hcb hib.symm)
  · intro vw' hvw' a' ha'
    rcases List.mem_cons.1 hvw' with rfl | hvw'
    · simp at ha'; subst ha'
      exact ⟨by rw [setO_size]; exact hlt, .inr ⟨vw, hvw, _, hb, rfl⟩⟩
    · exact ⟨by rw [setO_size]; exact h.ids k vw' a' hvw' ha', .inr ⟨vw', hvw', a', ha', rfl⟩⟩
  · refine ⟨hsz, ?_, ?_, ?_⟩
    · rw [upd_same]
      intro vw' hvw'
      rcases List.mem_cons.1 hvw' with rfl | hvw'
      · refine ⟨by simp, by simp, fun q x hq hx => ⟨ad, ?_⟩⟩
        rcases Nat.lt_or_ge q F.length with h1 | h1
        · rw [List.getElem?_append_left h1] at hx
          obtain ⟨v, hc, d⟩ := hold vw hvw hb q x (by omega) hx
          exact ⟨v, rfl, hc, den_le hle h.out _ _ d⟩
        · rw [List.getElem?_append_right h1] at hx
          obtain ⟨v, hv', d⟩ := denL_get _ x hd hx
          simp only at hq
          refine ⟨v, rfl, ?_, den_le hle h.out _ _ d⟩
          rw [hcell, splice_get us c _ _ (by omega), if_pos (by omega), show ad.off + q - (ad.off + F.length) = q - F.length by omega]
          exact hv'
      · obtain ⟨hv1, hv2, hv3⟩ := hvs vw' hvw'
        refine ⟨by simp; omega, hv2, fun q x hq hx => ?_⟩
        rw [List.getElem?_append_left (by omega)] at hx
        rcases hall vw' hvw' with ⟨h1, _⟩ | ⟨_, _, h2⟩
        · obtain ⟨v, hc, d⟩ := hold vw' hvw' (by rw [h1, hcb]) q x hq hx
          exact ⟨ad, v, by rw [h1, hcb], hc, den_le hle h.out _ _ d⟩
        · obtain ⟨a', v, ea, hcv, d⟩ := hv3 q x hq hx
          refine ⟨a', v, ea, ?_, den_le hle h.out _ _ d⟩
          rw [cell_congr (W := W)]
          · exact hcv
          · exact setO_other (h2 a' ad ea hcb)
    · intro hl x hx
      rcases List.mem_append.1 hx with hx | hx
      · exact (hp hl).1 x hx
      · exact (hp hl).2 x hx
    · intro _
      rw [upd_same]
      refine ⟨_, List.mem_cons_self, by simp, ?_, by simpa using hroom, ?_⟩
      · intro a' ha'
        simp at ha'; subst ha'
        exact ⟨hNb, splice c (ad.off + F.length) us, T, fz, setO_same hlt, by rw [splice_size]; exact hcs, (fun q hq => by rw [frozen_setO hh]; exact hf q (by rw [splice_size] at hq; exact hq)), by rw [splice_size]; exact hfz⟩
      · intro vw' hvw'
        rcases List.mem_cons.1 hvw' with rfl | hvw'
        · exact .inl ⟨rfl, rfl⟩
        · rcases hall vw' hvw' with ⟨h1, h2⟩ | ⟨h1, h2, h3⟩
          · exact .inl ⟨by rw [h1, hcb], by rw [h2, hsame.2]⟩
          · refine .inr ⟨by omega, by simp; omega, fun a1 a2 e1 e2 => ?_⟩
            simp at e2; subst e2
            exact h3 a1 _ e1 hcb

/-- A row grows into new memory. -/
theorem Rel.appNew (h : Rel P N W0 ρ l W) {k sz cap : Nat} {lit lit' : Bool} {st st' : Z} {F ys : List SV} {c : Array Value} (T : TypeId) (hk : l[k]? = some (.r false lit st sz F)) (hst : st'.v.toNat = F.length) (hpos : 0 < ys.length)
    (hn : F.length + ys.length ≤ cap * sz) (hcap : cap * sz ≤ c.size) (hp : lit' = false → (∀ x ∈ F, plainV x = true) ∧ ∀ x ∈ ys, plainV x = true)
    (hd : ∀ (q : Nat) (x : SV), (F ++ ys)[q]? = some x → ∃ v, c[q]? = some v ∧ den ρ x v) :
    Rel P N W0 (upd ρ k (⟨some ⟨W.heap.size, 0, none⟩, F.length + ys.length, cap⟩ :: ρ k)) (l.set k (.r false lit' st' sz (F ++ ys))) (W.alloc (.cells c T)) := by
  obtain ⟨hsz, hvs, hpl, hown⟩ := h.blk k _ hk
  obtain ⟨cur, hcur, hcn, hcown, hcap', hall⟩ := hown rfl
  have hle : Le l.length ρ (upd ρ k (⟨some ⟨W.heap.size, 0, none⟩, F.length + ys.length, cap⟩ :: ρ k)) := le_upd (fun _ hv => List.mem_cons_of_mem _ hv)
  refine h.turn hk rfl (Below.allocW h _) (by simp) (fun i hi _ => heap_old hi) (fun _ hv => List.mem_cons_of_mem _ hv) ?_ ?_
  · intro vw' hvw' a' ha'
    rcases List.mem_cons.1 hvw' with rfl | hvw'
    · simp at ha'; subst ha'
      exact ⟨by simp, .inl (by simp)⟩
    · exact ⟨Nat.lt_of_lt_of_le (h.ids k vw' a' hvw' ha') (by simp), .inr ⟨vw', hvw', a', ha', rfl⟩⟩
  · refine ⟨hsz, ?_, ?_, ?_⟩
    · rw [upd_same]
      intro vw' hvw'
      rcases List.mem_cons.1 hvw' with rfl | hvw'
      · refine ⟨by simp, by simp, fun q x hq hx => ?_⟩
        obtain ⟨v, hv, d⟩ := hd q x hx
        exact ⟨_, v, rfl, by rw [Nat.zero_add, cell_new]; exact hv, den_le hle h.out _ _ d⟩
      · obtain ⟨hv1, hv2, hv3⟩ := hvs vw' hvw'
        refine ⟨by simp; omega, hv2, fun q x hq hx => ?_⟩
        rw [List.getElem?_append_left (by omega)] at hx
        obtain ⟨a', v, ea, hcv, d⟩ := hv3 q x hq hx
        refine ⟨a', v, ea, ?_, den_le hle h.out _ _ d⟩
        rw [cell_congr (W := W)]
        · exact hcv
        · exact heap_old (h.ids k vw' a' hvw' ea)
    · intro hl x hx
      rcases List.mem_append.1 hx with hx | hx
      · exact (hp hl).1 x hx
      · exact (hp hl).2 x hx
    · intro _
      rw [upd_same]
      refine ⟨_, List.mem_cons_self, by simp, ?_, by simpa using hn, ?_⟩
      · intro a' ha'
        simp at ha'; subst ha'
        exact ⟨h.hN, c, T, (0, 0), heap_new, by simpa using hcap, fun q _ => frozen_new, .inl rfl⟩
      · intro vw' hvw'
        rcases List.mem_cons.1 hvw' with rfl | hvw'
        · exact .inl ⟨rfl, rfl⟩
        · refine .inr ⟨?_, ?_, fun a1 a2 e1 e2 => ?_⟩
          · have := (hvs vw' hvw').1; omega
          · have := (hvs vw' hvw').1; simp; omega
          · simp at e2; subst e2
            have := h.ids k vw' a1 hvw' e1
            simp; omega

/-- An empty row of no memory. -/
theorem Rel.newEmpty (h : Rel P N W0 ρ l W) {lit : Bool} {sz : Nat} (hsz : 0 < sz) : Rel P N W0 (upd ρ l.length [⟨none, 0, 0⟩]) (l ++ [.r false lit (.l 0) sz []]) W := by
  refine h.push h.below (Nat.le_refl _) (fun _ _ => rfl) ?_ ⟨hsz, ?_, fun _ x hx => by simp at hx, ?_⟩
  · intro vw hv a ha
    simp only [List.mem_singleton] at hv
    subst hv
    cases ha
  · intro vw hv
    rw [upd_same, List.mem_singleton] at hv
    subst hv
    exact ⟨Nat.le_refl _, fun _ => ⟨rfl, rfl⟩, fun q x hq _ => by simp at hq⟩
  · intro _
    rw [upd_same]
    refine ⟨_, List.mem_singleton.2 rfl, rfl, fun a ha => by (cases ha), by simp, ?_⟩
    intro vw hv
    rw [List.mem_singleton] at hv
    subst hv
    exact .inl ⟨rfl, rfl⟩

theorem firstCells_nil {b : Option Addr} {c sz : Nat} {W : World} : (Builtin.firstCells sz 0 (.slice b 0 c)).run P W = .ok ([] : List Value).toArray W := by
  cases b with
  | none => rfl
  | some ad => simp [Builtin.firstCells, loadCells, loadCellsFrom, pure]

theorem upd_idW {ρ : Nms} {k : Nat} : upd ρ k (ρ k) = ρ := by
  funext j
  by_cases hj : j = k
  · subst hj; exact upd_same
  · exact upd_other hj
theorem drew_heap : W.drew.heap = W.heap := rfl

theorem s_app {c : Call} {t u e : TypeId} {D : TypeDesc} {x y : Operand} {x' y' : Opd} {sz : Nat} {zero : List SV} (ho : o.op = .call c) (hcal : c.callee = .builtin .append) (ht0 : c.argTypes[0]? = some t) (ht1 : c.argTypes[1]? = some u)
    (hx0 : c.args[0]? = some x) (hx1 : c.args[1]? = some y) (ht : P.underlying t = some (.slice e)) (hu : P.underlying u = some D) (hD : ∀ k, D ≠ .int k) (hn : szOf P e = some sz) (hzr : zeroOf P e = some zero) (h0 : sz ≠ 0)
    (hzl : zero.length = sz) (hby : ¬ P.bytesOf e > 1024) (hx : cOpd x = some x') (hy : cOpd y = some y') : Sound P o (.app sz x' y') := by
  intro N W0 W ρ l vs a K h hR hE
  have hdx := ev_ok hE hx
  have hdy := ev_ok hE hy
  obtain ⟨i, z, hi, hz, hdz⟩ := zeroOf_ok hzr
  have hzs : z.cells.size = sz := by have := denL_length (hdz ρ); simp at this; omega
  have hby' : i.bytes ≤ 1024 := by simp only [Program.bytesOf, hi, Option.map_some, Option.getD_some] at hby; omega
  have hop : ∀ {v' : Value} {W' : World}, (Builtin.append_ c.argTypes o.type (c.args.map a.eval)).run P W = .ok v' W' → (execOp a.eval o).run P W = .ok (.value v') W' := by
    intro v' W' hr
    simp [execOp, ho, resolve, hcal, invoke, builtin, hr]
  have hx0' : (c.args.map a.eval)[0]? = some (a.eval x) := by simp [hx0]
  have hx1' : (c.args.map a.eval)[1]? = some (a.eval y) := by simp [hx1]
  have hzc : ∀ n, (Builtin.zeroCells z.cells n).size = n * sz := fun n => by simp [Builtin.zeroCells, hzs]
  simp only [vop, vapp] at h
  split at h
  · exact h.elim
  rename_i ys m ylit hsrc
  split at h
  case isFalse => exact h.elim
  rename_i hsi
  obtain ⟨hm0, hyl, hpy, us, hus, hrun⟩ := src_ok hsrc hdy hR
  have hone := oneC_scalarsIf hsi hpy hus
  have hul : us.length = ys.length := (denL_length hus).symm
  obtain ⟨hlen, hcells⟩ := hrun W rfl
  obtain ⟨_, hcellsD⟩ := hrun W.drew rfl
  -- a new row
  have fresh : ∀ b, a.eval x = .slice b 0 0 → vnew (S0 P) l sz ys m ylit K → OpRuns P o a W (OpPost P N W0 ρ l K) := by
    intro b hb hv
    unfold vnew at hv
    obtain ⟨hbig, hK⟩ := zle_ok hv
    rw [zv_l] at hbig
    rw [hb] at hx0'
    simp only [len_eq, snoc_eq] at hK
    by_cases hz0 : m.v.toNat = 0
    · have hys : ys = [] := List.eq_nil_of_length_eq_zero (by rw [hyl, hz0]; simp)
      have hus0 : us = [] := List.eq_nil_of_length_eq_zero (by rw [hul, hys]; rfl)
      subst hys; subst hus0
      have hr := run_app_room (P := P) (W := W) (ty := o.type) ht0 ht1 hx0' hx1' ht hu hD hn hlen hcells (by omega) (W' := W) (by cases b <;> simp [storeCells, pure])
      rw [hz0] at hr
      refine .val (by simp [ho, isDefer]) (hop hr) ⟨_, _, _, hK, le_new hR _, by simp, hR.newEmpty (by omega), ?_⟩
      simp only [den]
      refine ⟨by simp [zv_l], hm0, _, by rw [upd_same]; exact List.mem_singleton.2 rfl, by simp [zv_l, hz0], ?_⟩
      simp only [SlVal, zv_l, hz0]
      exact ⟨by simp, trivial, b, rfl⟩
    · have hr := run_app_grow (P := P) (W := W) (ty := o.type) ht0 ht1 hx0' hx1' ht hu hD hi hz hn hlen hcellsD firstCells_nil (by omega) hby' (by omega)
      rw [Nat.zero_add] at hr
      have hge := grownCap_ge W m.v.toNat 0 e
      generalize grownCap W m.v.toNat 0 e = cap at hr hge
      have hmc : m.v.toNat * sz + (cap - m.v.toNat) * sz = cap * sz := by rw [← Nat.add_mul]; congr 1; omega
      refine .val (by simp [ho, isDefer]) (hop hr) ⟨_, _, _, hK, le_new hR _, by simp, (drew_rel hR).newR (cap := cap) e (by omega) ?_ ?_ hpy (fun q y' hq => ?_), ?_⟩
      · rw [hyl]; exact Nat.mul_le_mul_right _ hge
      · simp only [Array.size_append, List.size_toArray, hzc, List.length_nil, hul, hyl]
        omega
      · obtain ⟨v, hv', d⟩ := denL_get q y' hus hq
        have hql : q < us.length := (List.getElem?_eq_some_iff.1 hv').1
        refine ⟨v, ?_, d⟩
        rw [Array.getElem?_append_left (by simp; omega), Array.getElem?_append_right (by simp)]
        simpa using hv'
      · simp only [den]
        refine ⟨by simp [zv_l], hm0, _, by rw [upd_same]; exact List.mem_singleton.2 rfl, by simp only [zv_l]; rw [hyl]; simp, ?_⟩
        simp only [SlVal, zv_l]
        exact .inl ⟨cap, by simp, by omega, by simp, by simp⟩
  -- a row of ours that grows
  have row : ∀ (k : Nat) (ln : Z) (F : List SV) (lit lit' : Bool) (st st' : Z), ev vs x' = .sl k sz (.l 0) ln none → lget l k = .r false lit st sz F → ln.v.toNat * sz = F.length → st'.v.toNat = F.length →
      (lit' = false → (∀ x ∈ F, plainV x = true) ∧ ∀ x ∈ ys, plainV x = true) → ln.v + m.v ≤ 137438953472 →
      K (.sl k sz (.l 0) (zadd (S0 P) ln m) none) (lset l k (.r false lit' st' sz (F ++ ys))) → OpRuns P o a W (OpPost P N W0 ρ l K) := by
    intro k ln F lit lit' st st' he hF hfull hst hpp hbig hK
    rw [he] at hdx
    have hkB := lget_some hF (by simp)
    have hklt : k < l.length := (List.getElem?_eq_some_iff.1 hkB).1
    obtain ⟨_, hvs, _, hown⟩ := hR.blk k _ hkB
    simp only [den] at hdx
    obtain ⟨_, hl0, vw, hvw, hin, hsv⟩ := hdx
    rw [zv_l] at hin hsv
    have hv := hvs vw hvw
    have hvn : vw.n = F.length := by
      have := hv.1
      simp only [Int.toNat_zero, Nat.zero_add] at hin
      omega
    have ezz : (zadd (S0 P) ln m).v = ln.v + m.v := zadd_v _ _
    have ezn : (ln.v + m.v).toNat = ln.v.toNat + m.v.toNat := Int.toNat_add hl0 hm0
    have hyF : F.length + ys.length = (ln.v.toNat + m.v.toNat) * sz := by rw [Nat.add_mul, hfull, hyl]
    have grow : ∀ (b : Option Addr) (cp : Nat) (olds : List Value), a.eval x = .slice b ln.v.toNat cp → cp < ln.v.toNat + m.v.toNat → denL ρ F olds →
        (Builtin.firstCells sz ln.v.toNat (.slice b ln.v.toNat cp)).run P W.drew = .ok olds.toArray W.drew → ln.v.toNat ≤ cp → OpRuns P o a W (OpPost P N W0 ρ l K) := by
      intro b cp olds hb hlt hdo hfo hlc
      rw [hb] at hx0'
      have hr := run_app_grow (P := P) (W := W) (ty := o.type) ht0 ht1 hx0' hx1' ht hu hD hi hz hn hlen hcellsD hfo hlt hby' (by omega)
      have hge := grownCap_ge W (ln.v.toNat + m.v.toNat) cp e
      generalize grownCap W (ln.v.toNat + m.v.toNat) cp e = cap at hr hge
      have hol : olds.length = F.length := (denL_length hdo).symm
      have hmc : (ln.v.toNat + m.v.toNat) * sz + (cap - (ln.v.toNat + m.v.toNat)) * sz = cap * sz := by rw [← Nat.add_mul]; congr 1; omega
      have hpos : 0 < ys.length := by
        rw [hyl]
        exact Nat.mul_pos (by omega) (by omega)
      rw [lset_eq] at hK
      have hd2 : denL ρ (F ++ ys) (olds ++ us) := denL_append hdo hus
      refine .val (by simp [ho, isDefer]) (hop hr) ⟨_, _, _, hK, le_upd (fun _ hv => List.mem_cons_of_mem _ hv), by simp,
        (drew_rel hR).appNew (cap := cap) e hkB hst hpos ?_ ?_ hpp (fun q y' hq => ?_), ?_⟩
      · rw [hyF]; exact Nat.mul_le_mul_right _ hge
      · simp only [Array.size_append, List.size_toArray, hzc, hol, hul]
        omega
      · obtain ⟨v, hv', d⟩ := denL_get q y' hd2 hq
        have hql : q < (olds ++ us).length := (List.getElem?_eq_some_iff.1 hv').1
        refine ⟨v, ?_, d⟩
        rw [Array.getElem?_append_left (by simpa using hql)]
        simpa using hv'
      · simp only [den]
        rw [ezz, ezn]
        refine ⟨by simp [zv_l], by omega, _, by rw [upd_same]; exact List.mem_cons_self, by simp only [zv_l, Int.toNat_zero, Nat.zero_add]; rw [hyF]; exact Nat.le_refl _, ?_⟩
        simp only [SlVal, zv_l]
        exact .inl ⟨cap, by simp, by omega, by simp, by simp⟩
    have empty : ∀ b, a.eval x = .slice b 0 0 → ln.v.toNat = 0 → OpRuns P o a W (OpPost P N W0 ρ l K) := by
      intro b hb e0
      have hF0 : F = [] := List.eq_nil_of_length_eq_zero (by rw [← hfull, e0]; simp)
      by_cases hz0 : m.v.toNat = 0
      · have hys : ys = [] := List.eq_nil_of_length_eq_zero (by rw [hyl, hz0]; simp)
        have hus0 : us = [] := List.eq_nil_of_length_eq_zero (by rw [hul, hys]; rfl)
        subst hF0; subst hys; subst hus0
        rw [hb] at hx0'
        have hr := run_app_room (P := P) (W := W) (ty := o.type) ht0 ht1 hx0' hx1' ht hu hD hn hlen hcells (by omega) (W' := W) (by cases b <;> simp [storeCells, pure])
        rw [hz0] at hr
        rw [lset_eq] at hK
        have hR2 : Rel P N W0 ρ (l.set k (.r false lit' st' sz ([] ++ []))) W := by
          rw [← upd_idW (ρ := ρ) (k := k)]
          refine hR.turn hkB rfl hR.below (Nat.le_refl _) (fun _ _ _ => rfl) (fun _ hv => hv) (fun vw' hvw' a' ha' => ⟨hR.ids k vw' a' hvw' ha', .inr ⟨vw', hvw', a', ha', rfl⟩⟩) ?_
          rw [upd_idW]
          obtain ⟨cur, hcur, hcn, hcown, hcap, hall⟩ := hown rfl
          refine ⟨by omega, fun vw' hvw' => hvs vw' hvw', fun _ x hx => by simp at hx, fun _ => ⟨cur, hcur, hcn, hcown, hcap, fun vw' hvw' => ?_⟩⟩
          rcases hall vw' hvw' with h1 | ⟨_, h1, _⟩
          · exact .inl h1
          · simp at h1
        refine .val (by simp [ho, isDefer]) (hop hr) ⟨ρ, _, _, hK, Le.refl _ _, by simp, hR2, ?_⟩
        simp only [den]
        rw [ezz, ezn, e0, hz0]
        refine ⟨by simp [zv_l], by omega, vw, hvw, by simp [zv_l], ?_⟩
        simp only [SlVal, zv_l]
        cases vw.base with
        | none => exact ⟨by simp, by simp, b, rfl⟩
        | some ad => exact .inr ⟨by simp, ⟨b, rfl⟩, by simp⟩
      · refine grow b 0 [] (by rw [e0]; exact hb) (by omega) (by rw [hF0]; simp [denL]) (by rw [e0]; exact firstCells_nil) (by omega)
    unfold SlVal at hsv
    cases hbase : vw.base with
    | none =>
      rw [hbase] at hsv
      obtain ⟨_, e0, b, hb⟩ := hsv
      exact empty b hb e0
    | some ad =>
      rw [hbase] at hsv
      rcases hsv with ⟨cp, hb, hlc, _, hcap⟩ | ⟨e0, ⟨b, hb⟩, _⟩
      · simp only [Option.map_none, Int.toNat_zero, Nat.zero_add, Nat.zero_mul, Nat.add_zero] at hcap hb
        by_cases hroom : ln.v.toNat + m.v.toNat ≤ cp
        · -- in place
          have hcr : F.length + ys.length ≤ vw.cap * sz := by rw [hyF, ← hcap]; exact Nat.mul_le_mul_right _ hroom
          obtain ⟨W', hst', hR2⟩ := hR.appIn (st' := st') hkB hvw hbase hvn hcr hst hone hpp hus
          rw [hb] at hx0'
          have hr := run_app_room (P := P) (W := W) (ty := o.type) ht0 ht1 hx0' hx1' ht hu hD hn hlen hcells hroom (W' := W') (by simp only [addr_add]; rw [hfull]; exact hst')
          rw [lset_eq] at hK
          refine .val (by simp [ho, isDefer]) (hop hr) ⟨_, _, _, hK, le_upd (fun _ hv => List.mem_cons_of_mem _ hv), by simp, hR2, ?_⟩
          simp only [den]
          rw [ezz, ezn]
          refine ⟨by simp [zv_l], by omega, _, by rw [upd_same]; exact List.mem_cons_self, by simp only [zv_l, Int.toNat_zero, Nat.zero_add]; rw [hyF]; exact Nat.le_refl _, ?_⟩
          simp only [SlVal, zv_l]
          exact .inl ⟨cp, by simp, by omega, by simp; omega, by simp; omega⟩
        · obtain ⟨olds, hdo, hcell⟩ := exists_list (ρ := ρ) F (fun q => W.cell? ⟨ad.block, ad.off + q, none⟩) (fun q x hx => by
            obtain ⟨a', v, ea, hc, d⟩ := hv.2.2 q x (by rw [hvn]; exact (List.getElem?_eq_some_iff.1 hx).1) hx
            rw [hbase] at ea
            simp at ea; subst ea
            exact ⟨v, hc, d⟩)
          have hol : olds.length = ln.v.toNat * sz := by rw [hfull]; exact (denL_length hdo).symm
          have hl := run_loadCells_list (P := P) W.drew ⟨ad.block, ad.off, none⟩ olds (fun j u hj => by
            rw [addr_add, cell_congr (W := W) (W' := W.drew) rfl]
            exact hcell j u hj)
          rw [hol] at hl
          exact grow _ cp olds hb (by omega) hdo (by simp [Builtin.firstCells, hl]) hlc
      · exact empty b (by rw [hb]) e0
  split at h
  · -- nil
    rename_i he
    rw [he] at hdx
    simp only [den] at hdx
    exact fresh none hdx.1 h
  · -- no room
    rename_i k sz' off ln he
    rw [he] at hdx
    split at h
    case isFalse => exact h.elim
    rename_i hh
    obtain ⟨rfl, rfl, rfl⟩ := hh
    simp only [den] at hdx
    obtain ⟨_, _, vw, _, _, hsv⟩ := hdx
    have : ∃ b, a.eval x = .slice b 0 0 := by
      unfold SlVal at hsv
      split at hsv
      · obtain ⟨_, _, a', e⟩ := hsv; exact ⟨a', e⟩
      · rcases hsv with ⟨c, e1, _, _, e2⟩ | ⟨_, e1, _⟩
        · simp only [Option.map_some, zv_l] at e2
          have : c = 0 := by omega
          subst this
          exact ⟨_, e1⟩
        · exact e1
    obtain ⟨b, hb⟩ := this
    exact fresh b hb h
  · -- a row of ours
    rename_i k sz' off ln he
    split at h
    case isFalse => exact h.elim
    rename_i hh
    obtain ⟨rfl, rfl⟩ := hh
    split at h
    case h_2 => exact h.elim
    rename_i lit st sz'' F hF
    split at h
    case isFalse => exact h.elim
    rename_i hs2
    subst hs2
    split at h
    · rename_i ln'
      split at h
      case isFalse => exact h.elim
      rename_i hfull
      rw [lenS_eq] at hfull
      obtain ⟨hbig, hK⟩ := zle_ok h
      rw [zv_l, zadd_v] at hbig
      rw [lenS_eq, catS_eq] at hK
      exact row k (.l ln') F true true st (.l F.length) he hF (by rw [zv_l]; exact hfull) (by rw [zv_l]; simp) (fun e => by cases e) hbig hK
    · split at h
      case isFalse => exact h.elim
      rename_i hp
      obtain ⟨hc, h⟩ := h
      obtain ⟨hbig, hK⟩ := zle_ok h
      rw [zv_l, zadd_v] at hbig
      have hc' : ln.v * (sz : Int) = (F.length : Int) := by
        have : decide (ln.v * (sz : Int) = (F.length : Int)) = true := hc
        simpa using this
      have hl0 : 0 ≤ ln.v := by
        rw [he] at hdx
        simp only [den] at hdx
        exact hdx.2.1
      have hfull : ln.v.toNat * sz = F.length := by
        have e1 : ((ln.v.toNat : Nat) : Int) = ln.v := Int.toNat_of_nonneg hl0
        have e2 : ((ln.v.toNat * sz : Nat) : Int) = (F.length : Int) := by rw [Int.natCast_mul, e1]; exact hc'
        exact Int.ofNat.inj e2
      have hpF : ∀ x ∈ F, plainV x = true := by
        cases lit with
        | true => exact fun x hx => plains_mem hp.1 x hx
        | false => exact (hR.blk k _ (lget_some hF (by simp))).2.2.1 rfl
      have hpy2 : ∀ x ∈ ys, plainV x = true := by
        cases ylit with
        | true => exact fun x hx => plains_mem hp.2 x hx
        | false => exact hpy rfl
      exact row k ln F lit false st (.y F.length) he hF hfull (by rw [zv_y]; simp) (fun _ => ⟨hpF, hpy2⟩) hbig hK
  · exact h.elim
end
end Cz
