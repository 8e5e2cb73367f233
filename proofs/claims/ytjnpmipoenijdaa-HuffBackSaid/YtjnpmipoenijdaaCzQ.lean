/- The engine, part Q: rules for jumps and for rounds of a range over a function. No condition. -/
import Derived.Test.YtjnpmipoenijdaaCzP
namespace Cz
open Go Go.RowKit
set_option linter.unusedSimpArgs false
set_option linter.unusedVariables false

section
variable {P : Program} {N : Nat} {W0 W : World} {ρ : Nms} {l : List Blk}

/-! ### Jumps -/
theorem findL_conv {kl : Nat → List Nat} {g : Nat} : ∀ {c : Code} {ir : IR} {r : Code} {i : IR}, conv P kl c = some ir → findLabel c g = some r → findL ir g = some i → conv P kl r = some i
  | .seq x y, ir, r, i, h, hr, hi => by
    simp only [conv, Option.bind_eq_bind, Option.bind_eq_some_iff, Option.pure_def, Option.some.injEq] at h
    obtain ⟨i1, h1, i2, h2, rfl⟩ := h
    have e1 := findL_ok (g := g) h1
    simp only [findLabel, findL] at hr hi
    cases hx : findLabel x g with
    | some r1 =>
      rw [hx] at e1
      cases hq : findL i1 g with
      | some j1 =>
        simp only [hx, hq, Option.some.injEq] at hr hi
        subst hr; subst hi
        simp only [conv, findL_conv h1 hx hq, h2, Option.bind_eq_bind, Option.bind_some, Option.pure_def]
      | none => rw [hq] at e1; simp at e1
    | none =>
      rw [hx] at e1
      cases hq : findL i1 g with
      | some j1 => rw [hq] at e1; simp at e1
      | none =>
        simp only [hx, hq] at hr hi
        exact findL_conv h2 hr hi
  | .label l', ir, r, i, h, hr, hi => by
    simp only [conv, Option.some.injEq] at h; subst h
    simp only [findLabel, findL] at hr hi
    split at hr
    · rename_i hl
      rw [if_pos hl] at hi
      simp only [Option.some.injEq] at hr hi
      subst hr; subst hi; rfl
    · cases hr
  | .skip, _, _, _, _, hr, _ => by simp [findLabel] at hr
  | .region _ _ _, _, _, _, _, hr, _ => by simp [findLabel] at hr
  | .cond _ _ _, _, _, _, _, hr, _ => by simp [findLabel] at hr
  | .block _ _, _, _, _, _, hr, _ => by simp [findLabel] at hr
  | .loop _, _, _, _, _, hr, _ => by simp [findLabel] at hr
  | .rangeFunc _ _ _ _, _, _, _, _, hr, _ => by simp [findLabel] at hr
  | .exit _, _, _, _, _, hr, _ => by simp [findLabel] at hr
  | .scope _, _, _, _, _, hr, _ => by simp [findLabel] at hr
  | .goto _, _, _, _, _, hr, _ => by simp [findLabel] at hr
  | .ret, _, _, _, _, hr, _ => by simp [findLabel] at hr
  | .refuse _, _, _, _, _, hr, _ => by simp [findLabel] at hr

/-- A jump goes on at its label, within the same scope. -/
theorem jump_in {cx : Cx} {b i : IR} {g : Nat} {e : Env} {K : VK} (hi : findL b g = some i)
    (h : vc (S0 P) cx i (scpK (S0 P) cx b K) e l) : (S0 P).jump cx b g e l K := by
  intro c kl hc rest hr N W0 ρ rr a W hs hro hm
  have hcr := findL_conv hc hr hi
  refine inScope_of (Wp.mono (vc_sound rest hcr h N W0 ρ rr a W hs hro hm) ?_)
  rintro ex a' w' ⟨ρ', e', l', hK, hle, hm', hs'⟩
  cases ex with
  | normal => exact ⟨ρ', e', l', hK, hle, hm', hs'⟩
  | exit id => exact ⟨ρ', e', l', hK, hle, hm', hs'⟩
  | ret => exact ⟨ρ', e', l', hK, hle, hm', hs'⟩
  | goto g' =>
    have hf := findL_ok (g := g') hc
    simp only [Ex.inScope]
    cases hq : findLabel c g' with
    | none =>
      rw [hq] at hf
      cases hj : findL b g' with
      | none => simp only [scpK, hj] at hK; exact ⟨ρ', e', l', hK, hle, hm', hs'⟩
      | some r => rw [hj] at hf; simp at hf
    | some rest' =>
      rw [hq] at hf
      cases hj : findL b g' with
      | none => rw [hj] at hf; simp at hf
      | some r =>
        simp only [scpK, hj] at hK
        exact From.mono (hK c kl hc rest' hq N W0 ρ' rr a' w' hs' (hro.le hle) hm') fun _ _ _ q => q.le hle

/-! ### Rounds -/
def putps : List SV → List Nat → List SV → List SV
  | vs, p :: ps, x :: xs => putps (put vs p x) ps xs
  | vs, _, _ => vs

theorem putps_ok : ∀ (ps : List Nat) (xs : List SV) (us : List Value) (vs : List SV) (t : Array Value), denL ρ xs us → EnvOk ρ vs t → ps.length = xs.length →
    EnvOk ρ (putps vs ps xs) ((ps.zip us).foldl (fun t p => t.setIfInBounds p.1 p.2) t)
  | [], [], [], vs, t, _, hE, _ => by simpa [putps] using hE
  | [], [], _ :: _, _, _, hd, _, _ => by simp [denL] at hd
  | [], _ :: _, _, _, _, _, _, hl => by simp at hl
  | _ :: _, [], _, _, _, _, _, hl => by simp at hl
  | _ :: _, _ :: _, [], _, _, hd, _, _ => by simp [denL] at hd
  | p :: ps, x :: xs, u :: us, vs, t, hd, hE, hl => by
    simp only [denL] at hd
    simp only [putps, List.zip_cons_cons, List.foldl_cons]
    exact putps_ok ps xs us _ _ hd.2 (hE.put p hd.1) (by simpa using hl)

theorem upd_id {ρ : Nms} {k : Nat} : upd ρ k (ρ k) = ρ := by
  funext j
  by_cases hj : j = k
  · subst hj; exact upd_same
  · exact upd_other hj

/-- A loop record's phase turns. -/
theorem Rel.setLp (hR : Rel P N W0 ρ l W) {k b : Nat} {L : Loop} {vs : List SV} {ps : List Nat} {asg body : IR} {ph ph' : Ph} (hk : l[k]? = some (.lp vs ps asg body ph))
    (hb : One ρ k N b) (hh : W.heap[b]? = some (.loop L)) (s : LoopState) (p : Option Code) (hph : PhOk ph' { L with state := s, pending := p }) :
    Rel P N W0 ρ (lset l k (.lp vs ps asg body ph')) (setO W b (.loop { L with state := s, pending := p })) := by
  obtain ⟨b', L', ⟨e1, hN⟩, hh', h1, h2, h3, h4, h5⟩ := hR.blk k _ hk
  have : b' = b := by
    have := e1.symm.trans hb.1
    simpa using this
  subst this
  rw [hh] at hh'
  simp only [Option.some.injEq, Obj.loop.injEq] at hh'
  subst hh'
  have hlt := lt_of_heap hh
  rw [lset_eq, ← upd_id (ρ := ρ) (k := k)]
  refine hR.turn hk rfl ?_ (by rw [setO_size]; exact Nat.le_refl _) ?_ (fun _ hv => hv) ?_ ?_
  · exact hR.below.trans ⟨rfl, rfl, rfl, by rw [setO_size]; exact Nat.le_refl _, fun j hj => setO_other (by omega)⟩
  · intro i _ hi
    exact setO_other (fun hib => hi _ (by rw [e1]; exact List.mem_singleton.2 rfl) _ rfl hib.symm)
  · intro vw hvw' a' ha'
    exact ⟨by rw [setO_size]; exact hR.ids k vw a' hvw' ha', .inr ⟨vw, hvw', a', ha', rfl⟩⟩
  · rw [upd_id]
    exact ⟨b', _, ⟨e1, hN⟩, setO_same hlt, h1, h2, h3, h4, hph⟩

def phEnd : Ex → Ph
  | .normal => .ready
  | e => .done e
def Ex.goes : Ex → Bool
  | .normal => true
  | _ => false

theorem yld_in {k : Nat} {args vs : List SV} {ps : List Nat} {asg body : IR} {K : SV → List Blk → Prop} (hk : lget l k = .lp vs ps asg body .ready) (hn : ps.length = args.length)
    (h : vc (S0 P) ⟨some k, len l⟩ asg (fun ex e1 l1 => match ex with
      | .normal => match lget l1 k with
        | .lp vs1 ps1 asg1 body1 .ready => vc (S0 P) ⟨some k, len l⟩ body (fun ex _ l2 => match lget l2 k with
            | .lp vs2 ps2 asg2 body2 _ => K (ofB ex.goes) (lset l2 k (.lp vs2 ps2 asg2 body2 (phEnd ex)))
            | _ => False) e1 (lset l1 k (.lp vs1 ps1 asg1 body1 .busy))
        | _ => False
      | _ => False) ⟨putps vs ps args, []⟩ l) : (S0 P).yld k args l K := by
  intro N W0 ρ W vals b hR hd hb
  have hkB := lget_some hk (by simp)
  have hklt : k < l.length := (List.getElem?_eq_some_iff.1 hkB).1
  obtain ⟨b', L, hOne, hh, hps, ⟨kl1, hasg⟩, ⟨kl2, hbody⟩, hE, hPh⟩ := hR.blk k _ hkB
  obtain ⟨vw, hvw, a0, ha0, hb0⟩ := hb
  have e1 := hOne.1
  rw [e1, List.mem_singleton] at hvw
  subst hvw
  simp at ha0; subst ha0
  simp at hb0; subst hb0
  have hl := denL_length hd
  have hlen : vals.size = L.params.size := by
    rw [← Array.length_toList, ← Array.length_toList, hps, ← hl, hn]
  have hrun : (Instr.yield b' vals).run P W = .ok (.round b' L.fn ((L.params.zip vals).foldl (fun tmps (t, a) => tmps.setIfInBounds t a) L.tmps) L.assign L.body) W := by
    simp [Instr.yield, Instr.getLoop, getObj, bind, Sem.bind, Sem.run, hh, pure, hlen]
  rw [hrun]
  have hfold : (L.params.zip vals).foldl (fun tmps (t, a) => tmps.setIfInBounds t a) L.tmps = (ps.zip vals.toList).foldl (fun t p => t.setIfInBounds p.1 p.2) L.tmps := by
    rw [← Array.foldl_toList, Array.toList_zip, hps]
  have hview : ∀ ρ' : Nms, Le l.length ρ ρ' → (⟨some ⟨b', 0, none⟩, 0, 0⟩ : View) ∈ ρ' k := fun ρ' hle => hle k hklt _ (by rw [e1]; exact List.mem_singleton.2 rfl)
  have find : ∀ (ρ' : Nms) (l1 : List Blk) (w : World) vs1 ps1 asg1 body1 ph1, Le l.length ρ ρ' → Rel P N W0 ρ' l1 w → lget l1 k = .lp vs1 ps1 asg1 body1 ph1 →
      ∃ L1, One ρ' k N b' ∧ w.heap[b']? = some (.loop L1) ∧ PhOk ph1 L1 := by
    intro ρ' l1 w vs1 ps1 asg1 body1 ph1 hle hR1 hl1
    obtain ⟨b2, L1, hO, hh1, _, _, _, _, hP⟩ := hR1.blk k _ (lget_some hl1 (by simp))
    have hv := hview ρ' hle
    rw [hO.1, List.mem_singleton] at hv
    simp at hv
    subst hv
    exact ⟨L1, hO, hh1, hP⟩
  show RoundR P b' L.fn _ L.assign L.body W _
  refine round_of ?_
  have hcx : RoOk ρ ⟨some k, len l⟩ (some b') := ⟨by rw [len_eq]; exact hklt, _, hview ρ (Le.refl _ _), b', rfl, rfl⟩
  have hst : St P N W0 ρ ⟨putps vs ps args, []⟩ l { tmps := (L.params.zip vals).foldl (fun tmps (t, a) => tmps.setIfInBounds t a) L.tmps, defers := [] } W :=
    ⟨hR, by rw [hfold]; exact putps_ok ps args _ _ _ hd hE hn, trivial⟩
  refine Wp.mono (vc_sound L.assign hasg h N W0 ρ (some b') _ W hst hcx (by rw [len_eq]; exact Nat.le_refl _)) ?_
  rintro ex a1 w1 ⟨ρ1, ee1, l1, hK1, hle1, hm1, hs1⟩
  simp only [len_eq] at hle1 hm1
  cases ex with
  | exit id => exact hK1.elim
  | goto g => exact hK1.elim
  | ret => exact hK1.elim
  | normal =>
    simp only at hK1
    split at hK1
    case h_2 => exact hK1.elim
    rename_i vs1 ps1 asg1 body1 hl1
    obtain ⟨L1, hO1, hh1, hP1⟩ := find ρ1 l1 w1 _ _ _ _ _ hle1 hs1.rel hl1
    refine ⟨rfl, L1, hh1, hP1.1, ?_⟩
    have hR1 := hs1.rel.setLp (lget_some hl1 (by simp)) hO1 hh1 .busy L1.pending (ph' := .busy) ⟨rfl, hP1.2⟩
    have hcx1 : RoOk ρ1 ⟨some k, len l⟩ (some b') := ⟨by rw [len_eq]; exact hklt, _, hview ρ1 hle1, b', rfl, rfl⟩
    refine Wp.mono (vc_sound L.body hbody hK1 N W0 ρ1 (some b') _ _ ⟨hR1, hs1.env, hs1.mks⟩ hcx1 (by rw [len_eq, lset_eq]; simpa using hm1)) ?_
    rintro ex2 a2 w2 ⟨ρ2, ee2, l2, hK2, hle2, hm2, hs2⟩
    simp only [len_eq] at hle2 hm2
    split at hK2
    case h_2 => exact hK2.elim
    rename_i vs2 ps2 asg2 body2 ph2 hl2
    have hle12 : Le l.length ρ ρ2 := hle1.trans hle2
    obtain ⟨L2, hO2, hh2, hP2⟩ := find ρ2 l2 w2 _ _ _ _ _ hle12 hs2.rel hl2
    refine ⟨L2, hh2, ρ2, ofB ex2.goes, _, hK2, hle12, by rw [lset_eq]; simpa using hm2, ?_, ?_⟩
    · refine hs2.rel.setLp (lget_some hl2 (by simp)) hO2 hh2 _ _ ?_
      cases ex2 <;> exact ⟨rfl, rfl⟩
    · cases ex2 <;> simp [Ex.goes, Ex.jump, ofB, den]
end
end Cz
