/- The engine, part L: from the conditions to the code: regions, control, calls, loops over functions. No condition. -/
import Derived.Test.YtjnpmipoenijdaaCzH
import Derived.Test.YtjnpmipoenijdaaCzM
import Derived.Test.YtjnpmipoenijdaaCzW
namespace Cz
open Go Go.RowKit
set_option linter.unusedSimpArgs false
set_option linter.unusedVariables false

section
variable {P : Program} {N : Nat} {W0 W : World} {ρ : Nms} {l : List Blk} {vs : List SV} {a : Act} {K : SV → List Blk → Prop} {o : Oper}

/-- Each operation that has a simplified form does what its condition says. -/
theorem op_sound {ao : AOp} (hc : convOp P o = some ao) : Sound P o ao := by
  unfold convOp at hc
  split at hc
  case h_1 x ho => -- move
    obtain ⟨x', hx, rfl⟩ := Option.map_eq_some_iff.1 hc
    exact s_move (.inl ho) hx
  case h_2 x ho => -- assign
    obtain ⟨x', hx, rfl⟩ := Option.map_eq_some_iff.1 hc
    exact s_move (.inr ho) hx
  case h_3 c x y ho =>
    simp only [Option.bind_eq_bind, Option.bind_eq_some_iff, Option.pure_def, Option.some.injEq] at hc
    obtain ⟨c', hc', x', hx', y', hy', rfl⟩ := hc
    exact s_pick ho hc' hx' hy'
  case h_4 t ho =>
    obtain ⟨cs, hz, rfl⟩ := Option.map_eq_some_iff.1 hc
    exact s_alloc ho hz
  case h_5 t x ho =>
    obtain ⟨x', hx, rfl⟩ := Option.map_eq_some_iff.1 hc
    exact s_box ho hx
  case h_6 t parts ho =>
    simp only [Option.bind_eq_bind, Option.bind_eq_some_iff] at hc
    obtain ⟨zero, hz, hc⟩ := hc
    split at hc
    · rename_i fs ht
      split at hc
      · cases hc
      · rename_i hall
        simp only [Option.bind_eq_some_iff, Option.pure_def, Option.some.injEq] at hc
        obtain ⟨ps, hps, rfl⟩ := hc
        refine s_build_struct ho ht hz ?_ hps
        cases hh : fs.all (fun f => (szOf P f.type).isSome) with
        | true => rfl
        | false => rw [hh] at hall; simp at hall
    · rename_i len e ht
      simp only [Option.bind_eq_some_iff, Option.pure_def, Option.some.injEq] at hc
      obtain ⟨n, hn, ps, hps, rfl⟩ := hc
      exact s_build_array ho ht hz hn hps
    · cases hc
  case h_7 t len parts ho =>
    split at hc
    · rename_i e ht
      simp only [Option.bind_eq_bind, Option.bind_eq_some_iff] at hc
      obtain ⟨n, hn, zero, hz, hc⟩ := hc
      split at hc
      · cases hc
      · rename_i hh
        simp only [Option.bind_eq_some_iff, Option.pure_def, Option.some.injEq] at hc
        obtain ⟨ps, hps, rfl⟩ := hc
        simp only [not_or] at hh
        exact s_buildS ho ht hz hn hh.1 (Decidable.not_not.1 hh.2.1) hh.2.2 hps
    · cases hc
  case h_8 t x ho =>
    simp only [Option.bind_eq_bind, Option.bind_eq_some_iff] at hc
    obtain ⟨g, hg', n, hn, hc⟩ := hc
    split at hc
    · cases hc
    · simp only [Option.bind_eq_some_iff, Option.pure_def, Option.some.injEq] at hc
      obtain ⟨x', hx, rfl⟩ := hc
      exact s_load ho hx hg' hn
  case h_9 t x y ho =>
    simp only [Option.bind_eq_bind, Option.bind_eq_some_iff, Option.pure_def, Option.some.injEq] at hc
    obtain ⟨n, hn, x', hx, y', hy, rfl⟩ := hc
    exact s_store ho hx hy hn
  case h_10 x ho =>
    obtain ⟨x', hx, rfl⟩ := Option.map_eq_some_iff.1 hc
    exact s_nilc ho hx
  case h_11 op t x y t' ho =>
    simp only [Option.bind_eq_bind, Option.bind_eq_some_iff] at hc
    obtain ⟨x', hx, y', hy, hc⟩ := hc
    have bin : ∀ bk, bkOf op = some bk → ao = .bin bk x' y' → Sound P o ao := by
      intro bk hb e
      subst e
      exact s_bin ho hb hx hy
    have eqa : (P.underlying t ≠ some .string) → (∀ k, P.underlying t ≠ some (.int k)) → (if P.eqGuardType P.depth t then none else do
        let sig ← sgOf P t
        match op with
        | .eql => some (AOp.eqA sig false x' y')
        | .neq => some (AOp.eqA sig true x' y')
        | _ => none) = some ao → Sound P o ao := by
      intro hns hnk hc
      split at hc
      · cases hc
      · rename_i hgd
        simp only [Option.bind_eq_bind, Option.bind_eq_some_iff] at hc
        obtain ⟨sig, hsg, hc⟩ := hc
        split at hc
        · simp only [Option.some.injEq] at hc; subst hc
          exact s_eqA ho rfl hsg (by simpa using hgd) hnk hns hx hy
        · simp only [Option.some.injEq] at hc; subst hc
          exact s_eqA ho rfl hsg (by simpa using hgd) hnk hns hx hy
        · cases hc
    cases ht : P.underlying t with
    | none => simp [ht] at hc
    | some D =>
      rw [ht] at hc
      cases D <;> simp only [reduceCtorEq] at hc
      case int k =>
        simp only [Option.bind_eq_some_iff, Option.pure_def, Option.some.injEq] at hc
        obtain ⟨bk, hb, rfl⟩ := hc
        exact bin bk hb rfl
      case string =>
        simp only [Option.bind_eq_some_iff, Option.pure_def, Option.some.injEq] at hc
        obtain ⟨bk, hb, rfl⟩ := hc
        exact bin bk hb rfl
      case bool => exact eqa (by simp [ht]) (by simp [ht]) hc
      case struct fs => exact eqa (by simp [ht]) (by simp [ht]) hc
      case array n e => exact eqa (by simp [ht]) (by simp [ht]) hc
      case func p r b =>
        split at hc
        · simp only [Option.some.injEq] at hc; subst hc
          exact s_eqN ho rfl (by simp only [Bool.false_eq_true, if_false]; exact ⟨p, r, b, ht⟩) hx hy
        · simp only [Option.some.injEq] at hc; subst hc
          exact s_eqN ho rfl (by simp only [Bool.false_eq_true, if_false]; exact ⟨p, r, b, ht⟩) hx hy
        · cases hc
      case slice p =>
        split at hc
        · simp only [Option.some.injEq] at hc; subst hc
          exact s_nilS ho rfl ⟨p, ht⟩ hx hy
        · simp only [Option.some.injEq] at hc; subst hc
          exact s_nilS ho rfl ⟨p, ht⟩ hx hy
        · cases hc
      case map p r =>
        split at hc
        · simp only [Option.some.injEq] at hc; subst hc
          exact s_eqN ho rfl (by simpa using ⟨p, r, ht⟩) hx hy
        · simp only [Option.some.injEq] at hc; subst hc
          exact s_eqN ho rfl (by simpa using ⟨p, r, ht⟩) hx hy
        · cases hc
  case h_12 t x ho =>
    obtain ⟨x', hx, rfl⟩ := Option.map_eq_some_iff.1 hc
    exact s_not ho hx
  case h_13 t x ho =>
    split at hc
    · obtain ⟨x', hx, rfl⟩ := Option.map_eq_some_iff.1 hc
      exact s_neg ho hx
    · cases hc
  case h_14 t u x ho =>
    simp only [Option.bind_eq_bind, Option.bind_eq_some_iff] at hc
    obtain ⟨x', hx, hc⟩ := hc
    split at hc
    · rename_i k0 k ht hu
      simp only [Option.some.injEq] at hc; subst hc
      exact s_cv ho ht hu hx
    · rename_i ht hu
      simp only [Option.some.injEq] at hc; subst hc
      exact s_cvSS ho ht hu hx
    · rename_i e ht hu
      split at hc
      · rename_i he
        simp only [Option.some.injEq] at hc; subst hc
        exact s_cvBS ho ht he hu hx
      · cases hc
    · rename_i e ht hu
      split at hc
      · rename_i he
        simp only [Option.some.injEq] at hc; subst hc
        exact s_cvSB ho ht hu he hx
      · cases hc
    · rename_i e e' ht hu
      split at hc
      · rename_i he
        obtain ⟨he, rfl⟩ := he
        simp only [Option.some.injEq] at hc; subst hc
        exact s_cvLL ho ht he hx
      · cases hc
    · cases hc
  case h_15 f fi c ho =>
    simp only [Option.bind_eq_bind, Option.bind_eq_some_iff, Option.pure_def, Option.some.injEq] at hc
    obtain ⟨fi', hf, c', hc', rfl⟩ := hc
    exact s_mkF ho hf hc'
  case h_16 t ho =>
    simp only [Option.some.injEq] at hc; subst hc
    exact s_mkM ho
  case h_17 t k n ho =>
    split at hc
    · rename_i kt e ht
      simp only [Option.some.injEq] at hc; subst hc
      exact s_mkMh ho ht
    · cases hc
  case h_18 t n c ho =>
    split at hc
    · rename_i e ht
      simp only [Option.bind_eq_bind, Option.bind_eq_some_iff] at hc
      obtain ⟨sz, hn, zero, hz, hc⟩ := hc
      split at hc
      · cases hc
      · rename_i hh
        simp only [not_or] at hh
        simp only [Option.bind_eq_some_iff, Option.pure_def, Option.some.injEq] at hc
        obtain ⟨n', hn', c', hc', rfl⟩ := hc
        exact s_mkS ho ht hn hz hh.1 (Decidable.not_not.1 hh.2.1) hh.2.2 hn' hc'
    · cases hc
  case h_19 t x lo hi mx ho =>
    split at hc
    · rename_i ht
      split at hc
      · cases hc
      · rename_i hm
        simp only [Option.bind_eq_bind, Option.bind_eq_some_iff, Option.pure_def, Option.some.injEq] at hc
        obtain ⟨x', hx, lo', hlo, hi', hhi, rfl⟩ := hc
        exact s_slcS ho (by cases mx with | none => rfl | some _ => simp at hm) ht hx hlo hhi
    · rename_i e ht
      simp only [Option.bind_eq_bind, Option.bind_eq_some_iff] at hc
      obtain ⟨sz, hn, hc⟩ := hc
      split at hc
      · cases hc
      · rename_i hh
        simp only [not_or, Bool.and_eq_true, not_and] at hh
        simp only [Option.bind_eq_some_iff, Option.pure_def, Option.some.injEq] at hc
        obtain ⟨x', hx, lo', hlo, hi', hhi, mx', hmx, rfl⟩ := hc
        refine s_slc ho ht hn hx hlo hhi hmx (fun hne e => ?_)
        cases mx with
        | none => simp [cOpt] at hmx; exact hne hmx.symm
        | some y => rw [e] at hh; simp at hh
    · cases hc
  case h_20 t x f ho =>
    split at hc
    · rename_i fs ht
      simp only [Option.bind_eq_bind, Option.bind_eq_some_iff] at hc
      obtain ⟨g, hg', n, hn, hc⟩ := hc
      split at hc
      · cases hc
      · rename_i h0
        simp only [Option.bind_eq_some_iff, Option.pure_def, Option.some.injEq] at hc
        obtain ⟨x', hx, rfl⟩ := hc
        exact s_fad ho hx ht hg' hn h0
    · cases hc
  case h_21 t x f ho =>
    split at hc
    · rename_i fs ht
      simp only [Option.bind_eq_bind, Option.bind_eq_some_iff] at hc
      obtain ⟨g, hg', n, hn, ag, ha, hc⟩ := hc
      split at hc
      · cases hc
      · simp only [Option.bind_eq_some_iff, Option.pure_def, Option.some.injEq] at hc
        obtain ⟨x', hx, rfl⟩ := hc
        exact s_fld ho hx ht hg' hn ha
    · cases hc
  case h_22 t x i ho =>
    split at hc
    · rename_i len e ht
      simp only [Option.bind_eq_bind, Option.bind_eq_some_iff] at hc
      obtain ⟨n, hn, hc⟩ := hc
      split at hc
      · cases hc
      · simp only [Option.bind_eq_some_iff, Option.pure_def, Option.some.injEq] at hc
        obtain ⟨x', hx, i', hi, rfl⟩ := hc
        exact s_iadA ho ht hn hx hi
    · rename_i e ht
      simp only [Option.bind_eq_bind, Option.bind_eq_some_iff] at hc
      obtain ⟨n, hn, hc⟩ := hc
      split at hc
      · cases hc
      · simp only [Option.bind_eq_some_iff, Option.pure_def, Option.some.injEq] at hc
        obtain ⟨x', hx, i', hi, rfl⟩ := hc
        exact s_iadS ho ht hn hx hi
    · cases hc
  case h_23 t x i ho =>
    split at hc
    · rename_i len e ht
      simp only [Option.bind_eq_bind, Option.bind_eq_some_iff] at hc
      obtain ⟨n, hn, ag, ha, hc⟩ := hc
      split at hc
      · cases hc
      · rename_i hh
        simp only [not_or] at hh
        simp only [Option.bind_eq_some_iff, Option.pure_def, Option.some.injEq] at hc
        obtain ⟨x', hx, i', hi, rfl⟩ := hc
        exact s_ixA ho ht hn ha hh.1 hx hi
    · rename_i ht
      simp only [Option.bind_eq_bind, Option.bind_eq_some_iff, Option.pure_def, Option.some.injEq] at hc
      obtain ⟨x', hx, i', hi, rfl⟩ := hc
      exact s_ixS ho ht hx hi
    · cases hc
  case h_24 t m k ok ho =>
    split at hc
    · rename_i kt e ht
      simp only [Option.bind_eq_bind, Option.bind_eq_some_iff, Option.pure_def, Option.some.injEq] at hc
      obtain ⟨zero, hz, sig, hsg, m', hm, k', hk, rfl⟩ := hc
      exact s_look ho ht hz hsg hm hk
    · cases hc
  case h_25 t m k x ho =>
    split at hc
    · rename_i kt e ht
      simp only [Option.bind_eq_bind, Option.bind_eq_some_iff, Option.pure_def, Option.some.injEq] at hc
      obtain ⟨sig, hsg, m', hm, k', hk, x', hx, rfl⟩ := hc
      exact s_mupd (.inl ho) ht hsg hm hk hx
    · cases hc
  case h_26 t m k x ho =>
    split at hc
    · rename_i kt e ht
      simp only [Option.bind_eq_bind, Option.bind_eq_some_iff, Option.pure_def, Option.some.injEq] at hc
      obtain ⟨sig, hsg, m', hm, k', hk, x', hx, rfl⟩ := hc
      exact s_mupd (.inr ho) ht hsg hm hk hx
    · cases hc
  case h_27 x n ho =>
    simp only [Option.bind_eq_bind, Option.bind_eq_some_iff, Option.pure_def, Option.some.injEq] at hc
    obtain ⟨x', hx, rfl⟩ := hc
    exact s_ext ho hx
  case h_28 c ho =>
    split at hc
    · rename_i f hcal
      simp only [Option.bind_eq_bind, Option.bind_eq_some_iff, Option.pure_def, Option.some.injEq] at hc
      obtain ⟨f', hf, args', ha, rfl⟩ := hc
      exact s_call ho hcal hf ha
    · rename_i hcal
      simp only [Option.bind_eq_bind, Option.bind_eq_some_iff] at hc
      obtain ⟨t, ht0, x, hx0, hc⟩ := hc
      split at hc
      · rename_i ht
        simp only [Option.bind_eq_some_iff, Option.pure_def, Option.some.injEq] at hc
        obtain ⟨x', hx, rfl⟩ := hc
        exact s_len ho hcal ht0 hx0 (by simpa using ht) hx
      · rename_i e ht
        simp only [Option.bind_eq_some_iff, Option.pure_def, Option.some.injEq] at hc
        obtain ⟨x', hx, rfl⟩ := hc
        exact s_len ho hcal ht0 hx0 (by simpa using ⟨e, ht⟩) hx
      · cases hc
    · rename_i hcal
      split at hc
      · rename_i x y hn
        simp only [Option.bind_eq_bind, Option.bind_eq_some_iff, Option.pure_def, Option.some.injEq] at hc
        obtain ⟨x', hx, y', hy, rfl⟩ := hc
        exact s_minmax ho (.inl ⟨hcal, rfl⟩) hn hx hy
      · cases hc
    · rename_i hcal
      split at hc
      · rename_i x y hn
        simp only [Option.bind_eq_bind, Option.bind_eq_some_iff, Option.pure_def, Option.some.injEq] at hc
        obtain ⟨x', hx, y', hy, rfl⟩ := hc
        exact s_minmax ho (.inr ⟨hcal, rfl⟩) hn hx hy
      · cases hc
    · rename_i hcal
      simp only [Option.bind_eq_bind, Option.bind_eq_some_iff] at hc
      obtain ⟨t, ht0, u, ht1, x, hx0, y, hx1, hc⟩ := hc
      split at hc
      · rename_i e e2 ht hu
        simp only [Option.bind_eq_some_iff] at hc
        obtain ⟨n, hn, zero, hz, hc⟩ := hc
        split at hc
        · cases hc
        · rename_i hh
          simp only [not_or] at hh
          simp only [Option.bind_eq_some_iff, Option.pure_def, Option.some.injEq] at hc
          obtain ⟨x', hx, y', hy, rfl⟩ := hc
          exact s_app ho hcal ht0 ht1 hx0 hx1 ht hu (by simp) hn hz hh.1 (Decidable.not_not.1 hh.2.1) hh.2.2 hx hy
      · rename_i e ht hu
        simp only [Option.bind_eq_some_iff] at hc
        obtain ⟨n, hn, zero, hz, hc⟩ := hc
        split at hc
        · cases hc
        · rename_i hh
          simp only [not_or] at hh
          simp only [Option.bind_eq_some_iff, Option.pure_def, Option.some.injEq] at hc
          obtain ⟨x', hx, y', hy, rfl⟩ := hc
          exact s_app ho hcal ht0 ht1 hx0 hx1 ht hu (by simp) hn hz hh.1 (Decidable.not_not.1 hh.2.1) hh.2.2 hx hy
      · cases hc
    · cases hc
  case h_29 => cases hc

theorem EnvOk.put {vs : List SV} {t : Array Value} (h : EnvOk ρ vs t) (q : Nat) {x : SV} {v : Value} (hd : den ρ x v) : EnvOk ρ (Cz.put vs q x) (t.setIfInBounds q v) := by
  intro i y hy
  rw [put_eq] at hy
  by_cases hi : i = q
  · subst hi
    have hlt : i < vs.length := by
      have := (List.getElem?_eq_some_iff.1 hy).1
      simpa using this
    rw [List.getElem?_set_self hlt] at hy
    simp at hy; subst hy
    obtain ⟨u, hu, _⟩ := h i vs[i] (List.getElem?_eq_getElem hlt)
    have : i < t.size := (Array.getElem?_eq_some_iff.1 hu).1
    exact ⟨v, by simp [this], hd⟩
  · rw [List.getElem?_set_ne (Ne.symm hi)] at hy
    obtain ⟨u, hu, d⟩ := h i y hy
    exact ⟨u, by simp [Ne.symm hi, hu], d⟩

theorem EnvOk.putO {vs : List SV} {a : Act} (h : EnvOk ρ vs a.tmps) (d : Option Nat) {x : SV} {v : Value} (hd : den ρ x v) : EnvOk ρ (Cz.putO vs d x) (a.put d v).tmps := by
  cases d with
  | none => exact h
  | some q => exact h.put q hd

/-- A slot whose value is known may be said again. -/
theorem EnvOk.say {vs : List SV} {t : Array Value} (h : EnvOk ρ vs t) (q : Nat) {x : SV} (hd : ∀ v, t[q]? = some v → den ρ x v) : EnvOk ρ (Cz.put vs q x) t := by
  intro i y hy
  rw [put_eq] at hy
  by_cases hi : i = q
  · subst hi
    have hlt : i < vs.length := by
      have := (List.getElem?_eq_some_iff.1 hy).1
      simpa using this
    rw [List.getElem?_set_self hlt] at hy
    simp at hy; subst hy
    obtain ⟨u, hu, _⟩ := h i vs[i] (List.getElem?_eq_getElem hlt)
    exact ⟨u, hu, hd u hu⟩
  · rw [List.getElem?_set_ne (Ne.symm hi)] at hy
    exact h i y hy

theorem EnvOk.kill {vs : List SV} {t : Array Value} (h : EnvOk ρ vs t) : ∀ (ds : List Nat), EnvOk ρ (Cz.puts vs ds .any) t
  | [] => h
  | d :: ds => by
    have := h.say d (x := .any) (fun _ _ => by simp [den])
    exact EnvOk.kill this ds

theorem put_defers (a : Act) (d : Option Nat) (v : Value) : (a.put d v).defers = a.defers := by cases d <;> rfl

theorem NextR.mono {R R' : Value → World → Prop} (h : ∀ v w, R v w → R' v w) : ∀ {r : Result Next}, NextR P R r → NextR P R' r := by
  intro r hr
  unfold NextR at hr ⊢
  split at hr
  · exact h _ _ hr
  · exact h _ _ hr
  · exact Calls.mono hr fun e w' ⟨v, e1, hv⟩ => ⟨v, e1, h _ _ hv⟩
  · exact fun c cs => let ⟨v, w', h1, h2⟩ := hr c cs; ⟨v, w', h _ _ h1, h2⟩
  · exact hr.elim

theorem Rg.mono {ops : Array Oper} {Q Q' : Act → World → Prop} (h : ∀ a w, Q a w → Q' a w) : ∀ (is : List Nat) (a : Act) (w : World), Rg P ops Q is a w → Rg P ops Q' is a w
  | [], a, w, hr => h a w hr
  | i :: is, a, w, hr => by
    simp only [Rg] at hr ⊢
    split at hr
    · exact Rg.mono h is a w hr
    · split at hr
      · rename_i hw
        rw [if_pos hw]
        exact ⟨hr.1, NextR.mono (fun v w' hh => Rg.mono h is _ w' hh) hr.2⟩
      · rename_i hw
        rw [if_neg hw]
        exact Rg.mono h is _ w hr

/-- What a region of operations leaves. -/
def RgPost (P : Program) (N : Nat) (W0 : World) (m : Nat) (ρ : Nms) (mk : List Nat) (R : List SV → List Blk → Prop) : Act → World → Prop := fun a' W' =>
  ∃ ρ' vs' l', R vs' l' ∧ Le m ρ ρ' ∧ m ≤ l'.length ∧ Rel P N W0 ρ' l' W' ∧ EnvOk ρ' vs' a'.tmps ∧ MkOk ρ' mk a'.defers

def boolOf : Value → Option Bool
  | .bool b => some b
  | _ => none

theorem yielded_eq {ops : Array Oper} {tmps : Array Value} {j : Nat} {x : Oper} {d : Nat} {v : Value} (hx : ops[j]? = some x) (hd : x.dst = some d) (hv : tmps[d]? = some v) :
    yielded ops tmps j = boolOf v := by
  unfold yielded
  simp only [hx, Option.bind_some, hd, hv]
  cases v <;> rfl

/-- A list of operations, in the text's order. -/
theorem vrg_sound {ops : Array Oper} {R : List SV → List Blk → Prop} (m : Nat) :
    ∀ (aos : List AO) (j : Nat), (ops.toList.drop j).mapM (convAO P ops) = some aos → ∀ (N : Nat) (W0 W : World) (ρ : Nms) (l : List Blk) (vs : List SV) (a : Act) (mk : List Nat),
      vrg (S0 P) aos vs l R → Rel P N W0 ρ l W → EnvOk ρ vs a.tmps → MkOk ρ mk a.defers → m ≤ l.length →
      Rg P ops (RgPost P N W0 m ρ mk R) (List.range' j aos.length) a W
  | [], j, hc, N, W0, W, ρ, l, vs, a, mk, h, hR, hE, hM, hm => by
    simp only [List.length_nil, List.range'_zero, Rg]
    exact ⟨ρ, vs, l, h, Le.refl _ _, hm, hR, hE, hM⟩
  | ao :: aos, j, hc, N, W0, W, ρ, l, vs, a, mk, h, hR, hE, hM, hm => by
    have hj : j < ops.toList.length := by
      rcases Nat.lt_or_ge j ops.toList.length with h1 | h1
      · exact h1
      · rw [List.drop_eq_nil_of_le h1] at hc; simp at hc
    rw [List.drop_eq_getElem_cons hj] at hc
    simp only [List.mapM_cons, Option.bind_eq_bind, Option.bind_eq_some_iff, Option.pure_def, Option.some.injEq, List.cons.injEq] at hc
    obtain ⟨ao', hao, aos', hrest, rfl, rfl⟩ := hc
    have hgo : ops[j]? = some (ops.toList[j]) := by simp at hj; simp [hj]
    generalize ops.toList[j] = o at *
    simp only [List.length_cons, List.range'_succ, Rg, hgo]
    simp only [convAO, Option.bind_eq_bind, Option.bind_eq_some_iff] at hao
    obtain ⟨op, hop, hao⟩ := hao
    have skip : ∀ (vs : List SV), EnvOk ρ vs a.tmps → vrg (S0 P) aos' (putO vs o.dst .un) l R → Rg P ops (RgPost P N W0 m ρ mk R) (List.range' (j + 1) aos'.length) (a.put o.dst undef) W := by
      intro vs hE h
      exact vrg_sound m aos' (j + 1) hrest N W0 W ρ l _ (a.put o.dst undef) mk h hR (hE.putO o.dst (by simp [den])) (by rw [put_defers]; exact hM) hm
    have step : ∀ (vs : List SV), EnvOk ρ vs a.tmps → vop (S0 P) op vs l (fun v l' => vrg (S0 P) aos' (putO vs o.dst v) l' R) →
        OpRuns P o a W (fun v W' => Rg P ops (RgPost P N W0 m ρ mk R) (List.range' (j + 1) aos'.length) (a.put o.dst v) W') := by
      intro vs hE h
      obtain ⟨hd, hn⟩ := op_sound hop N W0 W ρ l vs a _ h hR hE
      refine ⟨hd, NextR.mono ?_ hn⟩
      rintro v W' ⟨ρ', sv, l', hK, hle, hll, hR', hdv⟩
      have hE' : EnvOk ρ' vs a.tmps := hE.le hle hR.out
      have hM' : MkOk ρ' mk (a.put o.dst v).defers := by rw [put_defers]; exact MkOk.le hle hR.out _ _ hM
      refine Rg.mono ?_ _ _ _ (vrg_sound m aos' (j + 1) hrest N W0 W' ρ' l' _ (a.put o.dst v) mk hK hR' (hE'.putO o.dst hdv) hM' (by omega))
      rintro a2 W2 ⟨ρ2, vs2, l2, r1, r2, r3⟩
      exact ⟨ρ2, vs2, l2, r1, (hle.mono hm).trans r2, r3⟩
    split at hao
    · rename_i hgd
      simp only [Option.pure_def, Option.some.injEq] at hao
      subst hao
      have hw : Region.wanted o (yielded ops a.tmps) = true := by simp [Region.wanted, hgd]
      rw [if_pos hw]
      simp only [vrg] at h
      exact step vs hE h
    · rename_i jj want hgd
      simp only [Option.bind_eq_some_iff, Option.pure_def, Option.some.injEq] at hao
      obtain ⟨x, hx, d, hd, rfl⟩ := hao
      simp only [vrg] at h
      have hwd : Region.wanted o (yielded ops a.tmps) = (yielded ops a.tmps jj == some want) := by simp [Region.wanted, hgd]
      by_cases hun : ∃ v, a.tmps[d]? = some v ∧ den ρ (nth vs d) v
      · obtain ⟨v, hv, hdn⟩ := hun
        have hy := yielded_eq hx hd hv
        have say : ∀ b, v = .bool b → EnvOk ρ (put vs d (ofB b)) a.tmps := by
          intro b hb
          refine hE.say d fun u hu => ?_
          rw [hv] at hu; simp at hu; subst hu
          rw [hb]; cases b <;> simp [den, ofB]
        have fin : ∀ b, v = .bool b →
            (b = true → if want then vop (S0 P) op (put vs d .tt) l (fun v l' => vrg (S0 P) aos' (putO (put vs d .tt) o.dst v) l' R) else vrg (S0 P) aos' (putO (put vs d .tt) o.dst .un) l R) →
            (b = false → if want then vrg (S0 P) aos' (putO (put vs d .ff) o.dst .un) l R else vop (S0 P) op (put vs d .ff) l (fun v l' => vrg (S0 P) aos' (putO (put vs d .ff) o.dst v) l' R)) →
            (if Region.wanted o (yielded ops a.tmps) then OpRuns P o a W (fun v W' => Rg P ops (RgPost P N W0 m ρ mk R) (List.range' (j + 1) aos'.length) (a.put o.dst v) W')
              else Rg P ops (RgPost P N W0 m ρ mk R) (List.range' (j + 1) aos'.length) (a.put o.dst undef) W) := by
          intro b hb h1 h2
          rw [hwd, hy, hb, boolOf]
          cases b <;> cases want
          · rw [if_pos (by simp)]; exact step _ (say _ hb) (by simpa [ofB] using h2 rfl)
          · rw [if_neg (by simp)]; exact skip _ (say _ hb) (by simpa [ofB] using h2 rfl)
          · rw [if_neg (by simp)]; exact skip _ (say _ hb) (by simpa [ofB] using h1 rfl)
          · rw [if_pos (by simp)]; exact step _ (say _ hb) (by simpa [ofB] using h1 rfl)
        split at h
        · rename_i hnu
          rw [hnu] at hdn
          simp only [den] at hdn
          rw [hwd, hy, hdn, if_neg (by simp [undef, boolOf])]
          exact skip vs hE h
        · obtain ⟨b, hb, h1, h2⟩ := brv_ok h hdn
          exact fin b hb h1 h2
      · have hnone : nth vs d = .any := by
          rw [nth_eq, List.getD_eq_getElem?_getD]
          cases hq : vs[d]? with
          | none => rfl
          | some y =>
            obtain ⟨v, hv, hdv⟩ := hE d y hq
            exact absurd ⟨v, hv, by rw [nth_eq, List.getD_eq_getElem?_getD, hq]; exact hdv⟩ hun
        rw [hnone] at h
        simp only [brv] at h

/-! ### Control -/
theorem RoOk.le {cx : Cx} {ρ ρ' : Nms} {rr : Option Nat} (h : RoOk ρ cx rr) (hl : Le cx.m ρ ρ') : RoOk ρ' cx rr := by
  unfold RoOk at h ⊢
  split
  · rename_i hr; rw [hr] at h; exact h
  · rename_i k hr
    rw [hr] at h
    obtain ⟨hk, vw, hv, r⟩ := h
    exact ⟨hk, vw, hl k hk vw hv, r⟩

theorem KPost.le {cx : Cx} {ρ ρ' : Nms} {K : VK} {ex : Ex} {a : Act} {w : World} (hl : Le cx.m ρ ρ') (h : KPost P N W0 cx ρ' K ex a w) : KPost P N W0 cx ρ K ex a w := by
  obtain ⟨ρ2, e2, l2, h1, h2, h3⟩ := h
  exact ⟨ρ2, e2, l2, h1, hl.trans h2, h3⟩

theorem here {cx : Cx} {ρ : Nms} {K : VK} {ex : Ex} {e : Env} {l : List Blk} {a : Act} {w : World} (hs : St P N W0 ρ e l a w) (hm : cx.m ≤ l.length) (hK : K ex e l) : KPost P N W0 cx ρ K ex a w :=
  ⟨ρ, e, l, hK, Le.refl _ _, hm, hs⟩

theorem findL_ok {kl : Nat → List Nat} {g : Nat} : ∀ {c : Code} {ir : IR}, conv P kl c = some ir → (findLabel c g).isSome = (findL ir g).isSome
  | .seq x y, ir, h => by
    simp only [conv, Option.bind_eq_bind, Option.bind_eq_some_iff, Option.pure_def, Option.some.injEq] at h
    obtain ⟨i1, h1, i2, h2, rfl⟩ := h
    have e1 := findL_ok (g := g) h1
    have e2 := findL_ok (g := g) h2
    simp only [findLabel, findL]
    cases hf : findLabel x g <;> cases hg : findL i1 g <;> rw [hf, hg] at e1 <;> simp at e1
    · exact e2
    · rfl
  | .label l', ir, h => by
    simp only [conv, Option.some.injEq] at h; subst h
    simp only [findLabel, findL]
    split <;> rfl
  | .skip, ir, h => by simp only [conv, Option.some.injEq] at h; subst h; rfl
  | .region id ops false, ir, h => by
    simp only [conv, Option.bind_eq_bind, Option.bind_eq_some_iff, Option.pure_def, Option.some.injEq] at h
    obtain ⟨_, _, rfl⟩ := h; rfl
  | .region id ops true, ir, h => by
    simp only [conv, Option.bind_eq_bind, Option.bind_eq_some_iff, Option.pure_def, Option.some.injEq] at h
    obtain ⟨_, _, rfl⟩ := h; rfl
  | .cond c x y, ir, h => by
    simp only [conv, Option.bind_eq_bind, Option.bind_eq_some_iff, Option.pure_def, Option.some.injEq] at h
    obtain ⟨_, _, _, _, _, _, rfl⟩ := h; rfl
  | .block id b, ir, h => by simp only [conv, Option.map_eq_some_iff] at h; obtain ⟨_, _, rfl⟩ := h; rfl
  | .loop b, ir, h => by simp only [conv, Option.map_eq_some_iff] at h; obtain ⟨_, _, rfl⟩ := h; rfl
  | .rangeFunc f ps x y, ir, h => by
    simp only [conv, Option.bind_eq_bind, Option.bind_eq_some_iff, Option.pure_def, Option.some.injEq] at h
    obtain ⟨_, _, _, _, _, _, rfl⟩ := h; rfl
  | .exit id, ir, h => by simp only [conv, Option.some.injEq] at h; subst h; rfl
  | .scope b, ir, h => by simp only [conv, Option.map_eq_some_iff] at h; obtain ⟨_, _, rfl⟩ := h; rfl
  | .goto l, ir, h => by simp only [conv, Option.some.injEq] at h; subst h; rfl
  | .ret, ir, h => by simp only [conv, Option.some.injEq] at h; subst h; rfl
  | .refuse w, ir, h => by simp [conv] at h

theorem mapM_length {α β : Type} {f : α → Option β} : ∀ {l : List α} {m : List β}, l.mapM f = some m → m.length = l.length
  | [], m, h => by simp at h; subst h; rfl
  | x :: l, m, h => by
    simp only [List.mapM_cons, Option.bind_eq_bind, Option.bind_eq_some_iff, Option.pure_def, Option.some.injEq] at h
    obtain ⟨y, _, ys, hys, rfl⟩ := h
    simp [mapM_length hys]

/-- The end of a range over a function. -/
theorem rf_end {cx : Cx} {ρ ρ' : Nms} {K : VK} {vs : List SV} {mk : List Nat} {a : Act} {l2 : List Blk} {W2 : World} {k b : Nat}
    (hR : Rel P N W0 ρ' l2 W2) (hk1 : ⟨some ⟨b, 0, none⟩, 0, 0⟩ ∈ ρ' k) (hle : Le cx.m ρ ρ') (hm : cx.m ≤ l2.length)
    (hE : EnvOk ρ' vs a.tmps) (hM : MkOk ρ' mk a.defers)
    (hK : match lget l2 k with
      | .lp _ _ _ _ .ready => K .normal ⟨vs, mk⟩ (lset l2 k .dead)
      | .lp _ _ _ _ (.done ex) => K ex ⟨vs, mk⟩ (lset l2 k .dead)
      | _ => False) : EndLoop (KPost P N W0 cx ρ K) a b W2 := by
  have main : ∀ vs' ps asg body ph (ex : Ex), lget l2 k = .lp vs' ps asg body ph → (∀ L, PhOk ph L → L.state ≠ .busy ∧ ex.jump = L.pending) → K ex ⟨vs, mk⟩ (lset l2 k .dead) → EndLoop (KPost P N W0 cx ρ K) a b W2 := by
    intro vs' ps asg body ph ex hl hph hKe
    have hkB := lget_some hl (by simp)
    obtain ⟨b', L, ⟨e1, hN⟩, hh, _, _, _, _, hPh⟩ := hR.blk k _ hkB
    rw [e1, List.mem_singleton] at hk1
    simp at hk1; subst hk1
    obtain ⟨h1, h2⟩ := hph L hPh
    have hlt := lt_of_heap hh
    have hup : upd ρ' k (ρ' k) = ρ' := by
      funext j
      by_cases hj : j = k
      · subst hj; exact upd_same
      · exact upd_other hj
    refine ⟨L, hh, h1, ex, h2, ρ', ⟨vs, mk⟩, _, hKe, hle, by rw [lset_eq]; simpa using hm, ?_, hE, hM⟩
    rw [lset_eq, ← hup]
    refine hR.turn hkB rfl ?_ (by rw [setO_size]; exact Nat.le_refl _) ?_ (fun _ hv => hv) ?_ trivial
    · exact hR.below.trans ⟨rfl, rfl, rfl, by rw [setO_size]; exact Nat.le_refl _, fun j hj => setO_other (by omega)⟩
    · intro i _ hi
      exact setO_other (fun hib => hi _ (by rw [e1]; exact List.mem_singleton.2 rfl) _ rfl hib.symm)
    · intro vw hvw' a' ha'
      exact ⟨by rw [setO_size]; exact hR.ids k vw a' hvw' ha', .inr ⟨vw, hvw', a', ha', rfl⟩⟩
  split at hK
  · rename_i hl
    exact main _ _ _ _ _ .normal hl (fun L hL => ⟨by rw [hL.1]; simp, by rw [hL.2]; rfl⟩) hK
  · rename_i ex hl
    exact main _ _ _ _ _ ex hl (fun L hL => ⟨by rw [hL.1]; simp, hL.2.symm⟩) hK
  · exact hK.elim
end
end Cz
