/- The engine, part Z: loops whose rounds leave memory behind that nobody names any more. No condition. -/
import Derived.Test.YtjnpmipoenijdaaE3
import Derived.ProofKit
import Derived.OpenShut
import Derived.Deep.Slices
import Derived.Carry
namespace Cz
open Go Go.RowKit
set_option linter.unusedSimpArgs false
set_option linter.unusedVariables false

mutual
theorem ren_id : ∀ (x : SV), ren id x = x
  | .tt => rfl
  | .ff => rfl
  | .b _ => rfl
  | .i _ _ => rfl
  | .s _ => rfl
  | .p _ _ => rfl
  | .pe _ _ _ _ => rfl
  | .sl _ _ _ _ _ => rfl
  | .ag cs => by simp only [ren, renL_id cs]
  | .tp cs => by simp only [ren, renL_id cs]
  | .fn _ a c => by simp only [ren, renL_id a, renL_id c]
  | .yl _ => rfl
  | .m _ => rfl
  | .re _ => rfl
  | .un => rfl
  | .any => rfl
theorem renL_id : ∀ (xs : List SV), renL id xs = xs
  | [] => rfl
  | x :: xs => by simp only [renL, ren_id x, renL_id xs]
end

def takeB : Nat → List Blk → List Blk
  | 0, _ => []
  | _ + 1, [] => []
  | n + 1, b :: l => b :: takeB n l
theorem takeB_eq : ∀ (n : Nat) (l : List Blk), takeB n l = l.take n
  | 0, _ => by simp [takeB]
  | _ + 1, [] => by simp [takeB]
  | n + 1, b :: l => by simp [takeB, takeB_eq n l]

def low (m : Nat) : Nat → Bool := fun k => Nat.blt k m
def gcM (m : Nat) : List (SV × SV) → Bool
  | [] => true
  | (k, v) :: r => refsB (low m) k && refsB (low m) v && gcM m r
def gcB (m : Nat) : Blk → Bool
  | .c cs => refsBL (low m) cs
  | .r _ lit _ _ F => match lit with | true => refsBL (low m) F | false => true
  | .m es => gcM m es
  | .lp vs _ _ _ _ => refsBL (low m) vs
  | _ => true
def gcBs (m : Nat) : List Blk → Bool
  | [] => true
  | b :: l => gcB m b && gcBs m l
def gcN (m : Nat) : List Nat → Bool
  | [] => true
  | k :: l => Nat.blt k m && gcN m l
/-- Does nothing that is kept name what is not? -/
def gcOk (m : Nat) (e : Env) (l : List Blk) : Bool := Nat.ble m (len l) && refsBL (low m) e.vs && gcN m e.mks && gcBs m (takeB m l)

def res (m : Nat) (ρ : Nms) : Nms := fun k => if k < m then ρ k else []
section
variable {P : Program} {N : Nat} {W0 W : World} {ρ : Nms} {l : List Blk}

theorem den_res {m : Nat} {x : SV} {v : Value} (hr : refsB (low m) x = true) (hd : den ρ x v) : den (res m ρ) x v := by
  have := den_ren (ok := low m) (f := id) (ρ := ρ) (ρ' := res m ρ) (fun k hk vw hv => by
    simp only [low, Nat.blt_eq] at hk
    simpa [res, hk] using hv) x v hr hd
  rwa [ren_id] at this
theorem denL_res {m : Nat} {xs : List SV} {vs : List Value} (hr : refsBL (low m) xs = true) (hd : denL ρ xs vs) : denL (res m ρ) xs vs := by
  have := denL_ren (ok := low m) (f := id) (ρ := ρ) (ρ' := res m ρ) (fun k hk vw hv => by
    simp only [low, Nat.blt_eq] at hk
    simpa [res, hk] using hv) xs vs hr hd
  rwa [renL_id] at this
theorem refsBL_at {ok : Nat → Bool} : ∀ {xs : List SV}, refsBL ok xs = true → ∀ (q : Nat) (x : SV), xs[q]? = some x → refsB ok x = true
  | [], _, q, x, h => by simp at h
  | y :: ys, h, 0, x, hx => by
    simp only [refsBL, Bool.and_eq_true] at h
    simp only [List.getElem?_cons_zero, Option.some.injEq] at hx; subst hx; exact h.1
  | y :: ys, h, q + 1, x, hx => by
    simp only [refsBL, Bool.and_eq_true] at h
    exact refsBL_at h.2 q x (by simpa using hx)

theorem env_res {m : Nat} {vs : List SV} {t : Array Value} (hr : refsBL (low m) vs = true) (h : EnvOk ρ vs t) : EnvOk (res m ρ) vs t := fun q x hx =>
  let ⟨v, e, d⟩ := h q x hx
  ⟨v, e, den_res (refsBL_at hr q x hx) d⟩
theorem view_res {m : Nat} {F : List SV} {vw : View} (hr : ∀ x ∈ F, refsB (low m) x = true) (h : ViewOk W ρ F vw) : ViewOk W (res m ρ) F vw := by
  refine ⟨h.1, h.2.1, fun q x hq hx => ?_⟩
  obtain ⟨a, v, e, c, d⟩ := h.2.2 q x hq hx
  exact ⟨a, v, e, c, den_res (hr x (List.mem_of_getElem? hx)) d⟩
theorem plain_noref {ok : Nat → Bool} {x : SV} (h : plainV x = true) : refsB ok x = true := by
  cases x <;> simp [plainV] at h <;> rfl
theorem refsBL_mem {ok : Nat → Bool} {xs : List SV} (h : refsBL ok xs = true) : ∀ x ∈ xs, refsB ok x = true := by
  intro x hx
  obtain ⟨q, hq⟩ := List.getElem?_of_mem hx
  exact refsBL_at h q x hq
theorem map_res {m : Nat} : ∀ {es : List (SV × SV)} {es' : List MapEntry}, gcM m es = true → MapRel ρ es es' → MapRel (res m ρ) es es'
  | [], [], _, h => h
  | [], _ :: _, _, h => h
  | (_, _) :: _, [], _, h => h
  | (k, v) :: r, e :: es, hg, h => by
    simp only [gcM, Bool.and_eq_true] at hg
    exact ⟨den_res hg.1.1 h.1, den_res hg.1.2 h.2.1, map_res hg.2 h.2.2⟩

theorem blk_res {m k : Nat} {B : Blk} (hk : k < m) (hg : gcB m B = true) (h : BlkOk P N W ρ k B) : BlkOk P N W (res m ρ) k B := by
  have e : res m ρ k = ρ k := by simp [res, hk]
  cases B with
  | c cs =>
    obtain ⟨b, e1, hv, ho⟩ := h
    exact ⟨b, e.trans e1, view_res (refsBL_mem hg) hv, ho⟩
  | r ro lit st sz F =>
    obtain ⟨h0, hv, hp, ho⟩ := h
    refine ⟨h0, ?_, hp, ?_⟩
    · rw [e]
      intro vw hm
      refine view_res ?_ (hv vw hm)
      cases lit with
      | true => exact refsBL_mem hg
      | false => exact fun x hx => plain_noref (hp rfl x hx)
    · rw [e]; exact ho
  | m es =>
    obtain ⟨b, es', clock, ⟨e1, hN⟩, hh, hm⟩ := h
    exact ⟨b, es', clock, ⟨e.trans e1, hN⟩, hh, map_res hg hm⟩
  | df =>
    obtain ⟨b, ⟨e1, hN⟩, hh⟩ := h
    exact ⟨b, ⟨e.trans e1, hN⟩, hh⟩
  | lp vs ps asg body ph =>
    obtain ⟨b, L, ⟨e1, hN⟩, hh, h1, h2, h3, h4, h5⟩ := h
    exact ⟨b, L, ⟨e.trans e1, hN⟩, hh, h1, h2, h3, env_res hg h4, h5⟩
  | dead => trivial

theorem gcBs_at {m : Nat} : ∀ {l : List Blk}, gcBs m l = true → ∀ (k : Nat) (B : Blk), l[k]? = some B → gcB m B = true
  | [], _, k, B, h => by simp at h
  | b :: l, h, 0, B, hB => by
    simp only [gcBs, Bool.and_eq_true] at h
    simp only [List.getElem?_cons_zero, Option.some.injEq] at hB; subst hB; exact h.1
  | b :: l, h, k + 1, B, hB => by
    simp only [gcBs, Bool.and_eq_true] at h
    exact gcBs_at h.2 k B (by simpa using hB)
theorem mks_res {m : Nat} : ∀ {ks : List Nat} {ds : List Deferred}, gcN m ks = true → MkOk ρ ks ds → MkOk (res m ρ) ks ds
  | [], [], _, h => h
  | [], _ :: _, _, h => h
  | _ :: _, [], _, h => h
  | k :: ks, d :: ds, hg, ⟨⟨vw, hv, r⟩, h⟩ => by
    simp only [gcN, Bool.and_eq_true, Nat.blt_eq] at hg
    exact ⟨⟨vw, by simpa [res, hg.1] using hv, r⟩, mks_res hg.2 h⟩

/-- What nobody names is forgotten. -/
theorem St.gc {m : Nat} {e : Env} {a : Act} (h : St P N W0 ρ e l a W) (hg : gcOk m e l = true) : St P N W0 (res m ρ) e (takeB m l) a W := by
  simp only [gcOk, Bool.and_eq_true, Nat.ble_eq, len_eq] at hg
  obtain ⟨⟨⟨hm, hv⟩, hk⟩, hb⟩ := hg
  rw [takeB_eq] at hb ⊢
  have hR := h.rel
  have hmem : ∀ {k : Nat} {vw : View}, vw ∈ res m ρ k → vw ∈ ρ k := by
    intro k vw hv
    unfold res at hv
    split at hv
    · exact hv
    · cases hv
  refine ⟨⟨hR.below, hR.le, fun k hk => ?_, fun k vw a hv ha => hR.ids k vw a (hmem hv) ha, fun k B hB => ?_, ?_, ?_⟩, env_res hv h.env, mks_res hk h.mks⟩
  · simp only [List.length_take] at hk
    simp only [res]; rw [if_neg (by omega)]
  · have hkm : k < m := by
      have := (List.getElem?_eq_some_iff.1 hB).1
      simp only [List.length_take] at this; omega
    have hB' : l[k]? = some B := by rw [List.getElem?_take] at hB; simpa [hkm] using hB
    exact blk_res hkm (gcBs_at hb k B hB) (hR.blk k B hB')
  · intro k k' B vw vw' a a' hB hw hne hv hv' ha ha'
    have hkm : k < m := by
      have := (List.getElem?_eq_some_iff.1 hB).1
      simp only [List.length_take] at this; omega
    have hB' : l[k]? = some B := by rw [List.getElem?_take] at hB; simpa [hkm] using hB
    exact hR.sep k k' B vw vw' a a' hB' hw hne (hmem hv) (hmem hv') ha ha'
  · intro k B vw a hB hw hv ha
    have hkm : k < m := by
      have := (List.getElem?_eq_some_iff.1 hB).1
      simp only [List.length_take] at this; omega
    have hB' : l[k]? = some B := by rw [List.getElem?_take] at hB; simpa [hkm] using hB
    exact hR.own k B vw a hB' hw (hmem hv) ha

theorem le_res {m n : Nat} (h : n ≤ m) : Le n ρ (res m ρ) := fun k hk vw hv => by simp only [res]; rw [if_pos (by omega)]; exact hv

/-- A loop whose rounds leave what nobody names any more. -/
theorem loop_gc (ds : List Nat) (m : Nat) (I : Nat → Env → List Blk → Prop) {cx : Cx} {b : IR} {K : VK} (hcm : cx.m ≤ m)
    (step : ∀ n e l, I n e l → vc (S0 P) cx b (fun ex e' l' => match ex with | .normal => gcOk m (e'.forget ds) l' = true ∧ ∃ n', n' < n ∧ I n' (e'.forget ds) (takeB m l') | ex => K ex e' l') e l)
    (n : Nat) {e : Env} {l : List Blk} (hg : gcOk m (e.forget ds) l = true) (h : I n (e.forget ds) (takeB m l)) : (S0 P).loop cx b e l K := by
  have lenm : ∀ {e : Env} {l : List Blk}, gcOk m e l = true → m ≤ (takeB m l).length := by
    intro e l hg
    simp only [gcOk, Bool.and_eq_true, Nat.ble_eq, len_eq] at hg
    rw [takeB_eq]; simp [hg.1.1.1]
  have main : ∀ n e l, I n e l → m ≤ l.length → ∀ c kl, conv P kl c = some b → WP P cx (.loop c) K e l := by
    intro n
    induction n using Nat.strongRecOn with
    | ind n ih =>
      intro e l h _ c kl hc N W0 ρ rr a W hs hr hm
      refine wp_loop (Wp.mono (vc_sound c hc (step n e l h) N W0 ρ rr a W hs hr hm) ?_)
      rintro ex a' w' ⟨ρ', e', l', hK, hle, hm', hs'⟩
      cases ex with
      | normal =>
        obtain ⟨hg, n', hn, hI⟩ := hK
        have hlm := lenm hg
        have hs2 : St P N W0 (res m ρ') (e'.forget ds) (takeB m l') a' w' := St.gc ⟨hs'.rel, hs'.env.kill ds, hs'.mks⟩ hg
        have hle2 : Le cx.m ρ (res m ρ') := hle.trans (le_res hcm)
        exact Wp.mono (ih n' hn _ _ hI hlm c kl hc N W0 (res m ρ') rr a' w' hs2 (hr.le hle2) (by omega)) fun _ _ _ q => q.le hle2
      | exit id => exact ⟨ρ', e', l', hK, hle, hm', hs'⟩
      | goto g => exact ⟨ρ', e', l', hK, hle, hm', hs'⟩
      | ret => exact ⟨ρ', e', l', hK, hle, hm', hs'⟩
  intro c kl hc N W0 ρ rr a W hs hr hm
  have hlm := lenm hg
  have hs2 : St P N W0 (res m ρ) (e.forget ds) (takeB m l) a W := St.gc ⟨hs.rel, hs.env.kill ds, hs.mks⟩ hg
  exact Wp.mono (main n _ _ h hlm c kl hc N W0 (res m ρ) rr a W hs2 (hr.le (le_res hcm)) (by omega)) fun _ _ _ q => q.le (le_res hcm)

theorem s_loop_gc {S : Sy} (hS : S0 P = S) (ds : List Nat) (m : Nat) (I : Nat → Env → List Blk → Prop) {cx : Cx} {b : IR} {K : VK} (n : Nat) {e : Env} {l : List Blk} (hcm : Nat.ble cx.m m = true)
    (hg : gcOk m (e.forget ds) l = true) (h : I n (e.forget ds) (takeB m l))
    (step : ∀ n e l, I n e l → vc S cx b (fun ex e' l' => match ex with | .normal => gcOk m (e'.forget ds) l' = true ∧ ∃ n', n' < n ∧ I n' (e'.forget ds) (takeB m l') | ex => K ex e' l') e l) : S.loop cx b e l K := by
  subst hS
  exact loop_gc ds m I (Nat.le_of_ble_eq_true hcm) step n hg h

/-! ### Saying less of a state -/
/-- A frame's slots: these, nothing said of all others. -/
def slots : List (Nat × SV) → List SV → List SV
  | [], vs => vs
  | (q, x) :: r, vs => slots r (put vs q x)
def At (vs : List SV) : List (Nat × SV) → Prop
  | [] => True
  | (q, x) :: r => Sub (nth vs q) x ∧ At vs r

inductive SubM : List (SV × SV) → List (SV × SV) → Prop where
  | nil : SubM [] []
  | cons {k k' v v' : SV} {r r' : List (SV × SV)} (hk : Sub k k') (hv : Sub v v') (h : SubM r r') : SubM ((k, v) :: r) ((k', v') :: r')
theorem SubM.rel {es es' : List (SV × SV)} (h : SubM es es') : ∀ {ρ : Nms} {ms : List MapEntry}, MapRel ρ es ms → MapRel ρ es' ms := by
  induction h with
  | nil => exact fun h => h
  | cons hk hv _ ih =>
    intro ρ ms hm
    match ms, hm with
    | e :: ms, hm => exact ⟨hk.of _ _ hm.1, hv.of _ _ hm.2.1, ih hm.2.2⟩
inductive SubB : Blk → Blk → Prop where
  | m {es es' : List (SV × SV)} (h : SubM es es') : SubB (.m es) (.m es')
  | rfl {b : Blk} : SubB b b
  | c {cs cs' : List SV} (h : SubL cs cs') : SubB (.c cs) (.c cs')
  | r {ro lit lit' : Bool} {st st' : Z} {sz : Nat} {F F' : List SV} (h : FSub F F') (hs : st.v = st'.v) (hp : plains F' = true) : SubB (.r ro lit st sz F) (.r ro lit' st' sz F')
  | dead {b : Blk} : SubB b .dead
def SubBs : Nat → List Blk → List Blk → Prop
  | 0, _, [] => True
  | n + 1, b :: l, b' :: l' => SubB b b' ∧ SubBs n l l'
  | _, _, _ => False

theorem view_sub {F F' : List SV} {vw : View} (hs : FSub F F') (h : ViewOk W ρ F vw) : ViewOk W ρ F' vw := hs.view h

theorem blk_sub {k : Nat} {B B' : Blk} (h : SubB B B') (hB : BlkOk P N W ρ k B) : BlkOk P N W ρ k B' ∧ (B'.wr = true → B.wr = true) := by
  cases h with
  | rfl => exact ⟨hB, id⟩
  | m h =>
    obtain ⟨b, es', clock, h1, h2, h3⟩ := hB
    exact ⟨⟨b, es', clock, h1, h2, h.rel h3⟩, fun _ => rfl⟩
  | c h =>
    obtain ⟨b, e, hv, ho⟩ := hB
    have hl := h.fsub.1
    exact ⟨⟨b, by rw [← hl]; exact e, by rw [← hl]; exact view_sub h.fsub hv, by rw [← hl]; exact ho⟩, fun _ => rfl⟩
  | @r ro lit lit' st st' sz F F' h hs hp =>
    obtain ⟨h0, hv, _, ho⟩ := hB
    refine ⟨⟨h0, fun vw hm => view_sub h (hv vw hm), fun _ x hx => plains_mem' hp x hx, fun hr => ?_⟩, by cases ro <;> simp [Blk.wr]⟩
    obtain ⟨cur, hc, hn, h1, h2, h3⟩ := ho hr
    refine ⟨cur, hc, by rw [← h.1]; exact hn, h1, h2, fun vw hm => ?_⟩
    rw [← hs, ← h.1]; exact h3 vw hm
  | dead => exact ⟨trivial, fun h => by simp [Blk.wr] at h⟩

theorem SubBs.at : ∀ {m : Nat} {l l2 : List Blk}, SubBs m l l2 → l2.length = m ∧ m ≤ l.length ∧ ∀ (k : Nat) (B' : Blk), l2[k]? = some B' → ∃ B, l[k]? = some B ∧ SubB B B'
  | 0, _, [], _ => ⟨rfl, Nat.zero_le _, fun k B' h => by simp at h⟩
  | 0, _, _ :: _, h => by simp [SubBs] at h
  | m + 1, [], _, h => by simp [SubBs] at h
  | m + 1, _ :: _, [], h => by simp [SubBs] at h
  | m + 1, b :: l, b' :: l2, h => by
    simp only [SubBs] at h
    obtain ⟨h1, h2, h3⟩ := h.2.at
    refine ⟨by simp [h1], by simp; omega, fun k B' hB => ?_⟩
    cases k with
    | zero => simp only [List.getElem?_cons_zero, Option.some.injEq] at hB; subst hB; exact ⟨b, by simp, h.1⟩
    | succ k => simp only [List.getElem?_cons_succ] at hB ⊢; exact h3 k B' hB

theorem subL_env {vs vs2 : List SV} {t : Array Value} (h : SubL vs vs2) (hE : EnvOk ρ vs t) : EnvOk ρ vs2 t := by
  intro q x hx
  obtain ⟨x', hx', hd⟩ := h.fsub.2 q x hx
  obtain ⟨v, e, d⟩ := hE q x' hx'
  exact ⟨v, e, hd _ _ d⟩

/-- What nobody names any more is forgotten, and less is said of all else. -/
theorem St.less {m : Nat} {e : Env} {vs2 : List SV} {l2 : List Blk} {a : Act} (h : St P N W0 ρ e l a W) (hv : SubL e.vs vs2) (hb : SubBs m l l2) (hg : gcOk m ⟨vs2, e.mks⟩ l2 = true) :
    St P N W0 (res m ρ) ⟨vs2, e.mks⟩ l2 a W := by
  obtain ⟨h1, h2, h3⟩ := hb.at
  have hR := h.rel
  have hst : St P N W0 ρ ⟨vs2, e.mks⟩ (l2 ++ l.drop m) a W := by
    refine ⟨⟨hR.below, hR.le, fun k hk => hR.out k ?_, hR.ids, fun k B hB => ?_, ?_, ?_⟩, subL_env hv h.env, h.mks⟩
    · simp only [List.length_append, List.length_drop] at hk; omega
    · rcases Nat.lt_or_ge k m with hkm | hkm
      · rw [List.getElem?_append_left (by omega)] at hB
        obtain ⟨B0, hB0, hs⟩ := h3 k B hB
        exact (blk_sub hs (hR.blk k B0 hB0)).1
      · rw [List.getElem?_append_right (by omega), List.getElem?_drop, h1, show m + (k - m) = k by omega] at hB
        exact hR.blk k B hB
    · intro k k' B vw vw' a a' hB hw hne hv hv' ha ha'
      rcases Nat.lt_or_ge k m with hkm | hkm
      · rw [List.getElem?_append_left (by omega)] at hB
        obtain ⟨B0, hB0, hs⟩ := h3 k B hB
        exact hR.sep k k' B0 vw vw' a a' hB0 ((blk_sub hs (hR.blk k B0 hB0)).2 hw) hne hv hv' ha ha'
      · rw [List.getElem?_append_right (by omega), List.getElem?_drop, h1, show m + (k - m) = k by omega] at hB
        exact hR.sep k k' B vw vw' a a' hB hw hne hv hv' ha ha'
    · intro k B vw a hB hw hv ha
      rcases Nat.lt_or_ge k m with hkm | hkm
      · rw [List.getElem?_append_left (by omega)] at hB
        obtain ⟨B0, hB0, hs⟩ := h3 k B hB
        exact hR.own k B0 vw a hB0 ((blk_sub hs (hR.blk k B0 hB0)).2 hw) hv ha
      · rw [List.getElem?_append_right (by omega), List.getElem?_drop, h1, show m + (k - m) = k by omega] at hB
        exact hR.own k B vw a hB hw hv ha
  have htake : takeB m (l2 ++ l.drop m) = l2 := by rw [takeB_eq, List.take_append_of_le_length (by omega), ← h1, List.take_length]
  have hl2 : takeB m l2 = l2 := by rw [takeB_eq, ← h1, List.take_length]
  have hg2 : gcOk m ⟨vs2, e.mks⟩ (l2 ++ l.drop m) = true := by
    simp only [gcOk, Bool.and_eq_true, Nat.ble_eq, len_eq, htake, hl2] at hg ⊢
    refine ⟨⟨⟨by simp; omega, hg.1.1.2⟩, hg.1.2⟩, hg.2⟩
  have := hst.gc hg2
  rwa [htake] at this

theorem lenS_slots : ∀ (ls : List (Nat × SV)) (vs : List SV), (slots ls vs).length = vs.length
  | [], _ => rfl
  | (q, x) :: r, vs => by rw [slots, lenS_slots r, put_eq]; simp
theorem subL_of {xs ys : List SV} (hl : xs.length = ys.length) (h : ∀ q, Sub (nth xs q) (nth ys q)) : SubL xs ys := by
  induction xs generalizing ys with
  | nil => cases ys with
    | nil => exact .nil
    | cons => simp at hl
  | cons x xs ih => cases ys with
    | nil => simp at hl
    | cons y ys =>
      refine .cons ?_ (ih (by simpa using hl) fun q => ?_)
      · have := h 0; simpa only [nth] using this
      · have := h (q + 1); simpa only [nth] using this
theorem at_slots {xs : List SV} : ∀ (ls : List (Nat × SV)) (vs : List SV), At xs ls → (∀ q, Sub (nth xs q) (nth vs q)) → ∀ q, Sub (nth xs q) (nth (slots ls vs) q)
  | [], _, _, h, q => h q
  | (p, x) :: r, vs, ha, h, q => by
    simp only [At] at ha
    refine at_slots r _ ha.2 (fun q => ?_) q
    rcases Nat.lt_or_ge p vs.length with h1 | h1
    · by_cases hq : q = p
      · subst hq
        rw [nth_eq (put vs q x), put_eq, List.getD_eq_getElem?_getD, List.getElem?_set_self h1]; exact ha.1
      · rw [nth_put_ne hq]; exact h q
    · have e : put vs p x = vs := by rw [put_eq, List.set_eq_of_length_le h1]
      rw [e]; exact h q
theorem repU_nth (n q : Nat) : nth (repU n) q = .any := by
  rw [repU_eq, nth_eq, List.getD_eq_getElem?_getD, List.getElem?_replicate]; split <;> rfl

/-- A state at a loop's head. -/
def Ent {α : Type} (m nt : Nat) (mk : List Nat) (ok : α → Prop) (live : α → List (Nat × SV)) (hp : α → List Blk) (a : α) (e : Env) (l : List Blk) : Prop :=
  ok a ∧ e.mks = mk ∧ lenS e.vs = nt ∧ At e.vs (live a) ∧ SubBs m l (hp a) ∧ gcOk m ⟨slots (live a) (repU nt), mk⟩ (hp a) = true

theorem Ent.st {α : Type} {m nt : Nat} {mk : List Nat} {ok : α → Prop} {live : α → List (Nat × SV)} {hp : α → List Blk} {a : α} {e : Env} {ac : Act} (h : Ent m nt mk ok live hp a e l)
    (hs : St P N W0 ρ e l ac W) : St P N W0 (res m ρ) ⟨slots (live a) (repU nt), mk⟩ (hp a) ac W := by
  obtain ⟨_, rfl, h2, h3, h4, h5⟩ := h
  refine hs.less (subL_of ?_ (at_slots _ _ h3 fun q => by rw [repU_nth]; exact sub_any)) h4 h5
  rw [lenS_slots, repU_eq, ← lenS_eq, h2]; simp

/-- A loop: what stays, and what falls. -/
theorem s_loop_at {S : Sy} {α : Type} (hS : S0 P = S) (m nt : Nat) (mk : List Nat) (ok : α → Prop) (live : α → List (Nat × SV)) (hp : α → List Blk) (μ : α → Nat) (a0 : α) {cx : Cx} {b : IR} {K : VK}
    {e : Env} {l : List Blk} (hcm : Nat.ble cx.m m = true) (h0 : Ent m nt mk ok live hp a0 e l)
    (step : ∀ a, ok a → vc S cx b (fun ex e' l' => match ex with | .normal => ∃ a', μ a' < μ a ∧ Ent m nt mk ok live hp a' e' l' | ex => K ex e' l') ⟨slots (live a) (repU nt), mk⟩ (hp a)) : S.loop cx b e l K := by
  subst hS
  have hcm := Nat.le_of_ble_eq_true hcm
  have hlen : ∀ {a : α} {e : Env} {l : List Blk}, Ent m nt mk ok live hp a e l → (hp a).length = m := fun h => h.2.2.2.2.1.at.1
  have main : ∀ n a, μ a = n → ok a → (hp a).length = m → ∀ c kl, conv P kl c = some b → WP P cx (.loop c) K ⟨slots (live a) (repU nt), mk⟩ (hp a) := by
    intro n
    induction n using Nat.strongRecOn with
    | ind n ih =>
      intro a hn ha hl c kl hc N W0 ρ rr ac W hs hr hm
      refine wp_loop (Wp.mono (vc_sound c hc (step a ha) N W0 ρ rr ac W hs hr hm) ?_)
      rintro ex a' w' ⟨ρ', e', l', hK, hle, hm', hs'⟩
      cases ex with
      | normal =>
        obtain ⟨a2, hlt, hE⟩ := hK
        have hle2 : Le cx.m ρ (res m ρ') := hle.trans (le_res hcm)
        exact Wp.mono (ih (μ a2) (by omega) a2 rfl hE.1 (hlen hE) c kl hc N W0 (res m ρ') rr a' w' (hE.st hs') (hr.le hle2) (by rw [hlen hE]; omega)) fun _ _ _ q => q.le hle2
      | exit id => exact ⟨ρ', e', l', hK, hle, hm', hs'⟩
      | goto g => exact ⟨ρ', e', l', hK, hle, hm', hs'⟩
      | ret => exact ⟨ρ', e', l', hK, hle, hm', hs'⟩
  intro c kl hc N W0 ρ rr a W hs hr hm
  exact Wp.mono (main _ a0 rfl h0.1 (hlen h0) c kl hc N W0 (res m ρ) rr a W (h0.st hs) (hr.le (le_res hcm)) (by rw [hlen h0]; omega)) fun _ _ _ q => q.le (le_res hcm)

def setBs : List (Nat × Blk) → List Blk → List Blk
  | [], l => l
  | (k, b) :: r, l => setBs r (lset l k b)

/-- A state at a loop's head: as it was, but for these slots and blocks. -/
def En2 {α : Type} (m : Nat) (ds : List Nat) (ok : α → Prop) (ups : α → List (Nat × SV)) (bups : α → List (Nat × Blk)) (e0 : Env) (l0 : List Blk) (a : α) (e : Env) (l : List Blk) : Prop :=
  ok a ∧ e.mks = e0.mks ∧ SubL e.vs (slots (ups a) (puts e0.vs ds .any)) ∧ SubBs m l (setBs (bups a) (takeB m l0)) ∧ gcOk m ⟨slots (ups a) (puts e0.vs ds .any), e0.mks⟩ (setBs (bups a) (takeB m l0)) = true

theorem En2.st {α : Type} {m : Nat} {ds : List Nat} {ok : α → Prop} {ups : α → List (Nat × SV)} {bups : α → List (Nat × Blk)} {e0 : Env} {l0 : List Blk} {a : α} {e : Env} {ac : Act}
    (h : En2 m ds ok ups bups e0 l0 a e l) (hs : St P N W0 ρ e l ac W) : St P N W0 (res m ρ) ⟨slots (ups a) (puts e0.vs ds .any), e0.mks⟩ (setBs (bups a) (takeB m l0)) ac W := by
  obtain ⟨_, h1, h2, h3, h4⟩ := h
  rw [← h1] at h4 ⊢
  exact hs.less h2 h3 h4

/-- A loop: what turns, all else stays. -/
theorem s_loop_up {S : Sy} {α : Type} (hS : S0 P = S) (m : Nat) (ds : List Nat) (ok : α → Prop) (ups : α → List (Nat × SV)) (bups : α → List (Nat × Blk)) (μ : α → Nat) (a0 : α) {cx : Cx} {b : IR} {K : VK}
    {e : Env} {l : List Blk} (hcm : Nat.ble cx.m m = true) (h0 : En2 m ds ok ups bups e l a0 e l)
    (step : ∀ a, ok a → vc S cx b (seqK (fun _ e' l' => ∃ a', μ a' < μ a ∧ En2 m ds ok ups bups e l a' e' l') K) ⟨slots (ups a) (puts e.vs ds .any), e.mks⟩ (setBs (bups a) (takeB m l))) : S.loop cx b e l K := by
  subst hS
  have hcm := Nat.le_of_ble_eq_true hcm
  have hlen : ∀ {a : α} {e1 : Env} {l1 : List Blk}, En2 m ds ok ups bups e l a e1 l1 → (setBs (bups a) (takeB m l)).length = m := fun h => h.2.2.2.1.at.1
  have main : ∀ n a, μ a = n → ok a → (setBs (bups a) (takeB m l)).length = m → ∀ c kl, conv P kl c = some b → WP P cx (.loop c) K ⟨slots (ups a) (puts e.vs ds .any), e.mks⟩ (setBs (bups a) (takeB m l)) := by
    intro n
    induction n using Nat.strongRecOn with
    | ind n ih =>
      intro a hn ha hl c kl hc N W0 ρ rr ac W hs hr hm
      refine wp_loop (Wp.mono (vc_sound c hc (step a ha) N W0 ρ rr ac W hs hr hm) ?_)
      rintro ex a' w' ⟨ρ', e', l', hK, hle, hm', hs'⟩
      cases ex with
      | normal =>
        obtain ⟨a2, hlt, hE⟩ := hK
        have hle2 : Le cx.m ρ (res m ρ') := hle.trans (le_res hcm)
        exact Wp.mono (ih (μ a2) (by omega) a2 rfl hE.1 (hlen hE) c kl hc N W0 (res m ρ') rr a' w' (hE.st hs') (hr.le hle2) (by rw [hlen hE]; omega)) fun _ _ _ q => q.le hle2
      | exit id => exact ⟨ρ', e', l', hK, hle, hm', hs'⟩
      | goto g => exact ⟨ρ', e', l', hK, hle, hm', hs'⟩
      | ret => exact ⟨ρ', e', l', hK, hle, hm', hs'⟩
  intro c kl hc N W0 ρ rr a W hs hr hm
  exact Wp.mono (main _ a0 rfl h0.1 (hlen h0) c kl hc N W0 (res m ρ) rr a W (h0.st hs) (hr.le (le_res hcm)) (by rw [hlen h0]; omega)) fun _ _ _ q => q.le (le_res hcm)

/-- What goes on behind a piece of a scope whose jumps back to g are counted. -/
def jmpK (S : Sy) (cx : Cx) (b : IR) (K : VK) (g : Nat) (I : Env → List Blk → Prop) : VK := fun ex e l => match ex with
  | .goto g' => if g' = g then I e l else (match findL b g' with
    | some _ => S.jump cx b g' e l K
    | none => K (.goto g') e l)
  | ex => K ex e l
/-- A jump back as a loop: what turns, all else stays. -/
theorem s_jump_up {S : Sy} {α : Type} (hS : S0 P = S) (m : Nat) (ds : List Nat) (ok : α → Prop) (ups : α → List (Nat × SV)) (bups : α → List (Nat × Blk)) (μ : α → Nat) (a0 : α) {cx : Cx} {b i : IR} {g : Nat} {K : VK}
    {e : Env} {l : List Blk} (hi : findL b g = some i) (hcm : Nat.ble cx.m m = true) (h0 : En2 m ds ok ups bups e l a0 e l)
    (step : ∀ a, ok a → vc S cx i (jmpK S cx b K g (fun e' l' => ∃ a', μ a' < μ a ∧ En2 m ds ok ups bups e l a' e' l')) ⟨slots (ups a) (puts e.vs ds .any), e.mks⟩ (setBs (bups a) (takeB m l))) : S.jump cx b g e l K := by
  subst hS
  have hcm := Nat.le_of_ble_eq_true hcm
  have hlen : ∀ {a : α} {e1 : Env} {l1 : List Blk}, En2 m ds ok ups bups e l a e1 l1 → (setBs (bups a) (takeB m l)).length = m := fun h => h.2.2.2.1.at.1
  intro c kl hc rest hr
  have hcr := findL_conv hc hr hi
  have main : ∀ n a, μ a = n → ok a → (setBs (bups a) (takeB m l)).length = m → ∀ N W0 ρ rr ac W, St P N W0 ρ ⟨slots (ups a) (puts e.vs ds .any), e.mks⟩ (setBs (bups a) (takeB m l)) ac W → RoOk ρ cx rr →
      InScope P rr c rest (KPost P N W0 cx ρ K) ac W := by
    intro n
    induction n using Nat.strongRecOn with
    | ind n ih =>
      intro a hn ha hl N W0 ρ rr ac W hs hro
      refine inScope_of (Wp.mono (vc_sound rest hcr (step a ha) N W0 ρ rr ac W hs hro (by rw [hl]; exact hcm)) ?_)
      rintro ex a' w' ⟨ρ', e', l', hK, hle, hm', hs'⟩
      cases ex with
      | normal => exact ⟨ρ', e', l', hK, hle, hm', hs'⟩
      | exit id => exact ⟨ρ', e', l', hK, hle, hm', hs'⟩
      | ret => exact ⟨ρ', e', l', hK, hle, hm', hs'⟩
      | goto g' =>
        have hf := findL_ok (g := g') hc
        simp only [Ex.inScope]
        by_cases hg : g' = g
        · subst hg
          rw [hr]
          simp only [jmpK, if_true] at hK
          obtain ⟨a2, hlt, hE⟩ := hK
          have hle2 : Le cx.m ρ (res m ρ') := hle.trans (le_res hcm)
          exact From.mono (ih (μ a2) (by omega) a2 rfl hE.1 (hlen hE) N W0 (res m ρ') rr a' w' (hE.st hs') (hro.le hle2)) fun _ _ _ q => q.le hle2
        · simp only [jmpK, if_neg hg] at hK
          cases hq : findLabel c g' with
          | none =>
            rw [hq] at hf
            cases hj : findL b g' with
            | none => simp only [hj] at hK; exact ⟨ρ', e', l', hK, hle, hm', hs'⟩
            | some r => rw [hj] at hf; simp at hf
          | some rest' =>
            rw [hq] at hf
            cases hj : findL b g' with
            | none => rw [hj] at hf; simp at hf
            | some r =>
              simp only [hj] at hK
              exact From.mono (hK c kl hc rest' hq N W0 ρ' rr a' w' hs' (hro.le hle) hm') fun _ _ _ q => q.le hle
  intro N W0 ρ rr a W hs hro hm
  exact From.mono (main _ a0 rfl h0.1 (hlen h0) N W0 (res m ρ) rr a W (h0.st hs) (hro.le (le_res hcm))) fun _ _ _ q => q.le (le_res hcm)

/-- A loop, unrolled once. -/
theorem s_loop_one {S : Sy} (hS : S0 P = S) {cx : Cx} {b : IR} {K : VK} {e : Env} {l : List Blk} (h : vc S cx b (seqK (fun K e' l' => S.loop cx b e' l' K) K) e l) : S.loop cx b e l K := by
  subst hS
  intro c kl hc N W0 ρ rr a W hs hr hm
  refine wp_loop (Wp.mono (vc_sound c hc h N W0 ρ rr a W hs hr hm) ?_)
  rintro ex a' w' ⟨ρ', e', l', hK, hle, hm', hs'⟩
  cases ex with
  | normal => exact Wp.mono (hK c kl hc N W0 ρ' rr a' w' hs' (hr.le hle) hm') fun _ _ _ q => q.le hle
  | exit id => exact ⟨ρ', e', l', hK, hle, hm', hs'⟩
  | goto g => exact ⟨ρ', e', l', hK, hle, hm', hs'⟩
  | ret => exact ⟨ρ', e', l', hK, hle, hm', hs'⟩

def ydK2 (k : Nat) (K : SV → List Blk → Prop) : VK := fun ex _ l2 => match lget l2 k with
  | .lp vs2 ps2 asg2 body2 _ => K (ofB ex.goes) (lset l2 k (.lp vs2 ps2 asg2 body2 (phEnd ex)))
  | _ => False
def ydK1 (S : Sy) (k m : Nat) (K : SV → List Blk → Prop) : VK := fun ex e1 l1 => match ex with
  | .normal => match lget l1 k with
    | .lp vs1 ps1 asg1 body1 .ready => vc S ⟨some k, m⟩ body1 (ydK2 k K) e1 (lset l1 k (.lp vs1 ps1 asg1 body1 .busy))
    | _ => False
  | _ => False
theorem s_yld {S : Sy} (hS : S0 P = S) {k : Nat} {args vs : List SV} {ps : List Nat} {asg body : IR} {K : SV → List Blk → Prop} (hk : lget l k = .lp vs ps asg body .ready) (hn : ps.length = args.length)
    (h : vc S ⟨some k, len l⟩ asg (fun ex e1 l1 => match ex with
      | .normal => match lget l1 k with
        | .lp vs1 ps1 asg1 body1 .ready => vc S ⟨some k, len l⟩ body (ydK2 k K) e1 (lset l1 k (.lp vs1 ps1 asg1 body1 .busy))
        | _ => False
      | _ => False) ⟨putps vs ps args, []⟩ l) : S.yld k args l K := by
  subst hS; exact yld_in hk hn h

mutual
/-- Values known whole are written out. -/
def lit : SV → SV
  | .b x => ofB x
  | .i k z => .i k (.l z.v)
  | .ag cs => .ag (litL cs)
  | .tp cs => .tp (litL cs)
  | x => x
def litL : List SV → List SV
  | [] => []
  | x :: xs => lit x :: litL xs
end
mutual
theorem den_lit : ∀ (x : SV) (ρ : Nms) (v : Value), den ρ x v → den ρ (lit x) v
  | .b x, _, _, d => by cases x <;> simpa [lit, ofB, den] using d
  | .i _ _, _, _, d => by simpa [lit, den, Z.v] using d
  | .ag cs, ρ, v, d => by
    simp only [den, lit] at d ⊢
    obtain ⟨vs, e, r⟩ := d
    exact ⟨vs, e, denL_lit cs ρ _ r⟩
  | .tp cs, ρ, v, d => by
    simp only [den, lit] at d ⊢
    obtain ⟨vs, e, r⟩ := d
    exact ⟨vs, e, denL_lit cs ρ _ r⟩
  | .tt, _, _, d => d
  | .ff, _, _, d => d
  | .s _, _, _, d => d
  | .p _ _, _, _, d => d
  | .pe _ _ _ _, _, _, d => d
  | .sl _ _ _ _ _, _, _, d => d
  | .fn _ _ _, _, _, d => d
  | .yl _, _, _, d => d
  | .m _, _, _, d => d
  | .re _, _, _, d => d
  | .un, _, _, d => d
  | .any, _, _, d => d
theorem denL_lit : ∀ (xs : List SV) (ρ : Nms) (vs : List Value), denL ρ xs vs → denL ρ (litL xs) vs
  | [], _, [], d => d
  | [], _, _ :: _, d => by simp [denL] at d
  | _ :: _, _, [], d => by simp [denL] at d
  | x :: xs, ρ, v :: vs, d => by
    simp only [denL, litL] at d ⊢
    exact ⟨den_lit x ρ v d.1, denL_lit xs ρ vs d.2⟩
end
theorem sub_lit {x : SV} : Sub x (lit x) := ⟨fun ρ v d => den_lit x ρ v d⟩
mutual
theorem refsB_lit {ok : Nat → Bool} : ∀ (x : SV), refsB ok x = true → refsB ok (lit x) = true
  | .b x, _ => by cases x <;> rfl
  | .i _ _, _ => rfl
  | .ag cs, h => by simp only [refsB, lit] at h ⊢; exact refsBL_lit cs h
  | .tp cs, h => by simp only [refsB, lit] at h ⊢; exact refsBL_lit cs h
  | .tt, h => h
  | .ff, h => h
  | .s _, h => h
  | .p _ _, h => h
  | .pe _ _ _ _, h => h
  | .sl _ _ _ _ _, h => h
  | .fn _ _ _, h => h
  | .yl _, h => h
  | .m _, h => h
  | .re _, h => h
  | .un, h => h
  | .any, h => h
theorem refsBL_lit {ok : Nat → Bool} : ∀ (xs : List SV), refsBL ok xs = true → refsBL ok (litL xs) = true
  | [], h => h
  | x :: xs, h => by
    simp only [refsBL, litL, Bool.and_eq_true] at h ⊢
    exact ⟨refsB_lit x h.1, refsBL_lit xs h.2⟩
end
theorem call_lit {g : FuncId} {args : List SV} {sv : SV} (h : (S0 P).call g args l (fun x _ => Sub x sv)) : (S0 P).call g args l (fun x _ => Sub x (lit sv)) :=
  call_post h fun x _ hx => ⟨x, .rfl, hx.trans sub_lit⟩

def no (_ : Nat) : Bool := false
/-- A contract used: values alone. -/
theorem use_val {S : Sy} (hS : S0 P = S) {g : FuncId} {args args' : List SV} {sv : SV} {K : SV → List Blk → Prop} (hF : (S0 P).call g args' [] (fun x _ => Sub x sv)) (ha : SubL args args')
    (hr : refsBL (fun _ => false) args' = true) (hs : refsB (fun _ => false) sv = true) (hK : K sv l) : S.call g args l K := by
  subst hS; exact call_sub ha (call_val hF hr hs hK)
/-- A contract used: rows that are read. -/
theorem use_read {S : Sy} (hS : S0 P = S) {g : FuncId} {args args0 : List SV} {l0 : List Blk} {sv : SV} {K : SV → List Blk → Prop} (f : Nat → Nat) (hF : (S0 P).call g args0 l0 (fun x _ => Sub x sv)) (ha : SubL args (renL f args0))
    (hrefs : refsBL (fun k => decide (k < l0.length)) args0 = true) (hread : Rds l f 0 l0) (hs : refsB (fun _ => false) sv = true) (hK : K sv l) : S.call g args l K := by
  subst hS; exact call_read f hF ha hrefs hread hs hK

theorem sub_sl {k sz : Nat} {off len off' len' : Z} {cap : Option Z} (h1 : off.v = off'.v) (h2 : len.v = len'.v) : Sub (.sl k sz off len cap) (.sl k sz off' len' cap) :=
  ⟨fun ρ v d => by simp only [den] at d ⊢; rw [← h1, ← h2]; exact d⟩
/-- A row of nothing, where no slice is. -/
theorem Rel.ghost {N : Nat} {W0 W : World} {ρ : Nms} (hR : Rel P N W0 ρ l W) (ro : Bool) {sz : Nat} (hsz : 0 < sz) : Rel P N W0 (upd ρ l.length [⟨none, 0, 0⟩]) (l ++ [.r ro true (.l 0) sz []]) W := by
  have hle : Le l.length ρ (upd ρ l.length [⟨none, 0, 0⟩]) := fun k hk vw hv => by rw [upd_other (by omega)]; exact hv
  refine ⟨hR.below, hR.le, fun k hk => ?_, fun k vw a hv ha => ?_, fun k B hB => ?_, fun k k' B vw vw' a a' hB hw hne hv hv' ha ha' => ?_, fun k B vw a hB hw hv ha => ?_⟩
  · simp only [List.length_append, List.length_singleton] at hk
    rw [upd_other (by omega)]; exact hR.out k (by omega)
  · by_cases hk : k = l.length
    · subst hk; rw [upd_same, List.mem_singleton] at hv; subst hv; cases ha
    · rw [upd_other hk] at hv; exact hR.ids k vw a hv ha
  · by_cases hk : k = l.length
    · subst hk
      rw [List.getElem?_append_right (Nat.le_refl _), Nat.sub_self] at hB
      simp only [List.getElem?_cons_zero, Option.some.injEq] at hB
      subst hB
      refine ⟨hsz, fun vw hv => ?_, (fun h => by cases h), fun _ => ⟨⟨none, 0, 0⟩, by rw [upd_same]; simp, rfl, (fun a ha => by cases ha), (Nat.zero_le _), fun vw hv => ?_⟩⟩
      · rw [upd_same, List.mem_singleton] at hv; subst hv
        exact ⟨Nat.zero_le _, fun _ => ⟨rfl, rfl⟩, fun q x hq _ => by simp at hq⟩
      · rw [upd_same, List.mem_singleton] at hv; subst hv; exact .inl ⟨rfl, rfl⟩
    · have hlt : k < l.length := by
        have := (List.getElem?_eq_some_iff.1 hB).1
        simp only [List.length_append, List.length_singleton] at this; omega
      rw [List.getElem?_append_left hlt] at hB
      exact (hR.blk k B hB).keep hle hR.out (upd_other hk) fun _ _ _ _ => rfl
  · by_cases hk : k = l.length
    · subst hk; rw [upd_same, List.mem_singleton] at hv; subst hv; cases ha
    · by_cases hk' : k' = l.length
      · subst hk'; rw [upd_same, List.mem_singleton] at hv'; subst hv'; cases ha'
      · rw [upd_other hk] at hv; rw [upd_other hk'] at hv'
        have hlt : k < l.length := by
          have := (List.getElem?_eq_some_iff.1 hB).1
          simp only [List.length_append, List.length_singleton] at this; omega
        rw [List.getElem?_append_left hlt] at hB
        exact hR.sep k k' B vw vw' a a' hB hw hne hv hv' ha ha'
  · by_cases hk : k = l.length
    · subst hk; rw [upd_same, List.mem_singleton] at hv; subst hv; cases ha
    · rw [upd_other hk] at hv
      have hlt : k < l.length := by
        have := (List.getElem?_eq_some_iff.1 hB).1
        simp only [List.length_append, List.length_singleton] at this; omega
      rw [List.getElem?_append_left hlt] at hB
      exact hR.own k B vw a hB hw hv ha
theorem le_ghost {ρ : Nms} {m : Nat} (h : m ≤ l.length) {vs : List View} : Le m ρ (upd ρ l.length vs) := fun k hk vw hv => by rw [upd_other (by omega)]; exact hv
/-- What a nil slice is taken for: no element of the last block, a row of nothing. -/
def nilRow (l : List Blk) (sz : Nat) : SV := .sl (len l) sz (.l 0) (.l 0) none
theorem den_nilRow {ρ : Nms} {sz : Nat} (h : (⟨none, 0, 0⟩ : View) ∈ ρ l.length) : den ρ (nilRow l sz) (.slice none 0 0) := by
  simp only [nilRow, den, len_eq]
  exact ⟨by simp [Z.v], by simp [Z.v], ⟨none, 0, 0⟩, h, by simp [Z.v], by simp [SlVal, Z.v]⟩
/-- A slot that is nil ahead of a loop, taken for a row of nothing. -/
theorem s_loop_nil {S : Sy} (hS : S0 P = S) (q sz : Nat) {cx : Cx} {b : IR} {K : VK} {e : Env} (hsz : 0 < sz) (hq : nth e.vs q = .re (.slice none 0 0))
    (h : S.loop cx b ⟨put e.vs q (nilRow l sz), e.mks⟩ (snoc l (.r false true (.l 0) sz [])) K) : S.loop cx b e l K := by
  subst hS
  rw [snoc_eq] at h
  intro c kl hc N W0 ρ rr a W hs hr hm
  have hle : Le l.length ρ (upd ρ l.length [⟨none, 0, 0⟩]) := le_ghost (Nat.le_refl _)
  have hE : EnvOk (upd ρ l.length [⟨none, 0, 0⟩]) (put e.vs q (nilRow l sz)) a.tmps := by
    have h1 : EnvOk (upd ρ l.length [⟨none, 0, 0⟩]) e.vs a.tmps := hs.env.le hle hs.rel.out
    intro j x hx
    by_cases hj : j = q
    · subst hj
      have hlt : j < e.vs.length := by have := (List.getElem?_eq_some_iff.1 hx).1; rw [put_eq, List.length_set] at this; exact this
      rw [put_eq, List.getElem?_set_self hlt] at hx
      simp only [Option.some.injEq] at hx; subst hx
      obtain ⟨v, hv, hd⟩ := h1 j _ (List.getElem?_eq_getElem hlt)
      have : e.vs[j] = .re (.slice none 0 0) := by rw [nth_eq, List.getD_eq_getElem?_getD, List.getElem?_eq_getElem hlt] at hq; exact hq
      rw [this] at hd
      simp only [den] at hd
      exact ⟨v, hv, by rw [hd.1]; exact den_nilRow (by rw [upd_same]; simp)⟩
    · rw [put_eq, List.getElem?_set_ne (fun e => hj e.symm)] at hx
      exact h1 j x hx
  have hM : MkOk (upd ρ l.length [⟨none, 0, 0⟩]) e.mks a.defers := MkOk.le hle hs.rel.out _ _ hs.mks
  exact Wp.mono (h c kl hc N W0 _ rr a W ⟨hs.rel.ghost false hsz, hE, hM⟩ (hr.le (le_ghost hm)) (by simp; omega)) fun _ _ _ q => q.le (le_ghost hm)

/-- A nil slice is a row of nothing. -/
theorem call_ghost {g : FuncId} {args args' : List SV} {K : SV → List Blk → Prop} {sz : Nat} (hsz : 0 < sz) (h : ∀ (ρ : Nms) (vs : List Value), ρ (len l) = [⟨none, 0, 0⟩] → denL ρ args vs → denL ρ args' vs)
    (hr : refsBL (fun k => decide (k < l.length)) args = true) (hc : (S0 P).call g args' (snoc l (.r true true (.l 0) sz [])) K) : (S0 P).call g args l K := by
  intro N W0 ρ W vals hR hd
  rw [len_eq] at h
  rw [snoc_eq] at hc
  have hR' : Rel P N W0 (upd ρ l.length [⟨none, 0, 0⟩]) (l ++ [.r true true (.l 0) sz []]) W := hR.ghost true hsz
  have hd' : denL (upd ρ l.length [⟨none, 0, 0⟩]) args vals.toList := by
    have := denL_ren (ok := fun k => decide (k < l.length)) (f := id) (ρ := ρ) (ρ' := upd ρ l.length [⟨none, 0, 0⟩]) (fun k hk vw hv => by
      simp only [decide_eq_true_eq] at hk
      simp only [id]; rw [upd_other (by omega)]; exact hv) args _ hr hd
    rwa [renL_id] at this
  refine NextR.mono ?_ (hc N W0 _ W vals hR' (h _ _ upd_same hd'))
  rintro v W' ⟨ρ', sv, l', hK, hle, hll, hR2, hdv⟩
  simp only [List.length_append, List.length_singleton] at hle hll
  refine ⟨ρ', sv, l', hK, fun k hk vw hv => hle k (by omega) vw (by rw [upd_other (by omega)]; exact hv), by omega, hR2, hdv⟩

/-! ### Rows of elements -/
theorem flat_at {α : Type} {enc : α → List SV} {sz : Nat} (henc : ∀ a, (enc a).length = sz) : ∀ {l : List α} {i : Nat} {a : α}, l[i]? = some a → ∀ j n, j + n ≤ sz →
    ((l.flatMap enc).drop (i * sz + j)).take n = ((enc a).drop j).take n
  | [], i, a, h, _, _, _ => by simp at h
  | x :: l, 0, a, h, j, n, hj => by
    simp only [List.getElem?_cons_zero, Option.some.injEq] at h; subst h
    simp only [List.flatMap_cons, Nat.zero_mul, Nat.zero_add]
    rw [List.drop_append_of_le_length (by rw [henc]; omega), List.take_append_of_le_length (by simp [henc]; omega)]
  | x :: l, i + 1, a, h, j, n, hj => by
    simp only [List.getElem?_cons_succ] at h
    simp only [List.flatMap_cons]
    rw [show (i + 1) * sz + j = (enc x).length + (i * sz + j) by rw [henc, Nat.succ_mul]; omega, List.drop_append, List.drop_eq_nil_of_le (by omega), List.nil_append, Nat.add_sub_cancel_left]
    exact flat_at henc h j n hj
theorem flat_len {α : Type} {enc : α → List SV} {sz : Nat} (henc : ∀ a, (enc a).length = sz) : ∀ (l : List α), (l.flatMap enc).length = l.length * sz
  | [] => by simp
  | x :: l => by simp [flat_len henc l, henc, Nat.succ_mul]; omega
theorem s_row {α : Type} {S : Sy} (hS : S0 P = S) {enc : α → List SV} {l : List α} {F : List SV} (hF : l.flatMap enc = F) {i : Int} {sz j n : Nat} {agg : Bool} {K : SV → Prop} (henc : ∀ a, (enc a).length = sz)
    (h0 : 0 ≤ i) (hi : i < l.length) (h2 : j + n ≤ sz) (h : ∀ a, l[i.toNat]? = some a → ∃ v, mkv agg (((enc a).drop j).take n) = some v ∧ K v) : S.rd F i sz j n agg K := by
  subst hF
  have hlt : i.toNat < l.length := by omega
  obtain ⟨v, hv, hk⟩ := h _ (List.getElem?_eq_getElem hlt)
  refine s_rd hS h0 ?_ h2 (v := v) ?_ hk
  · rw [flat_len henc]; exact Nat.mul_le_mul_right sz hlt
  · rw [flat_at henc (List.getElem?_eq_getElem hlt) j n h2]; exact hv
theorem s_rowp {α : Type} {S : Sy} (hS : S0 P = S) {enc : α → List SV} {l : List α} {F : List SV} (hF : l.flatMap enc = F) {i : Int} {a : α} (ha : l[i.toNat]? = some a) {sz j n : Nat} {agg : Bool} {K : SV → Prop} {v : SV}
    (henc : ∀ a, (enc a).length = sz) (h0 : 0 ≤ i) (h2 : j + n ≤ sz) (hv : mkv agg (((enc a).drop j).take n) = some v) (h : K v) : S.rd F i sz j n agg K :=
  s_row hS hF henc h0 (by have := (List.getElem?_eq_some_iff.1 ha).1; omega) h2 fun b hb => by
    rw [ha] at hb; cases hb
    exact ⟨v, hv, h⟩
theorem no_tf (h : true = false) : False := by cases h
theorem no_ft (h : false = true) : False := by cases h
theorem no_both {b : Bool} (h : b = true) (h' : b = false) : False := by rw [h] at h'; cases h'
theorem g_rd {S : Sy} {F : List SV} {i : Int} {sz j n : Nat} {agg : Bool} {K : SV → Prop} (hS : S0 P = S) (h : (S0 P).rd F i sz j n agg K) : S.rd F i sz j n agg K := by subst hS; exact h
theorem r_rowp {α : Type} {enc : α → List SV} {l : List α} {F : List SV} (hF : l.flatMap enc = F) {i : Int} {a : α} (ha : l[i.toNat]? = some a) {sz j n : Nat} {agg : Bool} {K : SV → Prop} {v : SV}
    (henc : ∀ a, (enc a).length = sz) (h0 : 0 ≤ i) (h2 : j + n ≤ sz) (hv : mkv agg (((enc a).drop j).take n) = some v) (h : K v) : (S0 P).rd F i sz j n agg K :=
  s_rowp rfl hF ha henc h0 h2 hv h
theorem all_no {α : Type} {f : α → Bool} {l : List α} {i : Nat} {a : α} (ha : l[i]? = some a) (h : f a = false) : l.all f = false := by
  rw [List.all_eq_false]; exact ⟨a, List.mem_of_getElem? ha, by rw [h]; simp⟩
/-- A list's length, as a number of the program's. -/
def ilen {α : Type} (l : List α) : Int := l.length
theorem ilen_nn {α : Type} (l : List α) : 0 ≤ ilen l := by unfold ilen; omega
theorem at_ex {α : Type} {l : List α} {i : Int} (h : i < ilen l) (h0 : 0 ≤ i) : ∃ a, l[i.toNat]? = some a := ⟨_, List.getElem?_eq_getElem (by unfold ilen at h; omega)⟩
theorem take_all {α : Type} {l : List α} {i : Int} (h : ilen l ≤ i) : l.take i.toNat = l := List.take_of_length_le (by unfold ilen at h; omega)
theorem take_next {α : Type} {l : List α} {i : Int} {a : α} (ha : l[i.toNat]? = some a) (h0 : 0 ≤ i) : l.take (i + 1).toNat = l.take i.toNat ++ [a] := by
  rw [show (i + 1).toNat = i.toNat + 1 by omega, List.take_add_one, ha]; rfl
theorem all_next {α : Type} {f : α → Bool} {l : List α} {i : Int} {a : α} (ha : l[i.toNat]? = some a) (h0 : 0 ≤ i) (h : (l.take i.toNat).all f = true) (hf : f a = true) : (l.take (i + 1).toNat).all f = true := by
  rw [take_next ha h0, List.all_append, h]; simp [hf]
end
/-! ### Values that are equal, cell by cell -/
def eq1 : SV → SV → Prop
  | .i _ a, .i _ b => a.v = b.v
  | .s a, .s b => a = b
  | .tt, .tt => True
  | .ff, .ff => True
  | .tt, .b y => y = true
  | .ff, .b y => y = false
  | .b x, .tt => x = true
  | .b x, .ff => x = false
  | .b x, .b y => x = y
  | _, _ => False
def eqc : List SV → List SV → Prop
  | [], [] => True
  | x :: xs, y :: ys => eq1 x y ∧ eqc xs ys
  | _, _ => False
def eqs (x y : SV) : Prop := match cellsOf x, cellsOf y with
  | some xs, some ys => eqc xs ys
  | _, _ => False
def kindOk (sig : Sg) (x y : SV) : Bool := match cellsOf x, cellsOf y with
  | some xs, some ys => (isAg x == sig.agg) && (isAg y == sig.agg) && kinds sig.ks xs ys
  | _, _ => false
section
variable {P : Program}
theorem veq1_eq {s : Kd} {x y : SV} {k1 k2 : Unit → Prop} (hk : kinds [s] [x] [y] = true) (he : eq1 x y) (h : k1 ()) : veq1 (S0 P) s x y k1 k2 := by
  cases s <;> cases x <;> cases y <;> simp [kinds] at hk <;> simp only [eq1] at he <;> simp only [veq1]
  all_goals first
    | exact h
    | exact he.elim
    | (subst he; refine ⟨fun _ => h, fun e => ?_⟩; simp [S0, scmpS] at e; done)
    | (subst he; refine ⟨fun e => ?_, fun _ => h⟩; simp at e; done)
    | skip
  all_goals try (rename_i k a k' b; subst hk; simp only [if_true]; cases a <;> cases b <;> simp only [Z.v] at he <;> subst he)
  all_goals try first
    | (simp only [if_true]; exact h)
    | exact ⟨fun _ => h, fun e => by simp [S0, BK.cmpLit, Z.v] at e⟩
    | exact ⟨fun e => by simp at e, fun _ => h⟩
theorem veqL_eq : ∀ {ss : List Kd} {xs ys : List SV} {k1 k2 : Unit → Prop}, kinds ss xs ys = true → eqc xs ys → k1 () → veqL (S0 P) ss xs ys k1 k2
  | [], [], [], _, _, _, _, h => by simpa only [veqL] using h
  | [], [], _ :: _, _, _, hk, _, _ => by simp [kinds] at hk
  | [], _ :: _, _, _, _, hk, _, _ => by simp [kinds] at hk
  | s :: ss, [], _, _, _, hk, _, _ => by cases s <;> simp [kinds] at hk
  | s :: ss, _ :: _, [], _, _, _, he, _ => he.elim
  | s :: ss, x :: xs, y :: ys, k1, k2, hk, he, h => by
    have hb : kinds [s] [x] [y] = true ∧ kinds ss xs ys = true := by
      cases s <;> cases x <;> cases y <;> simp [kinds] at hk ⊢ <;> first | exact hk | (split at hk <;> simp_all)
    simp only [veqL]
    exact veq1_eq hb.1 he.1 (veqL_eq hb.2 he.2 h)
theorem s_eqt {S : Sy} {sig : Sg} {x y : SV} {k1 k2 : Unit → Prop} (hS : S0 P = S) (hk : kindOk sig x y = true) (he : eqs x y) (h : k1 ()) : S.eqv sig x y k1 k2 := by
  subst hS
  rw [eqv_eq]
  unfold kindOk at hk
  unfold eqs at he
  unfold veq
  cases hx : cellsOf x with
  | none => rw [hx] at hk; cases hk
  | some xs => cases hy : cellsOf y with
    | none => rw [hx, hy] at hk; cases hk
    | some ys =>
      rw [hx, hy] at hk he
      simp only [Bool.and_eq_true, beq_iff_eq] at hk
      simp only [hk.1.1, hk.1.2, hk.2, and_self, if_true]
      exact veqL_eq hk.2 he h
end
end Cz
/- The engine, part Z2: contracts that tell new memory (a row, a map). No condition. -/
namespace Cz
open Go Go.RowKit
set_option linter.unusedSimpArgs false
set_option linter.unusedVariables false
section
variable {P : Program} {l : List Blk}
theorem Rel.sub {N : Nat} {W0 W : World} {ρ : Nms} {l2 : List Blk} (hR : Rel P N W0 ρ l W) (hl : l2.length = l.length) (h : ∀ (k : Nat) (B' : Blk), l2[k]? = some B' → ∃ B : Blk, l[k]? = some B ∧ SubB B B') : Rel P N W0 ρ l2 W := by
  refine ⟨hR.below, hR.le, fun k hk => hR.out k (by omega), hR.ids, fun k B hB => ?_, ?_, ?_⟩
  · obtain ⟨B0, hB0, hs⟩ := h k B hB
    exact (blk_sub hs (hR.blk k B0 hB0)).1
  · intro k k' B vw vw' a a' hB hw hne hv hv' ha ha'
    obtain ⟨B0, hB0, hs⟩ := h k B hB
    exact hR.sep k k' B0 vw vw' a a' hB0 ((blk_sub hs (hR.blk k B0 hB0)).2 hw) hne hv hv' ha ha'
  · intro k B vw a hB hw hv ha
    obtain ⟨B0, hB0, hs⟩ := h k B hB
    exact hR.own k B0 vw a hB0 ((blk_sub hs (hR.blk k B0 hB0)).2 hw) hv ha
/-- A jump, where less is said of all. -/
theorem jump_less {S : Sy} (hS : S0 P = S) (m : Nat) {cx : Cx} {b : IR} {g : Nat} {e : Env} {vs2 : List SV} {l2 : List Blk} {K : VK} (hcm : Nat.ble cx.m m = true) (hv : SubL e.vs vs2) (hb : SubBs m l l2)
    (hg : gcOk m ⟨vs2, e.mks⟩ l2 = true) (h : S.jump cx b g ⟨vs2, e.mks⟩ l2 K) : S.jump cx b g e l K := by
  subst hS
  have hcm := Nat.le_of_ble_eq_true hcm
  intro c kl hc rest hr N W0 ρ rr ac W hs hro hm
  exact From.mono (h c kl hc rest hr N W0 (res m ρ) rr ac W (hs.less hv hb hg) (hro.le (le_res hcm)) (by rw [hb.at.1]; exact hcm)) fun _ _ _ q => q.le (le_res hcm)
/-! ### A row that takes another one's place -/
def swp (a b j : Nat) : Nat := if j = a then b else if j = b then a else j
theorem swp_swp (a b j : Nat) : swp a b (swp a b j) = j := by
  unfold swp
  split
  · split
    · omega
    · split <;> omega
  · split
    · simp; omega
    · simp [*]
/-- The blocks under their new numbers: plain ones, of which less is said, or dead ones. -/
def SelB (l : List Blk) (g : Nat → Nat) : Nat → List Blk → Prop
  | _, [] => True
  | j, B2 :: r => (B2 = .dead ∨ (SubB (lget l (g j)) B2 ∧ plainB B2 = true ∧ g j < len l)) ∧ SelB l g (j + 1) r
theorem SelB.at {l : List Blk} {g : Nat → Nat} : ∀ {l2 : List Blk} {i : Nat}, SelB l g i l2 → ∀ j B2, l2[j]? = some B2 → B2 = .dead ∨ ∃ B, l[g (i + j)]? = some B ∧ SubB B B2 ∧ plainB B2 = true
  | [], _, _, j, B2, h => by simp at h
  | C :: r, i, hs, 0, B2, h => by
    simp only [List.getElem?_cons_zero, Option.some.injEq] at h; subst h
    rcases hs.1 with h1 | ⟨h1, h2, h3⟩
    · exact .inl h1
    · rw [len_eq] at h3
      refine .inr ⟨l[g i], List.getElem?_eq_getElem h3, ?_, h2⟩
      rwa [lget_eq, List.getD_eq_getElem?_getD, List.getElem?_eq_getElem h3] at h1
  | C :: r, i, hs, j + 1, B2, h => by
    have := SelB.at hs.2 j B2 (by simpa using h)
    rw [show i + (j + 1) = i + 1 + j by omega]; exact this
mutual
theorem refsB_all : ∀ (x : SV), refsB (fun _ => true) x = true
  | .tt => rfl
  | .ff => rfl
  | .b _ => rfl
  | .i _ _ => rfl
  | .s _ => rfl
  | .p _ _ => rfl
  | .pe _ _ _ _ => rfl
  | .sl _ _ _ _ _ => rfl
  | .ag cs => by simp only [refsB]; exact refsBL_all cs
  | .tp cs => by simp only [refsB]; exact refsBL_all cs
  | .fn _ a c => by simp only [refsB, refsBL_all a, refsBL_all c, Bool.and_self]
  | .yl _ => rfl
  | .m _ => rfl
  | .re _ => rfl
  | .un => rfl
  | .any => rfl
theorem refsBL_all : ∀ (xs : List SV), refsBL (fun _ => true) xs = true
  | [] => rfl
  | x :: xs => by simp only [refsBL, refsB_all x, refsBL_all xs, Bool.and_self]
end
theorem renL_get (g : Nat → Nat) : ∀ (xs : List SV) (q : Nat), (renL g xs)[q]? = (xs[q]?).map (ren g)
  | [], q => by simp [renL]
  | x :: xs, 0 => by simp [renL]
  | x :: xs, q + 1 => by simp [renL, renL_get g xs q]
theorem refsBL_get {ok : Nat → Bool} : ∀ {xs : List SV} {q : Nat} {x : SV}, refsBL ok xs = true → xs[q]? = some x → refsB ok x = true
  | [], _, _, _, hx => by simp at hx
  | y :: ys, 0, x, hr, hx => by
    simp only [List.getElem?_cons_zero, Option.some.injEq] at hx; subst hx
    simp only [refsBL, Bool.and_eq_true] at hr; exact hr.1
  | y :: ys, q + 1, x, hr, hx => by
    simp only [refsBL, Bool.and_eq_true] at hr
    exact refsBL_get hr.2 (by simpa using hx)
theorem low_lt {m k : Nat} (h : low m k = true) : k < m := Nat.le_of_ble_eq_true (by simpa [low, Nat.blt] using h)
theorem St.swap {N : Nat} {W0 W : World} {ρ : Nms} {m : Nat} {e : Env} {vs2 : List SV} {l2 : List Blk} {a : Act} {g : Nat → Nat} (hg : ∀ j, g (g j) = j) (h : St P N W0 ρ e l a W) (hmk : e.mks = [])
    (hv : SubL (renL g e.vs) vs2) (hr : refsBL (low m) vs2 = true) (hl : l2.length = m) (hb : SelB l g 0 l2) : St P N W0 (res m (fun j => ρ (g j))) ⟨vs2, e.mks⟩ l2 a W := by
  have hR := h.rel
  have hinj : ∀ {i j : Nat}, g i = g j → i = j := fun {i j} e => by rw [← hg i, ← hg j, e]
  have hmem : ∀ {k : Nat} {vw : View}, vw ∈ res m (fun j => ρ (g j)) k → vw ∈ ρ (g k) := by
    intro k vw hv
    unfold res at hv
    split at hv
    · exact hv
    · cases hv
  have hat := fun j B2 h => by have := hb.at j B2 h; rwa [Nat.zero_add] at this
  refine ⟨⟨hR.below, hR.le, fun k hk => ?_, fun k vw a hv ha => hR.ids _ vw a (hmem hv) ha, fun k B2 hB => ?_, ?_, ?_⟩, ?_, ?_⟩
  · simp only [res]; rw [if_neg (by omega)]
  · have hkm : k < m := by have := (List.getElem?_eq_some_iff.1 hB).1; omega
    rcases hat k B2 hB with rfl | ⟨B, h1, h2, h3⟩
    · exact trivial
    · exact (blk_sub h2 (hR.blk _ B h1)).1.move h3 (Nat.le_refl _) (by simp only [res]; rw [if_pos hkm])
  · intro k k' B2 vw vw' a a' hB hw hne hv hv' ha ha'
    rcases hat k B2 hB with rfl | ⟨B, h1, h2, h3⟩
    · simp [Blk.wr] at hw
    · exact hR.sep _ _ B vw vw' a a' h1 ((blk_sub h2 (hR.blk _ B h1)).2 hw) (fun e => hne (hinj e)) (hmem hv) (hmem hv') ha ha'
  · intro k B2 vw a hB hw hv ha
    rcases hat k B2 hB with rfl | ⟨B, h1, h2, h3⟩
    · simp [Blk.wr] at hw
    · exact hR.own _ B vw a h1 ((blk_sub h2 (hR.blk _ B h1)).2 hw) (hmem hv) ha
  · intro q x2 hx
    obtain ⟨x', hx', hd⟩ := hv.fsub.2 q x2 hx
    rw [renL_get, Option.map_eq_some_iff] at hx'
    obtain ⟨x, hx0, rfl⟩ := hx'
    obtain ⟨v, hv1, d⟩ := h.env q x hx0
    refine ⟨v, hv1, ?_⟩
    have d2 : den (fun j => ρ (g j)) (ren g x) v := den_ren (ok := fun _ => true) (fun k _ vw hvw => by show vw ∈ ρ (g (g k)); rw [hg]; exact hvw) x v (refsB_all x) d
    have d3 := hd _ _ d2
    have hx2 : refsB (low m) x2 = true := refsBL_get hr hx
    have := den_ren (ok := low m) (f := id) (ρ := fun j => ρ (g j)) (ρ' := res m (fun j => ρ (g j))) (fun k hk vw hvw => by
      have hkm := low_lt hk
      simp only [id, res]; rw [if_pos hkm]; exact hvw) x2 v hx2 d3
    rwa [ren_id] at this
  · rw [hmk]
    have := h.mks
    rw [hmk] at this
    cases ha : a.defers with
    | nil => trivial
    | cons => rw [ha] at this; exact this.elim
/-- A round's end: rows may have taken others' places. -/
def En3 {α : Type} (m : Nat) (ds : List Nat) (ok : α → Prop) (ups : α → List (Nat × SV)) (bups : α → List (Nat × Blk)) (e0 : Env) (l0 : List Blk) (a : α) (g : Nat → Nat) (e : Env) (l : List Blk) : Prop :=
  ok a ∧ e.mks = [] ∧ SubL (renL g e.vs) (slots (ups a) (puts e0.vs ds .any)) ∧ SelB l g 0 (setBs (bups a) (takeB m l0)) ∧ gcOk m ⟨slots (ups a) (puts e0.vs ds .any), []⟩ (setBs (bups a) (takeB m l0)) = true
theorem En3.st {N : Nat} {W0 W : World} {ρ : Nms} {α : Type} {m : Nat} {ds : List Nat} {ok : α → Prop} {ups : α → List (Nat × SV)} {bups : α → List (Nat × Blk)} {e0 : Env} {l0 : List Blk} {a : α} {g : Nat → Nat} {e : Env} {ac : Act}
    (hg : ∀ j, g (g j) = j) (h : En3 m ds ok ups bups e0 l0 a g e l) (hm0 : e0.mks = []) (hlen : (setBs (bups a) (takeB m l0)).length = m) (hs : St P N W0 ρ e l ac W) :
    St P N W0 (res m (fun j => ρ (g j))) ⟨slots (ups a) (puts e0.vs ds .any), e0.mks⟩ (setBs (bups a) (takeB m l0)) ac W := by
  obtain ⟨_, h1, h2, h3, h4⟩ := h
  have := hs.swap hg h1 h2 (by simp only [gcOk, Bool.and_eq_true] at h4; exact h4.1.1.2) hlen h3
  rwa [h1, ← hm0] at this
/-- A loop: what turns, all else stays; rows may take others' places. -/
theorem s_loop_ren {S : Sy} {α : Type} (hS : S0 P = S) (m : Nat) (ds : List Nat) (ok : α → Prop) (ups : α → List (Nat × SV)) (bups : α → List (Nat × Blk)) (μ : α → Nat) (a0 : α) {cx : Cx} {b : IR} {K : VK}
    {e : Env} {l : List Blk} (hcm : Nat.ble cx.m m = true) (hm0 : e.mks = []) (hlen : ∀ a, (setBs (bups a) (takeB m l)).length = m) (h0 : En2 m ds ok ups bups e l a0 e l)
    (step : ∀ a, ok a → vc S cx b (seqK (fun _ e' l' => ∃ a' i j, cx.m ≤ i ∧ cx.m ≤ j ∧ μ a' < μ a ∧ En3 m ds ok ups bups e l a' (swp i j) e' l') K) ⟨slots (ups a) (puts e.vs ds .any), e.mks⟩ (setBs (bups a) (takeB m l))) : S.loop cx b e l K := by
  subst hS
  have hcm := Nat.le_of_ble_eq_true hcm
  have main : ∀ n a, μ a = n → ok a → ∀ c kl, conv P kl c = some b → WP P cx (.loop c) K ⟨slots (ups a) (puts e.vs ds .any), e.mks⟩ (setBs (bups a) (takeB m l)) := by
    intro n
    induction n using Nat.strongRecOn with
    | ind n ih =>
      intro a hn ha c kl hc N W0 ρ rr ac W hs hr hm
      refine wp_loop (Wp.mono (vc_sound c hc (step a ha) N W0 ρ rr ac W hs hr hm) ?_)
      rintro ex a' w' ⟨ρ', e', l', hK, hle, hm', hs'⟩
      cases ex with
      | normal =>
        obtain ⟨a2, i, j, hi, hj, hlt, hE⟩ := hK
        have hle2 : Le cx.m ρ (res m (fun q => ρ' (swp i j q))) := by
          intro k hk vw hv
          have hf : swp i j k = k := by unfold swp; rw [if_neg (by omega), if_neg (by omega)]
          simp only [res]; rw [if_pos (by omega), hf]
          exact hle k hk vw hv
        exact Wp.mono (ih (μ a2) (by omega) a2 rfl hE.1 c kl hc N W0 _ rr a' w' (hE.st (swp_swp i j) hm0 (hlen a2) hs') (hr.le hle2) (by rw [hlen]; omega)) fun _ _ _ q => q.le hle2
      | exit id => exact ⟨ρ', e', l', hK, hle, hm', hs'⟩
      | goto g => exact ⟨ρ', e', l', hK, hle, hm', hs'⟩
      | ret => exact ⟨ρ', e', l', hK, hle, hm', hs'⟩
  intro c kl hc N W0 ρ rr a W hs hr hm
  exact Wp.mono (main _ a0 rfl h0.1 c kl hc N W0 (res m ρ) rr a W (h0.st hs) (hr.le (le_res hcm)) (by rw [hlen]; omega)) fun _ _ _ q => q.le (le_res hcm)
/-- A result that begins with a row: alone, or the first of some. -/
def mkT (con : Bool) (vs : List SV) (y : SV) : SV := match con with
  | true => .tp (y :: vs)
  | false => y
def RowIs (n0 : Nat) (sz : Nat) (F : List SV) (y : SV) (l' : List Blk) : Prop :=
  (y = .re (.slice none 0 0) ∧ F = []) ∨ ∃ k n lit st F', n0 ≤ k ∧ y = .sl k sz (.l 0) n none ∧ l'[k]? = some (.r false lit st sz F') ∧ FSub F' F ∧ plains F' = true ∧ n.v * sz = F.length
def OwnR (n0 : Nat) (sz : Nat) (F : List SV) (con : Bool) (vs : List SV) (x : SV) (l' : List Blk) : Prop := ∃ y, Sub x (mkT con vs y) ∧ RowIs n0 sz F y l'
theorem den_mkT {ρ ρ' : Nms} {con : Bool} {vs : List SV} {y y' : SV} {v : Value} (hy : ∀ u, den ρ y u → den ρ' y' u) (hv : ∀ us, denL ρ vs us → denL ρ' vs us) (h : den ρ (mkT con vs y) v) : den ρ' (mkT con vs y') v := by
  cases con
  · exact hy _ h
  · simp only [mkT, den] at h ⊢
    obtain ⟨⟨us⟩, e, d⟩ := h
    match us, d with
    | u :: us, d =>
      simp only [denL] at d
      exact ⟨⟨u :: us⟩, e, by simp only [denL]; exact ⟨hy _ d.1, hv _ d.2⟩⟩
theorem denL_noref {ρ ρ' : Nms} {vs : List SV} (hr : refsBL (fun _ => false) vs = true) (us : List Value) (h : denL ρ vs us) : denL ρ' vs us := by
  have := denL_ren (ok := fun _ => false) (f := id) (ρ := ρ) (ρ' := ρ') (fun _ h => by cases h) vs us hr h
  rwa [renL_id] at this
/-- A contract used: a row that is new. -/
theorem use_own {S : Sy} (hS : S0 P = S) {g : FuncId} {args args0 : List SV} {l0 : List Blk} {sz : Nat} {F : List SV} {con : Bool} {vs : List SV} {K : SV → List Blk → Prop} (f : Nat → Nat)
    (hF : (S0 P).call g args0 l0 (OwnR l0.length sz F con vs)) (ha : SubL args (renL f args0))
    (hrefs : refsBL (fun k => decide (k < l0.length)) args0 = true) (hread : Rds l f 0 l0) (hsz : 0 < sz) (hp : plains F = true) (hvs : refsBL (fun _ => false) vs = true)
    {n : Int} (hn : n * sz = F.length) (hK : ∀ st, K (mkT con vs (.sl (len l) sz (.l 0) (.y n) none)) (snoc l (.r false false (.y st) sz F))) : S.call g args l K := by
  subst hS
  have h1 : (S0 P).call g args0 l0 (fun x l' => ∃ y, x = mkT con vs y ∧ RowIs l0.length sz F y l') := call_post hF fun x l' ⟨y, hs, hr⟩ => ⟨_, hs, y, rfl, hr⟩
  have h2 : (S0 P).call g (renL f args0) l (fun x l' => (x = mkT con vs (.re (.slice none 0 0)) ∧ F = [] ∧ l' = l) ∨
      ∃ n lit st F', x = mkT con vs (.sl l.length sz (.l 0) n none) ∧ l' = l ++ [.r false lit st sz F'] ∧ FSub F' F ∧ n.v * sz = F.length) := by
    refine call_frame h1 f rfl hrefs (fun j B h => by have := hread.at j B h; simpa using this) ?_
    rintro x l' ⟨y, rfl, ⟨rfl, hF0⟩ | ⟨k, n, lit, st, F', hk, rfl, hB, hs, hp', hn⟩⟩
    · refine ⟨[], id, List.nodup_nil, by simp, ?_, .inl ⟨?_, hF0, by simp⟩⟩
      · cases con
        · rfl
        · simp only [mkT, refsB, refsBL, Bool.true_and]; exact refsBL_mono (fun _ h => by cases h) _ hvs
      · cases con
        · rfl
        · simp only [mkT, ren, renL]; rw [renL_noref _ _ hvs]
    · refine ⟨[k], fun _ => 0, by simp, ?_, ?_, .inr ⟨n, lit, st, F', ?_, ?_, hs, hn⟩⟩
      · intro j hj
        rw [List.mem_singleton] at hj; subst hj
        exact ⟨hk, _, hB, rfl, hp'⟩
      · cases con
        · simp [mkT, refsB]
        · simp only [mkT, refsB, refsBL, Bool.and_eq_true]
          exact ⟨by simp, refsBL_mono (fun _ h => by cases h) _ hvs⟩
      · cases con
        · simp [mkT, ren]
        · simp only [mkT, ren, renL]; rw [renL_noref _ _ hvs]; simp
      · simp only [List.map_cons, List.map_nil]
        rw [lget_eq, List.getD_eq_getElem?_getD, hB]; rfl
  intro N W0 ρ W vals hR hd
  refine NextR.mono ?_ (h2 N W0 ρ W vals hR (ha.den hd))
  rintro v W' ⟨ρ', sv, l', hk, hle, hll, hR2, hdv⟩
  rcases hk with ⟨rfl, hF0, hl'⟩ | ⟨n', lit, st, F', rfl, rfl, hs, hn'⟩
  · rw [hl'] at hR2 hll
    clear hl'
    subst hF0
    have hn0 : n = 0 := by
      have : n * sz = 0 := by simpa using hn
      rcases Int.mul_eq_zero.1 this with h | h
      · exact h
      · omega
    subst hn0
    have hR3 := hR2.ghost false hsz
    have hR4 : Rel P N W0 (upd ρ' l.length [⟨none, 0, 0⟩]) (snoc l (.r false false (.y 0) sz [])) W' := by
      rw [snoc_eq]
      refine hR3.sub (by simp) fun k B' hB => ?_
      rcases Nat.lt_or_ge k l.length with hlt | hge
      · rw [List.getElem?_append_left hlt] at hB
        exact ⟨B', by rw [List.getElem?_append_left hlt]; exact hB, .rfl⟩
      · rw [List.getElem?_append_right hge] at hB
        have e : k = l.length := by
          have := (List.getElem?_eq_some_iff.1 hB).1; simp at this; omega
        subst e
        simp only [Nat.sub_self, List.getElem?_cons_zero, Option.some.injEq] at hB
        subst hB
        exact ⟨.r false true (.l 0) sz [], by rw [List.getElem?_append_right (Nat.le_refl _), Nat.sub_self]; rfl, .r .rfl rfl rfl⟩
    refine ⟨_, _, _, hK 0, hle.trans (le_ghost hll), by rw [snoc_eq]; simp, hR4, den_mkT (fun u hu => ?_) (denL_noref hvs) hdv⟩
    simp only [den] at hu
    rw [hu.1]
    have := den_nilRow (l := l) (sz := sz) (ρ := upd ρ' l.length [⟨none, 0, 0⟩]) (by rw [upd_same]; simp)
    simpa [nilRow, den, Z.v] using this
  · have hn2 : n'.v = n := by
      have : n'.v * sz = n * sz := by rw [hn', hn]
      exact Int.eq_of_mul_eq_mul_right (by omega) this
    refine ⟨ρ', _, _, hK st.v, hle, by rw [snoc_eq]; simp, ?_, ?_⟩
    · rw [snoc_eq]
      refine hR2.sub (by simp) fun k B' hB => ?_
      rcases Nat.lt_or_ge k l.length with hlt | hge
      · rw [List.getElem?_append_left hlt] at hB
        exact ⟨B', by rw [List.getElem?_append_left hlt]; exact hB, .rfl⟩
      · rw [List.getElem?_append_right hge] at hB
        have e : k = l.length := by
          have := (List.getElem?_eq_some_iff.1 hB).1; simp at this; omega
        subst e
        simp only [Nat.sub_self, List.getElem?_cons_zero, Option.some.injEq] at hB
        subst hB
        exact ⟨.r false lit st sz F', by rw [List.getElem?_append_right (Nat.le_refl _), Nat.sub_self]; rfl, .r hs rfl hp⟩
    · rw [len_eq]
      exact den_mkT (fun u hu => (sub_sl rfl (by simpa [Z.v] using hn2)).of _ _ hu) (denL_noref hvs) hdv
def MapIs (n0 : Nat) (es : List (SV × SV)) (x : SV) (l' : List Blk) : Prop := ∃ k es', n0 ≤ k ∧ x = .m k ∧ l'[k]? = some (.m es') ∧ SubM es' es ∧ norefM es' = true
/-- A contract used: a map that is new. -/
theorem use_map {S : Sy} (hS : S0 P = S) {g : FuncId} {args args0 : List SV} {l0 : List Blk} {es : List (SV × SV)} {K : SV → List Blk → Prop} (f : Nat → Nat)
    (hF : (S0 P).call g args0 l0 (MapIs l0.length es)) (ha : SubL args (renL f args0))
    (hrefs : refsBL (fun k => decide (k < l0.length)) args0 = true) (hread : Rds l f 0 l0) (hK : K (.m (len l)) (snoc l (.m es))) : S.call g args l K := by
  subst hS
  have h2 : (S0 P).call g (renL f args0) l (fun x l' => ∃ es', x = .m l.length ∧ l' = l ++ [.m es'] ∧ SubM es' es) := by
    refine call_frame hF f rfl hrefs (fun j B h => by have := hread.at j B h; simpa using this) ?_
    rintro x l' ⟨k, es', hk, rfl, hB, hs, hp'⟩
    refine ⟨[k], fun _ => 0, by simp, ?_, by simp [refsB], es', by simp [ren], ?_, hs⟩
    · intro j hj
      rw [List.mem_singleton] at hj; subst hj
      exact ⟨hk, _, hB, rfl, hp'⟩
    · simp only [List.map_cons, List.map_nil]
      rw [lget_eq, List.getD_eq_getElem?_getD, hB]; rfl
  intro N W0 ρ W vals hR hd
  refine NextR.mono ?_ (h2 N W0 ρ W vals hR (ha.den hd))
  rintro v W' ⟨ρ', sv, l', ⟨es', rfl, rfl, hs⟩, hle, hll, hR2, hdv⟩
  refine ⟨ρ', _, _, hK, hle, by rw [snoc_eq]; simp, ?_, by rw [len_eq]; exact hdv⟩
  rw [snoc_eq]
  refine hR2.sub (by simp) fun k B' hB => ?_
  rcases Nat.lt_or_ge k l.length with hlt | hge
  · rw [List.getElem?_append_left hlt] at hB
    exact ⟨B', by rw [List.getElem?_append_left hlt]; exact hB, .rfl⟩
  · rw [List.getElem?_append_right hge] at hB
    have e : k = l.length := by
      have := (List.getElem?_eq_some_iff.1 hB).1; simp at this; omega
    subst e
    simp only [Nat.sub_self, List.getElem?_cons_zero, Option.some.injEq] at hB
    subst hB
    exact ⟨_, by rw [List.getElem?_append_right (Nat.le_refl _), Nat.sub_self]; rfl, .m hs⟩
end
end Cz
/- The engine, part St: steps whose side conditions are found by themselves. No condition. -/
namespace Cz
open Go Go.RowKit
set_option linter.unusedSimpArgs false
set_option linter.unusedVariables false
section
variable {P : Program}
theorem cr : (∀ {a b : Int}, (S0 P).cmp .le a b = decide (a ≤ b)) ∧ (∀ {a b : Int}, (S0 P).cmp .lt a b = decide (a < b)) ∧ (∀ {a b : Int}, (S0 P).cmp .ge a b = decide (b ≤ a)) ∧
    (∀ {a b : Int}, (S0 P).cmp .gt a b = decide (b < a)) ∧ (∀ {a b : Int}, (S0 P).cmp .eq a b = decide (a = b)) ∧ (∀ {a b : Int}, (S0 P).cmp .ne a b = !decide (a = b)) ∧
    (∀ {a b : Int}, (S0 P).pl a b = a + b) ∧ (∀ {a b : Int}, (S0 P).mi a b = a - b) ∧ (∀ {a : Int} {n : Nat}, (S0 P).sc a n = a * n) ∧ (∀ {x : List UInt8}, (S0 P).slen x = ilen x) ∧ (∀ {x : List SV}, (S0 P).flen x = ilen x) ∧
    (∀ {a : Bool}, (S0 P).nt a = !a) ∧ (∀ {a b : Bool}, (S0 P).beq a b = (a == b)) ∧ (∀ {x y : List UInt8}, (S0 P).scmp .eq x y = (x == y)) ∧ (∀ {x y : List UInt8}, (S0 P).scmp .ne x y = !(x == y)) ∧
    (∀ {b : Bool}, ((!b) = true) = (b = false)) ∧ (∀ {b : Bool}, ((!b) = false) = (b = true)) ∧ ((!true) = false) ∧ ((!false) = true) :=
  ⟨rfl, rfl, rfl, rfl, rfl, rfl, rfl, rfl, rfl, rfl, rfl, rfl, rfl, rfl, rfl, by simp, by simp, rfl, rfl⟩
/-- One step with one goal behind it. -/
theorem s_st {S : Sy} {G G' : Prop} (hS : S0 P = S) (h : G')
    (imp : S0 P = S → G' → G := by
      intro hS h
      first
        | exact s_eqs hS rfl h
        | (refine s_eqt hS rfl ?_ h; (cbv; (repeat' (first | exact trivial | rfl | refine And.intro ?_ ?_ | assumption | omega | (simp only [← hS, Int.ofNat_eq_natCast, cq, Bool.not_eq_true', Bool.not_eq_false', decide_eq_true_eq, decide_eq_false_iff_not, beq_iff_eq, beq_eq_false_iff_ne, ne_eq]; done) | (simp only [← hS, Int.ofNat_eq_natCast, cq, Bool.not_eq_true', Bool.not_eq_false', decide_eq_true_eq, decide_eq_false_iff_not, beq_iff_eq, beq_eq_false_iff_ne, ne_eq]; first | assumption | omega))); done))
        | exact s_eqo hS h
        | exact s_lk hS h
        | exact s_mu hS h
        | exact s_chk hS (by simp only [← hS, Int.ofNat_eq_natCast, cq, Bool.not_eq_true', Bool.not_eq_false', decide_eq_true_eq, decide_eq_false_iff_not, beq_iff_eq, beq_eq_false_iff_ne, ne_eq]; omega) h) : G := imp hS h
theorem s_sta {S : Sy} {G G' : Prop} (hS : S0 P = S) (h : G')
    (imp : S0 P = S → G' → G := by
      intro hS h
      first
        | exact s_add hS h (by simp only [lo]; omega) (by simp only [Cz.hi]; omega)
        | exact s_sub hS h (by simp only [lo]; omega) (by simp only [Cz.hi]; omega)) : G := imp hS h
theorem s_stc {S : Sy} {k : IntKind} {a : Int} {K : Int → Prop} (hS : S0 P = S) (h : K a) (h1 : lo k ≤ a := by simp only [lo]; omega) (h2 : a ≤ hi k := by simp only [Cz.hi]; omega) : S.cv k a K := s_cvi hS h h1 h2
theorem s_stk {S : Sy} {b : Bool} {k : Unit → Prop} (hS : S0 P = S) (h : k ())
    (h1 : S0 P = S → b = true := by intro hS; simp only [← hS, Int.ofNat_eq_natCast, cr, Bool.not_eq_true', Bool.not_eq_false', decide_eq_true_eq, decide_eq_false_iff_not, beq_iff_eq, beq_eq_false_iff_ne, ne_eq]; omega) : S.chk b k := s_chk hS (h1 hS) h
/-- A branch, its test told plainly. -/
theorem s_sbr {S : Sy} {b : Bool} {k1 k2 : Unit → Prop} {p q : Prop} (hS : S0 P = S) (h1 : p → k1 ()) (h2 : q → k2 ())
    (e1 : S0 P = S → b = true → p := by intro hS h; first | (simp only [← hS, Int.ofNat_eq_natCast, cq, Bool.not_eq_true', Bool.not_eq_false', decide_eq_true_eq, decide_eq_false_iff_not, beq_iff_eq, beq_eq_false_iff_ne, ne_eq] at h; exact h) | exact h)
    (e2 : S0 P = S → b = false → q := by intro hS h; first | (simp only [← hS, Int.ofNat_eq_natCast, cq, Bool.not_eq_true', Bool.not_eq_false', decide_eq_true_eq, decide_eq_false_iff_not, beq_iff_eq, beq_eq_false_iff_ne, ne_eq] at h; exact h) | exact h) : S.br b k1 k2 :=
  s_br hS (fun h => h1 (e1 hS h)) (fun h => h2 (e2 hS h))
theorem s_sbrr {S : Sy} {b : Bool} {k1 k2 : Unit → Prop} {p q : Prop} (hS : S0 P = S) (h1 : p → k1 ()) (h2 : q → k2 ())
    (e1 : S0 P = S → b = true → p := by intro hS h; first | (simp only [← hS, Int.ofNat_eq_natCast, cr, Bool.not_eq_true', Bool.not_eq_false', decide_eq_true_eq, decide_eq_false_iff_not, beq_iff_eq, beq_eq_false_iff_ne, ne_eq] at h; exact h) | exact h)
    (e2 : S0 P = S → b = false → q := by intro hS h; first | (simp only [← hS, Int.ofNat_eq_natCast, cr, Bool.not_eq_true', Bool.not_eq_false', decide_eq_true_eq, decide_eq_false_iff_not, beq_iff_eq, beq_eq_false_iff_ne, ne_eq] at h; exact h) | exact h) : S.br b k1 k2 :=
  s_br hS (fun h => h1 (e1 hS h)) (fun h => h2 (e2 hS h))
end
/-- What cannot be. -/
theorem s_ab {p G : Prop} (h : p) (e : p → False := by intro h; first | omega | exact absurd trivial h | exact no_tf h | exact no_ft h | exact no_both h (by with_reducible assumption) | exact no_both (by with_reducible assumption) h) : G := (e h).elim
theorem s_sA {p : Prop} (h : p := by repeat' (first | exact sub_any | exact Sub.rfl | exact SubL.nil | refine SubL.cons ?_ ?_ | exact sub_i rfl | refine sub_tp ?_ | refine sub_ag ?_ | exact sub_tt rfl | exact sub_ff rfl | exact sub_b_tt rfl | exact sub_b_ff rfl | (refine sub_i ?_; simp only [Z.v]; omega) | (refine sub_b ?_; assumption) | (refine sub_tt ?_; assumption) | (refine sub_ff ?_; assumption))) : p := h
theorem s_bA {p : Prop} (h : p := by repeat' (first | exact trivial | exact SubB.rfl | refine And.intro ?_ ?_ | (exact SubB.c (by with_reducible assumption)) | exact SubB.c s_sA | (refine SubB.m ?_; (repeat' (first | exact SubM.nil | refine SubM.cons ?_ ?_ ?_ | exact s_sA)); done))) : p := h
end Cz
/- The engine, part Ar: what bits' operations come to. No condition. -/
namespace Cz
open Go Go.RowKit
set_option linter.unusedSimpArgs false
set_option linter.unusedVariables false
section
variable {P : Program}
theorem toNat_ofInt' {w : Nat} {a : Int} : (BitVec.ofInt w a).toNat = (a % (2 : Int) ^ w).toNat := by
  rw [BitVec.toNat_ofInt]; norm_cast
theorem and_mask {w m : Nat} {a : Int} (hm : m ≤ w) : ((BitVec.ofInt w a &&& BitVec.ofInt w ((2 : Int) ^ m - 1)).toNat : Int) = a % 2 ^ m := by
  have h1 : (2 : Int) ^ m ≤ 2 ^ w := by exact_mod_cast Nat.pow_le_pow_right (by omega : 0 < 2) hm
  have h0 : (0 : Int) < 2 ^ m := by exact_mod_cast Nat.two_pow_pos m
  have hd : (2 : Int) ^ m ∣ 2 ^ w := by exact_mod_cast Nat.pow_dvd_pow 2 hm
  rw [BitVec.toNat_and, toNat_ofInt', toNat_ofInt', Int.emod_eq_of_lt (a := (2 : Int) ^ m - 1) (by omega) (by omega)]
  have h2 : ((2 : Int) ^ m - 1).toNat = 2 ^ m - 1 := by
    have : ((2 ^ m : Nat) : Int) = (2 : Int) ^ m := by norm_cast
    omega
  rw [h2, Nat.and_two_pow_sub_one_eq_mod]
  have h3 : (0 : Int) ≤ a % 2 ^ w := Int.emod_nonneg _ (by have := h0; omega)
  rw [Int.natCast_emod, Int.toNat_of_nonneg h3]
  have : ((2 ^ m : Nat) : Int) = (2 : Int) ^ m := by norm_cast
  rw [this, Int.emod_emod_of_dvd _ hd]
theorem lo_bits (k : IntKind) : lo k ≤ 0 := by cases k <;> decide
theorem hi_bits (k : IntKind) : (2 : Int) ^ (k.bits - 1) - 1 ≤ hi k := by cases k <;> decide
theorem pow_le {m n : Nat} (h : m ≤ n) : (2 : Int) ^ m ≤ 2 ^ n := by exact_mod_cast Nat.pow_le_pow_right (by omega : 0 < 2) h
theorem pow_pos' (m : Nat) : (0 : Int) < 2 ^ m := by exact_mod_cast Nat.two_pow_pos m
/-- The last bits of a number. -/
theorem s_andl {S : Sy} {k : IntKind} {a b c : Int} {m : Nat} {K : Int → Prop} (hS : S0 P = S) (hb : b = c - 1 ∧ (2 : Int) ^ m = c ∧ m + 1 ≤ k.bits) (h : ∀ r, r = a % c → K r) : S.ar .and k a b K := by
  obtain ⟨rfl, rfl, hm⟩ := hb
  refine s_are hS _ ?_ (h _ rfl)
  show k.wrap _ = _
  rw [and_mask (by omega)]
  have h1 := Int.emod_nonneg a (b := (2 : Int) ^ m) (by have := pow_pos' m; omega)
  have h2 := Int.emod_lt_of_pos a (pow_pos' m)
  have h3 := lo_bits k
  have h4 := hi_bits k
  have h5 := pow_le (m := m) (n := k.bits - 1) (by omega)
  exact wrap_id (by omega) (by omega)
theorem s_shrl {S : Sy} {k : IntKind} {a b c : Int} {K : Int → Prop} (hS : S0 P = S) (hc : (2 : Int) ^ (min b.toNat k.bits) = c) (h : ∀ r, r = a / c → K r) : S.ar .shr k a b K := by
  subst hc
  refine s_are hS _ ?_ (h _ rfl)
  show a.fdiv _ = _
  exact Int.fdiv_eq_ediv_of_nonneg _ (by have := pow_pos' (min b.toNat k.bits); omega)
theorem s_shr {S : Sy} {k : IntKind} {a b : Int} {K : Int → Prop} (hS : S0 P = S) (hb : b.toNat ≤ k.bits) (h : ∀ r, r = a / 2 ^ b.toNat → K r) : S.ar .shr k a b K :=
  s_shrl hS rfl (by rw [Nat.min_eq_left hb]; exact h)
theorem s_shll {S : Sy} {k : IntKind} {a b c : Int} {K : Int → Prop} (hS : S0 P = S) (hc : (2 : Int) ^ (min b.toNat k.bits) = c) (h : ∀ r, r = a * c → K r) (h1 : lo k ≤ a * c) (h2 : a * c ≤ hi k) : S.ar .shl k a b K := by
  subst hc
  exact s_are hS _ (wrap_id h1 h2) (h _ rfl)
theorem or_low {a b m : Nat} (ha : a % 2 ^ m = 0) (hb : b < 2 ^ m) : a ||| b = a + b := by
  have h := Nat.two_pow_add_eq_or_of_lt hb (a / 2 ^ m)
  have e : 2 ^ m * (a / 2 ^ m) = a := by have := Nat.div_add_mod a (2 ^ m); omega
  rw [e] at h
  exact h.symm
/-- Bits put under bits. -/
theorem s_orl {S : Sy} {k : IntKind} {a b c : Int} {m : Nat} {K : Int → Prop} (hS : S0 P = S) (hc : (2 : Int) ^ m = c) (h0 : 0 ≤ a) (h1 : a % c = 0) (h2 : 0 ≤ b) (h3 : b < c) (h4 : a + b ≤ hi k) (h : ∀ r, r = a + b → K r) : S.ar .or k a b K := by
  subst hc
  refine s_are hS _ ?_ (h _ rfl)
  show k.wrap _ = _
  have hw : (a + b) < (2 : Int) ^ k.bits := by
    have : hi k < 2 ^ k.bits := by cases k <;> decide
    omega
  have hor : ((BitVec.ofInt k.bits a ||| BitVec.ofInt k.bits b).toNat : Int) = a + b := by
    rw [BitVec.toNat_or, toNat_ofInt', toNat_ofInt', Int.emod_eq_of_lt h0 (by omega), Int.emod_eq_of_lt h2 (by omega), or_low (m := m)]
    · omega
    · have : ((a.toNat % 2 ^ m : Nat) : Int) = 0 := by
        rw [Int.natCast_emod, Int.toNat_of_nonneg h0]; push_cast; exact h1
      omega
    · have : ((2 ^ m : Nat) : Int) = (2 : Int) ^ m := by norm_cast
      omega
  rw [hor]
  exact wrap_id (by have := lo_bits k; omega) h4
end
end Cz
/- The engine, part Z3: contracts that tell new rows anywhere in a result. No condition. -/
namespace Cz
open Go Go.RowKit
set_option linter.unusedSimpArgs false
set_option linter.unusedVariables false
section
variable {P : Program} {l : List Blk}
/-- A result with a row among other values. -/
def mkP (pre vs : List SV) (y : SV) : SV := .tp (catS pre (y :: vs))
def OwnP (n0 : Nat) (sz : Nat) (F : List SV) (pre vs : List SV) (x : SV) (l' : List Blk) : Prop := ∃ y, Sub x (mkP pre vs y) ∧ RowIs n0 sz F y l'
theorem denL_mid {ρ ρ' : Nms} {y y' : SV} {vs : List SV} (hy : ∀ u, den ρ y u → den ρ' y' u) (hv : ∀ us, denL ρ vs us → denL ρ' vs us) : ∀ {pre : List SV}, (∀ us, denL ρ pre us → denL ρ' pre us) → ∀ (us : List Value), denL ρ (pre ++ y :: vs) us → denL ρ' (pre ++ y' :: vs) us
  | [], _, [], d => by simp [denL] at d
  | [], _, u :: us, d => by
    simp only [List.nil_append, denL] at d ⊢
    exact ⟨hy _ d.1, hv _ d.2⟩
  | x :: pre, hp, [], d => by simp [denL] at d
  | x :: pre, hp, u :: us, d => by
    simp only [List.cons_append, denL] at d ⊢
    have hx : ∀ (ws : List Value), denL ρ pre ws → denL ρ' pre ws := by
      intro ws hw
      have := hp (u :: ws) (by simp only [denL]; exact ⟨d.1, hw⟩)
      simp only [denL] at this; exact this.2
    have hlen : ∃ ws, denL ρ pre ws := by
      have : ∀ (pre : List SV) (us : List Value), denL ρ (pre ++ y :: vs) us → ∃ ws, denL ρ pre ws := by
        intro pre
        induction pre with
        | nil => intro us _; exact ⟨[], by simp [denL]⟩
        | cons x pre ih =>
          intro us d
          cases us with
          | nil => simp [denL] at d
          | cons u us =>
            simp only [List.cons_append, denL] at d
            obtain ⟨ws, hw⟩ := ih us d.2
            exact ⟨u :: ws, by simp only [denL]; exact ⟨d.1, hw⟩⟩
      exact this pre us d.2
    obtain ⟨ws, hw⟩ := hlen
    have h1 := hp (u :: ws) (by simp only [denL]; exact ⟨d.1, hw⟩)
    simp only [denL] at h1
    exact ⟨h1.1, denL_mid hy hv hx us d.2⟩
theorem den_mkP {ρ ρ' : Nms} {pre vs : List SV} {y y' : SV} {v : Value} (hy : ∀ u, den ρ y u → den ρ' y' u) (hp : ∀ us, denL ρ pre us → denL ρ' pre us) (hv : ∀ us, denL ρ vs us → denL ρ' vs us) (h : den ρ (mkP pre vs y) v) : den ρ' (mkP pre vs y') v := by
  simp only [mkP, den, catS_eq] at h ⊢
  obtain ⟨us, e, d⟩ := h
  exact ⟨us, e, denL_mid hy hv hp _ d⟩
theorem refsBL_mid {ok : Nat → Bool} {y : SV} {vs : List SV} (hv : refsBL ok vs = true) (hy : refsB ok y = true) : ∀ {pre : List SV}, refsBL ok pre = true → refsBL ok (pre ++ y :: vs) = true
  | [], _ => by simp only [List.nil_append, refsBL, hy, hv, Bool.and_self]
  | x :: pre, h => by
    simp only [refsBL, Bool.and_eq_true] at h
    simp only [List.cons_append, refsBL, h.1, refsBL_mid hv hy h.2, Bool.and_self]
theorem renL_mid (f : Nat → Nat) {y : SV} {vs : List SV} (hv : refsBL (fun _ => false) vs = true) : ∀ {pre : List SV}, refsBL (fun _ => false) pre = true → renL f (pre ++ y :: vs) = pre ++ ren f y :: vs
  | [], _ => by simp only [List.nil_append, renL]; rw [renL_noref _ _ hv]
  | x :: pre, h => by
    simp only [refsBL, Bool.and_eq_true] at h
    simp only [List.cons_append, renL]
    rw [ren_noref _ _ h.1, renL_mid f hv h.2]
/-- A contract used: a row that is new. -/
theorem use_ownP {S : Sy} (hS : S0 P = S) {g : FuncId} {args args0 : List SV} {l0 : List Blk} {sz : Nat} {F : List SV} {pre vs : List SV} {K : SV → List Blk → Prop} (f : Nat → Nat)
    (hF : (S0 P).call g args0 l0 (OwnP l0.length sz F pre vs)) (ha : SubL args (renL f args0))
    (hrefs : refsBL (fun k => decide (k < l0.length)) args0 = true) (hread : Rds l f 0 l0) (hsz : 0 < sz) (hp : plains F = true) (hpre : refsBL (fun _ => false) pre = true) (hvs : refsBL (fun _ => false) vs = true)
    {n : Int} (hn : n * sz = F.length) (hK : ∀ st, K (mkP pre vs (.sl (len l) sz (.l 0) (.y n) none)) (snoc l (.r false false (.y st) sz F))) : S.call g args l K := by
  subst hS
  have h1 : (S0 P).call g args0 l0 (fun x l' => ∃ y, x = mkP pre vs y ∧ RowIs l0.length sz F y l') := call_post hF fun x l' ⟨y, hs, hr⟩ => ⟨_, hs, y, rfl, hr⟩
  have h2 : (S0 P).call g (renL f args0) l (fun x l' => (x = mkP pre vs (.re (.slice none 0 0)) ∧ F = [] ∧ l' = l) ∨
      ∃ n lit st F', x = mkP pre vs (.sl l.length sz (.l 0) n none) ∧ l' = l ++ [.r false lit st sz F'] ∧ FSub F' F ∧ n.v * sz = F.length) := by
    refine call_frame h1 f rfl hrefs (fun j B h => by have := hread.at j B h; simpa using this) ?_
    rintro x l' ⟨y, rfl, ⟨rfl, hF0⟩ | ⟨k, n, lit, st, F', hk, rfl, hB, hs, hp', hn⟩⟩
    · refine ⟨[], id, List.nodup_nil, by simp, ?_, .inl ⟨?_, hF0, by simp⟩⟩
      · simp only [mkP, refsB, catS_eq]; exact refsBL_mid (refsBL_mono (fun _ h => by cases h) _ hvs) rfl (refsBL_mono (fun _ h => by cases h) _ hpre)
      · simp only [mkP, ren, catS_eq]; rw [renL_mid _ hvs hpre]; rfl
    · refine ⟨[k], fun _ => 0, by simp, ?_, ?_, .inr ⟨n, lit, st, F', ?_, ?_, hs, hn⟩⟩
      · intro j hj
        rw [List.mem_singleton] at hj; subst hj
        exact ⟨hk, _, hB, rfl, hp'⟩
      · simp only [mkP, refsB, catS_eq]; exact refsBL_mid (refsBL_mono (fun _ h => by cases h) _ hvs) (by simp [refsB]) (refsBL_mono (fun _ h => by cases h) _ hpre)
      · simp only [mkP, ren, catS_eq]; rw [renL_mid _ hvs hpre]; simp [ren]
      · simp only [List.map_cons, List.map_nil]
        rw [lget_eq, List.getD_eq_getElem?_getD, hB]; rfl
  intro N W0 ρ W vals hR hd
  refine NextR.mono ?_ (h2 N W0 ρ W vals hR (ha.den hd))
  rintro v W' ⟨ρ', sv, l', hk, hle, hll, hR2, hdv⟩
  rcases hk with ⟨rfl, hF0, hl'⟩ | ⟨n', lit, st, F', rfl, rfl, hs, hn'⟩
  · rw [hl'] at hR2 hll
    clear hl'
    subst hF0
    have hn0 : n = 0 := by
      have : n * sz = 0 := by simpa using hn
      rcases Int.mul_eq_zero.1 this with h | h
      · exact h
      · omega
    subst hn0
    have hR3 := hR2.ghost false hsz
    have hR4 : Rel P N W0 (upd ρ' l.length [⟨none, 0, 0⟩]) (snoc l (.r false false (.y 0) sz [])) W' := by
      rw [snoc_eq]
      refine hR3.sub (by simp) fun k B' hB => ?_
      rcases Nat.lt_or_ge k l.length with hlt | hge
      · rw [List.getElem?_append_left hlt] at hB
        exact ⟨B', by rw [List.getElem?_append_left hlt]; exact hB, .rfl⟩
      · rw [List.getElem?_append_right hge] at hB
        have e : k = l.length := by
          have := (List.getElem?_eq_some_iff.1 hB).1; simp at this; omega
        subst e
        simp only [Nat.sub_self, List.getElem?_cons_zero, Option.some.injEq] at hB
        subst hB
        exact ⟨.r false true (.l 0) sz [], by rw [List.getElem?_append_right (Nat.le_refl _), Nat.sub_self]; rfl, .r .rfl rfl rfl⟩
    refine ⟨_, _, _, hK 0, hle.trans (le_ghost hll), by rw [snoc_eq]; simp, hR4, den_mkP (fun u hu => ?_) (denL_noref hpre) (denL_noref hvs) hdv⟩
    simp only [den] at hu
    rw [hu.1]
    have := den_nilRow (l := l) (sz := sz) (ρ := upd ρ' l.length [⟨none, 0, 0⟩]) (by rw [upd_same]; simp)
    simpa [nilRow, den, Z.v] using this
  · have hn2 : n'.v = n := by
      have : n'.v * sz = n * sz := by rw [hn', hn]
      exact Int.eq_of_mul_eq_mul_right (by omega) this
    refine ⟨ρ', _, _, hK st.v, hle, by rw [snoc_eq]; simp, ?_, ?_⟩
    · rw [snoc_eq]
      refine hR2.sub (by simp) fun k B' hB => ?_
      rcases Nat.lt_or_ge k l.length with hlt | hge
      · rw [List.getElem?_append_left hlt] at hB
        exact ⟨B', by rw [List.getElem?_append_left hlt]; exact hB, .rfl⟩
      · rw [List.getElem?_append_right hge] at hB
        have e : k = l.length := by
          have := (List.getElem?_eq_some_iff.1 hB).1; simp at this; omega
        subst e
        simp only [Nat.sub_self, List.getElem?_cons_zero, Option.some.injEq] at hB
        subst hB
        exact ⟨.r false lit st sz F', by rw [List.getElem?_append_right (Nat.le_refl _), Nat.sub_self]; rfl, .r hs rfl hp⟩
    · rw [len_eq]
      exact den_mkP (fun u hu => (sub_sl rfl (by simpa [Z.v] using hn2)).of _ _ hu) (denL_noref hpre) (denL_noref hvs) hdv
end
end Cz
/- The engine, part Z4: contracts of a row, used at a part of a row. No condition. -/
namespace Cz
open Go Go.RowKit
set_option linter.unusedSimpArgs false
set_option linter.unusedVariables false
section
variable {P : Program} {l : List Blk}
theorem plains_take : ∀ {F : List SV} (h : plains F = true) (n : Nat), plains (F.take n) = true
  | [], _, n => by simp [plains]
  | x :: F, h, 0 => rfl
  | x :: F, h, n + 1 => by
    simp only [plains, Bool.and_eq_true, List.take_succ_cons] at h ⊢
    exact ⟨h.1, plains_take h.2 n⟩
theorem plains_drop : ∀ {F : List SV} (h : plains F = true) (n : Nat), plains (F.drop n) = true
  | [], _, n => by simp [plains]
  | x :: F, h, 0 => h
  | x :: F, h, n + 1 => by
    simp only [plains, Bool.and_eq_true, List.drop_succ_cons] at h ⊢
    exact plains_drop h.2 n
theorem den_plain2 {ρ : Nms} (ρ' : Nms) {x : SV} {v : Value} (hp : plainV x = true) (h : den ρ x v) : den ρ' x v := by
  cases x <;> simp [plainV] at hp <;> simpa only [den] using h
/-- What a function does in a heap of what it reads alone, it does in any heap whose values may be named so. -/
theorem call_frame2 {g : FuncId} {args0 : List SV} {l0 : List Blk} {R : SV → List Blk → Prop} (hF : (S0 P).call g args0 l0 R) {args : List SV} {K : SV → List Blk → Prop}
    (hl0 : ∀ (j : Nat) (B : Blk), l0[j]? = some B → ∃ lit st sz F, B = .r true lit st sz F ∧ plains F = true ∧ 0 < sz)
    (hin : ∀ (N : Nat) (W0 W : World) (ρ : Nms) (vals : List Value), Rel P N W0 ρ l W → denL ρ args vals → ∃ ρ0 : Nms, (∀ j, l0.length ≤ j → ρ0 j = []) ∧ (∀ j vw a, vw ∈ ρ0 j → vw.base = some a → a.block < W.heap.size) ∧
      (∀ j lit st sz F vw, l0[j]? = some (.r true lit st sz F) → vw ∈ ρ0 j → ViewOk W ρ0 F vw) ∧ denL ρ0 args0 vals)
    (hK : ∀ sv l', R sv l' → ∃ (js : List Nat) (h : Nat → Nat), js.Nodup ∧ (∀ j ∈ js, l0.length ≤ j ∧ ∃ B, l'[j]? = some B ∧ B.wr = true ∧ plainB B = true) ∧
      refsB (fun j => decide (js[h j]? = some j)) sv = true ∧ K (ren (fun j => l.length + h j) sv) (l ++ js.map (lget l'))) : (S0 P).call g args l K := by
  intro N W0 ρ W vals hR hd
  obtain ⟨ρ0, hout, hids, hview, hd0⟩ := hin N W0 W ρ vals.toList hR hd
  have hR0 : Rel P W.heap.size W ρ0 l0 W := by
    refine ⟨⟨rfl, rfl, rfl, Nat.le_refl _, fun _ _ => rfl⟩, Nat.le_refl _, hout, hids, ?_, ?_, ?_⟩
    · intro k B hB
      obtain ⟨lit, st, sz, F, rfl, hp, h0⟩ := hl0 k B hB
      exact ⟨h0, fun vw hm => hview k lit st sz F vw hB hm, fun _ x hx => plains_mem' hp x hx, fun h => by cases h⟩
    · intro k k' B vw vw' a a' hB hwr
      obtain ⟨lit, st, sz, F, rfl, hp, h0⟩ := hl0 k B hB
      simp [Blk.wr] at hwr
    · intro k B vw a hB hwr
      obtain ⟨lit, st, sz, F, rfl, hp, h0⟩ := hl0 k B hB
      simp [Blk.wr] at hwr
  refine NextR.mono ?_ (hF _ _ _ _ _ hR0 hd0)
  rintro v W' ⟨ρ', sv, l', hRsv, hle, hll, hR', hdv⟩
  obtain ⟨js, h, hnd, hjs, hrf, hKK⟩ := hK sv l' hRsv
  let ρ2 : Nms := fun k => if k < l.length then ρ k else match js[k - l.length]? with
    | some j => ρ' j
    | none => []
  have hold : ∀ k, k < l.length → ρ2 k = ρ k := fun k hk => by simp [ρ2, hk]
  have hnew : ∀ i j, js[i]? = some j → ρ2 (l.length + i) = ρ' j := fun i j hij => by simp only [ρ2]; rw [if_neg (by omega)]; simp [hij]
  have hcase : ∀ k, k < l.length ∨ (∃ i j, k = l.length + i ∧ js[i]? = some j) ∨ ρ2 k = [] := by
    intro k
    by_cases hk : k < l.length
    · exact .inl hk
    · cases hq : js[k - l.length]? with
      | none => exact .inr (.inr (by simp [ρ2, hk, hq]))
      | some j => exact .inr (.inl ⟨k - l.length, j, by omega, hq⟩)
  have hleρ : Le l.length ρ ρ2 := fun k hk vw hv => by rw [hold k hk]; exact hv
  have hmem : ∀ i j, js[i]? = some j → j ∈ js := fun i j h => List.mem_of_getElem? h
  have hblk : ∀ i j B, js[i]? = some j → (l ++ js.map (lget l'))[l.length + i]? = some B → l'[j]? = some B ∧ B.wr = true ∧ plainB B = true := by
    intro i j B hij hB
    obtain ⟨_, B', hB', hw, hp⟩ := hjs j (hmem i j hij)
    rw [List.getElem?_append_right (by omega), List.getElem?_map] at hB
    simp only [Nat.add_sub_cancel_left, hij, Option.map_some, Option.some.injEq] at hB
    have : lget l' j = B' := by rw [lget_eq, List.getD_eq_getElem?_getD, hB']; rfl
    rw [this] at hB; subst hB
    exact ⟨hB', hw, hp⟩
  have hfresh : ∀ (i j : Nat) (vw : View) (a : Addr), js[i]? = some j → vw ∈ ρ' j → vw.base = some a → W.heap.size ≤ a.block := by
    intro i j vw a hij hv ha
    obtain ⟨_, B', hB', hw, hp⟩ := hjs j (hmem i j hij)
    exact hR'.own j B' vw a hB' hw hv ha
  refine ⟨ρ2, _, _, hKK, hleρ, by simp, ⟨?_, hR.le, ?_, ?_, ?_, ?_, ?_⟩, ?_⟩
  · exact hR.below.trans (hR'.below.mono hR.hN)
  · intro k hk
    simp only [List.length_append, List.length_map] at hk
    have : js[k - l.length]? = none := List.getElem?_eq_none (by omega)
    simp [ρ2, show ¬ k < l.length by omega, this]
  · intro k vw a hv ha
    rcases hcase k with hk | ⟨i, j, rfl, hij⟩ | hk
    · rw [hold k hk] at hv
      exact Nat.lt_of_lt_of_le (hR.ids k vw a hv ha) hR'.below.size
    · rw [hnew i j hij] at hv
      exact hR'.ids j vw a hv ha
    · rw [hk] at hv; cases hv
  · intro k B hB
    by_cases hk : k < l.length
    · rw [List.getElem?_append_left hk] at hB
      exact (hR.blk k B hB).keep hleρ hR.out (hold k hk) fun vw hv a ha => hR'.below.block _ (hR.ids k vw a hv ha)
    · have hlt := (List.getElem?_eq_some_iff.1 hB).1
      simp only [List.length_append, List.length_map] at hlt
      obtain ⟨i, rfl⟩ : ∃ i, k = l.length + i := ⟨k - l.length, by omega⟩
      have hij : js[i]? = some js[i] := List.getElem?_eq_getElem (by omega)
      obtain ⟨hB', hw, hp⟩ := hblk i _ B hij hB
      exact (hR'.blk _ B hB').move hp hR.hN (hnew i _ hij)
  · intro k k' B vw vw' a a' hB hwr hne hv hv' ha ha'
    rcases hcase k with hk | ⟨i, j, rfl, hij⟩ | hk
    · rw [hold k hk] at hv
      rcases hcase k' with hk' | ⟨i', j', rfl, hij'⟩ | hk'
      · rw [hold k' hk'] at hv'
        rw [List.getElem?_append_left hk] at hB
        exact hR.sep k k' B vw vw' a a' hB hwr hne hv hv' ha ha'
      · rw [hnew i' j' hij'] at hv'
        have h1 := hfresh i' j' vw' a' hij' hv' ha'
        have h2 := hR.ids k vw a hv ha
        omega
      · rw [hk'] at hv'; cases hv'
    · rw [hnew i j hij] at hv
      obtain ⟨hB', hw, hp⟩ := hblk i j B hij hB
      rcases hcase k' with hk' | ⟨i', j', rfl, hij'⟩ | hk'
      · rw [hold k' hk'] at hv'
        have h1 := hfresh i j vw a hij hv ha
        have h2 := hR.ids k' vw' a' hv' ha'
        omega
      · rw [hnew i' j' hij'] at hv'
        have hjj : j ≠ j' := by
          intro e
          subst e
          have hi := (List.getElem?_eq_some_iff.1 hij).1
          exact hne (congrArg _ ((List.getElem?_inj hi hnd).1 (hij.trans hij'.symm)))
        exact hR'.sep j j' B vw vw' a a' hB' hw hjj hv hv' ha ha'
      · rw [hk'] at hv'; cases hv'
    · rw [hk] at hv; cases hv
  · intro k B vw a hB hwr hv ha
    rcases hcase k with hk | ⟨i, j, rfl, hij⟩ | hk
    · rw [hold k hk] at hv
      rw [List.getElem?_append_left hk] at hB
      exact hR.own k B vw a hB hwr hv ha
    · rw [hnew i j hij] at hv
      exact Nat.le_trans hR.hN (hfresh i j vw a hij hv ha)
    · rw [hk] at hv; cases hv
  · refine den_ren (ok := fun j => decide (js[h j]? = some j)) (ρ := ρ') ?_ sv v hrf hdv
    intro j hj vw hv
    simp only [decide_eq_true_eq] at hj
    rw [hnew _ _ hj]; exact hv
/-- A contract used: a row that is new, of a part of a row. -/
theorem use_cut {S : Sy} (hS : S0 P = S) {g : FuncId} {k : Nat} {zo zn : Z} {o m : Nat} {F0 F1 F' : List SV} {ro lit : Bool} {st : Z} {sz : Nat} {F : List SV} {con : Bool} {vs : List SV} {K : SV → List Blk → Prop}
    (hF : (S0 P).call g [.sl 0 sz (.l 0) (.y (m : Int)) none] [.r true true (.l 0) sz F0] (OwnR 1 sz F con vs)) (hrow : lget l k = .r ro lit st sz F') (hfs : FSub F' F1) (hp1 : plains F1 = true) (hzo : zo.v = o) (hzn : zn.v = m)
    (hF0 : F0 = (F1.drop (o * sz)).take (m * sz)) (hlen : (o + m) * sz ≤ F1.length) (hsz : 0 < sz) (hp : plains F = true) (hvs : refsBL (fun _ => false) vs = true)
    {n : Int} (hn : n * sz = F.length) (hK : ∀ st, K (mkT con vs (.sl (len l) sz (.l 0) (.y n) none)) (snoc l (.r false false (.y st) sz F))) : S.call g [.sl k sz zo zn none] l K := by
  subst hS
  have h1 : (S0 P).call g [.sl 0 sz (.l 0) (.y (m : Int)) none] [.r true true (.l 0) sz F0] (fun x l' => ∃ y, x = mkT con vs y ∧ RowIs 1 sz F y l') := call_post hF fun x l' ⟨y, hs, hr⟩ => ⟨_, hs, y, rfl, hr⟩
  have h2 : (S0 P).call g [.sl k sz zo zn none] l (fun x l' => (x = mkT con vs (.re (.slice none 0 0)) ∧ F = [] ∧ l' = l) ∨
      ∃ n lit st F', x = mkT con vs (.sl l.length sz (.l 0) n none) ∧ l' = l ++ [.r false lit st sz F'] ∧ FSub F' F ∧ n.v * sz = F.length) := by
    have hF0p : plains F0 = true := by rw [hF0]; exact plains_take (plains_drop hp1 _) _
    have hF0l : F0.length = m * sz := by
      rw [hF0, List.length_take, List.length_drop]
      rw [Nat.add_mul] at hlen
      omega
    refine call_frame2 h1 (fun j B h => ?_) (fun N W0 W ρ vals hR hd => ?_) ?_
    · cases j with
      | zero => simp only [List.getElem?_cons_zero, Option.some.injEq] at h; subst h; exact ⟨_, _, _, _, rfl, hF0p, hsz⟩
      | succ j => simp at h
    · match vals, hd with
      | [v], hd =>
        simp only [denL, den, hzo, hzn] at hd
        obtain ⟨⟨ho, hm, vw, hvw, hle, hsl⟩, _⟩ := hd
        obtain ⟨_, hv, _, _⟩ := hR.blk _ _ (lget_some hrow (by simp))
        have hV := hfs.view (hv vw hvw)
        simp only [Int.toNat_natCast] at hle hsl
        have hids := hR.ids k vw
        have fin : ∀ vw0 : View, (∀ a, vw0.base = some a → a.block < W.heap.size) → ViewOk W (upd (fun _ => []) 0 [vw0]) F0 vw0 → m * sz ≤ vw0.n → SlVal vw0 sz 0 m none v →
            ∃ ρ0 : Nms, (∀ j, 1 ≤ j → ρ0 j = []) ∧ (∀ j vw a, vw ∈ ρ0 j → vw.base = some a → a.block < W.heap.size) ∧
            (∀ j lit st sz' F vw, [Blk.r true true (.l 0) sz F0][j]? = some (.r true lit st sz' F) → vw ∈ ρ0 j → ViewOk W ρ0 F vw) ∧ denL ρ0 [.sl 0 sz (.l 0) (.y (m : Int)) none] [v] := by
          intro vw0 h1 h2 h3 h4
          refine ⟨upd (fun _ => []) 0 [vw0], fun j hj => upd_other (by omega), fun j vw a hv ha => ?_, fun j lit st sz' F vw hj hv => ?_, ?_⟩
          · by_cases hj : j = 0
            · subst hj; rw [upd_same, List.mem_singleton] at hv; subst hv; exact h1 a ha
            · rw [upd_other hj] at hv; cases hv
          · cases j with
            | zero =>
              simp only [List.getElem?_cons_zero, Option.some.injEq, Blk.r.injEq] at hj
              obtain ⟨_, _, _, _, rfl⟩ := hj
              rw [upd_same, List.mem_singleton] at hv; subst hv; exact h2
            | succ j => simp at hj
          · simp only [denL, den]
            exact ⟨⟨by simp [Z.v], by simp [Z.v], vw0, by rw [upd_same]; exact List.mem_singleton.2 rfl, by simpa [Z.v] using h3, by simpa [Z.v] using h4⟩, trivial⟩
        cases hb : vw.base with
        | none =>
          simp only [SlVal, hb] at hsl
          obtain ⟨ho0, hm0, a', rfl⟩ := hsl
          subst hm0
          have : F0 = [] := List.length_eq_zero_iff.1 (by omega)
          subst this
          exact fin ⟨none, 0, 0⟩ (fun a h => by cases h) ⟨Nat.zero_le _, fun _ => ⟨rfl, rfl⟩, fun q x hq _ => by simp at hq⟩ (by simp) (by simp [SlVal])
        | some a =>
          simp only [SlVal, hb] at hsl
          refine fin ⟨some ⟨a.block, a.off + o * sz, none⟩, m * sz, vw.cap - o⟩ (fun a2 h => ?_) ⟨by rw [hF0l]; exact Nat.le_refl _, fun h => by simp at h, fun q x hq hx => ?_⟩ (Nat.le_refl _) ?_
          · simp only [Option.some.injEq] at h; subst h
            exact hids a hvw hb
          · simp only at hq
            rw [hF0, List.getElem?_take_of_lt hq, List.getElem?_drop] at hx
            have hx2 := hV.2.2 (o * sz + q) x (by rw [Nat.add_mul] at hle; omega) hx
            obtain ⟨a2, v2, e1, e2, e3⟩ := hx2
            rw [hb] at e1
            simp only [Option.some.injEq] at e1; subst e1
            refine ⟨_, v2, rfl, ?_, den_plain2 _ (plains_mem' hp1 x (List.mem_of_getElem? hx)) e3⟩
            simp only
            rw [Nat.add_assoc]; exact e2
          · simp only [SlVal]
            rcases hsl with ⟨c, rfl, h1, h2, h3⟩ | ⟨h1, h2, h3⟩
            · have h2' : o + c ≤ vw.cap := h2
              have h3' : o + c = vw.cap := h3
              refine .inl ⟨c, by simp, h1, ?_, ?_⟩
              · show 0 + c ≤ vw.cap - o; omega
              · show 0 + c = vw.cap - o; omega
            · exact .inr ⟨h1, h2, h3⟩
    rintro x l' ⟨y, rfl, ⟨rfl, hF0⟩ | ⟨k, n, lit, st, F', hk, rfl, hB, hs, hp', hn⟩⟩
    · refine ⟨[], id, List.nodup_nil, by simp, ?_, .inl ⟨?_, hF0, by simp⟩⟩
      · cases con
        · rfl
        · simp only [mkT, refsB, refsBL, Bool.true_and]; exact refsBL_mono (fun _ h => by cases h) _ hvs
      · cases con
        · rfl
        · simp only [mkT, ren, renL]; rw [renL_noref _ _ hvs]
    · refine ⟨[k], fun _ => 0, by simp, ?_, ?_, .inr ⟨n, lit, st, F', ?_, ?_, hs, hn⟩⟩
      · intro j hj
        rw [List.mem_singleton] at hj; subst hj
        exact ⟨hk, _, hB, rfl, hp'⟩
      · cases con
        · simp [mkT, refsB]
        · simp only [mkT, refsB, refsBL, Bool.and_eq_true]
          exact ⟨by simp, refsBL_mono (fun _ h => by cases h) _ hvs⟩
      · cases con
        · simp [mkT, ren]
        · simp only [mkT, ren, renL]; rw [renL_noref _ _ hvs]; simp
      · simp only [List.map_cons, List.map_nil]
        rw [lget_eq, List.getD_eq_getElem?_getD, hB]; rfl
  intro N W0 ρ W vals hR hd
  refine NextR.mono ?_ (h2 N W0 ρ W vals hR hd)
  rintro v W' ⟨ρ', sv, l', hk, hle, hll, hR2, hdv⟩
  rcases hk with ⟨rfl, hF0, hl'⟩ | ⟨n', lit, st, F', rfl, rfl, hs, hn'⟩
  · rw [hl'] at hR2 hll
    clear hl'
    subst hF0
    have hn0 : n = 0 := by
      have : n * sz = 0 := by simpa using hn
      rcases Int.mul_eq_zero.1 this with h | h
      · exact h
      · omega
    subst hn0
    have hR3 := hR2.ghost false hsz
    have hR4 : Rel P N W0 (upd ρ' l.length [⟨none, 0, 0⟩]) (snoc l (.r false false (.y 0) sz [])) W' := by
      rw [snoc_eq]
      refine hR3.sub (by simp) fun k B' hB => ?_
      rcases Nat.lt_or_ge k l.length with hlt | hge
      · rw [List.getElem?_append_left hlt] at hB
        exact ⟨B', by rw [List.getElem?_append_left hlt]; exact hB, .rfl⟩
      · rw [List.getElem?_append_right hge] at hB
        have e : k = l.length := by
          have := (List.getElem?_eq_some_iff.1 hB).1; simp at this; omega
        subst e
        simp only [Nat.sub_self, List.getElem?_cons_zero, Option.some.injEq] at hB
        subst hB
        exact ⟨.r false true (.l 0) sz [], by rw [List.getElem?_append_right (Nat.le_refl _), Nat.sub_self]; rfl, .r .rfl rfl rfl⟩
    refine ⟨_, _, _, hK 0, hle.trans (le_ghost hll), by rw [snoc_eq]; simp, hR4, den_mkT (fun u hu => ?_) (denL_noref hvs) hdv⟩
    simp only [den] at hu
    rw [hu.1]
    have := den_nilRow (l := l) (sz := sz) (ρ := upd ρ' l.length [⟨none, 0, 0⟩]) (by rw [upd_same]; simp)
    simpa [nilRow, den, Z.v] using this
  · have hn2 : n'.v = n := by
      have : n'.v * sz = n * sz := by rw [hn', hn]
      exact Int.eq_of_mul_eq_mul_right (by omega) this
    refine ⟨ρ', _, _, hK st.v, hle, by rw [snoc_eq]; simp, ?_, ?_⟩
    · rw [snoc_eq]
      refine hR2.sub (by simp) fun k B' hB => ?_
      rcases Nat.lt_or_ge k l.length with hlt | hge
      · rw [List.getElem?_append_left hlt] at hB
        exact ⟨B', by rw [List.getElem?_append_left hlt]; exact hB, .rfl⟩
      · rw [List.getElem?_append_right hge] at hB
        have e : k = l.length := by
          have := (List.getElem?_eq_some_iff.1 hB).1; simp at this; omega
        subst e
        simp only [Nat.sub_self, List.getElem?_cons_zero, Option.some.injEq] at hB
        subst hB
        exact ⟨.r false lit st sz F', by rw [List.getElem?_append_right (Nat.le_refl _), Nat.sub_self]; rfl, .r hs rfl hp⟩
    · rw [len_eq]
      exact den_mkT (fun u hu => (sub_sl rfl (by simpa [Z.v] using hn2)).of _ _ hu) (denL_noref hvs) hdv
end
end Cz
/- The engine, part Z5: contracts used at a part of a row; what is told in a tuple's midst. No condition. -/
namespace Cz
open Go Go.RowKit
set_option linter.unusedSimpArgs false
set_option linter.unusedVariables false
section
variable {P : Program} {l : List Blk}
/-- A contract used: a row that is new, of a part of a row. -/
theorem use_cutP {S : Sy} (hS : S0 P = S) {g : FuncId} {k : Nat} {zo zn : Z} {o m : Nat} {F0 F1 F' : List SV} {ro lit : Bool} {st : Z} {sz : Nat} {F : List SV} {pre vs : List SV} {K : SV → List Blk → Prop}
    (hF : (S0 P).call g [.sl 0 sz (.l 0) (.y (m : Int)) none] [.r true true (.l 0) sz F0] (OwnP 1 sz F pre vs)) (hrow : lget l k = .r ro lit st sz F') (hfs : FSub F' F1) (hp1 : plains F1 = true) (hzo : zo.v = o) (hzn : zn.v = m)
    (hF0 : F0 = (F1.drop (o * sz)).take (m * sz)) (hlen : (o + m) * sz ≤ F1.length) (hsz : 0 < sz) (hp : plains F = true) (hpre : refsBL (fun _ => false) pre = true) (hvs : refsBL (fun _ => false) vs = true)
    {n : Int} (hn : n * sz = F.length) (hK : ∀ st, K (mkP pre vs (.sl (len l) sz (.l 0) (.y n) none)) (snoc l (.r false false (.y st) sz F))) : S.call g [.sl k sz zo zn none] l K := by
  subst hS
  have h1 : (S0 P).call g [.sl 0 sz (.l 0) (.y (m : Int)) none] [.r true true (.l 0) sz F0] (fun x l' => ∃ y, x = mkP pre vs y ∧ RowIs 1 sz F y l') := call_post hF fun x l' ⟨y, hs, hr⟩ => ⟨_, hs, y, rfl, hr⟩
  have h2 : (S0 P).call g [.sl k sz zo zn none] l (fun x l' => (x = mkP pre vs (.re (.slice none 0 0)) ∧ F = [] ∧ l' = l) ∨
      ∃ n lit st F', x = mkP pre vs (.sl l.length sz (.l 0) n none) ∧ l' = l ++ [.r false lit st sz F'] ∧ FSub F' F ∧ n.v * sz = F.length) := by
    have hF0p : plains F0 = true := by rw [hF0]; exact plains_take (plains_drop hp1 _) _
    have hF0l : F0.length = m * sz := by
      rw [hF0, List.length_take, List.length_drop]
      rw [Nat.add_mul] at hlen
      omega
    refine call_frame2 h1 (fun j B h => ?_) (fun N W0 W ρ vals hR hd => ?_) ?_
    · cases j with
      | zero => simp only [List.getElem?_cons_zero, Option.some.injEq] at h; subst h; exact ⟨_, _, _, _, rfl, hF0p, hsz⟩
      | succ j => simp at h
    · match vals, hd with
      | [v], hd =>
        simp only [denL, den, hzo, hzn] at hd
        obtain ⟨⟨ho, hm, vw, hvw, hle, hsl⟩, _⟩ := hd
        obtain ⟨_, hv, _, _⟩ := hR.blk _ _ (lget_some hrow (by simp))
        have hV := hfs.view (hv vw hvw)
        simp only [Int.toNat_natCast] at hle hsl
        have hids := hR.ids k vw
        have fin : ∀ vw0 : View, (∀ a, vw0.base = some a → a.block < W.heap.size) → ViewOk W (upd (fun _ => []) 0 [vw0]) F0 vw0 → m * sz ≤ vw0.n → SlVal vw0 sz 0 m none v →
            ∃ ρ0 : Nms, (∀ j, 1 ≤ j → ρ0 j = []) ∧ (∀ j vw a, vw ∈ ρ0 j → vw.base = some a → a.block < W.heap.size) ∧
            (∀ j lit st sz' F vw, [Blk.r true true (.l 0) sz F0][j]? = some (.r true lit st sz' F) → vw ∈ ρ0 j → ViewOk W ρ0 F vw) ∧ denL ρ0 [.sl 0 sz (.l 0) (.y (m : Int)) none] [v] := by
          intro vw0 h1 h2 h3 h4
          refine ⟨upd (fun _ => []) 0 [vw0], fun j hj => upd_other (by omega), fun j vw a hv ha => ?_, fun j lit st sz' F vw hj hv => ?_, ?_⟩
          · by_cases hj : j = 0
            · subst hj; rw [upd_same, List.mem_singleton] at hv; subst hv; exact h1 a ha
            · rw [upd_other hj] at hv; cases hv
          · cases j with
            | zero =>
              simp only [List.getElem?_cons_zero, Option.some.injEq, Blk.r.injEq] at hj
              obtain ⟨_, _, _, _, rfl⟩ := hj
              rw [upd_same, List.mem_singleton] at hv; subst hv; exact h2
            | succ j => simp at hj
          · simp only [denL, den]
            exact ⟨⟨by simp [Z.v], by simp [Z.v], vw0, by rw [upd_same]; exact List.mem_singleton.2 rfl, by simpa [Z.v] using h3, by simpa [Z.v] using h4⟩, trivial⟩
        cases hb : vw.base with
        | none =>
          simp only [SlVal, hb] at hsl
          obtain ⟨ho0, hm0, a', rfl⟩ := hsl
          subst hm0
          have : F0 = [] := List.length_eq_zero_iff.1 (by omega)
          subst this
          exact fin ⟨none, 0, 0⟩ (fun a h => by cases h) ⟨Nat.zero_le _, fun _ => ⟨rfl, rfl⟩, fun q x hq _ => by simp at hq⟩ (by simp) (by simp [SlVal])
        | some a =>
          simp only [SlVal, hb] at hsl
          refine fin ⟨some ⟨a.block, a.off + o * sz, none⟩, m * sz, vw.cap - o⟩ (fun a2 h => ?_) ⟨by rw [hF0l]; exact Nat.le_refl _, fun h => by simp at h, fun q x hq hx => ?_⟩ (Nat.le_refl _) ?_
          · simp only [Option.some.injEq] at h; subst h
            exact hids a hvw hb
          · simp only at hq
            rw [hF0, List.getElem?_take_of_lt hq, List.getElem?_drop] at hx
            have hx2 := hV.2.2 (o * sz + q) x (by rw [Nat.add_mul] at hle; omega) hx
            obtain ⟨a2, v2, e1, e2, e3⟩ := hx2
            rw [hb] at e1
            simp only [Option.some.injEq] at e1; subst e1
            refine ⟨_, v2, rfl, ?_, den_plain2 _ (plains_mem' hp1 x (List.mem_of_getElem? hx)) e3⟩
            simp only
            rw [Nat.add_assoc]; exact e2
          · simp only [SlVal]
            rcases hsl with ⟨c, rfl, h1, h2, h3⟩ | ⟨h1, h2, h3⟩
            · have h2' : o + c ≤ vw.cap := h2
              have h3' : o + c = vw.cap := h3
              refine .inl ⟨c, by simp, h1, ?_, ?_⟩
              · show 0 + c ≤ vw.cap - o; omega
              · show 0 + c = vw.cap - o; omega
            · exact .inr ⟨h1, h2, h3⟩
    rintro x l' ⟨y, rfl, ⟨rfl, hF0⟩ | ⟨k, n, lit, st, F', hk, rfl, hB, hs, hp', hn⟩⟩
    · refine ⟨[], id, List.nodup_nil, by simp, ?_, .inl ⟨?_, hF0, by simp⟩⟩
      · simp only [mkP, refsB, catS_eq]; exact refsBL_mid (refsBL_mono (fun _ h => by cases h) _ hvs) rfl (refsBL_mono (fun _ h => by cases h) _ hpre)
      · simp only [mkP, ren, catS_eq]; rw [renL_mid _ hvs hpre]; rfl
    · refine ⟨[k], fun _ => 0, by simp, ?_, ?_, .inr ⟨n, lit, st, F', ?_, ?_, hs, hn⟩⟩
      · intro j hj
        rw [List.mem_singleton] at hj; subst hj
        exact ⟨hk, _, hB, rfl, hp'⟩
      · simp only [mkP, refsB, catS_eq]; exact refsBL_mid (refsBL_mono (fun _ h => by cases h) _ hvs) (by simp [refsB]) (refsBL_mono (fun _ h => by cases h) _ hpre)
      · simp only [mkP, ren, catS_eq]; rw [renL_mid _ hvs hpre]; simp [ren]
      · simp only [List.map_cons, List.map_nil]
        rw [lget_eq, List.getD_eq_getElem?_getD, hB]; rfl
  intro N W0 ρ W vals hR hd
  refine NextR.mono ?_ (h2 N W0 ρ W vals hR hd)
  rintro v W' ⟨ρ', sv, l', hk, hle, hll, hR2, hdv⟩
  rcases hk with ⟨rfl, hF0, hl'⟩ | ⟨n', lit, st, F', rfl, rfl, hs, hn'⟩
  · rw [hl'] at hR2 hll
    clear hl'
    subst hF0
    have hn0 : n = 0 := by
      have : n * sz = 0 := by simpa using hn
      rcases Int.mul_eq_zero.1 this with h | h
      · exact h
      · omega
    subst hn0
    have hR3 := hR2.ghost false hsz
    have hR4 : Rel P N W0 (upd ρ' l.length [⟨none, 0, 0⟩]) (snoc l (.r false false (.y 0) sz [])) W' := by
      rw [snoc_eq]
      refine hR3.sub (by simp) fun k B' hB => ?_
      rcases Nat.lt_or_ge k l.length with hlt | hge
      · rw [List.getElem?_append_left hlt] at hB
        exact ⟨B', by rw [List.getElem?_append_left hlt]; exact hB, .rfl⟩
      · rw [List.getElem?_append_right hge] at hB
        have e : k = l.length := by
          have := (List.getElem?_eq_some_iff.1 hB).1; simp at this; omega
        subst e
        simp only [Nat.sub_self, List.getElem?_cons_zero, Option.some.injEq] at hB
        subst hB
        exact ⟨.r false true (.l 0) sz [], by rw [List.getElem?_append_right (Nat.le_refl _), Nat.sub_self]; rfl, .r .rfl rfl rfl⟩
    refine ⟨_, _, _, hK 0, hle.trans (le_ghost hll), by rw [snoc_eq]; simp, hR4, den_mkP (fun u hu => ?_) (denL_noref hpre) (denL_noref hvs) hdv⟩
    simp only [den] at hu
    rw [hu.1]
    have := den_nilRow (l := l) (sz := sz) (ρ := upd ρ' l.length [⟨none, 0, 0⟩]) (by rw [upd_same]; simp)
    simpa [nilRow, den, Z.v] using this
  · have hn2 : n'.v = n := by
      have : n'.v * sz = n * sz := by rw [hn', hn]
      exact Int.eq_of_mul_eq_mul_right (by omega) this
    refine ⟨ρ', _, _, hK st.v, hle, by rw [snoc_eq]; simp, ?_, ?_⟩
    · rw [snoc_eq]
      refine hR2.sub (by simp) fun k B' hB => ?_
      rcases Nat.lt_or_ge k l.length with hlt | hge
      · rw [List.getElem?_append_left hlt] at hB
        exact ⟨B', by rw [List.getElem?_append_left hlt]; exact hB, .rfl⟩
      · rw [List.getElem?_append_right hge] at hB
        have e : k = l.length := by
          have := (List.getElem?_eq_some_iff.1 hB).1; simp at this; omega
        subst e
        simp only [Nat.sub_self, List.getElem?_cons_zero, Option.some.injEq] at hB
        subst hB
        exact ⟨.r false lit st sz F', by rw [List.getElem?_append_right (Nat.le_refl _), Nat.sub_self]; rfl, .r hs rfl hp⟩
    · rw [len_eq]
      exact den_mkP (fun u hu => (sub_sl rfl (by simpa [Z.v] using hn2)).of _ _ hu) (denL_noref hpre) (denL_noref hvs) hdv
end
end Cz
/- The frame: from a law's walk to its row. No condition. -/
namespace Cz
open Go Go.RowKit Go.ChangeShapes Go.WideShapes
set_option linter.unusedSimpArgs false
set_option linter.unusedVariables false

/-! ### Plain values, opened -/
inductive Pk where
  | b
  | i (k : IntKind)
  | s
def pkV : Pk → SV → Prop
  | .b, x => ∃ v, x = .b v
  | .i k, x => ∃ n, x = .i k (.y n) ∧ lo k ≤ n ∧ n ≤ hi k
  | .s, x => ∃ v, x = .s v
def pkVs : List Pk → List SV → Prop
  | [], [] => True
  | k :: ks, x :: xs => pkV k x ∧ pkVs ks xs
  | _, _ => False
def pkFs (P : Program) (f : TypeId → Option (List Pk)) : List Field → Nat → Option (List Pk)
  | [], _ => some []
  | g :: gs, off => match f g.type with
    | none => none
    | some s => if g.offset = off ∧ P.cellsOf g.type = s.length then (match pkFs P f gs (off + s.length) with | some r => some (s ++ r) | none => none) else none
/-- The cells of a type of plain values. -/
def pks (P : Program) : Nat → TypeId → Option (List Pk)
  | 0, _ => none
  | d + 1, t => match P.underlying t with
    | some .bool => some [.b]
    | some (.int k) => some [.i k]
    | some .string => some [.s]
    | some (.struct fs) => match pkFs P (pks P d) fs.toList 0 with
      | some r => if P.cellsOf t = r.length then some r else none
      | none => none
    | _ => none

theorem pkVs_app : ∀ {ks js : List Pk} {xs ys : List SV}, pkVs ks xs → pkVs js ys → pkVs (ks ++ js) (xs ++ ys)
  | [], _, [], _, _, h => h
  | [], _, _ :: _, _, h, _ => h.elim
  | _ :: _, _, [], _, h, _ => h.elim
  | _ :: _, _, _ :: _, _, h, h' => ⟨h.1, pkVs_app h.2 h'⟩
theorem pkVs_one {k : Pk} {xs : List SV} (h : pkVs [k] xs) : ∃ x, xs = [x] ∧ pkV k x := by
  match xs, h with
  | [], h => exact h.elim
  | [x], h => exact ⟨x, rfl, h.1⟩
  | _ :: _ :: _, h => exact h.2.elim
theorem denL_one {ρ : Nms} {x : SV} {v : Value} (h : denL ρ [x] [v]) : den ρ x v := by simp only [denL] at h; exact h.1
theorem pkVs_len : ∀ {ks : List Pk} {xs : List SV}, pkVs ks xs → xs.length = ks.length
  | [], [], _ => rfl
  | [], _ :: _, h => h.elim
  | _ :: _, [], h => h.elim
  | _ :: _, _ :: _, h => by simp [pkVs_len h.2]
theorem pkVs_plain : ∀ {ks : List Pk} {xs : List SV}, pkVs ks xs → plains xs = true
  | [], [], _ => rfl
  | [], _ :: _, h => h.elim
  | _ :: _, [], h => h.elim
  | k :: _, x :: _, h => by
    simp only [plains, Bool.and_eq_true]
    refine ⟨?_, pkVs_plain h.2⟩
    cases k with
    | b => obtain ⟨v, rfl⟩ := h.1; rfl
    | i k => obtain ⟨n, rfl, _⟩ := h.1; rfl
    | s => obtain ⟨v, rfl⟩ := h.1; rfl

section
variable {H : Type} {enc : TypeId × Value → H} {P : Program} {w : World} {base : Nat} {spare : Nat → Bool} {held : Bool}

theorem wf_bounds {k : IntKind} {n : Int} (h : (Lit.int k n).wf = true) : lo k ≤ n ∧ n ≤ hi k := by
  cases k <;> simp [Lit.wf, IntKind.min, IntKind.max, IntKind.signed, IntKind.bits] at h <;> simp only [lo, hi] <;> omega

theorem open_fs {f : TypeId → Option (List Pk)} {n : Nat}
    (hf : ∀ t ks cs x, f t = some ks → DataW.trod enc P w base spare held n t cs = some x → ∃ svs, pkVs ks svs ∧ ∀ ρ, denL ρ svs cs) : ∀ (fs : List Field) (off : Nat) (ks : List Pk) (cs : List Value), pkFs P f fs off = some ks →
      cs.length = off + ks.length → (∀ (i : Nat) (g : Field), fs[i]? = some g → ∃ x, DataW.trod enc P w base spare held n g.type ((cs.drop g.offset).take (P.cellsOf g.type)) = some x) →
      ∃ svs, pkVs ks svs ∧ ∀ ρ, denL ρ svs (cs.drop off)
  | [], off, ks, cs, hk, hl, _ => by
    simp only [pkFs, Option.some.injEq] at hk; subst hk
    refine ⟨[], trivial, fun ρ => ?_⟩
    rw [List.drop_eq_nil_of_le (by simp at hl; omega)]; simp [denL]
  | g :: gs, off, ks, cs, hk, hl, ht => by
    simp only [pkFs] at hk
    split at hk
    · cases hk
    · rename_i s hs
      split at hk
      · rename_i hc
        split at hk
        · rename_i r hr
          simp only [Option.some.injEq] at hk; subst hk
          obtain ⟨x, hx⟩ := ht 0 g rfl
          rw [hc.1, hc.2] at hx
          obtain ⟨svs, h1, h2⟩ := hf _ _ _ _ hs hx
          obtain ⟨svs', h3, h4⟩ := open_fs hf gs (off + s.length) r cs hr (by simp at hl; omega) fun i g' hi => ht (i + 1) g' (by simpa using hi)
          refine ⟨svs ++ svs', pkVs_app h1 h3, fun ρ => ?_⟩
          have e : cs.drop off = (cs.drop off).take s.length ++ cs.drop (off + s.length) := by
            rw [← List.drop_drop, List.take_append_drop]
          rw [e]
          exact denL_append (h2 ρ) (h4 ρ)
        · cases hk
      · cases hk

theorem open_plain : ∀ (d : Nat) (t : TypeId) (ks : List Pk) (n : Nat) (cs : List Value) (x : DataW H × List MemPlace), pks P d t = some ks → DataW.trod enc P w base spare held n t cs = some x →
    ∃ svs, pkVs ks svs ∧ ∀ ρ, denL ρ svs cs
  | 0, _, _, _, _, _, h, _ => by simp [pks] at h
  | d + 1, t, ks, n, cs, x, h, ht => by
    simp only [pks] at h
    split at h
    · rename_i hu
      obtain ⟨b, rfl, _⟩ := DataW.trod_bool hu ht
      simp only [Option.some.injEq] at h; subst h
      exact ⟨[.b b], ⟨⟨b, rfl⟩, trivial⟩, fun ρ => by simp [denL, den]⟩
    · rename_i k hu
      obtain ⟨m, rfl, _, hw⟩ := DataW.trod_int hu ht
      simp only [Option.some.injEq] at h; subst h
      exact ⟨[.i k (.y m)], ⟨⟨m, rfl, wf_bounds hw⟩, trivial⟩, fun ρ => by simp [denL, den, Z.v]⟩
    · rename_i hu
      obtain ⟨s, rfl, _, hw⟩ := DataW.trod_string hu ht
      simp only [Option.some.injEq] at h; subst h
      exact ⟨[.s s.data.toList], ⟨⟨_, rfl⟩, trivial⟩, fun ρ => by simp [denL, den]⟩
    · rename_i fs hu
      split at h
      · rename_i r hr
        split at h
        · rename_i hc
          simp only [Option.some.injEq] at h; subst h
          obtain ⟨xs, n', _, _, hlen, hxl, hf⟩ := DataW.trod_struct hu ht
          obtain ⟨svs, h1, h2⟩ := open_fs (n := n') (fun t ks cs x hk hx => open_plain d t ks n' cs x hk hx) fs.toList 0 r cs hr (by omega) fun i g hg => by
            have hg' : fs[i]? = some g := by simpa using hg
            have := hf i g hg'
            have hi : i < fs.size := (Array.getElem?_eq_some_iff.1 hg').1
            rw [List.getElem?_eq_getElem (by omega)] at this
            exact ⟨_, this⟩
          exact ⟨svs, h1, fun ρ => by simpa using h2 ρ⟩
        · cases h
      · cases h
    · cases h

theorem cell_spot {a : Addr} {v : Value} (h : w.cell? a = some v) : a.spot = none := by
  unfold World.cell? at h
  split at h
  · split at h
    · cases h
    · rename_i hs; simpa using hs
  · cases h
theorem add2 (b o i q : Nat) : ((⟨b, o, none⟩ : Addr).add i).add q = ⟨b, o + (i + q), none⟩ := by
  unfold Addr.add
  by_cases hi : i = 0 <;> by_cases hq : q = 0 <;> simp [hi, hq, Nat.add_assoc]
theorem denL_cells {ρ : Nms} {svs : List SV} {cs : List Value} (h : denL ρ svs cs) (q : Nat) (x : SV) (hx : svs[q]? = some x) : ∃ v, cs[q]? = some v ∧ den ρ x v := denL_get q x h hx

/-- A slice of plain elements is a row. -/
theorem open_rows {α : Type} {ec : α → List SV} {good : α → Prop} {t e : TypeId} {d : Nat} {ks : List Pk} {n : Nat} {v : Value} {x : DataW H × List MemPlace} (ht : P.underlying t = some (.slice e)) (hk : pks P d e = some ks)
    (hc : P.cellsOf e = ks.length) (h0 : 0 < ks.length) (hel : ∀ svs, pkVs ks svs → ∃ a, svs = ec a ∧ good a) (hec : ∀ a, (ec a).length = ks.length)
    (h : DataW.trod enc P w 0 (fun _ => true) held n t [v] = some x) :
    ∃ (l : List α) (vw : View), (∀ a ∈ l, good a) ∧ (∀ a, vw.base = some a → a.block < w.heap.size) ∧ (∀ ρ, ViewOk w ρ (l.flatMap ec) vw) ∧
      ∀ (ρ : Nms) (k : Nat), vw ∈ ρ k → den ρ (.sl k ks.length (.l 0) (.y (ilen l)) none) v := by
  rcases Deep.open_slice ht h with ⟨hcs, _⟩ | ⟨a, len, cap, m, n', D, Pl, hcs, _, hl, _, hm, _, hi⟩
  · simp only [List.cons.injEq, and_true] at hcs
    subst hcs
    exact ⟨[], ⟨none, 0, 0⟩, by simp, by simp, fun ρ => ⟨Nat.zero_le _, fun _ => ⟨rfl, rfl⟩, fun q y hq _ => by simp at hq⟩, fun ρ k hv => by
      simp only [den]; exact ⟨by simp [Z.v], by simp [Z.v, ilen], _, hv, by simp [Z.v, ilen], by simp [SlVal, Z.v, ilen]⟩⟩
  · simp only [List.cons.injEq, and_true] at hcs
    subst hcs
    simp only [if_true] at hm
    subst hm
    by_cases hm0 : m = 0
    · subst hm0
      have hl0 : len = 0 := by omega
      subst hl0
      exact ⟨[], ⟨none, 0, 0⟩, by simp, by simp, fun ρ => ⟨Nat.zero_le _, fun _ => ⟨rfl, rfl⟩, fun q y hq _ => by simp at hq⟩, fun ρ k hv => by
        simp only [den]; exact ⟨by simp [Z.v], by simp [Z.v, ilen], _, hv, by simp [Z.v, ilen], by simp [SlVal, Z.v, ilen]⟩⟩
    · have hsp : a.spot = none := by
        obtain ⟨cs', hcells, htr⟩ := hi 0 (by omega)
        obtain ⟨_, hlen, hat⟩ := World.cells?_some hcells
        have := hat 0 (by omega)
        rw [List.getElem?_eq_getElem (by omega)] at this
        have := cell_spot this
        simpa [Addr.add] using this
      obtain ⟨ab, ao, asp⟩ := a
      simp only at hsp
      subst hsp
      have hel2 : ∀ i, i < m → ∃ b : α, good b ∧ ∀ q, q < ks.length → ∀ y, (ec b)[q]? = some y → ∃ u, w.cell? ⟨ab, ao + (i * ks.length + q), none⟩ = some u ∧ ∀ ρ, den ρ y u := by
        intro i hik
        obtain ⟨cs', hcells, htr⟩ := hi i hik
        obtain ⟨svs, h1, h2⟩ := open_plain d e ks n' cs' _ hk htr
        obtain ⟨b, rfl, hg⟩ := hel svs h1
        obtain ⟨_, hlen, hat⟩ := World.cells?_some hcells
        refine ⟨b, hg, fun q hq y hy => ?_⟩
        have hcell := hat q (by omega)
        obtain ⟨u, hu, _⟩ := denL_get q y (h2 (fun _ => [])) hy
        rw [hu] at hcell
        refine ⟨u, ?_, fun ρ => ?_⟩
        · rw [hc, add2] at hcell
          exact hcell
        · obtain ⟨u', hu', hd⟩ := denL_get q y (h2 ρ) hy
          rw [hu] at hu'; cases hu'; exact hd
      have build : ∀ k, k ≤ m → ∃ l : List α, l.length = k ∧ (∀ b ∈ l, good b) ∧ ∀ i b, l[i]? = some b → ∀ q, q < ks.length → ∀ y, (ec b)[q]? = some y → ∃ u, w.cell? ⟨ab, ao + (i * ks.length + q), none⟩ = some u ∧ ∀ ρ, den ρ y u := by
        intro k
        induction k with
        | zero => exact fun _ => ⟨[], rfl, by simp, fun i b hb => by simp at hb⟩
        | succ k ih =>
          intro hk
          obtain ⟨l, hl1, hl2, hl3⟩ := ih (by omega)
          obtain ⟨b, hb1, hb2⟩ := hel2 k (by omega)
          refine ⟨l ++ [b], by simp [hl1], ?_, fun i b' hb' => ?_⟩
          · intro c hc
            rcases List.mem_append.1 hc with hc | hc
            · exact hl2 c hc
            · rw [List.mem_singleton] at hc; subst hc; exact hb1
          · rcases Nat.lt_or_ge i l.length with h1 | h1
            · rw [List.getElem?_append_left h1] at hb'; exact hl3 i b' hb'
            · rw [List.getElem?_append_right h1] at hb'
              have : i = l.length := by
                rcases Nat.eq_or_lt_of_le h1 with h2 | h2
                · exact h2.symm
                · rw [List.getElem?_eq_none (by simp; omega)] at hb'; cases hb'
              subst this
              simp only [Nat.sub_self, List.getElem?_cons_zero, Option.some.injEq] at hb'
              subst hb'
              rw [hl1]; exact hb2
      obtain ⟨l, hl1, hl2, hl3⟩ := build len hl
      have hblk : ab < w.heap.size := by
        obtain ⟨b, _, hb2⟩ := hel2 0 (by omega)
        have hlen := hec b
        obtain ⟨u, hu, _⟩ := hb2 0 h0 _ (List.getElem?_eq_getElem (by omega))
        rcases Nat.lt_or_ge ab w.heap.size with h1 | h1
        · exact h1
        · simp [World.cell?, Array.getElem?_eq_none h1] at hu
      have hfl : (l.flatMap ec).length = len * ks.length := by rw [flat_len hec, hl1]
      refine ⟨l, ⟨some ⟨ab, ao, none⟩, len * ks.length, m⟩, hl2, fun a' ha => by simp at ha; subst ha; exact hblk, fun ρ => ⟨by rw [hfl]; exact Nat.le_refl _, fun h => by simp at h, fun q y hq hy => ?_⟩, fun ρ k hv => ?_⟩
      · -- which element
        have hq' : q < len * ks.length := hq
        have hdm := Nat.div_add_mod q ks.length
        have hmod := Nat.mod_lt q h0
        have hdiv : q / ks.length < len := (Nat.div_lt_iff_lt_mul h0).2 hq'
        obtain ⟨b, hb⟩ : ∃ b, l[q / ks.length]? = some b := ⟨_, List.getElem?_eq_getElem (by omega)⟩
        have hfa := flat_at (enc := ec) (sz := ks.length) hec hb (q % ks.length) 1 (by omega)
        have e1 : q / ks.length * ks.length + q % ks.length = q := by rw [Nat.mul_comm]; exact hdm
        rw [e1] at hfa
        have e2 : (ec b)[q % ks.length]? = some y := by
          have := congrArg (fun z => z[0]?) hfa
          simp only [List.getElem?_take, List.getElem?_drop] at this
          simpa [hy] using this.symm
        obtain ⟨u, hu, hd⟩ := hl3 _ b hb (q % ks.length) hmod y e2
        rw [e1] at hu
        exact ⟨_, u, rfl, hu, hd ρ⟩
      · simp only [den]
        refine ⟨by simp [Z.v], by simp [Z.v, ilen], _, hv, by simp [Z.v, ilen, hl1], ?_⟩
        simp only [SlVal]
        exact .inl ⟨m, by simp [Z.v, ilen, hl1], by simp [Z.v, ilen, hl1]; exact hl, by simp [Z.v], by simp [Z.v]⟩
end

/-! ### The heap of what came -/
section
variable {P : Program} {N : Nat} {W0 W : World} {ρ : Nms} {l : List Blk}
theorem Rel.start (W : World) : Rel P W.heap.size W (fun _ => []) [] W :=
  ⟨⟨rfl, rfl, rfl, Nat.le_refl _, fun _ _ => rfl⟩, Nat.le_refl _, fun _ _ => rfl, (fun _ _ _ h => by cases h), (fun k B h => by simp at h), (fun k k' B vw vw' a a' h => by simp at h), (fun k B vw a h => by simp at h)⟩
theorem Rel.addRo (hR : Rel P N W0 ρ l W) {vw : View} {F : List SV} {sz : Nat} (hsz : 0 < sz) (hp : plains F = true) (hb : ∀ a, vw.base = some a → a.block < W.heap.size) (hv : ∀ ρ, ViewOk W ρ F vw)
    (hro : ∀ B ∈ l, B.wr = false) : Rel P N W0 (upd ρ l.length [vw]) (l ++ [.r true false (.l 0) sz F]) W := by
  have hle : Le l.length ρ (upd ρ l.length [vw]) := fun k hk vw hv => by rw [upd_other (by omega)]; exact hv
  have hwr : ∀ (k : Nat) (B : Blk), (l ++ [Blk.r true false (.l 0) sz F])[k]? = some B → B.wr = true → False := by
    intro k B hB hw
    rcases List.mem_append.1 (List.mem_of_getElem? hB) with h | h
    · rw [hro B h] at hw; cases hw
    · rw [List.mem_singleton] at h; subst h; cases hw
  refine ⟨hR.below, hR.le, fun k hk => ?_, fun k vw' a hv' ha => ?_, fun k B hB => ?_, fun k k' B vw vw' a a' hB hw => (hwr k B hB hw).elim, fun k B vw a hB hw => (hwr k B hB hw).elim⟩
  · simp only [List.length_append, List.length_singleton] at hk
    rw [upd_other (by omega)]; exact hR.out k (by omega)
  · by_cases hk : k = l.length
    · subst hk; rw [upd_same, List.mem_singleton] at hv'; subst hv'; exact hb a ha
    · rw [upd_other hk] at hv'; exact hR.ids k vw' a hv' ha
  · by_cases hk : k = l.length
    · subst hk
      rw [List.getElem?_append_right (Nat.le_refl _), Nat.sub_self] at hB
      simp only [List.getElem?_cons_zero, Option.some.injEq] at hB
      subst hB
      refine ⟨hsz, fun vw' hv' => ?_, fun _ x hx => plains_mem' hp x hx, (fun h => by cases h)⟩
      rw [upd_same, List.mem_singleton] at hv'; subst hv'; exact hv _
    · have hlt : k < l.length := by
        have := (List.getElem?_eq_some_iff.1 hB).1
        simp only [List.length_append, List.length_singleton] at this; omega
      rw [List.getElem?_append_left hlt] at hB
      exact (hR.blk k B hB).keep hle hR.out (upd_other hk) fun _ _ _ _ => rfl

/-- What a law's walk says of its call. -/
theorem law_calls {g n : Nat} {rs : List RV} {ir : IR} {args : List SV} {vals : Array Value} (hF : FnIs P g n rs ir) (hc : (S0 P).call g args l (fun x _ => Sub x .tt)) (hR : Rel P N W0 ρ l W) (hd : denL ρ args vals.toList) :
    Calls P g vals W fun e W' => e = .returned (.bool true) ∧ Below N W0 W' := by
  have h := hc N W0 ρ W vals hR hd
  obtain ⟨_, _, _, _, _, _, _, _, hg⟩ := hF
  rw [hg] at h
  refine Calls.mono h ?_
  rintro e W' ⟨v, rfl, ρ', sv, l', hs, _, _, hR', hdv⟩
  have := hs.of _ _ hdv
  simp only [den] at this
  exact ⟨by rw [this], hR'.below⟩
end

/-! ### The row -/
theorem trod_all_stays {H : Type} {enc : TypeId × Value → H} {P : Program} (hl : laidOutB P = true) {W W' : World} (hb : Below W.heap.size W W') : ∀ {ts : List TypeId} {vs : List Value} {ds : List (DataW H)} {ps : List MemPlace},
    (ts.all fun t => P.readableRec t && decide (t < P.types.size)) = true → (∀ x ∈ ps, x.block < W.heap.size) → DataW.TrodAll enc P W 0 (fun _ => true) true ts vs ds ps →
      DataW.TrodAll enc P W' 0 (fun b => decide (b < W.heap.size)) true ts vs ds ps
  | [], [], [], _, _, _, h => h
  | [], [], _ :: _, _, _, _, h => h.elim
  | [], _ :: _, _, _, _, _, h => h.elim
  | _ :: _, [], _, _, _, _, h => h.elim
  | _ :: _, _ :: _, [], _, _, _, h => h.elim
  | t :: ts, v :: vs, d :: ds, ps, hr, hlt, ⟨p, q, h1, h2, e⟩ => by
    subst e
    simp only [List.all_cons, Bool.and_eq_true, decide_eq_true_eq] at hr
    exact ⟨p, q, Below.trod hl hr.1.1 hr.1.2 h1 hb fun x hx => hlt x (List.mem_append.2 (.inl hx)), trod_all_stays hl hb hr.2 (fun x hx => hlt x (List.mem_append.2 (.inr hx))) h2, rfl⟩

theorem post_law {H : Type} {enc : TypeId × Value → H} {P : Program} {f : Func} {s : ChangeSpec} {W W' : World} {args : Array Value} {ds gs : List (DataW H)} {before : List MemPlace} {tb : TypeId} (hl : laidOutB P = true) (hW : DataW.Whole enc P f.params.toList s.vars false W args.toList ds gs before)
    (hvars : s.vars = []) (hr : (f.params.toList.all fun t => P.readableRec t && decide (t < P.types.size)) = true) (hrt : f.resultTypes = #[tb]) (htb : P.underlying tb = some .bool)
    (hfn : s.fn H (ds ++ gs) = { results := [.lit (.bool true)], args := ds }) (hb : Below W.heap.size W W') : s.post enc P f false true false false W args (.bool true) W' := by
  have hlt := hW.lt
  have hW0 := hW
  obtain ⟨p, q, hA, hV, e, _, _⟩ := hW
  rw [hvars] at hV
  have hq : q = [] ∧ gs = [] := by
    cases gs with
    | nil => exact ⟨hV, rfl⟩
    | cons _ _ => exact hV.elim
  obtain ⟨rfl, rfl⟩ := hq
  refine ⟨ds, [], before, [], p, [], hW0, ?_, ?_, ?_, hb.frame _, (fun h => by cases h)⟩
  · rw [hfn, hrt]
    exact ⟨[], [], ⟨1, by simp [DataW.trod, htb, Value.cells]⟩, rfl, rfl⟩
  · rw [hfn]
    exact trod_all_stays hl hb hr (fun x hx => hlt x (by rw [e]; exact List.mem_append.2 (.inl hx))) hA
  · rw [hfn, hvars]
    rfl
end Cz
