/- The engine, part Z: loops whose rounds leave memory behind that nobody names any more. No condition. -/
import Derived.Test.YtjnpmipoenijdaaCzY2
namespace Cz
open Go Go.RowKit
set_option linter.unusedSimpArgs false
set_option linter.unusedVariables false

mutual
theorem ren_id : ∀ (x : SV), ren id x = x
  | .tt => rfl
  | .ff => rfl
  | .b _ => rfl
  | .i _ _ => rfl
  | .s _ => rfl
  | .p _ _ => rfl
  | .pe _ _ _ _ => rfl
  | .sl _ _ _ _ _ => rfl
  | .ag cs => by simp only [ren, renL_id cs]
  | .tp cs => by simp only [ren, renL_id cs]
  | .fn _ a c => by simp only [ren, renL_id a, renL_id c]
  | .yl _ => rfl
  | .m _ => rfl
  | .re _ => rfl
  | .un => rfl
  | .any => rfl
theorem renL_id : ∀ (xs : List SV), renL id xs = xs
  | [] => rfl
  | x :: xs => by simp only [renL, ren_id x, renL_id xs]
end

def takeB : Nat → List Blk → List Blk
  | 0, _ => []
  | _ + 1, [] => []
  | n + 1, b :: l => b :: takeB n l
theorem takeB_eq : ∀ (n : Nat) (l : List Blk), takeB n l = l.take n
  | 0, _ => by simp [takeB]
  | _ + 1, [] => by simp [takeB]
  | n + 1, b :: l => by simp [takeB, takeB_eq n l]

def low (m : Nat) : Nat → Bool := fun k => Nat.blt k m
def gcM (m : Nat) : List (SV × SV) → Bool
  | [] => true
  | (k, v) :: r => refsB (low m) k && refsB (low m) v && gcM m r
def gcB (m : Nat) : Blk → Bool
  | .c cs => refsBL (low m) cs
  | .r _ lit _ _ F => match lit with | true => refsBL (low m) F | false => true
  | .m es => gcM m es
  | .lp vs _ _ _ _ => refsBL (low m) vs
  | _ => true
def gcBs (m : Nat) : List Blk → Bool
  | [] => true
  | b :: l => gcB m b && gcBs m l
def gcN (m : Nat) : List Nat → Bool
  | [] => true
  | k :: l => Nat.blt k m && gcN m l
/-- Does nothing that is kept name what is not? -/
def gcOk (m : Nat) (e : Env) (l : List Blk) : Bool := Nat.ble m (len l) && refsBL (low m) e.vs && gcN m e.mks && gcBs m (takeB m l)

def res (m : Nat) (ρ : Nms) : Nms := fun k => if k < m then ρ k else []
section
variable {P : Program} {N : Nat} {W0 W : World} {ρ : Nms} {l : List Blk}

theorem den_res {m : Nat} {x : SV} {v : Value} (hr : refsB (low m) x = true) (hd : den ρ x v) : den (res m ρ) x v := by
  have := den_ren (ok := low m) (f := id) (ρ := ρ) (ρ' := res m ρ) (fun k hk vw hv => by
    simp only [low, Nat.blt_eq] at hk
    simpa [res, hk] using hv) x v hr hd
  rwa [ren_id] at this
theorem denL_res {m : Nat} {xs : List SV} {vs : List Value} (hr : refsBL (low m) xs = true) (hd : denL ρ xs vs) : denL (res m ρ) xs vs := by
  have := denL_ren (ok := low m) (f := id) (ρ := ρ) (ρ' := res m ρ) (fun k hk vw hv => by
    simp only [low, Nat.blt_eq] at hk
    simpa [res, hk] using hv) xs vs hr hd
  rwa [renL_id] at this
theorem refsBL_at {ok : Nat → Bool} : ∀ {xs : List SV}, refsBL ok xs = true → ∀ (q : Nat) (x : SV), xs[q]? = some x → refsB ok x = true
  | [], _, q, x, h => by simp at h
  | y :: ys, h, 0, x, hx => by
    simp only [refsBL, Bool.and_eq_true] at h
    simp only [List.getElem?_cons_zero, Option.some.injEq] at hx; subst hx; exact h.1
  | y :: ys, h, q + 1, x, hx => by
    simp only [refsBL, Bool.and_eq_true] at h
    exact refsBL_at h.2 q x (by simpa using hx)

theorem env_res {m : Nat} {vs : List SV} {t : Array Value} (hr : refsBL (low m) vs = true) (h : EnvOk ρ vs t) : EnvOk (res m ρ) vs t := fun q x hx =>
  let ⟨v, e, d⟩ := h q x hx
  ⟨v, e, den_res (refsBL_at hr q x hx) d⟩
theorem view_res {m : Nat} {F : List SV} {vw : View} (hr : ∀ x ∈ F, refsB (low m) x = true) (h : ViewOk W ρ F vw) : ViewOk W (res m ρ) F vw := by
  refine ⟨h.1, h.2.1, fun q x hq hx => ?_⟩
  obtain ⟨a, v, e, c, d⟩ := h.2.2 q x hq hx
  exact ⟨a, v, e, c, den_res (hr x (List.mem_of_getElem? hx)) d⟩
theorem plain_noref {ok : Nat → Bool} {x : SV} (h : plainV x = true) : refsB ok x = true := by
  cases x <;> simp [plainV] at h <;> rfl
theorem refsBL_mem {ok : Nat → Bool} {xs : List SV} (h : refsBL ok xs = true) : ∀ x ∈ xs, refsB ok x = true := by
  intro x hx
  obtain ⟨q, hq⟩ := List.getElem?_of_mem hx
  exact refsBL_at h q x hq
theorem map_res {m : Nat} : ∀ {es : List (SV × SV)} {es' : List MapEntry}, gcM m es = true → MapRel ρ es es' → MapRel (res m ρ) es es'
  | [], [], _, h => h
  | [], _ :: _, _, h => h
  | (_, _) :: _, [], _, h => h
  | (k, v) :: r, e :: es, hg, h => by
    simp only [gcM, Bool.and_eq_true] at hg
    exact ⟨den_res hg.1.1 h.1, den_res hg.1.2 h.2.1, map_res hg.2 h.2.2⟩

theorem blk_res {m k : Nat} {B : Blk} (hk : k < m) (hg : gcB m B = true) (h : BlkOk P N W ρ k B) : BlkOk P N W (res m ρ) k B := by
  have e : res m ρ k = ρ k := by simp [res, hk]
  cases B with
  | c cs =>
    obtain ⟨b, e1, hv, ho⟩ := h
    exact ⟨b, e.trans e1, view_res (refsBL_mem hg) hv, ho⟩
  | r ro lit st sz F =>
    obtain ⟨h0, hv, hp, ho⟩ := h
    refine ⟨h0, ?_, hp, ?_⟩
    · rw [e]
      intro vw hm
      refine view_res ?_ (hv vw hm)
      cases lit with
      | true => exact refsBL_mem hg
      | false => exact fun x hx => plain_noref (hp rfl x hx)
    · rw [e]; exact ho
  | m es =>
    obtain ⟨b, es', clock, ⟨e1, hN⟩, hh, hm⟩ := h
    exact ⟨b, es', clock, ⟨e.trans e1, hN⟩, hh, map_res hg hm⟩
  | df =>
    obtain ⟨b, ⟨e1, hN⟩, hh⟩ := h
    exact ⟨b, ⟨e.trans e1, hN⟩, hh⟩
  | lp vs ps asg body ph =>
    obtain ⟨b, L, ⟨e1, hN⟩, hh, h1, h2, h3, h4, h5⟩ := h
    exact ⟨b, L, ⟨e.trans e1, hN⟩, hh, h1, h2, h3, env_res hg h4, h5⟩
  | dead => trivial

theorem gcBs_at {m : Nat} : ∀ {l : List Blk}, gcBs m l = true → ∀ (k : Nat) (B : Blk), l[k]? = some B → gcB m B = true
  | [], _, k, B, h => by simp at h
  | b :: l, h, 0, B, hB => by
    simp only [gcBs, Bool.and_eq_true] at h
    simp only [List.getElem?_cons_zero, Option.some.injEq] at hB; subst hB; exact h.1
  | b :: l, h, k + 1, B, hB => by
    simp only [gcBs, Bool.and_eq_true] at h
    exact gcBs_at h.2 k B (by simpa using hB)
theorem mks_res {m : Nat} : ∀ {ks : List Nat} {ds : List Deferred}, gcN m ks = true → MkOk ρ ks ds → MkOk (res m ρ) ks ds
  | [], [], _, h => h
  | [], _ :: _, _, h => h
  | _ :: _, [], _, h => h
  | k :: ks, d :: ds, hg, ⟨⟨vw, hv, r⟩, h⟩ => by
    simp only [gcN, Bool.and_eq_true, Nat.blt_eq] at hg
    exact ⟨⟨vw, by simpa [res, hg.1] using hv, r⟩, mks_res hg.2 h⟩

/-- What nobody names is forgotten. -/
theorem St.gc {m : Nat} {e : Env} {a : Act} (h : St P N W0 ρ e l a W) (hg : gcOk m e l = true) : St P N W0 (res m ρ) e (takeB m l) a W := by
  simp only [gcOk, Bool.and_eq_true, Nat.ble_eq, len_eq] at hg
  obtain ⟨⟨⟨hm, hv⟩, hk⟩, hb⟩ := hg
  rw [takeB_eq] at hb ⊢
  have hR := h.rel
  have hmem : ∀ {k : Nat} {vw : View}, vw ∈ res m ρ k → vw ∈ ρ k := by
    intro k vw hv
    unfold res at hv
    split at hv
    · exact hv
    · cases hv
  refine ⟨⟨hR.below, hR.le, fun k hk => ?_, fun k vw a hv ha => hR.ids k vw a (hmem hv) ha, fun k B hB => ?_, ?_, ?_⟩, env_res hv h.env, mks_res hk h.mks⟩
  · simp only [List.length_take] at hk
    simp only [res]; rw [if_neg (by omega)]
  · have hkm : k < m := by
      have := (List.getElem?_eq_some_iff.1 hB).1
      simp only [List.length_take] at this; omega
    have hB' : l[k]? = some B := by rw [List.getElem?_take] at hB; simpa [hkm] using hB
    exact blk_res hkm (gcBs_at hb k B hB) (hR.blk k B hB')
  · intro k k' B vw vw' a a' hB hw hne hv hv' ha ha'
    have hkm : k < m := by
      have := (List.getElem?_eq_some_iff.1 hB).1
      simp only [List.length_take] at this; omega
    have hB' : l[k]? = some B := by rw [List.getElem?_take] at hB; simpa [hkm] using hB
    exact hR.sep k k' B vw vw' a a' hB' hw hne (hmem hv) (hmem hv') ha ha'
  · intro k B vw a hB hw hv ha
    have hkm : k < m := by
      have := (List.getElem?_eq_some_iff.1 hB).1
      simp only [List.length_take] at this; omega
    have hB' : l[k]? = some B := by rw [List.getElem?_take] at hB; simpa [hkm] using hB
    exact hR.own k B vw a hB' hw (hmem hv) ha

theorem le_res {m n : Nat} (h : n ≤ m) : Le n ρ (res m ρ) := fun k hk vw hv => by simp only [res]; rw [if_pos (by omega)]; exact hv

/-- A loop whose rounds leave what nobody names any more. -/
theorem loop_gc (ds : List Nat) (m : Nat) (I : Nat → Env → List Blk → Prop) {cx : Cx} {b : IR} {K : VK} (hcm : cx.m ≤ m)
    (step : ∀ n e l, I n e l → vc (S0 P) cx b (fun ex e' l' => match ex with | .normal => gcOk m (e'.forget ds) l' = true ∧ ∃ n', n' < n ∧ I n' (e'.forget ds) (takeB m l') | ex => K ex e' l') e l)
    (n : Nat) {e : Env} {l : List Blk} (hg : gcOk m (e.forget ds) l = true) (h : I n (e.forget ds) (takeB m l)) : (S0 P).loop cx b e l K := by
  have lenm : ∀ {e : Env} {l : List Blk}, gcOk m e l = true → m ≤ (takeB m l).length := by
    intro e l hg
    simp only [gcOk, Bool.and_eq_true, Nat.ble_eq, len_eq] at hg
    rw [takeB_eq]; simp [hg.1.1.1]
  have main : ∀ n e l, I n e l → m ≤ l.length → ∀ c kl, conv P kl c = some b → WP P cx (.loop c) K e l := by
    intro n
    induction n using Nat.strongRecOn with
    | ind n ih =>
      intro e l h _ c kl hc N W0 ρ rr a W hs hr hm
      refine wp_loop (Wp.mono (vc_sound c hc (step n e l h) N W0 ρ rr a W hs hr hm) ?_)
      rintro ex a' w' ⟨ρ', e', l', hK, hle, hm', hs'⟩
      cases ex with
      | normal =>
        obtain ⟨hg, n', hn, hI⟩ := hK
        have hlm := lenm hg
        have hs2 : St P N W0 (res m ρ') (e'.forget ds) (takeB m l') a' w' := St.gc ⟨hs'.rel, hs'.env.kill ds, hs'.mks⟩ hg
        have hle2 : Le cx.m ρ (res m ρ') := hle.trans (le_res hcm)
        exact Wp.mono (ih n' hn _ _ hI hlm c kl hc N W0 (res m ρ') rr a' w' hs2 (hr.le hle2) (by omega)) fun _ _ _ q => q.le hle2
      | exit id => exact ⟨ρ', e', l', hK, hle, hm', hs'⟩
      | goto g => exact ⟨ρ', e', l', hK, hle, hm', hs'⟩
      | ret => exact ⟨ρ', e', l', hK, hle, hm', hs'⟩
  intro c kl hc N W0 ρ rr a W hs hr hm
  have hlm := lenm hg
  have hs2 : St P N W0 (res m ρ) (e.forget ds) (takeB m l) a W := St.gc ⟨hs.rel, hs.env.kill ds, hs.mks⟩ hg
  exact Wp.mono (main n _ _ h hlm c kl hc N W0 (res m ρ) rr a W hs2 (hr.le (le_res hcm)) (by omega)) fun _ _ _ q => q.le (le_res hcm)

theorem s_loop_gc {S : Sy} (hS : S0 P = S) (ds : List Nat) (m : Nat) (I : Nat → Env → List Blk → Prop) {cx : Cx} {b : IR} {K : VK} (n : Nat) {e : Env} {l : List Blk} (hcm : Nat.ble cx.m m = true)
    (hg : gcOk m (e.forget ds) l = true) (h : I n (e.forget ds) (takeB m l))
    (step : ∀ n e l, I n e l → vc S cx b (fun ex e' l' => match ex with | .normal => gcOk m (e'.forget ds) l' = true ∧ ∃ n', n' < n ∧ I n' (e'.forget ds) (takeB m l') | ex => K ex e' l') e l) : S.loop cx b e l K := by
  subst hS
  exact loop_gc ds m I (Nat.le_of_ble_eq_true hcm) step n hg h

/-! ### Saying less of a state -/
/-- A frame's slots: these, nothing said of all others. -/
def slots : List (Nat × SV) → List SV → List SV
  | [], vs => vs
  | (q, x) :: r, vs => slots r (put vs q x)
def At (vs : List SV) : List (Nat × SV) → Prop
  | [] => True
  | (q, x) :: r => Sub (nth vs q) x ∧ At vs r

inductive SubM : List (SV × SV) → List (SV × SV) → Prop where
  | nil : SubM [] []
  | cons {k k' v v' : SV} {r r' : List (SV × SV)} (hk : Sub k k') (hv : Sub v v') (h : SubM r r') : SubM ((k, v) :: r) ((k', v') :: r')
theorem SubM.rel {es es' : List (SV × SV)} (h : SubM es es') : ∀ {ρ : Nms} {ms : List MapEntry}, MapRel ρ es ms → MapRel ρ es' ms := by
  induction h with
  | nil => exact fun h => h
  | cons hk hv _ ih =>
    intro ρ ms hm
    match ms, hm with
    | e :: ms, hm => exact ⟨hk.of _ _ hm.1, hv.of _ _ hm.2.1, ih hm.2.2⟩
inductive SubB : Blk → Blk → Prop where
  | m {es es' : List (SV × SV)} (h : SubM es es') : SubB (.m es) (.m es')
  | rfl {b : Blk} : SubB b b
  | c {cs cs' : List SV} (h : SubL cs cs') : SubB (.c cs) (.c cs')
  | r {ro lit lit' : Bool} {st st' : Z} {sz : Nat} {F F' : List SV} (h : FSub F F') (hs : st.v = st'.v) (hp : plains F' = true) : SubB (.r ro lit st sz F) (.r ro lit' st' sz F')
  | dead {b : Blk} : SubB b .dead
def SubBs : Nat → List Blk → List Blk → Prop
  | 0, _, [] => True
  | n + 1, b :: l, b' :: l' => SubB b b' ∧ SubBs n l l'
  | _, _, _ => False

theorem view_sub {F F' : List SV} {vw : View} (hs : FSub F F') (h : ViewOk W ρ F vw) : ViewOk W ρ F' vw := hs.view h

theorem blk_sub {k : Nat} {B B' : Blk} (h : SubB B B') (hB : BlkOk P N W ρ k B) : BlkOk P N W ρ k B' ∧ (B'.wr = true → B.wr = true) := by
  cases h with
  | rfl => exact ⟨hB, id⟩
  | m h =>
    obtain ⟨b, es', clock, h1, h2, h3⟩ := hB
    exact ⟨⟨b, es', clock, h1, h2, h.rel h3⟩, fun _ => rfl⟩
  | c h =>
    obtain ⟨b, e, hv, ho⟩ := hB
    have hl := h.fsub.1
    exact ⟨⟨b, by rw [← hl]; exact e, by rw [← hl]; exact view_sub h.fsub hv, by rw [← hl]; exact ho⟩, fun _ => rfl⟩
  | @r ro lit lit' st st' sz F F' h hs hp =>
    obtain ⟨h0, hv, _, ho⟩ := hB
    refine ⟨⟨h0, fun vw hm => view_sub h (hv vw hm), fun _ x hx => plains_mem' hp x hx, fun hr => ?_⟩, by cases ro <;> simp [Blk.wr]⟩
    obtain ⟨cur, hc, hn, h1, h2, h3⟩ := ho hr
    refine ⟨cur, hc, by rw [← h.1]; exact hn, h1, h2, fun vw hm => ?_⟩
    rw [← hs, ← h.1]; exact h3 vw hm
  | dead => exact ⟨trivial, fun h => by simp [Blk.wr] at h⟩

theorem SubBs.at : ∀ {m : Nat} {l l2 : List Blk}, SubBs m l l2 → l2.length = m ∧ m ≤ l.length ∧ ∀ (k : Nat) (B' : Blk), l2[k]? = some B' → ∃ B, l[k]? = some B ∧ SubB B B'
  | 0, _, [], _ => ⟨rfl, Nat.zero_le _, fun k B' h => by simp at h⟩
  | 0, _, _ :: _, h => by simp [SubBs] at h
  | m + 1, [], _, h => by simp [SubBs] at h
  | m + 1, _ :: _, [], h => by simp [SubBs] at h
  | m + 1, b :: l, b' :: l2, h => by
    simp only [SubBs] at h
    obtain ⟨h1, h2, h3⟩ := h.2.at
    refine ⟨by simp [h1], by simp; omega, fun k B' hB => ?_⟩
    cases k with
    | zero => simp only [List.getElem?_cons_zero, Option.some.injEq] at hB; subst hB; exact ⟨b, by simp, h.1⟩
    | succ k => simp only [List.getElem?_cons_succ] at hB ⊢; exact h3 k B' hB

theorem subL_env {vs vs2 : List SV} {t : Array Value} (h : SubL vs vs2) (hE : EnvOk ρ vs t) : EnvOk ρ vs2 t := by
  intro q x hx
  obtain ⟨x', hx', hd⟩ := h.fsub.2 q x hx
  obtain ⟨v, e, d⟩ := hE q x' hx'
  exact ⟨v, e, hd _ _ d⟩

/-- What nobody names any more is forgotten, and less is said of all else. -/
theorem St.less {m : Nat} {e : Env} {vs2 : List SV} {l2 : List Blk} {a : Act} (h : St P N W0 ρ e l a W) (hv : SubL e.vs vs2) (hb : SubBs m l l2) (hg : gcOk m ⟨vs2, e.mks⟩ l2 = true) :
    St P N W0 (res m ρ) ⟨vs2, e.mks⟩ l2 a W := by
  obtain ⟨h1, h2, h3⟩ := hb.at
  have hR := h.rel
  have hst : St P N W0 ρ ⟨vs2, e.mks⟩ (l2 ++ l.drop m) a W := by
    refine ⟨⟨hR.below, hR.le, fun k hk => hR.out k ?_, hR.ids, fun k B hB => ?_, ?_, ?_⟩, subL_env hv h.env, h.mks⟩
    · simp only [List.length_append, List.length_drop] at hk; omega
    · rcases Nat.lt_or_ge k m with hkm | hkm
      · rw [List.getElem?_append_left (by omega)] at hB
        obtain ⟨B0, hB0, hs⟩ := h3 k B hB
        exact (blk_sub hs (hR.blk k B0 hB0)).1
      · rw [List.getElem?_append_right (by omega), List.getElem?_drop, h1, show m + (k - m) = k by omega] at hB
        exact hR.blk k B hB
    · intro k k' B vw vw' a a' hB hw hne hv hv' ha ha'
      rcases Nat.lt_or_ge k m with hkm | hkm
      · rw [List.getElem?_append_left (by omega)] at hB
        obtain ⟨B0, hB0, hs⟩ := h3 k B hB
        exact hR.sep k k' B0 vw vw' a a' hB0 ((blk_sub hs (hR.blk k B0 hB0)).2 hw) hne hv hv' ha ha'
      · rw [List.getElem?_append_right (by omega), List.getElem?_drop, h1, show m + (k - m) = k by omega] at hB
        exact hR.sep k k' B vw vw' a a' hB hw hne hv hv' ha ha'
    · intro k B vw a hB hw hv ha
      rcases Nat.lt_or_ge k m with hkm | hkm
      · rw [List.getElem?_append_left (by omega)] at hB
        obtain ⟨B0, hB0, hs⟩ := h3 k B hB
        exact hR.own k B0 vw a hB0 ((blk_sub hs (hR.blk k B0 hB0)).2 hw) hv ha
      · rw [List.getElem?_append_right (by omega), List.getElem?_drop, h1, show m + (k - m) = k by omega] at hB
        exact hR.own k B vw a hB hw hv ha
  have htake : takeB m (l2 ++ l.drop m) = l2 := by rw [takeB_eq, List.take_append_of_le_length (by omega), ← h1, List.take_length]
  have hl2 : takeB m l2 = l2 := by rw [takeB_eq, ← h1, List.take_length]
  have hg2 : gcOk m ⟨vs2, e.mks⟩ (l2 ++ l.drop m) = true := by
    simp only [gcOk, Bool.and_eq_true, Nat.ble_eq, len_eq, htake, hl2] at hg ⊢
    refine ⟨⟨⟨by simp; omega, hg.1.1.2⟩, hg.1.2⟩, hg.2⟩
  have := hst.gc hg2
  rwa [htake] at this

theorem lenS_slots : ∀ (ls : List (Nat × SV)) (vs : List SV), (slots ls vs).length = vs.length
  | [], _ => rfl
  | (q, x) :: r, vs => by rw [slots, lenS_slots r, put_eq]; simp
theorem subL_of {xs ys : List SV} (hl : xs.length = ys.length) (h : ∀ q, Sub (nth xs q) (nth ys q)) : SubL xs ys := by
  induction xs generalizing ys with
  | nil => cases ys with
    | nil => exact .nil
    | cons => simp at hl
  | cons x xs ih => cases ys with
    | nil => simp at hl
    | cons y ys =>
      refine .cons ?_ (ih (by simpa using hl) fun q => ?_)
      · have := h 0; simpa only [nth] using this
      · have := h (q + 1); simpa only [nth] using this
theorem at_slots {xs : List SV} : ∀ (ls : List (Nat × SV)) (vs : List SV), At xs ls → (∀ q, Sub (nth xs q) (nth vs q)) → ∀ q, Sub (nth xs q) (nth (slots ls vs) q)
  | [], _, _, h, q => h q
  | (p, x) :: r, vs, ha, h, q => by
    simp only [At] at ha
    refine at_slots r _ ha.2 (fun q => ?_) q
    rcases Nat.lt_or_ge p vs.length with h1 | h1
    · by_cases hq : q = p
      · subst hq
        rw [nth_eq (put vs q x), put_eq, List.getD_eq_getElem?_getD, List.getElem?_set_self h1]; exact ha.1
      · rw [nth_put_ne hq]; exact h q
    · have e : put vs p x = vs := by rw [put_eq, List.set_eq_of_length_le h1]
      rw [e]; exact h q
theorem repU_nth (n q : Nat) : nth (repU n) q = .any := by
  rw [repU_eq, nth_eq, List.getD_eq_getElem?_getD, List.getElem?_replicate]; split <;> rfl

/-- A state at a loop's head. -/
def Ent {α : Type} (m nt : Nat) (mk : List Nat) (ok : α → Prop) (live : α → List (Nat × SV)) (hp : α → List Blk) (a : α) (e : Env) (l : List Blk) : Prop :=
  ok a ∧ e.mks = mk ∧ lenS e.vs = nt ∧ At e.vs (live a) ∧ SubBs m l (hp a) ∧ gcOk m ⟨slots (live a) (repU nt), mk⟩ (hp a) = true

theorem Ent.st {α : Type} {m nt : Nat} {mk : List Nat} {ok : α → Prop} {live : α → List (Nat × SV)} {hp : α → List Blk} {a : α} {e : Env} {ac : Act} (h : Ent m nt mk ok live hp a e l)
    (hs : St P N W0 ρ e l ac W) : St P N W0 (res m ρ) ⟨slots (live a) (repU nt), mk⟩ (hp a) ac W := by
  obtain ⟨_, rfl, h2, h3, h4, h5⟩ := h
  refine hs.less (subL_of ?_ (at_slots _ _ h3 fun q => by rw [repU_nth]; exact sub_any)) h4 h5
  rw [lenS_slots, repU_eq, ← lenS_eq, h2]; simp

/-- A loop: what stays, and what falls. -/
theorem s_loop_at {S : Sy} {α : Type} (hS : S0 P = S) (m nt : Nat) (mk : List Nat) (ok : α → Prop) (live : α → List (Nat × SV)) (hp : α → List Blk) (μ : α → Nat) (a0 : α) {cx : Cx} {b : IR} {K : VK}
    {e : Env} {l : List Blk} (hcm : Nat.ble cx.m m = true) (h0 : Ent m nt mk ok live hp a0 e l)
    (step : ∀ a, ok a → vc S cx b (fun ex e' l' => match ex with | .normal => ∃ a', μ a' < μ a ∧ Ent m nt mk ok live hp a' e' l' | ex => K ex e' l') ⟨slots (live a) (repU nt), mk⟩ (hp a)) : S.loop cx b e l K := by
  subst hS
  have hcm := Nat.le_of_ble_eq_true hcm
  have hlen : ∀ {a : α} {e : Env} {l : List Blk}, Ent m nt mk ok live hp a e l → (hp a).length = m := fun h => h.2.2.2.2.1.at.1
  have main : ∀ n a, μ a = n → ok a → (hp a).length = m → ∀ c kl, conv P kl c = some b → WP P cx (.loop c) K ⟨slots (live a) (repU nt), mk⟩ (hp a) := by
    intro n
    induction n using Nat.strongRecOn with
    | ind n ih =>
      intro a hn ha hl c kl hc N W0 ρ rr ac W hs hr hm
      refine wp_loop (Wp.mono (vc_sound c hc (step a ha) N W0 ρ rr ac W hs hr hm) ?_)
      rintro ex a' w' ⟨ρ', e', l', hK, hle, hm', hs'⟩
      cases ex with
      | normal =>
        obtain ⟨a2, hlt, hE⟩ := hK
        have hle2 : Le cx.m ρ (res m ρ') := hle.trans (le_res hcm)
        exact Wp.mono (ih (μ a2) (by omega) a2 rfl hE.1 (hlen hE) c kl hc N W0 (res m ρ') rr a' w' (hE.st hs') (hr.le hle2) (by rw [hlen hE]; omega)) fun _ _ _ q => q.le hle2
      | exit id => exact ⟨ρ', e', l', hK, hle, hm', hs'⟩
      | goto g => exact ⟨ρ', e', l', hK, hle, hm', hs'⟩
      | ret => exact ⟨ρ', e', l', hK, hle, hm', hs'⟩
  intro c kl hc N W0 ρ rr a W hs hr hm
  exact Wp.mono (main _ a0 rfl h0.1 (hlen h0) c kl hc N W0 (res m ρ) rr a W (h0.st hs) (hr.le (le_res hcm)) (by rw [hlen h0]; omega)) fun _ _ _ q => q.le (le_res hcm)

def setBs : List (Nat × Blk) → List Blk → List Blk
  | [], l => l
  | (k, b) :: r, l => setBs r (lset l k b)

/-- A state at a loop's head: as it was, but for these slots and blocks. -/
def En2 {α : Type} (m : Nat) (ds : List Nat) (ok : α → Prop) (ups : α → List (Nat × SV)) (bups : α → List (Nat × Blk)) (e0 : Env) (l0 : List Blk) (a : α) (e : Env) (l : List Blk) : Prop :=
  ok a ∧ e.mks = e0.mks ∧ SubL e.vs (slots (ups a) (puts e0.vs ds .any)) ∧ SubBs m l (setBs (bups a) (takeB m l0)) ∧ gcOk m ⟨slots (ups a) (puts e0.vs ds .any), e0.mks⟩ (setBs (bups a) (takeB m l0)) = true

theorem En2.st {α : Type} {m : Nat} {ds : List Nat} {ok : α → Prop} {ups : α → List (Nat × SV)} {bups : α → List (Nat × Blk)} {e0 : Env} {l0 : List Blk} {a : α} {e : Env} {ac : Act}
    (h : En2 m ds ok ups bups e0 l0 a e l) (hs : St P N W0 ρ e l ac W) : St P N W0 (res m ρ) ⟨slots (ups a) (puts e0.vs ds .any), e0.mks⟩ (setBs (bups a) (takeB m l0)) ac W := by
  obtain ⟨_, h1, h2, h3, h4⟩ := h
  rw [← h1] at h4 ⊢
  exact hs.less h2 h3 h4

/-- A loop: what turns, all else stays. -/
theorem s_loop_up {S : Sy} {α : Type} (hS : S0 P = S) (m : Nat) (ds : List Nat) (ok : α → Prop) (ups : α → List (Nat × SV)) (bups : α → List (Nat × Blk)) (μ : α → Nat) (a0 : α) {cx : Cx} {b : IR} {K : VK}
    {e : Env} {l : List Blk} (hcm : Nat.ble cx.m m = true) (h0 : En2 m ds ok ups bups e l a0 e l)
    (step : ∀ a, ok a → vc S cx b (seqK (fun _ e' l' => ∃ a', μ a' < μ a ∧ En2 m ds ok ups bups e l a' e' l') K) ⟨slots (ups a) (puts e.vs ds .any), e.mks⟩ (setBs (bups a) (takeB m l))) : S.loop cx b e l K := by
  subst hS
  have hcm := Nat.le_of_ble_eq_true hcm
  have hlen : ∀ {a : α} {e1 : Env} {l1 : List Blk}, En2 m ds ok ups bups e l a e1 l1 → (setBs (bups a) (takeB m l)).length = m := fun h => h.2.2.2.1.at.1
  have main : ∀ n a, μ a = n → ok a → (setBs (bups a) (takeB m l)).length = m → ∀ c kl, conv P kl c = some b → WP P cx (.loop c) K ⟨slots (ups a) (puts e.vs ds .any), e.mks⟩ (setBs (bups a) (takeB m l)) := by
    intro n
    induction n using Nat.strongRecOn with
    | ind n ih =>
      intro a hn ha hl c kl hc N W0 ρ rr ac W hs hr hm
      refine wp_loop (Wp.mono (vc_sound c hc (step a ha) N W0 ρ rr ac W hs hr hm) ?_)
      rintro ex a' w' ⟨ρ', e', l', hK, hle, hm', hs'⟩
      cases ex with
      | normal =>
        obtain ⟨a2, hlt, hE⟩ := hK
        have hle2 : Le cx.m ρ (res m ρ') := hle.trans (le_res hcm)
        exact Wp.mono (ih (μ a2) (by omega) a2 rfl hE.1 (hlen hE) c kl hc N W0 (res m ρ') rr a' w' (hE.st hs') (hr.le hle2) (by rw [hlen hE]; omega)) fun _ _ _ q => q.le hle2
      | exit id => exact ⟨ρ', e', l', hK, hle, hm', hs'⟩
      | goto g => exact ⟨ρ', e', l', hK, hle, hm', hs'⟩
      | ret => exact ⟨ρ', e', l', hK, hle, hm', hs'⟩
  intro c kl hc N W0 ρ rr a W hs hr hm
  exact Wp.mono (main _ a0 rfl h0.1 (hlen h0) c kl hc N W0 (res m ρ) rr a W (h0.st hs) (hr.le (le_res hcm)) (by rw [hlen h0]; omega)) fun _ _ _ q => q.le (le_res hcm)

/-- What goes on behind a piece of a scope whose jumps back to g are counted. -/
def jmpK (S : Sy) (cx : Cx) (b : IR) (K : VK) (g : Nat) (I : Env → List Blk → Prop) : VK := fun ex e l => match ex with
  | .goto g' => if g' = g then I e l else (match findL b g' with
    | some _ => S.jump cx b g' e l K
    | none => K (.goto g') e l)
  | ex => K ex e l
/-- A jump back as a loop: what turns, all else stays. -/
theorem s_jump_up {S : Sy} {α : Type} (hS : S0 P = S) (m : Nat) (ds : List Nat) (ok : α → Prop) (ups : α → List (Nat × SV)) (bups : α → List (Nat × Blk)) (μ : α → Nat) (a0 : α) {cx : Cx} {b i : IR} {g : Nat} {K : VK}
    {e : Env} {l : List Blk} (hi : findL b g = some i) (hcm : Nat.ble cx.m m = true) (h0 : En2 m ds ok ups bups e l a0 e l)
    (step : ∀ a, ok a → vc S cx i (jmpK S cx b K g (fun e' l' => ∃ a', μ a' < μ a ∧ En2 m ds ok ups bups e l a' e' l')) ⟨slots (ups a) (puts e.vs ds .any), e.mks⟩ (setBs (bups a) (takeB m l))) : S.jump cx b g e l K := by
  subst hS
  have hcm := Nat.le_of_ble_eq_true hcm
  have hlen : ∀ {a : α} {e1 : Env} {l1 : List Blk}, En2 m ds ok ups bups e l a e1 l1 → (setBs (bups a) (takeB m l)).length = m := fun h => h.2.2.2.1.at.1
  intro c kl hc rest hr
  have hcr := findL_conv hc hr hi
  have main : ∀ n a, μ a = n → ok a → (setBs (bups a) (takeB m l)).length = m → ∀ N W0 ρ rr ac W, St P N W0 ρ ⟨slots (ups a) (puts e.vs ds .any), e.mks⟩ (setBs (bups a) (takeB m l)) ac W → RoOk ρ cx rr →
      InScope P rr c rest (KPost P N W0 cx ρ K) ac W := by
    intro n
    induction n using Nat.strongRecOn with
    | ind n ih =>
      intro a hn ha hl N W0 ρ rr ac W hs hro
      refine inScope_of (Wp.mono (vc_sound rest hcr (step a ha) N W0 ρ rr ac W hs hro (by rw [hl]; exact hcm)) ?_)
      rintro ex a' w' ⟨ρ', e', l', hK, hle, hm', hs'⟩
      cases ex with
      | normal => exact ⟨ρ', e', l', hK, hle, hm', hs'⟩
      | exit id => exact ⟨ρ', e', l', hK, hle, hm', hs'⟩
      | ret => exact ⟨ρ', e', l', hK, hle, hm', hs'⟩
      | goto g' =>
        have hf := findL_ok (g := g') hc
        simp only [Ex.inScope]
        by_cases hg : g' = g
        · subst hg
          rw [hr]
          simp only [jmpK, if_true] at hK
          obtain ⟨a2, hlt, hE⟩ := hK
          have hle2 : Le cx.m ρ (res m ρ') := hle.trans (le_res hcm)
          exact From.mono (ih (μ a2) (by omega) a2 rfl hE.1 (hlen hE) N W0 (res m ρ') rr a' w' (hE.st hs') (hro.le hle2)) fun _ _ _ q => q.le hle2
        · simp only [jmpK, if_neg hg] at hK
          cases hq : findLabel c g' with
          | none =>
            rw [hq] at hf
            cases hj : findL b g' with
            | none => simp only [hj] at hK; exact ⟨ρ', e', l', hK, hle, hm', hs'⟩
            | some r => rw [hj] at hf; simp at hf
          | some rest' =>
            rw [hq] at hf
            cases hj : findL b g' with
            | none => rw [hj] at hf; simp at hf
            | some r =>
              simp only [hj] at hK
              exact From.mono (hK c kl hc rest' hq N W0 ρ' rr a' w' hs' (hro.le hle) hm') fun _ _ _ q => q.le hle
  intro N W0 ρ rr a W hs hro hm
  exact From.mono (main _ a0 rfl h0.1 (hlen h0) N W0 (res m ρ) rr a W (h0.st hs) (hro.le (le_res hcm))) fun _ _ _ q => q.le (le_res hcm)

/-- A loop, unrolled once. -/
theorem s_loop_one {S : Sy} (hS : S0 P = S) {cx : Cx} {b : IR} {K : VK} {e : Env} {l : List Blk} (h : vc S cx b (seqK (fun K e' l' => S.loop cx b e' l' K) K) e l) : S.loop cx b e l K := by
  subst hS
  intro c kl hc N W0 ρ rr a W hs hr hm
  refine wp_loop (Wp.mono (vc_sound c hc h N W0 ρ rr a W hs hr hm) ?_)
  rintro ex a' w' ⟨ρ', e', l', hK, hle, hm', hs'⟩
  cases ex with
  | normal => exact Wp.mono (hK c kl hc N W0 ρ' rr a' w' hs' (hr.le hle) hm') fun _ _ _ q => q.le hle
  | exit id => exact ⟨ρ', e', l', hK, hle, hm', hs'⟩
  | goto g => exact ⟨ρ', e', l', hK, hle, hm', hs'⟩
  | ret => exact ⟨ρ', e', l', hK, hle, hm', hs'⟩

def ydK2 (k : Nat) (K : SV → List Blk → Prop) : VK := fun ex _ l2 => match lget l2 k with
  | .lp vs2 ps2 asg2 body2 _ => K (ofB ex.goes) (lset l2 k (.lp vs2 ps2 asg2 body2 (phEnd ex)))
  | _ => False
def ydK1 (S : Sy) (k m : Nat) (K : SV → List Blk → Prop) : VK := fun ex e1 l1 => match ex with
  | .normal => match lget l1 k with
    | .lp vs1 ps1 asg1 body1 .ready => vc S ⟨some k, m⟩ body1 (ydK2 k K) e1 (lset l1 k (.lp vs1 ps1 asg1 body1 .busy))
    | _ => False
  | _ => False
theorem s_yld {S : Sy} (hS : S0 P = S) {k : Nat} {args vs : List SV} {ps : List Nat} {asg body : IR} {K : SV → List Blk → Prop} (hk : lget l k = .lp vs ps asg body .ready) (hn : ps.length = args.length)
    (h : vc S ⟨some k, len l⟩ asg (fun ex e1 l1 => match ex with
      | .normal => match lget l1 k with
        | .lp vs1 ps1 asg1 body1 .ready => vc S ⟨some k, len l⟩ body (ydK2 k K) e1 (lset l1 k (.lp vs1 ps1 asg1 body1 .busy))
        | _ => False
      | _ => False) ⟨putps vs ps args, []⟩ l) : S.yld k args l K := by
  subst hS; exact yld_in hk hn h

mutual
/-- Values known whole are written out. -/
def lit : SV → SV
  | .b x => ofB x
  | .i k z => .i k (.l z.v)
  | .ag cs => .ag (litL cs)
  | .tp cs => .tp (litL cs)
  | x => x
def litL : List SV → List SV
  | [] => []
  | x :: xs => lit x :: litL xs
end
mutual
theorem den_lit : ∀ (x : SV) (ρ : Nms) (v : Value), den ρ x v → den ρ (lit x) v
  | .b x, _, _, d => by cases x <;> simpa [lit, ofB, den] using d
  | .i _ _, _, _, d => by simpa [lit, den, Z.v] using d
  | .ag cs, ρ, v, d => by
    simp only [den, lit] at d ⊢
    obtain ⟨vs, e, r⟩ := d
    exact ⟨vs, e, denL_lit cs ρ _ r⟩
  | .tp cs, ρ, v, d => by
    simp only [den, lit] at d ⊢
    obtain ⟨vs, e, r⟩ := d
    exact ⟨vs, e, denL_lit cs ρ _ r⟩
  | .tt, _, _, d => d
  | .ff, _, _, d => d
  | .s _, _, _, d => d
  | .p _ _, _, _, d => d
  | .pe _ _ _ _, _, _, d => d
  | .sl _ _ _ _ _, _, _, d => d
  | .fn _ _ _, _, _, d => d
  | .yl _, _, _, d => d
  | .m _, _, _, d => d
  | .re _, _, _, d => d
  | .un, _, _, d => d
  | .any, _, _, d => d
theorem denL_lit : ∀ (xs : List SV) (ρ : Nms) (vs : List Value), denL ρ xs vs → denL ρ (litL xs) vs
  | [], _, [], d => d
  | [], _, _ :: _, d => by simp [denL] at d
  | _ :: _, _, [], d => by simp [denL] at d
  | x :: xs, ρ, v :: vs, d => by
    simp only [denL, litL] at d ⊢
    exact ⟨den_lit x ρ v d.1, denL_lit xs ρ vs d.2⟩
end
theorem sub_lit {x : SV} : Sub x (lit x) := ⟨fun ρ v d => den_lit x ρ v d⟩
mutual
theorem refsB_lit {ok : Nat → Bool} : ∀ (x : SV), refsB ok x = true → refsB ok (lit x) = true
  | .b x, _ => by cases x <;> rfl
  | .i _ _, _ => rfl
  | .ag cs, h => by simp only [refsB, lit] at h ⊢; exact refsBL_lit cs h
  | .tp cs, h => by simp only [refsB, lit] at h ⊢; exact refsBL_lit cs h
  | .tt, h => h
  | .ff, h => h
  | .s _, h => h
  | .p _ _, h => h
  | .pe _ _ _ _, h => h
  | .sl _ _ _ _ _, h => h
  | .fn _ _ _, h => h
  | .yl _, h => h
  | .m _, h => h
  | .re _, h => h
  | .un, h => h
  | .any, h => h
theorem refsBL_lit {ok : Nat → Bool} : ∀ (xs : List SV), refsBL ok xs = true → refsBL ok (litL xs) = true
  | [], h => h
  | x :: xs, h => by
    simp only [refsBL, litL, Bool.and_eq_true] at h ⊢
    exact ⟨refsB_lit x h.1, refsBL_lit xs h.2⟩
end
theorem call_lit {g : FuncId} {args : List SV} {sv : SV} (h : (S0 P).call g args l (fun x _ => Sub x sv)) : (S0 P).call g args l (fun x _ => Sub x (lit sv)) :=
  call_post h fun x _ hx => ⟨x, .rfl, hx.trans sub_lit⟩

def no (_ : Nat) : Bool := false
/-- A contract used: values alone. -/
theorem use_val {S : Sy} (hS : S0 P = S) {g : FuncId} {args args' : List SV} {sv : SV} {K : SV → List Blk → Prop} (hF : (S0 P).call g args' [] (fun x _ => Sub x sv)) (ha : SubL args args')
    (hr : refsBL (fun _ => false) args' = true) (hs : refsB (fun _ => false) sv = true) (hK : K sv l) : S.call g args l K := by
  subst hS; exact call_sub ha (call_val hF hr hs hK)
/-- A contract used: rows that are read. -/
theorem use_read {S : Sy} (hS : S0 P = S) {g : FuncId} {args args0 : List SV} {l0 : List Blk} {sv : SV} {K : SV → List Blk → Prop} (f : Nat → Nat) (hF : (S0 P).call g args0 l0 (fun x _ => Sub x sv)) (ha : SubL args (renL f args0))
    (hrefs : refsBL (fun k => decide (k < l0.length)) args0 = true) (hread : Rds l f 0 l0) (hs : refsB (fun _ => false) sv = true) (hK : K sv l) : S.call g args l K := by
  subst hS; exact call_read f hF ha hrefs hread hs hK

theorem sub_sl {k sz : Nat} {off len off' len' : Z} {cap : Option Z} (h1 : off.v = off'.v) (h2 : len.v = len'.v) : Sub (.sl k sz off len cap) (.sl k sz off' len' cap) :=
  ⟨fun ρ v d => by simp only [den] at d ⊢; rw [← h1, ← h2]; exact d⟩
/-- A row of nothing, where no slice is. -/
theorem Rel.ghost {N : Nat} {W0 W : World} {ρ : Nms} (hR : Rel P N W0 ρ l W) (ro : Bool) {sz : Nat} (hsz : 0 < sz) : Rel P N W0 (upd ρ l.length [⟨none, 0, 0⟩]) (l ++ [.r ro true (.l 0) sz []]) W := by
  have hle : Le l.length ρ (upd ρ l.length [⟨none, 0, 0⟩]) := fun k hk vw hv => by rw [upd_other (by omega)]; exact hv
  refine ⟨hR.below, hR.le, fun k hk => ?_, fun k vw a hv ha => ?_, fun k B hB => ?_, fun k k' B vw vw' a a' hB hw hne hv hv' ha ha' => ?_, fun k B vw a hB hw hv ha => ?_⟩
  · simp only [List.length_append, List.length_singleton] at hk
    rw [upd_other (by omega)]; exact hR.out k (by omega)
  · by_cases hk : k = l.length
    · subst hk; rw [upd_same, List.mem_singleton] at hv; subst hv; cases ha
    · rw [upd_other hk] at hv; exact hR.ids k vw a hv ha
  · by_cases hk : k = l.length
    · subst hk
      rw [List.getElem?_append_right (Nat.le_refl _), Nat.sub_self] at hB
      simp only [List.getElem?_cons_zero, Option.some.injEq] at hB
      subst hB
      refine ⟨hsz, fun vw hv => ?_, (fun h => by cases h), fun _ => ⟨⟨none, 0, 0⟩, by rw [upd_same]; simp, rfl, (fun a ha => by cases ha), (Nat.zero_le _), fun vw hv => ?_⟩⟩
      · rw [upd_same, List.mem_singleton] at hv; subst hv
        exact ⟨Nat.zero_le _, fun _ => ⟨rfl, rfl⟩, fun q x hq _ => by simp at hq⟩
      · rw [upd_same, List.mem_singleton] at hv; subst hv; exact .inl ⟨rfl, rfl⟩
    · have hlt : k < l.length := by
        have := (List.getElem?_eq_some_iff.1 hB).1
        simp only [List.length_append, List.length_singleton] at this; omega
      rw [List.getElem?_append_left hlt] at hB
      exact (hR.blk k B hB).keep hle hR.out (upd_other hk) fun _ _ _ _ => rfl
  · by_cases hk : k = l.length
    · subst hk; rw [upd_same, List.mem_singleton] at hv; subst hv; cases ha
    · by_cases hk' : k' = l.length
      · subst hk'; rw [upd_same, List.mem_singleton] at hv'; subst hv'; cases ha'
      · rw [upd_other hk] at hv; rw [upd_other hk'] at hv'
        have hlt : k < l.length := by
          have := (List.getElem?_eq_some_iff.1 hB).1
          simp only [List.length_append, List.length_singleton] at this; omega
        rw [List.getElem?_append_left hlt] at hB
        exact hR.sep k k' B vw vw' a a' hB hw hne hv hv' ha ha'
  · by_cases hk : k = l.length
    · subst hk; rw [upd_same, List.mem_singleton] at hv; subst hv; cases ha
    · rw [upd_other hk] at hv
      have hlt : k < l.length := by
        have := (List.getElem?_eq_some_iff.1 hB).1
        simp only [List.length_append, List.length_singleton] at this; omega
      rw [List.getElem?_append_left hlt] at hB
      exact hR.own k B vw a hB hw hv ha
theorem le_ghost {ρ : Nms} {m : Nat} (h : m ≤ l.length) {vs : List View} : Le m ρ (upd ρ l.length vs) := fun k hk vw hv => by rw [upd_other (by omega)]; exact hv
/-- What a nil slice is taken for: no element of the last block, a row of nothing. -/
def nilRow (l : List Blk) (sz : Nat) : SV := .sl (len l) sz (.l 0) (.l 0) none
theorem den_nilRow {ρ : Nms} {sz : Nat} (h : (⟨none, 0, 0⟩ : View) ∈ ρ l.length) : den ρ (nilRow l sz) (.slice none 0 0) := by
  simp only [nilRow, den, len_eq]
  exact ⟨by simp [Z.v], by simp [Z.v], ⟨none, 0, 0⟩, h, by simp [Z.v], by simp [SlVal, Z.v]⟩
/-- A slot that is nil ahead of a loop, taken for a row of nothing. -/
theorem s_loop_nil {S : Sy} (hS : S0 P = S) (q sz : Nat) {cx : Cx} {b : IR} {K : VK} {e : Env} (hsz : 0 < sz) (hq : nth e.vs q = .re (.slice none 0 0))
    (h : S.loop cx b ⟨put e.vs q (nilRow l sz), e.mks⟩ (snoc l (.r false true (.l 0) sz [])) K) : S.loop cx b e l K := by
  subst hS
  rw [snoc_eq] at h
  intro c kl hc N W0 ρ rr a W hs hr hm
  have hle : Le l.length ρ (upd ρ l.length [⟨none, 0, 0⟩]) := le_ghost (Nat.le_refl _)
  have hE : EnvOk (upd ρ l.length [⟨none, 0, 0⟩]) (put e.vs q (nilRow l sz)) a.tmps := by
    have h1 : EnvOk (upd ρ l.length [⟨none, 0, 0⟩]) e.vs a.tmps := hs.env.le hle hs.rel.out
    intro j x hx
    by_cases hj : j = q
    · subst hj
      have hlt : j < e.vs.length := by have := (List.getElem?_eq_some_iff.1 hx).1; rw [put_eq, List.length_set] at this; exact this
      rw [put_eq, List.getElem?_set_self hlt] at hx
      simp only [Option.some.injEq] at hx; subst hx
      obtain ⟨v, hv, hd⟩ := h1 j _ (List.getElem?_eq_getElem hlt)
      have : e.vs[j] = .re (.slice none 0 0) := by rw [nth_eq, List.getD_eq_getElem?_getD, List.getElem?_eq_getElem hlt] at hq; exact hq
      rw [this] at hd
      simp only [den] at hd
      exact ⟨v, hv, by rw [hd.1]; exact den_nilRow (by rw [upd_same]; simp)⟩
    · rw [put_eq, List.getElem?_set_ne (fun e => hj e.symm)] at hx
      exact h1 j x hx
  have hM : MkOk (upd ρ l.length [⟨none, 0, 0⟩]) e.mks a.defers := MkOk.le hle hs.rel.out _ _ hs.mks
  exact Wp.mono (h c kl hc N W0 _ rr a W ⟨hs.rel.ghost false hsz, hE, hM⟩ (hr.le (le_ghost hm)) (by simp; omega)) fun _ _ _ q => q.le (le_ghost hm)

/-- A nil slice is a row of nothing. -/
theorem call_ghost {g : FuncId} {args args' : List SV} {K : SV → List Blk → Prop} {sz : Nat} (hsz : 0 < sz) (h : ∀ (ρ : Nms) (vs : List Value), ρ (len l) = [⟨none, 0, 0⟩] → denL ρ args vs → denL ρ args' vs)
    (hr : refsBL (fun k => decide (k < l.length)) args = true) (hc : (S0 P).call g args' (snoc l (.r true true (.l 0) sz [])) K) : (S0 P).call g args l K := by
  intro N W0 ρ W vals hR hd
  rw [len_eq] at h
  rw [snoc_eq] at hc
  have hR' : Rel P N W0 (upd ρ l.length [⟨none, 0, 0⟩]) (l ++ [.r true true (.l 0) sz []]) W := hR.ghost true hsz
  have hd' : denL (upd ρ l.length [⟨none, 0, 0⟩]) args vals.toList := by
    have := denL_ren (ok := fun k => decide (k < l.length)) (f := id) (ρ := ρ) (ρ' := upd ρ l.length [⟨none, 0, 0⟩]) (fun k hk vw hv => by
      simp only [decide_eq_true_eq] at hk
      simp only [id]; rw [upd_other (by omega)]; exact hv) args _ hr hd
    rwa [renL_id] at this
  refine NextR.mono ?_ (hc N W0 _ W vals hR' (h _ _ upd_same hd'))
  rintro v W' ⟨ρ', sv, l', hK, hle, hll, hR2, hdv⟩
  simp only [List.length_append, List.length_singleton] at hle hll
  refine ⟨ρ', sv, l', hK, fun k hk vw hv => hle k (by omega) vw (by rw [upd_other (by omega)]; exact hv), by omega, hR2, hdv⟩

/-! ### Rows of elements -/
theorem flat_at {α : Type} {enc : α → List SV} {sz : Nat} (henc : ∀ a, (enc a).length = sz) : ∀ {l : List α} {i : Nat} {a : α}, l[i]? = some a → ∀ j n, j + n ≤ sz →
    ((l.flatMap enc).drop (i * sz + j)).take n = ((enc a).drop j).take n
  | [], i, a, h, _, _, _ => by simp at h
  | x :: l, 0, a, h, j, n, hj => by
    simp only [List.getElem?_cons_zero, Option.some.injEq] at h; subst h
    simp only [List.flatMap_cons, Nat.zero_mul, Nat.zero_add]
    rw [List.drop_append_of_le_length (by rw [henc]; omega), List.take_append_of_le_length (by simp [henc]; omega)]
  | x :: l, i + 1, a, h, j, n, hj => by
    simp only [List.getElem?_cons_succ] at h
    simp only [List.flatMap_cons]
    rw [show (i + 1) * sz + j = (enc x).length + (i * sz + j) by rw [henc, Nat.succ_mul]; omega, List.drop_append, List.drop_eq_nil_of_le (by omega), List.nil_append, Nat.add_sub_cancel_left]
    exact flat_at henc h j n hj
theorem flat_len {α : Type} {enc : α → List SV} {sz : Nat} (henc : ∀ a, (enc a).length = sz) : ∀ (l : List α), (l.flatMap enc).length = l.length * sz
  | [] => by simp
  | x :: l => by simp [flat_len henc l, henc, Nat.succ_mul]; omega
theorem s_row {α : Type} {S : Sy} (hS : S0 P = S) {enc : α → List SV} {l : List α} {F : List SV} (hF : l.flatMap enc = F) {i : Int} {sz j n : Nat} {agg : Bool} {K : SV → Prop} (henc : ∀ a, (enc a).length = sz)
    (h0 : 0 ≤ i) (hi : i < l.length) (h2 : j + n ≤ sz) (h : ∀ a, l[i.toNat]? = some a → ∃ v, mkv agg (((enc a).drop j).take n) = some v ∧ K v) : S.rd F i sz j n agg K := by
  subst hF
  have hlt : i.toNat < l.length := by omega
  obtain ⟨v, hv, hk⟩ := h _ (List.getElem?_eq_getElem hlt)
  refine s_rd hS h0 ?_ h2 (v := v) ?_ hk
  · rw [flat_len henc]; exact Nat.mul_le_mul_right sz hlt
  · rw [flat_at henc (List.getElem?_eq_getElem hlt) j n h2]; exact hv
theorem s_rowp {α : Type} {S : Sy} (hS : S0 P = S) {enc : α → List SV} {l : List α} {F : List SV} (hF : l.flatMap enc = F) {i : Int} {a : α} (ha : l[i.toNat]? = some a) {sz j n : Nat} {agg : Bool} {K : SV → Prop} {v : SV}
    (henc : ∀ a, (enc a).length = sz) (h0 : 0 ≤ i) (h2 : j + n ≤ sz) (hv : mkv agg (((enc a).drop j).take n) = some v) (h : K v) : S.rd F i sz j n agg K :=
  s_row hS hF henc h0 (by have := (List.getElem?_eq_some_iff.1 ha).1; omega) h2 fun b hb => by
    rw [ha] at hb; cases hb
    exact ⟨v, hv, h⟩
theorem no_tf (h : true = false) : False := by cases h
theorem no_ft (h : false = true) : False := by cases h
theorem no_both {b : Bool} (h : b = true) (h' : b = false) : False := by rw [h] at h'; cases h'
theorem g_rd {S : Sy} {F : List SV} {i : Int} {sz j n : Nat} {agg : Bool} {K : SV → Prop} (hS : S0 P = S) (h : (S0 P).rd F i sz j n agg K) : S.rd F i sz j n agg K := by subst hS; exact h
theorem r_rowp {α : Type} {enc : α → List SV} {l : List α} {F : List SV} (hF : l.flatMap enc = F) {i : Int} {a : α} (ha : l[i.toNat]? = some a) {sz j n : Nat} {agg : Bool} {K : SV → Prop} {v : SV}
    (henc : ∀ a, (enc a).length = sz) (h0 : 0 ≤ i) (h2 : j + n ≤ sz) (hv : mkv agg (((enc a).drop j).take n) = some v) (h : K v) : (S0 P).rd F i sz j n agg K :=
  s_rowp rfl hF ha henc h0 h2 hv h
theorem all_no {α : Type} {f : α → Bool} {l : List α} {i : Nat} {a : α} (ha : l[i]? = some a) (h : f a = false) : l.all f = false := by
  rw [List.all_eq_false]; exact ⟨a, List.mem_of_getElem? ha, by rw [h]; simp⟩
/-- A list's length, as a number of the program's. -/
def ilen {α : Type} (l : List α) : Int := l.length
theorem ilen_nn {α : Type} (l : List α) : 0 ≤ ilen l := by unfold ilen; omega
theorem at_ex {α : Type} {l : List α} {i : Int} (h : i < ilen l) (h0 : 0 ≤ i) : ∃ a, l[i.toNat]? = some a := ⟨_, List.getElem?_eq_getElem (by unfold ilen at h; omega)⟩
theorem take_all {α : Type} {l : List α} {i : Int} (h : ilen l ≤ i) : l.take i.toNat = l := List.take_of_length_le (by unfold ilen at h; omega)
theorem take_next {α : Type} {l : List α} {i : Int} {a : α} (ha : l[i.toNat]? = some a) (h0 : 0 ≤ i) : l.take (i + 1).toNat = l.take i.toNat ++ [a] := by
  rw [show (i + 1).toNat = i.toNat + 1 by omega, List.take_add_one, ha]; rfl
theorem all_next {α : Type} {f : α → Bool} {l : List α} {i : Int} {a : α} (ha : l[i.toNat]? = some a) (h0 : 0 ≤ i) (h : (l.take i.toNat).all f = true) (hf : f a = true) : (l.take (i + 1).toNat).all f = true := by
  rw [take_next ha h0, List.all_append, h]; simp [hf]
end
/-! ### Values that are equal, cell by cell -/
def eq1 : SV → SV → Prop
  | .i _ a, .i _ b => a.v = b.v
  | .s a, .s b => a = b
  | .tt, .tt => True
  | .ff, .ff => True
  | .tt, .b y => y = true
  | .ff, .b y => y = false
  | .b x, .tt => x = true
  | .b x, .ff => x = false
  | .b x, .b y => x = y
  | _, _ => False
def eqc : List SV → List SV → Prop
  | [], [] => True
  | x :: xs, y :: ys => eq1 x y ∧ eqc xs ys
  | _, _ => False
def eqs (x y : SV) : Prop := match cellsOf x, cellsOf y with
  | some xs, some ys => eqc xs ys
  | _, _ => False
def kindOk (sig : Sg) (x y : SV) : Bool := match cellsOf x, cellsOf y with
  | some xs, some ys => (isAg x == sig.agg) && (isAg y == sig.agg) && kinds sig.ks xs ys
  | _, _ => false
section
variable {P : Program}
theorem veq1_eq {s : Kd} {x y : SV} {k1 k2 : Unit → Prop} (hk : kinds [s] [x] [y] = true) (he : eq1 x y) (h : k1 ()) : veq1 (S0 P) s x y k1 k2 := by
  cases s <;> cases x <;> cases y <;> simp [kinds] at hk <;> simp only [eq1] at he <;> simp only [veq1]
  all_goals first
    | exact h
    | exact he.elim
    | (subst he; refine ⟨fun _ => h, fun e => ?_⟩; simp [S0, scmpS] at e; done)
    | (subst he; refine ⟨fun e => ?_, fun _ => h⟩; simp at e; done)
    | skip
  all_goals try (rename_i k a k' b; subst hk; simp only [if_true]; cases a <;> cases b <;> simp only [Z.v] at he <;> subst he)
  all_goals try first
    | (simp only [if_true]; exact h)
    | exact ⟨fun _ => h, fun e => by simp [S0, BK.cmpLit, Z.v] at e⟩
    | exact ⟨fun e => by simp at e, fun _ => h⟩
theorem veqL_eq : ∀ {ss : List Kd} {xs ys : List SV} {k1 k2 : Unit → Prop}, kinds ss xs ys = true → eqc xs ys → k1 () → veqL (S0 P) ss xs ys k1 k2
  | [], [], [], _, _, _, _, h => by simpa only [veqL] using h
  | [], [], _ :: _, _, _, hk, _, _ => by simp [kinds] at hk
  | [], _ :: _, _, _, _, hk, _, _ => by simp [kinds] at hk
  | s :: ss, [], _, _, _, hk, _, _ => by cases s <;> simp [kinds] at hk
  | s :: ss, _ :: _, [], _, _, _, he, _ => he.elim
  | s :: ss, x :: xs, y :: ys, k1, k2, hk, he, h => by
    have hb : kinds [s] [x] [y] = true ∧ kinds ss xs ys = true := by
      cases s <;> cases x <;> cases y <;> simp [kinds] at hk ⊢ <;> first | exact hk | (split at hk <;> simp_all)
    simp only [veqL]
    exact veq1_eq hb.1 he.1 (veqL_eq hb.2 he.2 h)
theorem s_eqt {S : Sy} {sig : Sg} {x y : SV} {k1 k2 : Unit → Prop} (hS : S0 P = S) (hk : kindOk sig x y = true) (he : eqs x y) (h : k1 ()) : S.eqv sig x y k1 k2 := by
  subst hS
  rw [eqv_eq]
  unfold kindOk at hk
  unfold eqs at he
  unfold veq
  cases hx : cellsOf x with
  | none => rw [hx] at hk; cases hk
  | some xs => cases hy : cellsOf y with
    | none => rw [hx, hy] at hk; cases hk
    | some ys =>
      rw [hx, hy] at hk he
      simp only [Bool.and_eq_true, beq_iff_eq] at hk
      simp only [hk.1.1, hk.1.2, hk.2, and_self, if_true]
      exact veqL_eq hk.2 he h
end
end Cz
