/- The engine, part Z2: contracts that tell new memory (a row, a map). No condition. -/
import Derived.Test.YtjnpmipoenijdaaCzZ
namespace Cz
open Go Go.RowKit
set_option linter.unusedSimpArgs false
set_option linter.unusedVariables false
section
variable {P : Program} {l : List Blk}
theorem Rel.sub {N : Nat} {W0 W : World} {ρ : Nms} {l2 : List Blk} (hR : Rel P N W0 ρ l W) (hl : l2.length = l.length) (h : ∀ (k : Nat) (B' : Blk), l2[k]? = some B' → ∃ B : Blk, l[k]? = some B ∧ SubB B B') : Rel P N W0 ρ l2 W := by
  refine ⟨hR.below, hR.le, fun k hk => hR.out k (by omega), hR.ids, fun k B hB => ?_, ?_, ?_⟩
  · obtain ⟨B0, hB0, hs⟩ := h k B hB
    exact (blk_sub hs (hR.blk k B0 hB0)).1
  · intro k k' B vw vw' a a' hB hw hne hv hv' ha ha'
    obtain ⟨B0, hB0, hs⟩ := h k B hB
    exact hR.sep k k' B0 vw vw' a a' hB0 ((blk_sub hs (hR.blk k B0 hB0)).2 hw) hne hv hv' ha ha'
  · intro k B vw a hB hw hv ha
    obtain ⟨B0, hB0, hs⟩ := h k B hB
    exact hR.own k B0 vw a hB0 ((blk_sub hs (hR.blk k B0 hB0)).2 hw) hv ha
/-- A jump, where less is said of all. -/
theorem jump_less {S : Sy} (hS : S0 P = S) (m : Nat) {cx : Cx} {b : IR} {g : Nat} {e : Env} {vs2 : List SV} {l2 : List Blk} {K : VK} (hcm : Nat.ble cx.m m = true) (hv : SubL e.vs vs2) (hb : SubBs m l l2)
    (hg : gcOk m ⟨vs2, e.mks⟩ l2 = true) (h : S.jump cx b g ⟨vs2, e.mks⟩ l2 K) : S.jump cx b g e l K := by
  subst hS
  have hcm := Nat.le_of_ble_eq_true hcm
  intro c kl hc rest hr N W0 ρ rr ac W hs hro hm
  exact From.mono (h c kl hc rest hr N W0 (res m ρ) rr ac W (hs.less hv hb hg) (hro.le (le_res hcm)) (by rw [hb.at.1]; exact hcm)) fun _ _ _ q => q.le (le_res hcm)
/-! ### A row that takes another one's place -/
def swp (a b j : Nat) : Nat := if j = a then b else if j = b then a else j
theorem swp_swp (a b j : Nat) : swp a b (swp a b j) = j := by
  unfold swp
  split
  · split
    · omega
    · split <;> omega
  · split
    · simp; omega
    · simp [*]
/-- The blocks under their new numbers: plain ones, of which less is said, or dead ones. -/
def SelB (l : List Blk) (g : Nat → Nat) : Nat → List Blk → Prop
  | _, [] => True
  | j, B2 :: r => (B2 = .dead ∨ (SubB (lget l (g j)) B2 ∧ plainB B2 = true ∧ g j < len l)) ∧ SelB l g (j + 1) r
theorem SelB.at {l : List Blk} {g : Nat → Nat} : ∀ {l2 : List Blk} {i : Nat}, SelB l g i l2 → ∀ j B2, l2[j]? = some B2 → B2 = .dead ∨ ∃ B, l[g (i + j)]? = some B ∧ SubB B B2 ∧ plainB B2 = true
  | [], _, _, j, B2, h => by simp at h
  | C :: r, i, hs, 0, B2, h => by
    simp only [List.getElem?_cons_zero, Option.some.injEq] at h; subst h
    rcases hs.1 with h1 | ⟨h1, h2, h3⟩
    · exact .inl h1
    · rw [len_eq] at h3
      refine .inr ⟨l[g i], List.getElem?_eq_getElem h3, ?_, h2⟩
      rwa [lget_eq, List.getD_eq_getElem?_getD, List.getElem?_eq_getElem h3] at h1
  | C :: r, i, hs, j + 1, B2, h => by
    have := SelB.at hs.2 j B2 (by simpa using h)
    rw [show i + (j + 1) = i + 1 + j by omega]; exact this
mutual
theorem refsB_all : ∀ (x : SV), refsB (fun _ => true) x = true
  | .tt => rfl
  | .ff => rfl
  | .b _ => rfl
  | .i _ _ => rfl
  | .s _ => rfl
  | .p _ _ => rfl
  | .pe _ _ _ _ => rfl
  | .sl _ _ _ _ _ => rfl
  | .ag cs => by simp only [refsB]; exact refsBL_all cs
  | .tp cs => by simp only [refsB]; exact refsBL_all cs
  | .fn _ a c => by simp only [refsB, refsBL_all a, refsBL_all c, Bool.and_self]
  | .yl _ => rfl
  | .m _ => rfl
  | .re _ => rfl
  | .un => rfl
  | .any => rfl
theorem refsBL_all : ∀ (xs : List SV), refsBL (fun _ => true) xs = true
  | [] => rfl
  | x :: xs => by simp only [refsBL, refsB_all x, refsBL_all xs, Bool.and_self]
end
theorem renL_get (g : Nat → Nat) : ∀ (xs : List SV) (q : Nat), (renL g xs)[q]? = (xs[q]?).map (ren g)
  | [], q => by simp [renL]
  | x :: xs, 0 => by simp [renL]
  | x :: xs, q + 1 => by simp [renL, renL_get g xs q]
theorem refsBL_get {ok : Nat → Bool} : ∀ {xs : List SV} {q : Nat} {x : SV}, refsBL ok xs = true → xs[q]? = some x → refsB ok x = true
  | [], _, _, _, hx => by simp at hx
  | y :: ys, 0, x, hr, hx => by
    simp only [List.getElem?_cons_zero, Option.some.injEq] at hx; subst hx
    simp only [refsBL, Bool.and_eq_true] at hr; exact hr.1
  | y :: ys, q + 1, x, hr, hx => by
    simp only [refsBL, Bool.and_eq_true] at hr
    exact refsBL_get hr.2 (by simpa using hx)
theorem low_lt {m k : Nat} (h : low m k = true) : k < m := Nat.le_of_ble_eq_true (by simpa [low, Nat.blt] using h)
theorem St.swap {N : Nat} {W0 W : World} {ρ : Nms} {m : Nat} {e : Env} {vs2 : List SV} {l2 : List Blk} {a : Act} {g : Nat → Nat} (hg : ∀ j, g (g j) = j) (h : St P N W0 ρ e l a W) (hmk : e.mks = [])
    (hv : SubL (renL g e.vs) vs2) (hr : refsBL (low m) vs2 = true) (hl : l2.length = m) (hb : SelB l g 0 l2) : St P N W0 (res m (fun j => ρ (g j))) ⟨vs2, e.mks⟩ l2 a W := by
  have hR := h.rel
  have hinj : ∀ {i j : Nat}, g i = g j → i = j := fun {i j} e => by rw [← hg i, ← hg j, e]
  have hmem : ∀ {k : Nat} {vw : View}, vw ∈ res m (fun j => ρ (g j)) k → vw ∈ ρ (g k) := by
    intro k vw hv
    unfold res at hv
    split at hv
    · exact hv
    · cases hv
  have hat := fun j B2 h => by have := hb.at j B2 h; rwa [Nat.zero_add] at this
  refine ⟨⟨hR.below, hR.le, fun k hk => ?_, fun k vw a hv ha => hR.ids _ vw a (hmem hv) ha, fun k B2 hB => ?_, ?_, ?_⟩, ?_, ?_⟩
  · simp only [res]; rw [if_neg (by omega)]
  · have hkm : k < m := by have := (List.getElem?_eq_some_iff.1 hB).1; omega
    rcases hat k B2 hB with rfl | ⟨B, h1, h2, h3⟩
    · exact trivial
    · exact (blk_sub h2 (hR.blk _ B h1)).1.move h3 (Nat.le_refl _) (by simp only [res]; rw [if_pos hkm])
  · intro k k' B2 vw vw' a a' hB hw hne hv hv' ha ha'
    rcases hat k B2 hB with rfl | ⟨B, h1, h2, h3⟩
    · simp [Blk.wr] at hw
    · exact hR.sep _ _ B vw vw' a a' h1 ((blk_sub h2 (hR.blk _ B h1)).2 hw) (fun e => hne (hinj e)) (hmem hv) (hmem hv') ha ha'
  · intro k B2 vw a hB hw hv ha
    rcases hat k B2 hB with rfl | ⟨B, h1, h2, h3⟩
    · simp [Blk.wr] at hw
    · exact hR.own _ B vw a h1 ((blk_sub h2 (hR.blk _ B h1)).2 hw) (hmem hv) ha
  · intro q x2 hx
    obtain ⟨x', hx', hd⟩ := hv.fsub.2 q x2 hx
    rw [renL_get, Option.map_eq_some_iff] at hx'
    obtain ⟨x, hx0, rfl⟩ := hx'
    obtain ⟨v, hv1, d⟩ := h.env q x hx0
    refine ⟨v, hv1, ?_⟩
    have d2 : den (fun j => ρ (g j)) (ren g x) v := den_ren (ok := fun _ => true) (fun k _ vw hvw => by show vw ∈ ρ (g (g k)); rw [hg]; exact hvw) x v (refsB_all x) d
    have d3 := hd _ _ d2
    have hx2 : refsB (low m) x2 = true := refsBL_get hr hx
    have := den_ren (ok := low m) (f := id) (ρ := fun j => ρ (g j)) (ρ' := res m (fun j => ρ (g j))) (fun k hk vw hvw => by
      have hkm := low_lt hk
      simp only [id, res]; rw [if_pos hkm]; exact hvw) x2 v hx2 d3
    rwa [ren_id] at this
  · rw [hmk]
    have := h.mks
    rw [hmk] at this
    cases ha : a.defers with
    | nil => trivial
    | cons => rw [ha] at this; exact this.elim
/-- A round's end: rows may have taken others' places. -/
def En3 {α : Type} (m : Nat) (ds : List Nat) (ok : α → Prop) (ups : α → List (Nat × SV)) (bups : α → List (Nat × Blk)) (e0 : Env) (l0 : List Blk) (a : α) (g : Nat → Nat) (e : Env) (l : List Blk) : Prop :=
  ok a ∧ e.mks = [] ∧ SubL (renL g e.vs) (slots (ups a) (puts e0.vs ds .any)) ∧ SelB l g 0 (setBs (bups a) (takeB m l0)) ∧ gcOk m ⟨slots (ups a) (puts e0.vs ds .any), []⟩ (setBs (bups a) (takeB m l0)) = true
theorem En3.st {N : Nat} {W0 W : World} {ρ : Nms} {α : Type} {m : Nat} {ds : List Nat} {ok : α → Prop} {ups : α → List (Nat × SV)} {bups : α → List (Nat × Blk)} {e0 : Env} {l0 : List Blk} {a : α} {g : Nat → Nat} {e : Env} {ac : Act}
    (hg : ∀ j, g (g j) = j) (h : En3 m ds ok ups bups e0 l0 a g e l) (hm0 : e0.mks = []) (hlen : (setBs (bups a) (takeB m l0)).length = m) (hs : St P N W0 ρ e l ac W) :
    St P N W0 (res m (fun j => ρ (g j))) ⟨slots (ups a) (puts e0.vs ds .any), e0.mks⟩ (setBs (bups a) (takeB m l0)) ac W := by
  obtain ⟨_, h1, h2, h3, h4⟩ := h
  have := hs.swap hg h1 h2 (by simp only [gcOk, Bool.and_eq_true] at h4; exact h4.1.1.2) hlen h3
  rwa [h1, ← hm0] at this
/-- A loop: what turns, all else stays; rows may take others' places. -/
theorem s_loop_ren {S : Sy} {α : Type} (hS : S0 P = S) (m : Nat) (ds : List Nat) (ok : α → Prop) (ups : α → List (Nat × SV)) (bups : α → List (Nat × Blk)) (μ : α → Nat) (a0 : α) {cx : Cx} {b : IR} {K : VK}
    {e : Env} {l : List Blk} (hcm : Nat.ble cx.m m = true) (hm0 : e.mks = []) (hlen : ∀ a, (setBs (bups a) (takeB m l)).length = m) (h0 : En2 m ds ok ups bups e l a0 e l)
    (step : ∀ a, ok a → vc S cx b (seqK (fun _ e' l' => ∃ a' i j, cx.m ≤ i ∧ cx.m ≤ j ∧ μ a' < μ a ∧ En3 m ds ok ups bups e l a' (swp i j) e' l') K) ⟨slots (ups a) (puts e.vs ds .any), e.mks⟩ (setBs (bups a) (takeB m l))) : S.loop cx b e l K := by
  subst hS
  have hcm := Nat.le_of_ble_eq_true hcm
  have main : ∀ n a, μ a = n → ok a → ∀ c kl, conv P kl c = some b → WP P cx (.loop c) K ⟨slots (ups a) (puts e.vs ds .any), e.mks⟩ (setBs (bups a) (takeB m l)) := by
    intro n
    induction n using Nat.strongRecOn with
    | ind n ih =>
      intro a hn ha c kl hc N W0 ρ rr ac W hs hr hm
      refine wp_loop (Wp.mono (vc_sound c hc (step a ha) N W0 ρ rr ac W hs hr hm) ?_)
      rintro ex a' w' ⟨ρ', e', l', hK, hle, hm', hs'⟩
      cases ex with
      | normal =>
        obtain ⟨a2, i, j, hi, hj, hlt, hE⟩ := hK
        have hle2 : Le cx.m ρ (res m (fun q => ρ' (swp i j q))) := by
          intro k hk vw hv
          have hf : swp i j k = k := by unfold swp; rw [if_neg (by omega), if_neg (by omega)]
          simp only [res]; rw [if_pos (by omega), hf]
          exact hle k hk vw hv
        exact Wp.mono (ih (μ a2) (by omega) a2 rfl hE.1 c kl hc N W0 _ rr a' w' (hE.st (swp_swp i j) hm0 (hlen a2) hs') (hr.le hle2) (by rw [hlen]; omega)) fun _ _ _ q => q.le hle2
      | exit id => exact ⟨ρ', e', l', hK, hle, hm', hs'⟩
      | goto g => exact ⟨ρ', e', l', hK, hle, hm', hs'⟩
      | ret => exact ⟨ρ', e', l', hK, hle, hm', hs'⟩
  intro c kl hc N W0 ρ rr a W hs hr hm
  exact Wp.mono (main _ a0 rfl h0.1 c kl hc N W0 (res m ρ) rr a W (h0.st hs) (hr.le (le_res hcm)) (by rw [hlen]; omega)) fun _ _ _ q => q.le (le_res hcm)
/-- A result that begins with a row: alone, or the first of some. -/
def mkT (con : Bool) (vs : List SV) (y : SV) : SV := match con with
  | true => .tp (y :: vs)
  | false => y
def RowIs (n0 : Nat) (sz : Nat) (F : List SV) (y : SV) (l' : List Blk) : Prop :=
  (y = .re (.slice none 0 0) ∧ F = []) ∨ ∃ k n lit st F', n0 ≤ k ∧ y = .sl k sz (.l 0) n none ∧ l'[k]? = some (.r false lit st sz F') ∧ FSub F' F ∧ plains F' = true ∧ n.v * sz = F.length
def OwnR (n0 : Nat) (sz : Nat) (F : List SV) (con : Bool) (vs : List SV) (x : SV) (l' : List Blk) : Prop := ∃ y, Sub x (mkT con vs y) ∧ RowIs n0 sz F y l'
theorem den_mkT {ρ ρ' : Nms} {con : Bool} {vs : List SV} {y y' : SV} {v : Value} (hy : ∀ u, den ρ y u → den ρ' y' u) (hv : ∀ us, denL ρ vs us → denL ρ' vs us) (h : den ρ (mkT con vs y) v) : den ρ' (mkT con vs y') v := by
  cases con
  · exact hy _ h
  · simp only [mkT, den] at h ⊢
    obtain ⟨⟨us⟩, e, d⟩ := h
    match us, d with
    | u :: us, d =>
      simp only [denL] at d
      exact ⟨⟨u :: us⟩, e, by simp only [denL]; exact ⟨hy _ d.1, hv _ d.2⟩⟩
theorem denL_noref {ρ ρ' : Nms} {vs : List SV} (hr : refsBL (fun _ => false) vs = true) (us : List Value) (h : denL ρ vs us) : denL ρ' vs us := by
  have := denL_ren (ok := fun _ => false) (f := id) (ρ := ρ) (ρ' := ρ') (fun _ h => by cases h) vs us hr h
  rwa [renL_id] at this
/-- A contract used: a row that is new. -/
theorem use_own {S : Sy} (hS : S0 P = S) {g : FuncId} {args args0 : List SV} {l0 : List Blk} {sz : Nat} {F : List SV} {con : Bool} {vs : List SV} {K : SV → List Blk → Prop} (f : Nat → Nat)
    (hF : (S0 P).call g args0 l0 (OwnR l0.length sz F con vs)) (ha : SubL args (renL f args0))
    (hrefs : refsBL (fun k => decide (k < l0.length)) args0 = true) (hread : Rds l f 0 l0) (hsz : 0 < sz) (hp : plains F = true) (hvs : refsBL (fun _ => false) vs = true)
    {n : Int} (hn : n * sz = F.length) (hK : ∀ st, K (mkT con vs (.sl (len l) sz (.l 0) (.y n) none)) (snoc l (.r false false (.y st) sz F))) : S.call g args l K := by
  subst hS
  have h1 : (S0 P).call g args0 l0 (fun x l' => ∃ y, x = mkT con vs y ∧ RowIs l0.length sz F y l') := call_post hF fun x l' ⟨y, hs, hr⟩ => ⟨_, hs, y, rfl, hr⟩
  have h2 : (S0 P).call g (renL f args0) l (fun x l' => (x = mkT con vs (.re (.slice none 0 0)) ∧ F = [] ∧ l' = l) ∨
      ∃ n lit st F', x = mkT con vs (.sl l.length sz (.l 0) n none) ∧ l' = l ++ [.r false lit st sz F'] ∧ FSub F' F ∧ n.v * sz = F.length) := by
    refine call_frame h1 f rfl hrefs (fun j B h => by have := hread.at j B h; simpa using this) ?_
    rintro x l' ⟨y, rfl, ⟨rfl, hF0⟩ | ⟨k, n, lit, st, F', hk, rfl, hB, hs, hp', hn⟩⟩
    · refine ⟨[], id, List.nodup_nil, by simp, ?_, .inl ⟨?_, hF0, by simp⟩⟩
      · cases con
        · rfl
        · simp only [mkT, refsB, refsBL, Bool.true_and]; exact refsBL_mono (fun _ h => by cases h) _ hvs
      · cases con
        · rfl
        · simp only [mkT, ren, renL]; rw [renL_noref _ _ hvs]
    · refine ⟨[k], fun _ => 0, by simp, ?_, ?_, .inr ⟨n, lit, st, F', ?_, ?_, hs, hn⟩⟩
      · intro j hj
        rw [List.mem_singleton] at hj; subst hj
        exact ⟨hk, _, hB, rfl, hp'⟩
      · cases con
        · simp [mkT, refsB]
        · simp only [mkT, refsB, refsBL, Bool.and_eq_true]
          exact ⟨by simp, refsBL_mono (fun _ h => by cases h) _ hvs⟩
      · cases con
        · simp [mkT, ren]
        · simp only [mkT, ren, renL]; rw [renL_noref _ _ hvs]; simp
      · simp only [List.map_cons, List.map_nil]
        rw [lget_eq, List.getD_eq_getElem?_getD, hB]; rfl
  intro N W0 ρ W vals hR hd
  refine NextR.mono ?_ (h2 N W0 ρ W vals hR (ha.den hd))
  rintro v W' ⟨ρ', sv, l', hk, hle, hll, hR2, hdv⟩
  rcases hk with ⟨rfl, hF0, hl'⟩ | ⟨n', lit, st, F', rfl, rfl, hs, hn'⟩
  · rw [hl'] at hR2 hll
    clear hl'
    subst hF0
    have hn0 : n = 0 := by
      have : n * sz = 0 := by simpa using hn
      rcases Int.mul_eq_zero.1 this with h | h
      · exact h
      · omega
    subst hn0
    have hR3 := hR2.ghost false hsz
    have hR4 : Rel P N W0 (upd ρ' l.length [⟨none, 0, 0⟩]) (snoc l (.r false false (.y 0) sz [])) W' := by
      rw [snoc_eq]
      refine hR3.sub (by simp) fun k B' hB => ?_
      rcases Nat.lt_or_ge k l.length with hlt | hge
      · rw [List.getElem?_append_left hlt] at hB
        exact ⟨B', by rw [List.getElem?_append_left hlt]; exact hB, .rfl⟩
      · rw [List.getElem?_append_right hge] at hB
        have e : k = l.length := by
          have := (List.getElem?_eq_some_iff.1 hB).1; simp at this; omega
        subst e
        simp only [Nat.sub_self, List.getElem?_cons_zero, Option.some.injEq] at hB
        subst hB
        exact ⟨.r false true (.l 0) sz [], by rw [List.getElem?_append_right (Nat.le_refl _), Nat.sub_self]; rfl, .r .rfl rfl rfl⟩
    refine ⟨_, _, _, hK 0, hle.trans (le_ghost hll), by rw [snoc_eq]; simp, hR4, den_mkT (fun u hu => ?_) (denL_noref hvs) hdv⟩
    simp only [den] at hu
    rw [hu.1]
    have := den_nilRow (l := l) (sz := sz) (ρ := upd ρ' l.length [⟨none, 0, 0⟩]) (by rw [upd_same]; simp)
    simpa [nilRow, den, Z.v] using this
  · have hn2 : n'.v = n := by
      have : n'.v * sz = n * sz := by rw [hn', hn]
      exact Int.eq_of_mul_eq_mul_right (by omega) this
    refine ⟨ρ', _, _, hK st.v, hle, by rw [snoc_eq]; simp, ?_, ?_⟩
    · rw [snoc_eq]
      refine hR2.sub (by simp) fun k B' hB => ?_
      rcases Nat.lt_or_ge k l.length with hlt | hge
      · rw [List.getElem?_append_left hlt] at hB
        exact ⟨B', by rw [List.getElem?_append_left hlt]; exact hB, .rfl⟩
      · rw [List.getElem?_append_right hge] at hB
        have e : k = l.length := by
          have := (List.getElem?_eq_some_iff.1 hB).1; simp at this; omega
        subst e
        simp only [Nat.sub_self, List.getElem?_cons_zero, Option.some.injEq] at hB
        subst hB
        exact ⟨.r false lit st sz F', by rw [List.getElem?_append_right (Nat.le_refl _), Nat.sub_self]; rfl, .r hs rfl hp⟩
    · rw [len_eq]
      exact den_mkT (fun u hu => (sub_sl rfl (by simpa [Z.v] using hn2)).of _ _ hu) (denL_noref hvs) hdv
def MapIs (n0 : Nat) (es : List (SV × SV)) (x : SV) (l' : List Blk) : Prop := ∃ k es', n0 ≤ k ∧ x = .m k ∧ l'[k]? = some (.m es') ∧ SubM es' es ∧ norefM es' = true
/-- A contract used: a map that is new. -/
theorem use_map {S : Sy} (hS : S0 P = S) {g : FuncId} {args args0 : List SV} {l0 : List Blk} {es : List (SV × SV)} {K : SV → List Blk → Prop} (f : Nat → Nat)
    (hF : (S0 P).call g args0 l0 (MapIs l0.length es)) (ha : SubL args (renL f args0))
    (hrefs : refsBL (fun k => decide (k < l0.length)) args0 = true) (hread : Rds l f 0 l0) (hK : K (.m (len l)) (snoc l (.m es))) : S.call g args l K := by
  subst hS
  have h2 : (S0 P).call g (renL f args0) l (fun x l' => ∃ es', x = .m l.length ∧ l' = l ++ [.m es'] ∧ SubM es' es) := by
    refine call_frame hF f rfl hrefs (fun j B h => by have := hread.at j B h; simpa using this) ?_
    rintro x l' ⟨k, es', hk, rfl, hB, hs, hp'⟩
    refine ⟨[k], fun _ => 0, by simp, ?_, by simp [refsB], es', by simp [ren], ?_, hs⟩
    · intro j hj
      rw [List.mem_singleton] at hj; subst hj
      exact ⟨hk, _, hB, rfl, hp'⟩
    · simp only [List.map_cons, List.map_nil]
      rw [lget_eq, List.getD_eq_getElem?_getD, hB]; rfl
  intro N W0 ρ W vals hR hd
  refine NextR.mono ?_ (h2 N W0 ρ W vals hR (ha.den hd))
  rintro v W' ⟨ρ', sv, l', ⟨es', rfl, rfl, hs⟩, hle, hll, hR2, hdv⟩
  refine ⟨ρ', _, _, hK, hle, by rw [snoc_eq]; simp, ?_, by rw [len_eq]; exact hdv⟩
  rw [snoc_eq]
  refine hR2.sub (by simp) fun k B' hB => ?_
  rcases Nat.lt_or_ge k l.length with hlt | hge
  · rw [List.getElem?_append_left hlt] at hB
    exact ⟨B', by rw [List.getElem?_append_left hlt]; exact hB, .rfl⟩
  · rw [List.getElem?_append_right hge] at hB
    have e : k = l.length := by
      have := (List.getElem?_eq_some_iff.1 hB).1; simp at this; omega
    subst e
    simp only [Nat.sub_self, List.getElem?_cons_zero, Option.some.injEq] at hB
    subst hB
    exact ⟨_, by rw [List.getElem?_append_right (Nat.le_refl _), Nat.sub_self]; rfl, .m hs⟩
end
end Cz
