/- The engine, part O: rules for the open parts: functions entered in place, loops by what stays, jumps. No condition. -/
import Derived.Test.YtjnpmipoenijdaaCzN
namespace Cz
open Go Go.RowKit
set_option linter.unusedSimpArgs false
set_option linter.unusedVariables false

/-! ### A function's end -/
inductive RV where
  | t (n : Nat)
  | c (n : Nat) (agg : Bool) (sz : Nat)

def cRV (P : Program) : ResultVar → Option RV
  | .tmp t => some (.t t)
  | .cell a t => do
    let g ← aggOf P t
    let n ← szOf P t
    pure (.c a g n)

def vres (S : Sy) (vs : List SV) (l : List Blk) : List RV → (List SV → Prop) → Prop
  | [], K => K []
  | .t n :: r, K => vres S vs l r fun xs => K (nth vs n :: xs)
  | .c n agg sz :: r, K => vload S l agg sz (nth vs n) fun v => vres S vs l r fun xs => K (v :: xs)
def oneV : List SV → SV
  | [x] => x
  | xs => .tp xs
def vtake : List Nat → List Blk → (List Blk → Prop) → Prop
  | [], l, K => K l
  | k :: ms, l, K => match lget l k with
    | .df => vtake ms (lset l k .dead) K
    | _ => False
def vret (S : Sy) (rs : List RV) (K : SV → List Blk → Prop) : VK := fun ex e l =>
  match ex with
  | .normal | .ret => vtake e.mks l fun l' => vres S e.vs l' rs fun xs => K (oneV xs) l'
  | _ => False
def repU : Nat → List SV
  | 0 => []
  | n + 1 => .any :: repU n

/-- What function g is. -/
def FnIs (P : Program) (g : FuncId) (n : Nat) (rs : List RV) (ir : IR) : Prop :=
  ∃ fn c kl, P.funcs[g]? = some fn ∧ fn.body = some c ∧ fn.ntmps = n ∧ conv P kl c = some ir ∧ fn.results.toList.mapM (cRV P) = some rs ∧
    ∀ args w, (callFunc g args).run P w = .ok (.enter g args) w

section
variable {P : Program} {N : Nat} {W0 W : World} {ρ : Nms} {l : List Blk} {vs : List SV}

theorem run_asAddr {a : Addr} : (asAddr (.pointer (some a))).run P W = .ok a W := by simp [asAddr, pure]

def resSem (t : Array Value) (r : ResultVar) : Sem Value :=
  match r with
  | .tmp q => pure (t.getD q undef)
  | .cell a ty => do loadVar ty (← asAddr (t.getD a undef))

theorem result_ok {rv : ResultVar} {r : RV} {t : Array Value} {K : SV → Prop} (hc : cRV P rv = some r) (hR : Rel P N W0 ρ l W) (hE : EnvOk ρ vs t)
    (h : match r with | .t n => K (nth vs n) | .c n agg sz => vload (S0 P) l agg sz (nth vs n) K) :
    ∃ v sv, (resSem t rv).run P W = .ok v W ∧ K sv ∧ den ρ sv v := by
  have hev : ∀ n, den ρ (nth vs n) (t.getD n undef) := fun n => by
    have := ev_ok (a := { tmps := t, defers := [] }) (x := .tmp n) (x' := .t n) hE rfl
    simpa [ev, Act.eval] using this
  cases rv with
  | tmp q =>
    simp only [cRV, Option.some.injEq] at hc; subst hc
    exact ⟨_, _, rfl, h, hev q⟩
  | cell a ty =>
    simp only [cRV, Option.bind_eq_bind, Option.bind_eq_some_iff, Option.pure_def, Option.some.injEq] at hc
    obtain ⟨g, hg, n, hn, rfl⟩ := hc
    obtain ⟨u, sv, hu, hK, hd⟩ := load_ok hg hn hR h (hev a)
    refine ⟨u, sv, ?_, hK, hd⟩
    have hadd : ∃ k o, nth vs a = .p k o ∨ ∃ i sz j, nth vs a = .pe k i sz j := by
      simp only at h
      unfold vload at h
      split at h
      · rename_i hx; exact ⟨_, _, .inl hx⟩
      · rename_i hx; exact ⟨_, 0, .inr ⟨_, _, _, hx⟩⟩
      · exact h.elim
    have hp := hev a
    have : ∃ ad : Addr, t.getD a undef = .pointer (some ad) := by
      obtain ⟨k, o, hx | ⟨i, sz, j, hx⟩⟩ := hadd
      · rw [hx] at hp; simp only [den] at hp; obtain ⟨_, _, _, _, e⟩ := hp; exact ⟨_, e⟩
      · rw [hx] at hp; simp only [den] at hp; obtain ⟨_, _, _, _, _, _, e⟩ := hp; exact ⟨_, e⟩
    obtain ⟨ad, had⟩ := this
    rw [had] at hu
    simp only [resSem, had]
    simpa [Instr.loadAt, Instr.sureAddr, asAddr] using hu

theorem results_ok {t : Array Value} (hR : Rel P N W0 ρ l W) (hE : EnvOk ρ vs t) : ∀ (rvs : List ResultVar) (rs : List RV) (K : List SV → Prop),
    rvs.mapM (cRV P) = some rs → vres (S0 P) vs l rs K →
    ∃ us xs, (rvs.mapM (resSem t)).run P W = .ok us W ∧ K xs ∧ denL ρ xs us
  | [], rs, K, hc, h => by
    simp at hc; subst hc
    exact ⟨[], [], rfl, h, by simp [denL]⟩
  | rv :: rvs, rs, K, hc, h => by
    simp only [List.mapM_cons, Option.bind_eq_bind, Option.bind_eq_some_iff, Option.pure_def, Option.some.injEq] at hc
    obtain ⟨r, hr, rs', hrs, rfl⟩ := hc
    obtain ⟨v, sv, hv, hK, hd⟩ := result_ok (K := fun v => vres (S0 P) vs l rs' fun xs => K (v :: xs)) hr hR hE (by cases r <;> exact h)
    obtain ⟨us, xs, hus, hK2, hd2⟩ := results_ok hR hE rvs rs' _ hrs hK
    refine ⟨v :: us, sv :: xs, ?_, hK2, by simp only [denL]; exact ⟨hd, hd2⟩⟩
    simp only [List.mapM_cons, Sem.run_bind, hv, Result.andThen_ok, hus]
    rfl

theorem ret_ok {fn : Func} {rs : List RV} {t : Array Value} {K : SV → Prop} (hc : fn.results.toList.mapM (cRV P) = some rs) (hR : Rel P N W0 ρ l W) (hE : EnvOk ρ vs t)
    (h : vres (S0 P) vs l rs fun xs => K (oneV xs)) : ∃ v sv, (results fn t).run P W = .ok v W ∧ K sv ∧ den ρ sv v := by
  obtain ⟨us, xs, hus, hK, hd⟩ := results_ok hR hE _ _ _ hc h
  have hl := denL_length hd
  have e : (results fn t).run P W = .ok (if h : us.toArray.size = 1 then us.toArray[0] else .tuple us.toArray) W := by
    have e0 : results fn t = (do let vs ← fn.results.mapM (resSem t); pure (if h : vs.size = 1 then vs[0] else .tuple vs)) := rfl
    rw [e0, Array.mapM_eq_mapM_toList]
    simp only [Sem.run_bind, map_eq_pure_bind, hus]
    rfl
  refine ⟨_, _, e, hK, ?_⟩
  match us, xs, hl, hd with
  | [u], [x], _, hd => simpa [oneV, denL] using hd
  | [], [], _, hd => simp [oneV, den, denL]
  | u :: u' :: us, x :: x' :: xs, _, hd =>
    simp only [oneV, den]
    exact ⟨(u :: u' :: us).toArray, by simp, by simpa using hd⟩

theorem take_ok : ∀ (mks : List Nat) (ds : List Deferred) (l : List Blk) (W : World) (K : List Blk → Prop), vtake mks l K → MkOk ρ mks ds → Rel P N W0 ρ l W →
    ∃ ms W' l', ds = ms.map mark ∧ Taken ms W W' ∧ Rel P N W0 ρ l' W' ∧ K l' ∧ l'.length = l.length
  | [], [], l, W, K, h, _, hR => ⟨[], W, l, rfl, rfl, hR, h, rfl⟩
  | [], _ :: _, _, _, _, _, hM, _ => hM.elim
  | _ :: _, [], _, _, _, _, hM, _ => hM.elim
  | k :: mks, d :: ds, l, W, K, h, ⟨⟨vw, hvw, b, hb, hd⟩, hM⟩, hR => by
    simp only [vtake] at h
    split at h
    · rename_i hl
      have hkB := lget_some hl (by simp)
      obtain ⟨b', ⟨e1, hN⟩, hh⟩ := hR.blk k _ hkB
      rw [e1, List.mem_singleton] at hvw
      subst hvw
      simp at hb; subst hb
      have hup : upd ρ k (ρ k) = ρ := by
        funext j
        by_cases hj : j = k
        · subst hj; exact upd_same
        · exact upd_other hj
      have hlt := lt_of_heap hh
      have hR' : Rel P N W0 ρ (lset l k .dead) (setO W b' (.deferred none)) := by
        rw [lset_eq, ← hup]
        refine hR.turn hkB rfl ?_ (by rw [setO_size]; exact Nat.le_refl _) ?_ (fun _ hv => hv) ?_ trivial
        · exact hR.below.trans ⟨rfl, rfl, rfl, by rw [setO_size]; exact Nat.le_refl _, fun j hj => setO_other (by omega)⟩
        · intro i _ hi
          exact setO_other (fun hib => hi _ (by rw [e1]; exact List.mem_singleton.2 rfl) _ rfl hib.symm)
        · intro vw hvw' a' ha'
          exact ⟨by rw [setO_size]; exact hR.ids k vw a' hvw' ha', .inr ⟨vw, hvw', a', ha', rfl⟩⟩
      obtain ⟨ms, W', l', e2, ht, hR2, hK, hlen⟩ := take_ok mks ds _ _ K h hM hR'
      exact ⟨b' :: ms, W', l', by rw [hd, e2]; rfl, ⟨hh, ht⟩, hR2, hK, by rw [hlen, lset_eq]; simp⟩
    · exact h.elim

theorem repU_eq : ∀ n, repU n = List.replicate n .any
  | 0 => rfl
  | n + 1 => by simp [repU, repU_eq n, List.replicate_succ]

/-- A function's slots as it is entered. -/
theorem env_enter {args : List SV} {vals : Array Value} (n : Nat) (hd : denL ρ args vals.toList) :
    EnvOk ρ (catS args (repU (n - lenS args))) (vals ++ Array.replicate (n - vals.size) undef) := by
  have hl : args.length = vals.size := by simpa using denL_length hd
  rw [catS_eq, repU_eq, lenS_eq]
  intro q x hx
  rcases Nat.lt_or_ge q args.length with h1 | h1
  · rw [List.getElem?_append_left h1] at hx
    obtain ⟨v, hv, d⟩ := denL_get q x hd hx
    refine ⟨v, ?_, d⟩
    rw [Array.getElem?_append_left (by omega), ← Array.getElem?_toList]; exact hv
  · rw [List.getElem?_append_right h1] at hx
    have hx' := hx
    rw [List.getElem?_replicate] at hx
    split at hx
    · simp at hx; subst hx
      refine ⟨undef, ?_, by simp [den]⟩
      rw [Array.getElem?_append_right (by omega), Array.getElem?_replicate, if_pos (by omega)]
    · cases hx

/-- A function's body, in the heap as it is. -/
theorem body_ok {g n : Nat} {rs : List RV} {ir : IR} {args : List SV} {K : SV → List Blk → Prop} (hF : FnIs P g n rs ir)
    (h : vc (S0 P) ⟨none, len l⟩ ir (vret (S0 P) rs K) ⟨catS args (repU (n - lenS args)), []⟩ l) :
    ∀ N W0 ρ W (vals : Array Value), Rel P N W0 ρ l W → denL ρ args vals.toList → Calls P g vals W fun e W' => ∃ v, e = .returned v ∧ OpPost P N W0 ρ l K v W' := by
  intro N W0 ρ W vals hR hd
  obtain ⟨fn, c, kl, hf, hb, rfl, hc, hr, hg⟩ := hF
  refine calls_of_wp hf hb (Wp.mono (vc_sound c hc h N W0 ρ none _ W ⟨hR, env_enter _ hd, trivial⟩ rfl (by rw [len_eq]; exact Nat.le_refl _)) ?_)
  rintro ex a w ⟨ρ', e', l', hK, hle, hm, hs⟩
  simp only [len_eq] at hle hm
  have fin : vtake e'.mks l' (fun l' => vres (S0 P) e'.vs l' rs fun xs => K (oneV xs) l') → (ex = .normal ∨ ex = .ret) → RetOk P fn (fun e W' => ∃ v, e = .returned v ∧ OpPost P N W0 ρ l K v W') ex a w := by
    intro h he
    obtain ⟨ms, W', l'', e2, ht, hR2, hK2, hlen⟩ := take_ok _ _ _ _ _ h hs.mks hs.rel
    obtain ⟨v, sv, hv, hK3, hdv⟩ := ret_ok (K := fun sv => K sv l'') hr hR2 hs.env hK2
    exact ⟨he, ms, W', v, e2, ht, hv, v, rfl, ρ', sv, l'', hK3, hle, by omega, hR2, hdv⟩
  cases ex with
  | normal => exact fin hK (.inl rfl)
  | ret => exact fin hK (.inr rfl)
  | exit id => exact hK.elim
  | goto g => exact hK.elim

theorem call_in {g n : Nat} {rs : List RV} {ir : IR} {args : List SV} {K : SV → List Blk → Prop} (hF : FnIs P g n rs ir)
    (h : vc (S0 P) ⟨none, len l⟩ ir (vret (S0 P) rs K) ⟨catS args (repU (n - lenS args)), []⟩ l) : (S0 P).call g args l K := by
  intro N W0 ρ W vals hR hd
  have hb := body_ok hF h N W0 ρ W vals hR hd
  obtain ⟨fn, c, kl, hf, _, _, hc, hr, hg⟩ := hF
  rw [hg]
  exact hb

theorem rfc_in {g n : Nat} {rs : List RV} {ir : IR} {args : List SV} {K : SV → List Blk → Prop} (hF : FnIs P g n rs ir)
    (h : vc (S0 P) ⟨none, len l⟩ ir (vret (S0 P) rs K) ⟨catS args (repU (n - lenS args)), []⟩ l) : (S0 P).rfc g args l K :=
  ⟨let ⟨_, _, _, _, _, _, _, _, hg⟩ := hF; hg, body_ok hF h⟩

/-! ### Loops -/
/-- The slots ds forgotten. -/
def Env.forget (e : Env) (ds : List Nat) : Env := ⟨puts e.vs ds .any, e.mks⟩

theorem loop_inv (ds : List Nat) (I : Nat → Env → List Blk → Prop) {cx : Cx} {b : IR} {K : VK}
    (step : ∀ n e l, I n e l → vc (S0 P) cx b (fun ex e' l' => match ex with | .normal => ∃ n', n' < n ∧ I n' (e'.forget ds) l' | ex => K ex e' l') e l)
    (n : Nat) {e : Env} {l : List Blk} (h : I n (e.forget ds) l) : (S0 P).loop cx b e l K := by
  have main : ∀ n e l, I n e l → ∀ c kl, conv P kl c = some b → WP P cx (.loop c) K e l := by
    intro n
    induction n using Nat.strongRecOn with
    | ind n ih =>
      intro e l h c kl hc N W0 ρ rr a W hs hr hm
      refine wp_loop (Wp.mono (vc_sound c hc (step n e l h) N W0 ρ rr a W hs hr hm) ?_)
      rintro ex a' w' ⟨ρ', e', l', hK, hle, hm', hs'⟩
      cases ex with
      | normal =>
        obtain ⟨n', hn, hI⟩ := hK
        exact Wp.mono (ih n' hn _ _ hI c kl hc N W0 ρ' rr a' w' ⟨hs'.rel, hs'.env.kill ds, hs'.mks⟩ (hr.le hle) hm') fun _ _ _ q => q.le hle
      | exit id => exact ⟨ρ', e', l', hK, hle, hm', hs'⟩
      | goto g => exact ⟨ρ', e', l', hK, hle, hm', hs'⟩
      | ret => exact ⟨ρ', e', l', hK, hle, hm', hs'⟩
  exact fun c kl hc N W0 ρ rr a W hs hr hm => main n _ _ h c kl hc N W0 ρ rr a W ⟨hs.rel, hs.env.kill ds, hs.mks⟩ hr hm

/-- A loop, unrolled once. -/
theorem loop_one {cx : Cx} {b : IR} {K : VK} {e : Env} {l : List Blk}
    (h : vc (S0 P) cx b (fun ex e' l' => match ex with | .normal => (S0 P).loop cx b e' l' K | ex => K ex e' l') e l) : (S0 P).loop cx b e l K := by
  intro c kl hc N W0 ρ rr a W hs hr hm
  refine wp_loop (Wp.mono (vc_sound c hc h N W0 ρ rr a W hs hr hm) ?_)
  rintro ex a' w' ⟨ρ', e', l', hK, hle, hm', hs'⟩
  cases ex with
  | normal => exact Wp.mono (hK c kl hc N W0 ρ' rr a' w' hs' (hr.le hle) hm') fun _ _ _ q => q.le hle
  | exit id => exact ⟨ρ', e', l', hK, hle, hm', hs'⟩
  | goto g => exact ⟨ρ', e', l', hK, hle, hm', hs'⟩
  | ret => exact ⟨ρ', e', l', hK, hle, hm', hs'⟩
end
end Cz
