/- The engine, part M: maps with plain keys. No condition. -/
import Derived.Test.YtjnpmipoenijdaaCzK
namespace Cz
open Go Go.RowKit
set_option linter.unusedSimpArgs false
set_option linter.unusedVariables false

section
variable {P : Program} {N : Nat} {W0 W : World} {ρ : Nms} {l : List Blk} {vs : List SV} {a : Act} {K : SV → List Blk → Prop} {o : Oper}

theorem zeroV_ok {t : TypeId} {x : SV} (h : zeroV P t = some x) : ∃ z, (zeroValue t).run P W = .ok z W ∧ ∀ ρ, den ρ x z := by
  simp only [zeroV, Option.bind_eq_bind, Option.bind_eq_some_iff] at h
  obtain ⟨i, hi, h⟩ := h
  split at h
  · rename_i cs hz
    simp only [Option.map_eq_some_iff] at h
    obtain ⟨xs, hxs, rfl⟩ := h
    exact ⟨_, run_zeroValue hi hz, fun ρ => by simp only [den]; exact ⟨_, rfl, mapM_cSV_ok ρ hxs⟩⟩
  · rename_i v hz
    exact ⟨_, run_zeroValue hi hz, fun ρ => cSV_ok h ρ⟩
  · cases h

theorem checkKey_ok (em : Bool) : ∀ (d : Nat) (t : TypeId) (s : List Kd), sigOf P d t = some s → ∀ (m : Nat), d ≤ m → ∀ (x : Value), PairsOk s x.cells.toList x.cells.toList → Made P t x →
    (Instr.checkKey em m t x).run P W = .ok () W
  | 0, _, _, h, _, _, _, _, _ => by simp [sigOf] at h
  | d + 1, t, s, h, m, hm, x, hp, hx => by
    obtain ⟨m, rfl⟩ : ∃ k, m = k + 1 := ⟨m - 1, by omega⟩
    have hm' : d ≤ m := by omega
    simp only [sigOf] at h
    cases hu : P.underlying t with
    | none => simp [hu] at h
    | some D =>
      rw [hu] at h
      cases D <;> simp only [Option.some.injEq, reduceCtorEq] at h
      case bool => simp [Instr.checkKey, run_underlying hu]
      case int k => simp [Instr.checkKey, run_underlying hu]
      case string => simp [Instr.checkKey, run_underlying hu]
      case struct fs =>
        simp only [Made, aggOf, hu, if_true] at hx
        obtain ⟨xs, rfl⟩ := hx
        split at h
        · cases h
        · simp only [Value.cells] at hp
          simp only [Instr.checkKey, Sem.run_bind, run_underlying hu, Result.andThen_ok]
          rw [← Array.forIn_toList]
          have key : ∀ (fl : List Field) (off : Nat) (sr : List Kd),
              fl.foldr (fun (f : Field) (acc : Nat → Option (List Kd)) => fun off => do
                let s ← sigOf P d f.type
                if f.name = "_" ∨ f.offset ≠ off ∨ szOf P f.type ≠ some s.length ∨ s.length = 0 then none else
                let r ← acc (off + s.length)
                pure (s ++ r)) (fun _ => some []) off = some sr →
              PairsOk sr (xs.toList.drop off) (xs.toList.drop off) →
              (forIn fl PUnit.unit (fun (f : Field) (_ : PUnit) => (if f.name ≠ "_" then do
                Instr.checkKey em m f.type (← part f.type xs f.offset)
                pure (ForInStep.yield PUnit.unit) else pure (ForInStep.yield PUnit.unit) : Sem (ForInStep PUnit)))).run P W = .ok PUnit.unit W := by
            intro fl
            induction fl with
            | nil => intro off sr hsr hpr; simp
            | cons f fl ih =>
              intro off sr hsr hpr
              simp only [List.foldr_cons, Option.bind_eq_bind, Option.bind_eq_some_iff] at hsr
              obtain ⟨s1, hs1, hsr⟩ := hsr
              split at hsr
              · cases hsr
              · rename_i hcond
                simp only [not_or, Decidable.not_not, ne_eq] at hcond
                obtain ⟨hnm, hoff, hsz, hs0⟩ := hcond
                simp only [Option.bind_eq_some_iff, Option.pure_def, Option.some.injEq] at hsr
                obtain ⟨r, hr, rfl⟩ := hsr
                have hl := hpr.length
                have hsp := hpr.split
                simp only [List.drop_drop] at hsp
                simp only [List.length_drop, List.length_append, Array.length_toList] at hl
                obtain ⟨agg, ha, h1⟩ := sig_agg hs1
                have hone := pairs_oneC hsp.1
                obtain ⟨u, hu1, hu2, hu3⟩ : ∃ v, (part f.type xs f.offset).run P W = .ok v W ∧ v.cells.toList = (xs.toList.drop off).take s1.length ∧ Made P f.type v := by
                  rw [hoff]
                  refine run_part ha hsz (by omega) fun he => ⟨h1 he, fun v hv => hone.1 v ?_⟩
                  rw [h1 he]
                  refine List.mem_of_getElem? (i := 0) ?_
                  simpa using hv
                have hrec := checkKey_ok em d f.type s1 hs1 m hm' u (by rw [hu2]; exact hsp.1) hu3
                have htail := ih _ _ hr hsp.2
                simp only [List.forIn_cons, ne_eq, hnm, not_false_eq_true, if_true, Sem.run_bind, hu1, hrec, Result.andThen_ok, Sem.run_pure]
                exact htail
          have := key fs.toList 0 s h (by simpa using hp)
          simp at this ⊢
          rw [this]
          rfl
      case array n e =>
        simp only [Made, aggOf, hu, if_true] at hx
        obtain ⟨xs, rfl⟩ := hx
        simp only [Option.bind_eq_bind, Option.bind_eq_some_iff] at h
        obtain ⟨s1, hs1, h⟩ := h
        split at h
        · cases h
        · rename_i hsz0
          have hsz : szOf P e = some s1.length := Decidable.byContradiction fun hh => hsz0 (.inl hh)
          have h0 : s1.length ≠ 0 := fun hh => hsz0 (.inr hh)
          simp only [Option.pure_def, Option.some.injEq] at h
          subst h
          simp only [Value.cells] at hp
          simp only [Instr.checkKey, Sem.run_bind, run_underlying hu, Result.andThen_ok]
          simp only [Std.Legacy.Range.forIn_eq_forIn_range', Std.Legacy.Range.size, Nat.sub_zero, Nat.add_one_sub_one, Nat.div_one]
          have key : ∀ (k j : Nat), PairsOk (List.replicate k s1).flatten (xs.toList.drop (j * s1.length)) (xs.toList.drop (j * s1.length)) →
              (forIn (List.range' j k) PUnit.unit (fun (i : Nat) (_ : PUnit) => (do
                let n ← Go.sizeOf e
                let p ← part e xs (i * n)
                Instr.checkKey em m e p
                pure (ForInStep.yield PUnit.unit) : Sem (ForInStep PUnit)))).run P W = .ok PUnit.unit W := by
            intro k
            induction k with
            | zero => intro j hpr; simp
            | succ k ih =>
              intro j hpr
              simp only [List.replicate_succ, List.flatten_cons] at hpr
              have hl := hpr.length
              have hsp := hpr.split
              simp only [List.drop_drop] at hsp
              simp only [List.length_drop, List.length_append, Array.length_toList] at hl
              obtain ⟨agg, ha, h1⟩ := sig_agg hs1
              have hone := pairs_oneC hsp.1
              obtain ⟨u, hu1, hu2, hu3⟩ : ∃ v, (part e xs (j * s1.length)).run P W = .ok v W ∧ v.cells.toList = (xs.toList.drop (j * s1.length)).take s1.length ∧ Made P e v := by
                refine run_part ha hsz (by omega) fun he => ⟨h1 he, fun v hv => hone.1 v ?_⟩
                rw [h1 he] at hv ⊢
                refine List.mem_of_getElem? (i := 0) ?_
                simpa using hv
              have hrec := checkKey_ok em d e s1 hs1 m hm' u (by rw [hu2]; exact hsp.1) hu3
              have hj : j * s1.length + s1.length = (j + 1) * s1.length := by rw [Nat.add_mul, Nat.one_mul]
              rw [hj] at hsp
              have htail := ih (j + 1) hsp.2
              simp only [List.range'_succ, List.forIn_cons, Sem.run_bind, run_sizeOf hsz, hu1, hrec, Result.andThen_ok, Sem.run_pure]
              exact htail
          have := key n 0 (by simpa using hp)
          simp at this ⊢
          rw [this]
          rfl

/-! ### Finding a key -/
theorem findAsking_ok {kt : TypeId} {sig : Sg} (hsg : sgOf P kt = some sig) {key zero : SV} {kv : Value} {K : SV → Bool → Prop} (hk : den ρ key kv) : ∀ (es : List (SV × SV)) (es' : List MapEntry) (i : Nat),
    MapRel ρ es es' → vlook (S0 P) sig key K zero es →
    ∃ res, (Instr.findAsking kt kv es' i).run P W = .ok res W ∧ (match res with | some (_, val) => ∃ sv, K sv true ∧ den ρ sv val | none => K zero false)
  | [], [], i, _, h => ⟨none, by simp [Instr.findAsking], h⟩
  | [], _ :: _, _, h, _ => by simp [MapRel] at h
  | (_, _) :: _, [], _, h, _ => by simp [MapRel] at h
  | (k, v) :: es, e :: es', i, hm, h => by
    simp only [vlook] at h
    obtain ⟨r, hr, h1, h2, _⟩ := veq_ok (W := W) hsg h hk hm.1
    have hrun : (Op.equal kt kv e.key).run P W = .ok r W := hr _ (by simp [Op.maxDepth])
    cases r with
    | true => exact ⟨some (i, e.val), by simp [Instr.findAsking, hrun], v, h1 rfl, hm.2.1⟩
    | false =>
      obtain ⟨res, hres, hK⟩ := findAsking_ok hsg hk es es' (i + 1) hm.2.2 (h2 rfl)
      exact ⟨res, by simpa [Instr.findAsking, hrun] using hres, hK⟩

theorem sameNow_ok {kt : TypeId} {D : TypeDesc} (hu : P.underlying kt = some D) {kv ek : Value} {r : Bool} (h : Instr.sameNow D kv ek = some r) : (Op.equal kt kv ek).run P W = .ok r W := by
  unfold Instr.sameNow at h
  split at h
  · split at h
    · rename_i hk
      subst hk
      simp at h; subst h
      exact run_equalIn_int W 9999 kt _ _ _ _ hu
    · cases h
  · simp at h; subst h
    rw [beq_toListBytes]
    exact run_equalIn_string W 9999 kt _ _ hu
  · simp at h; subst h
    exact run_equalIn_bool W 9999 kt _ _ hu
  · cases h

/-- findNow, where it answers, answers as findAsking does. -/
theorem findNow_ok {kt : TypeId} {D : TypeDesc} (hu : P.underlying kt = some D) {kv : Value} : ∀ (es' : List MapEntry) (i : Nat) (res : Option (Nat × Value)), Instr.findNow D kv es' i = some res →
    (Instr.findAsking kt kv es' i).run P W = .ok res W
  | [], i, res, h => by simp [Instr.findNow] at h; subst h; simp [Instr.findAsking]
  | e :: es', i, res, h => by
    have same : ∀ r, Instr.sameNow D kv e.key = some r → (Op.equal kt kv e.key).run P W = .ok r W := fun r hr => sameNow_ok hu hr
    simp only [Instr.findNow] at h
    split at h
    · rename_i hs
      simp at h; subst h
      simp [Instr.findAsking, same _ hs]
    · rename_i hs
      have := findNow_ok hu es' (i + 1) res h
      simp [Instr.findAsking, same _ hs, this]
    · cases h

theorem findKey_eq {kt : TypeId} {D : TypeDesc} (hu : P.underlying kt = some D) {kv : Value} {es' : List MapEntry} {res : Option (Nat × Value)} (h : (Instr.findAsking kt kv es' 0).run P W = .ok res W) :
    (Instr.findKey kt kv es').run P W = .ok res W := by
  simp only [Instr.findKey, Sem.run_bind, run_underlying hu, Result.andThen_ok]
  cases hn : Instr.findNow D kv es' 0 with
  | none => simpa using h
  | some r =>
    have := findNow_ok (W := W) hu es' 0 r hn
    rw [h] at this
    simp at this
    simp [this]

theorem vkey_ok {kt : TypeId} {sig : Sg} {x : SV} {v : Value} (hsg : sgOf P kt = some sig) (h : vkey sig x = true) (hd : den ρ x v) (em : Bool) :
    (Instr.checkKey em 10000 kt v).run P W = .ok () W := by
  simp only [sgOf, Option.bind_eq_bind, Option.bind_eq_some_iff, Option.pure_def, Option.some.injEq] at hsg
  obtain ⟨s, hs, ag, ha, rfl⟩ := hsg
  unfold vkey at h
  split at h
  · rename_i xs hxs
    simp only [Bool.and_eq_true] at h
    have dx := cells_ok hxs hd
    have hi : isAg x = ag := by
      have := h.1
      cases h1 : isAg x <;> cases ag <;> simp [h1] at this ⊢
    exact checkKey_ok em 50 kt s hs 10000 (by omega) v (kinds_ok h.2 dx dx) (made_of ha hi hxs hd)
  · cases h

theorem s_look {t kt e : TypeId} {m k : Operand} {m' k' : Opd} {sig : Sg} {zero : SV} {ok : Bool} (ho : o.op = .lookup t m k ok) (ht : P.underlying t = some (.map kt e)) (hz : zeroV P e = some zero)
    (hsg : sgOf P kt = some sig) (hm : cOpd m = some m') (hk : cOpd k = some k') : Sound P o (.look sig zero ok m' k') := by
  intro N W0 W ρ l vs a K h hR hE
  have hdm := ev_ok hE hm
  have hdk := ev_ok hE hk
  obtain ⟨z, hzr, hzd⟩ := zeroV_ok (W := W) hz
  have hsg' := hsg
  simp only [sgOf, Option.bind_eq_bind, Option.bind_eq_some_iff, Option.pure_def, Option.some.injEq] at hsg
  obtain ⟨s, hs, ag, ha, rfl⟩ := hsg
  have hkt : ∃ D, P.underlying kt = some D := by
    cases hu : P.underlying kt with
    | none => simp [aggOf, hu] at ha
    | some D => exact ⟨D, rfl⟩
  obtain ⟨D, hD⟩ := hkt
  have fin : ∀ (sv : SV) (f : Bool) (v : Value), (fun v f => K (if ok then .tp [v, ofB f] else v) l) sv f → den ρ sv v →
      (execOp a.eval o).run P W = .ok (.value (if ok then .tuple #[v, .bool f] else v)) W → OpRuns P o a W (OpPost P N W0 ρ l K) := by
    intro sv f v hK hd hrun
    refine .val (by simp [ho, isDefer]) hrun (post_same hR hK ?_)
    cases ok with
    | true =>
      simp only [if_true, den]
      refine ⟨_, rfl, ?_⟩
      cases f <;> simp [denL, den, ofB, hd]
    | false => simpa using hd
  simp only [vop, lk_eq] at h
  split at h
  · rename_i hvk
    have hck := fun em => vkey_ok (W := W) hsg' hvk hdk em
    split at h
    · rename_i b he
      rw [he] at hdm
      simp only [den] at hdm
      obtain ⟨vw, hvw, ad, hb, hve⟩ := hdm
      split at h
      · rename_i es hes
        obtain ⟨b0, es', clock, ⟨e1, _⟩, hheap, hmr⟩ := hR.blk b _ (lget_some hes (by simp))
        obtain rfl := mem_one e1 hvw
        simp at hb; subst hb
        have hget : (getObj b0).run P W = .ok (.map es' clock) W := by simp [getObj, Sem.run, hheap]
        obtain ⟨res, hres, hK⟩ := findAsking_ok (W := W) hsg' hdk es es'.toList 0 hmr h
        have hfind := findKey_eq hD hres
        have hrun : ∀ v f, (match res with | some (_, v) => (v, true) | none => (z, false)) = (v, f) → (execOp a.eval o).run P W = .ok (.value (if ok then .tuple #[v, .bool f] else v)) W := by
          intro v f hvf
          simp only [execOp, ho, Instr.lookup, Sem.run_bind, run_underlying ht, Result.andThen_ok, hve, hget, Sem.run_pure, hck, hfind]
          cases res with
          | none => simp at hvf; obtain ⟨rfl, rfl⟩ := hvf; simp [hzr]
          | some r => obtain ⟨i, u⟩ := r; simp at hvf; obtain ⟨rfl, rfl⟩ := hvf; simp
        cases res with
        | none => exact fin zero false z hK (hzd ρ) (hrun _ _ rfl)
        | some r =>
          obtain ⟨i, u⟩ := r
          obtain ⟨sv, hKs, hds⟩ := hK
          exact fin sv true u hKs hds (hrun _ _ rfl)
      · exact h.elim
    · rename_i he
      rw [he] at hdm
      simp only [den] at hdm
      have hfind : (Instr.findKey kt (a.eval k) []).run P W = .ok none W := findKey_eq hD (by simp [Instr.findAsking])
      refine fin zero false z ?_ (hzd ρ) ?_
      · cases ok <;> simpa [ofB] using h
      · simp only [execOp, ho, Instr.lookup, Sem.run_bind, run_underlying ht, Result.andThen_ok, hdm.1, Sem.run_pure, hck, hfind]
        simp [hzr]
    · exact h.elim
  · exact h.elim

/-! ### Storing -/
theorem sameBits_ok : ∀ (n : Nat) (s : Kd) (x y : Value), PairOk s x y → eqC x y = true → Instr.sameBits n x y = true
  | n, .kb, _, _, ⟨a, b, rfl, rfl⟩, h => by cases n <;> simpa [eqC, Instr.sameBits] using h
  | n, .ki, _, _, ⟨k, a, b, rfl, rfl⟩, h => by cases n <;> simpa [eqC, Instr.sameBits] using h
  | n, .ks, _, _, ⟨a, b, rfl, rfl⟩, h => by
    have : (a == b) = true := by rw [beq_toListBytes]; simpa [eqC] using h
    cases n <;> simpa [Instr.sameBits] using this

theorem sameBits_cells (n : Nat) : ∀ (ss : List Kd) (xs ys : List Value), PairsOk ss xs ys → eqCs xs ys = true → ((xs.zip ys).all fun (x, y) => Instr.sameBits n x y) = true
  | [], [], [], _, _ => by simp
  | [], [], _ :: _, h, _ => by simp [PairsOk] at h
  | [], _ :: _, _, h, _ => by simp [PairsOk] at h
  | _ :: _, [], _, h, _ => by simp [PairsOk] at h
  | _ :: _, _ :: _, [], h, _ => by simp [PairsOk] at h
  | s :: ss, x :: xs, y :: ys, h, he => by
    simp only [eqCs, Bool.and_eq_true] at he
    simp only [List.zip_cons_cons, List.all_cons, Bool.and_eq_true]
    exact ⟨sameBits_ok n s x y h.1 he.1, sameBits_cells n ss xs ys h.2 he.2⟩

theorem keyStays {kt : TypeId} {ss : List Kd} {x y : Value} (hp : PairsOk ss x.cells.toList y.cells.toList) (hx : Made P kt x) (hy : Made P kt y) (he : eqCs x.cells.toList y.cells.toList = true) :
    (Instr.keyThatStays x y).run P W = .ok y W := by
  have : Instr.sameBits 10000 x y = true := by
    unfold Made at hx hy
    split at hx
    · rename_i ha
      simp only [ha, if_true] at hy
      obtain ⟨c, rfl⟩ := hx
      obtain ⟨d, rfl⟩ := hy
      simp only [Value.cells] at hp he
      have hl := hp.length
      simp only [Array.length_toList] at hl
      have := sameBits_cells 9999 ss _ _ hp he
      show (c.size == d.size && _) = true
      simp only [Bool.and_eq_true, beq_iff_eq]
      exact ⟨by omega, this⟩
    · rename_i ha
      simp only [ha, if_false] at hy
      rw [cells_one hx, cells_one hy] at hp he
      match ss, hp with
      | [s], hp =>
        simp only [eqCs, Bool.and_true] at he
        exact sameBits_ok 10000 s x y hp.1 he
      | s :: s' :: ss, hp => simp [PairsOk] at hp
  simp [Instr.keyThatStays, this]

theorem MapRel.append : ∀ {es fs : List (SV × SV)} {es' fs' : List MapEntry}, MapRel ρ es es' → MapRel ρ fs fs' → MapRel ρ (es ++ fs) (es' ++ fs')
  | [], _, [], _, _, h => h
  | [], _, _ :: _, _, h, _ => by simp [MapRel] at h
  | (_, _) :: _, _, [], _, h, _ => by simp [MapRel] at h
  | (_, _) :: _, _, _ :: _, _, h, h2 => ⟨h.1, h.2.1, MapRel.append h.2.2 h2⟩

theorem PairOk.symm {s : Kd} {x y : Value} (h : PairOk s x y) : PairOk s y x := by
  cases s
  · obtain ⟨a, b, rfl, rfl⟩ := h; exact ⟨b, a, rfl, rfl⟩
  · obtain ⟨k, a, b, rfl, rfl⟩ := h; exact ⟨k, b, a, rfl, rfl⟩
  · obtain ⟨a, b, rfl, rfl⟩ := h; exact ⟨b, a, rfl, rfl⟩
theorem PairsOk.symm : ∀ {ss : List Kd} {xs ys : List Value}, PairsOk ss xs ys → PairsOk ss ys xs
  | [], [], [], h => h
  | _ :: _, _ :: _, _ :: _, h => ⟨h.1.symm, PairsOk.symm h.2⟩
theorem eqC_symm {x y : Value} (h : eqC x y = true) : eqC y x = true := by
  unfold eqC at h ⊢
  split at h
  · simp at h; simp [h]
  · simp at h; simp [h]
  · simp at h; simp [h]
  · cases h
theorem eqCs_symm : ∀ {xs ys : List Value}, eqCs xs ys = true → eqCs ys xs = true
  | [], [], h => h
  | [], _ :: _, h => by simp [eqCs] at h
  | _ :: _, [], h => by simp [eqCs] at h
  | x :: xs, y :: ys, h => by
    simp only [eqCs, Bool.and_eq_true] at h ⊢
    exact ⟨eqC_symm h.1, eqCs_symm h.2⟩
theorem MapRel.length : ∀ {es : List (SV × SV)} {es' : List MapEntry}, MapRel ρ es es' → es.length = es'.length
  | [], [], _ => rfl
  | [], _ :: _, h => by simp [MapRel] at h
  | (_, _) :: _, [], h => by simp [MapRel] at h
  | (_, _) :: es, _ :: es', h => by simp [MapRel.length h.2.2]

theorem modify_mid {α : Type} (f : α → α) (y : α) (ys : List α) : ∀ xs : List α, (xs ++ y :: ys).modify xs.length f = xs ++ f y :: ys
  | [] => by simp
  | x :: xs => by simp [modify_mid f y ys xs]

theorem vmupd_ok {kt : TypeId} {sig : Sg} (hsg : sgOf P kt = some sig) {key val : SV} {kv vv : Value} {K : List (SV × SV) → Prop} (hk : den ρ key kv) (hv : den ρ val vv) :
    ∀ (acc es : List (SV × SV)) (acc' es' : List MapEntry), MapRel ρ acc acc' → MapRel ρ es es' → vmupd (S0 P) sig key val K acc es →
    ∃ res, (Instr.findAsking kt kv es' acc'.length).run P W = .ok res W ∧
      (match res with
        | none => ∀ born, ∃ out, K out ∧ MapRel ρ out (acc' ++ es' ++ [{ key := kv, val := vv, born := born }])
        | some (i, _) => ∃ e, (acc' ++ es')[i]? = some e ∧ (Instr.keyThatStays e.key kv).run P W = .ok kv W ∧ ∃ out, K out ∧ MapRel ρ out ((acc' ++ es').modify i fun e => { e with key := kv, val := vv }))
  | acc, [], acc', [], ha, _, h => ⟨none, by simp [Instr.findAsking], fun born => ⟨_, h, by simpa using MapRel.append ha (fs := [(key, val)]) (fs' := [{ key := kv, val := vv, born := born }]) ⟨hk, hv, trivial⟩⟩⟩
  | _, [], _, _ :: _, _, h, _ => by simp [MapRel] at h
  | _, (_, _) :: _, _, [], _, h, _ => by simp [MapRel] at h
  | acc, (k, u) :: es, acc', e :: es', ha, hm, h => by
    simp only [vmupd] at h
    obtain ⟨r, hr, h1, h2, hp, mx, my, hreq⟩ := veq_ok (W := W) hsg h hk hm.1
    have hrun : (Op.equal kt kv e.key).run P W = .ok r W := hr _ (by simp [Op.maxDepth])
    cases r with
    | true =>
      refine ⟨some (acc'.length, e.val), by simp [Instr.findAsking, hrun], e, by simp, keyStays hp.symm my mx (eqCs_symm hreq.symm), _, h1 rfl, ?_⟩
      have : (acc' ++ e :: es').modify acc'.length (fun e => { e with key := kv, val := vv }) = acc' ++ { e with key := kv, val := vv } :: es' := by
        exact modify_mid _ _ _ _
      rw [this]
      exact MapRel.append ha ⟨hk, hv, hm.2.2⟩
    | false =>
      have ih := vmupd_ok hsg hk hv (acc ++ [(k, u)]) es (acc' ++ [e]) es' (MapRel.append ha ⟨hm.1, hm.2.1, trivial⟩) hm.2.2 (h2 rfl)
      obtain ⟨res, hres, hK⟩ := ih
      refine ⟨res, ?_, ?_⟩
      · simp at hres
        simpa [Instr.findAsking, hrun] using hres
      · simpa [List.append_assoc] using hK

theorem s_mupd {t kt e : TypeId} {m k x : Operand} {m' k' x' : Opd} {sig : Sg} (ho : o.op = .mapUpdate t m k x ∨ o.op = .insert t m k x) (ht : P.underlying t = some (.map kt e))
    (hsg : sgOf P kt = some sig) (hm : cOpd m = some m') (hk : cOpd k = some k') (hx : cOpd x = some x') : Sound P o (.mupd sig m' k' x') := by
  intro N W0 W ρ l vs a K h hR hE
  have hdm := ev_ok hE hm
  have hdk := ev_ok hE hk
  have hdx := ev_ok hE hx
  have hsg' := hsg
  simp only [sgOf, Option.bind_eq_bind, Option.bind_eq_some_iff, Option.pure_def, Option.some.injEq] at hsg
  obtain ⟨s, hs, ag, ha, rfl⟩ := hsg
  have hkt : ∃ D, P.underlying kt = some D := by
    cases hu : P.underlying kt with
    | none => simp [aggOf, hu] at ha
    | some D => exact ⟨D, rfl⟩
  obtain ⟨D, hD⟩ := hkt
  have hex : (execOp a.eval o).run P W = ((Instr.mapUpdate t (a.eval m) (a.eval k) (a.eval x)).run P W).andThen fun _ w => .ok .skip w := by
    rcases ho with ho | ho <;> simp [execOp, ho]
  have hdf : isDefer o.op = false := by rcases ho with ho | ho <;> simp [ho, isDefer]
  simp only [vop, mu_eq] at h
  split at h
  · rename_i hvk
    have hck := fun em => vkey_ok (W := W) hsg' hvk hdk em
    split at h
    · rename_i b he
      rw [he] at hdm
      simp only [den] at hdm
      obtain ⟨vw, hvw, ad, hb, hve⟩ := hdm
      split at h
      · rename_i es hes
        have hkB := lget_some hes (by simp)
        obtain ⟨b0, es', clock, ⟨e1, hNb⟩, hheap, hmr⟩ := hR.blk b _ hkB
        obtain rfl := mem_one e1 hvw
        simp at hb; subst hb
        have hget : (getObj b0).run P W = .ok (.map es' clock) W := by simp [getObj, Sem.run, hheap]
        have hset : ∀ ob, (setObj b0 ob).run P W = .ok () (setO W b0 ob) := fun ob => by simp [setObj, Sem.run, hheap, setO]
        obtain ⟨res, hres, hK⟩ := vmupd_ok (W := W) hsg' hdk hdx [] es [] es'.toList trivial hmr h
        have hfind := findKey_eq hD hres
        have hlt := lt_of_heap hheap
        have hup : upd ρ b (ρ b) = ρ := by
          funext j
          by_cases hj : j = b
          · subst hj; exact upd_same
          · exact upd_other hj
        have turn : ∀ (out : List (SV × SV)) (es2 : Array MapEntry) (clock2 : Nat), MapRel ρ out es2.toList → Rel P N W0 ρ (l.set b (.m out)) (setO W b0 (.map es2 clock2)) := by
          intro out es2 clock2 hm2
          rw [← hup]
          refine hR.turn hkB rfl ?_ (by rw [setO_size]; exact Nat.le_refl _) ?_ (fun _ hv => hv) ?_ ?_
          · exact hR.below.trans ⟨rfl, rfl, rfl, by rw [setO_size]; exact Nat.le_refl _, fun j hj => setO_other (by omega)⟩
          · intro i _ hi
            exact setO_other (fun hib => hi _ (by rw [e1]; exact List.mem_singleton.2 rfl) _ rfl hib.symm)
          · intro vw hvw' a' ha'
            exact ⟨by rw [setO_size]; exact hR.ids b vw a' hvw' ha', .inr ⟨vw, hvw', a', ha', rfl⟩⟩
          · rw [hup]
            exact ⟨b0, es2, clock2, ⟨e1, hNb⟩, setO_same hlt, hm2⟩
        cases res with
        | none =>
          obtain ⟨out, hKo, hmo⟩ := hK clock
          simp only [List.nil_append] at hmo
          rw [lset_eq] at hKo
          refine .unit hdf (W' := setO W b0 (.map (es'.push { key := a.eval k, val := a.eval x, born := clock }) (clock + 1))) ?_
            ⟨ρ, .un, _, hKo, Le.refl _ _, by simp, turn out _ _ (by simpa using hmo), by simp [den]⟩
          rw [hex]
          simp only [Instr.mapUpdate, Sem.run_bind, run_underlying ht, Result.andThen_ok, hve, hget, hck, hfind, hset]
        | some r =>
          obtain ⟨i, u⟩ := r
          obtain ⟨en, hen, hst, out, hKo, hmo⟩ := hK
          simp only [List.nil_append] at hmo hen
          rw [lset_eq] at hKo
          have hen' : es'[i]? = some en := by simpa using hen
          refine .unit hdf (W' := setO W b0 (.map (es'.modify i fun e => { e with key := a.eval k, val := a.eval x }) clock)) ?_
            ⟨ρ, .un, _, hKo, Le.refl _ _, by simp, turn out _ _ (by simpa using hmo), by simp [den]⟩
          rw [hex]
          simp only [Instr.mapUpdate, Sem.run_bind, run_underlying ht, Result.andThen_ok, hve, hget, hck, hfind, hen', Option.map_some, Option.getD_some, hst, hset]
      · exact h.elim
    · exact h.elim
  · exact h.elim
end
end Cz
