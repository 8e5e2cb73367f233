/- The engine, part I: equality of values of plain types, cell by cell. No condition. -/
import Derived.Test.YtjnpmipoenijdaaCzF
import Derived.Laws.StructEq
import Derived.ChangeKeysEq
namespace Cz
open Go Go.RowKit
set_option linter.unusedSimpArgs false
set_option linter.unusedVariables false

def PairOk : Kd → Value → Value → Prop
  | .kb, x, y => ∃ a b, x = .bool a ∧ y = .bool b
  | .ki, x, y => ∃ k a b, x = .int k a ∧ y = .int k b
  | .ks, x, y => ∃ a b, x = .string a ∧ y = .string b
def PairsOk : List Kd → List Value → List Value → Prop
  | [], [], [] => True
  | s :: ss, x :: xs, y :: ys => PairOk s x y ∧ PairsOk ss xs ys
  | _, _, _ => False
def eqC : Value → Value → Bool
  | .bool a, .bool b => a == b
  | .int _ a, .int _ b => a == b
  | .string a, .string b => a.toList == b.toList
  | _, _ => false
def eqCs : List Value → List Value → Bool
  | [], [] => true
  | x :: xs, y :: ys => eqC x y && eqCs xs ys
  | _, _ => false

theorem PairsOk.length : ∀ {ss : List Kd} {xs ys : List Value}, PairsOk ss xs ys → xs.length = ss.length ∧ ys.length = ss.length
  | [], [], [], _ => ⟨rfl, rfl⟩
  | _ :: ss, _ :: xs, _ :: ys, h => by
    have := PairsOk.length h.2
    simp [this.1, this.2]
theorem PairsOk.split : ∀ {s1 s2 : List Kd} {xs ys : List Value}, PairsOk (s1 ++ s2) xs ys →
    PairsOk s1 (xs.take s1.length) (ys.take s1.length) ∧ PairsOk s2 (xs.drop s1.length) (ys.drop s1.length)
  | [], _, _, _, h => by simpa [PairsOk] using h
  | s :: s1, s2, [], ys, h => by cases ys <;> simp [PairsOk] at h
  | s :: s1, s2, x :: xs, [], h => by simp [PairsOk] at h
  | s :: s1, s2, x :: xs, y :: ys, h => by
    simp only [List.cons_append, PairsOk] at h
    have := PairsOk.split h.2
    simp only [List.length_cons, List.take_succ_cons, List.drop_succ_cons, PairsOk]
    exact ⟨⟨h.1, this.1⟩, this.2⟩
theorem eqCs_split : ∀ (n : Nat) (xs ys : List Value), xs.length = ys.length → eqCs xs ys = (eqCs (xs.take n) (ys.take n) && eqCs (xs.drop n) (ys.drop n))
  | 0, xs, ys, _ => by simp [eqCs]
  | n + 1, [], [], _ => by simp [eqCs]
  | n + 1, [], y :: ys, h => by simp at h
  | n + 1, x :: xs, [], h => by simp at h
  | n + 1, x :: xs, y :: ys, h => by
    simp only [List.take_succ_cons, List.drop_succ_cons, eqCs]
    rw [eqCs_split n xs ys (by simpa using h), Bool.and_assoc]

section
variable {P : Program} {W : World}

/-- x is of the make of a value of type t. -/
def Made (P : Program) (t : TypeId) (x : Value) : Prop :=
  if aggOf P t = some true then ∃ c, x = .agg c else oneC x = true

theorem run_part {t : TypeId} {cs : Array Value} {off n : Nat} {agg : Bool} (ha : aggOf P t = some agg) (hn : szOf P t = some n) (hle : off + n ≤ cs.size)
    (h1 : agg = false → n = 1 ∧ ∀ v, cs[off]? = some v → oneC v = true) :
    ∃ v, (part t cs off).run P W = .ok v W ∧ v.cells.toList = (cs.toList.drop off).take n ∧ Made P t v := by
  cases agg with
  | true =>
    refine ⟨.agg (cs.extract off (off + n)), by simp [part, run_isAgg ha, run_sizeOf hn], ?_, by simp [Made, ha]⟩
    simp [Value.cells, Array.toList_extract, List.extract_eq_take_drop]
  | false =>
    obtain ⟨rfl, h2⟩ := h1 rfl
    have hlt : off < cs.size := by omega
    have hc : cs[off]? = some cs[off] := by simp [hlt]
    have hone := h2 _ hc
    refine ⟨cs[off], by simp [part, run_isAgg ha, hlt], ?_, by simpa [Made, ha] using hone⟩
    have e1 : cs[off].cells = #[cs[off]] := by
      revert hone
      cases cs[off] <;> simp [oneC, Value.cells]
    rw [e1]
    apply List.ext_getElem?
    intro q
    cases q with
    | zero => simp [hlt]
    | succ q => simp; omega

theorem pair_oneC {s : Kd} {x y : Value} (h : PairOk s x y) : oneC x = true ∧ oneC y = true := by
  cases s
  · obtain ⟨a, b, rfl, rfl⟩ := h; exact ⟨rfl, rfl⟩
  · obtain ⟨k, a, b, rfl, rfl⟩ := h; exact ⟨rfl, rfl⟩
  · obtain ⟨a, b, rfl, rfl⟩ := h; exact ⟨rfl, rfl⟩
theorem pairs_oneC : ∀ {ss : List Kd} {xs ys : List Value}, PairsOk ss xs ys → (∀ v ∈ xs, oneC v = true) ∧ ∀ v ∈ ys, oneC v = true
  | [], [], [], _ => ⟨by simp, by simp⟩
  | s :: ss, x :: xs, y :: ys, h => by
    have h1 := pair_oneC h.1
    have h2 := pairs_oneC h.2
    constructor
    · intro v hv
      rcases List.mem_cons.1 hv with rfl | hv
      · exact h1.1
      · exact h2.1 v hv
    · intro v hv
      rcases List.mem_cons.1 hv with rfl | hv
      · exact h1.2
      · exact h2.2 v hv

theorem sig_agg {d : Nat} {t : TypeId} {s : List Kd} (h : sigOf P d t = some s) : ∃ agg, aggOf P t = some agg ∧ (agg = false → s.length = 1) := by
  cases d with
  | zero => simp [sigOf] at h
  | succ d =>
    simp only [sigOf] at h
    unfold aggOf
    cases hu : P.underlying t with
    | none => simp [hu] at h
    | some D =>
      rw [hu] at h
      cases D <;> simp at h
      case bool => subst h; exact ⟨false, rfl, fun _ => rfl⟩
      case int k => subst h; exact ⟨false, rfl, fun _ => rfl⟩
      case string => subst h; exact ⟨false, rfl, fun _ => rfl⟩
      case struct fs => exact ⟨true, rfl, fun e => by cases e⟩
      case array n e => exact ⟨true, rfl, fun e => by cases e⟩

theorem cells_one {x : Value} (h : oneC x = true) : x.cells = #[x] := by
  revert h
  cases x <;> simp [oneC, Value.cells]

theorem pairs_one {s : Kd} {x y : Value} (hx : oneC x = true) (hy : oneC y = true) (h : PairsOk [s] x.cells.toList y.cells.toList) : PairOk s x y := by
  rw [cells_one hx, cells_one hy] at h
  exact h.1

theorem equalIn_ok : ∀ (d : Nat) (t : TypeId) (s : List Kd), sigOf P d t = some s → ∀ (m : Nat), d ≤ m → ∀ (x y : Value), PairsOk s x.cells.toList y.cells.toList → Made P t x → Made P t y →
    (Op.equalIn m t x y).run P W = .ok (eqCs x.cells.toList y.cells.toList) W
  | 0, _, _, h, _, _, _, _, _, _, _ => by simp [sigOf] at h
  | d + 1, t, s, h, m, hm, x, y, hp, hx, hy => by
    obtain ⟨m, rfl⟩ : ∃ k, m = k + 1 := ⟨m - 1, by omega⟩
    have hm' : d ≤ m := by omega
    have one : ∀ k, s = [k] → aggOf P t = some false → PairOk k x y ∧ x.cells = #[x] ∧ y.cells = #[y] := by
      intro k hk ha
      simp only [Made, ha, Option.some.injEq, Bool.false_eq_true, if_false] at hx hy
      subst hk
      exact ⟨pairs_one hx hy hp, cells_one hx, cells_one hy⟩
    simp only [sigOf] at h
    cases hu : P.underlying t with
    | none => simp [hu] at h
    | some D =>
      rw [hu] at h
      cases D <;> simp only [Option.some.injEq, reduceCtorEq] at h
      case bool =>
        obtain ⟨⟨a, b, rfl, rfl⟩, h1, h2⟩ := one _ h.symm (by simp [aggOf, hu])
        rw [run_equalIn_bool' W m t a b hu, h1, h2]; simp [eqCs, eqC]
      case int k =>
        obtain ⟨⟨k', a, b, rfl, rfl⟩, h1, h2⟩ := one _ h.symm (by simp [aggOf, hu])
        rw [run_equalIn_int W m t k' k a b hu, h1, h2]; simp [eqCs, eqC]
      case string =>
        obtain ⟨⟨a, b, rfl, rfl⟩, h1, h2⟩ := one _ h.symm (by simp [aggOf, hu])
        rw [run_equalIn_string W m t a b hu, h1, h2]; simp [eqCs, eqC]
      case struct fs =>
        simp only [Made, aggOf, hu, if_true] at hx hy
        obtain ⟨xs, rfl⟩ := hx
        obtain ⟨ys, rfl⟩ := hy
        split at h
        · cases h
        · rename_i hst
          have hfs : P.fieldsOf t = fs := by simp [Program.fieldsOf, hu]
          rw [run_equalIn_struct W m t xs ys (by rw [hfs]; exact hu) (by simpa using hst), hfs]
          simp only [Value.cells] at hp ⊢
          have key : ∀ (fl : List Field) (off : Nat) (sr : List Kd),
              fl.foldr (fun (f : Field) (acc : Nat → Option (List Kd)) => fun off => do
                let s ← sigOf P d f.type
                if f.name = "_" ∨ f.offset ≠ off ∨ szOf P f.type ≠ some s.length ∨ s.length = 0 then none else
                let r ← acc (off + s.length)
                pure (s ++ r)) (fun _ => some []) off = some sr →
              PairsOk sr (xs.toList.drop off) (ys.toList.drop off) → (Op.eqFields m xs ys fl).run P W = .ok (eqCs (xs.toList.drop off) (ys.toList.drop off)) W := by
            intro fl
            induction fl with
            | nil =>
              intro off sr hsr hpr
              simp only [List.foldr_nil, Option.some.injEq] at hsr
              subst hsr
              cases hxs : xs.toList.drop off <;> cases hys : ys.toList.drop off <;> rw [hxs, hys] at hpr <;> simp [PairsOk] at hpr
              simp [Op.eqFields, eqCs]
            | cons f fl ih =>
              intro off sr hsr hpr
              simp only [List.foldr_cons, Option.bind_eq_bind, Option.bind_eq_some_iff] at hsr
              obtain ⟨s1, hs1, hsr⟩ := hsr
              split at hsr
              · cases hsr
              · rename_i hcond
                simp only [not_or, Decidable.not_not, ne_eq] at hcond
                obtain ⟨hnm, hoff, hsz, hs0⟩ := hcond
                simp only [Option.bind_eq_some_iff, Option.pure_def, Option.some.injEq] at hsr
                obtain ⟨r, hr, rfl⟩ := hsr
                have hl := hpr.length
                have hsp := hpr.split
                simp only [List.drop_drop] at hsp
                simp only [List.length_drop, List.length_append, Array.length_toList] at hl
                obtain ⟨agg, ha, h1⟩ := sig_agg hs1
                have hone := pairs_oneC hsp.1
                have hpart : ∀ (zs : Array Value), off + s1.length ≤ zs.size → (∀ v ∈ (zs.toList.drop off).take s1.length, oneC v = true) →
                    ∃ v, (part f.type zs f.offset).run P W = .ok v W ∧ v.cells.toList = (zs.toList.drop off).take s1.length ∧ Made P f.type v := by
                  intro zs hz ho
                  rw [hoff]
                  refine run_part ha hsz hz fun he => ⟨h1 he, fun v hv => ho v ?_⟩
                  rw [h1 he]
                  have : off < zs.size := by have := h1 he; omega
                  refine List.mem_of_getElem? (i := 0) ?_
                  simpa using hv
                obtain ⟨u, hu1, hu2, hu3⟩ := hpart xs (by omega) hone.1
                obtain ⟨w, hw1, hw2, hw3⟩ := hpart ys (by omega) hone.2
                have hrec := equalIn_ok d f.type s1 hs1 m hm' u w (by rw [hu2, hw2]; exact hsp.1) hu3 hw3
                have htail := ih _ _ hr hsp.2
                simp only [Op.eqFields, ne_eq, hnm, not_false_eq_true, if_true, Sem.run_bind, hu1, hw1, hrec, Result.andThen_ok]
                rw [eqCs_split s1.length (xs.toList.drop off) (ys.toList.drop off) (by simp; omega), ← hu2, ← hw2, List.drop_drop, List.drop_drop]
                cases he : eqCs u.cells.toList w.cells.toList
                · simp
                · simp [htail]
          simpa using key fs.toList 0 s h (by simpa using hp)
      case array n e =>
        simp only [Made, aggOf, hu, if_true] at hx hy
        obtain ⟨xs, rfl⟩ := hx
        obtain ⟨ys, rfl⟩ := hy
        simp only [Option.bind_eq_bind, Option.bind_eq_some_iff] at h
        obtain ⟨s1, hs1, h⟩ := h
        split at h
        · cases h
        · rename_i hsz0
          have hsz : szOf P e = some s1.length := Decidable.byContradiction fun hh => hsz0 (.inl hh)
          have h0 : s1.length ≠ 0 := fun hh => hsz0 (.inr hh)
          simp only [Option.pure_def, Option.some.injEq] at h
          subst h
          simp only [szOf, Option.map_eq_some_iff] at hsz
          obtain ⟨i, hi, hisz⟩ := hsz
          have hcell : P.cellsOf e = s1.length := by simp [Program.cellsOf, hi, hisz]
          rw [run_equalIn_array W m xs ys hu hi, hcell]
          simp only [Value.cells] at hp ⊢
          have key : ∀ (k j : Nat), PairsOk (List.replicate k s1).flatten (xs.toList.drop (j * s1.length)) (ys.toList.drop (j * s1.length)) →
              (Op.eqItems m e s1.length xs ys (List.range' j k)).run P W = .ok (eqCs (xs.toList.drop (j * s1.length)) (ys.toList.drop (j * s1.length))) W := by
            intro k
            induction k with
            | zero =>
              intro j hpr
              simp only [List.replicate_zero, List.flatten_nil] at hpr
              cases hxs : xs.toList.drop (j * s1.length) <;> cases hys : ys.toList.drop (j * s1.length) <;> rw [hxs, hys] at hpr <;> simp [PairsOk] at hpr
              simp [Op.eqItems, eqCs]
            | succ k ih =>
              intro j hpr
              simp only [List.replicate_succ, List.flatten_cons] at hpr
              have hl := hpr.length
              have hsp := hpr.split
              simp only [List.drop_drop] at hsp
              simp only [List.length_drop, List.length_append, Array.length_toList] at hl
              obtain ⟨agg, ha, h1⟩ := sig_agg hs1
              have hone := pairs_oneC hsp.1
              have hpart : ∀ (zs : Array Value), j * s1.length + s1.length ≤ zs.size → (∀ v ∈ (zs.toList.drop (j * s1.length)).take s1.length, oneC v = true) →
                  ∃ v, (part e zs (j * s1.length)).run P W = .ok v W ∧ v.cells.toList = (zs.toList.drop (j * s1.length)).take s1.length ∧ Made P e v := by
                intro zs hz ho
                refine run_part ha (by simp [szOf, hi, hisz]) hz fun he => ⟨h1 he, fun v hv => ho v ?_⟩
                rw [h1 he] at hv ⊢
                refine List.mem_of_getElem? (i := 0) ?_
                simpa using hv
              obtain ⟨u, hu1, hu2, hu3⟩ := hpart xs (by omega) hone.1
              obtain ⟨w, hw1, hw2, hw3⟩ := hpart ys (by omega) hone.2
              have hrec := equalIn_ok d e s1 hs1 m hm' u w (by rw [hu2, hw2]; exact hsp.1) hu3 hw3
              have hj : j * s1.length + s1.length = (j + 1) * s1.length := by rw [Nat.add_mul, Nat.one_mul]
              rw [hj] at hsp
              have htail := ih (j + 1) hsp.2
              simp only [List.range'_succ, Op.eqItems, Sem.run_bind, hu1, hw1, hrec, Result.andThen_ok]
              rw [eqCs_split s1.length (xs.toList.drop (j * s1.length)) (ys.toList.drop (j * s1.length)) (by simp; omega), ← hu2, ← hw2, List.drop_drop, List.drop_drop, hj]
              cases he : eqCs u.cells.toList w.cells.toList
              · simp
              · simp [htail]
          have := key n 0 (by simpa using hp)
          simpa [List.range_eq_range'] using this
end
end Cz
