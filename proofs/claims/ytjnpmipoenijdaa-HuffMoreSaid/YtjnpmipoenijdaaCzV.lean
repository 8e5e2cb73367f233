/- The engine, part V: bytes of texts; appending. No condition. -/
import Derived.Test.YtjnpmipoenijdaaCzU
import Derived.Laws.IdiomStrings
namespace Cz
open Go Go.RowKit
set_option linter.unusedSimpArgs false
set_option linter.unusedVariables false

section
variable {P : Program} {N : Nat} {W0 W : World} {ρ : Nms} {l : List Blk} {vs : List SV} {a : Act} {o : Oper}

theorem drew_rel (h : Rel P N W0 ρ l W) : Rel P N W0 ρ l W.drew := h.drew

/-- A new row, some of its room marked behind its end. -/
theorem Rel.newRF (h : Rel P N W0 ρ l W) {F : List SV} {c : Array Value} (T : TypeId) {fz : Nat × Nat} (hfz : c.size ≤ fz.1 ∨ fz = (0, 0)) {lit : Bool} {sz cap : Nat} (hsz : 0 < sz) (hn : F.length ≤ cap * sz) (hcap : cap * sz ≤ c.size)
    (hp : lit = false → ∀ x ∈ F, plainV x = true)
    (hd : ∀ (q : Nat) (x : SV), F[q]? = some x → ∃ v, c[q]? = some v ∧ den ρ x v) :
    Rel P N W0 (upd ρ l.length [⟨some ⟨W.heap.size, 0, none⟩, F.length, cap⟩]) (l ++ [.r false lit (.l 0) sz F]) (W.alloc (.cells c T fz)) := by
  have hcell : ∀ q, (W.alloc (.cells c T fz)).cell? ⟨W.heap.size, q, none⟩ = c[q]? := fun q => by
    simp only [World.cell?, heap_new]; rfl
  have hfr : ∀ q, q < c.size → (W.alloc (.cells c T fz)).frozen? ⟨W.heap.size, q, none⟩ = false := fun q hq => by
    simp only [World.frozen?, heap_new]
    rcases hfz with h1 | rfl
    · simp; omega
    · simp
  refine h.push (Below.allocW h _) (by simp) (fun i hi => heap_old hi) ?_ ⟨hsz, ?_, hp, ?_⟩
  · intro vw hv a ha
    simp only [List.mem_singleton] at hv
    subst hv
    simp at ha; subst ha; simp
  · intro vw hv
    rw [upd_same, List.mem_singleton] at hv
    subst hv
    refine ⟨Nat.le_refl _, by simp, fun q x _ hx => ?_⟩
    obtain ⟨v, hv, d⟩ := hd q x hx
    exact ⟨_, v, rfl, by rw [Nat.zero_add, hcell]; exact hv, den_le (le_upd (m := l.length) (by rw [h.out _ (Nat.le_refl _)]; simp)) h.out x v d⟩
  · intro _
    rw [upd_same]
    refine ⟨_, List.mem_singleton.2 rfl, rfl, ?_, hn, ?_⟩
    · intro a ha
      simp at ha; subst ha
      exact ⟨h.hN, c, T, fz, heap_new, by simpa using hcap, hfr, hfz.elim .inr (fun e => .inl (by rw [e]))⟩
    · intro vw hv
      rw [List.mem_singleton] at hv
      subst hv
      exact .inl ⟨rfl, rfl⟩

theorem sb_get {x : List UInt8} {q : Nat} {y : SV} (h : ((S0 P).sb x)[q]? = some y) : ∃ c, x[q]? = some c ∧ y = .i .u8 (.y (c.toNat : Int)) := by
  have h' : (x.map fun c => SV.i .u8 (.y (c.toNat : Int)))[q]? = some y := h
  rw [List.getElem?_map, Option.map_eq_some_iff] at h'
  obtain ⟨c, hc, rfl⟩ := h'
  exact ⟨c, hc, rfl⟩
theorem sb_len {x : List UInt8} : ((S0 P).sb x).length = x.length := by
  show (x.map _).length = _
  simp
theorem sb_plain {x : List UInt8} : ∀ y ∈ (S0 P).sb x, plainV y = true := by
  intro y hy
  obtain ⟨q, hq, rfl⟩ := List.getElem_of_mem hy
  obtain ⟨c, _, e⟩ := sb_get (P := P) (List.getElem?_eq_getElem hq)
  rw [e]; rfl

theorem s_cvSB {t u e : TypeId} {x : Operand} {x' : Opd} (ho : o.op = .convert t u x) (ht : P.underlying t = some .string) (hu : P.underlying u = some (.slice e)) (he : isU8 P e = true) (hx : cOpd x = some x') :
    Sound P o (.cvSB x') := by
  intro N W0 W ρ l vs a K h hR hE
  have hd := ev_ok hE hx
  have he' : P.underlying e = some (.int .u8) := by
    unfold isU8 at he
    split at he
    · rename_i h1; exact h1
    · cases he
  simp only [vop, len_eq, snoc_eq] at h
  split at h
  case h_2 => exact h.elim
  rename_i s hev
  rw [hev] at hd
  simp only [den] at hd
  have hsz : (ByteArray.mk s.toArray).size = s.length := by show s.toArray.size = s.length; simp
  have hrun := run_bytes_of_string (P := P) W t u e ⟨s.toArray⟩ ht hu he'
  rw [hsz] at hrun
  have hge := grownCap_ge W s.length 0 e
  generalize hcap : grownCap W s.length 0 e = cap at hrun hge
  have hrow : (bytesRow ⟨s.toArray⟩ cap).size = cap := by
    simp [bytesRow, hsz]; omega
  have hR1 := drew_rel hR
  refine .val (v := .slice (some ⟨W.heap.size, 0, none⟩) s.length cap) (by simp [ho, isDefer]) (by simp only [execOp, ho, hd]; simp [hrun]; rfl)
    ⟨_, _, _, h, le_new hR _, by simp, hR1.newRF (cap := cap) e (.inl (Nat.le_refl _)) (by omega) (by rw [sb_len]; omega) (by rw [hrow]; omega) (fun _ => sb_plain) (fun q y hy => ?_), ?_⟩
  · obtain ⟨c, hc, rfl⟩ := sb_get hy
    have hq : q < s.length := (List.getElem?_eq_some_iff.1 hc).1
    refine ⟨_, ?_, rfl⟩
    simp only [bytesRow]
    rw [Array.getElem?_append_left (by simpa using hq)]
    simp [hc, zv_y]
  · simp only [den]
    have e1 : (Z.y ((S0 P).slen s)).v = (s.length : Int) := rfl
    rw [e1]
    refine ⟨by simp [zv_l], by omega, _, by rw [upd_same]; exact List.mem_singleton.2 rfl, by simp only [zv_l]; rw [sb_len]; simp, ?_⟩
    simp only [SlVal, zv_l, Int.toNat_natCast]
    exact .inl ⟨cap, by simp, by omega, by simp, by simp⟩

/-! ### Bytes of a text that is known -/
def fzNew (fz : Nat × Nat) (n : Nat) : Nat × Nat := if fz.1 == fz.2 then (n, n + 1) else (min fz.1 n, max fz.2 (n + 1))
theorem freeze_eq {b : Nat} {c : Array Value} {e : TypeId} {fz : Nat × Nat} (h : W.heap[b]? = some (.cells c e fz)) (n : Nat) : W.freeze ⟨b, n, none⟩ 1 = setO W b (.cells c e (fzNew fz n)) := by
  unfold World.freeze setO
  simp only [Nat.one_ne_zero, if_false]
  congr 1
  apply Array.ext_getElem?
  intro j
  rw [Array.getElem?_setIfInBounds, Array.getElem?_modify]
  by_cases hj : b = j
  · subst hj
    simp only [if_true, h, lt_of_heap h, Option.map_some]
    obtain ⟨lo, hi⟩ := fz
    simp only [fzNew]
  · simp [hj]
theorem cell_fz {b : Nat} {c : Array Value} {e : TypeId} {fz fz' : Nat × Nat} (h : W.heap[b]? = some (.cells c e fz)) (ad : Addr) : (setO W b (.cells c e fz')).cell? ad = W.cell? ad := by
  by_cases hb : ad.block = b
  · simp only [World.cell?, hb, setO_same (lt_of_heap h), h]
  · simp only [World.cell?, setO_other hb]
/-- A row whose memory is marked behind its end. -/
theorem Rel.frz (hR : Rel P N W0 ρ l W) {k : Nat} {lit : Bool} {st : Z} {sz : Nat} {F : List SV} {vw : View} {a : Addr} {c : Array Value} {e : TypeId} {fz : Nat × Nat} (hk : l[k]? = some (.r false lit st sz F)) (hv : vw ∈ ρ k)
    (ha : vw.base = some a) (hh : W.heap[a.block]? = some (.cells c e fz)) : Rel P N W0 ρ l (setO W a.block (.cells c e (fzNew fz c.size))) := by
  have hN : N ≤ a.block := hR.own k _ vw a hk rfl hv ha
  have hset : l.set k (.r false lit st sz F) = l := by
    apply List.ext_getElem?
    intro j
    rw [List.getElem?_set]
    split
    · rename_i e; subst e; rw [hk]; simp [(List.getElem?_eq_some_iff.1 hk).1]
    · rfl
  have hup : upd ρ k (ρ k) = ρ := by
    funext j
    by_cases hj : j = k
    · subst hj; exact upd_same
    · exact upd_other hj
  have ht := hR.turn (W' := setO W a.block (.cells c e (fzNew fz c.size))) (B := .r false lit st sz F) (vws := ρ k) hk rfl
    (hR.below.trans ⟨rfl, rfl, rfl, by rw [setO_size]; exact Nat.le_refl _, fun j hj => setO_other (by omega)⟩) (by rw [setO_size]; exact Nat.le_refl _)
    (fun i _ hi => setO_other (fun e => hi vw hv a ha e.symm)) (fun _ h => h)
    (fun vw' hv' a' ha' => ⟨by rw [setO_size]; exact hR.ids k vw' a' hv' ha', .inr ⟨vw', hv', a', ha', rfl⟩⟩) ?_
  · rwa [hset, hup] at ht
  · rw [hup]
    obtain ⟨h0, h1, h2, h3⟩ := hR.blk k _ hk
    refine ⟨h0, fun vw' hv' => ?_, h2, fun hr => ?_⟩
    · obtain ⟨g1, g2, g3⟩ := h1 vw' hv'
      refine ⟨g1, g2, fun q x hq hx => ?_⟩
      obtain ⟨a', v, e1, e2, e3⟩ := g3 q x hq hx
      exact ⟨a', v, e1, by rw [cell_fz hh]; exact e2, e3⟩
    · obtain ⟨cur, hc, hn, ho, r⟩ := h3 hr
      refine ⟨cur, hc, hn, fun a' ha' => ?_, r⟩
      obtain ⟨o1, c', e', fz', o2, o3, o4, o5⟩ := ho a' ha'
      by_cases hb : a'.block = a.block
      · rw [hb, hh] at o2
        simp only [Option.some.injEq, Obj.cells.injEq] at o2
        obtain ⟨rfl, rfl, rfl⟩ := o2
        have hge : c.size ≤ (fzNew fz c.size).1 := by
          unfold fzNew
          split
          · exact Nat.le_refl _
          · rename_i hne
            rcases o5 with o5 | o5
            · simp [o5] at hne
            · simp only; omega
        refine ⟨o1, c, e, fzNew fz c.size, by rw [hb]; exact setO_same (lt_of_heap hh), o3, fun q hq => ?_, .inr hge⟩
        simp only [World.frozen?, hb, setO_same (lt_of_heap hh)]
        simp; omega
      · refine ⟨o1, c', e', fz', by rw [setO_other hb]; exact o2, o3, fun q hq => ?_, o5⟩
        have := o4 q hq
        simp only [World.frozen?, setO_other hb] at this ⊢
        exact this
theorem s_cvLL {t e : TypeId} {x : Operand} {x' : Opd} (ho : o.op = .convert t t x) (ht : P.underlying t = some (.slice e)) (he : isU8 P e = true) (hx : cOpd x = some x') : Sound P o (.cvLL x') := by
  intro N W0 W ρ l vs a K h hR hE
  have hd := ev_ok hE hx
  have he' : P.underlying e = some (.int .u8) := by
    unfold isU8 at he
    split at he
    · rename_i h1; exact h1
    · cases he
  simp only [vop] at h
  split at h
  case h_2 => exact h.elim
  rename_i k sz off n cap hev
  split at h
  case isFalse => exact h.elim
  rename_i hn0
  obtain ⟨hn, hsz0⟩ := hn0
  split at h
  case h_2 => exact h.elim
  rename_i lit st sz' F hl
  rw [hev] at hd
  have hd0 := hd
  have hk := lget_some hl (by simp)
  simp only [den, show (Z.l n).v = n from rfl] at hd
  obtain ⟨g0, g1, vw, hv, g2, g3⟩ := hd
  obtain ⟨hsz, hvw, _, _⟩ := hR.blk k _ hk
  unfold SlVal at g3
  split at g3
  · obtain ⟨_, e0, _⟩ := g3; omega
  · rename_i ad hb
    obtain ⟨cp, hev2⟩ : ∃ cp, a.eval x = .slice (some ⟨ad.block, ad.off + off.v.toNat * sz, none⟩) n.toNat cp := by
      rcases g3 with ⟨cp, e, _⟩ | ⟨e0, _⟩
      · exact ⟨cp, e⟩
      · omega
    obtain ⟨v1, v2, v3⟩ := hvw vw hv
    have hpos : 0 < vw.n := by
      have : 0 < (off.v.toNat + n.toNat) * sz := Nat.mul_pos (by omega) (by omega)
      omega
    obtain ⟨y, hy⟩ : ∃ y, F[0]? = some y := ⟨_, List.getElem?_eq_getElem (by omega)⟩
    obtain ⟨a', u, e1, e2, _⟩ := v3 0 y hpos hy
    rw [hb] at e1; cases e1
    obtain ⟨c, T, fz, hh⟩ : ∃ c T fz, W.heap[ad.block]? = some (.cells c T fz) := by
      unfold World.cell? at e2
      simp only at e2
      split at e2
      · split at e2
        · cases e2
        · rename_i c T fz hh _; exact ⟨c, T, fz, hh⟩
      · cases e2
    refine .val (v := a.eval x) (W' := setO W ad.block (.cells c T (fzNew fz c.size))) (by simp [ho, isDefer]) ?_ ?_
    · have hsh : W.shape? ad.block = some (T, c.size) := by simp [World.shape?, hh]
      simp [execOp, ho, convert, hev2, run_underlying ht, run_underlying he', markStringish, hsh, freeze_eq hh]
    · exact ⟨ρ, _, l, h, Le.refl _ _, Nat.le_refl _, hR.frz hk hv hb hh, hd0⟩

/-! ### Appending -/
section
variable {ats : Array TypeId} {args : Array Value} {t u ty e : TypeId} {D : TypeDesc} {b : Option Addr} {n c m sz : Nat} {y : Value} {news : List Value}

theorem run_app_room (ha0 : ats[0]? = some t) (ha1 : ats[1]? = some u) (hx0 : args[0]? = some (.slice b n c)) (hx1 : args[1]? = some y) (ht : P.underlying t = some (.slice e)) (hu : P.underlying u = some D) (hD : ∀ k, D ≠ .int k)
    (hn : szOf P e = some sz) (hlen : (Builtin.lenOf y).run P W = .ok m W) (hcells : (Builtin.firstCells sz m y).run P W = .ok news.toArray W) (hroom : n + m ≤ c) {W' : World}
    (hst : match b with | none => W' = W | some ad => (storeCells (ad.add (n * sz)) news).run P W = .ok () W') :
    (Builtin.append_ ats ty args).run P W = .ok (.slice b (n + m) c) W' := by
  cases b with
  | none =>
    simp only at hst
    subst hst
    simp [Builtin.append_, ha0, ha1, hx0, hx1, run_underlying ht, run_underlying hu, run_sizeOf hn, hlen, hroom, hcells]
  | some ad =>
    simp [Builtin.append_, ha0, ha1, hx0, hx1, run_underlying ht, run_underlying hu, run_sizeOf hn, hlen, hroom, hcells, hst]

theorem run_app_grow {i : TypeInfo} {z : Value} {olds : List Value} (ha0 : ats[0]? = some t) (ha1 : ats[1]? = some u) (hx0 : args[0]? = some (.slice b n c)) (hx1 : args[1]? = some y) (ht : P.underlying t = some (.slice e))
    (hu : P.underlying u = some D) (hD : ∀ k, D ≠ .int k) (hi : P.info? e = some i) (hz : i.zero = some z) (hn : szOf P e = some sz) (hlen : (Builtin.lenOf y).run P W = .ok m W)
    (hcells : (Builtin.firstCells sz m y).run P W.drew = .ok news.toArray W.drew) (holds : (Builtin.firstCells sz n (.slice b n c)).run P W.drew = .ok olds.toArray W.drew) (hroom : c < n + m)
    (hby : i.bytes ≤ 1024) (hbig : n + m ≤ 137438953472) :
    (Builtin.append_ ats ty args).run P W = .ok (.slice (some ⟨W.heap.size, 0, none⟩) (n + m) (grownCap W (n + m) c e))
      (W.drew.alloc (.cells (olds.toArray ++ news.toArray ++ Builtin.zeroCells z.cells (grownCap W (n + m) c e - (n + m))) e)) := by
  have h1 : ¬ (n + m ≤ c) := by omega
  have h63 : ¬ (9223372036854775807 < ((n : Int) + (m : Int))) := by omega
  have hb : (n + m) * i.bytes ≤ 140737488355328 := by
    have h2 : (n + m) * i.bytes ≤ 137438953472 * 1024 := Nat.mul_le_mul hbig hby
    omega
  have h48 : ¬ (281474976710656 < Builtin.nextslicecap (n + m) c * i.bytes) := by
    have := growslice_fits hroom hb
    omega
  simp [Builtin.append_, ha0, ha1, hx0, hx1, run_underlying ht, run_underlying hu, run_sizeOf hn, hlen, h1, typeInfo, hi, h63, h48, Question.forced, hcells, holds, zeroValue, hz, newRow, grownCap]
  have e1 : (olds ++ news).toArray = olds.toArray ++ news.toArray := by simp
  rw [e1, Array.append_assoc]
end

theorem exists_list : ∀ (xs : List SV) (f : Nat → Option Value), (∀ (q : Nat) (x : SV), xs[q]? = some x → ∃ v, f q = some v ∧ den ρ x v) →
    ∃ us : List Value, denL ρ xs us ∧ ∀ (q : Nat) (v : Value), us[q]? = some v → f q = some v
  | [], f, _ => ⟨[], by simp [denL], by simp⟩
  | x :: xs, f, h => by
    obtain ⟨v, hv, hd⟩ := h 0 x (by simp)
    obtain ⟨us, hus, hf⟩ := exists_list xs (fun q => f (q + 1)) (fun q y hy => h (q + 1) y (by simpa using hy))
    refine ⟨v :: us, by simp only [denL]; exact ⟨hd, hus⟩, fun q u hu => ?_⟩
    cases q with
    | zero => simp at hu; subst hu; exact hv
    | succ q => exact hf q u (by simpa using hu)

/-- What is appended: its cells, in any world with the same memory. -/
theorem src_ok {y : SV} {v : Value} {sz : Nat} {ys : List SV} {n : Z} {ylit : Bool} (h : srcOf (S0 P) l sz y = some (ys, n, ylit)) (hd : den ρ y v) (hR : Rel P N W0 ρ l W) :
    0 ≤ n.v ∧ ys.length = n.v.toNat * sz ∧ (ylit = false → ∀ x ∈ ys, plainV x = true) ∧
      ∃ us : List Value, denL ρ ys us ∧ ∀ W' : World, W'.heap = W.heap → (Builtin.lenOf v).run P W' = .ok n.v.toNat W' ∧ (Builtin.firstCells sz n.v.toNat v).run P W' = .ok us.toArray W' := by
  have nil : ∀ a', v = .slice a' 0 0 → ∀ W' : World, (Builtin.lenOf v).run P W' = .ok 0 W' ∧ (Builtin.firstCells sz 0 v).run P W' = .ok (([] : List Value).toArray) W' := by
    intro a' e W'
    subst e
    refine ⟨rfl, ?_⟩
    cases a' with
    | none => rfl
    | some ad => simp [Builtin.firstCells, loadCells, loadCellsFrom, pure]
  unfold srcOf at h
  split at h
  · rename_i k sz' off ln cap
    split at h
    case h_2 => cases h
    rename_i ro lit st sz'' F hF
    split at h
    case isFalse => cases h
    rename_i hsz
    obtain ⟨rfl, rfl⟩ := hsz
    obtain ⟨_, hvs, hpl, _⟩ := hR.blk k _ (lget_some hF (by simp))
    have key : n = ln ∧ ys = (F.drop (off.v.toNat * sz)).take (ln.v.toNat * sz) ∧ (ylit = false → ∀ x ∈ F, plainV x = true) := by
      split at h
      · simp only [Option.some.injEq, Prod.mk.injEq] at h
        obtain ⟨h1, h2, h3⟩ := h
        rw [dropS_eq, takeS_eq] at h1
        exact ⟨h2.symm, h1.symm, fun e => by rw [← h3] at e; cases e⟩
      · split at h
        · rename_i hp
          simp only [Option.some.injEq, Prod.mk.injEq] at h
          obtain ⟨h1, h2, h3⟩ := h
          refine ⟨h2.symm, h1.symm, fun _ => ?_⟩
          cases lit with
          | false => exact hpl rfl
          | true => exact fun x hx => plains_mem hp x hx
        · cases h
    obtain ⟨rfl, rfl, hpl2⟩ := key
    simp only [den] at hd
    obtain ⟨h0, h1, vw, hvw, hin, hsv⟩ := hd
    have hv := hvs vw hvw
    have hinF : off.v.toNat * sz + n.v.toNat * sz ≤ vw.n := by rw [← Nat.add_mul]; exact hin
    have hlen : ((F.drop (off.v.toNat * sz)).take (n.v.toNat * sz)).length = n.v.toNat * sz := by
      have := hv.1
      simp; omega
    refine ⟨h1, hlen, fun e x hx => hpl2 e x (List.mem_of_mem_drop (List.mem_of_mem_take hx)), ?_⟩
    have empty : n.v.toNat = 0 → (∃ a', v = .slice a' 0 0) → ∃ us : List Value, denL ρ ((F.drop (off.v.toNat * sz)).take (n.v.toNat * sz)) us ∧
        ∀ W' : World, W'.heap = W.heap → (Builtin.lenOf v).run P W' = .ok n.v.toNat W' ∧ (Builtin.firstCells sz n.v.toNat v).run P W' = .ok us.toArray W' := by
      rintro e0 ⟨a', e⟩
      refine ⟨[], by rw [e0]; simp [denL], fun W' _ => ?_⟩
      rw [e0]
      exact nil a' e W'
    unfold SlVal at hsv
    cases hbase : vw.base with
    | none => rw [hbase] at hsv; exact empty hsv.2.1 hsv.2.2
    | some ad =>
      rw [hbase] at hsv
      rcases hsv with ⟨c, e, _⟩ | ⟨e0, e, _⟩
      · obtain ⟨us, hus, hcell⟩ := exists_list (ρ := ρ) ((F.drop (off.v.toNat * sz)).take (n.v.toNat * sz)) (fun q => W.cell? ⟨ad.block, ad.off + off.v.toNat * sz + q, none⟩) (view_cells hv hbase hinF)
        refine ⟨us, hus, fun W' hW => ?_⟩
        have hul : us.length = n.v.toNat * sz := by rw [← denL_length hus, hlen]
        have hl := run_loadCells_list (P := P) W' ⟨ad.block, ad.off + off.v.toNat * sz, none⟩ us (fun j u hj => by
          rw [addr_add, cell_congr (W := W) (by rw [hW])]
          exact hcell j u hj)
        rw [hul] at hl
        subst e
        exact ⟨rfl, by simp [Builtin.firstCells, hl]⟩
      · exact empty e0 e
  · simp only [Option.some.injEq, Prod.mk.injEq] at h
    obtain ⟨rfl, rfl, rfl⟩ := h
    simp only [den] at hd
    exact ⟨by simp [zv_l], by simp [zv_l], (fun e => by cases e), [], by simp [denL], fun W' _ => nil none hd.1 W'⟩
  · rename_i s
    split at h
    case isFalse => cases h
    rename_i h1
    subst h1
    simp only [Option.some.injEq, Prod.mk.injEq] at h
    obtain ⟨rfl, rfl, rfl⟩ := h
    simp only [den] at hd
    subst hd
    have hsz : (ByteArray.mk s.toArray).size = s.length := by show s.toArray.size = s.length; simp
    have e1 : (Z.y ((S0 P).slen s)).v = (s.length : Int) := rfl
    rw [e1, Int.toNat_natCast]
    refine ⟨by omega, by rw [sb_len, Nat.mul_one], fun _ => sb_plain, s.map (fun c => Value.int .u8 (c.toNat : Int)), ?_, fun W' _ => ⟨by simp [Builtin.lenOf, hsz, pure], ?_⟩⟩
    · refine denL_of_get (by rw [sb_len]; simp) fun q y hy => ?_
      obtain ⟨c, hc, rfl⟩ := sb_get hy
      exact ⟨.int .u8 (c.toNat : Int), by simp [hc], by simp only [den, zv_y]⟩
    · have : ((ByteArray.mk s.toArray).extract 0 s.length) = ⟨s.toArray⟩ := by
        apply ByteArray.ext
        rw [ByteArray.data_extract]
        simp
      simp [Builtin.firstCells, this, pure]
  · cases h

/-- A row told anew: its values go on, behind it there is more. -/
theorem oneC_scalarsIf {ylit : Bool} {ys : List SV} {us : List Value} (h : scalarsIf ylit ys = true) (hp : ylit = false → ∀ x ∈ ys, plainV x = true) (hd : denL ρ ys us) : ∀ v ∈ us, oneC v = true := by
  refine denL_oneC ?_ hd
  cases ylit with
  | true => exact h
  | false =>
    have : ∀ (ys : List SV), (∀ x ∈ ys, plainV x = true) → scalars ys = true := by
      intro ys
      induction ys with
      | nil => intro _; rfl
      | cons y ys ih =>
        intro hh
        simp only [scalars, Bool.and_eq_true]
        refine ⟨?_, ih fun x hx => hh x (by simp [hx])⟩
        have := hh y (by simp)
        cases y <;> simp [plainV] at this <;> rfl
    exact this ys (hp rfl)
end
end Cz
