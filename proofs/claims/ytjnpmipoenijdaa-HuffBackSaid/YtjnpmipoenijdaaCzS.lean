/- The engine, part S: steps at the open parts; values that say less. No condition. -/
import Derived.Test.YtjnpmipoenijdaaCzQ
namespace Cz
open Go Go.RowKit
set_option linter.unusedSimpArgs false
set_option linter.unusedVariables false

section
variable {P : Program} {l : List Blk}

theorem s_br {S : Sy} {b : Bool} {k1 k2 : Unit → Prop} (hS : S0 P = S) (h1 : b = true → k1 ()) (h2 : b = false → k2 ()) : S.br b k1 k2 := by subst hS; exact ⟨h1, h2⟩
theorem s_chk {S : Sy} {b : Bool} {k : Unit → Prop} (hS : S0 P = S) (h1 : b = true) (h2 : k ()) : S.chk b k := by subst hS; exact ⟨h1, h2⟩
theorem s_eqo {S : Sy} {sig : Sg} {x y : SV} {k1 k2 : Unit → Prop} (hS : S0 P = S) (h : veq S sig x y k1 k2) : S.eqv sig x y k1 k2 := by subst hS; rw [eqv_eq]; exact h
theorem s_mk {S : Sy} {zero : List SV} {n c : Int} {K : List SV → Prop} (hS : S0 P = S) (hc : n = c) (h0 : 0 ≤ n) (h1 : n ≤ 65536) (hp : plains (repS n.toNat zero) = true) (h : K (repS n.toNat zero)) : S.mkr zero n c K := by subst hS; exact ⟨hc, h0, h1, hp, h⟩
theorem s_lk {S : Sy} {sig : Sg} {key zero : SV} {K : SV → Bool → Prop} {es : List (SV × SV)} (hS : S0 P = S) (h : vlook S sig key K zero es) : S.lk sig key K zero es := by subst hS; rw [lk_eq]; exact h
theorem s_mu {S : Sy} {sig : Sg} {key v : SV} {K : List (SV × SV) → Prop} {es acc : List (SV × SV)} (hS : S0 P = S) (h : vmupd S sig key v K acc es) : S.mu sig key v K acc es := by subst hS; rw [mu_eq]; exact h
theorem veq1_same {s : Kd} {x : SV} {k1 k2 : Unit → Prop} (hk : kinds [s] [x] [x] = true) (h : k1 ()) : veq1 (S0 P) s x x k1 k2 := by
  cases s <;> cases x <;> simp [kinds] at hk <;> simp only [veq1]
  case kb.tt => exact h
  case kb.ff => exact h
  case kb.b x => exact ⟨fun _ => h, fun e => by simp [S0] at e⟩
  case ki.i k z =>
    simp only [if_true]
    cases z
    · simp only [if_true]; exact h
    · exact ⟨fun _ => h, fun e => by simp [S0, BK.cmpLit] at e⟩
  case ks.s x => exact ⟨fun _ => h, fun e => by simp [S0, scmpS] at e⟩
theorem veqL_same : ∀ {ss : List Kd} {xs : List SV} {k1 k2 : Unit → Prop}, kinds ss xs xs = true → k1 () → veqL (S0 P) ss xs xs k1 k2
  | [], [], _, _, _, h => by simpa only [veqL] using h
  | [], _ :: _, _, _, hk, _ => by simp [kinds] at hk
  | s :: ss, [], _, _, hk, _ => by cases s <;> simp [kinds] at hk
  | s :: ss, x :: xs, k1, k2, hk, h => by
    have hb : kinds [s] [x] [x] = true ∧ kinds ss xs xs = true := by
      cases s <;> cases x <;> simp [kinds] at hk ⊢ <;> first | exact hk | (split at hk <;> simp_all)
    simp only [veqL]
    exact veq1_same hb.1 (veqL_same hb.2 h)
/-- A value is what it is. -/
theorem s_eqs {S : Sy} {sig : Sg} {x : SV} {k1 k2 : Unit → Prop} (hS : S0 P = S) (hk : vkey sig x = true) (h : k1 ()) : S.eqv sig x x k1 k2 := by
  subst hS
  rw [eqv_eq]
  unfold vkey at hk
  unfold veq
  cases hx : cellsOf x with
  | none => rw [hx] at hk; cases hk
  | some xs =>
    rw [hx] at hk
    simp only [Bool.and_eq_true] at hk
    have ha : isAg x = sig.agg := by
      have := hk.1
      cases h1 : isAg x <;> cases h2 : sig.agg <;> simp [h1, h2] at this <;> rfl
    simp only [ha, hk.2, and_self, if_true]
    exact veqL_same hk.2 h
theorem a_call {S : Sy} {g : FuncId} {args : List SV} {K : SV → List Blk → Prop} (hS : S0 P = S) (h : (S0 P).call g args l K) : S.call g args l K := by subst hS; exact h
theorem s_loop {S : Sy} {cx : Cx} {b : IR} {e : Env} {K : VK} (hS : S0 P = S) (h : (S0 P).loop cx b e l K) : S.loop cx b e l K := by subst hS; exact h
theorem s_jump {S : Sy} {cx : Cx} {b i : IR} {g : Nat} {e : Env} {K : VK} (hS : S0 P = S) (hi : findL b g = some i)
    (h : vc S cx i (scpK S cx b K) e l) : S.jump cx b g e l K := by subst hS; exact jump_in hi h
theorem call_in' {S : Sy} {g n : Nat} {rs : List RV} {ir : IR} {args : List SV} {K : SV → List Blk → Prop} (hS : S0 P = S) (hF : FnIs P g n rs ir)
    (h : vc S ⟨none, len l⟩ ir (vret S rs K) ⟨catS args (repU (n - lenS args)), []⟩ l) : S.call g args l K := by subst hS; exact call_in hF h
theorem rfc_in' {S : Sy} {g n : Nat} {rs : List RV} {ir : IR} {args : List SV} {K : SV → List Blk → Prop} (hS : S0 P = S) (hF : FnIs P g n rs ir)
    (h : vc S ⟨none, len l⟩ ir (vret S rs K) ⟨catS args (repU (n - lenS args)), []⟩ l) : S.rfc g args l K := by subst hS; exact rfc_in hF h
theorem s_rd {S : Sy} {F : List SV} {i : Int} {sz j n : Nat} {agg : Bool} {K : SV → Prop} (hS : S0 P = S) (h0 : 0 ≤ i) (h1 : (i.toNat + 1) * sz ≤ F.length) (h2 : j + n ≤ sz) {v : SV}
    (h3 : mkv agg ((F.drop (i.toNat * sz + j)).take n) = some v) (h4 : K v) : S.rd F i sz j n agg K := by subst hS; exact ⟨h0, h1, h2, v, h3, h4⟩
theorem s_wr {S : Sy} {F : List SV} {i : Int} {sz j : Nat} {ws : List SV} {K : List SV → Prop} (hS : S0 P = S) (h0 : 0 ≤ i) (h1 : (i.toNat + 1) * sz ≤ F.length) (h2 : j + ws.length ≤ sz) (h3 : plains ws = true)
    (h4 : K (repl F (i.toNat * sz + j) ws)) : S.wr F i sz j ws K := by subst hS; exact ⟨h0, h1, h2, h3, h4⟩

/-! ### What the open parts come to -/
theorem cmp_le {a b : Int} : (S0 P).cmp .le a b = decide (a ≤ b) := rfl
theorem cmp_lt {a b : Int} : (S0 P).cmp .lt a b = decide (a < b) := rfl
theorem cmp_ge {a b : Int} : (S0 P).cmp .ge a b = decide (b ≤ a) := rfl
theorem cmp_gt {a b : Int} : (S0 P).cmp .gt a b = decide (b < a) := rfl
theorem cmp_eq {a b : Int} : (S0 P).cmp .eq a b = decide (a = b) := rfl
theorem cmp_ne {a b : Int} : (S0 P).cmp .ne a b = !decide (a = b) := rfl
theorem pl_eq {a b : Int} : (S0 P).pl a b = a + b := rfl
theorem mi_eq {a b : Int} : (S0 P).mi a b = a - b := rfl
theorem sc_eq {a : Int} {n : Nat} : (S0 P).sc a n = a * n := rfl
theorem nt_eq {a : Bool} : (S0 P).nt a = !a := rfl
theorem beq_eq {a b : Bool} : (S0 P).beq a b = (a == b) := rfl
theorem s_ar {S : Sy} {op : BK} {k : IntKind} {a b : Int} {K : Int → Prop} (hS : S0 P = S) (h : ∀ r, r = arS op k a b → K r) : S.ar op k a b K := by subst hS; exact h _ rfl
theorem s_cvr {S : Sy} {k : IntKind} {a : Int} {K : Int → Prop} (hS : S0 P = S) (h : ∀ r, r = k.wrap a → K r) : S.cv k a K := by subst hS; exact h _ rfl
theorem s_are {S : Sy} {op : BK} {k : IntKind} {a b : Int} {K : Int → Prop} (hS : S0 P = S) (r : Int) (hr : arS op k a b = r) (h : K r) : S.ar op k a b K := by subst hS; subst hr; exact h
theorem s_cve {S : Sy} {k : IntKind} {a : Int} {K : Int → Prop} (hS : S0 P = S) (r : Int) (hr : k.wrap a = r) (h : K r) : S.cv k a K := by subst hS; subst hr; exact h
/-- The numbers that a kind has. -/
def lo : IntKind → Int
  | .i8 => -128
  | .i16 => -32768
  | .i32 => -2147483648
  | .i64 => -9223372036854775808
  | .u8 => 0
  | .u16 => 0
  | .u32 => 0
  | .u64 => 0
def hi : IntKind → Int
  | .i8 => 127
  | .i16 => 32767
  | .i32 => 2147483647
  | .i64 => 9223372036854775807
  | .u8 => 255
  | .u16 => 65535
  | .u32 => 4294967295
  | .u64 => 18446744073709551615
theorem wrap_id {k : IntKind} {n : Int} (h : lo k ≤ n) (h' : n ≤ hi k) : k.wrap n = n := by
  cases k <;> simp only [lo, hi] at h h' <;> simp [IntKind.wrap, IntKind.bits, IntKind.signed] <;> omega
theorem s_cvi {S : Sy} {k : IntKind} {a : Int} {K : Int → Prop} (hS : S0 P = S) (h : K a) (h1 : lo k ≤ a) (h2 : a ≤ hi k) : S.cv k a K := s_cve hS a (wrap_id h1 h2) h
theorem s_add {S : Sy} {k : IntKind} {a b : Int} {K : Int → Prop} (hS : S0 P = S) (h : ∀ r, r = a + b → K r) (h1 : lo k ≤ a + b) (h2 : a + b ≤ hi k) : S.ar .add k a b K := s_are hS _ (wrap_id h1 h2) (h _ rfl)
theorem s_sub {S : Sy} {k : IntKind} {a b : Int} {K : Int → Prop} (hS : S0 P = S) (h : ∀ r, r = a - b → K r) (h1 : lo k ≤ a - b) (h2 : a - b ≤ hi k) : S.ar .sub k a b K := s_are hS _ (wrap_id h1 h2) (h _ rfl)
theorem s_mul {S : Sy} {k : IntKind} {a b : Int} {K : Int → Prop} (hS : S0 P = S) (h : ∀ r, r = a * b → K r) (h1 : lo k ≤ a * b) (h2 : a * b ≤ hi k) : S.ar .mul k a b K := s_are hS _ (wrap_id h1 h2) (h _ rfl)
theorem slen_eq {x : List UInt8} : (S0 P).slen x = x.length := rfl
theorem flen_eq {x : List SV} : (S0 P).flen x = x.length := rfl
theorem app_eq {x y : List SV} : (S0 P).app x y = x ++ y := rfl
theorem scmp_eq {x y : List UInt8} : (S0 P).scmp .eq x y = (x == y) := rfl
theorem scmp_ne {x y : List UInt8} : (S0 P).scmp .ne x y = !(x == y) := rfl

/-- All these at once. -/
theorem cq : (∀ {a b : Int}, (S0 P).cmp .le a b = decide (a ≤ b)) ∧ (∀ {a b : Int}, (S0 P).cmp .lt a b = decide (a < b)) ∧ (∀ {a b : Int}, (S0 P).cmp .ge a b = decide (b ≤ a)) ∧
    (∀ {a b : Int}, (S0 P).cmp .gt a b = decide (b < a)) ∧ (∀ {a b : Int}, (S0 P).cmp .eq a b = decide (a = b)) ∧ (∀ {a b : Int}, (S0 P).cmp .ne a b = !decide (a = b)) ∧
    (∀ {a b : Int}, (S0 P).pl a b = a + b) ∧ (∀ {a b : Int}, (S0 P).mi a b = a - b) ∧ (∀ {a : Int} {n : Nat}, (S0 P).sc a n = a * n) ∧ (∀ {x : List UInt8}, (S0 P).slen x = x.length) ∧ (∀ {x : List SV}, (S0 P).flen x = x.length) ∧
    (∀ {a : Bool}, (S0 P).nt a = !a) ∧ (∀ {a b : Bool}, (S0 P).beq a b = (a == b)) ∧ (∀ {x y : List UInt8}, (S0 P).scmp .eq x y = (x == y)) ∧ (∀ {x y : List UInt8}, (S0 P).scmp .ne x y = !(x == y)) ∧
    (∀ {b : Bool}, ((!b) = true) = (b = false)) ∧ (∀ {b : Bool}, ((!b) = false) = (b = true)) ∧ ((!true) = false) ∧ ((!false) = true) :=
  ⟨rfl, rfl, rfl, rfl, rfl, rfl, rfl, rfl, rfl, rfl, rfl, rfl, rfl, rfl, rfl, by simp, by simp, rfl, rfl⟩

/-! ### Saying less -/
structure Sub (x y : SV) : Prop where
  of : ∀ (ρ : Nms) (v : Value), den ρ x v → den ρ y v
inductive SubL : List SV → List SV → Prop where
  | nil : SubL [] []
  | cons {x y : SV} {xs ys : List SV} (h : Sub x y) (hs : SubL xs ys) : SubL (x :: xs) (y :: ys)

theorem SubL.den {xs ys : List SV} (h : SubL xs ys) : ∀ {ρ : Nms} {vs : List Value}, denL ρ xs vs → denL ρ ys vs := by
  induction h with
  | nil => exact fun d => d
  | cons h _ ih =>
    intro ρ vs d
    match vs, d with
    | v :: vs, d =>
      simp only [denL] at d ⊢
      exact ⟨h.of _ _ d.1, ih d.2⟩
theorem Sub.rfl {x : SV} : Sub x x := ⟨fun _ _ d => d⟩
theorem SubL.rfl : ∀ {xs : List SV}, SubL xs xs
  | [] => .nil
  | _ :: _ => .cons .rfl SubL.rfl
theorem sub_tt {x : Bool} (h : x = true) : Sub .tt (.b x) := ⟨fun _ _ d => by simp only [den] at d ⊢; rw [d, h]⟩
theorem sub_ff {x : Bool} (h : x = false) : Sub .ff (.b x) := ⟨fun _ _ d => by simp only [den] at d ⊢; rw [d, h]⟩
theorem sub_b {x y : Bool} (h : x = y) : Sub (.b x) (.b y) := by subst h; exact .rfl
theorem sub_i {k : IntKind} {a b : Z} (h : a.v = b.v) : Sub (.i k a) (.i k b) := ⟨fun _ _ d => by simp only [den] at d ⊢; rw [d, h]⟩
theorem sub_s {x y : List UInt8} (h : x = y) : Sub (.s x) (.s y) := by subst h; exact .rfl
theorem sub_any {x : SV} : Sub x .any := ⟨fun _ _ _ => by simp only [den]⟩
theorem sub_b_tt {x : Bool} (h : x = true) : Sub (.b x) .tt := ⟨fun _ _ d => by simp only [den] at d ⊢; rw [d, h]⟩
theorem sub_b_ff {x : Bool} (h : x = false) : Sub (.b x) .ff := ⟨fun _ _ d => by simp only [den] at d ⊢; rw [d, h]⟩
theorem Sub.trans {x y z : SV} (h : Sub x y) (h' : Sub y z) : Sub x z := ⟨fun ρ v d => h'.of ρ v (h.of ρ v d)⟩
theorem sub_ag {xs ys : List SV} (h : SubL xs ys) : Sub (.ag xs) (.ag ys) := ⟨fun _ _ d => by
  simp only [den] at d ⊢
  obtain ⟨vs, e, d⟩ := d
  exact ⟨vs, e, h.den d⟩⟩
theorem sub_tp {xs ys : List SV} (h : SubL xs ys) : Sub (.tp xs) (.tp ys) := ⟨fun _ _ d => by
  simp only [den] at d ⊢
  obtain ⟨vs, e, d⟩ := d
  exact ⟨vs, e, h.den d⟩⟩

/-- A call whose arguments are known better, whose result may be said less of. -/
theorem call_sub {g : FuncId} {args args' : List SV} {K : SV → List Blk → Prop} (ha : SubL args args') (h : (S0 P).call g args' l K) : (S0 P).call g args l K :=
  fun N W0 ρ W vals hR hd => h N W0 ρ W vals hR (ha.den hd)
theorem call_post {g : FuncId} {args : List SV} {K K' : SV → List Blk → Prop} (h : (S0 P).call g args l K') (hK : ∀ sv l', K' sv l' → ∃ sv', Sub sv sv' ∧ K sv' l') : (S0 P).call g args l K := by
  intro N W0 ρ W vals hR hd
  refine NextR.mono ?_ (h N W0 ρ W vals hR hd)
  rintro v W' ⟨ρ', sv, l', hk, h1, h2, h3, h4⟩
  obtain ⟨sv', hs, hk'⟩ := hK sv l' hk
  exact ⟨ρ', sv', l', hk', h1, h2, h3, hs.of _ _ h4⟩

mutual
theorem refsB_mono {ok ok' : Nat → Bool} (hk : ∀ k, ok k = true → ok' k = true) : ∀ (x : SV), refsB ok x = true → refsB ok' x = true
  | .tt, _ => rfl
  | .ff, _ => rfl
  | .b _, _ => rfl
  | .i _ _, _ => rfl
  | .s _, _ => rfl
  | .p k _, h => by simp only [refsB] at h ⊢; exact hk _ h
  | .pe k _ _ _, h => by simp only [refsB] at h ⊢; exact hk _ h
  | .sl k _ _ _ _, h => by simp only [refsB] at h ⊢; exact hk _ h
  | .ag cs, h => by simp only [refsB] at h ⊢; exact refsBL_mono hk cs h
  | .tp cs, h => by simp only [refsB] at h ⊢; exact refsBL_mono hk cs h
  | .fn _ a c, h => by simp only [refsB, Bool.and_eq_true] at h ⊢; exact ⟨refsBL_mono hk a h.1, refsBL_mono hk c h.2⟩
  | .yl k, h => by simp only [refsB] at h ⊢; exact hk _ h
  | .m k, h => by simp only [refsB] at h ⊢; exact hk _ h
  | .re _, _ => rfl
  | .un, _ => rfl
  | .any, _ => rfl
theorem refsBL_mono {ok ok' : Nat → Bool} (hk : ∀ k, ok k = true → ok' k = true) : ∀ (xs : List SV), refsBL ok xs = true → refsBL ok' xs = true
  | [], _ => rfl
  | x :: xs, h => by simp only [refsBL, Bool.and_eq_true] at h ⊢; exact ⟨refsB_mono hk x h.1, refsBL_mono hk xs h.2⟩
end

/-- A function of values alone, called in any heap. -/
theorem call_val {g : FuncId} {args : List SV} {sv : SV} {K : SV → List Blk → Prop} (hF : (S0 P).call g args [] (fun x _ => Sub x sv)) (ha : refsBL (fun _ => false) args = true)
    (hs : refsB (fun _ => false) sv = true) (hK : K sv l) : (S0 P).call g args l K := by
  have h1 : (S0 P).call g args [] (fun x _ => x = sv) := call_post hF fun x l' hx => ⟨sv, hx, rfl⟩
  refine call_frame h1 id (renL_noref id args ha).symm (refsBL_mono (fun _ h => by cases h) _ ha) (fun j B h => by simp at h) ?_
  rintro x l' rfl
  refine ⟨[], id, List.nodup_nil, by simp, refsB_mono (fun _ h => by cases h) _ hs, ?_⟩
  rw [ren_noref _ _ hs]
  simpa using hK

theorem SubL.fsub {xs ys : List SV} (h : SubL xs ys) : FSub xs ys := by
  induction h with
  | nil => exact FSub.rfl
  | cons h _ ih =>
    refine ⟨by simp [ih.1], fun q x hx => ?_⟩
    cases q with
    | zero => simp only [List.getElem?_cons_zero, Option.some.injEq] at hx; subst hx; exact ⟨_, by simp, h.of⟩
    | succ q => simp only [List.getElem?_cons_succ] at hx ⊢; exact ih.2 q x hx

/-- The rows that a function reads, in the caller's heap. -/
def Rds (l : List Blk) (f : Nat → Nat) : Nat → List Blk → Prop
  | _, [] => True
  | j, B :: r => (∃ lit st sz F ro' lit' st' F', B = .r true lit st sz F ∧ plains F = true ∧ lget l (f j) = .r ro' lit' st' sz F' ∧ FSub F' F) ∧ Rds l f (j + 1) r
theorem Rds.at {f : Nat → Nat} : ∀ {l0 : List Blk} {i : Nat}, Rds l f i l0 → ∀ j B, l0[j]? = some B →
    ∃ lit st sz F ro' lit' st' F', B = .r true lit st sz F ∧ plains F = true ∧ l[f (i + j)]? = some (.r ro' lit' st' sz F') ∧ FSub F' F
  | [], _, _, j, B, h => by simp at h
  | B :: r, i, hr, 0, C, h => by
    simp only [List.getElem?_cons_zero, Option.some.injEq] at h; subst h
    obtain ⟨⟨lit, st, sz, F, ro', lit', st', F', h1, h2, h3, h4⟩, _⟩ := hr
    exact ⟨lit, st, sz, F, ro', lit', st', F', h1, h2, lget_some h3 (by simp), h4⟩
  | B :: r, i, hr, j + 1, C, h => by
    have := Rds.at hr.2 j C (by simpa using h)
    rw [show i + (j + 1) = i + 1 + j by omega]; exact this

/-- A function that reads rows and tells a value without memory of its own. -/
theorem call_read {g : FuncId} {args0 args : List SV} {l0 : List Blk} {sv : SV} {K : SV → List Blk → Prop} (f : Nat → Nat) (hF : (S0 P).call g args0 l0 (fun x _ => Sub x sv)) (ha : SubL args (renL f args0))
    (hrefs : refsBL (fun k => decide (k < l0.length)) args0 = true) (hread : Rds l f 0 l0) (hs : refsB (fun _ => false) sv = true) (hK : K sv l) : (S0 P).call g args l K := by
  have h1 : (S0 P).call g args0 l0 (fun x _ => x = sv) := call_post hF fun x l' hx => ⟨sv, hx, rfl⟩
  refine call_sub ha (call_frame h1 f rfl hrefs (fun j B h => by have := hread.at j B h; simpa using this) ?_)
  rintro x l' rfl
  refine ⟨[], id, List.nodup_nil, by simp, refsB_mono (fun _ h => by cases h) _ hs, ?_⟩
  rw [ren_noref _ _ hs]
  simpa using hK

/-! ### Plain values by their kinds -/
def isB : SV → Bool
  | .tt | .ff | .b _ => true
  | _ => false
def bv : SV → Bool
  | .tt => true
  | .b x => x
  | _ => false
def isI (k : IntKind) : SV → Bool
  | .i k' _ => decide (k' = k)
  | _ => false
def iv : SV → Int
  | .i _ z => z.v
  | _ => 0
theorem sub_isB {x : SV} (h : isB x = true) : Sub x (.b (bv x)) := by
  cases x <;> simp [isB] at h
  · exact sub_tt rfl
  · exact sub_ff rfl
  · exact .rfl
theorem sub_isI {k : IntKind} {x : SV} (h : isI k x = true) : Sub x (.i k (.y (iv x))) := by
  cases x <;> simp [isI] at h
  subst h
  exact sub_i rfl
end
end Cz
