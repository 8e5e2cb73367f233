/- The engine, part X: what operations read; operations whose outcome is settled. No condition. -/
import Derived.Test.YtjnpmipoenijdaaCzS
import Derived.Orders
namespace Cz
open Go Go.RowKit
set_option linter.unusedSimpArgs false
set_option linter.unusedVariables false

def Opd.rd : Opd → List Nat
  | .t n => [n]
  | .c _ => []
def rdL : List Opd → List Nat
  | [] => []
  | x :: xs => x.rd ++ rdL xs
def rdO : Option Opd → List Nat
  | none => []
  | some x => x.rd
def rdP : List (Nat × Nat × Opd) → List Nat
  | [] => []
  | (_, _, x) :: r => x.rd ++ rdP r
def rdQ : List (Nat × Opd) → List Nat
  | [] => []
  | (_, x) :: r => x.rd ++ rdQ r
/-- The slots that an operation reads. -/
def AOp.rd : AOp → List Nat
  | .nilS _ x | .cvLL x | .mv x | .box x | .nilc x | .not x | .neg x | .cv _ x | .cvSS x | .cvBS x | .cvSB x | .fad _ x | .fld _ _ _ x | .ext x _ | .len _ x | .load _ _ x => x.rd
  | .pick c a b => c.rd ++ (a.rd ++ b.rd)
  | .alloc _ | .mkM => []
  | .build _ ps => rdP ps
  | .buildS _ _ _ ps => rdQ ps
  | .store _ x v => x.rd ++ v.rd
  | .bin _ x y | .eqA _ _ x y | .eqN _ _ x y | .iadA _ _ x y | .iadS _ x y | .ixA _ _ _ x y | .ixS x y | .look _ _ _ x y | .app _ x y => x.rd ++ y.rd
  | .mkF _ a c => rdL a ++ rdL c
  | .mkS _ _ n c => n.rd ++ c.rd
  | .slc _ x lo hi mx => x.rd ++ (rdO lo ++ (rdO hi ++ rdO mx))
  | .slcS x lo hi => x.rd ++ (rdO lo ++ rdO hi)
  | .mupd _ m k v => m.rd ++ (k.rd ++ v.rd)
  | .call f args => f.rd ++ rdL args
/-- Operations of values alone. -/
def AOp.pure : AOp → Bool
  | .mv _ | .pick _ _ _ | .build _ _ | .bin _ _ _ | .eqA _ _ _ _ | .eqN _ _ _ _ | .not _ | .neg _ | .cv _ _ | .cvSS _ | .mkF _ _ _ | .slc _ _ _ _ _ | .slcS _ _ _ | .fad _ _
  | .fld _ _ _ _ | .iadS _ _ _ | .ixA _ _ _ _ _ | .ixS _ _ | .ext _ _ | .len _ _ | .nilc _ => true
  | _ => false
/-- Operations that read memory. -/
def AOp.reads : AOp → Bool
  | .load _ _ _ | .cvBS _ | .look _ _ _ _ _ | .iadA _ _ _ _ => true
  | _ => false

section
variable {P : Program} {S : Sy} {vs vs' : List SV} {l : List Blk}

theorem ev_congr {x : Opd} (h : ∀ q ∈ x.rd, nth vs q = nth vs' q) : ev vs x = ev vs' x := by
  cases x with
  | t n => exact h n (by simp [Opd.rd])
  | c x => rfl
theorem evs_congr : ∀ {xs : List Opd}, (∀ q ∈ rdL xs, nth vs q = nth vs' q) → evs vs xs = evs vs' xs
  | [], _ => rfl
  | x :: xs, h => by
    simp only [rdL, List.mem_append] at h
    simp only [evs, ev_congr (fun q hq => h q (.inl hq)), evs_congr (fun q hq => h q (.inr hq))]
theorem fillS_congr : ∀ {ps : List (Nat × Nat × Opd)} {cs : List SV}, (∀ q ∈ rdP ps, nth vs q = nth vs' q) → fillS vs cs ps = fillS vs' cs ps
  | [], _, _ => rfl
  | (_, _, x) :: r, cs, h => by
    simp only [rdP, List.mem_append] at h
    simp only [fillS, ev_congr (fun q hq => h q (.inl hq)), fillS_congr (fun q hq => h q (.inr hq))]
theorem rdQ_map (sz : Nat) : ∀ (ps : List (Nat × Opd)), rdP (ps.map fun (i, x) => (i * sz, sz, x)) = rdQ ps
  | [] => rfl
  | (i, x) :: r => by simp [rdP, rdQ, rdQ_map sz r]
theorem optZ_congr {d : Z} {x : Option Opd} (h : ∀ q ∈ rdO x, nth vs q = nth vs' q) : optZ vs d x = optZ vs' d x := by
  cases x with
  | none => rfl
  | some x => simp only [optZ, ev_congr h]

theorem vop_congr {o : AOp} {K : SV → List Blk → Prop} (h : ∀ q ∈ o.rd, nth vs q = nth vs' q) : vop S o vs l K = vop S o vs' l K := by
  cases o <;> simp only [AOp.rd, List.mem_append] at h
  case mv x => simp only [vop, ev_congr h]
  case cvLL x => simp only [vop, ev_congr h]
  case nilS _ x => simp only [vop, ev_congr h]
  case box x => simp only [vop, ev_congr h]
  case nilc x => simp only [vop, ev_congr h]
  case not x => simp only [vop, ev_congr h]
  case neg x => simp only [vop, ev_congr h]
  case cv _ x => simp only [vop, ev_congr h]
  case cvSS x => simp only [vop, ev_congr h]
  case cvBS x => simp only [vop, ev_congr h]
  case cvSB x => simp only [vop, ev_congr h]
  case fad _ x => simp only [vop, ev_congr h]
  case fld _ _ _ x => simp only [vop, ev_congr h]
  case ext x _ => simp only [vop, ev_congr h]
  case len _ x => simp only [vop, ev_congr h]
  case load _ _ x => simp only [vop, ev_congr h]
  case pick c a b => simp only [vop, ev_congr (fun q hq => h q (.inl hq)), ev_congr (fun q hq => h q (.inr (.inl hq))), ev_congr (fun q hq => h q (.inr (.inr hq)))]
  case alloc => simp only [vop]
  case mkM => simp only [vop]
  case build z ps => simp only [vop, fillS_congr h]
  case buildS sz n z ps => simp only [vop, fillS_congr (ps := ps.map fun (i, x) => (i * sz, sz, x)) (by rw [rdQ_map]; exact h)]
  case store _ x y => simp only [vop, ev_congr (fun q hq => h q (.inl hq)), ev_congr (fun q hq => h q (.inr hq))]
  case bin _ x y => simp only [vop, ev_congr (fun q hq => h q (.inl hq)), ev_congr (fun q hq => h q (.inr hq))]
  case eqA _ _ x y => simp only [vop, ev_congr (fun q hq => h q (.inl hq)), ev_congr (fun q hq => h q (.inr hq))]
  case eqN _ _ x y => simp only [vop, ev_congr (fun q hq => h q (.inl hq)), ev_congr (fun q hq => h q (.inr hq))]
  case iadA _ _ x y => simp only [vop, ev_congr (fun q hq => h q (.inl hq)), ev_congr (fun q hq => h q (.inr hq))]
  case iadS _ x y => simp only [vop, ev_congr (fun q hq => h q (.inl hq)), ev_congr (fun q hq => h q (.inr hq))]
  case ixA _ _ _ x y => simp only [vop, ev_congr (fun q hq => h q (.inl hq)), ev_congr (fun q hq => h q (.inr hq))]
  case ixS x y => simp only [vop, ev_congr (fun q hq => h q (.inl hq)), ev_congr (fun q hq => h q (.inr hq))]
  case look _ _ _ x y => simp only [vop, ev_congr (fun q hq => h q (.inl hq)), ev_congr (fun q hq => h q (.inr hq))]
  case app _ x y => simp only [vop, ev_congr (fun q hq => h q (.inl hq)), ev_congr (fun q hq => h q (.inr hq))]
  case mkF _ a c => simp only [vop, evs_congr (fun q hq => h q (.inl hq)), evs_congr (fun q hq => h q (.inr hq))]
  case mkS _ _ n c => simp only [vop, ev_congr (fun q hq => h q (.inl hq)), ev_congr (fun q hq => h q (.inr hq))]
  case slc _ x lo hi mx =>
    have hm : ∀ m, mx = some m → ev vs m = ev vs' m := fun m e => ev_congr fun q hq => h q (.inr (.inr (.inr (by rw [e]; exact hq))))
    have e2 := fun d => optZ_congr (d := d) (fun q hq => h q (.inr (.inl hq)))
    have e3 := fun d => optZ_congr (d := d) (fun q hq => h q (.inr (.inr (.inl hq))))
    have e4 := fun d => optZ_congr (d := d) (fun q hq => h q (.inr (.inr (.inr hq))))
    have e1 : ev vs x = ev vs' x := ev_congr (fun q hq => h q (.inl hq))
    simp only [vop, e1, e2, e3, e4]
    generalize ev vs' x = y
    rcases y with _ | _ | _ | _ | _ | _ | _ | ⟨k, sz', off, ln, cap⟩ | _ | _ | _ | _ | _ | u | _ | _ <;> try rfl
    case re => rcases u with _ | _ | _ | _ | _ | _ | ⟨_ | _, _ | _, _ | _⟩ | _ <;> rfl
    dsimp only
    cases optZ vs' (.l 0) lo <;> cases optZ vs' ln hi <;> cases mx <;> cases cap <;> first | rfl | (simp only [hm _ rfl]; done)
  case slcS x lo hi =>
    have e2 := fun d => optZ_congr (d := d) (fun q hq => h q (.inr (.inl hq)))
    have e3 := fun d => optZ_congr (d := d) (fun q hq => h q (.inr (.inr hq)))
    simp only [vop, ev_congr (fun q hq => h q (.inl hq)), e2, e3]
  case mupd _ m k v => simp only [vop, ev_congr (fun q hq => h q (.inl hq)), ev_congr (fun q hq => h q (.inr (.inl hq))), ev_congr (fun q hq => h q (.inr (.inr hq)))]
  case call f args => simp only [vop, ev_congr (fun q hq => h q (.inl hq)), evs_congr (fun q hq => h q (.inr hq))]

/-! ### Settled outcomes -/
theorem br_det {b : Bool} {k1 k2 : Unit → Prop} (h : (S0 P).br b k1 k2) :
    (k1 () ∧ ∀ j1 j2 : Unit → Prop, j1 () → (S0 P).br b j1 j2) ∨ (k2 () ∧ ∀ j1 j2 : Unit → Prop, j2 () → (S0 P).br b j1 j2) := by
  cases b
  · exact .inr ⟨h.2 rfl, fun j1 j2 h => ⟨(fun e => by cases e), fun _ => h⟩⟩
  · exact .inl ⟨h.1 rfl, fun j1 j2 h => ⟨fun _ => h, (fun e => by cases e)⟩⟩
theorem brv_det {x : SV} {k1 k2 : Unit → Prop} (h : brv (S0 P) x k1 k2) :
    (k1 () ∧ ∀ j1 j2 : Unit → Prop, j1 () → brv (S0 P) x j1 j2) ∨ (k2 () ∧ ∀ j1 j2 : Unit → Prop, j2 () → brv (S0 P) x j1 j2) := by
  cases x <;> simp only [brv] at h ⊢
  case tt => exact .inl ⟨h, fun _ _ h => h⟩
  case ff => exact .inr ⟨h, fun _ _ h => h⟩
  case b x => exact br_det h
theorem chk_det {b : Bool} {k : Unit → Prop} (h : (S0 P).chk b k) : k () ∧ ∀ j : Unit → Prop, j () → (S0 P).chk b j := ⟨h.2, fun _ hj => ⟨h.1, hj⟩⟩
theorem zle_det {a b : Z} {k : Unit → Prop} (h : zle (S0 P) a b k) : k () ∧ ∀ j : Unit → Prop, j () → zle (S0 P) a b j := by
  unfold zle at h ⊢
  split at h
  · split at h
    · rename_i hh; exact ⟨h, fun j hj => by rw [if_pos hh]; exact hj⟩
    · exact h.elim
  · exact chk_det h
theorem zlt_det {a b : Z} {k : Unit → Prop} (h : zlt (S0 P) a b k) : k () ∧ ∀ j : Unit → Prop, j () → zlt (S0 P) a b j := by
  unfold zlt at h ⊢
  split at h
  · split at h
    · rename_i hh; exact ⟨h, fun j hj => by rw [if_pos hh]; exact hj⟩
    · exact h.elim
  · exact chk_det h

def VDet (T : (SV → Prop) → Prop) : Prop := ∀ K, T K → ∃ v, K v ∧ ∀ J, J v → T J
theorem VDet.ret {v : SV} : VDet (fun K => K v) := fun _ h => ⟨v, h, fun _ hj => hj⟩
theorem VDet.no : VDet (fun _ => False) := fun _ h => h.elim
theorem VDet.ite {c : Prop} [Decidable c] {T U : (SV → Prop) → Prop} (hT : VDet T) (hU : VDet U) : VDet (fun K => if c then T K else U K) := by
  intro K h
  by_cases hc : c
  · rw [if_pos hc] at h
    obtain ⟨v, h1, h2⟩ := hT K h
    exact ⟨v, h1, fun J hj => by simp only [if_pos hc]; exact h2 J hj⟩
  · rw [if_neg hc] at h
    obtain ⟨v, h1, h2⟩ := hU K h
    exact ⟨v, h1, fun J hj => by simp only [if_neg hc]; exact h2 J hj⟩
theorem VDet.chk {b : Bool} {T : (SV → Prop) → Prop} (hT : VDet T) : VDet (fun K => (S0 P).chk b fun _ => T K) := by
  intro K h
  obtain ⟨v, h1, h2⟩ := hT K h.2
  exact ⟨v, h1, fun J hj => ⟨h.1, h2 J hj⟩⟩
theorem VDet.ar {op : BK} {k : IntKind} {a b : Int} : VDet (fun K => (S0 P).ar op k a b fun r => K (.i k (.y r))) := fun _ h => ⟨_, h, fun _ hj => hj⟩
theorem VDet.zle {a b : Z} {T : (SV → Prop) → Prop} (hT : VDet T) : VDet (fun K => zle (S0 P) a b fun _ => T K) := by
  intro K h
  obtain ⟨h0, hz⟩ := zle_det h
  obtain ⟨v, h1, h2⟩ := hT K h0
  exact ⟨v, h1, fun J hj => hz _ (h2 J hj)⟩
theorem VDet.zlt {a b : Z} {T : (SV → Prop) → Prop} (hT : VDet T) : VDet (fun K => zlt (S0 P) a b fun _ => T K) := by
  intro K h
  obtain ⟨h0, hz⟩ := zlt_det h
  obtain ⟨v, h1, h2⟩ := hT K h0
  exact ⟨v, h1, fun J hj => hz _ (h2 J hj)⟩
theorem VDet.opt {x : Option SV} : VDet (fun K => match x with | some v => K v | none => False) := by
  cases x with
  | none => exact VDet.no
  | some v => exact VDet.ret
theorem VDet.rd {F : List SV} {i : Int} {sz j n : Nat} {agg : Bool} : VDet (fun K => (S0 P).rd F i sz j n agg K) := by
  rintro K ⟨h0, h1, h2, v, hv, hk⟩
  exact ⟨v, hk, fun J hj => ⟨h0, h1, h2, v, hv, hj⟩⟩
theorem VDet.two {T : (Unit → Prop) → (Unit → Prop) → Prop} {x y : SV}
    (hT : ∀ k1 k2, T k1 k2 → (k1 () ∧ ∀ j1 j2 : Unit → Prop, j1 () → T j1 j2) ∨ (k2 () ∧ ∀ j1 j2 : Unit → Prop, j2 () → T j1 j2)) : VDet (fun K => T (fun _ => K x) (fun _ => K y)) := by
  intro K h
  rcases hT _ _ h with ⟨h1, h2⟩ | ⟨h1, h2⟩
  · exact ⟨x, h1, fun J hj => h2 _ _ hj⟩
  · exact ⟨y, h1, fun J hj => h2 _ _ hj⟩

theorem vbin_det {op : BK} {x y : SV} : VDet (fun K => vbin (S0 P) op x y K) := by
  cases x <;> cases y <;> simp only [vbin] <;> try exact VDet.no
  case i.i k a k' b =>
    cases op <;> cases b <;> (try dsimp only) <;>
      first
        | exact VDet.ite (VDet.ite VDet.no VDet.ar) VDet.no
        | exact VDet.ite (VDet.chk VDet.ar) VDet.no
        | exact VDet.ite VDet.ret VDet.no
        | exact VDet.ite VDet.ar VDet.no
        | exact VDet.chk VDet.ar
        | skip
    all_goals (cases a <;> simp only [BK.isCmp, BK.lit, if_true, if_false, Bool.false_eq_true] <;> first | exact VDet.ite VDet.ret VDet.no | exact VDet.ite VDet.ar VDet.no)
  case s.s a b => cases op <;> simp only [BK.isCmp, if_true, if_false, Bool.false_eq_true] <;> first | exact VDet.chk VDet.ret | exact VDet.ret | exact VDet.no

theorem veq1_det {s : Kd} {x y : SV} {k1 k2 : Unit → Prop} (h : veq1 (S0 P) s x y k1 k2) :
    (k1 () ∧ ∀ j1 j2 : Unit → Prop, j1 () → veq1 (S0 P) s x y j1 j2) ∨ (k2 () ∧ ∀ j1 j2 : Unit → Prop, j2 () → veq1 (S0 P) s x y j1 j2) := by
  cases s <;> cases x <;> simp only [veq1] at h ⊢ <;> cases y <;> simp only [] at h ⊢
  case kb.tt.tt => exact .inl ⟨h, fun _ _ h => h⟩
  case kb.ff.ff => exact .inl ⟨h, fun _ _ h => h⟩
  case kb.tt.ff => exact .inr ⟨h, fun _ _ h => h⟩
  case kb.ff.tt => exact .inr ⟨h, fun _ _ h => h⟩
  case kb.b.tt => exact br_det h
  case kb.tt.b => exact br_det h
  case kb.b.b => exact br_det h
  case kb.b.ff =>
    rcases br_det h with ⟨h1, h2⟩ | ⟨h1, h2⟩
    · exact .inr ⟨h1, fun _ _ h => h2 _ _ h⟩
    · exact .inl ⟨h1, fun _ _ h => h2 _ _ h⟩
  case kb.ff.b =>
    rcases br_det h with ⟨h1, h2⟩ | ⟨h1, h2⟩
    · exact .inr ⟨h1, fun _ _ h => h2 _ _ h⟩
    · exact .inl ⟨h1, fun _ _ h => h2 _ _ h⟩
  case ki.i.i k a k' b =>
    by_cases hk : k = k'
    · simp only [hk, if_true] at h ⊢
      cases a <;> cases b <;> simp only [] at h ⊢
      case l.l m n =>
        by_cases hm : m = n
        · simp only [hm, if_true] at h ⊢; exact .inl ⟨h, fun _ _ h => h⟩
        · simp only [hm, if_false] at h ⊢; exact .inr ⟨h, fun _ _ h => h⟩
      all_goals exact br_det h
    · simp only [hk, if_false] at h
  case ks.s.s => exact br_det h
theorem veqL_det : ∀ {ss : List Kd} {xs ys : List SV} {k1 k2 : Unit → Prop}, veqL (S0 P) ss xs ys k1 k2 →
    (k1 () ∧ ∀ j1 j2 : Unit → Prop, j1 () → veqL (S0 P) ss xs ys j1 j2) ∨ (k2 () ∧ ∀ j1 j2 : Unit → Prop, j2 () → veqL (S0 P) ss xs ys j1 j2)
  | [], _, _, k1, k2, h => by
    simp only [veqL] at h ⊢
    exact .inl ⟨h, fun _ _ h => h⟩
  | s :: ss, [], _, _, _, h => by simp [veqL] at h
  | s :: ss, _ :: _, [], _, _, h => by simp [veqL] at h
  | s :: ss, x :: xs, y :: ys, k1, k2, h => by
    simp only [veqL] at h ⊢
    rcases veq1_det h with ⟨h1, h2⟩ | ⟨h1, h2⟩
    · rcases veqL_det h1 with ⟨h3, h4⟩ | ⟨h3, h4⟩
      · exact .inl ⟨h3, fun j1 j2 h => h2 _ _ (h4 _ _ h)⟩
      · exact .inr ⟨h3, fun j1 j2 h => h2 _ _ (h4 _ _ h)⟩
    · exact .inr ⟨h1, fun j1 j2 h => h2 _ _ h⟩
theorem veq_det {sig : Sg} {x y : SV} (k1 k2 : Unit → Prop) (h : veq (S0 P) sig x y k1 k2) :
    (k1 () ∧ ∀ j1 j2 : Unit → Prop, j1 () → veq (S0 P) sig x y j1 j2) ∨ (k2 () ∧ ∀ j1 j2 : Unit → Prop, j2 () → veq (S0 P) sig x y j1 j2) := by
  unfold veq at h ⊢
  cases hx : cellsOf x <;> cases hy : cellsOf y <;> simp only [hx, hy] at h ⊢
  rename_i xs ys
  by_cases hc : isAg x = sig.agg ∧ isAg y = sig.agg ∧ kinds sig.ks xs ys = true
  · simp only [if_pos hc] at h ⊢; exact veqL_det h
  · simp only [if_neg hc] at h
theorem vlook_det {sig : Sg} {key zero : SV} : ∀ {es : List (SV × SV)} {K : SV → Bool → Prop}, vlook (S0 P) sig key K zero es →
    ∃ v f, K v f ∧ ∀ J : SV → Bool → Prop, J v f → vlook (S0 P) sig key J zero es
  | [], K, h => ⟨zero, false, h, fun _ hj => hj⟩
  | (k, v) :: r, K, h => by
    simp only [vlook] at h ⊢
    rcases veq_det _ _ h with ⟨h1, h2⟩ | ⟨h1, h2⟩
    · exact ⟨v, true, h1, fun J hj => h2 _ _ hj⟩
    · obtain ⟨u, f, h3, h4⟩ := vlook_det h1
      exact ⟨u, f, h3, fun J hj => h2 _ _ (h4 J hj)⟩
theorem vload_det {agg : Bool} {n : Nat} {x : SV} : VDet (fun K => vload (S0 P) l agg n x K) := by
  cases x <;> simp only [vload] <;> try exact VDet.no
  case p k o => cases lget l k <;> simp only [] <;> first | exact VDet.no | exact VDet.ite VDet.opt VDet.no
  case pe k i sz j =>
    cases lget l k <;> simp only [] <;> try exact VDet.no
    case c cs => cases i <;> simp only [] <;> first | exact VDet.ite VDet.opt VDet.no | exact VDet.rd
    case r ro lit st sz' F => cases lit <;> cases i <;> simp only [] <;> first | exact VDet.ite (VDet.ite VDet.opt VDet.no) VDet.no | exact VDet.ite VDet.rd VDet.no

theorem pure_of {o : AOp} {T : (SV → Prop) → Prop} (e : ∀ l K, vop (S0 P) o vs l K = T (fun v => K v l)) (hT : VDet T) {K : SV → List Blk → Prop} (h : vop (S0 P) o vs l K) :
    ∃ v, K v l ∧ ∀ (l2 : List Blk) (J : SV → List Blk → Prop), J v l2 → vop (S0 P) o vs l2 J := by
  rw [e] at h
  obtain ⟨v, h1, h2⟩ := hT _ h
  exact ⟨v, h1, fun l2 J hj => by rw [e]; exact h2 _ hj⟩

theorem pure_det {o : AOp} (hp : o.pure = true) {K : SV → List Blk → Prop} (h : vop (S0 P) o vs l K) :
    ∃ v, K v l ∧ ∀ (l2 : List Blk) (J : SV → List Blk → Prop), J v l2 → vop (S0 P) o vs l2 J := by
  cases o <;> simp only [AOp.pure, Bool.false_eq_true] at hp
  case mv x => exact pure_of (fun _ _ => rfl) (VDet.ret (v := ev vs x)) h
  case pick c a b => exact pure_of (T := fun K => brv (S0 P) (ev vs c) (fun _ => K (ev vs a)) (fun _ => K (ev vs b))) (fun _ _ => rfl) (VDet.two fun _ _ h => brv_det h) h
  case build z ps =>
    cases hx : fillS vs z ps <;> simp only [vop, hx] at h ⊢
    rename_i cs
    obtain ⟨v, h3, h4⟩ := VDet.ite VDet.ret VDet.no (fun v => K v l) h
    exact ⟨v, h3, fun l2 J hj => h4 (fun v => J v l2) hj⟩
  case bin op x y => exact pure_of (T := fun K => vbin (S0 P) op (ev vs x) (ev vs y) K) (fun _ _ => rfl) vbin_det h
  case eqA sig neg x y => exact pure_of (T := fun K => veq (S0 P) sig (ev vs x) (ev vs y) (fun _ => K (ofB (!neg))) (fun _ => K (ofB neg))) (fun _ _ => by simp only [vop, eqv_eq]) (VDet.two veq_det) h
  case eqN map neg x y =>
    simp only [vop, veqN] at h ⊢
    cases hx : vnil map (ev vs x) <;> cases hy : vnil map (ev vs y) <;> simp only [hx, hy] at h ⊢
    · rename_i b b'
      cases b <;> cases b' <;> simp only [] at h ⊢ <;> exact ⟨_, h, fun _ _ hj => hj⟩
  case not x => cases hx : ev vs x <;> simp only [vop, hx] at h ⊢ <;> exact ⟨_, h, fun _ _ hj => hj⟩
  case neg x =>
    cases hx : ev vs x <;> simp only [vop, hx] at h ⊢
    rename_i k z
    exact ⟨.i k (.y (arS .sub k 0 z.v)), h, fun _ _ hj => hj⟩
  case cv k x =>
    cases hx : ev vs x <;> simp only [vop, hx] at h ⊢
    rename_i z
    cases z <;> simp only [] at h ⊢
    · exact ⟨_, h, fun _ _ hj => hj⟩
    · rename_i n
      exact ⟨.i k (.y (k.wrap n)), h, fun _ _ hj => hj⟩
  case cvSS x => cases hx : ev vs x <;> simp only [vop, hx] at h ⊢; exact ⟨_, h, fun _ _ hj => hj⟩
  case mkF f a c => exact pure_of (fun _ _ => rfl) (VDet.ret (v := .fn f (evs vs a) (evs vs c))) h
  case slc sz x lo hi mx =>
    cases hx : ev vs x <;> simp only [vop, hx] at h ⊢
    case sl k sz' off ln cap =>
      by_cases hs : sz = sz'
      · simp only [if_pos hs] at h ⊢
        cases h1 : optZ vs (.l 0) lo <;> cases h2 : optZ vs ln hi <;> simp only [h1, h2] at h ⊢
        cases mx <;> cases cap <;> simp only [] at h ⊢
        · obtain ⟨v, h3, h4⟩ := VDet.zle (VDet.zle (VDet.zle VDet.ret)) (fun v => K v l) h
          exact ⟨v, h3, fun l2 J hj => h4 (fun v => J v l2) hj⟩
        · rename_i m
          cases h3 : intZ (ev vs m) <;> simp only [h3] at h ⊢
          obtain ⟨v, h3, h4⟩ := VDet.zle (VDet.zle (VDet.zle (VDet.zle VDet.ret))) (fun v => K v l) h
          exact ⟨v, h3, fun l2 J hj => h4 (fun v => J v l2) hj⟩
      · simp only [if_neg hs] at h
    case re u =>
      split at h
      all_goals first | (exfalso; exact h) | skip
      · rename_i hh; cases hh
      · rename_i hh
        simp only [SV.re.injEq] at hh
        subst hh
        cases h1 : optZ vs (.l 0) lo <;> cases h2 : optZ vs (.l 0) hi <;> cases h3 : optZ vs (.l 0) mx <;> simp only [h1, h2, h3] at h ⊢
        obtain ⟨v, h3, h4⟩ := VDet.zle (VDet.zle (VDet.zle (VDet.zle VDet.ret))) (fun v => K v l) h
        exact ⟨v, h3, fun l2 J hj => h4 (fun v => J v l2) hj⟩
  case slcS x lo hi =>
    cases hx : ev vs x <;> simp only [vop, hx] at h ⊢
    rename_i s
    cases h1 : optZ vs (.l 0) lo <;> cases h2 : optZ vs (.y ((S0 P).slen s)) hi <;> simp only [h1, h2] at h ⊢
    obtain ⟨v, h3, h4⟩ := VDet.zle (VDet.zle (VDet.zle VDet.ret)) (fun v => K v l) h
    exact ⟨v, h3, fun l2 J hj => h4 (fun v => J v l2) hj⟩
  case fad off x => cases hx : ev vs x <;> simp only [vop, hx] at h ⊢ <;> exact ⟨_, h, fun _ _ hj => hj⟩
  case fld agg off n x =>
    cases hx : ev vs x <;> simp only [vop, hx] at h ⊢
    rename_i cs
    obtain ⟨v, h3, h4⟩ := VDet.ite VDet.opt VDet.no (fun v => K v l) h
    exact ⟨v, h3, fun l2 J hj => h4 (fun v => J v l2) hj⟩
  case iadS sz x i =>
    cases hx : ev vs x <;> cases hi : intZ (ev vs i) <;> simp only [vop, hx, hi] at h ⊢
    obtain ⟨v, h3, h4⟩ := VDet.ite (VDet.zle (VDet.zlt VDet.ret)) VDet.no (fun v => K v l) h
    exact ⟨v, h3, fun l2 J hj => h4 (fun v => J v l2) hj⟩
  case ixA agg n sz x i =>
    cases hx : ev vs x <;> cases hi : intZ (ev vs i) <;> simp only [vop, hx, hi] at h ⊢
    rename_i cs z
    cases z <;> simp only [] at h ⊢
    · obtain ⟨v, h3, h4⟩ := VDet.ite VDet.opt VDet.no (fun v => K v l) h
      exact ⟨v, h3, fun l2 J hj => h4 (fun v => J v l2) hj⟩
    · obtain ⟨v, h3, h4⟩ := VDet.ite VDet.rd VDet.no (fun v => K v l) h
      exact ⟨v, h3, fun l2 J hj => h4 (fun v => J v l2) hj⟩
  case ixS x i =>
    cases hx : ev vs x <;> cases hi : intZ (ev vs i) <;> simp only [vop, hx, hi] at h ⊢
    obtain ⟨v, h3, h4⟩ := VDet.zle (VDet.zlt VDet.ret) (fun v => K v l) h
    exact ⟨v, h3, fun l2 J hj => h4 (fun v => J v l2) hj⟩
  case ext x n =>
    cases hx : ev vs x <;> simp only [vop, hx] at h ⊢
    obtain ⟨v, h3, h4⟩ := VDet.ite VDet.ret VDet.no (fun v => K v l) h
    exact ⟨v, h3, fun l2 J hj => h4 (fun v => J v l2) hj⟩
  case len str x =>
    cases str <;> cases hx : ev vs x <;> simp only [vop, hx] at h ⊢
    · exact ⟨_, h, fun _ _ hj => hj⟩
    · split at h
      · rename_i hh; cases hh
      · rename_i hh; cases hh; exact ⟨_, h, fun _ _ hj => hj⟩
      · rename_i hh _; cases hh
      · exact h.elim
    · exact ⟨_, h, fun _ _ hj => hj⟩
  case nilc x =>
    cases hx : ev vs x <;> simp only [vop, hx] at h ⊢
    · exact ⟨_, h, fun _ _ hj => hj⟩
    · exact ⟨_, h, fun _ _ hj => hj⟩
    · rename_i f a c
      cases f <;> simp only [] at h ⊢
      exact ⟨_, h, fun _ _ hj => hj⟩
    · exact ⟨_, h, fun _ _ hj => hj⟩

theorem reads_det {o : AOp} (hp : o.reads = true) {K : SV → List Blk → Prop} (h : vop (S0 P) o vs l K) :
    ∃ v, K v l ∧ ∀ (J : SV → List Blk → Prop), J v l → vop (S0 P) o vs l J := by
  cases o <;> simp only [AOp.reads, Bool.false_eq_true] at hp
  case load agg n x =>
    obtain ⟨v, h3, h4⟩ := vload_det (fun v => K v l) h
    exact ⟨v, h3, fun J hj => h4 (fun v => J v l) hj⟩
  case cvBS x =>
    cases hx : ev vs x <;> simp only [vop, hx] at h ⊢
    case sl k sz off ln cap =>
      cases hl : lget l k <;> simp only [hl] at h ⊢
      rename_i ro lit st sz' F
      split at h
      · rename_i hs
        obtain ⟨h0, h1, x, hb, hk⟩ := h
        exact ⟨_, hk, fun J hj => by rw [if_pos hs]; exact ⟨h0, h1, x, hb, hj⟩⟩
      · exact h.elim
    case re u =>
      split at h
      · rename_i hh; cases hh
      · rename_i hh; cases hh; exact ⟨_, h, fun _ hj => hj⟩
      · exact h.elim
  case look sig zero ok m k =>
    simp only [vop, lk_eq] at h ⊢
    split at h
    · rename_i hv
      simp only [if_pos hv]
      cases hm : ev vs m <;> simp only [hm] at h ⊢
      case m b =>
        cases hl : lget l b <;> simp only [hl] at h ⊢
        obtain ⟨v, f, h1, h2⟩ := vlook_det h
        exact ⟨_, h1, fun J hj => h2 _ hj⟩
      case re u =>
        split at h
        · rename_i hh; cases hh
        · rename_i hh; cases hh; exact ⟨_, h, fun _ hj => hj⟩
        · exact h.elim
    · exact h.elim
  case iadA n sz x i =>
    cases hx : ev vs x <;> cases hi : intZ (ev vs i) <;> simp only [vop, hx, hi] at h ⊢
    · rename_i k o z
      cases o <;> simp only [] at h ⊢
      cases hl : lget l k <;> simp only [hl] at h ⊢
      obtain ⟨v, h3, h4⟩ := VDet.ite (VDet.zle (VDet.zlt VDet.ret)) VDet.no (fun v => K v l) h
      exact ⟨v, h3, fun J hj => h4 (fun v => J v l) hj⟩
    · rename_i k i0 sz0 j z
      cases z <;> simp only [] at h ⊢
      obtain ⟨v, h3, h4⟩ := VDet.ite VDet.ret VDet.no (fun v => K v l) h
      exact ⟨v, h3, fun J hj => h4 (fun v => J v l) hj⟩
end
end Cz
