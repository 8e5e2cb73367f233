/- The engine, part E: what the open parts of the conditions mean; operations, one by one. No condition. -/
import Derived.Test.YtjnpmipoenijdaaCzD
import Derived.Laws.Sem
import Derived.Laws.Cells
import Derived.Laws.IdiomCopy
namespace Cz
open Go Go.RowKit
set_option linter.unusedSimpArgs false
set_option linter.unusedVariables false

theorem nth_eq : ∀ (l : List SV) (n : Nat), nth l n = l.getD n .any
  | [], _ => by simp [nth]
  | _ :: _, 0 => by simp [nth]
  | _ :: l, n + 1 => by simp [nth, nth_eq l n]
theorem put_eq : ∀ (l : List SV) (n : Nat) (v : SV), put l n v = l.set n v
  | [], _, _ => by simp [put]
  | _ :: _, 0, _ => by simp [put]
  | _ :: l, n + 1, v => by simp [put, put_eq l n v]
theorem lget_eq : ∀ (l : List Blk) (n : Nat), lget l n = l.getD n .dead
  | [], _ => by simp [lget]
  | _ :: _, 0 => by simp [lget]
  | _ :: l, n + 1 => by simp [lget, lget_eq l n]
theorem lset_eq : ∀ (l : List Blk) (n : Nat) (v : Blk), lset l n v = l.set n v
  | [], _, _ => by simp [lset]
  | _ :: _, 0, _ => by simp [lset]
  | _ :: l, n + 1, v => by simp [lset, lset_eq l n v]
theorem len_eq : ∀ (l : List Blk), len l = l.length
  | [] => rfl
  | _ :: l => by simp [len, len_eq l]
theorem snoc_eq : ∀ (l : List Blk) (b : Blk), snoc l b = l ++ [b]
  | [], _ => rfl
  | _ :: l, b => by simp [snoc, snoc_eq l b]
theorem dropS_eq : ∀ (l : List SV) (n : Nat), dropS l n = l.drop n
  | _, 0 => by simp [dropS]
  | [], _ + 1 => by simp [dropS]
  | _ :: l, n + 1 => by simp [dropS, dropS_eq l n]
theorem takeS_eq : ∀ (l : List SV) (n : Nat), takeS l n = l.take n
  | _, 0 => by simp [takeS]
  | [], _ + 1 => by simp [takeS]
  | _ :: l, n + 1 => by simp [takeS, takeS_eq l n]
theorem lenS_eq : ∀ (l : List SV), lenS l = l.length
  | [] => rfl
  | _ :: l => by simp [lenS, lenS_eq l]
theorem catS_eq : ∀ (l m : List SV), catS l m = l ++ m
  | [], _ => rfl
  | _ :: l, m => by simp [catS, catS_eq l m]

theorem lget_some {l : List Blk} {k : Nat} {B : Blk} (h : lget l k = B) (hB : B ≠ .dead) : l[k]? = some B := by
  rw [lget_eq, List.getD_eq_getElem?_getD] at h
  cases hg : l[k]? with
  | none => rw [hg] at h; exact absurd h.symm hB
  | some C => rw [hg] at h; simp at h; rw [h]

/-! ### Operands -/
theorem cSV_ok {v : Value} {x : SV} (h : cSV v = some x) (ρ : Nms) : den ρ x v := by
  cases v with
  | bool b => cases b <;> (simp [cSV] at h; subst h; simp [den])
  | int k n => simp [cSV] at h; subst h; simp [den, Z.v]
  | string s => simp [cSV] at h; subst h; simp [den]
  | agg c => simp [cSV] at h
  | tuple c => simp [cSV] at h
  | _ => simp [cSV] at h; subst h; simp [den, oneC]

theorem ev_ok {ρ : Nms} {vs : List SV} {a : Act} (hE : EnvOk ρ vs a.tmps) {x : Operand} {x' : Opd} (h : cOpd x = some x') : den ρ (ev vs x') (a.eval x) := by
  cases x with
  | tmp t =>
    simp [cOpd] at h; subst h
    simp only [ev, nth_eq, Act.eval, List.getD_eq_getElem?_getD]
    cases hg : vs[t]? with
    | none => simp [den]
    | some y =>
      obtain ⟨v, e, d⟩ := hE t y hg
      simpa [e] using d
  | const v =>
    simp only [cOpd, Option.map_eq_some_iff] at h
    obtain ⟨y, hy, rfl⟩ := h
    exact cSV_ok hy ρ
  | global g => simp [cOpd] at h
  | func f => simp only [cOpd, Option.some.injEq] at h; subst h; simp only [ev, den, Act.eval]; exact ⟨#[], #[], rfl, by simp [denL], by simp [denL]⟩

theorem evs_eq (vs : List SV) : ∀ (l : List Opd), evs vs l = l.map (ev vs)
  | [] => rfl
  | x :: l => by simp [evs, evs_eq vs l]

theorem evs_ok {ρ : Nms} {vs : List SV} {a : Act} (hE : EnvOk ρ vs a.tmps) : ∀ {xs : List Operand} {ys : List Opd}, cOpds xs = some ys → denL ρ (evs vs ys) (xs.map a.eval)
  | [], ys, h => by simp [cOpds] at h; subst h; simp [evs, denL]
  | x :: xs, ys, h => by
    simp only [cOpds, List.mapM_cons, Option.bind_eq_bind, Option.pure_def, Option.bind_eq_some_iff, Option.some.injEq] at h
    obtain ⟨y, hy, ys', hys, rfl⟩ := h
    simp only [evs, List.map_cons, denL]
    exact ⟨ev_ok hE hy, evs_ok hE hys⟩

/-! ### What the open parts mean -/
def RoOk (ρ : Nms) (cx : Cx) (rr : Option Nat) : Prop :=
  match cx.ro with
  | none => rr = none
  | some k => k < cx.m ∧ ∃ vw ∈ ρ k, ∃ b, vw.base = some ⟨b, 0, none⟩ ∧ rr = some b

structure St (P : Program) (N : Nat) (W0 : World) (ρ : Nms) (e : Env) (l : List Blk) (a : Act) (W : World) : Prop where
  rel : Rel P N W0 ρ l W
  env : EnvOk ρ e.vs a.tmps
  mks : MkOk ρ e.mks a.defers

def KPost (P : Program) (N : Nat) (W0 : World) (cx : Cx) (ρ : Nms) (K : VK) : Post := fun ex a' W' =>
  ∃ ρ' e' l', K ex e' l' ∧ Le cx.m ρ ρ' ∧ cx.m ≤ l'.length ∧ St P N W0 ρ' e' l' a' W'

def WP (P : Program) (cx : Cx) (c : Code) (K : VK) (e : Env) (l : List Blk) : Prop :=
  ∀ N W0 ρ rr a W, St P N W0 ρ e l a W → RoOk ρ cx rr → cx.m ≤ l.length → Wp P rr c (KPost P N W0 cx ρ K) a W

def OpPost (P : Program) (N : Nat) (W0 : World) (ρ : Nms) (l : List Blk) (K : SV → List Blk → Prop) : Value → World → Prop := fun v W' =>
  ∃ ρ' sv l', K sv l' ∧ Le l.length ρ ρ' ∧ l.length ≤ l'.length ∧ Rel P N W0 ρ' l' W' ∧ den ρ' sv v

def bytesOf (F : List SV) (off len : Nat) (x : List UInt8) : Prop :=
  x.length = len ∧ ∀ (q : Nat) (c : UInt8), x[q]? = some c → ∃ z, F[off + q]? = some (.i .u8 z) ∧ z.v = (c.toNat : Int)

def arS (op : BK) (k : IntKind) (a b : Int) : Int :=
  match op with
  | .add => k.wrap (a + b)
  | .sub => k.wrap (a - b)
  | .mul => k.wrap (a * b)
  | .quo => k.wrap (a.tdiv b)
  | .rem => a.tmod b
  | .and => k.wrap (BitVec.ofInt k.bits a &&& BitVec.ofInt k.bits b).toNat
  | .or => k.wrap (BitVec.ofInt k.bits a ||| BitVec.ofInt k.bits b).toNat
  | .xor => k.wrap (BitVec.ofInt k.bits a ^^^ BitVec.ofInt k.bits b).toNat
  | .andn => k.wrap (BitVec.ofInt k.bits a &&& ~~~ BitVec.ofInt k.bits b).toNat
  | .shl => k.wrap (a * 2 ^ (min b.toNat k.bits))
  | .shr => a.fdiv (2 ^ (min b.toNat k.bits))
  | .min => if b < a then b else a
  | .max => if a < b then b else a
  | _ => 0

def scmpS (op : BK) (a b : List UInt8) : Bool :=
  match op with
  | .eq => a == b
  | .ne => !(a == b)
  | .lt => Op.bytesLess a b
  | .le => Op.bytesLess a b || a == b
  | .gt => !(Op.bytesLess a b || a == b)
  | .ge => !Op.bytesLess a b
  | _ => false

/-- The open parts, but for the comparison of plain values: that is said by these. -/
def S0a (P : Program) : Sy where
  ar := fun op k a b K => K (arS op k a b)
  cmp := BK.cmpLit
  scmp := scmpS
  scat := fun a b => a ++ b
  beq := fun a b => a == b
  nt := fun a => !a
  cv := fun k n K => K (k.wrap n)
  pl := fun a b => a + b
  mi := fun a b => a - b
  sc := fun a n => a * n
  slen := fun x => x.length
  sat := fun x i => ((x.getD i.toNat 0).toNat : Int)
  ssub := fun x a b => (x.take b.toNat).drop a.toNat
  app := fun a b => a ++ b
  sub := fun F off n sz => (F.drop (off.toNat * sz)).take (n.toNat * sz)
  flen := fun F => F.length
  eqv := fun _ _ _ _ _ => False
  lk := fun _ _ _ _ _ => False
  mu := fun _ _ _ _ _ _ => False
  br := fun b k1 k2 => (b = true → k1 ()) ∧ (b = false → k2 ())
  nil := fun n k1 k2 => (n = 0 → k1 ()) ∧ k2 ()
  chk := fun b k => b = true ∧ k ()
  rd := fun F i sz j n agg K => 0 ≤ i ∧ (i.toNat + 1) * sz ≤ F.length ∧ j + n ≤ sz ∧ ∃ v, mkv agg ((F.drop (i.toNat * sz + j)).take n) = some v ∧ K v
  wr := fun F i sz j ws K => 0 ≤ i ∧ (i.toNat + 1) * sz ≤ F.length ∧ j + ws.length ≤ sz ∧ plains ws = true ∧ K (repl F (i.toNat * sz + j) ws)
  bs := fun F off n K => 0 ≤ off ∧ 0 ≤ n ∧ ∃ x, bytesOf F off.toNat n.toNat x ∧ K x
  mkr := fun zero n c K => n = c ∧ 0 ≤ n ∧ n ≤ 65536 ∧ plains (repS n.toNat zero) = true ∧ K (repS n.toNat zero)
  sb := fun x => x.map fun c => .i .u8 (.y (c.toNat : Int))
  call := fun g args l K => ∀ N W0 ρ W (vals : Array Value), Rel P N W0 ρ l W → denL ρ args vals.toList → NextR P (OpPost P N W0 ρ l K) ((callFunc g vals).run P W)
  rfc := fun g args l K => (∀ args w, (callFunc g args).run P w = .ok (.enter g args) w) ∧ ∀ N W0 ρ W (vals : Array Value), Rel P N W0 ρ l W → denL ρ args vals.toList →
    Calls P g vals W fun e W' => ∃ v, e = .returned v ∧ OpPost P N W0 ρ l K v W'
  yld := fun k args l K => ∀ N W0 ρ W (vals : Array Value) b, Rel P N W0 ρ l W → denL ρ args vals.toList → (∃ vw ∈ ρ k, ∃ a, vw.base = some a ∧ a.block = b) →
    NextR P (OpPost P N W0 ρ l K) ((Instr.yield b vals).run P W)
  loop := fun cx ir e l K => ∀ c kl, conv P kl c = some ir → WP P cx (.loop c) K e l
  jump := fun cx ir g e l K => ∀ c kl, conv P kl c = some ir → ∀ rest, findLabel c g = some rest →
    ∀ N W0 ρ rr a W, St P N W0 ρ e l a W → RoOk ρ cx rr → cx.m ≤ l.length → InScope P rr c rest (KPost P N W0 cx ρ K) a W
  drw := fun cx ops pre e l K => ∀ (ops' : Array Oper), ops'.toList.mapM (convAO P ops') = some ops → preds ops'.toList = pre → ∀ id,
    WP P cx (.region id ops' true) (fun ex e' l' => match ex with | .normal => K e' l' | _ => False) e l

def S0 (P : Program) : Sy where
  ar := fun op k a b K => K (arS op k a b)
  cmp := BK.cmpLit
  scmp := scmpS
  scat := fun a b => a ++ b
  beq := fun a b => a == b
  nt := fun a => !a
  cv := fun k n K => K (k.wrap n)
  pl := fun a b => a + b
  mi := fun a b => a - b
  sc := fun a n => a * n
  slen := fun x => x.length
  sat := fun x i => ((x.getD i.toNat 0).toNat : Int)
  ssub := fun x a b => (x.take b.toNat).drop a.toNat
  app := fun a b => a ++ b
  sub := fun F off n sz => (F.drop (off.toNat * sz)).take (n.toNat * sz)
  flen := fun F => F.length
  eqv := veq (S0a P)
  lk := vlook (S0a P)
  mu := vmupd (S0a P)
  br := fun b k1 k2 => (b = true → k1 ()) ∧ (b = false → k2 ())
  nil := fun n k1 k2 => (n = 0 → k1 ()) ∧ k2 ()
  chk := fun b k => b = true ∧ k ()
  rd := fun F i sz j n agg K => 0 ≤ i ∧ (i.toNat + 1) * sz ≤ F.length ∧ j + n ≤ sz ∧ ∃ v, mkv agg ((F.drop (i.toNat * sz + j)).take n) = some v ∧ K v
  wr := fun F i sz j ws K => 0 ≤ i ∧ (i.toNat + 1) * sz ≤ F.length ∧ j + ws.length ≤ sz ∧ plains ws = true ∧ K (repl F (i.toNat * sz + j) ws)
  bs := fun F off n K => 0 ≤ off ∧ 0 ≤ n ∧ ∃ x, bytesOf F off.toNat n.toNat x ∧ K x
  mkr := fun zero n c K => n = c ∧ 0 ≤ n ∧ n ≤ 65536 ∧ plains (repS n.toNat zero) = true ∧ K (repS n.toNat zero)
  sb := fun x => x.map fun c => .i .u8 (.y (c.toNat : Int))
  call := fun g args l K => ∀ N W0 ρ W (vals : Array Value), Rel P N W0 ρ l W → denL ρ args vals.toList → NextR P (OpPost P N W0 ρ l K) ((callFunc g vals).run P W)
  rfc := fun g args l K => (∀ args w, (callFunc g args).run P w = .ok (.enter g args) w) ∧ ∀ N W0 ρ W (vals : Array Value), Rel P N W0 ρ l W → denL ρ args vals.toList →
    Calls P g vals W fun e W' => ∃ v, e = .returned v ∧ OpPost P N W0 ρ l K v W'
  yld := fun k args l K => ∀ N W0 ρ W (vals : Array Value) b, Rel P N W0 ρ l W → denL ρ args vals.toList → (∃ vw ∈ ρ k, ∃ a, vw.base = some a ∧ a.block = b) →
    NextR P (OpPost P N W0 ρ l K) ((Instr.yield b vals).run P W)
  loop := fun cx ir e l K => ∀ c kl, conv P kl c = some ir → WP P cx (.loop c) K e l
  jump := fun cx ir g e l K => ∀ c kl, conv P kl c = some ir → ∀ rest, findLabel c g = some rest →
    ∀ N W0 ρ rr a W, St P N W0 ρ e l a W → RoOk ρ cx rr → cx.m ≤ l.length → InScope P rr c rest (KPost P N W0 cx ρ K) a W
  drw := fun cx ops pre e l K => ∀ (ops' : Array Oper), ops'.toList.mapM (convAO P ops') = some ops → preds ops'.toList = pre → ∀ id,
    WP P cx (.region id ops' true) (fun ex e' l' => match ex with | .normal => K e' l' | _ => False) e l

theorem veq1_a {P : Program} {s : Kd} {x y : SV} {K1 K2 : Unit → Prop} : veq1 (S0a P) s x y K1 K2 = veq1 (S0 P) s x y K1 K2 := by
  unfold veq1; rfl
theorem veqL_a {P : Program} : ∀ {ss : List Kd} {xs ys : List SV} {K1 K2 : Unit → Prop}, veqL (S0a P) ss xs ys K1 K2 = veqL (S0 P) ss xs ys K1 K2
  | [], _, _, _, _ => by simp only [veqL]
  | _ :: _, [], _, _, _ => by simp only [veqL]
  | _ :: _, _ :: _, [], _, _ => by simp only [veqL]
  | s :: ss, x :: xs, y :: ys, K1, K2 => by
    simp only [veqL, veqL_a (ss := ss), veq1_a]
theorem eqv_eq {P : Program} {sig : Sg} {x y : SV} {K1 K2 : Unit → Prop} : (S0 P).eqv sig x y K1 K2 = veq (S0 P) sig x y K1 K2 := by
  show veq (S0a P) sig x y K1 K2 = _
  simp only [veq, veqL_a]
theorem veq_a {P : Program} {sig : Sg} {x y : SV} {K1 K2 : Unit → Prop} : veq (S0a P) sig x y K1 K2 = veq (S0 P) sig x y K1 K2 := eqv_eq
theorem lk_eq {P : Program} {sig : Sg} {key zero : SV} {K : SV → Bool → Prop} : ∀ {es : List (SV × SV)}, (S0 P).lk sig key K zero es = vlook (S0 P) sig key K zero es
  | [] => rfl
  | (k, v) :: r => by
    show vlook (S0a P) sig key K zero ((k, v) :: r) = _
    simp only [vlook]
    have ih : vlook (S0a P) sig key K zero r = vlook (S0 P) sig key K zero r := lk_eq (es := r)
    rw [veq_a, ih]
theorem mu_eq {P : Program} {sig : Sg} {key v : SV} {K : List (SV × SV) → Prop} : ∀ {es acc : List (SV × SV)}, (S0 P).mu sig key v K acc es = vmupd (S0 P) sig key v K acc es
  | [], acc => by show vmupd (S0a P) sig key v K acc [] = _; simp only [vmupd]
  | (k, u) :: r, acc => by
    show vmupd (S0a P) sig key v K acc ((k, u) :: r) = _
    simp only [vmupd]
    have ih : vmupd (S0a P) sig key v K (acc ++ [(k, u)]) r = vmupd (S0 P) sig key v K (acc ++ [(k, u)]) r := mu_eq (es := r)
    rw [veq_a, ih]

/-! ### Operations -/
section
variable {P : Program} {N : Nat} {W0 W : World} {ρ : Nms} {l : List Blk} {vs : List SV} {a : Act} {K : SV → List Blk → Prop} {o : Oper}

theorem post_same {sv : SV} {v : Value} (hR : Rel P N W0 ρ l W) (hK : K sv l) (hd : den ρ sv v) : OpPost P N W0 ρ l K v W :=
  ⟨ρ, sv, l, hK, Le.refl _ _, Nat.le_refl _, hR, hd⟩

theorem OpRuns.val {R : Value → World → Prop} {v : Value} {W' : World} (hd : isDefer o.op = false) (h : (execOp a.eval o).run P W = .ok (.value v) W') (hR : R v W') : OpRuns P o a W R :=
  ⟨hd, by rw [h]; exact hR⟩
theorem OpRuns.unit {R : Value → World → Prop} {W' : World} (hd : isDefer o.op = false) (h : (execOp a.eval o).run P W = .ok .skip W') (hR : R undef W') : OpRuns P o a W R :=
  ⟨hd, by rw [h]; exact hR⟩

theorem run_underlying {t : TypeId} {d : TypeDesc} (h : P.underlying t = some d) : (underlying t).run P W = .ok d W := by
  simp [underlying, program, h, bind, Sem.bind, Sem.run, pure]
theorem run_typeInfo {t : TypeId} {i : TypeInfo} (h : P.info? t = some i) : (typeInfo t).run P W = .ok i W := by
  simp [typeInfo, program, h, bind, Sem.bind, Sem.run, pure]
theorem run_sizeOf {t : TypeId} {n : Nat} (h : szOf P t = some n) : (Go.sizeOf t).run P W = .ok n W := by
  simp only [szOf, Option.map_eq_some_iff] at h
  obtain ⟨i, hi, rfl⟩ := h
  simp [Go.sizeOf, run_typeInfo hi]
theorem run_isAgg {t : TypeId} {b : Bool} (h : aggOf P t = some b) : (isAgg t).run P W = .ok b W := by
  unfold aggOf at h
  cases hu : P.underlying t with
  | none => simp [hu] at h
  | some d =>
    rw [hu] at h
    cases d <;> simp at h <;> subst h <;> simp [isAgg, run_underlying hu]

theorem mapM_cSV_ok (ρ : Nms) : ∀ {vs : List Value} {xs : List SV}, cSVs vs = some xs → denL ρ xs vs
  | [], xs, h => by simp [cSVs] at h; subst h; simp [denL]
  | v :: vs, xs, h => by
    simp only [cSVs, List.mapM_cons, Option.bind_eq_bind, Option.pure_def, Option.bind_eq_some_iff, Option.some.injEq] at h
    obtain ⟨y, hy, ys', hys, rfl⟩ := h
    simp only [denL]
    exact ⟨cSV_ok hy ρ, mapM_cSV_ok ρ hys⟩

theorem zeroOf_ok {t : TypeId} {cs : List SV} (h : zeroOf P t = some cs) : ∃ i z, P.info? t = some i ∧ i.zero = some z ∧ ∀ ρ, denL ρ cs z.cells.toList := by
  simp only [zeroOf, Option.bind_eq_bind, Option.bind_eq_some_iff] at h
  obtain ⟨i, hi, z, hz, hc⟩ := h
  exact ⟨i, z, hi, hz, fun ρ => mapM_cSV_ok ρ hc⟩

theorem run_zeroValue {t : TypeId} {i : TypeInfo} {z : Value} (hi : P.info? t = some i) (hz : i.zero = some z) : (zeroValue t).run P W = .ok z W := by
  simp [zeroValue, run_typeInfo hi, hz]

/-- A value's cells. -/
theorem cells_ok {x : SV} {cs : List SV} {v : Value} (h : cellsOf x = some cs) (hd : den ρ x v) : denL ρ cs v.cells.toList := by
  cases x <;> simp [cellsOf] at h <;> try subst h
  case ag ws =>
    simp only [den] at hd
    obtain ⟨us, rfl, d⟩ := hd
    exact d
  case p k o =>
    have hd' := hd
    simp only [den] at hd
    obtain ⟨vw, _, a, _, rfl⟩ := hd
    simpa [Value.cells, denL] using hd'
  case pe k i sz j =>
    have hd' := hd
    simp only [den] at hd
    obtain ⟨_, vw, _, a, _, _, rfl⟩ := hd
    simpa [Value.cells, denL] using hd'
  case sl k sz off ln cap =>
    have hd' := hd
    simp only [den] at hd
    obtain ⟨_, _, vw, _, _, hs⟩ := hd
    have : ∃ a n c, v = .slice a n c := by
      unfold SlVal at hs
      split at hs
      · obtain ⟨_, _, a', e⟩ := hs; exact ⟨_, _, _, e⟩
      · rcases hs with ⟨c, e, _⟩ | ⟨_, ⟨a', e⟩, _⟩
        · exact ⟨_, _, _, e⟩
        · exact ⟨_, _, _, e⟩
    obtain ⟨_, _, _, rfl⟩ := this
    simpa [Value.cells, denL] using hd'
  case fn f x y =>
    have hd' := hd
    simp only [den] at hd
    obtain ⟨_, _, rfl, _⟩ := hd
    simpa [Value.cells, denL] using hd'
  case yl k =>
    have hd' := hd
    simp only [den] at hd
    obtain ⟨vw, _, a, _, rfl⟩ := hd
    simpa [Value.cells, denL] using hd'
  case m k =>
    have hd' := hd
    simp only [den] at hd
    obtain ⟨vw, _, a, _, rfl⟩ := hd
    simpa [Value.cells, denL] using hd'
  case re u =>
    have hd' := hd
    simp only [den] at hd
    obtain ⟨rfl, h1⟩ := hd
    cases v <;> first | (simp [oneC] at h1; done) | simpa [Value.cells, denL] using hd'
  all_goals (have hd' := hd; simp only [den] at hd; subst hd; simpa [Value.cells, denL] using hd')
end
end Cz
