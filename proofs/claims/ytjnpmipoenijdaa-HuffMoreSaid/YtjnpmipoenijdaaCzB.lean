/- The engine, part B: symbolic values, blocks, and what they say of a real world. No condition. -/
import Derived.Test.YtjnpmipoenijdaaCzA
import Derived.Below
namespace Cz
open Go Go.RowKit
set_option linter.unusedSimpArgs false
set_option linter.unusedVariables false

inductive Z where
  | l (n : Int)
  | y (n : Int)
def Z.v : Z → Int
  | .l n => n
  | .y n => n

inductive SV where
  | tt | ff
  | b (x : Bool)
  | i (k : IntKind) (z : Z)
  | s (x : List UInt8)
  | p (k o : Nat)
  | pe (k : Nat) (i : Z) (sz j : Nat)
  | sl (k sz : Nat) (off len : Z) (cap : Option Z)
  | ag (cs : List SV)
  | tp (vs : List SV)
  | fn (f : Fn) (first cap : List SV)
  | yl (k : Nat)
  | m (k : Nat)
  | re (v : Value)
  | un
  | any

structure View where
  base : Option Addr
  n : Nat
  cap : Nat

abbrev Nms := Nat → List View

def SlVal (vw : View) (sz off len : Nat) (cap : Option Int) (v : Value) : Prop :=
  match vw.base with
  | none => off = 0 ∧ len = 0 ∧ ∃ a', v = .slice a' 0 0
  | some a => (∃ c, v = .slice (some ⟨a.block, a.off + off * sz, none⟩) len c ∧ len ≤ c ∧ off + c ≤ vw.cap ∧
      (match cap with | none => off + c = vw.cap | some m => (c : Int) = m)) ∨ (len = 0 ∧ (∃ a', v = .slice a' 0 0) ∧ ∀ m, cap = some m → m = 0)

def oneC : Value → Bool
  | .agg _ => false
  | .tuple _ => false
  | _ => true

mutual
def den (ρ : Nms) : SV → Value → Prop
  | .tt, v => v = .bool true
  | .ff, v => v = .bool false
  | .b x, v => v = .bool x
  | .i k z, v => v = .int k z.v
  | .s x, v => v = .string ⟨x.toArray⟩
  | .p k o, v => ∃ vw ∈ ρ k, ∃ a, vw.base = some a ∧ v = .pointer (some ⟨a.block, a.off + o, none⟩)
  | .pe k i sz j, v => 0 ≤ i.v ∧ ∃ vw ∈ ρ k, ∃ a, vw.base = some a ∧ (i.v.toNat + 1) * sz ≤ vw.n ∧ v = .pointer (some ⟨a.block, a.off + (i.v.toNat * sz + j), none⟩)
  | .sl k sz off len cap, v => 0 ≤ off.v ∧ 0 ≤ len.v ∧ ∃ vw ∈ ρ k, (off.v.toNat + len.v.toNat) * sz ≤ vw.n ∧ SlVal vw sz off.v.toNat len.v.toNat (cap.map Z.v) v
  | .ag cs, v => ∃ vs, v = .agg vs ∧ denL ρ cs vs.toList
  | .tp cs, v => ∃ vs, v = .tuple vs ∧ denL ρ cs vs.toList
  | .fn f a c, v => ∃ as cs, v = .func f as cs ∧ denL ρ a as.toList ∧ denL ρ c cs.toList
  | .yl k, v => ∃ vw ∈ ρ k, ∃ a, vw.base = some a ∧ v = .func (.yield a.block) #[] #[]
  | .m k, v => ∃ vw ∈ ρ k, ∃ a, vw.base = some a ∧ v = .map (some a.block)
  | .re x, v => v = x ∧ oneC x = true
  | .un, v => v = undef
  | .any, _ => True
def denL (ρ : Nms) : List SV → List Value → Prop
  | [], [] => True
  | x :: xs, v :: vs => den ρ x v ∧ denL ρ xs vs
  | _, _ => False
end

/-- Names go on: whatever was known of the first m blocks is known still. -/
def Le (m : Nat) (ρ ρ' : Nms) : Prop := ∀ k, k < m → ∀ vw ∈ ρ k, vw ∈ ρ' k

theorem Le.refl (m : Nat) (ρ : Nms) : Le m ρ ρ := fun _ _ _ h => h
theorem Le.trans {m : Nat} {ρ ρ' ρ'' : Nms} (h : Le m ρ ρ') (h' : Le m ρ' ρ'') : Le m ρ ρ'' := fun k hk vw hv => h' k hk vw (h k hk vw hv)
theorem Le.mono {m m' : Nat} {ρ ρ' : Nms} (h : Le m ρ ρ') (hm : m' ≤ m) : Le m' ρ ρ' := fun k hk => h k (by omega)

/-! The blocks that a value names: all below m. -/
mutual
def refs (m : Nat) : SV → Bool
  | .p k _ | .pe k _ _ _ | .sl k _ _ _ _ | .yl k | .m k => k < m
  | .ag cs | .tp cs => refsL m cs
  | .fn _ a c => refsL m a && refsL m c
  | _ => true
def refsL (m : Nat) : List SV → Bool
  | [] => true
  | x :: xs => refs m x && refsL m xs
end

theorem lew {m : Nat} {ρ ρ' : Nms} (h : Le m ρ ρ') (hout : ∀ k, m ≤ k → ρ k = []) {k : Nat} {vw : View} (hv : vw ∈ ρ k) : vw ∈ ρ' k := by
  by_cases hk : k < m
  · exact h k hk vw hv
  · rw [hout k (by omega)] at hv; cases hv

mutual
theorem den_le {m : Nat} {ρ ρ' : Nms} (h : Le m ρ ρ') (hout : ∀ k, m ≤ k → ρ k = []) : ∀ (x : SV) (v : Value), den ρ x v → den ρ' x v
  | .tt, _, d => d
  | .ff, _, d => d
  | .b _, _, d => d
  | .i _ _, _, d => d
  | .s _, _, d => d
  | .p k o, v, d => by
    simp only [den] at d ⊢
    obtain ⟨vw, hv, r⟩ := d
    exact ⟨vw, lew h hout hv, r⟩
  | .pe k i sz j, v, d => by
    simp only [den] at d ⊢
    obtain ⟨h0, vw, hv, r⟩ := d
    exact ⟨h0, vw, lew h hout hv, r⟩
  | .sl k sz off len cap, v, d => by
    simp only [den] at d ⊢
    obtain ⟨h0, h1, vw, hv, r⟩ := d
    exact ⟨h0, h1, vw, lew h hout hv, r⟩
  | .ag cs, v, d => by
    simp only [den] at d ⊢
    obtain ⟨vs, e, r⟩ := d
    exact ⟨vs, e, denL_le h hout cs _ r⟩
  | .tp cs, v, d => by
    simp only [den] at d ⊢
    obtain ⟨vs, e, r⟩ := d
    exact ⟨vs, e, denL_le h hout cs _ r⟩
  | .fn f a c, v, d => by
    simp only [den] at d ⊢
    obtain ⟨as, cs, e, r1, r2⟩ := d
    exact ⟨as, cs, e, denL_le h hout a _ r1, denL_le h hout c _ r2⟩
  | .yl k, v, d => by
    simp only [den] at d ⊢
    obtain ⟨vw, hv, r⟩ := d
    exact ⟨vw, lew h hout hv, r⟩
  | .m k, v, d => by
    simp only [den] at d ⊢
    obtain ⟨vw, hv, r⟩ := d
    exact ⟨vw, lew h hout hv, r⟩
  | .re _, _, d => d
  | .un, _, d => d
  | .any, _, d => d
theorem denL_le {m : Nat} {ρ ρ' : Nms} (h : Le m ρ ρ') (hout : ∀ k, m ≤ k → ρ k = []) : ∀ (xs : List SV) (vs : List Value), denL ρ xs vs → denL ρ' xs vs
  | [], [], d => d
  | [], _ :: _, d => d
  | _ :: _, [], d => d
  | x :: xs, v :: vs, d => by
    simp only [denL] at d ⊢
    exact ⟨den_le h hout x v d.1, denL_le h hout xs vs d.2⟩
end

theorem denL_length {ρ : Nms} : ∀ {xs : List SV} {vs : List Value}, denL ρ xs vs → xs.length = vs.length
  | [], [], _ => rfl
  | [], _ :: _, d => by simp [denL] at d
  | _ :: _, [], d => by simp [denL] at d
  | x :: xs, v :: vs, d => by simp only [denL] at d; simp [denL_length d.2]

theorem denL_get {ρ : Nms} : ∀ {xs : List SV} {vs : List Value} (q : Nat) (x : SV), denL ρ xs vs → xs[q]? = some x → ∃ v, vs[q]? = some v ∧ den ρ x v
  | [], [], q, x, _, h => by simp at h
  | [], _ :: _, _, _, d, _ => by simp [denL] at d
  | _ :: _, [], _, _, d, _ => by simp [denL] at d
  | y :: xs, v :: vs, 0, x, d, h => by
    simp only [denL] at d
    simp only [List.getElem?_cons_zero, Option.some.injEq] at h
    subst h
    exact ⟨v, by simp, d.1⟩
  | y :: xs, v :: vs, q + 1, x, d, h => by
    simp only [denL] at d
    simp only [List.getElem?_cons_succ] at h ⊢
    exact denL_get q x d.2 h

theorem denL_of_get {ρ : Nms} : ∀ {xs : List SV} {vs : List Value}, xs.length = vs.length → (∀ (q : Nat) (x : SV), xs[q]? = some x → ∃ v, vs[q]? = some v ∧ den ρ x v) → denL ρ xs vs
  | [], [], _, _ => by simp [denL]
  | [], _ :: _, h, _ => by simp at h
  | _ :: _, [], h, _ => by simp at h
  | x :: xs, v :: vs, h, g => by
    simp only [denL]
    refine ⟨?_, denL_of_get (by simpa using h) (fun q y hy => ?_)⟩
    · obtain ⟨v', e, d⟩ := g 0 x (by simp)
      simp at e; subst e; exact d
    · have := g (q + 1) y (by simpa using hy)
      simpa using this

theorem denL_append {ρ : Nms} : ∀ {xs ys : List SV} {vs us : List Value}, denL ρ xs vs → denL ρ ys us → denL ρ (xs ++ ys) (vs ++ us)
  | [], _, [], _, _, d => by simpa using d
  | [], _, _ :: _, _, d, _ => by simp [denL] at d
  | _ :: _, _, [], _, d, _ => by simp [denL] at d
  | x :: xs, ys, v :: vs, us, d, e => by
    simp only [denL] at d
    simp only [List.cons_append, denL]
    exact ⟨d.1, denL_append d.2 e⟩

/-! ## The simplified code -/
inductive Opd where
  | t (n : Nat)
  | c (x : SV)

inductive Kd where
  | kb | ki | ks

/-- A plain type: whether it is a struct or an array; its cells' kinds. -/
structure Sg where
  agg : Bool
  ks : List Kd

inductive BK where
  | add | sub | mul | quo | rem | and | or | xor | andn | shl | shr | lt | le | gt | ge | eq | ne | min | max

inductive AOp where
  | mv (x : Opd)
  | pick (c a b : Opd)
  | alloc (cs : List SV)
  | box (x : Opd)
  | build (zero : List SV) (parts : List (Nat × Nat × Opd))
  | buildS (sz len : Nat) (zero : List SV) (parts : List (Nat × Opd))
  | load (agg : Bool) (n : Nat) (x : Opd)
  | store (n : Nat) (x v : Opd)
  | nilc (x : Opd)
  | bin (op : BK) (x y : Opd)
  | eqA (sig : Sg) (neg : Bool) (x y : Opd)
  | eqN (map neg : Bool) (x y : Opd)
  | nilS (neg : Bool) (x : Opd)
  | not (x : Opd)
  | neg (x : Opd)
  | cv (k : IntKind) (x : Opd)
  | cvSS (x : Opd)
  | cvBS (x : Opd)
  | cvSB (x : Opd)
  | cvLL (x : Opd)
  | mkF (f : Fn) (first cap : List Opd)
  | mkM
  | mkS (sz : Nat) (zero : List SV) (len cap : Opd)
  | slc (sz : Nat) (x : Opd) (lo hi mx : Option Opd)
  | slcS (x : Opd) (lo hi : Option Opd)
  | fad (off : Nat) (x : Opd)
  | fld (agg : Bool) (off n : Nat) (x : Opd)
  | iadA (len sz : Nat) (x i : Opd)
  | iadS (sz : Nat) (x i : Opd)
  | ixA (agg : Bool) (len sz : Nat) (x i : Opd)
  | ixS (x i : Opd)
  | look (sig : Sg) (zero : SV) (ok : Bool) (m k : Opd)
  | mupd (sig : Sg) (m k v : Opd)
  | ext (x : Opd) (n : Nat)
  | call (f : Opd) (args : List Opd)
  | len (str : Bool) (x : Opd)
  | app (sz : Nat) (x y : Opd)

structure AO where
  dst : Option Nat
  op : AOp
  g : Option (Nat × Bool)

inductive IR where
  | skip
  | reg (ops : List AO) (kill : List Nat)
  | draw (ops : List AO) (pre : List (List Nat)) (kill : List Nat)
  | seq (a b : IR)
  | cond (x : Opd) (a b : IR)
  | block (id : Nat) (b : IR)
  | loop (b : IR)
  | rf (f : Opd) (ps : List Nat) (asg body : IR)
  | exit (id : Nat)
  | scope (b : IR)
  | label (l : Nat)
  | goto (l : Nat)
  | ret

/-! ## From the program's code -/
def cSV : Value → Option SV
  | .bool true => some .tt
  | .bool false => some .ff
  | .int k n => some (.i k (.l n))
  | .string s => some (.s s.data.toList)
  | .agg _ => none
  | .tuple _ => none
  | v => some (.re v)

def cSVs (l : List Value) : Option (List SV) := l.mapM cSV

def cOpd : Operand → Option Opd
  | .tmp t => some (.t t)
  | .const v => (cSV v).map .c
  | .func f => some (.c (.fn (.func f) [] []))
  | .global _ => none

def cOpds (l : List Operand) : Option (List Opd) := l.mapM cOpd
def cOpt : Option Operand → Option (Option Opd)
  | none => some none
  | some x => (cOpd x).map some

def aggOf (P : Program) (t : TypeId) : Option Bool :=
  match P.underlying t with
  | some (.struct _) | some (.array _ _) => some true
  | some _ => some false
  | none => none
def szOf (P : Program) (t : TypeId) : Option Nat := (P.info? t).map (·.size)
def zeroOf (P : Program) (t : TypeId) : Option (List SV) := do
  let i ← P.info? t
  let z ← i.zero
  cSVs z.cells.toList

def zeroV (P : Program) (t : TypeId) : Option SV := do
  let i ← P.info? t
  match i.zero with
  | some (.agg cs) => (cSVs cs.toList).map .ag
  | some v => cSV v
  | none => none

/-- Types whose values are equal just if their cells are: bools, integers, strings, structs and arrays of these. The cells' kinds, in order. -/
def sigOf (P : Program) : Nat → TypeId → Option (List Kd)
  | 0, _ => none
  | d + 1, t => match P.underlying t with
    | some .bool => some [.kb]
    | some (.int _) => some [.ki]
    | some .string => some [.ks]
    | some (.struct fs) => if P.stoodInHeld t then none else
      fs.toList.foldr (fun (f : Field) (acc : Nat → Option (List Kd)) => fun off => do
        let s ← sigOf P d f.type
        if f.name = "_" ∨ f.offset ≠ off ∨ szOf P f.type ≠ some s.length ∨ s.length = 0 then none else
        let r ← acc (off + s.length)
        pure (s ++ r)) (fun _ => some []) 0
    | some (.array n e) => do
      let s ← sigOf P d e
      if szOf P e ≠ some s.length ∨ s.length = 0 then none else pure (List.replicate n s).flatten
    | _ => none

def sgOf (P : Program) (t : TypeId) : Option Sg := do
  let s ← sigOf P 50 t
  let a ← aggOf P t
  pure ⟨a, s⟩

def bkOf : BinOp → Option BK
  | .add => some .add | .sub => some .sub | .mul => some .mul | .quo => some .quo | .rem => some .rem
  | .and => some .and | .or => some .or | .xor => some .xor | .andNot => some .andn | .shl => some .shl | .shr => some .shr
  | .eql => some .eq | .neq => some .ne | .lss => some .lt | .leq => some .le | .gtr => some .gt | .geq => some .ge

def isU8 (P : Program) (t : TypeId) : Bool := match P.underlying t with | some (.int .u8) => true | _ => false

def convOp (P : Program) (o : Oper) : Option AOp :=
  match o.op with
  | .move x | .assign x => (cOpd x).map .mv
  | .pick c a b => do pure (.pick (← cOpd c) (← cOpd a) (← cOpd b))
  | .alloc t => (zeroOf P t).map .alloc
  | .box _ x => (cOpd x).map .box
  | .build t parts => do
    let zero ← zeroOf P t
    match P.underlying t with
    | some (.struct fs) => do
      if !fs.all (fun f => (szOf P f.type).isSome) then none else
      let ps ← parts.toList.mapM fun (i, x) => do
        let f ← fs[i]?
        let n ← szOf P f.type
        pure (f.offset, n, ← cOpd x)
      pure (.build zero ps)
    | some (.array _ e) => do
      let n ← szOf P e
      let ps ← parts.toList.mapM fun (i, x) => do pure (i * n, n, ← cOpd x)
      pure (.build zero ps)
    | _ => none
  | .buildSlice t len parts => do
    match P.underlying t with
    | some (.slice e) => do
      let n ← szOf P e
      let zero ← zeroOf P e
      if n = 0 ∨ zero.length ≠ n ∨ len * n > 2 ^ 20 then none else
      let ps ← parts.toList.mapM fun (i, x) => do pure (i, ← cOpd x)
      pure (.buildS n len zero ps)
    | _ => none
  | .load t a => do
    let g ← aggOf P t
    let n ← szOf P t
    if !g && n != 1 then none else pure (.load g n (← cOpd a))
  | .store t a x => do pure (.store (← szOf P t) (← cOpd a) (← cOpd x))
  | .nilCheck x => (cOpd x).map .nilc
  | .binOp op t x y _ => do
    let x' ← cOpd x
    let y' ← cOpd y
    match P.underlying t with
    | some (.int _) | some .string => do pure (.bin (← bkOf op) x' y')
    | some .bool | some (.struct _) | some (.array _ _) =>
      if P.eqGuardType P.depth t then none else do
      let sig ← sgOf P t
      match op with
      | .eql => some (.eqA sig false x' y')
      | .neq => some (.eqA sig true x' y')
      | _ => none
    | some (.func _ _ _) =>
      match op with
      | .eql => some (.eqN false false x' y')
      | .neq => some (.eqN false true x' y')
      | _ => none
    | some (.map _ _) =>
      match op with
      | .eql => some (.eqN true false x' y')
      | .neq => some (.eqN true true x' y')
      | _ => none
    | some (.slice _) =>
      match op, y' with
      | .eql, .c (.re (.slice none 0 0)) => some (.nilS false x')
      | .neq, .c (.re (.slice none 0 0)) => some (.nilS true x')
      | _, _ => none
    | _ => none
  | .unOp .not _ x => (cOpd x).map .not
  | .unOp .neg t x => match P.underlying t with | some (.int _) => (cOpd x).map .neg | _ => none
  | .convert src dst x => do
    let x' ← cOpd x
    match P.underlying src, P.underlying dst with
    | some (.int _), some (.int k) => some (.cv k x')
    | some .string, some .string => some (.cvSS x')
    | some (.slice e), some .string => if isU8 P e then some (.cvBS x') else none
    | some .string, some (.slice e) => if isU8 P e then some (.cvSB x') else none
    | some (.slice e), some (.slice _) => if isU8 P e ∧ src = dst then some (.cvLL x') else none
    | _, _ => none
  | .makeFunc (.func f) first captured => do pure (.mkF (.func f) (← cOpds first.toList) (← cOpds captured.toList))
  | .makeMap _ none => some .mkM
  | .makeMap t (some (.const (.int _ _))) =>
    match P.underlying t with
    | some (.map _ _) => some .mkM
    | _ => none
  | .makeSlice t l c => do
    match P.underlying t with
    | some (.slice e) => do
      let n ← szOf P e
      let zero ← zeroOf P e
      if n = 0 ∨ zero.length ≠ n ∨ P.bytesOf e > 1024 then none else
      pure (.mkS n zero (← cOpd l) (← cOpd c))
    | _ => none
  | .slice t x lo hi mx => do
    match P.underlying t with
    | some .string => if mx.isSome then none else do pure (.slcS (← cOpd x) (← cOpt lo) (← cOpt hi))
    | some (.slice e) => do
      let n ← szOf P e
      if n = 0 ∨ (mx.isSome && hi.isNone) = true then none else
      pure (.slc n (← cOpd x) (← cOpt lo) (← cOpt hi) (← cOpt mx))
    | _ => none
  | .fieldAddr t x f => do
    match P.underlying t with
    | some (.struct fs) => do
      let g ← fs[f]?
      let n ← szOf P g.type
      if n = 0 then none else pure (.fad g.offset (← cOpd x))
    | _ => none
  | .field t x f => do
    match P.underlying t with
    | some (.struct fs) => do
      let g ← fs[f]?
      let n ← szOf P g.type
      let a ← aggOf P g.type
      if !a && n != 1 then none else pure (.fld a g.offset n (← cOpd x))
    | _ => none
  | .indexAddr t x i => do
    match P.underlying t with
    | some (.array len e) => do
      let n ← szOf P e
      if n = 0 ∨ len ≤ 1 then none else pure (.iadA len n (← cOpd x) (← cOpd i))
    | some (.slice e) => do
      let n ← szOf P e
      if n = 0 then none else pure (.iadS n (← cOpd x) (← cOpd i))
    | _ => none
  | .index t x i => do
    match P.underlying t with
    | some (.array len e) => do
      let n ← szOf P e
      let a ← aggOf P e
      if n = 0 ∨ (!a && n != 1) then none else pure (.ixA a len n (← cOpd x) (← cOpd i))
    | some .string => do pure (.ixS (← cOpd x) (← cOpd i))
    | _ => none
  | .lookup t m k ok => do
    match P.underlying t with
    | some (.map kt e) => do
      let zero ← zeroV P e
      let sig ← sgOf P kt
      pure (.look sig zero ok (← cOpd m) (← cOpd k))
    | _ => none
  | .mapUpdate t m k x | .insert t m k x => do
    match P.underlying t with
    | some (.map kt _) => do pure (.mupd (← sgOf P kt) (← cOpd m) (← cOpd k) (← cOpd x))
    | _ => none
  | .extract t n => do pure (.ext (← cOpd t) n)
  | .call c => match c.callee with
    | .value f => do pure (.call (← cOpd f) (← cOpds c.args.toList))
    | .builtin .len => do
      let t ← c.argTypes[0]?
      let x ← c.args[0]?
      match P.underlying t with
      | some .string => do pure (.len true (← cOpd x))
      | some (.slice _) => do pure (.len false (← cOpd x))
      | _ => none
    | .builtin .min =>
      match c.args.toList with
      | [x, y] => do pure (.bin .min (← cOpd x) (← cOpd y))
      | _ => none
    | .builtin .max =>
      match c.args.toList with
      | [x, y] => do pure (.bin .max (← cOpd x) (← cOpd y))
      | _ => none
    | .builtin .append => do
      let t ← c.argTypes[0]?
      let u ← c.argTypes[1]?
      let x ← c.args[0]?
      let y ← c.args[1]?
      match P.underlying t, P.underlying u with
      | some (.slice e), some (.slice _) => do
        let n ← szOf P e
        let zero ← zeroOf P e
        if n = 0 ∨ zero.length ≠ n ∨ P.bytesOf e > 1024 then none else pure (.app n (← cOpd x) (← cOpd y))
      | some (.slice e), some .string => do
        let n ← szOf P e
        let zero ← zeroOf P e
        if n = 0 ∨ zero.length ≠ n ∨ P.bytesOf e > 1024 then none else pure (.app n (← cOpd x) (← cOpd y))
      | _, _ => none
    | _ => none
  | _ => none

def convAO (P : Program) (ops : Array Oper) (o : Oper) : Option AO := do
  let a ← convOp P o
  match o.guard with
  | none => pure ⟨o.dst, a, none⟩
  | some (j, want) => do
    let x ← ops[j]?
    let d ← x.dst
    pure ⟨o.dst, a, some (d, want)⟩

/-- For each operation, the operations that come ahead of it in every order. -/
def preds (ops : List Oper) : List (List Nat) :=
  ops.map fun o => (o.after.toList.filter (Region.binds .any)).map (·.on)

def conv (P : Program) (kl : Nat → List Nat) : Code → Option IR
  | .skip => some .skip
  | .region id ops false => do pure (.reg (← ops.toList.mapM (convAO P ops)) (kl id))
  | .region id ops true => do pure (.draw (← ops.toList.mapM (convAO P ops)) (preds ops.toList) (kl id))
  | .seq a b => do pure (.seq (← conv P kl a) (← conv P kl b))
  | .cond c a b => do pure (.cond (← cOpd c) (← conv P kl a) (← conv P kl b))
  | .block id b => (conv P kl b).map (.block id)
  | .loop b => (conv P kl b).map .loop
  | .rangeFunc f ps a b => do pure (.rf (← cOpd f) ps.toList (← conv P kl a) (← conv P kl b))
  | .exit id => some (.exit id)
  | .scope b => (conv P kl b).map .scope
  | .label l => some (.label l)
  | .goto l => some (.goto l)
  | .ret => some .ret
  | .refuse _ => none
end Cz
