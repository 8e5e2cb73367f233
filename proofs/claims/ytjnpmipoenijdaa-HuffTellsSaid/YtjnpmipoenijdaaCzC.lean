/- The engine, part C: the conditions that a simplified code asks, computed. No condition. -/
import Derived.Test.YtjnpmipoenijdaaCzB
namespace Cz
open Go Go.RowKit
set_option linter.unusedSimpArgs false
set_option linter.unusedVariables false

inductive Ph where
  | ready
  | busy
  | done (e : Ex)

inductive Blk where
  | c (cs : List SV)
  | r (ro lit : Bool) (st : Z) (sz : Nat) (F : List SV)
  | m (es : List (SV × SV))
  | df
  | lp (vs : List SV) (ps : List Nat) (asg body : IR) (ph : Ph)
  | dead

structure Env where
  vs : List SV
  mks : List Nat

structure Cx where
  ro : Option Nat
  m : Nat

/-- What the computation of conditions leaves open: arithmetic, branches, memory of unknown length, calls, loops. -/
structure Sy where
  ar : BK → IntKind → Int → Int → (Int → Prop) → Prop
  cmp : BK → Int → Int → Bool
  scmp : BK → List UInt8 → List UInt8 → Bool
  scat : List UInt8 → List UInt8 → List UInt8
  beq : Bool → Bool → Bool
  nt : Bool → Bool
  cv : IntKind → Int → (Int → Prop) → Prop
  pl : Int → Int → Int
  mi : Int → Int → Int
  sc : Int → Nat → Int
  slen : List UInt8 → Int
  sat : List UInt8 → Int → Int
  ssub : List UInt8 → Int → Int → List UInt8
  app : List SV → List SV → List SV
  sub : List SV → Int → Int → Nat → List SV
  flen : List SV → Int
  br : Bool → (Unit → Prop) → (Unit → Prop) → Prop
  nil : Int → (Unit → Prop) → (Unit → Prop) → Prop
  eqv : Sg → SV → SV → (Unit → Prop) → (Unit → Prop) → Prop
  lk : Sg → SV → (SV → Bool → Prop) → SV → List (SV × SV) → Prop
  mu : Sg → SV → SV → (List (SV × SV) → Prop) → List (SV × SV) → List (SV × SV) → Prop
  chk : Bool → (Unit → Prop) → Prop
  rd : List SV → Int → Nat → Nat → Nat → Bool → (SV → Prop) → Prop
  wr : List SV → Int → Nat → Nat → List SV → (List SV → Prop) → Prop
  bs : List SV → Int → Int → (List UInt8 → Prop) → Prop
  mkr : List SV → Int → Int → (List SV → Prop) → Prop
  sb : List UInt8 → List SV
  call : FuncId → List SV → List Blk → (SV → List Blk → Prop) → Prop
  rfc : FuncId → List SV → List Blk → (SV → List Blk → Prop) → Prop
  yld : Nat → List SV → List Blk → (SV → List Blk → Prop) → Prop
  loop : Cx → IR → Env → List Blk → (Ex → Env → List Blk → Prop) → Prop
  jump : Cx → IR → Nat → Env → List Blk → (Ex → Env → List Blk → Prop) → Prop
  drw : Cx → List AO → List (List Nat) → Env → List Blk → (Env → List Blk → Prop) → Prop

def nth : List SV → Nat → SV
  | [], _ => .any
  | v :: _, 0 => v
  | _ :: l, n + 1 => nth l n
def put : List SV → Nat → SV → List SV
  | [], _, _ => []
  | _ :: l, 0, v => v :: l
  | x :: l, n + 1, v => x :: put l n v
def putO (vs : List SV) (d : Option Nat) (v : SV) : List SV := match d with | some d => put vs d v | none => vs
def puts : List SV → List Nat → SV → List SV
  | vs, [], _ => vs
  | vs, d :: ds, v => puts (put vs d v) ds v
def lget : List Blk → Nat → Blk
  | [], _ => .dead
  | v :: _, 0 => v
  | _ :: l, n + 1 => lget l n
def lset : List Blk → Nat → Blk → List Blk
  | [], _, _ => []
  | _ :: l, 0, v => v :: l
  | x :: l, n + 1, v => x :: lset l n v
def len : List Blk → Nat
  | [] => 0
  | _ :: l => len l + 1
def snoc : List Blk → Blk → List Blk
  | [], b => [b]
  | x :: l, b => x :: snoc l b
def dropS : List SV → Nat → List SV
  | l, 0 => l
  | [], _ + 1 => []
  | _ :: l, n + 1 => dropS l n
def takeS : List SV → Nat → List SV
  | _, 0 => []
  | [], _ + 1 => []
  | x :: l, n + 1 => x :: takeS l n
def lenS : List SV → Nat
  | [] => 0
  | _ :: l => lenS l + 1
def catS : List SV → List SV → List SV
  | [], m => m
  | x :: l, m => x :: catS l m
/-- The cells 'new' in the place of those from o on. -/
def repl : List SV → Nat → List SV → List SV
  | cs, _, [] => cs
  | cs, o, v :: vs => repl (put cs o v) (o + 1) vs

/-- The same, in one way through. -/
def over : List SV → List SV → List SV
  | cs, [] => cs
  | [], _ :: _ => []
  | _ :: cs, v :: vs => v :: over cs vs
def replL : List SV → Nat → List SV → List SV
  | cs, 0, ws => over cs ws
  | [], _ + 1, _ => []
  | c :: cs, o + 1, ws => c :: replL cs o ws
theorem repl_nil : ∀ (ws : List SV) (o : Nat), repl [] o ws = []
  | [], _ => rfl
  | _ :: ws, o => by rw [repl, put, repl_nil ws]
theorem repl_cons : ∀ (ws cs : List SV) (c : SV) (o : Nat), repl (c :: cs) (o + 1) ws = c :: repl cs o ws
  | [], _, _, _ => rfl
  | _ :: ws, cs, c, o => by rw [repl, repl, put, repl_cons ws]
theorem repl_zero : ∀ (ws cs : List SV), repl cs 0 ws = over cs ws
  | [], cs => by cases cs <;> rfl
  | v :: ws, [] => by rw [repl_nil]; rfl
  | v :: ws, c :: cs => by rw [repl, put, repl_cons, over, repl_zero ws cs]
theorem replL_eq : ∀ (cs : List SV) (o : Nat) (ws : List SV), replL cs o ws = repl cs o ws
  | cs, 0, ws => by rw [replL, repl_zero]
  | [], o + 1, ws => by rw [replL, repl_nil]
  | c :: cs, o + 1, ws => by rw [replL, repl_cons, replL_eq cs o ws]

def ev (vs : List SV) : Opd → SV
  | .t n => nth vs n
  | .c x => x
def evs (vs : List SV) : List Opd → List SV
  | [] => []
  | x :: xs => ev vs x :: evs vs xs

def mkv (agg : Bool) (cs : List SV) : Option SV :=
  match agg, cs with
  | true, cs => some (.ag cs)
  | false, [x] => some x
  | false, _ => none
def cellsOf : SV → Option (List SV)
  | .ag cs => some cs
  | .any | .un | .tp _ => none
  | x => some [x]

/-- The parts laid into the cells. -/
def fillS (vs : List SV) : List SV → List (Nat × Nat × Opd) → Option (List SV)
  | cs, [] => some cs
  | cs, (o, n, x) :: r => match cellsOf (ev vs x) with
    | some ws => if lenS ws = n ∧ o + n ≤ lenS cs then fillS vs (replL cs o ws) r else none
    | none => none
def repS : Nat → List SV → List SV
  | 0, _ => []
  | n + 1, z => catS z (repS n z)

def BK.lit (op : BK) (k : IntKind) (a b : Int) : Option Int :=
  match op with
  | .add => some (k.wrap (a + b))
  | .sub => some (k.wrap (a - b))
  | .mul => some (k.wrap (a * b))
  | .min => some (if b < a then b else a)
  | .max => some (if a < b then b else a)
  | _ => none
def BK.isCmp : BK → Bool
  | .lt | .le | .gt | .ge | .eq | .ne => true
  | _ => false
def BK.cmpLit (op : BK) (a b : Int) : Bool :=
  match op with
  | .lt => decide (a < b)
  | .le => decide (a ≤ b)
  | .gt => decide (b < a)
  | .ge => decide (b ≤ a)
  | .eq => decide (a = b)
  | .ne => !decide (a = b)
  | _ => false
def ofB : Bool → SV
  | true => .tt
  | false => .ff
def boolV : SV → Option Bool
  | .tt => some true
  | .ff => some false
  | .b x => some x
  | _ => none
/-- A branch: at once, if the bool is known. -/
def brv (S : Sy) (x : SV) (k1 k2 : Unit → Prop) : Prop :=
  match x with
  | .tt => k1 ()
  | .ff => k2 ()
  | .b x => S.br x k1 k2
  | _ => False

def vbin (S : Sy) (op : BK) (x y : SV) (K : SV → Prop) : Prop :=
  match x, y with
  | .i k a, .i k' b =>
    match op with
    | .shl | .shr =>
      match b with
      | .l n => if 0 ≤ n then S.ar op k a.v n fun r => K (.i k (.y r)) else False
      | .y n => S.chk (S.cmp .ge n 0) fun _ => S.ar op k a.v n fun r => K (.i k (.y r))
    | .quo | .rem =>
      if k = k' then
        match b with
        | .l n => if n = 0 then False else S.ar op k a.v n fun r => K (.i k (.y r))
        | .y n => S.chk (S.cmp .ne n 0) fun _ => S.ar op k a.v n fun r => K (.i k (.y r))
      else False
    | _ =>
      if k = k' then
        if op.isCmp then
          match a, b with
          | .l m, .l n => K (ofB (op.cmpLit m n))
          | a, b => K (.b (S.cmp op a.v b.v))
        else
          match a, b with
          | .l m, .l n => match op.lit k m n with
            | some r => K (.i k (.l r))
            | none => S.ar op k m n fun r => K (.i k (.y r))
          | a, b => S.ar op k a.v b.v fun r => K (.i k (.y r))
      else False
  | .s a, .s b =>
    match op with
    | .add => S.chk (S.cmp .le (S.pl (S.slen a) (S.slen b)) 1099511627776) fun _ => K (.s (S.scat a b))
    | op => if op.isCmp then K (.b (S.scmp op a b)) else False
  | _, _ => False

/-- Are two cells equal? -/
def veq1 (S : Sy) (s : Kd) (x y : SV) (K1 K2 : Unit → Prop) : Prop :=
  match s with
  | .kb => match x, y with
    | .tt, .tt => K1 ()
    | .ff, .ff => K1 ()
    | .tt, .ff => K2 ()
    | .ff, .tt => K2 ()
    | .b x, .tt => S.br x K1 K2
    | .b x, .ff => S.br x K2 K1
    | .tt, .b x => S.br x K1 K2
    | .ff, .b x => S.br x K2 K1
    | .b x, .b y => S.br (S.beq x y) K1 K2
    | _, _ => False
  | .ki => match x, y with
    | .i k a, .i k' b => if k = k' then (match a, b with
      | .l m, .l n => if m = n then K1 () else K2 ()
      | a, b => S.br (S.cmp .eq a.v b.v) K1 K2) else False
    | _, _ => False
  | .ks => match x, y with
    | .s a, .s b => S.br (S.scmp .eq a b) K1 K2
    | _, _ => False
/-- All cells' kinds, whatever the first ones say. -/
def kinds : List Kd → List SV → List SV → Bool
  | [], [], [] => true
  | .kb :: ss, x :: xs, y :: ys => (match x with | .tt | .ff | .b _ => true | _ => false) && (match y with | .tt | .ff | .b _ => true | _ => false) && kinds ss xs ys
  | .ki :: ss, .i k _ :: xs, .i k' _ :: ys => (if k = k' then true else false) && kinds ss xs ys
  | .ks :: ss, .s _ :: xs, .s _ :: ys => kinds ss xs ys
  | _, _, _ => false
def veqL (S : Sy) : List Kd → List SV → List SV → (Unit → Prop) → (Unit → Prop) → Prop
  | [], _, _, K1, _ => K1 ()
  | s :: ss, x :: xs, y :: ys, K1, K2 => veq1 S s x y (fun _ => veqL S ss xs ys K1 K2) K2
  | _, _, _, _, _ => False
def isAg : SV → Bool
  | .ag _ => true
  | _ => false
def veq (S : Sy) (sig : Sg) (x y : SV) (K1 K2 : Unit → Prop) : Prop :=
  match cellsOf x, cellsOf y with
  | some xs, some ys => if isAg x = sig.agg ∧ isAg y = sig.agg ∧ kinds sig.ks xs ys = true then veqL S sig.ks xs ys K1 K2 else False
  | _, _ => False

/-- May a value be a key? -/
def vkey (sig : Sg) (x : SV) : Bool :=
  match cellsOf x with
  | some xs => (match isAg x, sig.agg with | true, true => true | false, false => true | _, _ => false) && kinds sig.ks xs xs
  | none => false

def vnil (map : Bool) (x : SV) : Option Bool :=
  match map, x with
  | false, .re .nilFunc => some true
  | true, .re (.map none) => some true
  | false, .fn _ _ _ => some false
  | false, .yl _ => some false
  | true, .m _ => some false
  | _, _ => none

def veqN (map : Bool) (x y : SV) (K : Bool → Prop) : Prop :=
  match vnil map x, vnil map y with
  | some true, some b => K b
  | some false, some true => K false
  | _, _ => False

def vload (S : Sy) (l : List Blk) (agg : Bool) (n : Nat) (x : SV) (K : SV → Prop) : Prop :=
  match x with
  | .p k o => match lget l k with
    | .c cs => if o + n ≤ lenS cs then (match mkv agg (takeS (dropS cs o) n) with | some v => K v | none => False) else False
    | _ => False
  | .pe k i sz j => match lget l k with
    | .r _ lit _ sz' F => if sz = sz' then (match lit, i with
      | true, .l i' => if i'.toNat * sz + j + n ≤ lenS F ∧ j + n ≤ sz then (match mkv agg (takeS (dropS F (i'.toNat * sz + j)) n) with | some v => K v | none => False) else False
      | _, i => S.rd F i.v sz j n agg K) else False
    | .c cs => match i with
      | .l i' => if i'.toNat * sz + j + n ≤ lenS cs then (match mkv agg (takeS (dropS cs (i'.toNat * sz + j)) n) with | some v => K v | none => False) else False
      | .y i' => S.rd cs i' sz j n agg K
    | _ => False
  | _ => False

def scalar : SV → Bool
  | .ag _ | .tp _ | .un | .any => false
  | _ => true
def scalars : List SV → Bool
  | [] => true
  | x :: xs => scalar x && scalars xs

def plainV : SV → Bool
  | .tt | .ff | .b _ | .i _ _ | .s _ => true
  | _ => false
def plains : List SV → Bool
  | [] => true
  | x :: xs => plainV x && plains xs

def plainIf : Bool → List SV → Bool
  | true, F => plains F
  | false, _ => true

def vstore0 (S : Sy) (l : List Blk) (n : Nat) (x v : SV) (K : List Blk → Prop) : Prop :=
  match cellsOf v with
  | none => False
  | some ws =>
    if lenS ws = n ∧ scalars ws = true ∧ n ≠ 0 then
      match x with
      | .p k o => match lget l k with
        | .c cs => if o + n ≤ lenS cs then K (lset l k (.c (replL cs o ws))) else False
        | _ => False
      | .pe k i sz j => match lget l k with
        | .c cs => match i with
          | .l i' => if i'.toNat * sz + j + n ≤ lenS cs then K (lset l k (.c (replL cs (i'.toNat * sz + j) ws))) else False
          | .y i' => S.wr cs i' sz j ws fun cs' => K (lset l k (.c cs'))
        | .r false lit st sz' F => if sz = sz' ∧ j + n ≤ sz then (match lit, i, st with
          | true, .l i', .l s => if i'.toNat * sz + j + n ≤ lenS F ∧ s ≤ i'.toNat * sz then K (lset l k (.r false true st sz (replL F (i'.toNat * sz + j) ws))) else False
          | lit, i, st => if plainIf lit F = true then S.chk (S.cmp .le st.v (S.sc i.v sz)) fun _ => S.wr F i.v sz j ws fun F' => K (lset l k (.r false false st sz F')) else False) else False
        | _ => False
      | _ => False
    else False

/-- A great value is stored without a look at its cells. -/
def vstoreB (S : Sy) (l : List Blk) (n : Nat) (x v : SV) (K : List Blk → Prop) : Prop :=
  match v with
  | .ag ws => match x with
    | .p k o => match lget l k with
      | .c cs => S.chk (S.cmp .eq (S.flen ws) n) fun _ => S.wr cs 0 (o + n) o ws fun cs' => K (lset l k (.c cs'))
      | _ => False
    | _ => False
  | _ => False
def vstore (S : Sy) (l : List Blk) (n : Nat) (x v : SV) (K : List Blk → Prop) : Prop :=
  match Nat.ble 100 n with
  | true => vstoreB S l n x v K
  | false => vstore0 S l n x v K

def zadd (S : Sy) (a b : Z) : Z := match a, b with | .l m, .l n => .l (m + n) | .l 0, .y n => .y n | .y m, .l 0 => .y m | a, b => .y (S.pl a.v b.v)
def zsub (S : Sy) (a b : Z) : Z := match a, b with | .l m, .l n => .l (m - n) | .y m, .l 0 => .y m | a, b => .y (S.mi a.v b.v)
def zle (S : Sy) (a b : Z) (K : Unit → Prop) : Prop := match a, b with | .l m, .l n => if m ≤ n then K () else False | a, b => S.chk (S.cmp .le a.v b.v) K
def zlt (S : Sy) (a b : Z) (K : Unit → Prop) : Prop := match a, b with | .l m, .l n => if m < n then K () else False | a, b => S.chk (S.cmp .lt a.v b.v) K
def intZ : SV → Option Z
  | .i _ z => some z
  | _ => none
def optZ (vs : List SV) (d : Z) : Option Opd → Option Z
  | none => some d
  | some x => intZ (ev vs x)

/-- A slice's parts: block, size, from where, how many, capacity. -/
def slOf : SV → Option (Z × Z)
  | .sl _ _ off len _ => some (off, len)
  | _ => none

/-- The cells that a slice or a text has, as they are appended; how many elements; whether they are written out. -/
def srcOf (S : Sy) (l : List Blk) (sz : Nat) (y : SV) : Option (List SV × Z × Bool) :=
  match y with
  | .sl k sz' off len _ => match lget l k with
    | .r _ lit _ sz'' F => if sz = sz' ∧ sz' = sz'' then (match lit, off, len with
      | true, .l o, .l n => some (takeS (dropS F (o.toNat * sz)) (n.toNat * sz), .l n, true)
      | lit, off, len => if plainIf lit F = true then some (S.sub F off.v len.v sz, len, false) else none) else none
    | _ => none
  | .re (.slice none 0 0) => some ([], .l 0, true)
  | .s x => if sz = 1 then some (S.sb x, .y (S.slen x), false) else none
  | _ => none

/-- A new row of these cells. -/
def vnew (S : Sy) (l : List Blk) (sz : Nat) (ys : List SV) (n : Z) (ylit : Bool) (K : SV → List Blk → Prop) : Prop :=
  zle S n (.l 137438953472) fun _ => K (.sl (len l) sz (.l 0) n none) (snoc l (.r false ylit (.l 0) sz ys))

def scalarsIf : Bool → List SV → Bool
  | true, F => scalars F
  | false, _ => true

def vapp (S : Sy) (l : List Blk) (sz : Nat) (x y : SV) (K : SV → List Blk → Prop) : Prop :=
  match srcOf S l sz y with
  | none => False
  | some (ys, n, ylit) =>
    if scalarsIf ylit ys = true then
      match x with
      | .re (.slice none 0 0) => vnew S l sz ys n ylit K
      | .sl _ sz' (.l off) (.l ln) (some (.l 0)) => if sz = sz' ∧ off = 0 ∧ ln = 0 then vnew S l sz ys n ylit K else False
      | .sl k sz' (.l off) ln none => if sz = sz' ∧ off = 0 then (match lget l k with
        | .r false lit _ sz'' F => if sz = sz'' then (match lit, ylit, ln with
          | true, true, .l ln' => if ln'.toNat * sz = lenS F then zle S (zadd S ln n) (.l 137438953472) fun _ =>
              K (.sl k sz (.l 0) (zadd S ln n) none) (lset l k (.r false true (.l (lenS F)) sz (catS F ys))) else False
          | lit, ylit, ln => if plainIf lit F = true ∧ plainIf ylit ys = true then S.chk (S.cmp .eq (S.sc ln.v sz) (S.flen F)) fun _ => zle S (zadd S ln n) (.l 137438953472) fun _ =>
              K (.sl k sz (.l 0) (zadd S ln n) none) (lset l k (.r false false (.y (S.flen F)) sz (S.app F ys))) else False) else False
        | _ => False) else False
      | _ => False
    else False

def vlook (S : Sy) (sig : Sg) (key : SV) (K : SV → Bool → Prop) (zero : SV) : List (SV × SV) → Prop
  | [] => K zero false
  | (k, v) :: r => veq S sig key k (fun _ => K v true) (fun _ => vlook S sig key K zero r)
def vmupd (S : Sy) (sig : Sg) (key v : SV) (K : List (SV × SV) → Prop) : List (SV × SV) → List (SV × SV) → Prop
  | acc, [] => K (acc ++ [(key, v)])
  | acc, (k, u) :: r => veq S sig key k (fun _ => K (acc ++ (key, v) :: r)) (fun _ => vmupd S sig key v K (acc ++ [(k, u)]) r)

def vop (S : Sy) (o : AOp) (vs : List SV) (l : List Blk) (K : SV → List Blk → Prop) : Prop :=
  match o with
  | .mv x => K (ev vs x) l
  | .pick c a b => brv S (ev vs c) (fun _ => K (ev vs a) l) (fun _ => K (ev vs b) l)
  | .alloc cs => K (.p (len l) 0) (snoc l (.c cs))
  | .box x => match cellsOf (ev vs x) with
    | some cs => if scalars cs then K (.p (len l) 0) (snoc l (.c cs)) else False
    | none => False
  | .build zero parts => match fillS vs zero parts with
    | some cs => if scalars cs then K (.ag cs) l else False
    | none => False
  | .buildS sz n zero parts => match fillS vs (repS n zero) (parts.map fun (i, x) => (i * sz, sz, x)) with
    | some cs => if scalars cs then K (.sl (len l) sz (.l 0) (.l n) none) (snoc l (.r false true (.l 0) sz cs)) else False
    | none => False
  | .load agg n x => vload S l agg n (ev vs x) fun v => K v l
  | .store n x v => vstore S l n (ev vs x) (ev vs v) fun l' => K .un l'
  | .nilc x => match ev vs x with
    | .p k o => K (.p k o) l
    | .pe k i sz j => K (.pe k i sz j) l
    | .fn (.func f) a c => K (.fn (.func f) a c) l
    | .yl k => K (.yl k) l
    | _ => False
  | .bin op x y => vbin S op (ev vs x) (ev vs y) fun v => K v l
  | .eqA sig neg x y => S.eqv sig (ev vs x) (ev vs y) (fun _ => K (ofB (!neg)) l) (fun _ => K (ofB neg) l)
  | .eqN map neg x y => veqN map (ev vs x) (ev vs y) fun b => K (ofB (if neg then !b else b)) l
  | .nilS neg x => match ev vs x with
    | .re (.slice none 0 0) => K (ofB (!neg)) l
    | .sl _ _ _ ln _ => S.nil ln.v (fun _ => K (ofB (!neg)) l) (fun _ => K (ofB neg) l)
    | _ => False
  | .not x => match ev vs x with
    | .tt => K .ff l
    | .ff => K .tt l
    | .b x => K (.b (S.nt x)) l
    | _ => False
  | .neg x => match ev vs x with
    | .i k z => S.ar .sub k 0 z.v fun r => K (.i k (.y r)) l
    | _ => False
  | .cv k x => match ev vs x with
    | .i _ (.l n) => K (.i k (.l (k.wrap n))) l
    | .i _ (.y n) => S.cv k n fun r => K (.i k (.y r)) l
    | _ => False
  | .cvSS x => match ev vs x with
    | .s s => K (.s s) l
    | _ => False
  | .cvBS x => match ev vs x with
    | .sl k sz off len _ => match lget l k with
      | .r _ _ _ sz' F => if sz = 1 ∧ sz' = 1 then S.bs F off.v len.v fun x => K (.s x) l else False
      | _ => False
    | .re (.slice none _ _) => K (.s []) l
    | _ => False
  | .cvSB x => match ev vs x with
    | .s x => K (.sl (len l) 1 (.l 0) (.y (S.slen x)) none) (snoc l (.r false false (.l 0) 1 (S.sb x)))
    | _ => False
  | .cvLL x => match ev vs x with
    | .sl k sz off (.l n) cap => if 0 < n ∧ 0 < sz then (match lget l k with
      | .r false _ _ _ _ => K (.sl k sz off (.l n) cap) l
      | _ => False) else False
    | _ => False
  | .mkF f a c => K (.fn f (evs vs a) (evs vs c)) l
  | .mkM => K (.m (len l)) (snoc l (.m []))
  | .mkS sz zero n cap => match intZ (ev vs n), intZ (ev vs cap) with
    | some (.l n), some (.l c) => if n = c ∧ 0 ≤ n ∧ n ≤ 65536 then K (.sl (len l) sz (.l 0) (.l n) none) (snoc l (.r false true (.l 0) sz (repS n.toNat zero))) else False
    | some a, some b => S.mkr zero a.v b.v fun F => K (.sl (len l) sz (.l 0) (.y a.v) none) (snoc l (.r false false (.l 0) sz F))
    | _, _ => False
  | .slc sz x lo hi mx => match ev vs x with
    | .sl k sz' off ln cap =>
      if sz = sz' then
        match optZ vs (.l 0) lo, optZ vs ln hi, mx, cap with
        | some a, some b, none, none => zle S (.l 0) a fun _ => zle S a b fun _ => zle S b ln fun _ => K (.sl k sz (zadd S off a) (zsub S b a) none) l
        | some a, some b, some m, none => match intZ (ev vs m) with
          | some m => zle S (.l 0) a fun _ => zle S a b fun _ => zle S b m fun _ => zle S m ln fun _ => K (.sl k sz (zadd S off a) (zsub S b a) (some (zsub S m a))) l
          | none => False
        | _, _, _, _ => False
      else False
    | .re (.slice none 0 0) => match optZ vs (.l 0) lo, optZ vs (.l 0) hi, optZ vs (.l 0) mx with
      | some a, some b, some m => zle S (.l 0) a fun _ => zle S a b fun _ => zle S b m fun _ => zle S m (.l 0) fun _ => K (.re (.slice none 0 0)) l
      | _, _, _ => False
    | _ => False
  | .slcS x lo hi => match ev vs x with
    | .s x => match optZ vs (.l 0) lo, optZ vs (.y (S.slen x)) hi with
      | some a, some b => zle S (.l 0) a fun _ => zle S a b fun _ => zle S b (.y (S.slen x)) fun _ => K (.s (S.ssub x a.v b.v)) l
      | _, _ => False
    | _ => False
  | .fad off x => match ev vs x with
    | .p k o => K (.p k (o + off)) l
    | .pe k i sz j => K (.pe k i sz (j + off)) l
    | _ => False
  | .fld agg off n x => match ev vs x with
    | .ag cs => if off + n ≤ lenS cs then (match mkv agg (takeS (dropS cs off) n) with | some v => K v l | none => False) else False
    | _ => False
  | .iadA n sz x i => match ev vs x, intZ (ev vs i) with
    | .p k 0, some z => match lget l k with
      | .c cs => if n * sz = lenS cs then zle S (.l 0) z fun _ => zlt S z (.l n) fun _ => K (.pe k z sz 0) l else False
      | _ => False
    | .pe k i sz0 j, some (.l z) => if 0 ≤ z ∧ z < n ∧ j + n * sz ≤ sz0 then K (.pe k i sz0 (j + z.toNat * sz)) l else False
    | _, _ => False
  | .iadS sz x i => match ev vs x, intZ (ev vs i) with
    | .sl k sz' off ln _, some z => if sz = sz' then zle S (.l 0) z fun _ => zlt S z ln fun _ => K (.pe k (zadd S off z) sz 0) l else False
    | _, _ => False
  | .ixA agg n sz x i => match ev vs x, intZ (ev vs i) with
    | .ag cs, some (.l z) => if 0 ≤ z ∧ z < n ∧ n * sz = lenS cs then (match mkv agg (takeS (dropS cs (z.toNat * sz)) sz) with | some v => K v l | none => False) else False
    | .ag cs, some (.y z) => if n * sz = lenS cs then S.rd cs z sz 0 sz agg fun v => K v l else False
    | _, _ => False
  | .ixS x i => match ev vs x, intZ (ev vs i) with
    | .s x, some z => zle S (.l 0) z fun _ => zlt S z (.y (S.slen x)) fun _ => K (.i .u8 (.y (S.sat x z.v))) l
    | _, _ => False
  | .look sig zero ok m k => if vkey sig (ev vs k) = true then (match ev vs m with
    | .m b => match lget l b with
      | .m es => S.lk sig (ev vs k) (fun v f => K (if ok then .tp [v, ofB f] else v) l) zero es
      | _ => False
    | .re (.map none) => K (if ok then .tp [zero, .ff] else zero) l
    | _ => False) else False
  | .mupd sig m k v => if vkey sig (ev vs k) = true then (match ev vs m with
    | .m b => match lget l b with
      | .m es => S.mu sig (ev vs k) (ev vs v) (fun es' => K .un (lset l b (.m es'))) [] es
      | _ => False
    | _ => False) else False
  | .ext x n => match ev vs x with
    | .tp ws => if n < lenS ws then K (nth ws n) l else False
    | _ => False
  | .call f args => match ev vs f with
    | .fn (.func g) a c => S.call g (catS a (catS (evs vs args) c)) l K
    | .yl k => S.yld k (evs vs args) l K
    | _ => False
  | .len str x => match str, ev vs x with
    | false, .sl _ _ _ ln _ => K (.i .i64 ln) l
    | false, .re (.slice none 0 _) => K (.i .i64 (.l 0)) l
    | true, .s x => K (.i .i64 (.y (S.slen x))) l
    | _, _ => False
  | .app sz x y => vapp S l sz (ev vs x) (ev vs y) K

/-- A list of operations, one behind the other. -/
def vrg (S : Sy) : List AO → List SV → List Blk → (List SV → List Blk → Prop) → Prop
  | [], vs, l, K => K vs l
  | o :: r, vs, l, K =>
    match o.g with
    | none => vop S o.op vs l fun v l' => vrg S r (putO vs o.dst v) l' K
    | some (s, want) => match nth vs s with
      | .un => vrg S r (putO vs o.dst .un) l K
      | x => brv S x
        (fun _ => if want then vop S o.op (put vs s .tt) l fun v l' => vrg S r (putO (put vs s .tt) o.dst v) l' K else vrg S r (putO (put vs s .tt) o.dst .un) l K)
        (fun _ => if want then vrg S r (putO (put vs s .ff) o.dst .un) l K else vop S o.op (put vs s .ff) l fun v l' => vrg S r (putO (put vs s .ff) o.dst v) l' K)

abbrev VK := Ex → Env → List Blk → Prop

def findL : IR → Nat → Option IR
  | .seq a b, l => match findL a l with
    | some rest => some (.seq rest b)
    | none => findL b l
  | .label l', l => if l' == l then some .skip else none
  | _, _ => none

/-! What goes on behind a piece of code: each names what is behind it once. -/
def seqK (f : VK → Env → List Blk → Prop) (K : VK) : VK := fun ex e l => match ex with
  | .normal => f K e l
  | ex => K ex e l
def blkK (id : Nat) (K : VK) : VK := fun ex e l => match ex with
  | .exit id' => if id' = id then K .normal e l else K (.exit id') e l
  | ex => K ex e l
def scpK (S : Sy) (cx : Cx) (b : IR) (K : VK) : VK := fun ex e l => match ex with
  | .goto g => match findL b g with
    | some _ => S.jump cx b g e l K
    | none => K (.goto g) e l
  | ex => K ex e l
def rfK (K : VK) (vs : List SV) (mks : List Nat) (k : Nat) : SV → List Blk → Prop := fun _ l2 => match lget l2 k with
  | .lp _ _ _ _ .ready => K .normal ⟨vs, mks⟩ (lset l2 k .dead)
  | .lp _ _ _ _ (.done ex) => K ex ⟨vs, mks⟩ (lset l2 k .dead)
  | _ => False
def drK (K : VK) (kl mks : List Nat) : Env → List Blk → Prop := fun e' l' => K .normal ⟨puts e'.vs kl .any, e'.mks⟩ l'
def rgK (K : VK) (kl mks : List Nat) : List SV → List Blk → Prop := fun vs l' => K .normal ⟨puts vs kl .any, mks⟩ l'

def vc (S : Sy) (cx : Cx) : IR → VK → Env → List Blk → Prop
  | .skip, K, e, l => K .normal e l
  | .label _, K, e, l => K .normal e l
  | .exit id, K, e, l => K (.exit id) e l
  | .goto g, K, e, l => K (.goto g) e l
  | .ret, K, e, l => K .ret e l
  | .reg ops kl, K, e, l => vrg S ops e.vs l (rgK K kl e.mks)
  | .draw ops pre kl, K, e, l => S.drw cx ops pre e l (drK K kl e.mks)
  | .seq a b, K, e, l => vc S cx a (seqK (vc S cx b) K) e l
  | .cond x a b, K, e, l => brv S (ev e.vs x) (fun _ => vc S cx a K e l) (fun _ => vc S cx b K e l)
  | .block id b, K, e, l => vc S cx b (blkK id K) e l
  | .loop b, K, e, l => S.loop cx b e l K
  | .scope b, K, e, l => vc S cx b (scpK S cx b K) e l
  | .rf f ps asg body, K, e, l => match ev e.vs f with
    | .fn (.func g) a c => match cx.ro with
      | none => S.rfc g (catS a (.yl (len l + 1) :: c)) (snoc (snoc l .df) (.lp e.vs ps asg body .ready)) (rfK K e.vs (len l :: e.mks) (len l + 1))
      | some k0 => match lget l k0 with
        | .lp _ _ _ _ _ => S.rfc g (catS a (.yl (len l) :: c)) (snoc l (.lp e.vs ps asg body .ready)) (rfK K e.vs e.mks (len l))
        | _ => False
    | _ => False
end Cz
