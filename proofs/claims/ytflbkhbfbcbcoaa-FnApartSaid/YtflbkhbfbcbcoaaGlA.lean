import Derived.Calls
/- GL, a small deterministic machine: its definitions, and that its calls are calls of the program. -/
set_option linter.unusedSimpArgs false
set_option linter.unusedVariables false
set_option linter.unnecessarySimpa false
/-! GL: a small deterministic machine for the Go text that a claim reaches: its definitions. -/
namespace GL
open Go (IntKind BinOp UnOp)

/-- a slice's capacity: known, or open over elements of so many cells -/
inductive Cap where
  | k (c : Nat)
  | o (k : Nat)

/-- values: addresses are numbers of the machine's own blocks; a slice's capacity is known or not -/
inductive V where
  | int (k : IntKind) (n : Int)
  | bool (b : Bool)
  | ptr (b off : Nat)
  | nilp
  | slice (b off len : Nat) (cap : Cap)
  | nils
  | agg (cs : List V)
  | tup (vs : List V)
  | fn (f : Nat) (capt : List V)
deriving Inhabited

/-- what a slot holds: a value, or a pointer to a variable of this very call -/
inductive T where
  | v (x : V)
  | lp (t g off : Nat)
deriving Inhabited

inductive Own where
  | ro | own | dead
deriving DecidableEq

structure Blk where
  st : Own
  cells : List V

abbrev Heap := List Blk

inductive Opd where
  | t (n : Nat)
  | c (x : V)
  | f (n : Nat)

/-- operations that look at their operands alone -/
inductive POp where
  | mov | pick | nilCheck | bad
  | bin (op : BinOp)
  | eqB (neg : Bool)
  | eqAgg (neg : Bool) (shape : List (Option IntKind))
  | isNil (neg : Bool)
  | un (op : UnOp)
  | conv (k : IntKind)
  | mkFn (f : Nat)
  | slice (k : Nat) (lo hi max : Bool)
  | faddr (off : Nat)
  | field (agg : Bool) (off k : Nat)
  | idx (k : Nat)
  | extract (i : Nat)
  | len | cap | min2 | max2
  | build (zero : List V) (places : List (Nat × Nat))

/-- operations on the variables of this very call -/
inductive LOp where
  | alloc (t : Nat) (zero : List V)
  | box (t n : Nat)
  | load (t : Nat) (agg : Bool) (k : Nat)
  | store (t k : Nat)

/-- operations that read blocks -/
inductive ROp where
  | load (agg : Bool) (k : Nat)
  | sliceX (k : Nat)

/-- operations that make one block -/
inductive MOp where
  | alloc (zero : List V)
  | box (n : Nat)
  | lit (k : Nat)
  | make (k bytes : Nat) (zero : List V)
  | appendN (k bytes : Nat)

/-- operations that change blocks -/
inductive EOp where
  | store (k : Nat)
  | new (o : MOp)
  | append (k bytes : Nat)
  | appendZ (k bytes : Nat) (zero : List V)
  | copy (k : Nat)
  | clear (k : Nat) (zero : List V)
  | call

inductive AOp where
  | p (o : POp)
  | l (o : LOp)
  | r (o : ROp) (watch : Bool)
  | e (o : EOp) (chk sl : List Nat)
  | m (o : MOp) (slot : Nat)

structure AOper where
  ix : Nat
  dst : Option Nat
  guard : Option (Nat × Bool)
  op : AOp
  args : List Opd

inductive Code where
  | skip
  | reg (rsv : Nat) (ops : List AOper)
  | seq (a b : Code)
  | cond (c : Opd) (a b : Code)
  | block (id : Nat) (c : Code)
  | loop (c : Code)
  | exit (id : Nat)
  | ret
  | bad

inductive Res where
  | tmp (t : Nat)
  | cellL (a t : Nat) (agg : Bool) (k : Nat)
  | cellH (a : Nat) (agg : Bool) (k : Nat)

structure Fn where
  body : Code
  res : List Res

structure S where
  σ : Nat → T
  L : Nat → Nat × List V
  h : Heap
  wt : Nat → Option (ROp × List T × V)
  fl : Nat → Bool
  base : Nat

def upd {α : Type} (f : Nat → α) (i : Nat) (x : α) : Nat → α := fun j => if j = i then x else f j

def S.put (s : S) (d : Option Nat) (x : T) : S :=
  match d with
  | some t => { s with σ := upd s.σ t x }
  | none => s

def S.ev (s : S) : Opd → T
  | .t n => s.σ n
  | .c x => .v x
  | .f n => .v (.fn n [])

/-- the cells of a value -/
def V.cells : V → List V
  | .agg cs => cs
  | x => [x]

/-- a value out of cells -/
def mkV (agg : Bool) (cs : List V) : Option V :=
  if agg then some (.agg cs) else match cs with | [x] => some x | _ => none

def cut (cs : List V) (off n : Nat) : Option (List V) :=
  if off + n ≤ cs.length then some ((cs.drop off).take n) else none

def lay (cs : List V) (off : Nat) (xs : List V) : Option (List V) :=
  if off + xs.length ≤ cs.length then some (cs.take off ++ xs ++ cs.drop (off + xs.length)) else none

def rdH (h : Heap) (b off n : Nat) : Option (List V) :=
  match h[b]? with
  | some blk => if blk.st = .dead then none else cut blk.cells off n
  | none => none

def wrH (h : Heap) (b off : Nat) (xs : List V) : Option Heap :=
  match h[b]? with
  | some blk => if blk.st = .own then (lay blk.cells off xs).bind fun cs => some (h.set b { blk with cells := cs }) else none
  | none => none

/-- may a value lie in a cell? -/
def V.cell : V → Bool
  | .agg _ | .tup _ => false
  | _ => true

def allCell (cs : List V) : Bool := cs.all V.cell

def binI (op : BinOp) (k : IntKind) (a b : Int) : Option V :=
  match op with
  | .add => some (.int k (k.wrap (a + b)))
  | .sub => some (.int k (k.wrap (a - b)))
  | .mul => some (.int k (k.wrap (a * b)))
  | .quo => if b = 0 then none else some (.int k (k.wrap (a.tdiv b)))
  | .rem => if b = 0 then none else some (.int k (a.tmod b))
  | .and => some (.int k (k.wrap ((BitVec.ofInt k.bits a &&& BitVec.ofInt k.bits b).toNat : Nat)))
  | .or => some (.int k (k.wrap ((BitVec.ofInt k.bits a ||| BitVec.ofInt k.bits b).toNat : Nat)))
  | .xor => some (.int k (k.wrap ((BitVec.ofInt k.bits a ^^^ BitVec.ofInt k.bits b).toNat : Nat)))
  | .eql => some (.bool (decide (a = b)))
  | .neq => some (.bool (decide (a ≠ b)))
  | .lss => some (.bool (decide (a < b)))
  | .leq => some (.bool (decide (a ≤ b)))
  | .gtr => some (.bool (decide (b < a)))
  | .geq => some (.bool (decide (b ≤ a)))
  | _ => none

def shI (op : BinOp) (k : IntKind) (a : Int) (b : Int) : Option V :=
  if b < 0 then none else
  match op with
  | .shl => some (.int k (k.wrap (a * 2 ^ (min b.toNat k.bits))))
  | .shr => some (.int k (a.fdiv (2 ^ (min b.toNat k.bits))))
  | _ => none

def binV (op : BinOp) (x y : V) : Option V :=
  match x, y with
  | .int k a, .int k' b =>
    if op = .shl ∨ op = .shr then shI op k a b else if k = k' then binI op k a b else none
  | _, _ => none

def unV (op : UnOp) (x : V) : Option V :=
  match op, x with
  | .neg, .int k n => some (.int k (k.wrap (0 - n)))
  | .not, .bool b => some (.bool !b)
  | _, _ => none

/-- cells of bools and numbers, compared -/
def eqCells : List (Option IntKind) → List V → List V → Option Bool
  | [], [], [] => some true
  | none :: sh, .bool a :: xs, .bool b :: ys => (eqCells sh xs ys).bind fun r => some (a == b && r)
  | some k :: sh, .int k1 a :: xs, .int k2 b :: ys => if k1 = k ∧ k2 = k then (eqCells sh xs ys).bind fun r => some (decide (a = b) && r) else none
  | _, _, _ => none

def lenV : V → Option Nat
  | .slice _ _ n _ => some n
  | .nils => some 0
  | _ => none

def idxV (k : Nat) (x i : V) : Option V :=
  match x, i with
  | .slice b off n _, .int _ i => if 0 ≤ i ∧ i < n then some (.ptr b (off + i.toNat * k)) else none
  | _, _ => none

def natV : V → Option Nat
  | .int _ i => if 0 ≤ i then some i.toNat else none
  | _ => none

/-- a slice expression that stays within the length (or the known capacity) -/
def slcV (k : Nat) (x : V) (lo hi max : Option Nat) : Option V :=
  match x with
  | .nils => if lo.getD 0 = 0 ∧ hi.getD 0 = 0 ∧ max.getD 0 = 0 then some .nils else none
  | .slice b off n (.k c) =>
    if lo.getD 0 ≤ hi.getD n ∧ hi.getD n ≤ max.getD c ∧ max.getD c ≤ c then
      some (.slice b (if max.getD c = lo.getD 0 then off else off + lo.getD 0 * k) (hi.getD n - lo.getD 0) (.k (max.getD c - lo.getD 0))) else none
  | .slice b off n (.o k') =>
    match max with
    | some m => if lo.getD 0 ≤ hi.getD n ∧ hi.getD n ≤ m ∧ m ≤ n then some (.slice b (if m = lo.getD 0 then off else off + lo.getD 0 * k) (hi.getD n - lo.getD 0) (.k (m - lo.getD 0))) else none
    | none => if k' = k ∧ lo.getD 0 ≤ hi.getD n ∧ hi.getD n ≤ n then some (.slice b (off + lo.getD 0 * k) (hi.getD n - lo.getD 0) (.o k)) else none
  | _ => none

def vals : List T → Option (List V)
  | [] => some []
  | .v x :: r => (vals r).bind fun xs => some (x :: xs)
  | .lp .. :: _ => none

/-- one bound of a slice expression, if it is given -/
def takeB : Bool → List V → Option (Option Nat × List V)
  | false, xs => some (none, xs)
  | true, x :: xs => (natV x).bind fun n => some (some n, xs)
  | true, [] => none

/-- the bounds of a slice expression, as they are given -/
def bounds (lo hi mx : Bool) (as : List T) : Option (Option Nat × Option Nat × Option Nat) :=
  (vals as).bind fun xs => (takeB lo xs).bind fun l => (takeB hi l.2).bind fun h => (takeB mx h.2).bind fun m => if mx = true ∧ hi = false then none else some (l.1, h.1, m.1)

/-- parts laid into a row of cells -/
def fillL (cs : List V) : List (Nat × Nat) → List T → Option (List V)
  | [], [] => some cs
  | (off, n) :: r, .v x :: as => if x.cells.length = n ∧ allCell x.cells = true then (lay cs off x.cells).bind fun cs' => fillL cs' r as else none
  | _, _ => none

def pop (o : POp) (as : List T) : Option T :=
  match o with
  | .mov => match as with
    | [x] => some x
    | _ => none
  | .bad => none
  | .pick => match as with
    | [.v (.bool b), x, y] => some (if b then x else y)
    | _ => none
  | .nilCheck => match as with
    | [.lp t g o] => some (.lp t g o)
    | [.v (.ptr b o)] => some (.v (.ptr b o))
    | [.v (.fn f cs)] => some (.v (.fn f cs))
    | _ => none
  | .bin op => match as with
    | [.v x, .v y] => (binV op x y).bind fun r => some (.v r)
    | _ => none
  | .eqB neg => match as with
    | [.v (.bool a), .v (.bool b)] => some (.v (.bool (if neg then a != b else a == b)))
    | _ => none
  | .eqAgg neg sh => match as with
    | [.v (.agg xs), .v (.agg ys)] => (eqCells sh xs ys).bind fun r => some (.v (.bool (if neg then !r else r)))
    | _ => none
  | .isNil neg => match as with
    | [.v .nils] => some (.v (.bool !neg))
    | [.v (.slice ..)] => some (.v (.bool neg))
    | _ => none
  | .un op => match as with
    | [.v x] => (unV op x).bind fun r => some (.v r)
    | _ => none
  | .conv k => match as with
    | [.v (.int _ n)] => some (.v (.int k (k.wrap n)))
    | _ => none
  | .mkFn f => (vals as).bind fun cs => some (.v (.fn f cs))
  | .slice k lo hi mx => match as with
    | .v x :: as => (bounds lo hi mx as).bind fun b => (slcV k x b.1 b.2.1 b.2.2).bind fun r => some (.v r)
    | _ => none
  | .faddr off => match as with
    | [.lp t g o] => some (.lp t g (o + off))
    | [.v (.ptr b o)] => some (.v (.ptr b (o + off)))
    | _ => none
  | .field agg off k => match as with
    | [.v (.agg cs)] => (cut cs off k).bind fun xs => (mkV agg xs).bind fun r => some (.v r)
    | _ => none
  | .idx k => match as with
    | [.v x, .v i] => (idxV k x i).bind fun r => some (.v r)
    | _ => none
  | .extract i => match as with
    | [.v (.tup vs)] => (vs[i]?).bind fun r => some (.v r)
    | _ => none
  | .len => match as with
    | [.v x] => (lenV x).bind fun n => some (.v (.int .i64 n))
    | _ => none
  | .cap => match as with
    | [.v (.slice _ _ _ (.k c))] => some (.v (.int .i64 c))
    | [.v .nils] => some (.v (.int .i64 0))
    | _ => none
  | .min2 => match as with
    | [.v (.int k x), .v (.int k' y)] => if k = k' then some (.v (.int k (if y < x then y else x))) else none
    | _ => none
  | .max2 => match as with
    | [.v (.int k x), .v (.int k' y)] => if k = k' then some (.v (.int k (if x < y then y else x))) else none
    | _ => none
  | .build z pl => (fillL z pl as).bind fun cs => some (.v (.agg cs))

/-- what a local operation gives, and the variables behind it -/
def lop (o : LOp) (as : List T) (L : Nat → Nat × List V) : Option (T × (Nat → Nat × List V)) :=
  match o with
  | .alloc t z => match as with
    | [] => some (.lp t ((L t).1 + 1) 0, upd L t ((L t).1 + 1, z))
    | _ => none
  | .box t n => match as with
    | [.v x] => if x.cells.length = n ∧ allCell x.cells = true then some (.lp t ((L t).1 + 1) 0, upd L t ((L t).1 + 1, x.cells)) else none
    | _ => none
  | .load t agg k => match as with
    | [.lp t' g off] => if t' = t ∧ (L t).1 = g then (cut (L t).2 off k).bind fun cs => (mkV agg cs).bind fun x => some (.v x, L) else none
    | _ => none
  | .store t k => match as with
    | [.lp t' g off, .v x] =>
      if t' = t ∧ (L t).1 = g ∧ x.cells.length = k ∧ allCell x.cells = true then (lay (L t).2 off x.cells).bind fun cs => some (.v (.tup []), upd L t (g, cs)) else none
    | _ => none

def rop (o : ROp) (as : List T) (h : Heap) : Option V :=
  match o with
  | .load agg k => match as with
    | [.v (.ptr b off)] => (rdH h b off k).bind fun cs => mkV agg cs
    | _ => none
  | .sliceX k => match as with
    | [.v (.slice b off _ (.o k')), .v lo, .v hi] =>
      (natV lo).bind fun l => (natV hi).bind fun hh =>
        match h[b]? with
        | some blk => if k' = k ∧ l ≤ hh ∧ blk.st = .own ∧ 0 < k ∧ off + hh * k ≤ blk.cells.length then some (.slice b (off + l * k) (hh - l) (.o k)) else none
        | none => none
    | _ => none

/-- the first n elements of a slice -/
def rdS (h : Heap) (k : Nat) (x : V) (n : Nat) : Option (List V) :=
  match x with
  | .slice b off m _ => if n ≤ m then (if n * k = 0 then some [] else rdH h b off (n * k)) else none
  | .nils => if n = 0 then some [] else none
  | _ => none

/-- how much memory an operation may ask for -/
def room : Nat := 2 ^ 46

/-- the new block, and the value that leads to it -/
def mop (o : MOp) (as : List T) (h : Heap) : Option (Blk × (Nat → V)) :=
  match o with
  | .alloc z => match as with
    | [] => some (⟨.own, z⟩, fun b => .ptr b 0)
    | _ => none
  | .box n => match as with
    | [.v x] => if x.cells.length = n ∧ allCell x.cells = true then some (⟨.own, x.cells⟩, fun b => .ptr b 0) else none
    | _ => none
  | .lit k => (vals as).bind fun xs =>
      if (xs.all fun x => x.cells.length == k && allCell x.cells) ∧ xs.length * k ≤ 2 ^ 24 then some (⟨.own, xs.flatMap V.cells⟩, fun b => .slice b 0 xs.length (.k xs.length)) else none
  | .make k bytes z => match as with
    | [.v (.int _ n), .v (.int _ c)] =>
      if 0 ≤ n ∧ n ≤ c ∧ c * bytes ≤ room ∧ c ≤ room then some (⟨.own, (List.replicate c.toNat z).flatten⟩, fun b => .slice b 0 n.toNat (.k c.toNat)) else none
    | _ => none
  | .appendN k bytes => match as with
    | [.v s, .v x] =>
      (lenV x).bind fun n => (rdS h k x n).bind fun xs =>
        match s with
        | .slice _ _ len (.k c) => if c < len + n ∧ (len + n) * bytes ≤ room ∧ len + n ≤ room then (rdS h k s len).bind fun old => some (⟨.own, old ++ xs⟩, fun b => .slice b 0 (len + n) (.o k)) else none
        | .nils => if 0 < n ∧ n * bytes ≤ room ∧ n ≤ room then some (⟨.own, xs⟩, fun b => .slice b 0 n (.o k)) else none
        | _ => none
    | _ => none

/-- append: xs behind s -/
def appH (k bytes : Nat) (s : V) (n : Nat) (xs : List V) (h : Heap) : Option (V × Heap) :=
  if n = 0 then (lenV s).bind fun _ => some (s, h) else
  match s with
  | .nils => if n * bytes ≤ room ∧ n ≤ room then some (.slice h.length 0 n (.o k), h ++ [⟨.own, xs⟩]) else none
  | .slice b off len (.k c) =>
    if len + n ≤ c then (wrH h b (off + len * k) xs).bind fun h' => some (.slice b off (len + n) (.k c), h')
    else if (len + n) * bytes ≤ room ∧ len + n ≤ room then (rdS h k s len).bind fun old => some (.slice h.length 0 (len + n) (.o k), h ++ [⟨.own, old ++ xs⟩])
    else none
  | .slice b off len (.o k') =>
    match h[b]? with
    | some blk =>
      if blk.st = .own ∧ k' = k ∧ 0 < k then
        if off + (len + n) * k ≤ blk.cells.length then (wrH h b (off + len * k) xs).bind fun h' => some (.slice b off (len + n) (.o k), h')
        else if (len + n) * bytes ≤ room ∧ len + n ≤ room then
          (cut blk.cells off (len * k)).bind fun old => some (.slice h.length 0 (len + n) (.o k), h.set b { blk with st := .dead } ++ [⟨.own, old ++ xs⟩])
        else none
      else none
    | none => none
  | _ => none

abbrev CallF := Nat → List V → Heap → Option (V × Heap)

def eop (call : CallF) (o : EOp) (as : List T) (h : Heap) : Option (V × Heap) :=
  match o with
  | .store k => match as with
    | [.v (.ptr b off), .v x] => if x.cells.length = k ∧ allCell x.cells = true then (wrH h b off x.cells).bind fun h' => some (.tup [], h') else none
    | _ => none
  | .new o => (mop o as h).bind fun r => some (r.2 h.length, h ++ [r.1])
  | .append k bytes => match as with
    | [.v s, .v x] => (lenV x).bind fun n => (rdS h k x n).bind fun xs => appH k bytes s n xs h
    | _ => none
  | .appendZ k bytes z => match as with
    | [.v s, .v (.int _ n)] => if 0 ≤ n ∧ n.toNat * bytes ≤ room ∧ n.toNat ≤ room then appH k bytes s n.toNat (List.replicate n.toNat z).flatten h else none
    | _ => none
  | .copy k => match as with
    | [.v x, .v y] =>
      (lenV x).bind fun n => (lenV y).bind fun m =>
        if min n m * k = 0 then some (.int .i64 (min n m : Nat), h) else
        (rdS h k y (min n m)).bind fun cs =>
          match x with
          | .slice b off _ _ => (wrH h b off cs).bind fun h' => some (.int .i64 (min n m : Nat), h')
          | _ => none
    | _ => none
  | .clear _ z => match as with
    | [.v x] =>
      match x with
      | .nils => some (.tup [], h)
      | .slice b off n _ => if n = 0 then some (.tup [], h) else (wrH h b off (List.replicate n z).flatten).bind fun h' => some (.tup [], h')
      | _ => none
    | _ => none
  | .call => match as with
    | .v (.fn f capt) :: as => (vals as).bind fun xs => call f (xs ++ capt) h
    | _ => none

/-- every watched reading that is named still gives what it gave -/
def stable (wt : Nat → Option (ROp × List T × V)) (h : Heap) : List Nat → Prop
  | [] => True
  | i :: r => (∀ o as x, wt i = some (o, as, x) → rop o as h = some x) ∧ stable wt h r

def isDead (h : Heap) (b : Nat) : Bool := match h[b]? with | some blk => decide (blk.st = .dead) | none => false

def allDead (h : Heap) (base : Nat) (fl : Nat → Bool) (sl : List Nat) : Bool := sl.all fun j => fl j || isDead h (base + j)

open Classical in
noncomputable def aop (call : CallF) (ix : Nat) (dst : Option Nat) (op : AOp) (as : List T) (s : S) : Option S :=
  match op with
  | .p o => (pop o as).bind fun x => some (s.put dst x)
  | .l o => (lop o as s.L).bind fun r => some ({ s with L := r.2 }.put dst r.1)
  | .r o watch => (rop o as s.h).bind fun x =>
    if watch then (if s.wt ix = none then some ({ s with wt := upd s.wt ix (some (o, as, x)) }.put dst (.v x)) else none) else some (s.put dst (.v x))
  | .e o chk sl => (eop call o as s.h).bind fun r => if allDead s.h s.base s.fl sl = true ∧ stable s.wt r.2 chk then some ({ s with h := r.2 }.put dst (.v r.1)) else none
  | .m o slot => (mop o as (s.h.take s.base)).bind fun r =>
    if s.fl slot = false ∧ isDead s.h (s.base + slot) = true then some ({ s with h := s.h.set (s.base + slot) r.1, fl := upd s.fl slot true }.put dst (.v (r.2 (s.base + slot)))) else none

/-- does a guard let its operation by? -/
def S.wants (s : S) : Option (Nat × Bool) → Option Bool
  | none => some true
  | some (g, want) => match s.σ g with
    | .v (.bool b) => some (b == want)
    | .v (.tup []) => some false
    | _ => none

noncomputable def xop (call : CallF) (o : AOper) (s : S) : Option S :=
  (s.wants o.guard).bind fun b => if b then aop call o.ix o.dst o.op (o.args.map s.ev) s else some (s.put o.dst (.v (.tup [])))

noncomputable def xops (call : CallF) : List AOper → S → Option S
  | [], s => some s
  | o :: r, s => (xop call o s).bind (xops call r)

inductive Ex where
  | norm
  | exit (id : Nat)
  | ret

def loopN (body : S → Option (Ex × S)) : Nat → S → Option (Ex × S)
  | 0, _ => none
  | n + 1, s => (body s).bind fun r => match r with
    | (.norm, s') => loopN body n s'
    | r => some r

def deadBlk : Blk := ⟨.dead, []⟩

def S.begin (s : S) (rsv : Nat) : S :=
  { s with wt := fun _ => none, fl := fun _ => false, base := s.h.length, h := s.h ++ List.replicate rsv deadBlk }

noncomputable def xC (call : CallF) (fuel : Nat) : Code → S → Option (Ex × S)
  | .skip, s => some (.norm, s)
  | .reg rsv ops, s => (xops call ops (s.begin rsv)).bind fun s' => some (.norm, s')
  | .seq a b, s => (xC call fuel a s).bind fun r => match r with
    | (.norm, s') => xC call fuel b s'
    | r => some r
  | .cond c a b, s => match s.ev c with
    | .v (.bool true) => xC call fuel a s
    | .v (.bool false) => xC call fuel b s
    | _ => none
  | .block id c, s => (xC call fuel c s).bind fun r => match r with
    | (.exit i, s') => if i = id then some (.norm, s') else some (.exit i, s')
    | r => some r
  | .loop c, s => loopN (xC call fuel c) fuel s
  | .exit id, s => some (.exit id, s)
  | .ret, s => some (.ret, s)
  | .bad, _ => none

def resV (s : S) : Res → Option V
  | .tmp t => match s.σ t with
    | .v x => some x
    | _ => none
  | .cellL a t agg k => (lop (.load t agg k) [s.σ a] s.L).bind fun r => match r.1 with
    | .v x => some x
    | _ => none
  | .cellH a agg k => rop (.load agg k) [s.σ a] s.h

def resVs (s : S) : List Res → Option (List V)
  | [] => some []
  | r :: rs => (resV s r).bind fun x => (resVs s rs).bind fun xs => some (x :: xs)

def finish (res : List Res) (r : Ex × S) : Option (V × Heap) :=
  match r with
  | (.exit _, _) => none
  | (_, s) => (resVs s res).bind fun xs => match xs with
    | [x] => some (x, s.h)
    | xs => some (.tup xs, s.h)

def init (args : List V) (h : Heap) : S :=
  { σ := fun i => match args[i]? with | some x => .v x | none => .v (.tup []), L := fun _ => (0, []), h, wt := fun _ => none, fl := fun _ => false, base := 0 }

structure Prog where
  fn : Nat → Option Fn
  ext : Nat → Option (List V → Heap → Option (V × Heap))

noncomputable def callN (p : Prog) : Nat → CallF
  | 0 => fun _ _ _ => none
  | n + 1 => fun f args h => match p.ext f with
    | some e => e args h
    | none => match p.fn f with
      | some fn => (xC (callN p n) n fn.body (init args h)).bind (finish fn.res)
      | none => none
end GL
namespace GL
open Go

structure At where
  cb : Nat
  co : Nat
  sz : Nat

abbrev Rho := Nat → Option At

def Ext (ρ ρ' : Rho) : Prop := ∀ (b : Nat) (a : At), ρ b = some a → ρ' b = some a

mutual
inductive RV (fid : Nat → FuncId) (ρ : Rho) : V → Value → Prop
  | int (k : IntKind) (n : Int) : RV fid ρ (.int k n) (.int k n)
  | bool (b : Bool) : RV fid ρ (.bool b) (.bool b)
  | ptr {b off : Nat} {a : At} : ρ b = some a → RV fid ρ (.ptr b off) (.pointer (some ⟨a.cb, a.co + off, none⟩))
  | nilp : RV fid ρ .nilp (.pointer none)
  | slice {b off len c : Nat} {cap : Cap} {a : At} {A : Addr} : ρ b = some a → len ≤ c → (∀ c0, cap = .k c0 → c = c0) →
      (∀ k, cap = .o k → 0 < k ∧ off + c * k = a.sz) → (c ≠ 0 → A = ⟨a.cb, a.co + off, none⟩) → RV fid ρ (.slice b off len cap) (.slice (some A) len c)
  | nils : RV fid ρ .nils (.slice none 0 0)
  | agg {cs : List V} {vs : List Value} : RVs fid ρ cs vs → RV fid ρ (.agg cs) (.agg vs.toArray)
  | tup {cs : List V} {vs : List Value} : RVs fid ρ cs vs → RV fid ρ (.tup cs) (.tuple vs.toArray)
  | fn {f : Nat} {cs : List V} {vs : List Value} : RVs fid ρ cs vs → RV fid ρ (.fn f cs) (.func (.func (fid f)) #[] vs.toArray)
inductive RVs (fid : Nat → FuncId) (ρ : Rho) : List V → List Value → Prop
  | nil : RVs fid ρ [] []
  | cons {x : V} {y : Value} {xs : List V} {ys : List Value} : RV fid ρ x y → RVs fid ρ xs ys → RVs fid ρ (x :: xs) (y :: ys)
end

section
variable {fid : Nat → FuncId} {ρ : Rho}

mutual
theorem RV.ext {ρ' : Rho} (hp : Ext ρ ρ') : ∀ {x : V} {y : Value}, RV fid ρ x y → RV fid ρ' x y
  | _, _, .int k n => .int k n
  | _, _, .bool b => .bool b
  | _, _, .ptr h => .ptr (hp _ _ h)
  | _, _, .nilp => .nilp
  | _, _, .slice h h1 h2 h3 h4 => .slice (hp _ _ h) h1 h2 h3 h4
  | _, _, .nils => .nils
  | _, _, .agg h => .agg (RVs.ext hp h)
  | _, _, .tup h => .tup (RVs.ext hp h)
  | _, _, .fn h => .fn (RVs.ext hp h)
theorem RVs.ext {ρ' : Rho} (hp : Ext ρ ρ') : ∀ {x : List V} {y : List Value}, RVs fid ρ x y → RVs fid ρ' x y
  | _, _, .nil => .nil
  | _, _, .cons h t => .cons (RV.ext hp h) (RVs.ext hp t)
end

theorem RVs.length {xs : List V} {ys : List Value} (h : RVs fid ρ xs ys) : xs.length = ys.length := by
  induction xs generalizing ys with
  | nil => cases h; rfl
  | cons x xs ih => cases h with | cons _ t => simp [ih t]

theorem RVs.get {xs : List V} {ys : List Value} (h : RVs fid ρ xs ys) {i : Nat} {x : V} (hx : xs[i]? = some x) : ∃ y, ys[i]? = some y ∧ RV fid ρ x y := by
  induction xs generalizing ys i with
  | nil => simp at hx
  | cons a xs ih =>
    cases h with
    | cons h t =>
      cases i with
      | zero => simp at hx; subst hx; exact ⟨_, by simp, h⟩
      | succ i => simp at hx; simpa using ih t hx

theorem RVs.append {xs xs' : List V} {ys ys' : List Value} (h : RVs fid ρ xs ys) (h' : RVs fid ρ xs' ys') : RVs fid ρ (xs ++ xs') (ys ++ ys') := by
  induction xs generalizing ys with
  | nil => cases h; exact h'
  | cons a xs ih => cases h with | cons h t => exact .cons h (ih t)

theorem RVs.of_get {xs : List V} {ys : List Value} (hl : xs.length = ys.length) (h : ∀ (i : Nat) (x : V) (y : Value), xs[i]? = some x → ys[i]? = some y → RV fid ρ x y) : RVs fid ρ xs ys := by
  induction xs generalizing ys with
  | nil => cases ys with | nil => exact .nil | cons => simp at hl
  | cons a xs ih =>
    cases ys with
    | nil => simp at hl
    | cons b ys => exact .cons (h 0 a b rfl rfl) (ih (by simpa using hl) fun i x y hx hy => h (i + 1) x y (by simpa using hx) (by simpa using hy))

theorem RVs.get2 {xs : List V} {ys : List Value} (h : RVs fid ρ xs ys) {i : Nat} {x : V} {y : Value} (hx : xs[i]? = some x) (hy : ys[i]? = some y) : RV fid ρ x y := by
  obtain ⟨y', hy', hr⟩ := h.get hx
  rw [hy] at hy'
  exact (Option.some.inj hy') ▸ hr

theorem RVs.take {xs : List V} {ys : List Value} (h : RVs fid ρ xs ys) (n : Nat) : RVs fid ρ (xs.take n) (ys.take n) :=
  .of_get (by simp [h.length]) fun i x y hx hy => by
    rw [List.getElem?_take] at hx hy
    split at hx
    · simp_all; exact h.get2 hx hy
    · simp at hx

theorem RVs.drop {xs : List V} {ys : List Value} (h : RVs fid ρ xs ys) (n : Nat) : RVs fid ρ (xs.drop n) (ys.drop n) :=
  .of_get (by simp [h.length]) fun i x y hx hy => by
    rw [List.getElem?_drop] at hx hy
    exact h.get2 hx hy

theorem RV.cells {x : V} {y : Value} (h : RV fid ρ x y) : RVs fid ρ x.cells y.cells.toList := by
  cases h with
  | agg h => simpa [V.cells, Value.cells] using h
  | _ => simp [V.cells, Value.cells]; exact .cons (by constructor <;> assumption) .nil

theorem RV.cellV {x : V} {y : Value} (h : RV fid ρ x y) (hc : x.cell = true) : (∀ cs, y ≠ .agg cs) ∧ (∀ cs, y ≠ .tuple cs) := by
  cases h <;> simp [V.cell] at hc <;> simp
end

/-- the machine's blocks, as they lie in memory -/
structure RM (fid : Nat → FuncId) (ρ : Rho) (h : Heap) (w : World) : Prop where
  out : ∀ b, h.length ≤ b → ρ b = none
  has : ∀ (b : Nat) (blk : Blk), h[b]? = some blk → blk.st ≠ .dead → ∃ a, ρ b = some a
  bd : ∀ (b : Nat) (blk : Blk) (a : At), h[b]? = some blk → ρ b = some a → blk.st ≠ .dead → a.cb < w.heap.size
  cell : ∀ (b : Nat) (blk : Blk) (a : At) (i : Nat) (v : V), h[b]? = some blk → ρ b = some a → blk.st ≠ .dead → blk.cells[i]? = some v →
    ∃ x, w.cell? ⟨a.cb, a.co + i, none⟩ = some x ∧ RV fid ρ v x
  cel : ∀ (b : Nat) (blk : Blk), h[b]? = some blk → blk.st ≠ .dead → allCell blk.cells = true
  own : ∀ (b : Nat) (blk : Blk) (a : At), h[b]? = some blk → ρ b = some a → blk.st = .own →
    blk.cells.length ≤ a.sz ∧ ∃ (arr : Array Value) (T : TypeId), w.heap[a.cb]? = some (.cells arr T (0, 0)) ∧ a.co + a.sz = arr.size
  sep : ∀ (b b' : Nat) (blk blk' : Blk) (a a' : At), b ≠ b' → h[b]? = some blk → h[b']? = some blk' → ρ b = some a → ρ b' = some a' →
    blk.st = .own → blk'.st ≠ .dead → a.cb ≠ a'.cb

/-- the variables of the running call, as they lie in memory -/
structure RL (fid : Nat → FuncId) (ρ : Rho) (h : Heap) (lam : Nat → Nat → Nat) (L : Nat → Nat × List V) (w : World) : Prop where
  cell : ∀ t, 0 < (L t).1 → ∃ (arr : Array Value) (T : TypeId), w.heap[lam t (L t).1]? = some (.cells arr T (0, 0)) ∧ RVs fid ρ (L t).2 arr.toList
  sep : ∀ t t', t ≠ t' → 0 < (L t).1 → 0 < (L t').1 → lam t (L t).1 ≠ lam t' (L t').1
  sepH : ∀ (t b : Nat) (blk : Blk) (a : At), 0 < (L t).1 → h[b]? = some blk → ρ b = some a → blk.st ≠ .dead → a.cb ≠ lam t (L t).1

def RT (fid : Nat → FuncId) (ρ : Rho) (lam : Nat → Nat → Nat) (L : Nat → Nat × List V) : T → Value → Prop
  | .v x, y => RV fid ρ x y
  | .lp t g off, y => 0 < g ∧ g ≤ (L t).1 ∧ y = .pointer (some ⟨lam t g, off, none⟩)

/-- what lay in memory when a call began, and is not the machine's to write, stands -/
structure Fr (own0 : Nat → Prop) (w0 w : World) : Prop where
  os : w.os = w0.os
  tape : w.tape = w0.tape
  output : w.output = w0.output
  size : w0.heap.size ≤ w.heap.size
  block : ∀ cb, cb < w0.heap.size → ¬ own0 cb → w.heap[cb]? = w0.heap[cb]?

def Owned (ρ : Rho) (h : Heap) (cb : Nat) : Prop := ∃ (b : Nat) (blk : Blk) (a : At), h[b]? = some blk ∧ blk.st = .own ∧ ρ b = some a ∧ a.cb = cb

/-- the blocks that live stood when the call began, or are its own -/
def OI (ρ0 : Rho) (h0 : Heap) (w0 : World) (ρ : Rho) (h : Heap) : Prop :=
  ∀ (b : Nat) (blk : Blk) (a : At), h[b]? = some blk → ρ b = some a → blk.st ≠ .dead →
    (∃ blk0 : Blk, h0[b]? = some blk0 ∧ blk0.st = blk.st) ∨ Owned ρ0 h0 a.cb ∨ w0.heap.size ≤ a.cb

structure Env where
  fid : Nat → FuncId
  ρ0 : Rho
  h0 : Heap
  w0 : World
  nt : Nat
  has : ∀ (b : Nat) (blk : Blk), h0[b]? = some blk → blk.st ≠ .dead → ∃ a, ρ0 b = some a

structure Inv (E : Env) (ρ : Rho) (lam : Nat → Nat → Nat) (s : S) (a : Act) (w : World) : Prop where
  rm : RM E.fid ρ s.h w
  rl : RL E.fid ρ s.h lam s.L w
  li : ∀ t, 0 < (s.L t).1 → E.w0.heap.size ≤ lam t (s.L t).1
  tm : ∀ i, RT E.fid ρ lam s.L (s.σ i) (a.tmps.getD i undef)
  nt : a.tmps.size = E.nt
  fr : Fr (Owned E.ρ0 E.h0) E.w0 w
  oi : OI E.ρ0 E.h0 E.w0 ρ s.h
  pre : Ext E.ρ0 ρ
  df : a.defers = []

theorem RT.ext {fid : Nat → FuncId} {ρ ρ' : Rho} {lam : Nat → Nat → Nat} {L : Nat → Nat × List V} (hp : Ext ρ ρ') {x : T} {y : Value} (h : RT fid ρ lam L x y) : RT fid ρ' lam L x y := by
  cases x with
  | v x => exact RV.ext hp h
  | lp t g off => exact h
end GL
namespace GL
open Go
variable {fid : Nat → FuncId} {ρ : Rho} {h : Heap} {w : World}

theorem Ext.refl (ρ : Rho) : Ext ρ ρ := fun _ _ h => h
theorem Ext.trans {a b c : Rho} (h : Ext a b) (k : Ext b c) : Ext a c := fun i x hx => k i x (h i x hx)
def pushR (ρ : Rho) (n : Nat) (x : At) : Rho := fun b => if b = n then some x else ρ b
theorem pushR_self (ρ : Rho) (n : Nat) (x : At) : pushR ρ n x n = some x := by simp [pushR]
theorem Ext.push {ρ : Rho} {n : Nat} (h : ρ n = none) (x : At) : Ext ρ (pushR ρ n x) := fun b y hy => by
  unfold pushR; split
  · rename_i e; subst e; rw [h] at hy; cases hy
  · exact hy

theorem RM.congr {w' : World} (hm : RM fid ρ h w) (he : w'.heap = w.heap) : RM fid ρ h w' where
  out := hm.out
  has := hm.has
  bd := by rw [he]; exact hm.bd
  cell := by simpa only [World.cell?, he] using hm.cell
  cel := hm.cel
  own := by rw [he]; exact hm.own
  sep := hm.sep

theorem cell?_arr {w : World} {cb i : Nat} {arr : Array Value} {T : TypeId} {fr : Nat × Nat} (h : w.heap[cb]? = some (.cells arr T fr)) :
    w.cell? ⟨cb, i, none⟩ = arr[i]? := by simp [World.cell?, h]

theorem cell?_block {w w' : World} {cb i : Nat} (h : w'.heap[cb]? = w.heap[cb]?) : w'.cell? ⟨cb, i, none⟩ = w.cell? ⟨cb, i, none⟩ := by
  simp [World.cell?, h]

def pushO (w : World) (o : Obj) : World := { w with heap := w.heap.push o }
def setO (w : World) (cb : Nat) (o : Obj) : World := { w with heap := w.heap.setIfInBounds cb o }

theorem pushO_old (w : World) (o : Obj) {cb : Nat} (h : cb < w.heap.size) : (pushO w o).heap[cb]? = w.heap[cb]? := by
  simp [pushO, Array.getElem?_push, Nat.ne_of_lt h]
theorem pushO_new (w : World) (o : Obj) : (pushO w o).heap[w.heap.size]? = some o := by simp [pushO]
theorem setO_ne (w : World) (o : Obj) {cb c : Nat} (h : c ≠ cb) : (setO w cb o).heap[c]? = w.heap[c]? := by
  simp [setO, Array.getElem?_setIfInBounds_ne (Ne.symm h)]
theorem setO_eq (w : World) (o : Obj) {cb : Nat} (h : cb < w.heap.size) : (setO w cb o).heap[cb]? = some o := by
  simp [setO, h]

theorem get_append {h : Heap} {nb : Blk} {b : Nat} {blk : Blk} (hb : (h ++ [nb])[b]? = some blk) : h[b]? = some blk ∧ b < h.length ∨ b = h.length ∧ blk = nb := by
  rcases Nat.lt_or_ge b h.length with hl | hl
  · rw [List.getElem?_append_left hl] at hb; exact .inl ⟨hb, hl⟩
  · rw [List.getElem?_append_right hl] at hb
    rcases Nat.eq_or_lt_of_le hl with e | hl'
    · subst e; simp at hb; exact .inr ⟨rfl, hb.symm⟩
    · have : ([nb] : List Blk)[b - h.length]? = none := List.getElem?_eq_none (by simp; omega)
      rw [this] at hb; cases hb

theorem at_push {ρ : Rho} {na a : At} {n b : Nat} (hb : pushR ρ n na b = some a) : b ≠ n ∧ ρ b = some a ∨ b = n ∧ a = na := by
  unfold pushR at hb; split at hb
  · rename_i e; exact .inr ⟨e, by cases hb; rfl⟩
  · rename_i e; exact .inl ⟨e, hb⟩

/-- a new block -/
theorem RM.push (hm : RM fid ρ h w) {cells : List V} {arr : Array Value} {T : TypeId} (hq : allCell cells = true) (hs : cells.length ≤ arr.size)
    (hc : ∀ (i : Nat) (v : V), cells[i]? = some v → ∃ x, arr[i]? = some x ∧ RV fid (pushR ρ h.length ⟨w.heap.size, 0, arr.size⟩) v x) :
    RM fid (pushR ρ h.length ⟨w.heap.size, 0, arr.size⟩) (h ++ [⟨.own, cells⟩]) (pushO w (.cells arr T (0, 0))) where
  out := fun b hb => by
    simp at hb
    unfold pushR; rw [if_neg (by omega)]; exact hm.out b (by omega)
  has := fun b blk hb hl => by
    rcases get_append hb with ⟨hb, hlt⟩ | ⟨rfl, rfl⟩
    · obtain ⟨a, ha⟩ := hm.has b blk hb hl
      exact ⟨a, by unfold pushR; rw [if_neg (by omega)]; exact ha⟩
    · exact ⟨_, pushR_self _ _ _⟩
  bd := fun b blk a hb ha hl => by
    show a.cb < (w.heap.push _).size
    rw [Array.size_push]
    rcases get_append hb with ⟨hb, hlt⟩ | ⟨rfl, rfl⟩ <;> rcases at_push ha with ⟨h1, ha⟩ | ⟨h1, rfl⟩ <;> first | omega | skip
    · exact Nat.lt_succ_of_lt (hm.bd b blk a hb ha hl)
    · exact Nat.lt_succ_self _
  cell := fun b blk a i v hb ha hl hv => by
    have e := Ext.push (hm.out h.length (Nat.le_refl _)) (⟨w.heap.size, 0, arr.size⟩ : At)
    rcases get_append hb with ⟨hb, hlt⟩ | ⟨rfl, rfl⟩
    · rcases at_push ha with ⟨_, ha⟩ | ⟨h1, rfl⟩
      · obtain ⟨x, hx, hr⟩ := hm.cell b blk a i v hb ha hl hv
        exact ⟨x, by rw [cell?_block (pushO_old _ _ (hm.bd b blk a hb ha hl))]; exact hx, hr.ext e⟩
      · omega
    · rcases at_push ha with ⟨h1, _⟩ | ⟨_, rfl⟩
      · exact absurd rfl h1
      · obtain ⟨x, hx, hr⟩ := hc i v hv
        exact ⟨x, by rw [cell?_arr (pushO_new _ _)]; simpa using hx, hr⟩
  cel := fun b blk hb hl => by
    rcases get_append hb with ⟨hb, hlt⟩ | ⟨rfl, rfl⟩
    · exact hm.cel b blk hb hl
    · exact hq
  own := fun b blk a hb ha hl => by
    rcases get_append hb with ⟨hb, hlt⟩ | ⟨rfl, rfl⟩
    · rcases at_push ha with ⟨_, ha⟩ | ⟨h1, rfl⟩
      · obtain ⟨h2, arr', T', h3, h4⟩ := hm.own b blk a hb ha hl
        exact ⟨h2, arr', T', by rw [pushO_old _ _ (hm.bd b blk a hb ha (by rw [hl]; decide))]; exact h3, h4⟩
      · omega
    · rcases at_push ha with ⟨h1, _⟩ | ⟨_, rfl⟩
      · exact absurd rfl h1
      · exact ⟨hs, arr, T, pushO_new _ _, by simp⟩
  sep := fun b b' blk blk' a a' hne hb hb' ha ha' ho hl => by
    rcases get_append hb with ⟨hb, hlt⟩ | ⟨rfl, rfl⟩ <;> rcases get_append hb' with ⟨hb', hlt'⟩ | ⟨rfl, rfl⟩ <;>
      rcases at_push ha with ⟨h1, ha⟩ | ⟨e1, e1'⟩ <;> rcases at_push ha' with ⟨h2, ha'⟩ | ⟨e2, e2'⟩ <;> first | omega | skip
    · exact hm.sep b b' blk blk' a a' hne hb hb' ha ha' ho hl
    · subst e2'; exact Nat.ne_of_lt (hm.bd b blk a hb ha (by rw [ho]; decide))
    · subst e1'; exact Nat.ne_of_gt (hm.bd b' blk' a' hb' ha' hl)

theorem get_set {h : Heap} {b c : Nat} {nb blk : Blk} (hb : (h.set b nb)[c]? = some blk) : c ≠ b ∧ h[c]? = some blk ∨ c = b ∧ blk = nb ∧ b < h.length := by
  by_cases e : c = b
  · subst e
    rw [List.getElem?_set_self'] at hb
    rcases Nat.lt_or_ge c h.length with hl | hl
    · simp [List.getElem?_eq_getElem hl] at hb; exact .inr ⟨rfl, hb.symm, hl⟩
    · simp [List.getElem?_eq_none hl] at hb
  · rw [List.getElem?_set_ne (Ne.symm e)] at hb; exact .inl ⟨e, hb⟩

/-- cells of an own block are written -/
theorem RM.write (hm : RM fid ρ h w) {b : Nat} {blk : Blk} {a : At} (hb : h[b]? = some blk) (ha : ρ b = some a) (ho : blk.st = .own)
    {cells : List V} {arr arr' : Array Value} {T : TypeId} (hq : allCell cells = true) (hcl : cells.length = blk.cells.length) (harr : w.heap[a.cb]? = some (.cells arr T (0, 0))) (hsz : arr'.size = arr.size)
    (hc : ∀ (i : Nat) (v : V), cells[i]? = some v → ∃ x, arr'[a.co + i]? = some x ∧ RV fid ρ v x) :
    RM fid ρ (h.set b { blk with cells := cells }) (setO w a.cb (.cells arr' T (0, 0))) where
  out := fun c hc => hm.out c (by simpa using hc)
  has := fun c blk' hc' hl => by
    rcases get_set hc' with ⟨_, hc'⟩ | ⟨rfl, rfl, _⟩
    · exact hm.has c blk' hc' hl
    · exact ⟨a, ha⟩
  bd := fun c blk' a' hc' ha' hl => by
    have : (setO w a.cb (.cells arr' T (0, 0))).heap.size = w.heap.size := by simp [setO]
    rw [this]
    rcases get_set hc' with ⟨_, hc'⟩ | ⟨rfl, rfl, _⟩
    · exact hm.bd c blk' a' hc' ha' hl
    · exact hm.bd c blk a' hb ha' (by rw [ho]; decide)
  cell := fun c blk' a' i v hc' ha' hl hv => by
    rcases get_set hc' with ⟨hne, hc'⟩ | ⟨rfl, rfl, _⟩
    · have hd := hm.sep b c blk blk' a a' (Ne.symm hne) hb hc' ha ha' ho hl
      obtain ⟨x, hx, hr⟩ := hm.cell c blk' a' i v hc' ha' hl hv
      exact ⟨x, by rw [cell?_block (setO_ne _ _ (Ne.symm hd))]; exact hx, hr⟩
    · obtain rfl : a' = a := by rw [ha] at ha'; exact (Option.some.inj ha').symm
      obtain ⟨x, hx, hr⟩ := hc i v hv
      exact ⟨x, by rw [cell?_arr (setO_eq _ _ (hm.bd c blk a' hb ha (by rw [ho]; decide)))]; exact hx, hr⟩
  cel := fun c blk' hc' hl => by
    rcases get_set hc' with ⟨hne, hc'⟩ | ⟨rfl, rfl, _⟩
    · exact hm.cel c blk' hc' hl
    · exact hq
  own := fun c blk' a' hc' ha' hl => by
    rcases get_set hc' with ⟨hne, hc'⟩ | ⟨rfl, rfl, _⟩
    · have hd := hm.sep b c blk blk' a a' (Ne.symm hne) hb hc' ha ha' ho (by rw [hl]; decide)
      obtain ⟨h2, arr0, T', h3, h4⟩ := hm.own c blk' a' hc' ha' hl
      exact ⟨h2, arr0, T', by rw [setO_ne _ _ (Ne.symm hd)]; exact h3, h4⟩
    · obtain rfl : a' = a := by rw [ha] at ha'; exact (Option.some.inj ha').symm
      obtain ⟨h2, arr0, T', h3, h4⟩ := hm.own c blk a' hb ha ho
      rw [harr] at h3; cases h3
      exact ⟨by simpa [hcl] using h2, arr', T, setO_eq _ _ (hm.bd c blk a' hb ha (by rw [ho]; decide)), by omega⟩
  sep := fun c c' blk1 blk2 a1 a2 hne h1 h2 ha1 ha2 ho1 hl2 => by
    rcases get_set h1 with ⟨_, k1⟩ | ⟨rfl, rfl, _⟩ <;> rcases get_set h2 with ⟨_, k2⟩ | ⟨rfl, rfl, _⟩
    · exact hm.sep c c' blk1 blk2 a1 a2 hne k1 k2 ha1 ha2 ho1 hl2
    · exact hm.sep c c' blk1 blk a1 a2 hne k1 hb ha1 ha2 ho1 (by rw [ho]; decide)
    · exact hm.sep c c' blk blk2 a1 a2 hne hb k2 ha1 ha2 ho hl2
    · exact absurd rfl hne

/-- a block is given up -/
theorem RM.kill (hm : RM fid ρ h w) {b : Nat} (nb : Blk) (hn : nb.st = .dead) : RM fid ρ (h.set b nb) w where
  out := fun c hc => hm.out c (by simpa using hc)
  has := fun c blk' hc' hl => by
    rcases get_set hc' with ⟨_, hc'⟩ | ⟨rfl, rfl, _⟩
    · exact hm.has c blk' hc' hl
    · exact absurd hn hl
  bd := fun c blk' a' hc' ha' hl => by
    rcases get_set hc' with ⟨_, hc'⟩ | ⟨rfl, rfl, _⟩
    · exact hm.bd c blk' a' hc' ha' hl
    · exact absurd hn hl
  cell := fun c blk' a' i v hc' ha' hl hv => by
    rcases get_set hc' with ⟨_, hc'⟩ | ⟨rfl, rfl, _⟩
    · exact hm.cell c blk' a' i v hc' ha' hl hv
    · exact absurd hn hl
  cel := fun c blk' hc' hl => by
    rcases get_set hc' with ⟨_, hc'⟩ | ⟨rfl, rfl, _⟩
    · exact hm.cel c blk' hc' hl
    · exact absurd hn hl
  own := fun c blk' a' hc' ha' hl => by
    rcases get_set hc' with ⟨_, hc'⟩ | ⟨rfl, rfl, _⟩
    · exact hm.own c blk' a' hc' ha' hl
    · rw [hn] at hl; cases hl
  sep := fun c c' blk1 blk2 a1 a2 hne h1 h2 ha1 ha2 ho1 hl2 => by
    rcases get_set h1 with ⟨_, h1⟩ | ⟨rfl, rfl, _⟩
    · rcases get_set h2 with ⟨_, h2⟩ | ⟨rfl, rfl, _⟩
      · exact hm.sep c c' blk1 blk2 a1 a2 hne h1 h2 ha1 ha2 ho1 hl2
      · exact absurd hn hl2
    · rw [hn] at ho1; cases ho1
end GL
namespace GL
open Go
variable {E : Env} {ρ : Rho} {lam : Nat → Nat → Nat} {s : S} {a : Act} {w : World}

theorem Fr.refl (o : Nat → Prop) (w : World) : Fr o w w := ⟨rfl, rfl, rfl, Nat.le_refl _, fun _ _ _ => rfl⟩
theorem OI.refl (ρ : Rho) (h : Heap) (w : World) : OI ρ h w ρ h := fun _ blk _ hb _ _ => .inl ⟨blk, hb, rfl⟩

theorem getD_put {a : Act} {d : Nat} {y : Value} (hd : d < a.tmps.size) (i : Nat) :
    (a.put (some d) y).tmps.getD i undef = if i = d then y else a.tmps.getD i undef := by
  simp only [Act.put, Array.getD_eq_getD_getElem?]
  by_cases e : i = d
  · subst e; simp [hd]
  · rw [if_neg e, Array.getElem?_setIfInBounds_ne (Ne.symm e)]

theorem Inv.put (hi : Inv E ρ lam s a w) {d : Option Nat} {x : T} {y : Value} (hd : ∀ t, d = some t → t < E.nt) (hr : RT E.fid ρ lam s.L x y) :
    Inv E ρ lam (s.put d x) (a.put d y) w := by
  cases d with
  | none => exact hi
  | some d =>
    refine { rm := hi.rm, rl := hi.rl, li := hi.li, tm := fun i => ?_, nt := ?_, fr := hi.fr, oi := hi.oi, pre := hi.pre, df := hi.df }
    · rw [getD_put (by rw [hi.nt]; exact hd d rfl)]
      simp only [S.put, upd]
      by_cases e : i = d
      · simp only [e, if_true]; exact hr
      · simp only [e, if_false]; exact hi.tm i
    · simp [Act.put, hi.nt]

/-- what an operation may turn of the blocks -/
theorem Inv.mem (hi : Inv E ρ lam s a w) {ρ' : Rho} {h' : Heap} {w' : World} (hm : RM E.fid ρ' h' w') (he : Ext ρ ρ')
    (hf : Fr (Owned ρ s.h) w w') (ho : OI ρ s.h w ρ' h') : Inv E ρ' lam { s with h := h' } a w' := by
  have atE : ∀ {b : Nat} {x y : At}, ρ b = some x → ρ' b = some y → x = y := fun h1 h2 => by
    have := he _ _ h1; rw [h2] at this; exact (Option.some.inj this).symm
  have lamLt : ∀ t, 0 < (s.L t).1 → lam t (s.L t).1 < w.heap.size := fun t ht => by
    obtain ⟨arr, T, hc, _⟩ := hi.rl.cell t ht
    rcases Nat.lt_or_ge (lam t (s.L t).1) w.heap.size with h | h
    · exact h
    · rw [Array.getElem?_eq_none h] at hc; cases hc
  have lamNo : ∀ t, 0 < (s.L t).1 → ¬ Owned ρ s.h (lam t (s.L t).1) := fun t ht ⟨b, blk, x, hb, hst, hx, hcb⟩ =>
    hi.rl.sepH t b blk x ht hb hx (by rw [hst]; decide) hcb
  refine { rm := hm, rl := ⟨fun t ht => ?_, hi.rl.sep, fun t b blk x ht hb hx hl => ?_⟩, li := hi.li, tm := fun i => (hi.tm i).ext he, nt := hi.nt, fr := ?_, oi := ?_, pre := hi.pre.trans he, df := hi.df }
  · obtain ⟨arr, T, hc, hr⟩ := hi.rl.cell t ht
    exact ⟨arr, T, by rw [hf.block _ (lamLt t ht) (lamNo t ht)]; exact hc, hr.ext he⟩
  · rcases ho b blk x hb hx hl with ⟨blk0, hb0, hst⟩ | ⟨b1, blk1, x1, hb1, hs1, hx1, hc1⟩ | hge
    · obtain ⟨x0, hx0⟩ := hi.rm.has b blk0 hb0 (by rw [hst]; exact hl)
      obtain rfl := atE hx0 hx
      exact hi.rl.sepH t b blk0 x0 ht hb0 hx0 (by rw [hst]; exact hl)
    · rw [← hc1]; exact hi.rl.sepH t b1 blk1 x1 ht hb1 hx1 (by rw [hs1]; decide)
    · exact Nat.ne_of_gt (Nat.lt_of_lt_of_le (lamLt t ht) hge)
  · refine ⟨hf.os.trans hi.fr.os, hf.tape.trans hi.fr.tape, hf.output.trans hi.fr.output, Nat.le_trans hi.fr.size hf.size, fun cb hlt hno => ?_⟩
    rw [hf.block cb (Nat.lt_of_lt_of_le hlt hi.fr.size) ?_, hi.fr.block cb hlt hno]
    rintro ⟨b, blk, x, hb, hst, hx, rfl⟩
    rcases hi.oi b blk x hb hx (by rw [hst]; decide) with ⟨blk0, hb0, hs0⟩ | h | h
    · refine hno ⟨b, blk0, x, hb0, by rw [hs0]; exact hst, ?_, rfl⟩
      obtain ⟨x0, h1⟩ := E.has b blk0 hb0 (by rw [hs0, hst]; decide)
      have h2 := hi.pre _ _ h1
      rw [hx] at h2
      rw [h1]; exact h2.symm
    · exact hno h
    · omega
  · intro b blk x hb hx hl
    rcases ho b blk x hb hx hl with ⟨blk1, hb1, hst⟩ | ⟨b1, blk1, x1, hb1, hs1, hx1, hc1⟩ | hge
    · obtain ⟨x1, hx1⟩ := hi.rm.has b blk1 hb1 (by rw [hst]; exact hl)
      obtain rfl := atE hx1 hx
      rw [← hst]; exact hi.oi b blk1 x1 hb1 hx1 (by rw [hst]; exact hl)
    · rcases hi.oi b1 blk1 x1 hb1 hx1 (by rw [hs1]; decide) with ⟨blk0, hb0, hs0⟩ | h | h
      · refine .inr (.inl ⟨b1, blk0, x1, hb0, by rw [hs0]; exact hs1, ?_, hc1⟩)
        obtain ⟨x0, h1⟩ := E.has b1 blk0 hb0 (by rw [hs0, hs1]; decide)
        have h2 := hi.pre _ _ h1
        rw [hx1] at h2
        rw [h1]; exact h2.symm
      · rw [← hc1]; exact .inr (.inl h)
      · rw [← hc1]; exact .inr (.inr h)
    · exact .inr (.inr (Nat.le_trans hi.fr.size hge))

/-- of the first n blocks nothing has moved -/
def Keep (n : Nat) (ρ ρ' : Rho) : Prop := ∀ b, b < n → ρ' b = ρ b
theorem Keep.refl (n : Nat) (ρ : Rho) : Keep n ρ ρ := fun _ _ => rfl
theorem Keep.push (n : Nat) (ρ : Rho) (x : At) : Keep n ρ (pushR ρ n x) := fun b hb => by unfold pushR; rw [if_neg (by omega)]
theorem Keep.ext {fid : Nat → FuncId} {ρ ρ' : Rho} {h : Heap} {w : World} (hm : RM fid ρ h w) (hk : Keep h.length ρ ρ') : Ext ρ ρ' := fun b a hb => by
  rcases Nat.lt_or_ge b h.length with hl | hl
  · rw [hk b hl]; exact hb
  · rw [hm.out b hl] at hb; cases hb

theorem Fr.push (o : Nat → Prop) (w : World) (ob : Obj) : Fr o w (pushO w ob) :=
  ⟨rfl, rfl, rfl, by simp [pushO], fun _ hlt _ => pushO_old w ob hlt⟩
theorem Fr.set {o : Nat → Prop} (w : World) (ob : Obj) {cb : Nat} (h : o cb) : Fr o w (setO w cb ob) :=
  ⟨rfl, rfl, rfl, by simp [setO], fun c _ hno => setO_ne w ob (fun e => hno (e ▸ h))⟩
theorem Fr.drawn {o : Nat → Prop} {w w' : World} (h : Fr o w w') (n : Nat) : Fr o w { w' with drawn := n } := ⟨h.os, h.tape, h.output, h.size, h.block⟩

theorem OI.push {ρ : Rho} {h : Heap} {w : World} (blk : Blk) (at' : At) (hc : w.heap.size ≤ at'.cb) :
    OI ρ h w (pushR ρ h.length at') (h ++ [blk]) := fun b bk x hb hx _ => by
  rcases get_append hb with ⟨hb, hlt⟩ | ⟨rfl, rfl⟩
  · exact .inl ⟨bk, hb, rfl⟩
  · rcases at_push hx with ⟨h2, _⟩ | ⟨_, rfl⟩
    · exact absurd rfl h2
    · exact .inr (.inr hc)
theorem OI.set {ρ : Rho} {h : Heap} {w : World} {b : Nat} {blk nb : Blk} (hb : h[b]? = some blk) (hs : nb.st ≠ .dead → nb.st = blk.st) :
    OI ρ h w ρ (h.set b nb) := fun c bk x hc hx hl => by
  rcases get_set hc with ⟨_, hc⟩ | ⟨rfl, rfl, _⟩
  · exact .inl ⟨bk, hc, rfl⟩
  · exact .inl ⟨blk, hb, (hs hl).symm⟩
end GL
namespace GL
open Go
variable {E : Env} {ρ : Rho} {lam : Nat → Nat → Nat} {s : S} {a : Act} {w : World}

theorem RM.of_blocks {fid : Nat → FuncId} {h : Heap} {w' : World} (hm : RM fid ρ h w) (hs : w.heap.size ≤ w'.heap.size)
    (hk : ∀ (b : Nat) (blk : Blk) (x : At), h[b]? = some blk → ρ b = some x → blk.st ≠ .dead → w'.heap[x.cb]? = w.heap[x.cb]?) : RM fid ρ h w' where
  out := hm.out
  has := hm.has
  bd := fun b blk x hb hx hl => Nat.lt_of_lt_of_le (hm.bd b blk x hb hx hl) hs
  cell := fun b blk x i v hb hx hl hv => by rw [cell?_block (hk b blk x hb hx hl)]; exact hm.cell b blk x i v hb hx hl hv
  cel := hm.cel
  own := fun b blk x hb hx hl => by rw [hk b blk x hb hx (by rw [hl]; decide)]; exact hm.own b blk x hb hx hl
  sep := hm.sep

theorem Inv.allocL (hi : Inv E ρ lam s a w) {t : Nat} (ht : t < E.nt) {cells : List V} {arr : Array Value} (T : TypeId) (hc : RVs E.fid ρ cells arr.toList) :
    ∃ lam', Inv E ρ lam' ({ s with L := upd s.L t ((s.L t).1 + 1, cells) }.put (some t) (.lp t ((s.L t).1 + 1) 0)) (a.put (some t) (.pointer (some ⟨w.heap.size, 0, none⟩))) (pushO w (.cells arr T (0, 0))) := by
  let lam' : Nat → Nat → Nat := fun t' g' => if t' = t ∧ g' = (s.L t).1 + 1 then w.heap.size else lam t' g'
  have lamLt : ∀ t, 0 < (s.L t).1 → lam t (s.L t).1 < w.heap.size := fun t ht => by
    obtain ⟨arr, T, hc, _⟩ := hi.rl.cell t ht
    rcases Nat.lt_or_ge (lam t (s.L t).1) w.heap.size with h | h
    · exact h
    · rw [Array.getElem?_eq_none h] at hc; cases hc
  have l1 : lam' t ((s.L t).1 + 1) = w.heap.size := by simp [lam']
  have l2 : ∀ t' g', t' ≠ t → lam' t' g' = lam t' g' := fun t' g' h => by simp [lam', h]
  have l3 : ∀ t' g', g' ≤ (s.L t').1 → lam' t' g' = lam t' g' := fun t' g' h => by
    simp only [lam']; split
    · rename_i hh; obtain ⟨rfl, rfl⟩ := hh; omega
    · rfl
  have u1 : upd s.L t ((s.L t).1 + 1, cells) t = ((s.L t).1 + 1, cells) := by simp [upd]
  have u2 : ∀ t', t' ≠ t → upd s.L t ((s.L t).1 + 1, cells) t' = s.L t' := fun t' h => by simp [upd, h]
  refine ⟨lam', Inv.put (s := { s with L := upd s.L t ((s.L t).1 + 1, cells) }) ?_ (fun d hd => by cases hd; exact ht) ?_⟩
  · refine { rm := ?_, rl := ⟨fun t' h' => ?_, fun t1 t2 hne h1 h2 => ?_, fun t' b blk x h' hb hx hl => ?_⟩, li := fun t' h' => ?_, tm := fun i => ?_, nt := hi.nt, fr := ?_, oi := hi.oi, pre := hi.pre, df := hi.df }
    · exact hi.rm.of_blocks (by simp [pushO]) fun b blk x hb hx hl => pushO_old _ _ (hi.rm.bd b blk x hb hx hl)
    · by_cases e : t' = t
      · subst e
        simp only [u1] at h' ⊢
        rw [l1]
        exact ⟨arr, T, pushO_new _ _, hc⟩
      · simp only [u2 t' e] at h' ⊢
        rw [l2 _ _ e]
        obtain ⟨arr', T', hc', hr'⟩ := hi.rl.cell t' h'
        exact ⟨arr', T', by rw [pushO_old _ _ (lamLt t' h')]; exact hc', hr'⟩
    · by_cases e1 : t1 = t <;> by_cases e2 : t2 = t
      · exact absurd (e1.trans e2.symm) hne
      · subst e1; simp only [u1, u2 t2 e2] at h2 ⊢; rw [l1, l2 _ _ e2]; exact Nat.ne_of_gt (lamLt t2 h2)
      · subst e2; simp only [u1, u2 t1 e1] at h1 ⊢; rw [l1, l2 _ _ e1]; exact Nat.ne_of_lt (lamLt t1 h1)
      · simp only [u2 t1 e1, u2 t2 e2] at h1 h2 ⊢; rw [l2 _ _ e1, l2 _ _ e2]; exact hi.rl.sep t1 t2 hne h1 h2
    · by_cases e : t' = t
      · subst e; simp only [u1]; rw [l1]; exact Nat.ne_of_lt (hi.rm.bd b blk x hb hx hl)
      · simp only [u2 t' e] at h' ⊢; rw [l2 _ _ e]; exact hi.rl.sepH t' b blk x h' hb hx hl
    · by_cases e : t' = t
      · subst e; simp only [u1]; rw [l1]; exact hi.fr.size
      · simp only [u2 t' e] at h' ⊢; rw [l2 _ _ e]; exact hi.li t' h'
    · have := hi.tm i
      cases hx : s.σ i with
      | v x => rw [hx] at this; exact this
      | lp t' g off =>
        rw [hx] at this
        obtain ⟨h1, h2, h3⟩ := this
        refine ⟨h1, ?_, by rw [l3 _ _ h2]; exact h3⟩
        by_cases e : t' = t
        · subst e; simp only [u1]; omega
        · simp only [u2 t' e]; exact h2
    · exact ⟨hi.fr.os, hi.fr.tape, hi.fr.output, Nat.le_trans hi.fr.size (by simp [pushO]), fun cb hlt hno => by
        rw [pushO_old _ _ (Nat.lt_of_lt_of_le hlt hi.fr.size)]; exact hi.fr.block cb hlt hno⟩
  · exact ⟨Nat.succ_pos _, by simp [u1], by rw [l1]⟩

theorem Inv.storeL (hi : Inv E ρ lam s a w) {t : Nat} (hg : 0 < (s.L t).1) {cells : List V} {arr arr' : Array Value} {T : TypeId}
    (ha : w.heap[lam t (s.L t).1]? = some (.cells arr T (0, 0))) (hsz : arr'.size = arr.size) (hc : RVs E.fid ρ cells arr'.toList) :
    Inv E ρ lam { s with L := upd s.L t ((s.L t).1, cells) } a (setO w (lam t (s.L t).1) (.cells arr' T (0, 0))) := by
  have lamLt : ∀ t, 0 < (s.L t).1 → lam t (s.L t).1 < w.heap.size := fun t ht => by
    obtain ⟨arr, T, hc, _⟩ := hi.rl.cell t ht
    rcases Nat.lt_or_ge (lam t (s.L t).1) w.heap.size with h | h
    · exact h
    · rw [Array.getElem?_eq_none h] at hc; cases hc
  have u1 : upd s.L t ((s.L t).1, cells) t = ((s.L t).1, cells) := by simp [upd]
  have u2 : ∀ t', t' ≠ t → upd s.L t ((s.L t).1, cells) t' = s.L t' := fun t' h => by simp [upd, h]
  have u3 : ∀ t', (upd s.L t ((s.L t).1, cells) t').1 = (s.L t').1 := fun t' => by
    by_cases e : t' = t
    · subst e; rw [u1]
    · rw [u2 t' e]
  refine { rm := ?_, rl := ⟨fun t' h' => ?_, fun t1 t2 hne h1 h2 => ?_, fun t' b blk x h' hb hx hl => ?_⟩, li := fun t' h' => ?_, tm := fun i => ?_, nt := hi.nt, fr := ?_, oi := hi.oi, pre := hi.pre, df := hi.df }
  · exact hi.rm.of_blocks (by simp [setO]) fun b blk x hb hx hl => setO_ne _ _ (hi.rl.sepH t b blk x hg hb hx hl)
  · by_cases e : t' = t
    · subst e; simp only [u1]; exact ⟨arr', T, setO_eq _ _ (lamLt t' hg), hc⟩
    · simp only [u2 t' e] at h' ⊢
      obtain ⟨arr1, T1, h1, h2⟩ := hi.rl.cell t' h'
      exact ⟨arr1, T1, by rw [setO_ne _ _ (hi.rl.sep t' t e h' hg)]; exact h1, h2⟩
  · simp only [u3] at h1 h2 ⊢; exact hi.rl.sep t1 t2 hne h1 h2
  · simp only [u3] at h' ⊢; exact hi.rl.sepH t' b blk x h' hb hx hl
  · simp only [u3] at h' ⊢; exact hi.li t' h'
  · have := hi.tm i
    cases hx : s.σ i with
    | v x => rw [hx] at this; exact this
    | lp t' g off =>
      rw [hx] at this
      obtain ⟨h1, h2, h3⟩ := this
      exact ⟨h1, by simp only [u3]; exact h2, h3⟩
  · exact ⟨hi.fr.os, hi.fr.tape, hi.fr.output, Nat.le_trans hi.fr.size (by simp [setO]), fun cb hlt hno => by
      have := hi.li t hg
      rw [setO_ne _ _ (by omega)]; exact hi.fr.block cb hlt hno⟩
end GL
