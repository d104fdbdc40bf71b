import Derived.Sort.AssemblyPlain
import Derived.Test.YtflbkhbfbcbcoaaGlI
/- GL, a small deterministic machine: its definitions, and that its calls are calls of the program. -/
set_option linter.unusedSimpArgs false
set_option linter.unusedVariables false
set_option linter.unnecessarySimpa false
/-! GL: slices.SortFunc at values and at lists, slices.Insert at rows, slices.Replace at lists: what they do (their contracts: GExtD, GExtE). -/
namespace GL
open Go

abbrev Val2 := Bool × Int
def valsP : List V → Option (List Val2)
  | [] => some []
  | x :: y :: r => (match x, y with
    | .bool b, .int .i64 n => some (b, n)
    | _, _ => none).bind fun z => (valsP r).bind fun t => some (z :: t)
  | [_] => none
def valC (zs : List Val2) : List V := zs.flatMap fun z => [.bool z.1, .int .i64 z.2]
def cmpI (x y : Int) : Int := if x < y then -1 else if y < x then 1 else 0
def cmpW (a b : Val2) : Int := if a.1 = b.1 then cmpI a.2 b.2 else if a.1 = true then -1 else 1
def ltV (a b : Val2) : Bool := decide (cmpW a b < 0)
def srtV (zs : List Val2) : List Val2 := zs.mergeSort fun x y => !ltV y x
/-- slices.SortFunc at values -/
def sortVE : List V → Heap → Option (V × Heap)
  | [v, .fn f []], h => if f = 152 then (lenV v).bind fun n => if n ≤ 1099511627776 then (rdS h 2 v n).bind fun vs => (valsP vs).bind fun zs =>
      match v with
      | .slice b off _ _ => if zs = [] then some (.tup [], h) else (wrH h b off (valC (srtV zs))).bind fun h' => some (.tup [], h')
      | .nils => some (.tup [], h)
      | _ => none
    else none else none
  | _, _ => none

def blkV : V → Option Nat
  | .slice b _ _ _ => some b
  | _ => none
/-- what lists hold, none of which lies in block b (but the empty ones) -/
def tupP (h : Heap) (b : Nat) : List V → Option (List (List Int))
  | [] => some []
  | x :: r => (lenV x).bind fun m => if m ≤ 1099511627776 ∧ (blkV x ≠ some b ∨ m = 0) then (rdS h 1 x m).bind fun cs => (intsV cs).bind fun z => (tupP h b r).bind fun t => some (z :: t) else none
def cmpT : List Int → List Int → Int
  | [], [] => 0
  | [], _ :: _ => -1
  | _ :: _, [] => 1
  | x :: xs, y :: ys => if x = y then cmpT xs ys else if x < y then -1 else 1
def cfT (cs : List (List Int)) (i j : Nat) : Int := cmpT (cs.getD i []) (cs.getD j [])
def idxT (cs : List (List Int)) : List Nat := (Go.Sort.pdq (fun i j : Nat => decide (cfT cs i j < 0)) (Array.range cs.length) 0 cs.length (Go.Lib.bitLen cs.length) true true).toList
/-- slices.SortFunc at lists of numbers -/
def sortTE : List V → Heap → Option (V × Heap)
  | [v, .fn f []], h => if f = 677 then (lenV v).bind fun n => if n ≤ 1099511627776 then (rdS h 1 v n).bind fun xs =>
      match v with
      | .slice b off _ _ => (tupP h b xs).bind fun cs => if cs = [] then some (.tup [], h) else (wrH h b off ((idxT cs).map fun i => xs.getD i .nils)).bind fun h' => some (.tup [], h')
      | .nils => some (.tup [], h)
      | _ => none
    else none else none
  | _, _ => none

/-- does it lie in a block of one's own? -/
def ownV (h : Heap) : V → Bool
  | .slice b _ _ _ => match h[b]? with
    | some blk => blk.st == .own
    | none => false
  | _ => false
def capS (k n : Nat) : Cap → Bool
  | .o k' => decide (k' = k)
  | .k c => decide (c = n)
/-- some of a slice's elements made others: the old block dies -/
def splH (k m : Nat) (s : V) (i j : Nat) (w : V) (h : Heap) : Option (V × Heap) :=
  match s with
  | .slice b off n cap => match h[b]? with
    | some blk => if (blk.st = .own ∧ off = 0 ∧ i ≤ j ∧ j ≤ n ∧ n ≤ 1048576 ∧ blk.cells.length = n * k) ∧ capS k n cap = true ∧ lenV w = some m ∧ blkV w ≠ some b ∧ ownV h w = true then
        (rdS h k w m).bind fun ys => some (.slice h.length 0 (n - (j - i) + m) (.o k), h.set b { blk with st := .dead } ++ [⟨.own, blk.cells.take (i * k) ++ ys ++ blk.cells.drop (j * k)⟩])
      else none
    | none => none
  | _ => none
/-- slices.Insert of one row -/
def insE : List V → Heap → Option (V × Heap)
  | [s, .int .i64 (.ofNat i), w], h => splH 2 1 s i i w h
  | _, _ => none
/-- slices.Replace of one list by two -/
def repE : List V → Heap → Option (V × Heap)
  | [s, .int .i64 (.ofNat i), .int .i64 (.ofNat j), w], h => if j = i + 1 then splH 1 2 s i j w h else none
  | _, _ => none
end GL
