/-
  No cell of these rows narrows 'for every input' (looked for: loops, veiled, ifaces, maps, wideKeys, modest, calm, conditions, laid).
  DERIVED. THE GIVEN ROWS OF THIS SEAT. 4 by the template 'for every input the law returns true; each argument reads behind the call as it read before'; 0 by the template 'total and deterministic' (their statements: YtflbkhbfbcbcoaaTotals.lean).
  GIVEN WITH THE SEED: the statements are not yours to turn. If you find one false, say at which input.
  Laid BY PROGRAM, IN A SANDBOX (cutbox-rows.mjs): the forced cells as the released guide's own fill.sh prints them over the translation fbb02d5dec8e99dd… (all of the seat's roots in one cut). By AI agents, Wed Nov 11 2026. No macro, syntax, notation, axiom, sorry.
-/
import Derived.Test.YtflbkhbfbcbcoaaChecked
import GoSem.Claim
import GoSem.ClaimJoined
import GoSem.ClaimMapViews
import Derived.JoinedTies
import Derived.KernelRfl
namespace Go.Proofs.Ytflbkhbfbcbcoaa
/- THE CELL 'sum', in the pinned program and in every row, IS THE sha256 OF THE DUMP (.gsa) THAT YtflbkhbfbcbcoaaProg.lean LOADS. Nothing in Lean hashes anything: it is a label: what it is worth is what the hold of that sum in a sandbox is worth. -/
noncomputable def Try.pinned : Pinned := { name := "ytflbkhbfbcbcoaa", sum := "fbb02d5dec8e99dd17735a1aa34a290f6a4fc7d48d9a0054baa5e637b14fda02", checked := Try.checked }
namespace Rows
def none {H : Type} : Left H := { results := [], args := [] }

/-- 'laws.FnGrouped': WHATEVER THE INPUT: true; the input reads as it did. -/
def fnGroupedSpec : ChangeSpec := { name := "fnGrouped", fn := fun _ => fun
  | [d1, d2] => { results := [.lit (.bool true)], args := [d1, d2] }
  | _ => none }
def fnGroupedRow : OpenClaim := { program := "ytflbkhbfbcbcoaa", sum := "fbb02d5dec8e99dd17735a1aa34a290f6a4fc7d48d9a0054baa5e637b14fda02", func := "loop.example/g00641/laws.FnGrouped", spec := "fnGrouped", unfollowed := true, recurses := true, apart := false }
def FnGroupedSaid : Prop := fnGroupedRow.holds Try.pinned (OpenSpec.ofChange fnGroupedSpec)

/-- ITS FALSE NEIGHBOUR: 'it returns false'. Refute it at one input. -/
def fnGroupedWrong : ChangeSpec := { name := "fnGrouped", fn := fun _ => fun
  | [d1, d2] => { results := [.lit (.bool false)], args := [d1, d2] }
  | _ => none }
def FnGroupedWrongFalsely : Prop := fnGroupedRow.holds Try.pinned (OpenSpec.ofChange fnGroupedWrong)

/-- 'laws.FnExactPutRow': WHATEVER THE INPUT: true; the input reads as it did. -/
def fnExactPutRowSpec : ChangeSpec := { name := "fnExactPutRow", fn := fun _ => fun
  | [d1, d2] => { results := [.lit (.bool true)], args := [d1, d2] }
  | _ => none }
def fnExactPutRowRow : OpenClaim := { program := "ytflbkhbfbcbcoaa", sum := "fbb02d5dec8e99dd17735a1aa34a290f6a4fc7d48d9a0054baa5e637b14fda02", func := "loop.example/g00641/laws.FnExactPutRow", spec := "fnExactPutRow", inPlace := ["slices.overlaps[loop.example/g00641/impl.Row]"], unfollowed := true, recurses := true, apart := false }
def FnExactPutRowSaid : Prop := fnExactPutRowRow.holds Try.pinned (OpenSpec.ofChange fnExactPutRowSpec)

/-- ITS FALSE NEIGHBOUR: 'it returns false'. Refute it at one input. -/
def fnExactPutRowWrong : ChangeSpec := { name := "fnExactPutRow", fn := fun _ => fun
  | [d1, d2] => { results := [.lit (.bool false)], args := [d1, d2] }
  | _ => none }
def FnExactPutRowWrongFalsely : Prop := fnExactPutRowRow.holds Try.pinned (OpenSpec.ofChange fnExactPutRowWrong)

/-- 'laws.FnRows': WHATEVER THE INPUT: true; the input reads as it did. -/
def fnRowsSpec : ChangeSpec := { name := "fnRows", fn := fun _ => fun
  | [d1, d2] => { results := [.lit (.bool true)], args := [d1, d2] }
  | _ => none }
def fnRowsRow : OpenClaim := { program := "ytflbkhbfbcbcoaa", sum := "fbb02d5dec8e99dd17735a1aa34a290f6a4fc7d48d9a0054baa5e637b14fda02", func := "loop.example/g00641/laws.FnRows", spec := "fnRows", inPlace := ["slices.overlaps[loop.example/g00641/impl.Row]"], unfollowed := true, recurses := true, apart := false }
def FnRowsSaid : Prop := fnRowsRow.holds Try.pinned (OpenSpec.ofChange fnRowsSpec)

/-- ITS FALSE NEIGHBOUR: 'it returns false'. Refute it at one input. -/
def fnRowsWrong : ChangeSpec := { name := "fnRows", fn := fun _ => fun
  | [d1, d2] => { results := [.lit (.bool false)], args := [d1, d2] }
  | _ => none }
def FnRowsWrongFalsely : Prop := fnRowsRow.holds Try.pinned (OpenSpec.ofChange fnRowsWrong)

/-- 'laws.FnApart': WHATEVER THE INPUT: true; the input reads as it did. -/
def fnApartSpec : ChangeSpec := { name := "fnApart", fn := fun _ => fun
  | [d1, d2] => { results := [.lit (.bool true)], args := [d1, d2] }
  | _ => none }
def fnApartRow : OpenClaim := { program := "ytflbkhbfbcbcoaa", sum := "fbb02d5dec8e99dd17735a1aa34a290f6a4fc7d48d9a0054baa5e637b14fda02", func := "loop.example/g00641/laws.FnApart", spec := "fnApart", inPlace := ["slices.overlaps[[]int]"], unfollowed := true, recurses := true, apart := false }
def FnApartSaid : Prop := fnApartRow.holds Try.pinned (OpenSpec.ofChange fnApartSpec)

/-- ITS FALSE NEIGHBOUR: 'it returns false'. Refute it at one input. -/
def fnApartWrong : ChangeSpec := { name := "fnApart", fn := fun _ => fun
  | [d1, d2] => { results := [.lit (.bool false)], args := [d1, d2] }
  | _ => none }
def FnApartWrongFalsely : Prop := fnApartRow.holds Try.pinned (OpenSpec.ofChange fnApartWrong)

/- THE SECOND FORM. 'bulk': how many values and letters a reading holds, each counted each time it is reached (what is shared counts as often as it is met; a slice's spare places count too). A statement '..UptoSaid' is the law's where the arguments, and the package variables that the reading takes, are together of bulk at most 1048576: NARROWER than '..Said'. Prove '..Said' where nothing that the law and all that it calls make is longer than what came in: it says more and counts as full. Else prove '..UptoSaid'. A law counts once. -/
mutual
def uptoBulk {H : Type} : DataW H → Nat
  | .lit (.string bytes) => bytes.length + 1
  | .lit _ => 1
  | .nil => 1
  | .ptr d => uptoBulk d + 1
  | .slice elems spare => uptoBulkAll elems + uptoBulkAll spare + 1
  | .agg parts => uptoBulkAll parts + 1
  | .iface _ d => uptoBulk d + 1
  | .map entries => uptoBulkEntries entries + 1
  | .held _ => 1
def uptoBulkAll {H : Type} : List (DataW H) → Nat
  | [] => 0
  | d :: r => uptoBulk d + uptoBulkAll r
def uptoBulkEntries {H : Type} : List (Lit × DataW H) → Nat
  | [] => 0
  | x :: r => uptoBulkEntry x + uptoBulkEntries r
def uptoBulkEntry {H : Type} : Lit × DataW H → Nat
  | (.string bytes, d) => bytes.length + uptoBulk d + 1
  | (_, d) => uptoBulk d + 1
 end
def uptoSmall : (H : Type) → List (DataW H) → Bool := fun _ ds => decide (uptoBulkAll ds ≤ 1048576)
def OpenSpec.upto (s : _root_.Go.ChangeSpec) : _root_.Go.OpenSpec := { _root_.Go.OpenSpec.ofChange s with cond := some uptoSmall }

/-- 'laws.FnGrouped', WHERE WHAT IT READS IS OF BULK AT MOST 1048576: true; the input reads as it did. -/
def fnGroupedUptoRow : OpenClaim := { program := "ytflbkhbfbcbcoaa", sum := "fbb02d5dec8e99dd17735a1aa34a290f6a4fc7d48d9a0054baa5e637b14fda02", func := "loop.example/g00641/laws.FnGrouped", spec := "fnGrouped", unfollowed := true, recurses := true, apart := false, narrowed := true }
def FnGroupedUptoSaid : Prop := fnGroupedUptoRow.holds Try.pinned (OpenSpec.upto fnGroupedSpec)

/-- 'laws.FnExactPutRow', WHERE WHAT IT READS IS OF BULK AT MOST 1048576: true; the input reads as it did. -/
def fnExactPutRowUptoRow : OpenClaim := { program := "ytflbkhbfbcbcoaa", sum := "fbb02d5dec8e99dd17735a1aa34a290f6a4fc7d48d9a0054baa5e637b14fda02", func := "loop.example/g00641/laws.FnExactPutRow", spec := "fnExactPutRow", inPlace := ["slices.overlaps[loop.example/g00641/impl.Row]"], unfollowed := true, recurses := true, apart := false, narrowed := true }
def FnExactPutRowUptoSaid : Prop := fnExactPutRowUptoRow.holds Try.pinned (OpenSpec.upto fnExactPutRowSpec)

/-- 'laws.FnRows', WHERE WHAT IT READS IS OF BULK AT MOST 1048576: true; the input reads as it did. -/
def fnRowsUptoRow : OpenClaim := { program := "ytflbkhbfbcbcoaa", sum := "fbb02d5dec8e99dd17735a1aa34a290f6a4fc7d48d9a0054baa5e637b14fda02", func := "loop.example/g00641/laws.FnRows", spec := "fnRows", inPlace := ["slices.overlaps[loop.example/g00641/impl.Row]"], unfollowed := true, recurses := true, apart := false, narrowed := true }
def FnRowsUptoSaid : Prop := fnRowsUptoRow.holds Try.pinned (OpenSpec.upto fnRowsSpec)

/-- 'laws.FnApart', WHERE WHAT IT READS IS OF BULK AT MOST 1048576: true; the input reads as it did. -/
def fnApartUptoRow : OpenClaim := { program := "ytflbkhbfbcbcoaa", sum := "fbb02d5dec8e99dd17735a1aa34a290f6a4fc7d48d9a0054baa5e637b14fda02", func := "loop.example/g00641/laws.FnApart", spec := "fnApart", inPlace := ["slices.overlaps[[]int]"], unfollowed := true, recurses := true, apart := false, narrowed := true }
def FnApartUptoSaid : Prop := fnApartUptoRow.holds Try.pinned (OpenSpec.upto fnApartSpec)

end Rows
end Go.Proofs.Ytflbkhbfbcbcoaa
