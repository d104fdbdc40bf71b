/-
  No cell of these rows narrows 'for every input' (looked for: loops, veiled, ifaces, maps, wideKeys, modest, calm, conditions, laid).
  DERIVED. THE GIVEN ROWS OF THIS SEAT. 5 by the template 'for every input the law returns true; each argument reads behind the call as it read before'; 0 by the template 'total and deterministic' (their statements: YtpplaefnjbhhfaaTotals.lean).
  GIVEN WITH THE SEED: the statements are not yours to turn. If you find one false, say at which input.
  Laid BY PROGRAM, IN A SANDBOX (cutbox-rows.mjs): the forced cells as the released guide's own fill.sh prints them over the translation 2f31f85299e8f84d… (all of the seat's roots in one cut). By AI agents, Wed Nov 11 2026. No macro, syntax, notation, axiom, sorry.
-/
import Derived.Test.YtpplaefnjbhhfaaChecked
import GoSem.Claim
import GoSem.ClaimJoined
import GoSem.ClaimMapViews
import Derived.JoinedTies
import Derived.KernelRfl
namespace Go.Proofs.Ytpplaefnjbhhfaa
/- THE CELL 'sum', in the pinned program and in every row, IS THE sha256 OF THE DUMP (.gsa) THAT YtpplaefnjbhhfaaProg.lean LOADS. Nothing in Lean hashes anything: it is a label: what it is worth is what the hold of that sum in a sandbox is worth. -/
noncomputable def Try.pinned : Pinned := { name := "ytpplaefnjbhhfaa", sum := "2f31f85299e8f84d462c8062d32e33e64ae9a7048d65c90c1b62e00d4dfaf931", checked := Try.checked }
namespace Rows
def none {H : Type} : Left H := { results := [], args := [] }

/-- 'laws.FnSwapped': WHATEVER THE INPUT: true; the input reads as it did. -/
def fnSwappedSpec : ChangeSpec := { name := "fnSwapped", fn := fun _ => fun
  | [d1, d2] => { results := [.lit (.bool true)], args := [d1, d2] }
  | _ => none }
def fnSwappedRow : OpenClaim := { program := "ytpplaefnjbhhfaa", sum := "2f31f85299e8f84d462c8062d32e33e64ae9a7048d65c90c1b62e00d4dfaf931", func := "loop.example/g00641/laws.FnSwapped", spec := "fnSwapped", unfollowed := true, recurses := true, apart := false }
def FnSwappedSaid : Prop := fnSwappedRow.holds Try.pinned (OpenSpec.ofChange fnSwappedSpec)

/-- ITS FALSE NEIGHBOUR: 'it returns false'. Refute it at one input. -/
def fnSwappedWrong : ChangeSpec := { name := "fnSwapped", fn := fun _ => fun
  | [d1, d2] => { results := [.lit (.bool false)], args := [d1, d2] }
  | _ => none }
def FnSwappedWrongFalsely : Prop := fnSwappedRow.holds Try.pinned (OpenSpec.ofChange fnSwappedWrong)

/-- 'laws.FnSerial': WHATEVER THE INPUT: true; the input reads as it did. -/
def fnSerialSpec : ChangeSpec := { name := "fnSerial", fn := fun _ => fun
  | [d1, d2] => { results := [.lit (.bool true)], args := [d1, d2] }
  | _ => none }
def fnSerialRow : OpenClaim := { program := "ytpplaefnjbhhfaa", sum := "2f31f85299e8f84d462c8062d32e33e64ae9a7048d65c90c1b62e00d4dfaf931", func := "loop.example/g00641/laws.FnSerial", spec := "fnSerial", unfollowed := true, recurses := true, apart := false }
def FnSerialSaid : Prop := fnSerialRow.holds Try.pinned (OpenSpec.ofChange fnSerialSpec)

/-- ITS FALSE NEIGHBOUR: 'it returns false'. Refute it at one input. -/
def fnSerialWrong : ChangeSpec := { name := "fnSerial", fn := fun _ => fun
  | [d1, d2] => { results := [.lit (.bool false)], args := [d1, d2] }
  | _ => none }
def FnSerialWrongFalsely : Prop := fnSerialRow.holds Try.pinned (OpenSpec.ofChange fnSerialWrong)

/-- 'laws.FnGrouped': WHATEVER THE INPUT: true; the input reads as it did. -/
def fnGroupedSpec : ChangeSpec := { name := "fnGrouped", fn := fun _ => fun
  | [d1, d2] => { results := [.lit (.bool true)], args := [d1, d2] }
  | _ => none }
def fnGroupedRow : OpenClaim := { program := "ytpplaefnjbhhfaa", sum := "2f31f85299e8f84d462c8062d32e33e64ae9a7048d65c90c1b62e00d4dfaf931", func := "loop.example/g00641/laws.FnGrouped", spec := "fnGrouped", unfollowed := true, recurses := true, apart := false }
def FnGroupedSaid : Prop := fnGroupedRow.holds Try.pinned (OpenSpec.ofChange fnGroupedSpec)

/-- ITS FALSE NEIGHBOUR: 'it returns false'. Refute it at one input. -/
def fnGroupedWrong : ChangeSpec := { name := "fnGrouped", fn := fun _ => fun
  | [d1, d2] => { results := [.lit (.bool false)], args := [d1, d2] }
  | _ => none }
def FnGroupedWrongFalsely : Prop := fnGroupedRow.holds Try.pinned (OpenSpec.ofChange fnGroupedWrong)

/-- 'laws.FnExactPutRow': WHATEVER THE INPUT: true; the input reads as it did. -/
def fnExactPutRowSpec : ChangeSpec := { name := "fnExactPutRow", fn := fun _ => fun
  | [d1, d2] => { results := [.lit (.bool true)], args := [d1, d2] }
  | _ => none }
def fnExactPutRowRow : OpenClaim := { program := "ytpplaefnjbhhfaa", sum := "2f31f85299e8f84d462c8062d32e33e64ae9a7048d65c90c1b62e00d4dfaf931", func := "loop.example/g00641/laws.FnExactPutRow", spec := "fnExactPutRow", inPlace := ["slices.overlaps[loop.example/g00641/impl.Row]"], unfollowed := true, recurses := true, apart := false }
def FnExactPutRowSaid : Prop := fnExactPutRowRow.holds Try.pinned (OpenSpec.ofChange fnExactPutRowSpec)

/-- ITS FALSE NEIGHBOUR: 'it returns false'. Refute it at one input. -/
def fnExactPutRowWrong : ChangeSpec := { name := "fnExactPutRow", fn := fun _ => fun
  | [d1, d2] => { results := [.lit (.bool false)], args := [d1, d2] }
  | _ => none }
def FnExactPutRowWrongFalsely : Prop := fnExactPutRowRow.holds Try.pinned (OpenSpec.ofChange fnExactPutRowWrong)

/-- 'laws.FnRows': WHATEVER THE INPUT: true; the input reads as it did. -/
def fnRowsSpec : ChangeSpec := { name := "fnRows", fn := fun _ => fun
  | [d1, d2] => { results := [.lit (.bool true)], args := [d1, d2] }
  | _ => none }
def fnRowsRow : OpenClaim := { program := "ytpplaefnjbhhfaa", sum := "2f31f85299e8f84d462c8062d32e33e64ae9a7048d65c90c1b62e00d4dfaf931", func := "loop.example/g00641/laws.FnRows", spec := "fnRows", inPlace := ["slices.overlaps[loop.example/g00641/impl.Row]"], unfollowed := true, recurses := true, apart := false }
def FnRowsSaid : Prop := fnRowsRow.holds Try.pinned (OpenSpec.ofChange fnRowsSpec)

/-- ITS FALSE NEIGHBOUR: 'it returns false'. Refute it at one input. -/
def fnRowsWrong : ChangeSpec := { name := "fnRows", fn := fun _ => fun
  | [d1, d2] => { results := [.lit (.bool false)], args := [d1, d2] }
  | _ => none }
def FnRowsWrongFalsely : Prop := fnRowsRow.holds Try.pinned (OpenSpec.ofChange fnRowsWrong)

/- THE SECOND FORM. 'bulk': how many values and letters a reading holds, each counted each time it is reached (what is shared counts as often as it is met; a slice's spare places count too). A statement '..UptoSaid' is the law's where the arguments, and the package variables that the reading takes, are together of bulk at most 1048576: NARROWER than '..Said'. Prove '..Said' where nothing that the law and all that it calls make is longer than what came in: it says more and counts as full. Else prove '..UptoSaid'. A law counts once. -/
mutual
def uptoBulk {H : Type} : DataW H → Nat
  | .lit (.string bytes) => bytes.length + 1
  | .lit _ => 1
  | .nil => 1
  | .ptr d => uptoBulk d + 1
  | .slice elems spare => uptoBulkAll elems + uptoBulkAll spare + 1
  | .agg parts => uptoBulkAll parts + 1
  | .iface _ d => uptoBulk d + 1
  | .map entries => uptoBulkEntries entries + 1
  | .held _ => 1
def uptoBulkAll {H : Type} : List (DataW H) → Nat
  | [] => 0
  | d :: r => uptoBulk d + uptoBulkAll r
def uptoBulkEntries {H : Type} : List (Lit × DataW H) → Nat
  | [] => 0
  | x :: r => uptoBulkEntry x + uptoBulkEntries r
def uptoBulkEntry {H : Type} : Lit × DataW H → Nat
  | (.string bytes, d) => bytes.length + uptoBulk d + 1
  | (_, d) => uptoBulk d + 1
 end
def uptoSmall : (H : Type) → List (DataW H) → Bool := fun _ ds => decide (uptoBulkAll ds ≤ 1048576)
def OpenSpec.upto (s : _root_.Go.ChangeSpec) : _root_.Go.OpenSpec := { _root_.Go.OpenSpec.ofChange s with cond := some uptoSmall }

/-- 'laws.FnSwapped', WHERE WHAT IT READS IS OF BULK AT MOST 1048576: true; the input reads as it did. -/
def fnSwappedUptoRow : OpenClaim := { program := "ytpplaefnjbhhfaa", sum := "2f31f85299e8f84d462c8062d32e33e64ae9a7048d65c90c1b62e00d4dfaf931", func := "loop.example/g00641/laws.FnSwapped", spec := "fnSwapped", unfollowed := true, recurses := true, apart := false, narrowed := true }
def FnSwappedUptoSaid : Prop := fnSwappedUptoRow.holds Try.pinned (OpenSpec.upto fnSwappedSpec)

/-- 'laws.FnSerial', WHERE WHAT IT READS IS OF BULK AT MOST 1048576: true; the input reads as it did. -/
def fnSerialUptoRow : OpenClaim := { program := "ytpplaefnjbhhfaa", sum := "2f31f85299e8f84d462c8062d32e33e64ae9a7048d65c90c1b62e00d4dfaf931", func := "loop.example/g00641/laws.FnSerial", spec := "fnSerial", unfollowed := true, recurses := true, apart := false, narrowed := true }
def FnSerialUptoSaid : Prop := fnSerialUptoRow.holds Try.pinned (OpenSpec.upto fnSerialSpec)

/-- 'laws.FnGrouped', WHERE WHAT IT READS IS OF BULK AT MOST 1048576: true; the input reads as it did. -/
def fnGroupedUptoRow : OpenClaim := { program := "ytpplaefnjbhhfaa", sum := "2f31f85299e8f84d462c8062d32e33e64ae9a7048d65c90c1b62e00d4dfaf931", func := "loop.example/g00641/laws.FnGrouped", spec := "fnGrouped", unfollowed := true, recurses := true, apart := false, narrowed := true }
def FnGroupedUptoSaid : Prop := fnGroupedUptoRow.holds Try.pinned (OpenSpec.upto fnGroupedSpec)

/-- 'laws.FnExactPutRow', WHERE WHAT IT READS IS OF BULK AT MOST 1048576: true; the input reads as it did. -/
def fnExactPutRowUptoRow : OpenClaim := { program := "ytpplaefnjbhhfaa", sum := "2f31f85299e8f84d462c8062d32e33e64ae9a7048d65c90c1b62e00d4dfaf931", func := "loop.example/g00641/laws.FnExactPutRow", spec := "fnExactPutRow", inPlace := ["slices.overlaps[loop.example/g00641/impl.Row]"], unfollowed := true, recurses := true, apart := false, narrowed := true }
def FnExactPutRowUptoSaid : Prop := fnExactPutRowUptoRow.holds Try.pinned (OpenSpec.upto fnExactPutRowSpec)

/-- 'laws.FnRows', WHERE WHAT IT READS IS OF BULK AT MOST 1048576: true; the input reads as it did. -/
def fnRowsUptoRow : OpenClaim := { program := "ytpplaefnjbhhfaa", sum := "2f31f85299e8f84d462c8062d32e33e64ae9a7048d65c90c1b62e00d4dfaf931", func := "loop.example/g00641/laws.FnRows", spec := "fnRows", inPlace := ["slices.overlaps[loop.example/g00641/impl.Row]"], unfollowed := true, recurses := true, apart := false, narrowed := true }
def FnRowsUptoSaid : Prop := fnRowsUptoRow.holds Try.pinned (OpenSpec.upto fnRowsSpec)

end Rows
end Go.Proofs.Ytpplaefnjbhhfaa
