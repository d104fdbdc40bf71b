/-
  No cell of these rows narrows 'for every input' (looked for: loops, veiled, ifaces, maps, wideKeys, modest, calm, conditions, laid).
  DERIVED. THE GIVEN ROWS OF THIS SEAT. 9 by the template 'for every input the law returns true; each argument reads behind the call as it read before'; 0 by the template 'total and deterministic' (their statements: YtiikknacnbbbjaaTotals.lean).
  GIVEN WITH THE SEED: the statements are not yours to turn. If you find one false, say at which input.
  Laid BY PROGRAM, IN A SANDBOX (cutbox-rows.mjs): the forced cells as the released guide's own fill.sh prints them over the translation bf3687428967876e… (all of the seat's roots in one cut). By AI agents, Wed Nov 11 2026. No macro, syntax, notation, axiom, sorry.
-/
import Derived.Test.YtiikknacnbbbjaaChecked
import GoSem.Claim
import GoSem.ClaimJoined
import GoSem.ClaimMapViews
import Derived.JoinedTies
import Derived.KernelRfl
namespace Go.Proofs.Ytiikknacnbbbjaa
/- THE CELL 'sum', in the pinned program and in every row, IS THE sha256 OF THE DUMP (.gsa) THAT YtiikknacnbbbjaaProg.lean LOADS. Nothing in Lean hashes anything: it is a label: what it is worth is what the hold of that sum in a sandbox is worth. -/
noncomputable def Try.pinned : Pinned := { name := "ytiikknacnbbbjaa", sum := "bf3687428967876e7225469f4d2d921c0efdb0570d6ff0f50fbf625078d0f900", checked := Try.checked }
namespace Rows
def none {H : Type} : Left H := { results := [], args := [] }

/-- 'laws.FnTruths': WHATEVER THE INPUT: true; the input reads as it did. -/
def fnTruthsSpec : ChangeSpec := { name := "fnTruths", fn := fun _ => fun
  | [d1, d2] => { results := [.lit (.bool true)], args := [d1, d2] }
  | _ => none }
def fnTruthsRow : OpenClaim := { program := "ytiikknacnbbbjaa", sum := "bf3687428967876e7225469f4d2d921c0efdb0570d6ff0f50fbf625078d0f900", func := "loop.example/g00641/laws.FnTruths", spec := "fnTruths", apart := false }
def FnTruthsSaid : Prop := fnTruthsRow.holds Try.pinned (OpenSpec.ofChange fnTruthsSpec)

/-- ITS FALSE NEIGHBOUR: 'it returns false'. Refute it at one input. -/
def fnTruthsWrong : ChangeSpec := { name := "fnTruths", fn := fun _ => fun
  | [d1, d2] => { results := [.lit (.bool false)], args := [d1, d2] }
  | _ => none }
def FnTruthsWrongFalsely : Prop := fnTruthsRow.holds Try.pinned (OpenSpec.ofChange fnTruthsWrong)

/-- 'laws.FnCompared': WHATEVER THE INPUT: true; the input reads as it did. -/
def fnComparedSpec : ChangeSpec := { name := "fnCompared", fn := fun _ => fun
  | [d1, d2] => { results := [.lit (.bool true)], args := [d1, d2] }
  | _ => none }
def fnComparedRow : OpenClaim := { program := "ytiikknacnbbbjaa", sum := "bf3687428967876e7225469f4d2d921c0efdb0570d6ff0f50fbf625078d0f900", func := "loop.example/g00641/laws.FnCompared", spec := "fnCompared", apart := false }
def FnComparedSaid : Prop := fnComparedRow.holds Try.pinned (OpenSpec.ofChange fnComparedSpec)

/-- ITS FALSE NEIGHBOUR: 'it returns false'. Refute it at one input. -/
def fnComparedWrong : ChangeSpec := { name := "fnCompared", fn := fun _ => fun
  | [d1, d2] => { results := [.lit (.bool false)], args := [d1, d2] }
  | _ => none }
def FnComparedWrongFalsely : Prop := fnComparedRow.holds Try.pinned (OpenSpec.ofChange fnComparedWrong)

/-- 'laws.FnSums': WHATEVER THE INPUT: true; the input reads as it did. -/
def fnSumsSpec : ChangeSpec := { name := "fnSums", fn := fun _ => fun
  | [d1, d2] => { results := [.lit (.bool true)], args := [d1, d2] }
  | _ => none }
def fnSumsRow : OpenClaim := { program := "ytiikknacnbbbjaa", sum := "bf3687428967876e7225469f4d2d921c0efdb0570d6ff0f50fbf625078d0f900", func := "loop.example/g00641/laws.FnSums", spec := "fnSums", apart := false }
def FnSumsSaid : Prop := fnSumsRow.holds Try.pinned (OpenSpec.ofChange fnSumsSpec)

/-- ITS FALSE NEIGHBOUR: 'it returns false'. Refute it at one input. -/
def fnSumsWrong : ChangeSpec := { name := "fnSums", fn := fun _ => fun
  | [d1, d2] => { results := [.lit (.bool false)], args := [d1, d2] }
  | _ => none }
def FnSumsWrongFalsely : Prop := fnSumsRow.holds Try.pinned (OpenSpec.ofChange fnSumsWrong)

/-- 'laws.FnExactDropRow': WHATEVER THE INPUT: true; the input reads as it did. -/
def fnExactDropRowSpec : ChangeSpec := { name := "fnExactDropRow", fn := fun _ => fun
  | [d1, d2] => { results := [.lit (.bool true)], args := [d1, d2] }
  | _ => none }
def fnExactDropRowRow : OpenClaim := { program := "ytiikknacnbbbjaa", sum := "bf3687428967876e7225469f4d2d921c0efdb0570d6ff0f50fbf625078d0f900", func := "loop.example/g00641/laws.FnExactDropRow", spec := "fnExactDropRow", unfollowed := true, recurses := true, apart := false }
def FnExactDropRowSaid : Prop := fnExactDropRowRow.holds Try.pinned (OpenSpec.ofChange fnExactDropRowSpec)

/-- ITS FALSE NEIGHBOUR: 'it returns false'. Refute it at one input. -/
def fnExactDropRowWrong : ChangeSpec := { name := "fnExactDropRow", fn := fun _ => fun
  | [d1, d2] => { results := [.lit (.bool false)], args := [d1, d2] }
  | _ => none }
def FnExactDropRowWrongFalsely : Prop := fnExactDropRowRow.holds Try.pinned (OpenSpec.ofChange fnExactDropRowWrong)

/-- 'laws.FnExactSetColumn': WHATEVER THE INPUT: true; the input reads as it did. -/
def fnExactSetColumnSpec : ChangeSpec := { name := "fnExactSetColumn", fn := fun _ => fun
  | [d1, d2, d3, d4] => { results := [.lit (.bool true)], args := [d1, d2, d3, d4] }
  | _ => none }
def fnExactSetColumnRow : OpenClaim := { program := "ytiikknacnbbbjaa", sum := "bf3687428967876e7225469f4d2d921c0efdb0570d6ff0f50fbf625078d0f900", func := "loop.example/g00641/laws.FnExactSetColumn", spec := "fnExactSetColumn", inPlace := ["slices.overlaps[loop.example/g00641/impl.Row]"], unfollowed := true, recurses := true, apart := false }
def FnExactSetColumnSaid : Prop := fnExactSetColumnRow.holds Try.pinned (OpenSpec.ofChange fnExactSetColumnSpec)

/-- ITS FALSE NEIGHBOUR: 'it returns false'. Refute it at one input. -/
def fnExactSetColumnWrong : ChangeSpec := { name := "fnExactSetColumn", fn := fun _ => fun
  | [d1, d2, d3, d4] => { results := [.lit (.bool false)], args := [d1, d2, d3, d4] }
  | _ => none }
def FnExactSetColumnWrongFalsely : Prop := fnExactSetColumnRow.holds Try.pinned (OpenSpec.ofChange fnExactSetColumnWrong)

/-- 'laws.FnExactPutRow': WHATEVER THE INPUT: true; the input reads as it did. -/
def fnExactPutRowSpec : ChangeSpec := { name := "fnExactPutRow", fn := fun _ => fun
  | [d1, d2] => { results := [.lit (.bool true)], args := [d1, d2] }
  | _ => none }
def fnExactPutRowRow : OpenClaim := { program := "ytiikknacnbbbjaa", sum := "bf3687428967876e7225469f4d2d921c0efdb0570d6ff0f50fbf625078d0f900", func := "loop.example/g00641/laws.FnExactPutRow", spec := "fnExactPutRow", inPlace := ["slices.overlaps[loop.example/g00641/impl.Row]"], unfollowed := true, recurses := true, apart := false }
def FnExactPutRowSaid : Prop := fnExactPutRowRow.holds Try.pinned (OpenSpec.ofChange fnExactPutRowSpec)

/-- ITS FALSE NEIGHBOUR: 'it returns false'. Refute it at one input. -/
def fnExactPutRowWrong : ChangeSpec := { name := "fnExactPutRow", fn := fun _ => fun
  | [d1, d2] => { results := [.lit (.bool false)], args := [d1, d2] }
  | _ => none }
def FnExactPutRowWrongFalsely : Prop := fnExactPutRowRow.holds Try.pinned (OpenSpec.ofChange fnExactPutRowWrong)

/-- 'laws.FnRows': WHATEVER THE INPUT: true; the input reads as it did. -/
def fnRowsSpec : ChangeSpec := { name := "fnRows", fn := fun _ => fun
  | [d1, d2] => { results := [.lit (.bool true)], args := [d1, d2] }
  | _ => none }
def fnRowsRow : OpenClaim := { program := "ytiikknacnbbbjaa", sum := "bf3687428967876e7225469f4d2d921c0efdb0570d6ff0f50fbf625078d0f900", func := "loop.example/g00641/laws.FnRows", spec := "fnRows", inPlace := ["slices.overlaps[loop.example/g00641/impl.Row]"], unfollowed := true, recurses := true, apart := false }
def FnRowsSaid : Prop := fnRowsRow.holds Try.pinned (OpenSpec.ofChange fnRowsSpec)

/-- ITS FALSE NEIGHBOUR: 'it returns false'. Refute it at one input. -/
def fnRowsWrong : ChangeSpec := { name := "fnRows", fn := fun _ => fun
  | [d1, d2] => { results := [.lit (.bool false)], args := [d1, d2] }
  | _ => none }
def FnRowsWrongFalsely : Prop := fnRowsRow.holds Try.pinned (OpenSpec.ofChange fnRowsWrong)

/-- 'laws.FnRanges': WHATEVER THE INPUT: true; the input reads as it did. -/
def fnRangesSpec : ChangeSpec := { name := "fnRanges", fn := fun _ => fun
  | [d1, d2] => { results := [.lit (.bool true)], args := [d1, d2] }
  | _ => none }
def fnRangesRow : OpenClaim := { program := "ytiikknacnbbbjaa", sum := "bf3687428967876e7225469f4d2d921c0efdb0570d6ff0f50fbf625078d0f900", func := "loop.example/g00641/laws.FnRanges", spec := "fnRanges", inPlace := ["slices.overlaps[loop.example/g00641/impl.Row]"], unfollowed := true, recurses := true, apart := false }
def FnRangesSaid : Prop := fnRangesRow.holds Try.pinned (OpenSpec.ofChange fnRangesSpec)

/-- ITS FALSE NEIGHBOUR: 'it returns false'. Refute it at one input. -/
def fnRangesWrong : ChangeSpec := { name := "fnRanges", fn := fun _ => fun
  | [d1, d2] => { results := [.lit (.bool false)], args := [d1, d2] }
  | _ => none }
def FnRangesWrongFalsely : Prop := fnRangesRow.holds Try.pinned (OpenSpec.ofChange fnRangesWrong)

/-- 'laws.FnGrouped': WHATEVER THE INPUT: true; the input reads as it did. -/
def fnGroupedSpec : ChangeSpec := { name := "fnGrouped", fn := fun _ => fun
  | [d1, d2] => { results := [.lit (.bool true)], args := [d1, d2] }
  | _ => none }
def fnGroupedRow : OpenClaim := { program := "ytiikknacnbbbjaa", sum := "bf3687428967876e7225469f4d2d921c0efdb0570d6ff0f50fbf625078d0f900", func := "loop.example/g00641/laws.FnGrouped", spec := "fnGrouped", unfollowed := true, recurses := true, apart := false }
def FnGroupedSaid : Prop := fnGroupedRow.holds Try.pinned (OpenSpec.ofChange fnGroupedSpec)

/-- ITS FALSE NEIGHBOUR: 'it returns false'. Refute it at one input. -/
def fnGroupedWrong : ChangeSpec := { name := "fnGrouped", fn := fun _ => fun
  | [d1, d2] => { results := [.lit (.bool false)], args := [d1, d2] }
  | _ => none }
def FnGroupedWrongFalsely : Prop := fnGroupedRow.holds Try.pinned (OpenSpec.ofChange fnGroupedWrong)

/- THE SECOND FORM. 'bulk': how many values and letters a reading holds, each counted each time it is reached (what is shared counts as often as it is met; a slice's spare places count too). A statement '..UptoSaid' is the law's where the arguments, and the package variables that the reading takes, are together of bulk at most 1048576: NARROWER than '..Said'. Prove '..Said' where nothing that the law and all that it calls make is longer than what came in: it says more and counts as full. Else prove '..UptoSaid'. A law counts once. -/
mutual
def uptoBulk {H : Type} : DataW H → Nat
  | .lit (.string bytes) => bytes.length + 1
  | .lit _ => 1
  | .nil => 1
  | .ptr d => uptoBulk d + 1
  | .slice elems spare => uptoBulkAll elems + uptoBulkAll spare + 1
  | .agg parts => uptoBulkAll parts + 1
  | .iface _ d => uptoBulk d + 1
  | .map entries => uptoBulkEntries entries + 1
  | .held _ => 1
def uptoBulkAll {H : Type} : List (DataW H) → Nat
  | [] => 0
  | d :: r => uptoBulk d + uptoBulkAll r
def uptoBulkEntries {H : Type} : List (Lit × DataW H) → Nat
  | [] => 0
  | x :: r => uptoBulkEntry x + uptoBulkEntries r
def uptoBulkEntry {H : Type} : Lit × DataW H → Nat
  | (.string bytes, d) => bytes.length + uptoBulk d + 1
  | (_, d) => uptoBulk d + 1
 end
def uptoSmall : (H : Type) → List (DataW H) → Bool := fun _ ds => decide (uptoBulkAll ds ≤ 1048576)
def OpenSpec.upto (s : _root_.Go.ChangeSpec) : _root_.Go.OpenSpec := { _root_.Go.OpenSpec.ofChange s with cond := some uptoSmall }

/-- 'laws.FnTruths', WHERE WHAT IT READS IS OF BULK AT MOST 1048576: true; the input reads as it did. -/
def fnTruthsUptoRow : OpenClaim := { program := "ytiikknacnbbbjaa", sum := "bf3687428967876e7225469f4d2d921c0efdb0570d6ff0f50fbf625078d0f900", func := "loop.example/g00641/laws.FnTruths", spec := "fnTruths", apart := false, narrowed := true }
def FnTruthsUptoSaid : Prop := fnTruthsUptoRow.holds Try.pinned (OpenSpec.upto fnTruthsSpec)

/-- 'laws.FnCompared', WHERE WHAT IT READS IS OF BULK AT MOST 1048576: true; the input reads as it did. -/
def fnComparedUptoRow : OpenClaim := { program := "ytiikknacnbbbjaa", sum := "bf3687428967876e7225469f4d2d921c0efdb0570d6ff0f50fbf625078d0f900", func := "loop.example/g00641/laws.FnCompared", spec := "fnCompared", apart := false, narrowed := true }
def FnComparedUptoSaid : Prop := fnComparedUptoRow.holds Try.pinned (OpenSpec.upto fnComparedSpec)

/-- 'laws.FnSums', WHERE WHAT IT READS IS OF BULK AT MOST 1048576: true; the input reads as it did. -/
def fnSumsUptoRow : OpenClaim := { program := "ytiikknacnbbbjaa", sum := "bf3687428967876e7225469f4d2d921c0efdb0570d6ff0f50fbf625078d0f900", func := "loop.example/g00641/laws.FnSums", spec := "fnSums", apart := false, narrowed := true }
def FnSumsUptoSaid : Prop := fnSumsUptoRow.holds Try.pinned (OpenSpec.upto fnSumsSpec)

/-- 'laws.FnExactDropRow', WHERE WHAT IT READS IS OF BULK AT MOST 1048576: true; the input reads as it did. -/
def fnExactDropRowUptoRow : OpenClaim := { program := "ytiikknacnbbbjaa", sum := "bf3687428967876e7225469f4d2d921c0efdb0570d6ff0f50fbf625078d0f900", func := "loop.example/g00641/laws.FnExactDropRow", spec := "fnExactDropRow", unfollowed := true, recurses := true, apart := false, narrowed := true }
def FnExactDropRowUptoSaid : Prop := fnExactDropRowUptoRow.holds Try.pinned (OpenSpec.upto fnExactDropRowSpec)

/-- 'laws.FnExactSetColumn', WHERE WHAT IT READS IS OF BULK AT MOST 1048576: true; the input reads as it did. -/
def fnExactSetColumnUptoRow : OpenClaim := { program := "ytiikknacnbbbjaa", sum := "bf3687428967876e7225469f4d2d921c0efdb0570d6ff0f50fbf625078d0f900", func := "loop.example/g00641/laws.FnExactSetColumn", spec := "fnExactSetColumn", inPlace := ["slices.overlaps[loop.example/g00641/impl.Row]"], unfollowed := true, recurses := true, apart := false, narrowed := true }
def FnExactSetColumnUptoSaid : Prop := fnExactSetColumnUptoRow.holds Try.pinned (OpenSpec.upto fnExactSetColumnSpec)

/-- 'laws.FnExactPutRow', WHERE WHAT IT READS IS OF BULK AT MOST 1048576: true; the input reads as it did. -/
def fnExactPutRowUptoRow : OpenClaim := { program := "ytiikknacnbbbjaa", sum := "bf3687428967876e7225469f4d2d921c0efdb0570d6ff0f50fbf625078d0f900", func := "loop.example/g00641/laws.FnExactPutRow", spec := "fnExactPutRow", inPlace := ["slices.overlaps[loop.example/g00641/impl.Row]"], unfollowed := true, recurses := true, apart := false, narrowed := true }
def FnExactPutRowUptoSaid : Prop := fnExactPutRowUptoRow.holds Try.pinned (OpenSpec.upto fnExactPutRowSpec)

/-- 'laws.FnRows', WHERE WHAT IT READS IS OF BULK AT MOST 1048576: true; the input reads as it did. -/
def fnRowsUptoRow : OpenClaim := { program := "ytiikknacnbbbjaa", sum := "bf3687428967876e7225469f4d2d921c0efdb0570d6ff0f50fbf625078d0f900", func := "loop.example/g00641/laws.FnRows", spec := "fnRows", inPlace := ["slices.overlaps[loop.example/g00641/impl.Row]"], unfollowed := true, recurses := true, apart := false, narrowed := true }
def FnRowsUptoSaid : Prop := fnRowsUptoRow.holds Try.pinned (OpenSpec.upto fnRowsSpec)

/-- 'laws.FnRanges', WHERE WHAT IT READS IS OF BULK AT MOST 1048576: true; the input reads as it did. -/
def fnRangesUptoRow : OpenClaim := { program := "ytiikknacnbbbjaa", sum := "bf3687428967876e7225469f4d2d921c0efdb0570d6ff0f50fbf625078d0f900", func := "loop.example/g00641/laws.FnRanges", spec := "fnRanges", inPlace := ["slices.overlaps[loop.example/g00641/impl.Row]"], unfollowed := true, recurses := true, apart := false, narrowed := true }
def FnRangesUptoSaid : Prop := fnRangesUptoRow.holds Try.pinned (OpenSpec.upto fnRangesSpec)

/-- 'laws.FnGrouped', WHERE WHAT IT READS IS OF BULK AT MOST 1048576: true; the input reads as it did. -/
def fnGroupedUptoRow : OpenClaim := { program := "ytiikknacnbbbjaa", sum := "bf3687428967876e7225469f4d2d921c0efdb0570d6ff0f50fbf625078d0f900", func := "loop.example/g00641/laws.FnGrouped", spec := "fnGrouped", unfollowed := true, recurses := true, apart := false, narrowed := true }
def FnGroupedUptoSaid : Prop := fnGroupedUptoRow.holds Try.pinned (OpenSpec.upto fnGroupedSpec)

end Rows
end Go.Proofs.Ytiikknacnbbbjaa
