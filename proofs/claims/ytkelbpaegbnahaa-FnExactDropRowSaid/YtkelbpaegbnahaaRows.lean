/-
  No cell of these rows narrows 'for every input' (looked for: loops, veiled, ifaces, maps, wideKeys, modest, calm, conditions, laid).
  DERIVED. THE GIVEN ROWS OF THIS SEAT. 5 by the template 'for every input the law returns true; each argument reads behind the call as it read before'; 0 by the template 'total and deterministic' (their statements: YtkelbpaegbnahaaTotals.lean).
  GIVEN WITH THE SEED: the statements are not yours to turn. If you find one false, say at which input.
  Laid BY PROGRAM, IN A SANDBOX (cutbox-rows.mjs): the forced cells as the released guide's own fill.sh prints them over the translation ba2e54d5abc052a0… (all of the seat's roots in one cut). By AI agents, Wed Nov 11 2026. No macro, syntax, notation, axiom, sorry.
-/
import Derived.Test.YtkelbpaegbnahaaChecked
import GoSem.Claim
import GoSem.ClaimJoined
import GoSem.ClaimMapViews
import Derived.JoinedTies
import Derived.KernelRfl
namespace Go.Proofs.Ytkelbpaegbnahaa
/- THE CELL 'sum', in the pinned program and in every row, IS THE sha256 OF THE DUMP (.gsa) THAT YtkelbpaegbnahaaProg.lean LOADS. Nothing in Lean hashes anything: it is a label: what it is worth is what the hold of that sum in a sandbox is worth. -/
noncomputable def Try.pinned : Pinned := { name := "ytkelbpaegbnahaa", sum := "ba2e54d5abc052a00ffeba5b95daa4155d55035e951ca1470d4281494c05f0b2", checked := Try.checked }
namespace Rows
def none {H : Type} : Left H := { results := [], args := [] }

/-- 'laws.FnTruths': WHATEVER THE INPUT: true; the input reads as it did. -/
def fnTruthsSpec : ChangeSpec := { name := "fnTruths", fn := fun _ => fun
  | [d1, d2] => { results := [.lit (.bool true)], args := [d1, d2] }
  | _ => none }
def fnTruthsRow : OpenClaim := { program := "ytkelbpaegbnahaa", sum := "ba2e54d5abc052a00ffeba5b95daa4155d55035e951ca1470d4281494c05f0b2", func := "loop.example/g00641/laws.FnTruths", spec := "fnTruths", apart := false }
def FnTruthsSaid : Prop := fnTruthsRow.holds Try.pinned (OpenSpec.ofChange fnTruthsSpec)

/-- ITS FALSE NEIGHBOUR: 'it returns false'. Refute it at one input. -/
def fnTruthsWrong : ChangeSpec := { name := "fnTruths", fn := fun _ => fun
  | [d1, d2] => { results := [.lit (.bool false)], args := [d1, d2] }
  | _ => none }
def FnTruthsWrongFalsely : Prop := fnTruthsRow.holds Try.pinned (OpenSpec.ofChange fnTruthsWrong)

/-- 'laws.FnCompared': WHATEVER THE INPUT: true; the input reads as it did. -/
def fnComparedSpec : ChangeSpec := { name := "fnCompared", fn := fun _ => fun
  | [d1, d2] => { results := [.lit (.bool true)], args := [d1, d2] }
  | _ => none }
def fnComparedRow : OpenClaim := { program := "ytkelbpaegbnahaa", sum := "ba2e54d5abc052a00ffeba5b95daa4155d55035e951ca1470d4281494c05f0b2", func := "loop.example/g00641/laws.FnCompared", spec := "fnCompared", apart := false }
def FnComparedSaid : Prop := fnComparedRow.holds Try.pinned (OpenSpec.ofChange fnComparedSpec)

/-- ITS FALSE NEIGHBOUR: 'it returns false'. Refute it at one input. -/
def fnComparedWrong : ChangeSpec := { name := "fnCompared", fn := fun _ => fun
  | [d1, d2] => { results := [.lit (.bool false)], args := [d1, d2] }
  | _ => none }
def FnComparedWrongFalsely : Prop := fnComparedRow.holds Try.pinned (OpenSpec.ofChange fnComparedWrong)

/-- 'laws.FnSums': WHATEVER THE INPUT: true; the input reads as it did. -/
def fnSumsSpec : ChangeSpec := { name := "fnSums", fn := fun _ => fun
  | [d1, d2] => { results := [.lit (.bool true)], args := [d1, d2] }
  | _ => none }
def fnSumsRow : OpenClaim := { program := "ytkelbpaegbnahaa", sum := "ba2e54d5abc052a00ffeba5b95daa4155d55035e951ca1470d4281494c05f0b2", func := "loop.example/g00641/laws.FnSums", spec := "fnSums", apart := false }
def FnSumsSaid : Prop := fnSumsRow.holds Try.pinned (OpenSpec.ofChange fnSumsSpec)

/-- ITS FALSE NEIGHBOUR: 'it returns false'. Refute it at one input. -/
def fnSumsWrong : ChangeSpec := { name := "fnSums", fn := fun _ => fun
  | [d1, d2] => { results := [.lit (.bool false)], args := [d1, d2] }
  | _ => none }
def FnSumsWrongFalsely : Prop := fnSumsRow.holds Try.pinned (OpenSpec.ofChange fnSumsWrong)

/-- 'laws.FnExactStepCommit': WHATEVER THE INPUT: true; the input reads as it did. -/
def fnExactStepCommitSpec : ChangeSpec := { name := "fnExactStepCommit", fn := fun _ => fun
  | [d1, d2] => { results := [.lit (.bool true)], args := [d1, d2] }
  | _ => none }
def fnExactStepCommitRow : OpenClaim := { program := "ytkelbpaegbnahaa", sum := "ba2e54d5abc052a00ffeba5b95daa4155d55035e951ca1470d4281494c05f0b2", func := "loop.example/g00641/laws.FnExactStepCommit", spec := "fnExactStepCommit", unfollowed := true, recurses := true, apart := false }
def FnExactStepCommitSaid : Prop := fnExactStepCommitRow.holds Try.pinned (OpenSpec.ofChange fnExactStepCommitSpec)

/-- ITS FALSE NEIGHBOUR: 'it returns false'. Refute it at one input. -/
def fnExactStepCommitWrong : ChangeSpec := { name := "fnExactStepCommit", fn := fun _ => fun
  | [d1, d2] => { results := [.lit (.bool false)], args := [d1, d2] }
  | _ => none }
def FnExactStepCommitWrongFalsely : Prop := fnExactStepCommitRow.holds Try.pinned (OpenSpec.ofChange fnExactStepCommitWrong)

/-- 'laws.FnExactDropRow': WHATEVER THE INPUT: true; the input reads as it did. -/
def fnExactDropRowSpec : ChangeSpec := { name := "fnExactDropRow", fn := fun _ => fun
  | [d1, d2] => { results := [.lit (.bool true)], args := [d1, d2] }
  | _ => none }
def fnExactDropRowRow : OpenClaim := { program := "ytkelbpaegbnahaa", sum := "ba2e54d5abc052a00ffeba5b95daa4155d55035e951ca1470d4281494c05f0b2", func := "loop.example/g00641/laws.FnExactDropRow", spec := "fnExactDropRow", unfollowed := true, recurses := true, apart := false }
def FnExactDropRowSaid : Prop := fnExactDropRowRow.holds Try.pinned (OpenSpec.ofChange fnExactDropRowSpec)

/-- ITS FALSE NEIGHBOUR: 'it returns false'. Refute it at one input. -/
def fnExactDropRowWrong : ChangeSpec := { name := "fnExactDropRow", fn := fun _ => fun
  | [d1, d2] => { results := [.lit (.bool false)], args := [d1, d2] }
  | _ => none }
def FnExactDropRowWrongFalsely : Prop := fnExactDropRowRow.holds Try.pinned (OpenSpec.ofChange fnExactDropRowWrong)

/- THE SECOND FORM. 'bulk': how many values and letters a reading holds, each counted each time it is reached (what is shared counts as often as it is met; a slice's spare places count too). A statement '..UptoSaid' is the law's where the arguments, and the package variables that the reading takes, are together of bulk at most 1048576: NARROWER than '..Said'. Prove '..Said' where nothing that the law and all that it calls make is longer than what came in: it says more and counts as full. Else prove '..UptoSaid'. A law counts once. -/
mutual
def uptoBulk {H : Type} : DataW H → Nat
  | .lit (.string bytes) => bytes.length + 1
  | .lit _ => 1
  | .nil => 1
  | .ptr d => uptoBulk d + 1
  | .slice elems spare => uptoBulkAll elems + uptoBulkAll spare + 1
  | .agg parts => uptoBulkAll parts + 1
  | .iface _ d => uptoBulk d + 1
  | .map entries => uptoBulkEntries entries + 1
  | .held _ => 1
def uptoBulkAll {H : Type} : List (DataW H) → Nat
  | [] => 0
  | d :: r => uptoBulk d + uptoBulkAll r
def uptoBulkEntries {H : Type} : List (Lit × DataW H) → Nat
  | [] => 0
  | x :: r => uptoBulkEntry x + uptoBulkEntries r
def uptoBulkEntry {H : Type} : Lit × DataW H → Nat
  | (.string bytes, d) => bytes.length + uptoBulk d + 1
  | (_, d) => uptoBulk d + 1
 end
def uptoSmall : (H : Type) → List (DataW H) → Bool := fun _ ds => decide (uptoBulkAll ds ≤ 1048576)
def OpenSpec.upto (s : _root_.Go.ChangeSpec) : _root_.Go.OpenSpec := { _root_.Go.OpenSpec.ofChange s with cond := some uptoSmall }

/-- 'laws.FnTruths', WHERE WHAT IT READS IS OF BULK AT MOST 1048576: true; the input reads as it did. -/
def fnTruthsUptoRow : OpenClaim := { program := "ytkelbpaegbnahaa", sum := "ba2e54d5abc052a00ffeba5b95daa4155d55035e951ca1470d4281494c05f0b2", func := "loop.example/g00641/laws.FnTruths", spec := "fnTruths", apart := false, narrowed := true }
def FnTruthsUptoSaid : Prop := fnTruthsUptoRow.holds Try.pinned (OpenSpec.upto fnTruthsSpec)

/-- 'laws.FnCompared', WHERE WHAT IT READS IS OF BULK AT MOST 1048576: true; the input reads as it did. -/
def fnComparedUptoRow : OpenClaim := { program := "ytkelbpaegbnahaa", sum := "ba2e54d5abc052a00ffeba5b95daa4155d55035e951ca1470d4281494c05f0b2", func := "loop.example/g00641/laws.FnCompared", spec := "fnCompared", apart := false, narrowed := true }
def FnComparedUptoSaid : Prop := fnComparedUptoRow.holds Try.pinned (OpenSpec.upto fnComparedSpec)

/-- 'laws.FnSums', WHERE WHAT IT READS IS OF BULK AT MOST 1048576: true; the input reads as it did. -/
def fnSumsUptoRow : OpenClaim := { program := "ytkelbpaegbnahaa", sum := "ba2e54d5abc052a00ffeba5b95daa4155d55035e951ca1470d4281494c05f0b2", func := "loop.example/g00641/laws.FnSums", spec := "fnSums", apart := false, narrowed := true }
def FnSumsUptoSaid : Prop := fnSumsUptoRow.holds Try.pinned (OpenSpec.upto fnSumsSpec)

/-- 'laws.FnExactStepCommit', WHERE WHAT IT READS IS OF BULK AT MOST 1048576: true; the input reads as it did. -/
def fnExactStepCommitUptoRow : OpenClaim := { program := "ytkelbpaegbnahaa", sum := "ba2e54d5abc052a00ffeba5b95daa4155d55035e951ca1470d4281494c05f0b2", func := "loop.example/g00641/laws.FnExactStepCommit", spec := "fnExactStepCommit", unfollowed := true, recurses := true, apart := false, narrowed := true }
def FnExactStepCommitUptoSaid : Prop := fnExactStepCommitUptoRow.holds Try.pinned (OpenSpec.upto fnExactStepCommitSpec)

/-- 'laws.FnExactDropRow', WHERE WHAT IT READS IS OF BULK AT MOST 1048576: true; the input reads as it did. -/
def fnExactDropRowUptoRow : OpenClaim := { program := "ytkelbpaegbnahaa", sum := "ba2e54d5abc052a00ffeba5b95daa4155d55035e951ca1470d4281494c05f0b2", func := "loop.example/g00641/laws.FnExactDropRow", spec := "fnExactDropRow", unfollowed := true, recurses := true, apart := false, narrowed := true }
def FnExactDropRowUptoSaid : Prop := fnExactDropRowUptoRow.holds Try.pinned (OpenSpec.upto fnExactDropRowSpec)

end Rows
end Go.Proofs.Ytkelbpaegbnahaa
