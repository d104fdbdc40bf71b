/-
  No cell of these rows narrows 'for every input' (looked for: loops, veiled, ifaces, maps, wideKeys, modest, calm, conditions, laid).
  DERIVED. THE GIVEN ROWS OF THIS SEAT. 6 by the template 'for every input the law returns true; each argument reads behind the call as it read before'; 0 by the template 'total and deterministic' (their statements: YtgmjabiadkailaaGreatTotals.lean).
  GIVEN WITH THE SEED: the statements are not yours to turn. If you find one false, say at which input.
  Laid BY PROGRAM, IN A SANDBOX (cutbox-rows.mjs): the forced cells as the released guide's own fill.sh prints them over the translation 499588c1cb2f2ba0… (all of the seat's roots in one cut). By AI agents, Wed Nov 11 2026. No macro, syntax, notation, axiom, sorry.
-/
import Derived.Test.YtgmjabiadkailaaGreatChecked
import GoSem.Claim
import GoSem.ClaimJoined
import GoSem.ClaimMapViews
import Derived.JoinedTies
import Derived.KernelRfl
namespace Go.Proofs.YtgmjabiadkailaaGreat
/- THE CELL 'sum', in the pinned program and in every row, IS THE sha256 OF THE DUMP (.gsa) THAT YtgmjabiadkailaaGreatProg.lean LOADS. Nothing in Lean hashes anything: it is a label: what it is worth is what the hold of that sum in a sandbox is worth. -/
noncomputable def Tryz.pinned : Pinned := { name := "ytgmjabiadkailaagreat", sum := "499588c1cb2f2ba08b81e7f7426672623855243169481e2ea50f578488fad093", checked := Tryz.checked }
namespace Rows
def none {H : Type} : Left H := { results := [], args := [] }

/-- 'laws.FnPieces': WHATEVER THE INPUT: true; the input reads as it did. -/
def fnPiecesSpec : ChangeSpec := { name := "fnPieces", fn := fun _ => fun
  | [d1, d2] => { results := [.lit (.bool true)], args := [d1, d2] }
  | _ => none }
def fnPiecesRow : OpenClaim := { program := "ytgmjabiadkailaagreat", sum := "499588c1cb2f2ba08b81e7f7426672623855243169481e2ea50f578488fad093", func := "loop.example/g00641/laws.FnPieces", spec := "fnPieces", unfollowed := true, recurses := true, apart := false }
def FnPiecesSaid : Prop := fnPiecesRow.holds Tryz.pinned (OpenSpec.ofChange fnPiecesSpec)

/-- ITS FALSE NEIGHBOUR: 'it returns false'. Refute it at one input. -/
def fnPiecesWrong : ChangeSpec := { name := "fnPieces", fn := fun _ => fun
  | [d1, d2] => { results := [.lit (.bool false)], args := [d1, d2] }
  | _ => none }
def FnPiecesWrongFalsely : Prop := fnPiecesRow.holds Tryz.pinned (OpenSpec.ofChange fnPiecesWrong)

/-- 'laws.FnExactSameOutcome': WHATEVER THE INPUT: true; the input reads as it did. -/
def fnExactSameOutcomeSpec : ChangeSpec := { name := "fnExactSameOutcome", fn := fun _ => fun
  | [d1, d2, d3] => { results := [.lit (.bool true)], args := [d1, d2, d3] }
  | _ => none }
def fnExactSameOutcomeRow : OpenClaim := { program := "ytgmjabiadkailaagreat", sum := "499588c1cb2f2ba08b81e7f7426672623855243169481e2ea50f578488fad093", func := "loop.example/g00641/laws.FnExactSameOutcome", spec := "fnExactSameOutcome", unfollowed := true, recurses := true, apart := false }
def FnExactSameOutcomeSaid : Prop := fnExactSameOutcomeRow.holds Tryz.pinned (OpenSpec.ofChange fnExactSameOutcomeSpec)

/-- ITS FALSE NEIGHBOUR: 'it returns false'. Refute it at one input. -/
def fnExactSameOutcomeWrong : ChangeSpec := { name := "fnExactSameOutcome", fn := fun _ => fun
  | [d1, d2, d3] => { results := [.lit (.bool false)], args := [d1, d2, d3] }
  | _ => none }
def FnExactSameOutcomeWrongFalsely : Prop := fnExactSameOutcomeRow.holds Tryz.pinned (OpenSpec.ofChange fnExactSameOutcomeWrong)

/-- 'laws.FnSoFar': WHATEVER THE INPUT: true; the input reads as it did. -/
def fnSoFarSpec : ChangeSpec := { name := "fnSoFar", fn := fun _ => fun
  | [d1, d2] => { results := [.lit (.bool true)], args := [d1, d2] }
  | _ => none }
def fnSoFarRow : OpenClaim := { program := "ytgmjabiadkailaagreat", sum := "499588c1cb2f2ba08b81e7f7426672623855243169481e2ea50f578488fad093", func := "loop.example/g00641/laws.FnSoFar", spec := "fnSoFar", unfollowed := true, recurses := true, apart := false }
def FnSoFarSaid : Prop := fnSoFarRow.holds Tryz.pinned (OpenSpec.ofChange fnSoFarSpec)

/-- ITS FALSE NEIGHBOUR: 'it returns false'. Refute it at one input. -/
def fnSoFarWrong : ChangeSpec := { name := "fnSoFar", fn := fun _ => fun
  | [d1, d2] => { results := [.lit (.bool false)], args := [d1, d2] }
  | _ => none }
def FnSoFarWrongFalsely : Prop := fnSoFarRow.holds Tryz.pinned (OpenSpec.ofChange fnSoFarWrong)

/-- 'laws.FnExactOutcomeSoFar': WHATEVER THE INPUT: true; the input reads as it did. -/
def fnExactOutcomeSoFarSpec : ChangeSpec := { name := "fnExactOutcomeSoFar", fn := fun _ => fun
  | [d1, d2, d3] => { results := [.lit (.bool true)], args := [d1, d2, d3] }
  | _ => none }
def fnExactOutcomeSoFarRow : OpenClaim := { program := "ytgmjabiadkailaagreat", sum := "499588c1cb2f2ba08b81e7f7426672623855243169481e2ea50f578488fad093", func := "loop.example/g00641/laws.FnExactOutcomeSoFar", spec := "fnExactOutcomeSoFar", unfollowed := true, recurses := true, apart := false }
def FnExactOutcomeSoFarSaid : Prop := fnExactOutcomeSoFarRow.holds Tryz.pinned (OpenSpec.ofChange fnExactOutcomeSoFarSpec)

/-- ITS FALSE NEIGHBOUR: 'it returns false'. Refute it at one input. -/
def fnExactOutcomeSoFarWrong : ChangeSpec := { name := "fnExactOutcomeSoFar", fn := fun _ => fun
  | [d1, d2, d3] => { results := [.lit (.bool false)], args := [d1, d2, d3] }
  | _ => none }
def FnExactOutcomeSoFarWrongFalsely : Prop := fnExactOutcomeSoFarRow.holds Tryz.pinned (OpenSpec.ofChange fnExactOutcomeSoFarWrong)

/-- 'laws.FnExactOutcomeAt': WHATEVER THE INPUT: true; the input reads as it did. -/
def fnExactOutcomeAtSpec : ChangeSpec := { name := "fnExactOutcomeAt", fn := fun _ => fun
  | [d1, d2] => { results := [.lit (.bool true)], args := [d1, d2] }
  | _ => none }
def fnExactOutcomeAtRow : OpenClaim := { program := "ytgmjabiadkailaagreat", sum := "499588c1cb2f2ba08b81e7f7426672623855243169481e2ea50f578488fad093", func := "loop.example/g00641/laws.FnExactOutcomeAt", spec := "fnExactOutcomeAt", unfollowed := true, recurses := true, apart := false }
def FnExactOutcomeAtSaid : Prop := fnExactOutcomeAtRow.holds Tryz.pinned (OpenSpec.ofChange fnExactOutcomeAtSpec)

/-- ITS FALSE NEIGHBOUR: 'it returns false'. Refute it at one input. -/
def fnExactOutcomeAtWrong : ChangeSpec := { name := "fnExactOutcomeAt", fn := fun _ => fun
  | [d1, d2] => { results := [.lit (.bool false)], args := [d1, d2] }
  | _ => none }
def FnExactOutcomeAtWrongFalsely : Prop := fnExactOutcomeAtRow.holds Tryz.pinned (OpenSpec.ofChange fnExactOutcomeAtWrong)

/-- 'laws.FnHouse': WHATEVER THE INPUT: true; the input reads as it did. -/
def fnHouseSpec : ChangeSpec := { name := "fnHouse", fn := fun _ => fun
  | [d1, d2] => { results := [.lit (.bool true)], args := [d1, d2] }
  | _ => none }
def fnHouseRow : OpenClaim := { program := "ytgmjabiadkailaagreat", sum := "499588c1cb2f2ba08b81e7f7426672623855243169481e2ea50f578488fad093", func := "loop.example/g00641/laws.FnHouse", spec := "fnHouse", unfollowed := true, recurses := true, apart := false }
def FnHouseSaid : Prop := fnHouseRow.holds Tryz.pinned (OpenSpec.ofChange fnHouseSpec)

/-- ITS FALSE NEIGHBOUR: 'it returns false'. Refute it at one input. -/
def fnHouseWrong : ChangeSpec := { name := "fnHouse", fn := fun _ => fun
  | [d1, d2] => { results := [.lit (.bool false)], args := [d1, d2] }
  | _ => none }
def FnHouseWrongFalsely : Prop := fnHouseRow.holds Tryz.pinned (OpenSpec.ofChange fnHouseWrong)

/- THE SECOND FORM. 'bulk': how many values and letters a reading holds, each counted each time it is reached (what is shared counts as often as it is met; a slice's spare places count too). A statement '..UptoSaid' is the law's where the arguments, and the package variables that the reading takes, are together of bulk at most 1048576: NARROWER than '..Said'. Prove '..Said' where nothing that the law and all that it calls make is longer than what came in: it says more and counts as full. Else prove '..UptoSaid'. A law counts once. -/
mutual
def uptoBulk {H : Type} : DataW H → Nat
  | .lit (.string bytes) => bytes.length + 1
  | .lit _ => 1
  | .nil => 1
  | .ptr d => uptoBulk d + 1
  | .slice elems spare => uptoBulkAll elems + uptoBulkAll spare + 1
  | .agg parts => uptoBulkAll parts + 1
  | .iface _ d => uptoBulk d + 1
  | .map entries => uptoBulkEntries entries + 1
  | .held _ => 1
def uptoBulkAll {H : Type} : List (DataW H) → Nat
  | [] => 0
  | d :: r => uptoBulk d + uptoBulkAll r
def uptoBulkEntries {H : Type} : List (Lit × DataW H) → Nat
  | [] => 0
  | x :: r => uptoBulkEntry x + uptoBulkEntries r
def uptoBulkEntry {H : Type} : Lit × DataW H → Nat
  | (.string bytes, d) => bytes.length + uptoBulk d + 1
  | (_, d) => uptoBulk d + 1
 end
def uptoSmall : (H : Type) → List (DataW H) → Bool := fun _ ds => decide (uptoBulkAll ds ≤ 1048576)
def OpenSpec.upto (s : _root_.Go.ChangeSpec) : _root_.Go.OpenSpec := { _root_.Go.OpenSpec.ofChange s with cond := some uptoSmall }

/-- 'laws.FnPieces', WHERE WHAT IT READS IS OF BULK AT MOST 1048576: true; the input reads as it did. -/
def fnPiecesUptoRow : OpenClaim := { program := "ytgmjabiadkailaagreat", sum := "499588c1cb2f2ba08b81e7f7426672623855243169481e2ea50f578488fad093", func := "loop.example/g00641/laws.FnPieces", spec := "fnPieces", unfollowed := true, recurses := true, apart := false, narrowed := true }
def FnPiecesUptoSaid : Prop := fnPiecesUptoRow.holds Tryz.pinned (OpenSpec.upto fnPiecesSpec)

/-- 'laws.FnExactSameOutcome', WHERE WHAT IT READS IS OF BULK AT MOST 1048576: true; the input reads as it did. -/
def fnExactSameOutcomeUptoRow : OpenClaim := { program := "ytgmjabiadkailaagreat", sum := "499588c1cb2f2ba08b81e7f7426672623855243169481e2ea50f578488fad093", func := "loop.example/g00641/laws.FnExactSameOutcome", spec := "fnExactSameOutcome", unfollowed := true, recurses := true, apart := false, narrowed := true }
def FnExactSameOutcomeUptoSaid : Prop := fnExactSameOutcomeUptoRow.holds Tryz.pinned (OpenSpec.upto fnExactSameOutcomeSpec)

/-- 'laws.FnSoFar', WHERE WHAT IT READS IS OF BULK AT MOST 1048576: true; the input reads as it did. -/
def fnSoFarUptoRow : OpenClaim := { program := "ytgmjabiadkailaagreat", sum := "499588c1cb2f2ba08b81e7f7426672623855243169481e2ea50f578488fad093", func := "loop.example/g00641/laws.FnSoFar", spec := "fnSoFar", unfollowed := true, recurses := true, apart := false, narrowed := true }
def FnSoFarUptoSaid : Prop := fnSoFarUptoRow.holds Tryz.pinned (OpenSpec.upto fnSoFarSpec)

/-- 'laws.FnExactOutcomeSoFar', WHERE WHAT IT READS IS OF BULK AT MOST 1048576: true; the input reads as it did. -/
def fnExactOutcomeSoFarUptoRow : OpenClaim := { program := "ytgmjabiadkailaagreat", sum := "499588c1cb2f2ba08b81e7f7426672623855243169481e2ea50f578488fad093", func := "loop.example/g00641/laws.FnExactOutcomeSoFar", spec := "fnExactOutcomeSoFar", unfollowed := true, recurses := true, apart := false, narrowed := true }
def FnExactOutcomeSoFarUptoSaid : Prop := fnExactOutcomeSoFarUptoRow.holds Tryz.pinned (OpenSpec.upto fnExactOutcomeSoFarSpec)

/-- 'laws.FnExactOutcomeAt', WHERE WHAT IT READS IS OF BULK AT MOST 1048576: true; the input reads as it did. -/
def fnExactOutcomeAtUptoRow : OpenClaim := { program := "ytgmjabiadkailaagreat", sum := "499588c1cb2f2ba08b81e7f7426672623855243169481e2ea50f578488fad093", func := "loop.example/g00641/laws.FnExactOutcomeAt", spec := "fnExactOutcomeAt", unfollowed := true, recurses := true, apart := false, narrowed := true }
def FnExactOutcomeAtUptoSaid : Prop := fnExactOutcomeAtUptoRow.holds Tryz.pinned (OpenSpec.upto fnExactOutcomeAtSpec)

/-- 'laws.FnHouse', WHERE WHAT IT READS IS OF BULK AT MOST 1048576: true; the input reads as it did. -/
def fnHouseUptoRow : OpenClaim := { program := "ytgmjabiadkailaagreat", sum := "499588c1cb2f2ba08b81e7f7426672623855243169481e2ea50f578488fad093", func := "loop.example/g00641/laws.FnHouse", spec := "fnHouse", unfollowed := true, recurses := true, apart := false, narrowed := true }
def FnHouseUptoSaid : Prop := fnHouseUptoRow.holds Tryz.pinned (OpenSpec.upto fnHouseSpec)

end Rows
end Go.Proofs.YtgmjabiadkailaaGreat
