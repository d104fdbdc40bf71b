/-
  No cell of these rows narrows 'for every input' (looked for: loops, veiled, ifaces, maps, wideKeys, modest, calm, conditions, laid).
  DERIVED. THE GIVEN ROWS OF THIS SEAT. 12 by the template 'for every input the law returns true; each argument reads behind the call as it read before'; 0 by the template 'total and deterministic' (their statements: YtpmpdfpgkcagnaaTotals.lean).
  GIVEN WITH THE SEED: the statements are not yours to turn. If you find one false, say at which input.
  Laid BY PROGRAM, IN A SANDBOX (cutbox-rows.mjs): the forced cells as the released guide's own fill.sh prints them over the translation 68657f76e6f5384a… (all of the seat's roots in one cut). By AI agents, Wed Nov 11 2026. No macro, syntax, notation, axiom, sorry.
-/
import Derived.Test.YtpmpdfpgkcagnaaChecked
import GoSem.Claim
import GoSem.ClaimJoined
import GoSem.ClaimMapViews
import Derived.JoinedTies
import Derived.KernelRfl
namespace Go.Proofs.Ytpmpdfpgkcagnaa
/- THE CELL 'sum', in the pinned program and in every row, IS THE sha256 OF THE DUMP (.gsa) THAT YtpmpdfpgkcagnaaProg.lean LOADS. Nothing in Lean hashes anything: it is a label: what it is worth is what the hold of that sum in a sandbox is worth. -/
noncomputable def Try.pinned : Pinned := { name := "ytpmpdfpgkcagnaa", sum := "68657f76e6f5384a0f6291c90c153cca19761f6900909f5c0a0be37bf797eb21", checked := Try.checked }
namespace Rows
def none {H : Type} : Left H := { results := [], args := [] }

/-- 'laws.FnExactDepsAt': WHATEVER THE INPUT: true; the input reads as it did. -/
def fnExactDepsAtSpec : ChangeSpec := { name := "fnExactDepsAt", fn := fun _ => fun
  | [d1, d2, d3] => { results := [.lit (.bool true)], args := [d1, d2, d3] }
  | _ => none }
def fnExactDepsAtRow : OpenClaim := { program := "ytpmpdfpgkcagnaa", sum := "68657f76e6f5384a0f6291c90c153cca19761f6900909f5c0a0be37bf797eb21", func := "loop.example/g00641/laws.FnExactDepsAt", spec := "fnExactDepsAt", unfollowed := true, recurses := true, apart := false }
def FnExactDepsAtSaid : Prop := fnExactDepsAtRow.holds Try.pinned (OpenSpec.ofChange fnExactDepsAtSpec)

/-- ITS FALSE NEIGHBOUR: 'it returns false'. Refute it at one input. -/
def fnExactDepsAtWrong : ChangeSpec := { name := "fnExactDepsAt", fn := fun _ => fun
  | [d1, d2, d3] => { results := [.lit (.bool false)], args := [d1, d2, d3] }
  | _ => none }
def FnExactDepsAtWrongFalsely : Prop := fnExactDepsAtRow.holds Try.pinned (OpenSpec.ofChange fnExactDepsAtWrong)

/-- 'laws.FnExactIsFastOne': WHATEVER THE INPUT: true; the input reads as it did. -/
def fnExactIsFastOneSpec : ChangeSpec := { name := "fnExactIsFastOne", fn := fun _ => fun
  | [d1, d2, d3] => { results := [.lit (.bool true)], args := [d1, d2, d3] }
  | _ => none }
def fnExactIsFastOneRow : OpenClaim := { program := "ytpmpdfpgkcagnaa", sum := "68657f76e6f5384a0f6291c90c153cca19761f6900909f5c0a0be37bf797eb21", func := "loop.example/g00641/laws.FnExactIsFastOne", spec := "fnExactIsFastOne", unfollowed := true, recurses := true, apart := false }
def FnExactIsFastOneSaid : Prop := fnExactIsFastOneRow.holds Try.pinned (OpenSpec.ofChange fnExactIsFastOneSpec)

/-- ITS FALSE NEIGHBOUR: 'it returns false'. Refute it at one input. -/
def fnExactIsFastOneWrong : ChangeSpec := { name := "fnExactIsFastOne", fn := fun _ => fun
  | [d1, d2, d3] => { results := [.lit (.bool false)], args := [d1, d2, d3] }
  | _ => none }
def FnExactIsFastOneWrongFalsely : Prop := fnExactIsFastOneRow.holds Try.pinned (OpenSpec.ofChange fnExactIsFastOneWrong)

/-- 'laws.FnFast': WHATEVER THE INPUT: true; the input reads as it did. -/
def fnFastSpec : ChangeSpec := { name := "fnFast", fn := fun _ => fun
  | [d1, d2] => { results := [.lit (.bool true)], args := [d1, d2] }
  | _ => none }
def fnFastRow : OpenClaim := { program := "ytpmpdfpgkcagnaa", sum := "68657f76e6f5384a0f6291c90c153cca19761f6900909f5c0a0be37bf797eb21", func := "loop.example/g00641/laws.FnFast", spec := "fnFast", unfollowed := true, recurses := true, apart := false }
def FnFastSaid : Prop := fnFastRow.holds Try.pinned (OpenSpec.ofChange fnFastSpec)

/-- ITS FALSE NEIGHBOUR: 'it returns false'. Refute it at one input. -/
def fnFastWrong : ChangeSpec := { name := "fnFast", fn := fun _ => fun
  | [d1, d2] => { results := [.lit (.bool false)], args := [d1, d2] }
  | _ => none }
def FnFastWrongFalsely : Prop := fnFastRow.holds Try.pinned (OpenSpec.ofChange fnFastWrong)

/-- 'laws.FnExactDepsOf': WHATEVER THE INPUT: true; the input reads as it did. -/
def fnExactDepsOfSpec : ChangeSpec := { name := "fnExactDepsOf", fn := fun _ => fun
  | [d1, d2, d3] => { results := [.lit (.bool true)], args := [d1, d2, d3] }
  | _ => none }
def fnExactDepsOfRow : OpenClaim := { program := "ytpmpdfpgkcagnaa", sum := "68657f76e6f5384a0f6291c90c153cca19761f6900909f5c0a0be37bf797eb21", func := "loop.example/g00641/laws.FnExactDepsOf", spec := "fnExactDepsOf", unfollowed := true, recurses := true, apart := false }
def FnExactDepsOfSaid : Prop := fnExactDepsOfRow.holds Try.pinned (OpenSpec.ofChange fnExactDepsOfSpec)

/-- ITS FALSE NEIGHBOUR: 'it returns false'. Refute it at one input. -/
def fnExactDepsOfWrong : ChangeSpec := { name := "fnExactDepsOf", fn := fun _ => fun
  | [d1, d2, d3] => { results := [.lit (.bool false)], args := [d1, d2, d3] }
  | _ => none }
def FnExactDepsOfWrongFalsely : Prop := fnExactDepsOfRow.holds Try.pinned (OpenSpec.ofChange fnExactDepsOfWrong)

/-- 'laws.FnExactGoodHouse': WHATEVER THE INPUT: true; the input reads as it did. -/
def fnExactGoodHouseSpec : ChangeSpec := { name := "fnExactGoodHouse", fn := fun _ => fun
  | [d] => { results := [.lit (.bool true)], args := [d] }
  | _ => none }
def fnExactGoodHouseRow : OpenClaim := { program := "ytpmpdfpgkcagnaa", sum := "68657f76e6f5384a0f6291c90c153cca19761f6900909f5c0a0be37bf797eb21", func := "loop.example/g00641/laws.FnExactGoodHouse", spec := "fnExactGoodHouse", unfollowed := true, recurses := true, apart := false }
def FnExactGoodHouseSaid : Prop := fnExactGoodHouseRow.holds Try.pinned (OpenSpec.ofChange fnExactGoodHouseSpec)

/-- ITS FALSE NEIGHBOUR: 'it returns false'. Refute it at one input. -/
def fnExactGoodHouseWrong : ChangeSpec := { name := "fnExactGoodHouse", fn := fun _ => fun
  | [d] => { results := [.lit (.bool false)], args := [d] }
  | _ => none }
def FnExactGoodHouseWrongFalsely : Prop := fnExactGoodHouseRow.holds Try.pinned (OpenSpec.ofChange fnExactGoodHouseWrong)

/-- 'laws.FnDeps': WHATEVER THE INPUT: true; the input reads as it did. -/
def fnDepsSpec : ChangeSpec := { name := "fnDeps", fn := fun _ => fun
  | [d1, d2] => { results := [.lit (.bool true)], args := [d1, d2] }
  | _ => none }
def fnDepsRow : OpenClaim := { program := "ytpmpdfpgkcagnaa", sum := "68657f76e6f5384a0f6291c90c153cca19761f6900909f5c0a0be37bf797eb21", func := "loop.example/g00641/laws.FnDeps", spec := "fnDeps", unfollowed := true, recurses := true, apart := false }
def FnDepsSaid : Prop := fnDepsRow.holds Try.pinned (OpenSpec.ofChange fnDepsSpec)

/-- ITS FALSE NEIGHBOUR: 'it returns false'. Refute it at one input. -/
def fnDepsWrong : ChangeSpec := { name := "fnDeps", fn := fun _ => fun
  | [d1, d2] => { results := [.lit (.bool false)], args := [d1, d2] }
  | _ => none }
def FnDepsWrongFalsely : Prop := fnDepsRow.holds Try.pinned (OpenSpec.ofChange fnDepsWrong)

/-- 'laws.FnExactLinksOf': WHATEVER THE INPUT: true; the input reads as it did. -/
def fnExactLinksOfSpec : ChangeSpec := { name := "fnExactLinksOf", fn := fun _ => fun
  | [d] => { results := [.lit (.bool true)], args := [d] }
  | _ => none }
def fnExactLinksOfRow : OpenClaim := { program := "ytpmpdfpgkcagnaa", sum := "68657f76e6f5384a0f6291c90c153cca19761f6900909f5c0a0be37bf797eb21", func := "loop.example/g00641/laws.FnExactLinksOf", spec := "fnExactLinksOf", unfollowed := true, recurses := true, apart := false }
def FnExactLinksOfSaid : Prop := fnExactLinksOfRow.holds Try.pinned (OpenSpec.ofChange fnExactLinksOfSpec)

/-- ITS FALSE NEIGHBOUR: 'it returns false'. Refute it at one input. -/
def fnExactLinksOfWrong : ChangeSpec := { name := "fnExactLinksOf", fn := fun _ => fun
  | [d] => { results := [.lit (.bool false)], args := [d] }
  | _ => none }
def FnExactLinksOfWrongFalsely : Prop := fnExactLinksOfRow.holds Try.pinned (OpenSpec.ofChange fnExactLinksOfWrong)

/-- 'laws.FnExactFastDeeds': WHATEVER THE INPUT: true; the input reads as it did. -/
def fnExactFastDeedsSpec : ChangeSpec := { name := "fnExactFastDeeds", fn := fun _ => fun
  | [d] => { results := [.lit (.bool true)], args := [d] }
  | _ => none }
def fnExactFastDeedsRow : OpenClaim := { program := "ytpmpdfpgkcagnaa", sum := "68657f76e6f5384a0f6291c90c153cca19761f6900909f5c0a0be37bf797eb21", func := "loop.example/g00641/laws.FnExactFastDeeds", spec := "fnExactFastDeeds", unfollowed := true, recurses := true, apart := false }
def FnExactFastDeedsSaid : Prop := fnExactFastDeedsRow.holds Try.pinned (OpenSpec.ofChange fnExactFastDeedsSpec)

/-- ITS FALSE NEIGHBOUR: 'it returns false'. Refute it at one input. -/
def fnExactFastDeedsWrong : ChangeSpec := { name := "fnExactFastDeeds", fn := fun _ => fun
  | [d] => { results := [.lit (.bool false)], args := [d] }
  | _ => none }
def FnExactFastDeedsWrongFalsely : Prop := fnExactFastDeedsRow.holds Try.pinned (OpenSpec.ofChange fnExactFastDeedsWrong)

/-- 'laws.FnExactOutcomeBy': WHATEVER THE INPUT: true; the input reads as it did. -/
def fnExactOutcomeBySpec : ChangeSpec := { name := "fnExactOutcomeBy", fn := fun _ => fun
  | [d1, d2] => { results := [.lit (.bool true)], args := [d1, d2] }
  | _ => none }
def fnExactOutcomeByRow : OpenClaim := { program := "ytpmpdfpgkcagnaa", sum := "68657f76e6f5384a0f6291c90c153cca19761f6900909f5c0a0be37bf797eb21", func := "loop.example/g00641/laws.FnExactOutcomeBy", spec := "fnExactOutcomeBy", unfollowed := true, recurses := true, apart := false }
def FnExactOutcomeBySaid : Prop := fnExactOutcomeByRow.holds Try.pinned (OpenSpec.ofChange fnExactOutcomeBySpec)

/-- ITS FALSE NEIGHBOUR: 'it returns false'. Refute it at one input. -/
def fnExactOutcomeByWrong : ChangeSpec := { name := "fnExactOutcomeBy", fn := fun _ => fun
  | [d1, d2] => { results := [.lit (.bool false)], args := [d1, d2] }
  | _ => none }
def FnExactOutcomeByWrongFalsely : Prop := fnExactOutcomeByRow.holds Try.pinned (OpenSpec.ofChange fnExactOutcomeByWrong)

/-- 'laws.FnReady': WHATEVER THE INPUT: true; the input reads as it did. -/
def fnReadySpec : ChangeSpec := { name := "fnReady", fn := fun _ => fun
  | [d1, d2] => { results := [.lit (.bool true)], args := [d1, d2] }
  | _ => none }
def fnReadyRow : OpenClaim := { program := "ytpmpdfpgkcagnaa", sum := "68657f76e6f5384a0f6291c90c153cca19761f6900909f5c0a0be37bf797eb21", func := "loop.example/g00641/laws.FnReady", spec := "fnReady", unfollowed := true, recurses := true, apart := false }
def FnReadySaid : Prop := fnReadyRow.holds Try.pinned (OpenSpec.ofChange fnReadySpec)

/-- ITS FALSE NEIGHBOUR: 'it returns false'. Refute it at one input. -/
def fnReadyWrong : ChangeSpec := { name := "fnReady", fn := fun _ => fun
  | [d1, d2] => { results := [.lit (.bool false)], args := [d1, d2] }
  | _ => none }
def FnReadyWrongFalsely : Prop := fnReadyRow.holds Try.pinned (OpenSpec.ofChange fnReadyWrong)

/-- 'laws.FnGroups': WHATEVER THE INPUT: true; the input reads as it did. -/
def fnGroupsSpec : ChangeSpec := { name := "fnGroups", fn := fun _ => fun
  | [d1, d2] => { results := [.lit (.bool true)], args := [d1, d2] }
  | _ => none }
def fnGroupsRow : OpenClaim := { program := "ytpmpdfpgkcagnaa", sum := "68657f76e6f5384a0f6291c90c153cca19761f6900909f5c0a0be37bf797eb21", func := "loop.example/g00641/laws.FnGroups", spec := "fnGroups", unfollowed := true, recurses := true, apart := false }
def FnGroupsSaid : Prop := fnGroupsRow.holds Try.pinned (OpenSpec.ofChange fnGroupsSpec)

/-- ITS FALSE NEIGHBOUR: 'it returns false'. Refute it at one input. -/
def fnGroupsWrong : ChangeSpec := { name := "fnGroups", fn := fun _ => fun
  | [d1, d2] => { results := [.lit (.bool false)], args := [d1, d2] }
  | _ => none }
def FnGroupsWrongFalsely : Prop := fnGroupsRow.holds Try.pinned (OpenSpec.ofChange fnGroupsWrong)

/-- 'laws.FnShrunk': WHATEVER THE INPUT: true; the input reads as it did. -/
def fnShrunkSpec : ChangeSpec := { name := "fnShrunk", fn := fun _ => fun
  | [d1, d2] => { results := [.lit (.bool true)], args := [d1, d2] }
  | _ => none }
def fnShrunkRow : OpenClaim := { program := "ytpmpdfpgkcagnaa", sum := "68657f76e6f5384a0f6291c90c153cca19761f6900909f5c0a0be37bf797eb21", func := "loop.example/g00641/laws.FnShrunk", spec := "fnShrunk", unfollowed := true, recurses := true, apart := false }
def FnShrunkSaid : Prop := fnShrunkRow.holds Try.pinned (OpenSpec.ofChange fnShrunkSpec)

/-- ITS FALSE NEIGHBOUR: 'it returns false'. Refute it at one input. -/
def fnShrunkWrong : ChangeSpec := { name := "fnShrunk", fn := fun _ => fun
  | [d1, d2] => { results := [.lit (.bool false)], args := [d1, d2] }
  | _ => none }
def FnShrunkWrongFalsely : Prop := fnShrunkRow.holds Try.pinned (OpenSpec.ofChange fnShrunkWrong)

/- THE SECOND FORM. 'bulk': how many values and letters a reading holds, each counted each time it is reached (what is shared counts as often as it is met; a slice's spare places count too). A statement '..UptoSaid' is the law's where the arguments, and the package variables that the reading takes, are together of bulk at most 1048576: NARROWER than '..Said'. Prove '..Said' where nothing that the law and all that it calls make is longer than what came in: it says more and counts as full. Else prove '..UptoSaid'. A law counts once. -/
mutual
def uptoBulk {H : Type} : DataW H → Nat
  | .lit (.string bytes) => bytes.length + 1
  | .lit _ => 1
  | .nil => 1
  | .ptr d => uptoBulk d + 1
  | .slice elems spare => uptoBulkAll elems + uptoBulkAll spare + 1
  | .agg parts => uptoBulkAll parts + 1
  | .iface _ d => uptoBulk d + 1
  | .map entries => uptoBulkEntries entries + 1
  | .held _ => 1
def uptoBulkAll {H : Type} : List (DataW H) → Nat
  | [] => 0
  | d :: r => uptoBulk d + uptoBulkAll r
def uptoBulkEntries {H : Type} : List (Lit × DataW H) → Nat
  | [] => 0
  | x :: r => uptoBulkEntry x + uptoBulkEntries r
def uptoBulkEntry {H : Type} : Lit × DataW H → Nat
  | (.string bytes, d) => bytes.length + uptoBulk d + 1
  | (_, d) => uptoBulk d + 1
 end
def uptoSmall : (H : Type) → List (DataW H) → Bool := fun _ ds => decide (uptoBulkAll ds ≤ 1048576)
def OpenSpec.upto (s : _root_.Go.ChangeSpec) : _root_.Go.OpenSpec := { _root_.Go.OpenSpec.ofChange s with cond := some uptoSmall }

/-- 'laws.FnExactDepsAt', WHERE WHAT IT READS IS OF BULK AT MOST 1048576: true; the input reads as it did. -/
def fnExactDepsAtUptoRow : OpenClaim := { program := "ytpmpdfpgkcagnaa", sum := "68657f76e6f5384a0f6291c90c153cca19761f6900909f5c0a0be37bf797eb21", func := "loop.example/g00641/laws.FnExactDepsAt", spec := "fnExactDepsAt", unfollowed := true, recurses := true, apart := false, narrowed := true }
def FnExactDepsAtUptoSaid : Prop := fnExactDepsAtUptoRow.holds Try.pinned (OpenSpec.upto fnExactDepsAtSpec)

/-- 'laws.FnExactIsFastOne', WHERE WHAT IT READS IS OF BULK AT MOST 1048576: true; the input reads as it did. -/
def fnExactIsFastOneUptoRow : OpenClaim := { program := "ytpmpdfpgkcagnaa", sum := "68657f76e6f5384a0f6291c90c153cca19761f6900909f5c0a0be37bf797eb21", func := "loop.example/g00641/laws.FnExactIsFastOne", spec := "fnExactIsFastOne", unfollowed := true, recurses := true, apart := false, narrowed := true }
def FnExactIsFastOneUptoSaid : Prop := fnExactIsFastOneUptoRow.holds Try.pinned (OpenSpec.upto fnExactIsFastOneSpec)

/-- 'laws.FnFast', WHERE WHAT IT READS IS OF BULK AT MOST 1048576: true; the input reads as it did. -/
def fnFastUptoRow : OpenClaim := { program := "ytpmpdfpgkcagnaa", sum := "68657f76e6f5384a0f6291c90c153cca19761f6900909f5c0a0be37bf797eb21", func := "loop.example/g00641/laws.FnFast", spec := "fnFast", unfollowed := true, recurses := true, apart := false, narrowed := true }
def FnFastUptoSaid : Prop := fnFastUptoRow.holds Try.pinned (OpenSpec.upto fnFastSpec)

/-- 'laws.FnExactDepsOf', WHERE WHAT IT READS IS OF BULK AT MOST 1048576: true; the input reads as it did. -/
def fnExactDepsOfUptoRow : OpenClaim := { program := "ytpmpdfpgkcagnaa", sum := "68657f76e6f5384a0f6291c90c153cca19761f6900909f5c0a0be37bf797eb21", func := "loop.example/g00641/laws.FnExactDepsOf", spec := "fnExactDepsOf", unfollowed := true, recurses := true, apart := false, narrowed := true }
def FnExactDepsOfUptoSaid : Prop := fnExactDepsOfUptoRow.holds Try.pinned (OpenSpec.upto fnExactDepsOfSpec)

/-- 'laws.FnExactGoodHouse', WHERE WHAT IT READS IS OF BULK AT MOST 1048576: true; the input reads as it did. -/
def fnExactGoodHouseUptoRow : OpenClaim := { program := "ytpmpdfpgkcagnaa", sum := "68657f76e6f5384a0f6291c90c153cca19761f6900909f5c0a0be37bf797eb21", func := "loop.example/g00641/laws.FnExactGoodHouse", spec := "fnExactGoodHouse", unfollowed := true, recurses := true, apart := false, narrowed := true }
def FnExactGoodHouseUptoSaid : Prop := fnExactGoodHouseUptoRow.holds Try.pinned (OpenSpec.upto fnExactGoodHouseSpec)

/-- 'laws.FnDeps', WHERE WHAT IT READS IS OF BULK AT MOST 1048576: true; the input reads as it did. -/
def fnDepsUptoRow : OpenClaim := { program := "ytpmpdfpgkcagnaa", sum := "68657f76e6f5384a0f6291c90c153cca19761f6900909f5c0a0be37bf797eb21", func := "loop.example/g00641/laws.FnDeps", spec := "fnDeps", unfollowed := true, recurses := true, apart := false, narrowed := true }
def FnDepsUptoSaid : Prop := fnDepsUptoRow.holds Try.pinned (OpenSpec.upto fnDepsSpec)

/-- 'laws.FnExactLinksOf', WHERE WHAT IT READS IS OF BULK AT MOST 1048576: true; the input reads as it did. -/
def fnExactLinksOfUptoRow : OpenClaim := { program := "ytpmpdfpgkcagnaa", sum := "68657f76e6f5384a0f6291c90c153cca19761f6900909f5c0a0be37bf797eb21", func := "loop.example/g00641/laws.FnExactLinksOf", spec := "fnExactLinksOf", unfollowed := true, recurses := true, apart := false, narrowed := true }
def FnExactLinksOfUptoSaid : Prop := fnExactLinksOfUptoRow.holds Try.pinned (OpenSpec.upto fnExactLinksOfSpec)

/-- 'laws.FnExactFastDeeds', WHERE WHAT IT READS IS OF BULK AT MOST 1048576: true; the input reads as it did. -/
def fnExactFastDeedsUptoRow : OpenClaim := { program := "ytpmpdfpgkcagnaa", sum := "68657f76e6f5384a0f6291c90c153cca19761f6900909f5c0a0be37bf797eb21", func := "loop.example/g00641/laws.FnExactFastDeeds", spec := "fnExactFastDeeds", unfollowed := true, recurses := true, apart := false, narrowed := true }
def FnExactFastDeedsUptoSaid : Prop := fnExactFastDeedsUptoRow.holds Try.pinned (OpenSpec.upto fnExactFastDeedsSpec)

/-- 'laws.FnExactOutcomeBy', WHERE WHAT IT READS IS OF BULK AT MOST 1048576: true; the input reads as it did. -/
def fnExactOutcomeByUptoRow : OpenClaim := { program := "ytpmpdfpgkcagnaa", sum := "68657f76e6f5384a0f6291c90c153cca19761f6900909f5c0a0be37bf797eb21", func := "loop.example/g00641/laws.FnExactOutcomeBy", spec := "fnExactOutcomeBy", unfollowed := true, recurses := true, apart := false, narrowed := true }
def FnExactOutcomeByUptoSaid : Prop := fnExactOutcomeByUptoRow.holds Try.pinned (OpenSpec.upto fnExactOutcomeBySpec)

/-- 'laws.FnReady', WHERE WHAT IT READS IS OF BULK AT MOST 1048576: true; the input reads as it did. -/
def fnReadyUptoRow : OpenClaim := { program := "ytpmpdfpgkcagnaa", sum := "68657f76e6f5384a0f6291c90c153cca19761f6900909f5c0a0be37bf797eb21", func := "loop.example/g00641/laws.FnReady", spec := "fnReady", unfollowed := true, recurses := true, apart := false, narrowed := true }
def FnReadyUptoSaid : Prop := fnReadyUptoRow.holds Try.pinned (OpenSpec.upto fnReadySpec)

/-- 'laws.FnGroups', WHERE WHAT IT READS IS OF BULK AT MOST 1048576: true; the input reads as it did. -/
def fnGroupsUptoRow : OpenClaim := { program := "ytpmpdfpgkcagnaa", sum := "68657f76e6f5384a0f6291c90c153cca19761f6900909f5c0a0be37bf797eb21", func := "loop.example/g00641/laws.FnGroups", spec := "fnGroups", unfollowed := true, recurses := true, apart := false, narrowed := true }
def FnGroupsUptoSaid : Prop := fnGroupsUptoRow.holds Try.pinned (OpenSpec.upto fnGroupsSpec)

/-- 'laws.FnShrunk', WHERE WHAT IT READS IS OF BULK AT MOST 1048576: true; the input reads as it did. -/
def fnShrunkUptoRow : OpenClaim := { program := "ytpmpdfpgkcagnaa", sum := "68657f76e6f5384a0f6291c90c153cca19761f6900909f5c0a0be37bf797eb21", func := "loop.example/g00641/laws.FnShrunk", spec := "fnShrunk", unfollowed := true, recurses := true, apart := false, narrowed := true }
def FnShrunkUptoSaid : Prop := fnShrunkUptoRow.holds Try.pinned (OpenSpec.upto fnShrunkSpec)

end Rows
end Go.Proofs.Ytpmpdfpgkcagnaa
