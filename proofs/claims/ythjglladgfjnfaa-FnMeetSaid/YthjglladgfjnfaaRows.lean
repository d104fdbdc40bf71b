/-
  No cell of these rows narrows 'for every input' (looked for: loops, veiled, ifaces, maps, wideKeys, modest, calm, conditions, laid).
  DERIVED. THE GIVEN ROWS OF THIS SEAT. 5 by the template 'for every input the law returns true; each argument reads behind the call as it read before'; 0 by the template 'total and deterministic' (their statements: YthjglladgfjnfaaTotals.lean).
  GIVEN WITH THE SEED: the statements are not yours to turn. If you find one false, say at which input.
  Laid BY PROGRAM, IN A SANDBOX (cutbox-rows.mjs): the forced cells as the released guide's own fill.sh prints them over the translation 69c408c02b5948eb… (all of the seat's roots in one cut). By AI agents, Wed Nov 11 2026. No macro, syntax, notation, axiom, sorry.
-/
import Derived.Test.YthjglladgfjnfaaChecked
import GoSem.Claim
import GoSem.ClaimJoined
import GoSem.ClaimMapViews
import Derived.JoinedTies
import Derived.KernelRfl
namespace Go.Proofs.Ythjglladgfjnfaa
/- THE CELL 'sum', in the pinned program and in every row, IS THE sha256 OF THE DUMP (.gsa) THAT YthjglladgfjnfaaProg.lean LOADS. Nothing in Lean hashes anything: it is a label: what it is worth is what the hold of that sum in a sandbox is worth. -/
noncomputable def Try.pinned : Pinned := { name := "ythjglladgfjnfaa", sum := "69c408c02b5948eb2fc24b5a97c35022c16a0fc1282996a76be6335065b13292", checked := Try.checked }
namespace Rows
def none {H : Type} : Left H := { results := [], args := [] }

/-- 'laws.FnMeet': WHATEVER THE INPUT: true; the input reads as it did. -/
def fnMeetSpec : ChangeSpec := { name := "fnMeet", fn := fun _ => fun
  | [d1, d2] => { results := [.lit (.bool true)], args := [d1, d2] }
  | _ => none }
def fnMeetRow : OpenClaim := { program := "ythjglladgfjnfaa", sum := "69c408c02b5948eb2fc24b5a97c35022c16a0fc1282996a76be6335065b13292", func := "loop.example/g00641/laws.FnMeet", spec := "fnMeet", unfollowed := true, recurses := true, apart := false }
def FnMeetSaid : Prop := fnMeetRow.holds Try.pinned (OpenSpec.ofChange fnMeetSpec)

/-- ITS FALSE NEIGHBOUR: 'it returns false'. Refute it at one input. -/
def fnMeetWrong : ChangeSpec := { name := "fnMeet", fn := fun _ => fun
  | [d1, d2] => { results := [.lit (.bool false)], args := [d1, d2] }
  | _ => none }
def FnMeetWrongFalsely : Prop := fnMeetRow.holds Try.pinned (OpenSpec.ofChange fnMeetWrong)

/-- 'laws.FnSwapped': WHATEVER THE INPUT: true; the input reads as it did. -/
def fnSwappedSpec : ChangeSpec := { name := "fnSwapped", fn := fun _ => fun
  | [d1, d2] => { results := [.lit (.bool true)], args := [d1, d2] }
  | _ => none }
def fnSwappedRow : OpenClaim := { program := "ythjglladgfjnfaa", sum := "69c408c02b5948eb2fc24b5a97c35022c16a0fc1282996a76be6335065b13292", func := "loop.example/g00641/laws.FnSwapped", spec := "fnSwapped", unfollowed := true, recurses := true, apart := false }
def FnSwappedSaid : Prop := fnSwappedRow.holds Try.pinned (OpenSpec.ofChange fnSwappedSpec)

/-- ITS FALSE NEIGHBOUR: 'it returns false'. Refute it at one input. -/
def fnSwappedWrong : ChangeSpec := { name := "fnSwapped", fn := fun _ => fun
  | [d1, d2] => { results := [.lit (.bool false)], args := [d1, d2] }
  | _ => none }
def FnSwappedWrongFalsely : Prop := fnSwappedRow.holds Try.pinned (OpenSpec.ofChange fnSwappedWrong)

/-- 'laws.FnSerial': WHATEVER THE INPUT: true; the input reads as it did. -/
def fnSerialSpec : ChangeSpec := { name := "fnSerial", fn := fun _ => fun
  | [d1, d2] => { results := [.lit (.bool true)], args := [d1, d2] }
  | _ => none }
def fnSerialRow : OpenClaim := { program := "ythjglladgfjnfaa", sum := "69c408c02b5948eb2fc24b5a97c35022c16a0fc1282996a76be6335065b13292", func := "loop.example/g00641/laws.FnSerial", spec := "fnSerial", unfollowed := true, recurses := true, apart := false }
def FnSerialSaid : Prop := fnSerialRow.holds Try.pinned (OpenSpec.ofChange fnSerialSpec)

/-- ITS FALSE NEIGHBOUR: 'it returns false'. Refute it at one input. -/
def fnSerialWrong : ChangeSpec := { name := "fnSerial", fn := fun _ => fun
  | [d1, d2] => { results := [.lit (.bool false)], args := [d1, d2] }
  | _ => none }
def FnSerialWrongFalsely : Prop := fnSerialRow.holds Try.pinned (OpenSpec.ofChange fnSerialWrong)

/-- 'laws.FnExactAskLock': WHATEVER THE INPUT: true; the input reads as it did. -/
def fnExactAskLockSpec : ChangeSpec := { name := "fnExactAskLock", fn := fun _ => fun
  | [d1, d2] => { results := [.lit (.bool true)], args := [d1, d2] }
  | _ => none }
def fnExactAskLockRow : OpenClaim := { program := "ythjglladgfjnfaa", sum := "69c408c02b5948eb2fc24b5a97c35022c16a0fc1282996a76be6335065b13292", func := "loop.example/g00641/laws.FnExactAskLock", spec := "fnExactAskLock", unfollowed := true, recurses := true, apart := false }
def FnExactAskLockSaid : Prop := fnExactAskLockRow.holds Try.pinned (OpenSpec.ofChange fnExactAskLockSpec)

/-- ITS FALSE NEIGHBOUR: 'it returns false'. Refute it at one input. -/
def fnExactAskLockWrong : ChangeSpec := { name := "fnExactAskLock", fn := fun _ => fun
  | [d1, d2] => { results := [.lit (.bool false)], args := [d1, d2] }
  | _ => none }
def FnExactAskLockWrongFalsely : Prop := fnExactAskLockRow.holds Try.pinned (OpenSpec.ofChange fnExactAskLockWrong)

/-- 'laws.FnWaits': WHATEVER THE INPUT: true; the input reads as it did. -/
def fnWaitsSpec : ChangeSpec := { name := "fnWaits", fn := fun _ => fun
  | [d1, d2] => { results := [.lit (.bool true)], args := [d1, d2] }
  | _ => none }
def fnWaitsRow : OpenClaim := { program := "ythjglladgfjnfaa", sum := "69c408c02b5948eb2fc24b5a97c35022c16a0fc1282996a76be6335065b13292", func := "loop.example/g00641/laws.FnWaits", spec := "fnWaits", unfollowed := true, recurses := true, apart := false }
def FnWaitsSaid : Prop := fnWaitsRow.holds Try.pinned (OpenSpec.ofChange fnWaitsSpec)

/-- ITS FALSE NEIGHBOUR: 'it returns false'. Refute it at one input. -/
def fnWaitsWrong : ChangeSpec := { name := "fnWaits", fn := fun _ => fun
  | [d1, d2] => { results := [.lit (.bool false)], args := [d1, d2] }
  | _ => none }
def FnWaitsWrongFalsely : Prop := fnWaitsRow.holds Try.pinned (OpenSpec.ofChange fnWaitsWrong)

/- THE SECOND FORM. 'bulk': how many values and letters a reading holds, each counted each time it is reached (what is shared counts as often as it is met; a slice's spare places count too). A statement '..UptoSaid' is the law's where the arguments, and the package variables that the reading takes, are together of bulk at most 1048576: NARROWER than '..Said'. Prove '..Said' where nothing that the law and all that it calls make is longer than what came in: it says more and counts as full. Else prove '..UptoSaid'. A law counts once. -/
mutual
def uptoBulk {H : Type} : DataW H → Nat
  | .lit (.string bytes) => bytes.length + 1
  | .lit _ => 1
  | .nil => 1
  | .ptr d => uptoBulk d + 1
  | .slice elems spare => uptoBulkAll elems + uptoBulkAll spare + 1
  | .agg parts => uptoBulkAll parts + 1
  | .iface _ d => uptoBulk d + 1
  | .map entries => uptoBulkEntries entries + 1
  | .held _ => 1
def uptoBulkAll {H : Type} : List (DataW H) → Nat
  | [] => 0
  | d :: r => uptoBulk d + uptoBulkAll r
def uptoBulkEntries {H : Type} : List (Lit × DataW H) → Nat
  | [] => 0
  | x :: r => uptoBulkEntry x + uptoBulkEntries r
def uptoBulkEntry {H : Type} : Lit × DataW H → Nat
  | (.string bytes, d) => bytes.length + uptoBulk d + 1
  | (_, d) => uptoBulk d + 1
 end
def uptoSmall : (H : Type) → List (DataW H) → Bool := fun _ ds => decide (uptoBulkAll ds ≤ 1048576)
def OpenSpec.upto (s : _root_.Go.ChangeSpec) : _root_.Go.OpenSpec := { _root_.Go.OpenSpec.ofChange s with cond := some uptoSmall }

/-- 'laws.FnMeet', WHERE WHAT IT READS IS OF BULK AT MOST 1048576: true; the input reads as it did. -/
def fnMeetUptoRow : OpenClaim := { program := "ythjglladgfjnfaa", sum := "69c408c02b5948eb2fc24b5a97c35022c16a0fc1282996a76be6335065b13292", func := "loop.example/g00641/laws.FnMeet", spec := "fnMeet", unfollowed := true, recurses := true, apart := false, narrowed := true }
def FnMeetUptoSaid : Prop := fnMeetUptoRow.holds Try.pinned (OpenSpec.upto fnMeetSpec)

/-- 'laws.FnSwapped', WHERE WHAT IT READS IS OF BULK AT MOST 1048576: true; the input reads as it did. -/
def fnSwappedUptoRow : OpenClaim := { program := "ythjglladgfjnfaa", sum := "69c408c02b5948eb2fc24b5a97c35022c16a0fc1282996a76be6335065b13292", func := "loop.example/g00641/laws.FnSwapped", spec := "fnSwapped", unfollowed := true, recurses := true, apart := false, narrowed := true }
def FnSwappedUptoSaid : Prop := fnSwappedUptoRow.holds Try.pinned (OpenSpec.upto fnSwappedSpec)

/-- 'laws.FnSerial', WHERE WHAT IT READS IS OF BULK AT MOST 1048576: true; the input reads as it did. -/
def fnSerialUptoRow : OpenClaim := { program := "ythjglladgfjnfaa", sum := "69c408c02b5948eb2fc24b5a97c35022c16a0fc1282996a76be6335065b13292", func := "loop.example/g00641/laws.FnSerial", spec := "fnSerial", unfollowed := true, recurses := true, apart := false, narrowed := true }
def FnSerialUptoSaid : Prop := fnSerialUptoRow.holds Try.pinned (OpenSpec.upto fnSerialSpec)

/-- 'laws.FnExactAskLock', WHERE WHAT IT READS IS OF BULK AT MOST 1048576: true; the input reads as it did. -/
def fnExactAskLockUptoRow : OpenClaim := { program := "ythjglladgfjnfaa", sum := "69c408c02b5948eb2fc24b5a97c35022c16a0fc1282996a76be6335065b13292", func := "loop.example/g00641/laws.FnExactAskLock", spec := "fnExactAskLock", unfollowed := true, recurses := true, apart := false, narrowed := true }
def FnExactAskLockUptoSaid : Prop := fnExactAskLockUptoRow.holds Try.pinned (OpenSpec.upto fnExactAskLockSpec)

/-- 'laws.FnWaits', WHERE WHAT IT READS IS OF BULK AT MOST 1048576: true; the input reads as it did. -/
def fnWaitsUptoRow : OpenClaim := { program := "ythjglladgfjnfaa", sum := "69c408c02b5948eb2fc24b5a97c35022c16a0fc1282996a76be6335065b13292", func := "loop.example/g00641/laws.FnWaits", spec := "fnWaits", unfollowed := true, recurses := true, apart := false, narrowed := true }
def FnWaitsUptoSaid : Prop := fnWaitsUptoRow.holds Try.pinned (OpenSpec.upto fnWaitsSpec)

end Rows
end Go.Proofs.Ythjglladgfjnfaa
