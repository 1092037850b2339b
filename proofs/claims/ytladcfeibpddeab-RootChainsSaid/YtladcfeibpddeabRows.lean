/-
  No cell of these rows narrows 'for every input' (looked for: loops, veiled, ifaces, maps, wideKeys, modest, calm, conditions, laid).
  DERIVED. THE GIVEN ROWS OF THIS SEAT. 8 by the template 'for every input the law returns true; each argument reads behind the call as it read before'; 0 by the template 'total and deterministic' (their statements: YtladcfeibpddeabTotals.lean).
  GIVEN WITH THE SEED: the statements are not yours to turn. If you find one false, say at which input.
  Laid BY PROGRAM, IN A SANDBOX (cutbox-rows.mjs): the forced cells as the released guide's own fill.sh prints them over the translation 39db41813a3604da… (all of the seat's roots in one cut). By AI agents, Wed Nov 11 2026. No macro, syntax, notation, axiom, sorry.
-/
import Derived.Test.YtladcfeibpddeabChecked
import GoSem.Claim
import GoSem.ClaimJoined
import GoSem.ClaimMapViews
import Derived.JoinedTies
import Derived.KernelRfl
namespace Go.Proofs.Ytladcfeibpddeab
/- THE CELL 'sum', in the pinned program and in every row, IS THE sha256 OF THE DUMP (.gsa) THAT YtladcfeibpddeabProg.lean LOADS. Nothing in Lean hashes anything: it is a label: what it is worth is what the hold of that sum in a sandbox is worth. -/
noncomputable def Try.pinned : Pinned := { name := "ytladcfeibpddeab", sum := "39db41813a3604dad46b133e14e19f57d8d425104e89fce12963198feec7d309", checked := Try.checked }
namespace Rows
def none {H : Type} : Left H := { results := [], args := [] }

/-- 'surdlaw04.RootLists': WHATEVER THE INPUT: true; the input reads as it did. -/
def rootListsSpec : ChangeSpec := { name := "rootLists", fn := fun _ => fun
  | [d1, d2] => { results := [.lit (.bool true)], args := [d1, d2] }
  | _ => none }
def rootListsRow : OpenClaim := { program := "ytladcfeibpddeab", sum := "39db41813a3604dad46b133e14e19f57d8d425104e89fce12963198feec7d309", func := "surd/surdlaw04.RootLists", spec := "rootLists", inPlace := ["math/bits.Add64", "math/bits.Sub64"], unfollowed := true, recurses := true, named := ["math/bits.divideError", "math/bits.overflowError"], apart := false }
def RootListsSaid : Prop := rootListsRow.holds Try.pinned (OpenSpec.ofChange rootListsSpec)

/-- ITS FALSE NEIGHBOUR: 'it returns false'. Refute it at one input. -/
def rootListsWrong : ChangeSpec := { name := "rootLists", fn := fun _ => fun
  | [d1, d2] => { results := [.lit (.bool false)], args := [d1, d2] }
  | _ => none }
def RootListsWrongFalsely : Prop := rootListsRow.holds Try.pinned (OpenSpec.ofChange rootListsWrong)

/-- 'surdlaw04.RootOwn': WHATEVER THE INPUT: true; the input reads as it did. -/
def rootOwnSpec : ChangeSpec := { name := "rootOwn", fn := fun _ => fun
  | [d1, d2, d3] => { results := [.lit (.bool true)], args := [d1, d2, d3] }
  | _ => none }
def rootOwnRow : OpenClaim := { program := "ytladcfeibpddeab", sum := "39db41813a3604dad46b133e14e19f57d8d425104e89fce12963198feec7d309", func := "surd/surdlaw04.RootOwn", spec := "rootOwn", inPlace := ["math/bits.Add64", "math/bits.Sub64"], unfollowed := true, recurses := true, named := ["math/bits.divideError", "math/bits.overflowError"], apart := false }
def RootOwnSaid : Prop := rootOwnRow.holds Try.pinned (OpenSpec.ofChange rootOwnSpec)

/-- ITS FALSE NEIGHBOUR: 'it returns false'. Refute it at one input. -/
def rootOwnWrong : ChangeSpec := { name := "rootOwn", fn := fun _ => fun
  | [d1, d2, d3] => { results := [.lit (.bool false)], args := [d1, d2, d3] }
  | _ => none }
def RootOwnWrongFalsely : Prop := rootOwnRow.holds Try.pinned (OpenSpec.ofChange rootOwnWrong)

/-- 'surdlaw04.RootLogs': WHATEVER THE INPUT: true; the input reads as it did. -/
def rootLogsSpec : ChangeSpec := { name := "rootLogs", fn := fun _ => fun
  | [d1, d2] => { results := [.lit (.bool true)], args := [d1, d2] }
  | _ => none }
def rootLogsRow : OpenClaim := { program := "ytladcfeibpddeab", sum := "39db41813a3604dad46b133e14e19f57d8d425104e89fce12963198feec7d309", func := "surd/surdlaw04.RootLogs", spec := "rootLogs", inPlace := ["math/bits.Add64", "math/bits.Sub64"], unfollowed := true, recurses := true, named := ["math/bits.divideError", "math/bits.overflowError"], apart := false }
def RootLogsSaid : Prop := rootLogsRow.holds Try.pinned (OpenSpec.ofChange rootLogsSpec)

/-- ITS FALSE NEIGHBOUR: 'it returns false'. Refute it at one input. -/
def rootLogsWrong : ChangeSpec := { name := "rootLogs", fn := fun _ => fun
  | [d1, d2] => { results := [.lit (.bool false)], args := [d1, d2] }
  | _ => none }
def RootLogsWrongFalsely : Prop := rootLogsRow.holds Try.pinned (OpenSpec.ofChange rootLogsWrong)

/-- 'surdlaw04.RootOnce': WHATEVER THE INPUT: true; the input reads as it did. -/
def rootOnceSpec : ChangeSpec := { name := "rootOnce", fn := fun _ => fun
  | [d1, d2] => { results := [.lit (.bool true)], args := [d1, d2] }
  | _ => none }
def rootOnceRow : OpenClaim := { program := "ytladcfeibpddeab", sum := "39db41813a3604dad46b133e14e19f57d8d425104e89fce12963198feec7d309", func := "surd/surdlaw04.RootOnce", spec := "rootOnce", inPlace := ["math/bits.Add64", "math/bits.Sub64"], unfollowed := true, recurses := true, named := ["math/bits.divideError", "math/bits.overflowError"], apart := false }
def RootOnceSaid : Prop := rootOnceRow.holds Try.pinned (OpenSpec.ofChange rootOnceSpec)

/-- ITS FALSE NEIGHBOUR: 'it returns false'. Refute it at one input. -/
def rootOnceWrong : ChangeSpec := { name := "rootOnce", fn := fun _ => fun
  | [d1, d2] => { results := [.lit (.bool false)], args := [d1, d2] }
  | _ => none }
def RootOnceWrongFalsely : Prop := rootOnceRow.holds Try.pinned (OpenSpec.ofChange rootOnceWrong)

/-- 'surdlaw04.RootSteps': WHATEVER THE INPUT: true; the input reads as it did. -/
def rootStepsSpec : ChangeSpec := { name := "rootSteps", fn := fun _ => fun
  | [d1, d2] => { results := [.lit (.bool true)], args := [d1, d2] }
  | _ => none }
def rootStepsRow : OpenClaim := { program := "ytladcfeibpddeab", sum := "39db41813a3604dad46b133e14e19f57d8d425104e89fce12963198feec7d309", func := "surd/surdlaw04.RootSteps", spec := "rootSteps", inPlace := ["math/bits.Add64", "math/bits.Sub64"], unfollowed := true, recurses := true, named := ["math/bits.divideError", "math/bits.overflowError"], apart := false }
def RootStepsSaid : Prop := rootStepsRow.holds Try.pinned (OpenSpec.ofChange rootStepsSpec)

/-- ITS FALSE NEIGHBOUR: 'it returns false'. Refute it at one input. -/
def rootStepsWrong : ChangeSpec := { name := "rootSteps", fn := fun _ => fun
  | [d1, d2] => { results := [.lit (.bool false)], args := [d1, d2] }
  | _ => none }
def RootStepsWrongFalsely : Prop := rootStepsRow.holds Try.pinned (OpenSpec.ofChange rootStepsWrong)

/-- 'surdlaw04.RootNewton': WHATEVER THE INPUT: true; the input reads as it did. -/
def rootNewtonSpec : ChangeSpec := { name := "rootNewton", fn := fun _ => fun
  | [d1, d2] => { results := [.lit (.bool true)], args := [d1, d2] }
  | _ => none }
def rootNewtonRow : OpenClaim := { program := "ytladcfeibpddeab", sum := "39db41813a3604dad46b133e14e19f57d8d425104e89fce12963198feec7d309", func := "surd/surdlaw04.RootNewton", spec := "rootNewton", inPlace := ["math/bits.Add64", "math/bits.Sub64"], unfollowed := true, recurses := true, named := ["math/bits.divideError", "math/bits.overflowError"], apart := false }
def RootNewtonSaid : Prop := rootNewtonRow.holds Try.pinned (OpenSpec.ofChange rootNewtonSpec)

/-- ITS FALSE NEIGHBOUR: 'it returns false'. Refute it at one input. -/
def rootNewtonWrong : ChangeSpec := { name := "rootNewton", fn := fun _ => fun
  | [d1, d2] => { results := [.lit (.bool false)], args := [d1, d2] }
  | _ => none }
def RootNewtonWrongFalsely : Prop := rootNewtonRow.holds Try.pinned (OpenSpec.ofChange rootNewtonWrong)

/-- 'surdlaw04.RootChains': WHATEVER THE INPUT: true; the input reads as it did. -/
def rootChainsSpec : ChangeSpec := { name := "rootChains", fn := fun _ => fun
  | [d] => { results := [.lit (.bool true)], args := [d] }
  | _ => none }
def rootChainsRow : OpenClaim := { program := "ytladcfeibpddeab", sum := "39db41813a3604dad46b133e14e19f57d8d425104e89fce12963198feec7d309", func := "surd/surdlaw04.RootChains", spec := "rootChains", inPlace := ["math/bits.Add64", "math/bits.Sub64"], unfollowed := true, recurses := true, named := ["math/bits.divideError", "math/bits.overflowError"], apart := false }
def RootChainsSaid : Prop := rootChainsRow.holds Try.pinned (OpenSpec.ofChange rootChainsSpec)

/-- ITS FALSE NEIGHBOUR: 'it returns false'. Refute it at one input. -/
def rootChainsWrong : ChangeSpec := { name := "rootChains", fn := fun _ => fun
  | [d] => { results := [.lit (.bool false)], args := [d] }
  | _ => none }
def RootChainsWrongFalsely : Prop := rootChainsRow.holds Try.pinned (OpenSpec.ofChange rootChainsWrong)

/-- 'surdlaw04.RootPell': WHATEVER THE INPUT: true; the input reads as it did. -/
def rootPellSpec : ChangeSpec := { name := "rootPell", fn := fun _ => fun
  | [d] => { results := [.lit (.bool true)], args := [d] }
  | _ => none }
def rootPellRow : OpenClaim := { program := "ytladcfeibpddeab", sum := "39db41813a3604dad46b133e14e19f57d8d425104e89fce12963198feec7d309", func := "surd/surdlaw04.RootPell", spec := "rootPell", inPlace := ["math/bits.Add64", "math/bits.Sub64"], unfollowed := true, recurses := true, named := ["math/bits.divideError", "math/bits.overflowError"], apart := false }
def RootPellSaid : Prop := rootPellRow.holds Try.pinned (OpenSpec.ofChange rootPellSpec)

/-- ITS FALSE NEIGHBOUR: 'it returns false'. Refute it at one input. -/
def rootPellWrong : ChangeSpec := { name := "rootPell", fn := fun _ => fun
  | [d] => { results := [.lit (.bool false)], args := [d] }
  | _ => none }
def RootPellWrongFalsely : Prop := rootPellRow.holds Try.pinned (OpenSpec.ofChange rootPellWrong)

/- THE SECOND FORM. 'bulk': how many values and letters a reading holds, each counted each time it is reached (what is shared counts as often as it is met; a slice's spare places count too). A statement '..UptoSaid' is the law's where the arguments, and the package variables that the reading takes, are together of bulk at most 1048576: NARROWER than '..Said'. Prove '..Said' where nothing that the law and all that it calls make is longer than what came in: it says more and counts as full. Else prove '..UptoSaid'. A law counts once. -/
mutual
def uptoBulk {H : Type} : DataW H → Nat
  | .lit (.string bytes) => bytes.length + 1
  | .lit _ => 1
  | .nil => 1
  | .ptr d => uptoBulk d + 1
  | .slice elems spare => uptoBulkAll elems + uptoBulkAll spare + 1
  | .agg parts => uptoBulkAll parts + 1
  | .iface _ d => uptoBulk d + 1
  | .map entries => uptoBulkEntries entries + 1
  | .held _ => 1
def uptoBulkAll {H : Type} : List (DataW H) → Nat
  | [] => 0
  | d :: r => uptoBulk d + uptoBulkAll r
def uptoBulkEntries {H : Type} : List (Lit × DataW H) → Nat
  | [] => 0
  | x :: r => uptoBulkEntry x + uptoBulkEntries r
def uptoBulkEntry {H : Type} : Lit × DataW H → Nat
  | (.string bytes, d) => bytes.length + uptoBulk d + 1
  | (_, d) => uptoBulk d + 1
 end
def uptoSmall : (H : Type) → List (DataW H) → Bool := fun _ ds => decide (uptoBulkAll ds ≤ 1048576)
def OpenSpec.upto (s : _root_.Go.ChangeSpec) : _root_.Go.OpenSpec := { _root_.Go.OpenSpec.ofChange s with cond := some uptoSmall }

/-- 'surdlaw04.RootLists', WHERE WHAT IT READS IS OF BULK AT MOST 1048576: true; the input reads as it did. -/
def rootListsUptoRow : OpenClaim := { program := "ytladcfeibpddeab", sum := "39db41813a3604dad46b133e14e19f57d8d425104e89fce12963198feec7d309", func := "surd/surdlaw04.RootLists", spec := "rootLists", inPlace := ["math/bits.Add64", "math/bits.Sub64"], unfollowed := true, recurses := true, named := ["math/bits.divideError", "math/bits.overflowError"], apart := false, narrowed := true }
def RootListsUptoSaid : Prop := rootListsUptoRow.holds Try.pinned (OpenSpec.upto rootListsSpec)

/-- 'surdlaw04.RootOwn', WHERE WHAT IT READS IS OF BULK AT MOST 1048576: true; the input reads as it did. -/
def rootOwnUptoRow : OpenClaim := { program := "ytladcfeibpddeab", sum := "39db41813a3604dad46b133e14e19f57d8d425104e89fce12963198feec7d309", func := "surd/surdlaw04.RootOwn", spec := "rootOwn", inPlace := ["math/bits.Add64", "math/bits.Sub64"], unfollowed := true, recurses := true, named := ["math/bits.divideError", "math/bits.overflowError"], apart := false, narrowed := true }
def RootOwnUptoSaid : Prop := rootOwnUptoRow.holds Try.pinned (OpenSpec.upto rootOwnSpec)

/-- 'surdlaw04.RootLogs', WHERE WHAT IT READS IS OF BULK AT MOST 1048576: true; the input reads as it did. -/
def rootLogsUptoRow : OpenClaim := { program := "ytladcfeibpddeab", sum := "39db41813a3604dad46b133e14e19f57d8d425104e89fce12963198feec7d309", func := "surd/surdlaw04.RootLogs", spec := "rootLogs", inPlace := ["math/bits.Add64", "math/bits.Sub64"], unfollowed := true, recurses := true, named := ["math/bits.divideError", "math/bits.overflowError"], apart := false, narrowed := true }
def RootLogsUptoSaid : Prop := rootLogsUptoRow.holds Try.pinned (OpenSpec.upto rootLogsSpec)

/-- 'surdlaw04.RootOnce', WHERE WHAT IT READS IS OF BULK AT MOST 1048576: true; the input reads as it did. -/
def rootOnceUptoRow : OpenClaim := { program := "ytladcfeibpddeab", sum := "39db41813a3604dad46b133e14e19f57d8d425104e89fce12963198feec7d309", func := "surd/surdlaw04.RootOnce", spec := "rootOnce", inPlace := ["math/bits.Add64", "math/bits.Sub64"], unfollowed := true, recurses := true, named := ["math/bits.divideError", "math/bits.overflowError"], apart := false, narrowed := true }
def RootOnceUptoSaid : Prop := rootOnceUptoRow.holds Try.pinned (OpenSpec.upto rootOnceSpec)

/-- 'surdlaw04.RootSteps', WHERE WHAT IT READS IS OF BULK AT MOST 1048576: true; the input reads as it did. -/
def rootStepsUptoRow : OpenClaim := { program := "ytladcfeibpddeab", sum := "39db41813a3604dad46b133e14e19f57d8d425104e89fce12963198feec7d309", func := "surd/surdlaw04.RootSteps", spec := "rootSteps", inPlace := ["math/bits.Add64", "math/bits.Sub64"], unfollowed := true, recurses := true, named := ["math/bits.divideError", "math/bits.overflowError"], apart := false, narrowed := true }
def RootStepsUptoSaid : Prop := rootStepsUptoRow.holds Try.pinned (OpenSpec.upto rootStepsSpec)

/-- 'surdlaw04.RootNewton', WHERE WHAT IT READS IS OF BULK AT MOST 1048576: true; the input reads as it did. -/
def rootNewtonUptoRow : OpenClaim := { program := "ytladcfeibpddeab", sum := "39db41813a3604dad46b133e14e19f57d8d425104e89fce12963198feec7d309", func := "surd/surdlaw04.RootNewton", spec := "rootNewton", inPlace := ["math/bits.Add64", "math/bits.Sub64"], unfollowed := true, recurses := true, named := ["math/bits.divideError", "math/bits.overflowError"], apart := false, narrowed := true }
def RootNewtonUptoSaid : Prop := rootNewtonUptoRow.holds Try.pinned (OpenSpec.upto rootNewtonSpec)

/-- 'surdlaw04.RootChains', WHERE WHAT IT READS IS OF BULK AT MOST 1048576: true; the input reads as it did. -/
def rootChainsUptoRow : OpenClaim := { program := "ytladcfeibpddeab", sum := "39db41813a3604dad46b133e14e19f57d8d425104e89fce12963198feec7d309", func := "surd/surdlaw04.RootChains", spec := "rootChains", inPlace := ["math/bits.Add64", "math/bits.Sub64"], unfollowed := true, recurses := true, named := ["math/bits.divideError", "math/bits.overflowError"], apart := false, narrowed := true }
def RootChainsUptoSaid : Prop := rootChainsUptoRow.holds Try.pinned (OpenSpec.upto rootChainsSpec)

/-- 'surdlaw04.RootPell', WHERE WHAT IT READS IS OF BULK AT MOST 1048576: true; the input reads as it did. -/
def rootPellUptoRow : OpenClaim := { program := "ytladcfeibpddeab", sum := "39db41813a3604dad46b133e14e19f57d8d425104e89fce12963198feec7d309", func := "surd/surdlaw04.RootPell", spec := "rootPell", inPlace := ["math/bits.Add64", "math/bits.Sub64"], unfollowed := true, recurses := true, named := ["math/bits.divideError", "math/bits.overflowError"], apart := false, narrowed := true }
def RootPellUptoSaid : Prop := rootPellUptoRow.holds Try.pinned (OpenSpec.upto rootPellSpec)

end Rows
end Go.Proofs.Ytladcfeibpddeab
