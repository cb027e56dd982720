/-
  No cell of these rows narrows 'for every input' (looked for: loops, veiled, ifaces, maps, wideKeys, modest, calm, conditions, laid).
  DERIVED. THE GIVEN ROWS OF THIS SEAT. 5 by the template 'for every input the law returns true; each argument reads behind the call as it read before'; 0 by the template 'total and deterministic' (their statements: YtecngibenlcdiaaTotals.lean).
  GIVEN WITH THE SEED: the statements are not yours to turn. If you find one false, say at which input.
  Laid BY PROGRAM, IN A SANDBOX (cutbox-rows.mjs): the forced cells as the released guide's own fill.sh prints them over the translation 3f74a8ff65326bfc… (all of the seat's roots in one cut). By AI agents, Wed Nov 11 2026. No macro, syntax, notation, axiom, sorry.
-/
import Derived.Test.YtecngibenlcdiaaChecked
import GoSem.Claim
import GoSem.ClaimJoined
import GoSem.ClaimMapViews
import Derived.JoinedTies
import Derived.KernelRfl
namespace Go.Proofs.Ytecngibenlcdiaa
/- THE CELL 'sum', in the pinned program and in every row, IS THE sha256 OF THE DUMP (.gsa) THAT YtecngibenlcdiaaProg.lean LOADS. Nothing in Lean hashes anything: it is a label: what it is worth is what the hold of that sum in a sandbox is worth. -/
noncomputable def Try.pinned : Pinned := { name := "ytecngibenlcdiaa", sum := "3f74a8ff65326bfcc3544014dbb6fe8f680633f96e98f4df8b1b522fb2fccfd6", checked := Try.checked }
namespace Rows
def none {H : Type} : Left H := { results := [], args := [] }

/-- 'hauberklaw19.CommitSteps': WHATEVER THE INPUT: true; the input reads as it did. -/
def commitStepsSpec : ChangeSpec := { name := "commitSteps", fn := fun _ => fun
  | [d1, d2, d3] => { results := [.lit (.bool true)], args := [d1, d2, d3] }
  | _ => none }
def commitStepsRow : OpenClaim := { program := "ytecngibenlcdiaa", sum := "3f74a8ff65326bfcc3544014dbb6fe8f680633f96e98f4df8b1b522fb2fccfd6", func := "hauberk/hauberklaw19.CommitSteps", spec := "commitSteps", unfollowed := true, recurses := true, apart := false }
def CommitStepsSaid : Prop := commitStepsRow.holds Try.pinned (OpenSpec.ofChange commitStepsSpec)

/-- ITS FALSE NEIGHBOUR: 'it returns false'. Refute it at one input. -/
def commitStepsWrong : ChangeSpec := { name := "commitSteps", fn := fun _ => fun
  | [d1, d2, d3] => { results := [.lit (.bool false)], args := [d1, d2, d3] }
  | _ => none }
def CommitStepsWrongFalsely : Prop := commitStepsRow.holds Try.pinned (OpenSpec.ofChange commitStepsWrong)

/-- 'hauberklaw19.CommitKnows': WHATEVER THE INPUT: true; the input reads as it did. -/
def commitKnowsSpec : ChangeSpec := { name := "commitKnows", fn := fun _ => fun
  | [d1, d2] => { results := [.lit (.bool true)], args := [d1, d2] }
  | _ => none }
def commitKnowsRow : OpenClaim := { program := "ytecngibenlcdiaa", sum := "3f74a8ff65326bfcc3544014dbb6fe8f680633f96e98f4df8b1b522fb2fccfd6", func := "hauberk/hauberklaw19.CommitKnows", spec := "commitKnows", unfollowed := true, recurses := true, apart := false }
def CommitKnowsSaid : Prop := commitKnowsRow.holds Try.pinned (OpenSpec.ofChange commitKnowsSpec)

/-- ITS FALSE NEIGHBOUR: 'it returns false'. Refute it at one input. -/
def commitKnowsWrong : ChangeSpec := { name := "commitKnows", fn := fun _ => fun
  | [d1, d2] => { results := [.lit (.bool false)], args := [d1, d2] }
  | _ => none }
def CommitKnowsWrongFalsely : Prop := commitKnowsRow.holds Try.pinned (OpenSpec.ofChange commitKnowsWrong)

/-- 'hauberklaw19.CommitRound': WHATEVER THE INPUT: true; the input reads as it did. -/
def commitRoundSpec : ChangeSpec := { name := "commitRound", fn := fun _ => fun
  | [d1, d2] => { results := [.lit (.bool true)], args := [d1, d2] }
  | _ => none }
def commitRoundRow : OpenClaim := { program := "ytecngibenlcdiaa", sum := "3f74a8ff65326bfcc3544014dbb6fe8f680633f96e98f4df8b1b522fb2fccfd6", func := "hauberk/hauberklaw19.CommitRound", spec := "commitRound", unfollowed := true, recurses := true, apart := false }
def CommitRoundSaid : Prop := commitRoundRow.holds Try.pinned (OpenSpec.ofChange commitRoundSpec)

/-- ITS FALSE NEIGHBOUR: 'it returns false'. Refute it at one input. -/
def commitRoundWrong : ChangeSpec := { name := "commitRound", fn := fun _ => fun
  | [d1, d2] => { results := [.lit (.bool false)], args := [d1, d2] }
  | _ => none }
def CommitRoundWrongFalsely : Prop := commitRoundRow.holds Try.pinned (OpenSpec.ofChange commitRoundWrong)

/-- 'hauberklaw19.CommitKin': WHATEVER THE INPUT: true; the input reads as it did. -/
def commitKinSpec : ChangeSpec := { name := "commitKin", fn := fun _ => fun
  | [d] => { results := [.lit (.bool true)], args := [d] }
  | _ => none }
def commitKinRow : OpenClaim := { program := "ytecngibenlcdiaa", sum := "3f74a8ff65326bfcc3544014dbb6fe8f680633f96e98f4df8b1b522fb2fccfd6", func := "hauberk/hauberklaw19.CommitKin", spec := "commitKin", unfollowed := true, recurses := true, apart := false }
def CommitKinSaid : Prop := commitKinRow.holds Try.pinned (OpenSpec.ofChange commitKinSpec)

/-- ITS FALSE NEIGHBOUR: 'it returns false'. Refute it at one input. -/
def commitKinWrong : ChangeSpec := { name := "commitKin", fn := fun _ => fun
  | [d] => { results := [.lit (.bool false)], args := [d] }
  | _ => none }
def CommitKinWrongFalsely : Prop := commitKinRow.holds Try.pinned (OpenSpec.ofChange commitKinWrong)

/-- 'hauberklaw19.CommitNames': WHATEVER THE INPUT: true; the input reads as it did. -/
def commitNamesSpec : ChangeSpec := { name := "commitNames", fn := fun _ => fun
  | [] => { results := [.lit (.bool true)], args := [] }
  | _ => none }
def commitNamesRow : OpenClaim := { program := "ytecngibenlcdiaa", sum := "3f74a8ff65326bfcc3544014dbb6fe8f680633f96e98f4df8b1b522fb2fccfd6", func := "hauberk/hauberklaw19.CommitNames", spec := "commitNames", unfollowed := true, recurses := true, apart := false }
def CommitNamesSaid : Prop := commitNamesRow.holds Try.pinned (OpenSpec.ofChange commitNamesSpec)

/-- ITS FALSE NEIGHBOUR: 'it returns false'. Refute it at one input. -/
def commitNamesWrong : ChangeSpec := { name := "commitNames", fn := fun _ => fun
  | [] => { results := [.lit (.bool false)], args := [] }
  | _ => none }
def CommitNamesWrongFalsely : Prop := commitNamesRow.holds Try.pinned (OpenSpec.ofChange commitNamesWrong)

/- THE SECOND FORM. 'bulk': how many values and letters a reading holds, each counted each time it is reached (what is shared counts as often as it is met; a slice's spare places count too). A statement '..UptoSaid' is the law's where the arguments, and the package variables that the reading takes, are together of bulk at most 1048576: NARROWER than '..Said'. Prove '..Said' where nothing that the law and all that it calls make is longer than what came in: it says more and counts as full. Else prove '..UptoSaid'. A law counts once. -/
mutual
def uptoBulk {H : Type} : DataW H → Nat
  | .lit (.string bytes) => bytes.length + 1
  | .lit _ => 1
  | .nil => 1
  | .ptr d => uptoBulk d + 1
  | .slice elems spare => uptoBulkAll elems + uptoBulkAll spare + 1
  | .agg parts => uptoBulkAll parts + 1
  | .iface _ d => uptoBulk d + 1
  | .map entries => uptoBulkEntries entries + 1
  | .held _ => 1
def uptoBulkAll {H : Type} : List (DataW H) → Nat
  | [] => 0
  | d :: r => uptoBulk d + uptoBulkAll r
def uptoBulkEntries {H : Type} : List (Lit × DataW H) → Nat
  | [] => 0
  | x :: r => uptoBulkEntry x + uptoBulkEntries r
def uptoBulkEntry {H : Type} : Lit × DataW H → Nat
  | (.string bytes, d) => bytes.length + uptoBulk d + 1
  | (_, d) => uptoBulk d + 1
 end
def uptoSmall : (H : Type) → List (DataW H) → Bool := fun _ ds => decide (uptoBulkAll ds ≤ 1048576)
def OpenSpec.upto (s : _root_.Go.ChangeSpec) : _root_.Go.OpenSpec := { _root_.Go.OpenSpec.ofChange s with cond := some uptoSmall }

/-- 'hauberklaw19.CommitSteps', WHERE WHAT IT READS IS OF BULK AT MOST 1048576: true; the input reads as it did. -/
def commitStepsUptoRow : OpenClaim := { program := "ytecngibenlcdiaa", sum := "3f74a8ff65326bfcc3544014dbb6fe8f680633f96e98f4df8b1b522fb2fccfd6", func := "hauberk/hauberklaw19.CommitSteps", spec := "commitSteps", unfollowed := true, recurses := true, apart := false, narrowed := true }
def CommitStepsUptoSaid : Prop := commitStepsUptoRow.holds Try.pinned (OpenSpec.upto commitStepsSpec)

/-- 'hauberklaw19.CommitKnows', WHERE WHAT IT READS IS OF BULK AT MOST 1048576: true; the input reads as it did. -/
def commitKnowsUptoRow : OpenClaim := { program := "ytecngibenlcdiaa", sum := "3f74a8ff65326bfcc3544014dbb6fe8f680633f96e98f4df8b1b522fb2fccfd6", func := "hauberk/hauberklaw19.CommitKnows", spec := "commitKnows", unfollowed := true, recurses := true, apart := false, narrowed := true }
def CommitKnowsUptoSaid : Prop := commitKnowsUptoRow.holds Try.pinned (OpenSpec.upto commitKnowsSpec)

/-- 'hauberklaw19.CommitRound', WHERE WHAT IT READS IS OF BULK AT MOST 1048576: true; the input reads as it did. -/
def commitRoundUptoRow : OpenClaim := { program := "ytecngibenlcdiaa", sum := "3f74a8ff65326bfcc3544014dbb6fe8f680633f96e98f4df8b1b522fb2fccfd6", func := "hauberk/hauberklaw19.CommitRound", spec := "commitRound", unfollowed := true, recurses := true, apart := false, narrowed := true }
def CommitRoundUptoSaid : Prop := commitRoundUptoRow.holds Try.pinned (OpenSpec.upto commitRoundSpec)

/-- 'hauberklaw19.CommitKin', WHERE WHAT IT READS IS OF BULK AT MOST 1048576: true; the input reads as it did. -/
def commitKinUptoRow : OpenClaim := { program := "ytecngibenlcdiaa", sum := "3f74a8ff65326bfcc3544014dbb6fe8f680633f96e98f4df8b1b522fb2fccfd6", func := "hauberk/hauberklaw19.CommitKin", spec := "commitKin", unfollowed := true, recurses := true, apart := false, narrowed := true }
def CommitKinUptoSaid : Prop := commitKinUptoRow.holds Try.pinned (OpenSpec.upto commitKinSpec)

/-- 'hauberklaw19.CommitNames', WHERE WHAT IT READS IS OF BULK AT MOST 1048576: true; the input reads as it did. -/
def commitNamesUptoRow : OpenClaim := { program := "ytecngibenlcdiaa", sum := "3f74a8ff65326bfcc3544014dbb6fe8f680633f96e98f4df8b1b522fb2fccfd6", func := "hauberk/hauberklaw19.CommitNames", spec := "commitNames", unfollowed := true, recurses := true, apart := false, narrowed := true }
def CommitNamesUptoSaid : Prop := commitNamesUptoRow.holds Try.pinned (OpenSpec.upto commitNamesSpec)

end Rows
end Go.Proofs.Ytecngibenlcdiaa
