/-
  No cell of these rows narrows 'for every input' (looked for: loops, veiled, ifaces, maps, wideKeys, modest, calm, conditions, laid).
  DERIVED. THE GIVEN ROWS OF THIS SEAT. 5 by the template 'for every input the law returns true; each argument reads behind the call as it read before'; 0 by the template 'total and deterministic' (their statements: YtimfpkiknmnnmaaTotals.lean).
  GIVEN WITH THE SEED: the statements are not yours to turn. If you find one false, say at which input.
  Laid BY PROGRAM, IN A SANDBOX (cutbox-rows.mjs): the forced cells as the released guide's own fill.sh prints them over the translation a82e4d5787ef9632… (all of the seat's roots in one cut). By AI agents, Wed Nov 11 2026. No macro, syntax, notation, axiom, sorry.
-/
import Derived.Test.YtimfpkiknmnnmaaChecked
import GoSem.Claim
import GoSem.ClaimJoined
import GoSem.ClaimMapViews
import Derived.JoinedTies
import Derived.KernelRfl
namespace Go.Proofs.Ytimfpkiknmnnmaa
/- THE CELL 'sum', in the pinned program and in every row, IS THE sha256 OF THE DUMP (.gsa) THAT YtimfpkiknmnnmaaProg.lean LOADS. Nothing in Lean hashes anything: it is a label: what it is worth is what the hold of that sum in a sandbox is worth. -/
noncomputable def Try.pinned : Pinned := { name := "ytimfpkiknmnnmaa", sum := "a82e4d5787ef9632a4e462f7b401eddb9b2440b7ac35b6663b55ae64391238de", checked := Try.checked }
namespace Rows
def none {H : Type} : Left H := { results := [], args := [] }

/-- 'hauberklaw18.GatherHears': WHATEVER THE INPUT: true; the input reads as it did. -/
def gatherHearsSpec : ChangeSpec := { name := "gatherHears", fn := fun _ => fun
  | [d1, d2, d3] => { results := [.lit (.bool true)], args := [d1, d2, d3] }
  | _ => none }
def gatherHearsRow : OpenClaim := { program := "ytimfpkiknmnnmaa", sum := "a82e4d5787ef9632a4e462f7b401eddb9b2440b7ac35b6663b55ae64391238de", func := "hauberk/hauberklaw18.GatherHears", spec := "gatherHears", apart := false }
def GatherHearsSaid : Prop := gatherHearsRow.holds Try.pinned (OpenSpec.ofChange gatherHearsSpec)

/-- ITS FALSE NEIGHBOUR: 'it returns false'. Refute it at one input. -/
def gatherHearsWrong : ChangeSpec := { name := "gatherHears", fn := fun _ => fun
  | [d1, d2, d3] => { results := [.lit (.bool false)], args := [d1, d2, d3] }
  | _ => none }
def GatherHearsWrongFalsely : Prop := gatherHearsRow.holds Try.pinned (OpenSpec.ofChange gatherHearsWrong)

/-- 'hauberklaw18.GatherGrows': WHATEVER THE INPUT: true; the input reads as it did. -/
def gatherGrowsSpec : ChangeSpec := { name := "gatherGrows", fn := fun _ => fun
  | [d1, d2] => { results := [.lit (.bool true)], args := [d1, d2] }
  | _ => none }
def gatherGrowsRow : OpenClaim := { program := "ytimfpkiknmnnmaa", sum := "a82e4d5787ef9632a4e462f7b401eddb9b2440b7ac35b6663b55ae64391238de", func := "hauberk/hauberklaw18.GatherGrows", spec := "gatherGrows", apart := false }
def GatherGrowsSaid : Prop := gatherGrowsRow.holds Try.pinned (OpenSpec.ofChange gatherGrowsSpec)

/-- ITS FALSE NEIGHBOUR: 'it returns false'. Refute it at one input. -/
def gatherGrowsWrong : ChangeSpec := { name := "gatherGrows", fn := fun _ => fun
  | [d1, d2] => { results := [.lit (.bool false)], args := [d1, d2] }
  | _ => none }
def GatherGrowsWrongFalsely : Prop := gatherGrowsRow.holds Try.pinned (OpenSpec.ofChange gatherGrowsWrong)

/-- 'hauberklaw18.GatherBoth': WHATEVER THE INPUT: true; the input reads as it did. -/
def gatherBothSpec : ChangeSpec := { name := "gatherBoth", fn := fun _ => fun
  | [d] => { results := [.lit (.bool true)], args := [d] }
  | _ => none }
def gatherBothRow : OpenClaim := { program := "ytimfpkiknmnnmaa", sum := "a82e4d5787ef9632a4e462f7b401eddb9b2440b7ac35b6663b55ae64391238de", func := "hauberk/hauberklaw18.GatherBoth", spec := "gatherBoth", apart := false }
def GatherBothSaid : Prop := gatherBothRow.holds Try.pinned (OpenSpec.ofChange gatherBothSpec)

/-- ITS FALSE NEIGHBOUR: 'it returns false'. Refute it at one input. -/
def gatherBothWrong : ChangeSpec := { name := "gatherBoth", fn := fun _ => fun
  | [d] => { results := [.lit (.bool false)], args := [d] }
  | _ => none }
def GatherBothWrongFalsely : Prop := gatherBothRow.holds Try.pinned (OpenSpec.ofChange gatherBothWrong)

/-- 'hauberklaw18.GatherAgain': WHATEVER THE INPUT: true; the input reads as it did. -/
def gatherAgainSpec : ChangeSpec := { name := "gatherAgain", fn := fun _ => fun
  | [d1, d2] => { results := [.lit (.bool true)], args := [d1, d2] }
  | _ => none }
def gatherAgainRow : OpenClaim := { program := "ytimfpkiknmnnmaa", sum := "a82e4d5787ef9632a4e462f7b401eddb9b2440b7ac35b6663b55ae64391238de", func := "hauberk/hauberklaw18.GatherAgain", spec := "gatherAgain", apart := false }
def GatherAgainSaid : Prop := gatherAgainRow.holds Try.pinned (OpenSpec.ofChange gatherAgainSpec)

/-- ITS FALSE NEIGHBOUR: 'it returns false'. Refute it at one input. -/
def gatherAgainWrong : ChangeSpec := { name := "gatherAgain", fn := fun _ => fun
  | [d1, d2] => { results := [.lit (.bool false)], args := [d1, d2] }
  | _ => none }
def GatherAgainWrongFalsely : Prop := gatherAgainRow.holds Try.pinned (OpenSpec.ofChange gatherAgainWrong)

/-- 'hauberklaw18.GatherKnown': WHATEVER THE INPUT: true; the input reads as it did. -/
def gatherKnownSpec : ChangeSpec := { name := "gatherKnown", fn := fun _ => fun
  | [] => { results := [.lit (.bool true)], args := [] }
  | _ => none }
def gatherKnownRow : OpenClaim := { program := "ytimfpkiknmnnmaa", sum := "a82e4d5787ef9632a4e462f7b401eddb9b2440b7ac35b6663b55ae64391238de", func := "hauberk/hauberklaw18.GatherKnown", spec := "gatherKnown", apart := false }
def GatherKnownSaid : Prop := gatherKnownRow.holds Try.pinned (OpenSpec.ofChange gatherKnownSpec)

/-- ITS FALSE NEIGHBOUR: 'it returns false'. Refute it at one input. -/
def gatherKnownWrong : ChangeSpec := { name := "gatherKnown", fn := fun _ => fun
  | [] => { results := [.lit (.bool false)], args := [] }
  | _ => none }
def GatherKnownWrongFalsely : Prop := gatherKnownRow.holds Try.pinned (OpenSpec.ofChange gatherKnownWrong)

/- THE SECOND FORM. 'bulk': how many values and letters a reading holds, each counted each time it is reached (what is shared counts as often as it is met; a slice's spare places count too). A statement '..UptoSaid' is the law's where the arguments, and the package variables that the reading takes, are together of bulk at most 1048576: NARROWER than '..Said'. Prove '..Said' where nothing that the law and all that it calls make is longer than what came in: it says more and counts as full. Else prove '..UptoSaid'. A law counts once. -/
mutual
def uptoBulk {H : Type} : DataW H → Nat
  | .lit (.string bytes) => bytes.length + 1
  | .lit _ => 1
  | .nil => 1
  | .ptr d => uptoBulk d + 1
  | .slice elems spare => uptoBulkAll elems + uptoBulkAll spare + 1
  | .agg parts => uptoBulkAll parts + 1
  | .iface _ d => uptoBulk d + 1
  | .map entries => uptoBulkEntries entries + 1
  | .held _ => 1
def uptoBulkAll {H : Type} : List (DataW H) → Nat
  | [] => 0
  | d :: r => uptoBulk d + uptoBulkAll r
def uptoBulkEntries {H : Type} : List (Lit × DataW H) → Nat
  | [] => 0
  | x :: r => uptoBulkEntry x + uptoBulkEntries r
def uptoBulkEntry {H : Type} : Lit × DataW H → Nat
  | (.string bytes, d) => bytes.length + uptoBulk d + 1
  | (_, d) => uptoBulk d + 1
 end
def uptoSmall : (H : Type) → List (DataW H) → Bool := fun _ ds => decide (uptoBulkAll ds ≤ 1048576)
def OpenSpec.upto (s : _root_.Go.ChangeSpec) : _root_.Go.OpenSpec := { _root_.Go.OpenSpec.ofChange s with cond := some uptoSmall }

/-- 'hauberklaw18.GatherHears', WHERE WHAT IT READS IS OF BULK AT MOST 1048576: true; the input reads as it did. -/
def gatherHearsUptoRow : OpenClaim := { program := "ytimfpkiknmnnmaa", sum := "a82e4d5787ef9632a4e462f7b401eddb9b2440b7ac35b6663b55ae64391238de", func := "hauberk/hauberklaw18.GatherHears", spec := "gatherHears", apart := false, narrowed := true }
def GatherHearsUptoSaid : Prop := gatherHearsUptoRow.holds Try.pinned (OpenSpec.upto gatherHearsSpec)

/-- 'hauberklaw18.GatherGrows', WHERE WHAT IT READS IS OF BULK AT MOST 1048576: true; the input reads as it did. -/
def gatherGrowsUptoRow : OpenClaim := { program := "ytimfpkiknmnnmaa", sum := "a82e4d5787ef9632a4e462f7b401eddb9b2440b7ac35b6663b55ae64391238de", func := "hauberk/hauberklaw18.GatherGrows", spec := "gatherGrows", apart := false, narrowed := true }
def GatherGrowsUptoSaid : Prop := gatherGrowsUptoRow.holds Try.pinned (OpenSpec.upto gatherGrowsSpec)

/-- 'hauberklaw18.GatherBoth', WHERE WHAT IT READS IS OF BULK AT MOST 1048576: true; the input reads as it did. -/
def gatherBothUptoRow : OpenClaim := { program := "ytimfpkiknmnnmaa", sum := "a82e4d5787ef9632a4e462f7b401eddb9b2440b7ac35b6663b55ae64391238de", func := "hauberk/hauberklaw18.GatherBoth", spec := "gatherBoth", apart := false, narrowed := true }
def GatherBothUptoSaid : Prop := gatherBothUptoRow.holds Try.pinned (OpenSpec.upto gatherBothSpec)

/-- 'hauberklaw18.GatherAgain', WHERE WHAT IT READS IS OF BULK AT MOST 1048576: true; the input reads as it did. -/
def gatherAgainUptoRow : OpenClaim := { program := "ytimfpkiknmnnmaa", sum := "a82e4d5787ef9632a4e462f7b401eddb9b2440b7ac35b6663b55ae64391238de", func := "hauberk/hauberklaw18.GatherAgain", spec := "gatherAgain", apart := false, narrowed := true }
def GatherAgainUptoSaid : Prop := gatherAgainUptoRow.holds Try.pinned (OpenSpec.upto gatherAgainSpec)

/-- 'hauberklaw18.GatherKnown', WHERE WHAT IT READS IS OF BULK AT MOST 1048576: true; the input reads as it did. -/
def gatherKnownUptoRow : OpenClaim := { program := "ytimfpkiknmnnmaa", sum := "a82e4d5787ef9632a4e462f7b401eddb9b2440b7ac35b6663b55ae64391238de", func := "hauberk/hauberklaw18.GatherKnown", spec := "gatherKnown", apart := false, narrowed := true }
def GatherKnownUptoSaid : Prop := gatherKnownUptoRow.holds Try.pinned (OpenSpec.upto gatherKnownSpec)

end Rows
end Go.Proofs.Ytimfpkiknmnnmaa
