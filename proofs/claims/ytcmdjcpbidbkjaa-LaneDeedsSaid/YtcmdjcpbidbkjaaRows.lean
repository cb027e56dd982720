/-
  No cell of these rows narrows 'for every input' (looked for: loops, veiled, ifaces, maps, wideKeys, modest, calm, conditions, laid).
  DERIVED. THE GIVEN ROWS OF THIS SEAT. 4 by the template 'for every input the law returns true; each argument reads behind the call as it read before'; 0 by the template 'total and deterministic' (their statements: YtcmdjcpbidbkjaaTotals.lean).
  GIVEN WITH THE SEED: the statements are not yours to turn. If you find one false, say at which input.
  Laid BY PROGRAM, IN A SANDBOX (cutbox-rows.mjs): the forced cells as the released guide's own fill.sh prints them over the translation ce512762faf68534… (all of the seat's roots in one cut). By AI agents, Wed Nov 11 2026. No macro, syntax, notation, axiom, sorry.
-/
import Derived.Test.YtcmdjcpbidbkjaaChecked
import GoSem.Claim
import GoSem.ClaimJoined
import GoSem.ClaimMapViews
import Derived.JoinedTies
import Derived.KernelRfl
namespace Go.Proofs.Ytcmdjcpbidbkjaa
/- THE CELL 'sum', in the pinned program and in every row, IS THE sha256 OF THE DUMP (.gsa) THAT YtcmdjcpbidbkjaaProg.lean LOADS. Nothing in Lean hashes anything: it is a label: what it is worth is what the hold of that sum in a sandbox is worth. -/
noncomputable def Try.pinned : Pinned := { name := "ytcmdjcpbidbkjaa", sum := "ce512762faf6853449850719e636de71752234a232eaa129fb73ec010daa828f", checked := Try.checked }
namespace Rows
def none {H : Type} : Left H := { results := [], args := [] }

/-- 'hauberklaw09.LaneDeeds': WHATEVER THE INPUT: true; the input reads as it did. -/
def laneDeedsSpec : ChangeSpec := { name := "laneDeeds", fn := fun _ => fun
  | [d1, d2] => { results := [.lit (.bool true)], args := [d1, d2] }
  | _ => none }
def laneDeedsRow : OpenClaim := { program := "ytcmdjcpbidbkjaa", sum := "ce512762faf6853449850719e636de71752234a232eaa129fb73ec010daa828f", func := "hauberk/hauberklaw09.LaneDeeds", spec := "laneDeeds", apart := false }
def LaneDeedsSaid : Prop := laneDeedsRow.holds Try.pinned (OpenSpec.ofChange laneDeedsSpec)

/-- ITS FALSE NEIGHBOUR: 'it returns false'. Refute it at one input. -/
def laneDeedsWrong : ChangeSpec := { name := "laneDeeds", fn := fun _ => fun
  | [d1, d2] => { results := [.lit (.bool false)], args := [d1, d2] }
  | _ => none }
def LaneDeedsWrongFalsely : Prop := laneDeedsRow.holds Try.pinned (OpenSpec.ofChange laneDeedsWrong)

/-- 'hauberklaw09.LaneBook': WHATEVER THE INPUT: true; the input reads as it did. -/
def laneBookSpec : ChangeSpec := { name := "laneBook", fn := fun _ => fun
  | [d] => { results := [.lit (.bool true)], args := [d] }
  | _ => none }
def laneBookRow : OpenClaim := { program := "ytcmdjcpbidbkjaa", sum := "ce512762faf6853449850719e636de71752234a232eaa129fb73ec010daa828f", func := "hauberk/hauberklaw09.LaneBook", spec := "laneBook", apart := false }
def LaneBookSaid : Prop := laneBookRow.holds Try.pinned (OpenSpec.ofChange laneBookSpec)

/-- ITS FALSE NEIGHBOUR: 'it returns false'. Refute it at one input. -/
def laneBookWrong : ChangeSpec := { name := "laneBook", fn := fun _ => fun
  | [d] => { results := [.lit (.bool false)], args := [d] }
  | _ => none }
def LaneBookWrongFalsely : Prop := laneBookRow.holds Try.pinned (OpenSpec.ofChange laneBookWrong)

/-- 'hauberklaw09.LaneParted': WHATEVER THE INPUT: true; the input reads as it did. -/
def lanePartedSpec : ChangeSpec := { name := "laneParted", fn := fun _ => fun
  | [d1, d2] => { results := [.lit (.bool true)], args := [d1, d2] }
  | _ => none }
def lanePartedRow : OpenClaim := { program := "ytcmdjcpbidbkjaa", sum := "ce512762faf6853449850719e636de71752234a232eaa129fb73ec010daa828f", func := "hauberk/hauberklaw09.LaneParted", spec := "laneParted", apart := false }
def LanePartedSaid : Prop := lanePartedRow.holds Try.pinned (OpenSpec.ofChange lanePartedSpec)

/-- ITS FALSE NEIGHBOUR: 'it returns false'. Refute it at one input. -/
def lanePartedWrong : ChangeSpec := { name := "laneParted", fn := fun _ => fun
  | [d1, d2] => { results := [.lit (.bool false)], args := [d1, d2] }
  | _ => none }
def LanePartedWrongFalsely : Prop := lanePartedRow.holds Try.pinned (OpenSpec.ofChange lanePartedWrong)

/-- 'hauberklaw09.LaneKnown': WHATEVER THE INPUT: true; the input reads as it did. -/
def laneKnownSpec : ChangeSpec := { name := "laneKnown", fn := fun _ => fun
  | [] => { results := [.lit (.bool true)], args := [] }
  | _ => none }
def laneKnownRow : OpenClaim := { program := "ytcmdjcpbidbkjaa", sum := "ce512762faf6853449850719e636de71752234a232eaa129fb73ec010daa828f", func := "hauberk/hauberklaw09.LaneKnown", spec := "laneKnown", apart := false }
def LaneKnownSaid : Prop := laneKnownRow.holds Try.pinned (OpenSpec.ofChange laneKnownSpec)

/-- ITS FALSE NEIGHBOUR: 'it returns false'. Refute it at one input. -/
def laneKnownWrong : ChangeSpec := { name := "laneKnown", fn := fun _ => fun
  | [] => { results := [.lit (.bool false)], args := [] }
  | _ => none }
def LaneKnownWrongFalsely : Prop := laneKnownRow.holds Try.pinned (OpenSpec.ofChange laneKnownWrong)

/- THE SECOND FORM. 'bulk': how many values and letters a reading holds, each counted each time it is reached (what is shared counts as often as it is met; a slice's spare places count too). A statement '..UptoSaid' is the law's where the arguments, and the package variables that the reading takes, are together of bulk at most 1048576: NARROWER than '..Said'. Prove '..Said' where nothing that the law and all that it calls make is longer than what came in: it says more and counts as full. Else prove '..UptoSaid'. A law counts once. -/
mutual
def uptoBulk {H : Type} : DataW H → Nat
  | .lit (.string bytes) => bytes.length + 1
  | .lit _ => 1
  | .nil => 1
  | .ptr d => uptoBulk d + 1
  | .slice elems spare => uptoBulkAll elems + uptoBulkAll spare + 1
  | .agg parts => uptoBulkAll parts + 1
  | .iface _ d => uptoBulk d + 1
  | .map entries => uptoBulkEntries entries + 1
  | .held _ => 1
def uptoBulkAll {H : Type} : List (DataW H) → Nat
  | [] => 0
  | d :: r => uptoBulk d + uptoBulkAll r
def uptoBulkEntries {H : Type} : List (Lit × DataW H) → Nat
  | [] => 0
  | x :: r => uptoBulkEntry x + uptoBulkEntries r
def uptoBulkEntry {H : Type} : Lit × DataW H → Nat
  | (.string bytes, d) => bytes.length + uptoBulk d + 1
  | (_, d) => uptoBulk d + 1
 end
def uptoSmall : (H : Type) → List (DataW H) → Bool := fun _ ds => decide (uptoBulkAll ds ≤ 1048576)
def OpenSpec.upto (s : _root_.Go.ChangeSpec) : _root_.Go.OpenSpec := { _root_.Go.OpenSpec.ofChange s with cond := some uptoSmall }

/-- 'hauberklaw09.LaneDeeds', WHERE WHAT IT READS IS OF BULK AT MOST 1048576: true; the input reads as it did. -/
def laneDeedsUptoRow : OpenClaim := { program := "ytcmdjcpbidbkjaa", sum := "ce512762faf6853449850719e636de71752234a232eaa129fb73ec010daa828f", func := "hauberk/hauberklaw09.LaneDeeds", spec := "laneDeeds", apart := false, narrowed := true }
def LaneDeedsUptoSaid : Prop := laneDeedsUptoRow.holds Try.pinned (OpenSpec.upto laneDeedsSpec)

/-- 'hauberklaw09.LaneBook', WHERE WHAT IT READS IS OF BULK AT MOST 1048576: true; the input reads as it did. -/
def laneBookUptoRow : OpenClaim := { program := "ytcmdjcpbidbkjaa", sum := "ce512762faf6853449850719e636de71752234a232eaa129fb73ec010daa828f", func := "hauberk/hauberklaw09.LaneBook", spec := "laneBook", apart := false, narrowed := true }
def LaneBookUptoSaid : Prop := laneBookUptoRow.holds Try.pinned (OpenSpec.upto laneBookSpec)

/-- 'hauberklaw09.LaneParted', WHERE WHAT IT READS IS OF BULK AT MOST 1048576: true; the input reads as it did. -/
def lanePartedUptoRow : OpenClaim := { program := "ytcmdjcpbidbkjaa", sum := "ce512762faf6853449850719e636de71752234a232eaa129fb73ec010daa828f", func := "hauberk/hauberklaw09.LaneParted", spec := "laneParted", apart := false, narrowed := true }
def LanePartedUptoSaid : Prop := lanePartedUptoRow.holds Try.pinned (OpenSpec.upto lanePartedSpec)

/-- 'hauberklaw09.LaneKnown', WHERE WHAT IT READS IS OF BULK AT MOST 1048576: true; the input reads as it did. -/
def laneKnownUptoRow : OpenClaim := { program := "ytcmdjcpbidbkjaa", sum := "ce512762faf6853449850719e636de71752234a232eaa129fb73ec010daa828f", func := "hauberk/hauberklaw09.LaneKnown", spec := "laneKnown", apart := false, narrowed := true }
def LaneKnownUptoSaid : Prop := laneKnownUptoRow.holds Try.pinned (OpenSpec.upto laneKnownSpec)

end Rows
end Go.Proofs.Ytcmdjcpbidbkjaa
