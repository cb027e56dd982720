/-
  No cell of these rows narrows 'for every input' (looked for: loops, veiled, ifaces, maps, wideKeys, modest, calm, conditions, laid).
  DERIVED. THE GIVEN ROWS OF THIS SEAT. 5 by the template 'for every input the law returns true; each argument reads behind the call as it read before'; 0 by the template 'total and deterministic' (their statements: YtfkffjjkmckpnaaTotals.lean).
  GIVEN WITH THE SEED: the statements are not yours to turn. If you find one false, say at which input.
  Laid BY PROGRAM, IN A SANDBOX (cutbox-rows.mjs): the forced cells as the released guide's own fill.sh prints them over the translation a707b9c99cd153ed… (all of the seat's roots in one cut). By AI agents, Wed Nov 11 2026. No macro, syntax, notation, axiom, sorry.
-/
import Derived.Test.YtfkffjjkmckpnaaChecked
import GoSem.Claim
import GoSem.ClaimJoined
import GoSem.ClaimMapViews
import Derived.JoinedTies
import Derived.KernelRfl
namespace Go.Proofs.Ytfkffjjkmckpnaa
/- THE CELL 'sum', in the pinned program and in every row, IS THE sha256 OF THE DUMP (.gsa) THAT YtfkffjjkmckpnaaProg.lean LOADS. Nothing in Lean hashes anything: it is a label: what it is worth is what the hold of that sum in a sandbox is worth. -/
noncomputable def Try.pinned : Pinned := { name := "ytfkffjjkmckpnaa", sum := "a707b9c99cd153edd4008cba8f98f24e577167472dde047780337fee19549d5a", checked := Try.checked }
namespace Rows
def none {H : Type} : Left H := { results := [], args := [] }

/-- 'hauberklaw25.MergeOrder': WHATEVER THE INPUT: true; the input reads as it did. -/
def mergeOrderSpec : ChangeSpec := { name := "mergeOrder", fn := fun _ => fun
  | [d1, d2, d3] => { results := [.lit (.bool true)], args := [d1, d2, d3] }
  | _ => none }
def mergeOrderRow : OpenClaim := { program := "ytfkffjjkmckpnaa", sum := "a707b9c99cd153edd4008cba8f98f24e577167472dde047780337fee19549d5a", func := "hauberk/hauberklaw25.MergeOrder", spec := "mergeOrder", unfollowed := true, recurses := true, apart := false }
def MergeOrderSaid : Prop := mergeOrderRow.holds Try.pinned (OpenSpec.ofChange mergeOrderSpec)

/-- ITS FALSE NEIGHBOUR: 'it returns false'. Refute it at one input. -/
def mergeOrderWrong : ChangeSpec := { name := "mergeOrder", fn := fun _ => fun
  | [d1, d2, d3] => { results := [.lit (.bool false)], args := [d1, d2, d3] }
  | _ => none }
def MergeOrderWrongFalsely : Prop := mergeOrderRow.holds Try.pinned (OpenSpec.ofChange mergeOrderWrong)

/-- 'hauberklaw25.MergeRises': WHATEVER THE INPUT: true; the input reads as it did. -/
def mergeRisesSpec : ChangeSpec := { name := "mergeRises", fn := fun _ => fun
  | [d1, d2] => { results := [.lit (.bool true)], args := [d1, d2] }
  | _ => none }
def mergeRisesRow : OpenClaim := { program := "ytfkffjjkmckpnaa", sum := "a707b9c99cd153edd4008cba8f98f24e577167472dde047780337fee19549d5a", func := "hauberk/hauberklaw25.MergeRises", spec := "mergeRises", unfollowed := true, recurses := true, apart := false }
def MergeRisesSaid : Prop := mergeRisesRow.holds Try.pinned (OpenSpec.ofChange mergeRisesSpec)

/-- ITS FALSE NEIGHBOUR: 'it returns false'. Refute it at one input. -/
def mergeRisesWrong : ChangeSpec := { name := "mergeRises", fn := fun _ => fun
  | [d1, d2] => { results := [.lit (.bool false)], args := [d1, d2] }
  | _ => none }
def MergeRisesWrongFalsely : Prop := mergeRisesRow.holds Try.pinned (OpenSpec.ofChange mergeRisesWrong)

/-- 'hauberklaw25.MergeNothingLost': WHATEVER THE INPUT: true; the input reads as it did. -/
def mergeNothingLostSpec : ChangeSpec := { name := "mergeNothingLost", fn := fun _ => fun
  | [d] => { results := [.lit (.bool true)], args := [d] }
  | _ => none }
def mergeNothingLostRow : OpenClaim := { program := "ytfkffjjkmckpnaa", sum := "a707b9c99cd153edd4008cba8f98f24e577167472dde047780337fee19549d5a", func := "hauberk/hauberklaw25.MergeNothingLost", spec := "mergeNothingLost", unfollowed := true, recurses := true, apart := false }
def MergeNothingLostSaid : Prop := mergeNothingLostRow.holds Try.pinned (OpenSpec.ofChange mergeNothingLostSpec)

/-- ITS FALSE NEIGHBOUR: 'it returns false'. Refute it at one input. -/
def mergeNothingLostWrong : ChangeSpec := { name := "mergeNothingLost", fn := fun _ => fun
  | [d] => { results := [.lit (.bool false)], args := [d] }
  | _ => none }
def MergeNothingLostWrongFalsely : Prop := mergeNothingLostRow.holds Try.pinned (OpenSpec.ofChange mergeNothingLostWrong)

/-- 'hauberklaw25.MergePlays': WHATEVER THE INPUT: true; the input reads as it did. -/
def mergePlaysSpec : ChangeSpec := { name := "mergePlays", fn := fun _ => fun
  | [d1, d2, d3] => { results := [.lit (.bool true)], args := [d1, d2, d3] }
  | _ => none }
def mergePlaysRow : OpenClaim := { program := "ytfkffjjkmckpnaa", sum := "a707b9c99cd153edd4008cba8f98f24e577167472dde047780337fee19549d5a", func := "hauberk/hauberklaw25.MergePlays", spec := "mergePlays", unfollowed := true, recurses := true, apart := false }
def MergePlaysSaid : Prop := mergePlaysRow.holds Try.pinned (OpenSpec.ofChange mergePlaysSpec)

/-- ITS FALSE NEIGHBOUR: 'it returns false'. Refute it at one input. -/
def mergePlaysWrong : ChangeSpec := { name := "mergePlays", fn := fun _ => fun
  | [d1, d2, d3] => { results := [.lit (.bool false)], args := [d1, d2, d3] }
  | _ => none }
def MergePlaysWrongFalsely : Prop := mergePlaysRow.holds Try.pinned (OpenSpec.ofChange mergePlaysWrong)

/-- 'hauberklaw25.MergeNames': WHATEVER THE INPUT: true; the input reads as it did. -/
def mergeNamesSpec : ChangeSpec := { name := "mergeNames", fn := fun _ => fun
  | [] => { results := [.lit (.bool true)], args := [] }
  | _ => none }
def mergeNamesRow : OpenClaim := { program := "ytfkffjjkmckpnaa", sum := "a707b9c99cd153edd4008cba8f98f24e577167472dde047780337fee19549d5a", func := "hauberk/hauberklaw25.MergeNames", spec := "mergeNames", unfollowed := true, recurses := true, apart := false }
def MergeNamesSaid : Prop := mergeNamesRow.holds Try.pinned (OpenSpec.ofChange mergeNamesSpec)

/-- ITS FALSE NEIGHBOUR: 'it returns false'. Refute it at one input. -/
def mergeNamesWrong : ChangeSpec := { name := "mergeNames", fn := fun _ => fun
  | [] => { results := [.lit (.bool false)], args := [] }
  | _ => none }
def MergeNamesWrongFalsely : Prop := mergeNamesRow.holds Try.pinned (OpenSpec.ofChange mergeNamesWrong)

/- THE SECOND FORM. 'bulk': how many values and letters a reading holds, each counted each time it is reached (what is shared counts as often as it is met; a slice's spare places count too). A statement '..UptoSaid' is the law's where the arguments, and the package variables that the reading takes, are together of bulk at most 1048576: NARROWER than '..Said'. Prove '..Said' where nothing that the law and all that it calls make is longer than what came in: it says more and counts as full. Else prove '..UptoSaid'. A law counts once. -/
mutual
def uptoBulk {H : Type} : DataW H → Nat
  | .lit (.string bytes) => bytes.length + 1
  | .lit _ => 1
  | .nil => 1
  | .ptr d => uptoBulk d + 1
  | .slice elems spare => uptoBulkAll elems + uptoBulkAll spare + 1
  | .agg parts => uptoBulkAll parts + 1
  | .iface _ d => uptoBulk d + 1
  | .map entries => uptoBulkEntries entries + 1
  | .held _ => 1
def uptoBulkAll {H : Type} : List (DataW H) → Nat
  | [] => 0
  | d :: r => uptoBulk d + uptoBulkAll r
def uptoBulkEntries {H : Type} : List (Lit × DataW H) → Nat
  | [] => 0
  | x :: r => uptoBulkEntry x + uptoBulkEntries r
def uptoBulkEntry {H : Type} : Lit × DataW H → Nat
  | (.string bytes, d) => bytes.length + uptoBulk d + 1
  | (_, d) => uptoBulk d + 1
 end
def uptoSmall : (H : Type) → List (DataW H) → Bool := fun _ ds => decide (uptoBulkAll ds ≤ 1048576)
def OpenSpec.upto (s : _root_.Go.ChangeSpec) : _root_.Go.OpenSpec := { _root_.Go.OpenSpec.ofChange s with cond := some uptoSmall }

/-- 'hauberklaw25.MergeOrder', WHERE WHAT IT READS IS OF BULK AT MOST 1048576: true; the input reads as it did. -/
def mergeOrderUptoRow : OpenClaim := { program := "ytfkffjjkmckpnaa", sum := "a707b9c99cd153edd4008cba8f98f24e577167472dde047780337fee19549d5a", func := "hauberk/hauberklaw25.MergeOrder", spec := "mergeOrder", unfollowed := true, recurses := true, apart := false, narrowed := true }
def MergeOrderUptoSaid : Prop := mergeOrderUptoRow.holds Try.pinned (OpenSpec.upto mergeOrderSpec)

/-- 'hauberklaw25.MergeRises', WHERE WHAT IT READS IS OF BULK AT MOST 1048576: true; the input reads as it did. -/
def mergeRisesUptoRow : OpenClaim := { program := "ytfkffjjkmckpnaa", sum := "a707b9c99cd153edd4008cba8f98f24e577167472dde047780337fee19549d5a", func := "hauberk/hauberklaw25.MergeRises", spec := "mergeRises", unfollowed := true, recurses := true, apart := false, narrowed := true }
def MergeRisesUptoSaid : Prop := mergeRisesUptoRow.holds Try.pinned (OpenSpec.upto mergeRisesSpec)

/-- 'hauberklaw25.MergeNothingLost', WHERE WHAT IT READS IS OF BULK AT MOST 1048576: true; the input reads as it did. -/
def mergeNothingLostUptoRow : OpenClaim := { program := "ytfkffjjkmckpnaa", sum := "a707b9c99cd153edd4008cba8f98f24e577167472dde047780337fee19549d5a", func := "hauberk/hauberklaw25.MergeNothingLost", spec := "mergeNothingLost", unfollowed := true, recurses := true, apart := false, narrowed := true }
def MergeNothingLostUptoSaid : Prop := mergeNothingLostUptoRow.holds Try.pinned (OpenSpec.upto mergeNothingLostSpec)

/-- 'hauberklaw25.MergePlays', WHERE WHAT IT READS IS OF BULK AT MOST 1048576: true; the input reads as it did. -/
def mergePlaysUptoRow : OpenClaim := { program := "ytfkffjjkmckpnaa", sum := "a707b9c99cd153edd4008cba8f98f24e577167472dde047780337fee19549d5a", func := "hauberk/hauberklaw25.MergePlays", spec := "mergePlays", unfollowed := true, recurses := true, apart := false, narrowed := true }
def MergePlaysUptoSaid : Prop := mergePlaysUptoRow.holds Try.pinned (OpenSpec.upto mergePlaysSpec)

/-- 'hauberklaw25.MergeNames', WHERE WHAT IT READS IS OF BULK AT MOST 1048576: true; the input reads as it did. -/
def mergeNamesUptoRow : OpenClaim := { program := "ytfkffjjkmckpnaa", sum := "a707b9c99cd153edd4008cba8f98f24e577167472dde047780337fee19549d5a", func := "hauberk/hauberklaw25.MergeNames", spec := "mergeNames", unfollowed := true, recurses := true, apart := false, narrowed := true }
def MergeNamesUptoSaid : Prop := mergeNamesUptoRow.holds Try.pinned (OpenSpec.upto mergeNamesSpec)

end Rows
end Go.Proofs.Ytfkffjjkmckpnaa
