/-
  No cell of these rows narrows 'for every input' (looked for: loops, veiled, ifaces, maps, wideKeys, modest, calm, conditions, laid).
  DERIVED. THE GIVEN ROWS OF THIS SEAT. 6 by the template 'for every input the law returns true; each argument reads behind the call as it read before'; 0 by the template 'total and deterministic' (their statements: YtfhhcbacnlakiaaTotals.lean).
  GIVEN WITH THE SEED: the statements are not yours to turn. If you find one false, say at which input.
  Laid BY PROGRAM, IN A SANDBOX (cutbox-rows.mjs): the forced cells as the released guide's own fill.sh prints them over the translation 82cd88f43f6e60ae… (all of the seat's roots in one cut). By AI agents, Wed Nov 11 2026. No macro, syntax, notation, axiom, sorry.
-/
import Derived.Test.YtfhhcbacnlakiaaChecked
import GoSem.Claim
import GoSem.ClaimJoined
import GoSem.ClaimMapViews
import Derived.JoinedTies
import Derived.KernelRfl
namespace Go.Proofs.Ytfhhcbacnlakiaa
/- THE CELL 'sum', in the pinned program and in every row, IS THE sha256 OF THE DUMP (.gsa) THAT YtfhhcbacnlakiaaProg.lean LOADS. Nothing in Lean hashes anything: it is a label: what it is worth is what the hold of that sum in a sandbox is worth. -/
noncomputable def Try.pinned : Pinned := { name := "ytfhhcbacnlakiaa", sum := "82cd88f43f6e60ae99963893daf099166980efd896bb5747d3a0749561392e49", checked := Try.checked }
namespace Rows
def none {H : Type} : Left H := { results := [], args := [] }

/-- 'hauberklaw04.MarkOrders': WHATEVER THE INPUT: true; the input reads as it did. -/
def markOrdersSpec : ChangeSpec := { name := "markOrders", fn := fun _ => fun
  | [d1, d2] => { results := [.lit (.bool true)], args := [d1, d2] }
  | _ => none }
def markOrdersRow : OpenClaim := { program := "ytfhhcbacnlakiaa", sum := "82cd88f43f6e60ae99963893daf099166980efd896bb5747d3a0749561392e49", func := "hauberk/hauberklaw04.MarkOrders", spec := "markOrders", plainKeys := false, apart := false }
def MarkOrdersSaid : Prop := markOrdersRow.holds Try.pinned (OpenSpec.ofChange markOrdersSpec)

/-- ITS FALSE NEIGHBOUR: 'it returns false'. Refute it at one input. -/
def markOrdersWrong : ChangeSpec := { name := "markOrders", fn := fun _ => fun
  | [d1, d2] => { results := [.lit (.bool false)], args := [d1, d2] }
  | _ => none }
def MarkOrdersWrongFalsely : Prop := markOrdersRow.holds Try.pinned (OpenSpec.ofChange markOrdersWrong)

/-- 'hauberklaw04.MarkOrder': WHATEVER THE INPUT: true; the input reads as it did. -/
def markOrderSpec : ChangeSpec := { name := "markOrder", fn := fun _ => fun
  | [d1, d2, d3] => { results := [.lit (.bool true)], args := [d1, d2, d3] }
  | _ => none }
def markOrderRow : OpenClaim := { program := "ytfhhcbacnlakiaa", sum := "82cd88f43f6e60ae99963893daf099166980efd896bb5747d3a0749561392e49", func := "hauberk/hauberklaw04.MarkOrder", spec := "markOrder", plainKeys := false, apart := false }
def MarkOrderSaid : Prop := markOrderRow.holds Try.pinned (OpenSpec.ofChange markOrderSpec)

/-- ITS FALSE NEIGHBOUR: 'it returns false'. Refute it at one input. -/
def markOrderWrong : ChangeSpec := { name := "markOrder", fn := fun _ => fun
  | [d1, d2, d3] => { results := [.lit (.bool false)], args := [d1, d2, d3] }
  | _ => none }
def MarkOrderWrongFalsely : Prop := markOrderRow.holds Try.pinned (OpenSpec.ofChange markOrderWrong)

/-- 'hauberklaw04.MarkMaps': WHATEVER THE INPUT: true; the input reads as it did. -/
def markMapsSpec : ChangeSpec := { name := "markMaps", fn := fun _ => fun
  | [d] => { results := [.lit (.bool true)], args := [d] }
  | _ => none }
def markMapsRow : OpenClaim := { program := "ytfhhcbacnlakiaa", sum := "82cd88f43f6e60ae99963893daf099166980efd896bb5747d3a0749561392e49", func := "hauberk/hauberklaw04.MarkMaps", spec := "markMaps", plainKeys := false, apart := false }
def MarkMapsSaid : Prop := markMapsRow.holds Try.pinned (OpenSpec.ofChange markMapsSpec)

/-- ITS FALSE NEIGHBOUR: 'it returns false'. Refute it at one input. -/
def markMapsWrong : ChangeSpec := { name := "markMaps", fn := fun _ => fun
  | [d] => { results := [.lit (.bool false)], args := [d] }
  | _ => none }
def MarkMapsWrongFalsely : Prop := markMapsRow.holds Try.pinned (OpenSpec.ofChange markMapsWrong)

/-- 'hauberklaw04.MarkPacks': WHATEVER THE INPUT: true; the input reads as it did. -/
def markPacksSpec : ChangeSpec := { name := "markPacks", fn := fun _ => fun
  | [d1, d2] => { results := [.lit (.bool true)], args := [d1, d2] }
  | _ => none }
def markPacksRow : OpenClaim := { program := "ytfhhcbacnlakiaa", sum := "82cd88f43f6e60ae99963893daf099166980efd896bb5747d3a0749561392e49", func := "hauberk/hauberklaw04.MarkPacks", spec := "markPacks", plainKeys := false, apart := false }
def MarkPacksSaid : Prop := markPacksRow.holds Try.pinned (OpenSpec.ofChange markPacksSpec)

/-- ITS FALSE NEIGHBOUR: 'it returns false'. Refute it at one input. -/
def markPacksWrong : ChangeSpec := { name := "markPacks", fn := fun _ => fun
  | [d1, d2] => { results := [.lit (.bool false)], args := [d1, d2] }
  | _ => none }
def MarkPacksWrongFalsely : Prop := markPacksRow.holds Try.pinned (OpenSpec.ofChange markPacksWrong)

/-- 'hauberklaw04.MarkBack': WHATEVER THE INPUT: true; the input reads as it did. -/
def markBackSpec : ChangeSpec := { name := "markBack", fn := fun _ => fun
  | [d1, d2, d3] => { results := [.lit (.bool true)], args := [d1, d2, d3] }
  | _ => none }
def markBackRow : OpenClaim := { program := "ytfhhcbacnlakiaa", sum := "82cd88f43f6e60ae99963893daf099166980efd896bb5747d3a0749561392e49", func := "hauberk/hauberklaw04.MarkBack", spec := "markBack", plainKeys := false, apart := false }
def MarkBackSaid : Prop := markBackRow.holds Try.pinned (OpenSpec.ofChange markBackSpec)

/-- ITS FALSE NEIGHBOUR: 'it returns false'. Refute it at one input. -/
def markBackWrong : ChangeSpec := { name := "markBack", fn := fun _ => fun
  | [d1, d2, d3] => { results := [.lit (.bool false)], args := [d1, d2, d3] }
  | _ => none }
def MarkBackWrongFalsely : Prop := markBackRow.holds Try.pinned (OpenSpec.ofChange markBackWrong)

/-- 'hauberklaw04.MarkKnown': WHATEVER THE INPUT: true; the input reads as it did. -/
def markKnownSpec : ChangeSpec := { name := "markKnown", fn := fun _ => fun
  | [] => { results := [.lit (.bool true)], args := [] }
  | _ => none }
def markKnownRow : OpenClaim := { program := "ytfhhcbacnlakiaa", sum := "82cd88f43f6e60ae99963893daf099166980efd896bb5747d3a0749561392e49", func := "hauberk/hauberklaw04.MarkKnown", spec := "markKnown", plainKeys := false, apart := false }
def MarkKnownSaid : Prop := markKnownRow.holds Try.pinned (OpenSpec.ofChange markKnownSpec)

/-- ITS FALSE NEIGHBOUR: 'it returns false'. Refute it at one input. -/
def markKnownWrong : ChangeSpec := { name := "markKnown", fn := fun _ => fun
  | [] => { results := [.lit (.bool false)], args := [] }
  | _ => none }
def MarkKnownWrongFalsely : Prop := markKnownRow.holds Try.pinned (OpenSpec.ofChange markKnownWrong)

/- THE SECOND FORM. 'bulk': how many values and letters a reading holds, each counted each time it is reached (what is shared counts as often as it is met; a slice's spare places count too). A statement '..UptoSaid' is the law's where the arguments, and the package variables that the reading takes, are together of bulk at most 1048576: NARROWER than '..Said'. Prove '..Said' where nothing that the law and all that it calls make is longer than what came in: it says more and counts as full. Else prove '..UptoSaid'. A law counts once. -/
mutual
def uptoBulk {H : Type} : DataW H → Nat
  | .lit (.string bytes) => bytes.length + 1
  | .lit _ => 1
  | .nil => 1
  | .ptr d => uptoBulk d + 1
  | .slice elems spare => uptoBulkAll elems + uptoBulkAll spare + 1
  | .agg parts => uptoBulkAll parts + 1
  | .iface _ d => uptoBulk d + 1
  | .map entries => uptoBulkEntries entries + 1
  | .held _ => 1
def uptoBulkAll {H : Type} : List (DataW H) → Nat
  | [] => 0
  | d :: r => uptoBulk d + uptoBulkAll r
def uptoBulkEntries {H : Type} : List (Lit × DataW H) → Nat
  | [] => 0
  | x :: r => uptoBulkEntry x + uptoBulkEntries r
def uptoBulkEntry {H : Type} : Lit × DataW H → Nat
  | (.string bytes, d) => bytes.length + uptoBulk d + 1
  | (_, d) => uptoBulk d + 1
 end
def uptoSmall : (H : Type) → List (DataW H) → Bool := fun _ ds => decide (uptoBulkAll ds ≤ 1048576)
def OpenSpec.upto (s : _root_.Go.ChangeSpec) : _root_.Go.OpenSpec := { _root_.Go.OpenSpec.ofChange s with cond := some uptoSmall }

/-- 'hauberklaw04.MarkOrders', WHERE WHAT IT READS IS OF BULK AT MOST 1048576: true; the input reads as it did. -/
def markOrdersUptoRow : OpenClaim := { program := "ytfhhcbacnlakiaa", sum := "82cd88f43f6e60ae99963893daf099166980efd896bb5747d3a0749561392e49", func := "hauberk/hauberklaw04.MarkOrders", spec := "markOrders", plainKeys := false, apart := false, narrowed := true }
def MarkOrdersUptoSaid : Prop := markOrdersUptoRow.holds Try.pinned (OpenSpec.upto markOrdersSpec)

/-- 'hauberklaw04.MarkOrder', WHERE WHAT IT READS IS OF BULK AT MOST 1048576: true; the input reads as it did. -/
def markOrderUptoRow : OpenClaim := { program := "ytfhhcbacnlakiaa", sum := "82cd88f43f6e60ae99963893daf099166980efd896bb5747d3a0749561392e49", func := "hauberk/hauberklaw04.MarkOrder", spec := "markOrder", plainKeys := false, apart := false, narrowed := true }
def MarkOrderUptoSaid : Prop := markOrderUptoRow.holds Try.pinned (OpenSpec.upto markOrderSpec)

/-- 'hauberklaw04.MarkMaps', WHERE WHAT IT READS IS OF BULK AT MOST 1048576: true; the input reads as it did. -/
def markMapsUptoRow : OpenClaim := { program := "ytfhhcbacnlakiaa", sum := "82cd88f43f6e60ae99963893daf099166980efd896bb5747d3a0749561392e49", func := "hauberk/hauberklaw04.MarkMaps", spec := "markMaps", plainKeys := false, apart := false, narrowed := true }
def MarkMapsUptoSaid : Prop := markMapsUptoRow.holds Try.pinned (OpenSpec.upto markMapsSpec)

/-- 'hauberklaw04.MarkPacks', WHERE WHAT IT READS IS OF BULK AT MOST 1048576: true; the input reads as it did. -/
def markPacksUptoRow : OpenClaim := { program := "ytfhhcbacnlakiaa", sum := "82cd88f43f6e60ae99963893daf099166980efd896bb5747d3a0749561392e49", func := "hauberk/hauberklaw04.MarkPacks", spec := "markPacks", plainKeys := false, apart := false, narrowed := true }
def MarkPacksUptoSaid : Prop := markPacksUptoRow.holds Try.pinned (OpenSpec.upto markPacksSpec)

/-- 'hauberklaw04.MarkBack', WHERE WHAT IT READS IS OF BULK AT MOST 1048576: true; the input reads as it did. -/
def markBackUptoRow : OpenClaim := { program := "ytfhhcbacnlakiaa", sum := "82cd88f43f6e60ae99963893daf099166980efd896bb5747d3a0749561392e49", func := "hauberk/hauberklaw04.MarkBack", spec := "markBack", plainKeys := false, apart := false, narrowed := true }
def MarkBackUptoSaid : Prop := markBackUptoRow.holds Try.pinned (OpenSpec.upto markBackSpec)

/-- 'hauberklaw04.MarkKnown', WHERE WHAT IT READS IS OF BULK AT MOST 1048576: true; the input reads as it did. -/
def markKnownUptoRow : OpenClaim := { program := "ytfhhcbacnlakiaa", sum := "82cd88f43f6e60ae99963893daf099166980efd896bb5747d3a0749561392e49", func := "hauberk/hauberklaw04.MarkKnown", spec := "markKnown", plainKeys := false, apart := false, narrowed := true }
def MarkKnownUptoSaid : Prop := markKnownUptoRow.holds Try.pinned (OpenSpec.upto markKnownSpec)

end Rows
end Go.Proofs.Ytfhhcbacnlakiaa
