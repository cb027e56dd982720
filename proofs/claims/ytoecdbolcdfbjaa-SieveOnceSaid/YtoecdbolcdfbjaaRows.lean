/-
  No cell of these rows narrows 'for every input' (looked for: loops, veiled, ifaces, maps, wideKeys, modest, calm, conditions, laid).
  DERIVED. THE GIVEN ROWS OF THIS SEAT. 5 by the template 'for every input the law returns true; each argument reads behind the call as it read before'; 0 by the template 'total and deterministic' (their statements: YtoecdbolcdfbjaaTotals.lean).
  GIVEN WITH THE SEED: the statements are not yours to turn. If you find one false, say at which input.
  Laid BY PROGRAM, IN A SANDBOX (cutbox-rows.mjs): the forced cells as the released guide's own fill.sh prints them over the translation 10065994c565c836… (all of the seat's roots in one cut). By AI agents, Wed Nov 11 2026. No macro, syntax, notation, axiom, sorry.
-/
import Derived.Test.YtoecdbolcdfbjaaChecked
import GoSem.Claim
import GoSem.ClaimJoined
import GoSem.ClaimMapViews
import Derived.JoinedTies
import Derived.KernelRfl
namespace Go.Proofs.Ytoecdbolcdfbjaa
/- THE CELL 'sum', in the pinned program and in every row, IS THE sha256 OF THE DUMP (.gsa) THAT YtoecdbolcdfbjaaProg.lean LOADS. Nothing in Lean hashes anything: it is a label: what it is worth is what the hold of that sum in a sandbox is worth. -/
noncomputable def Try.pinned : Pinned := { name := "ytoecdbolcdfbjaa", sum := "10065994c565c8362740473abed8e82be27a5b90b7627682700e0f51256252d4", checked := Try.checked }
namespace Rows
def none {H : Type} : Left H := { results := [], args := [] }

/-- 'hauberklaw10.SieveFresh': WHATEVER THE INPUT: true; the input reads as it did. -/
def sieveFreshSpec : ChangeSpec := { name := "sieveFresh", fn := fun _ => fun
  | [d] => { results := [.lit (.bool true)], args := [d] }
  | _ => none }
def sieveFreshRow : OpenClaim := { program := "ytoecdbolcdfbjaa", sum := "10065994c565c8362740473abed8e82be27a5b90b7627682700e0f51256252d4", func := "hauberk/hauberklaw10.SieveFresh", spec := "sieveFresh", apart := false }
def SieveFreshSaid : Prop := sieveFreshRow.holds Try.pinned (OpenSpec.ofChange sieveFreshSpec)

/-- ITS FALSE NEIGHBOUR: 'it returns false'. Refute it at one input. -/
def sieveFreshWrong : ChangeSpec := { name := "sieveFresh", fn := fun _ => fun
  | [d] => { results := [.lit (.bool false)], args := [d] }
  | _ => none }
def SieveFreshWrongFalsely : Prop := sieveFreshRow.holds Try.pinned (OpenSpec.ofChange sieveFreshWrong)

/-- 'hauberklaw10.SieveOnce': WHATEVER THE INPUT: true; the input reads as it did. -/
def sieveOnceSpec : ChangeSpec := { name := "sieveOnce", fn := fun _ => fun
  | [d] => { results := [.lit (.bool true)], args := [d] }
  | _ => none }
def sieveOnceRow : OpenClaim := { program := "ytoecdbolcdfbjaa", sum := "10065994c565c8362740473abed8e82be27a5b90b7627682700e0f51256252d4", func := "hauberk/hauberklaw10.SieveOnce", spec := "sieveOnce", apart := false }
def SieveOnceSaid : Prop := sieveOnceRow.holds Try.pinned (OpenSpec.ofChange sieveOnceSpec)

/-- ITS FALSE NEIGHBOUR: 'it returns false'. Refute it at one input. -/
def sieveOnceWrong : ChangeSpec := { name := "sieveOnce", fn := fun _ => fun
  | [d] => { results := [.lit (.bool false)], args := [d] }
  | _ => none }
def SieveOnceWrongFalsely : Prop := sieveOnceRow.holds Try.pinned (OpenSpec.ofChange sieveOnceWrong)

/-- 'hauberklaw10.SieveAll': WHATEVER THE INPUT: true; the input reads as it did. -/
def sieveAllSpec : ChangeSpec := { name := "sieveAll", fn := fun _ => fun
  | [d] => { results := [.lit (.bool true)], args := [d] }
  | _ => none }
def sieveAllRow : OpenClaim := { program := "ytoecdbolcdfbjaa", sum := "10065994c565c8362740473abed8e82be27a5b90b7627682700e0f51256252d4", func := "hauberk/hauberklaw10.SieveAll", spec := "sieveAll", apart := false }
def SieveAllSaid : Prop := sieveAllRow.holds Try.pinned (OpenSpec.ofChange sieveAllSpec)

/-- ITS FALSE NEIGHBOUR: 'it returns false'. Refute it at one input. -/
def sieveAllWrong : ChangeSpec := { name := "sieveAll", fn := fun _ => fun
  | [d] => { results := [.lit (.bool false)], args := [d] }
  | _ => none }
def SieveAllWrongFalsely : Prop := sieveAllRow.holds Try.pinned (OpenSpec.ofChange sieveAllWrong)

/-- 'hauberklaw10.SieveRefused': WHATEVER THE INPUT: true; the input reads as it did. -/
def sieveRefusedSpec : ChangeSpec := { name := "sieveRefused", fn := fun _ => fun
  | [d] => { results := [.lit (.bool true)], args := [d] }
  | _ => none }
def sieveRefusedRow : OpenClaim := { program := "ytoecdbolcdfbjaa", sum := "10065994c565c8362740473abed8e82be27a5b90b7627682700e0f51256252d4", func := "hauberk/hauberklaw10.SieveRefused", spec := "sieveRefused", apart := false }
def SieveRefusedSaid : Prop := sieveRefusedRow.holds Try.pinned (OpenSpec.ofChange sieveRefusedSpec)

/-- ITS FALSE NEIGHBOUR: 'it returns false'. Refute it at one input. -/
def sieveRefusedWrong : ChangeSpec := { name := "sieveRefused", fn := fun _ => fun
  | [d] => { results := [.lit (.bool false)], args := [d] }
  | _ => none }
def SieveRefusedWrongFalsely : Prop := sieveRefusedRow.holds Try.pinned (OpenSpec.ofChange sieveRefusedWrong)

/-- 'hauberklaw10.SieveKnown': WHATEVER THE INPUT: true; the input reads as it did. -/
def sieveKnownSpec : ChangeSpec := { name := "sieveKnown", fn := fun _ => fun
  | [] => { results := [.lit (.bool true)], args := [] }
  | _ => none }
def sieveKnownRow : OpenClaim := { program := "ytoecdbolcdfbjaa", sum := "10065994c565c8362740473abed8e82be27a5b90b7627682700e0f51256252d4", func := "hauberk/hauberklaw10.SieveKnown", spec := "sieveKnown", apart := false }
def SieveKnownSaid : Prop := sieveKnownRow.holds Try.pinned (OpenSpec.ofChange sieveKnownSpec)

/-- ITS FALSE NEIGHBOUR: 'it returns false'. Refute it at one input. -/
def sieveKnownWrong : ChangeSpec := { name := "sieveKnown", fn := fun _ => fun
  | [] => { results := [.lit (.bool false)], args := [] }
  | _ => none }
def SieveKnownWrongFalsely : Prop := sieveKnownRow.holds Try.pinned (OpenSpec.ofChange sieveKnownWrong)

/- THE SECOND FORM. 'bulk': how many values and letters a reading holds, each counted each time it is reached (what is shared counts as often as it is met; a slice's spare places count too). A statement '..UptoSaid' is the law's where the arguments, and the package variables that the reading takes, are together of bulk at most 1048576: NARROWER than '..Said'. Prove '..Said' where nothing that the law and all that it calls make is longer than what came in: it says more and counts as full. Else prove '..UptoSaid'. A law counts once. -/
mutual
def uptoBulk {H : Type} : DataW H → Nat
  | .lit (.string bytes) => bytes.length + 1
  | .lit _ => 1
  | .nil => 1
  | .ptr d => uptoBulk d + 1
  | .slice elems spare => uptoBulkAll elems + uptoBulkAll spare + 1
  | .agg parts => uptoBulkAll parts + 1
  | .iface _ d => uptoBulk d + 1
  | .map entries => uptoBulkEntries entries + 1
  | .held _ => 1
def uptoBulkAll {H : Type} : List (DataW H) → Nat
  | [] => 0
  | d :: r => uptoBulk d + uptoBulkAll r
def uptoBulkEntries {H : Type} : List (Lit × DataW H) → Nat
  | [] => 0
  | x :: r => uptoBulkEntry x + uptoBulkEntries r
def uptoBulkEntry {H : Type} : Lit × DataW H → Nat
  | (.string bytes, d) => bytes.length + uptoBulk d + 1
  | (_, d) => uptoBulk d + 1
 end
def uptoSmall : (H : Type) → List (DataW H) → Bool := fun _ ds => decide (uptoBulkAll ds ≤ 1048576)
def OpenSpec.upto (s : _root_.Go.ChangeSpec) : _root_.Go.OpenSpec := { _root_.Go.OpenSpec.ofChange s with cond := some uptoSmall }

/-- 'hauberklaw10.SieveFresh', WHERE WHAT IT READS IS OF BULK AT MOST 1048576: true; the input reads as it did. -/
def sieveFreshUptoRow : OpenClaim := { program := "ytoecdbolcdfbjaa", sum := "10065994c565c8362740473abed8e82be27a5b90b7627682700e0f51256252d4", func := "hauberk/hauberklaw10.SieveFresh", spec := "sieveFresh", apart := false, narrowed := true }
def SieveFreshUptoSaid : Prop := sieveFreshUptoRow.holds Try.pinned (OpenSpec.upto sieveFreshSpec)

/-- 'hauberklaw10.SieveOnce', WHERE WHAT IT READS IS OF BULK AT MOST 1048576: true; the input reads as it did. -/
def sieveOnceUptoRow : OpenClaim := { program := "ytoecdbolcdfbjaa", sum := "10065994c565c8362740473abed8e82be27a5b90b7627682700e0f51256252d4", func := "hauberk/hauberklaw10.SieveOnce", spec := "sieveOnce", apart := false, narrowed := true }
def SieveOnceUptoSaid : Prop := sieveOnceUptoRow.holds Try.pinned (OpenSpec.upto sieveOnceSpec)

/-- 'hauberklaw10.SieveAll', WHERE WHAT IT READS IS OF BULK AT MOST 1048576: true; the input reads as it did. -/
def sieveAllUptoRow : OpenClaim := { program := "ytoecdbolcdfbjaa", sum := "10065994c565c8362740473abed8e82be27a5b90b7627682700e0f51256252d4", func := "hauberk/hauberklaw10.SieveAll", spec := "sieveAll", apart := false, narrowed := true }
def SieveAllUptoSaid : Prop := sieveAllUptoRow.holds Try.pinned (OpenSpec.upto sieveAllSpec)

/-- 'hauberklaw10.SieveRefused', WHERE WHAT IT READS IS OF BULK AT MOST 1048576: true; the input reads as it did. -/
def sieveRefusedUptoRow : OpenClaim := { program := "ytoecdbolcdfbjaa", sum := "10065994c565c8362740473abed8e82be27a5b90b7627682700e0f51256252d4", func := "hauberk/hauberklaw10.SieveRefused", spec := "sieveRefused", apart := false, narrowed := true }
def SieveRefusedUptoSaid : Prop := sieveRefusedUptoRow.holds Try.pinned (OpenSpec.upto sieveRefusedSpec)

/-- 'hauberklaw10.SieveKnown', WHERE WHAT IT READS IS OF BULK AT MOST 1048576: true; the input reads as it did. -/
def sieveKnownUptoRow : OpenClaim := { program := "ytoecdbolcdfbjaa", sum := "10065994c565c8362740473abed8e82be27a5b90b7627682700e0f51256252d4", func := "hauberk/hauberklaw10.SieveKnown", spec := "sieveKnown", apart := false, narrowed := true }
def SieveKnownUptoSaid : Prop := sieveKnownUptoRow.holds Try.pinned (OpenSpec.upto sieveKnownSpec)

end Rows
end Go.Proofs.Ytoecdbolcdfbjaa
