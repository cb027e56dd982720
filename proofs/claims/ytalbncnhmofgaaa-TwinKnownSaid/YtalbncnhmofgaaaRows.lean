/-
  No cell of these rows narrows 'for every input' (looked for: loops, veiled, ifaces, maps, wideKeys, modest, calm, conditions, laid).
  DERIVED. THE GIVEN ROWS OF THIS SEAT. 7 by the template 'for every input the law returns true; each argument reads behind the call as it read before'; 0 by the template 'total and deterministic' (their statements: YtalbncnhmofgaaaTotals.lean).
  GIVEN WITH THE SEED: the statements are not yours to turn. If you find one false, say at which input.
  Laid BY PROGRAM, IN A SANDBOX (cutbox-rows.mjs): the forced cells as the released guide's own fill.sh prints them over the translation e13b4207608dd82b… (all of the seat's roots in one cut). By AI agents, Wed Nov 11 2026. No macro, syntax, notation, axiom, sorry.
-/
import Derived.Test.YtalbncnhmofgaaaChecked
import GoSem.Claim
import GoSem.ClaimJoined
import GoSem.ClaimMapViews
import Derived.JoinedTies
import Derived.KernelRfl
namespace Go.Proofs.Ytalbncnhmofgaaa
/- THE CELL 'sum', in the pinned program and in every row, IS THE sha256 OF THE DUMP (.gsa) THAT YtalbncnhmofgaaaProg.lean LOADS. Nothing in Lean hashes anything: it is a label: what it is worth is what the hold of that sum in a sandbox is worth. -/
noncomputable def Try.pinned : Pinned := { name := "ytalbncnhmofgaaa", sum := "e13b4207608dd82b05ec813eee9e61f3c1089304e950f089088f377ec3503418", checked := Try.checked }
namespace Rows
def none {H : Type} : Left H := { results := [], args := [] }

/-- 'hauberklaw11.TwinFrames': WHATEVER THE INPUT: true; the input reads as it did. -/
def twinFramesSpec : ChangeSpec := { name := "twinFrames", fn := fun _ => fun
  | [d1, d2] => { results := [.lit (.bool true)], args := [d1, d2] }
  | _ => none }
def twinFramesRow : OpenClaim := { program := "ytalbncnhmofgaaa", sum := "e13b4207608dd82b05ec813eee9e61f3c1089304e950f089088f377ec3503418", func := "hauberk/hauberklaw11.TwinFrames", spec := "twinFrames", apart := false }
def TwinFramesSaid : Prop := twinFramesRow.holds Try.pinned (OpenSpec.ofChange twinFramesSpec)

/-- ITS FALSE NEIGHBOUR: 'it returns false'. Refute it at one input. -/
def twinFramesWrong : ChangeSpec := { name := "twinFrames", fn := fun _ => fun
  | [d1, d2] => { results := [.lit (.bool false)], args := [d1, d2] }
  | _ => none }
def TwinFramesWrongFalsely : Prop := twinFramesRow.holds Try.pinned (OpenSpec.ofChange twinFramesWrong)

/-- 'hauberklaw11.TwinBack': WHATEVER THE INPUT: true; the input reads as it did. -/
def twinBackSpec : ChangeSpec := { name := "twinBack", fn := fun _ => fun
  | [d1, d2] => { results := [.lit (.bool true)], args := [d1, d2] }
  | _ => none }
def twinBackRow : OpenClaim := { program := "ytalbncnhmofgaaa", sum := "e13b4207608dd82b05ec813eee9e61f3c1089304e950f089088f377ec3503418", func := "hauberk/hauberklaw11.TwinBack", spec := "twinBack", apart := false }
def TwinBackSaid : Prop := twinBackRow.holds Try.pinned (OpenSpec.ofChange twinBackSpec)

/-- ITS FALSE NEIGHBOUR: 'it returns false'. Refute it at one input. -/
def twinBackWrong : ChangeSpec := { name := "twinBack", fn := fun _ => fun
  | [d1, d2] => { results := [.lit (.bool false)], args := [d1, d2] }
  | _ => none }
def TwinBackWrongFalsely : Prop := twinBackRow.holds Try.pinned (OpenSpec.ofChange twinBackWrong)

/-- 'hauberklaw11.TwinOnce': WHATEVER THE INPUT: true; the input reads as it did. -/
def twinOnceSpec : ChangeSpec := { name := "twinOnce", fn := fun _ => fun
  | [d1, d2] => { results := [.lit (.bool true)], args := [d1, d2] }
  | _ => none }
def twinOnceRow : OpenClaim := { program := "ytalbncnhmofgaaa", sum := "e13b4207608dd82b05ec813eee9e61f3c1089304e950f089088f377ec3503418", func := "hauberk/hauberklaw11.TwinOnce", spec := "twinOnce", apart := false }
def TwinOnceSaid : Prop := twinOnceRow.holds Try.pinned (OpenSpec.ofChange twinOnceSpec)

/-- ITS FALSE NEIGHBOUR: 'it returns false'. Refute it at one input. -/
def twinOnceWrong : ChangeSpec := { name := "twinOnce", fn := fun _ => fun
  | [d1, d2] => { results := [.lit (.bool false)], args := [d1, d2] }
  | _ => none }
def TwinOnceWrongFalsely : Prop := twinOnceRow.holds Try.pinned (OpenSpec.ofChange twinOnceWrong)

/-- 'hauberklaw11.TwinWell': WHATEVER THE INPUT: true; the input reads as it did. -/
def twinWellSpec : ChangeSpec := { name := "twinWell", fn := fun _ => fun
  | [d1, d2] => { results := [.lit (.bool true)], args := [d1, d2] }
  | _ => none }
def twinWellRow : OpenClaim := { program := "ytalbncnhmofgaaa", sum := "e13b4207608dd82b05ec813eee9e61f3c1089304e950f089088f377ec3503418", func := "hauberk/hauberklaw11.TwinWell", spec := "twinWell", apart := false }
def TwinWellSaid : Prop := twinWellRow.holds Try.pinned (OpenSpec.ofChange twinWellSpec)

/-- ITS FALSE NEIGHBOUR: 'it returns false'. Refute it at one input. -/
def twinWellWrong : ChangeSpec := { name := "twinWell", fn := fun _ => fun
  | [d1, d2] => { results := [.lit (.bool false)], args := [d1, d2] }
  | _ => none }
def TwinWellWrongFalsely : Prop := twinWellRow.holds Try.pinned (OpenSpec.ofChange twinWellWrong)

/-- 'hauberklaw11.TwinTurns': WHATEVER THE INPUT: true; the input reads as it did. -/
def twinTurnsSpec : ChangeSpec := { name := "twinTurns", fn := fun _ => fun
  | [d1, d2, d3] => { results := [.lit (.bool true)], args := [d1, d2, d3] }
  | _ => none }
def twinTurnsRow : OpenClaim := { program := "ytalbncnhmofgaaa", sum := "e13b4207608dd82b05ec813eee9e61f3c1089304e950f089088f377ec3503418", func := "hauberk/hauberklaw11.TwinTurns", spec := "twinTurns", apart := false }
def TwinTurnsSaid : Prop := twinTurnsRow.holds Try.pinned (OpenSpec.ofChange twinTurnsSpec)

/-- ITS FALSE NEIGHBOUR: 'it returns false'. Refute it at one input. -/
def twinTurnsWrong : ChangeSpec := { name := "twinTurns", fn := fun _ => fun
  | [d1, d2, d3] => { results := [.lit (.bool false)], args := [d1, d2, d3] }
  | _ => none }
def TwinTurnsWrongFalsely : Prop := twinTurnsRow.holds Try.pinned (OpenSpec.ofChange twinTurnsWrong)

/-- 'hauberklaw11.TwinDeeds': WHATEVER THE INPUT: true; the input reads as it did. -/
def twinDeedsSpec : ChangeSpec := { name := "twinDeeds", fn := fun _ => fun
  | [d1, d2] => { results := [.lit (.bool true)], args := [d1, d2] }
  | _ => none }
def twinDeedsRow : OpenClaim := { program := "ytalbncnhmofgaaa", sum := "e13b4207608dd82b05ec813eee9e61f3c1089304e950f089088f377ec3503418", func := "hauberk/hauberklaw11.TwinDeeds", spec := "twinDeeds", apart := false }
def TwinDeedsSaid : Prop := twinDeedsRow.holds Try.pinned (OpenSpec.ofChange twinDeedsSpec)

/-- ITS FALSE NEIGHBOUR: 'it returns false'. Refute it at one input. -/
def twinDeedsWrong : ChangeSpec := { name := "twinDeeds", fn := fun _ => fun
  | [d1, d2] => { results := [.lit (.bool false)], args := [d1, d2] }
  | _ => none }
def TwinDeedsWrongFalsely : Prop := twinDeedsRow.holds Try.pinned (OpenSpec.ofChange twinDeedsWrong)

/-- 'hauberklaw11.TwinKnown': WHATEVER THE INPUT: true; the input reads as it did. -/
def twinKnownSpec : ChangeSpec := { name := "twinKnown", fn := fun _ => fun
  | [] => { results := [.lit (.bool true)], args := [] }
  | _ => none }
def twinKnownRow : OpenClaim := { program := "ytalbncnhmofgaaa", sum := "e13b4207608dd82b05ec813eee9e61f3c1089304e950f089088f377ec3503418", func := "hauberk/hauberklaw11.TwinKnown", spec := "twinKnown", apart := false }
def TwinKnownSaid : Prop := twinKnownRow.holds Try.pinned (OpenSpec.ofChange twinKnownSpec)

/-- ITS FALSE NEIGHBOUR: 'it returns false'. Refute it at one input. -/
def twinKnownWrong : ChangeSpec := { name := "twinKnown", fn := fun _ => fun
  | [] => { results := [.lit (.bool false)], args := [] }
  | _ => none }
def TwinKnownWrongFalsely : Prop := twinKnownRow.holds Try.pinned (OpenSpec.ofChange twinKnownWrong)

/- THE SECOND FORM. 'bulk': how many values and letters a reading holds, each counted each time it is reached (what is shared counts as often as it is met; a slice's spare places count too). A statement '..UptoSaid' is the law's where the arguments, and the package variables that the reading takes, are together of bulk at most 1048576: NARROWER than '..Said'. Prove '..Said' where nothing that the law and all that it calls make is longer than what came in: it says more and counts as full. Else prove '..UptoSaid'. A law counts once. -/
mutual
def uptoBulk {H : Type} : DataW H → Nat
  | .lit (.string bytes) => bytes.length + 1
  | .lit _ => 1
  | .nil => 1
  | .ptr d => uptoBulk d + 1
  | .slice elems spare => uptoBulkAll elems + uptoBulkAll spare + 1
  | .agg parts => uptoBulkAll parts + 1
  | .iface _ d => uptoBulk d + 1
  | .map entries => uptoBulkEntries entries + 1
  | .held _ => 1
def uptoBulkAll {H : Type} : List (DataW H) → Nat
  | [] => 0
  | d :: r => uptoBulk d + uptoBulkAll r
def uptoBulkEntries {H : Type} : List (Lit × DataW H) → Nat
  | [] => 0
  | x :: r => uptoBulkEntry x + uptoBulkEntries r
def uptoBulkEntry {H : Type} : Lit × DataW H → Nat
  | (.string bytes, d) => bytes.length + uptoBulk d + 1
  | (_, d) => uptoBulk d + 1
 end
def uptoSmall : (H : Type) → List (DataW H) → Bool := fun _ ds => decide (uptoBulkAll ds ≤ 1048576)
def OpenSpec.upto (s : _root_.Go.ChangeSpec) : _root_.Go.OpenSpec := { _root_.Go.OpenSpec.ofChange s with cond := some uptoSmall }

/-- 'hauberklaw11.TwinFrames', WHERE WHAT IT READS IS OF BULK AT MOST 1048576: true; the input reads as it did. -/
def twinFramesUptoRow : OpenClaim := { program := "ytalbncnhmofgaaa", sum := "e13b4207608dd82b05ec813eee9e61f3c1089304e950f089088f377ec3503418", func := "hauberk/hauberklaw11.TwinFrames", spec := "twinFrames", apart := false, narrowed := true }
def TwinFramesUptoSaid : Prop := twinFramesUptoRow.holds Try.pinned (OpenSpec.upto twinFramesSpec)

/-- 'hauberklaw11.TwinBack', WHERE WHAT IT READS IS OF BULK AT MOST 1048576: true; the input reads as it did. -/
def twinBackUptoRow : OpenClaim := { program := "ytalbncnhmofgaaa", sum := "e13b4207608dd82b05ec813eee9e61f3c1089304e950f089088f377ec3503418", func := "hauberk/hauberklaw11.TwinBack", spec := "twinBack", apart := false, narrowed := true }
def TwinBackUptoSaid : Prop := twinBackUptoRow.holds Try.pinned (OpenSpec.upto twinBackSpec)

/-- 'hauberklaw11.TwinOnce', WHERE WHAT IT READS IS OF BULK AT MOST 1048576: true; the input reads as it did. -/
def twinOnceUptoRow : OpenClaim := { program := "ytalbncnhmofgaaa", sum := "e13b4207608dd82b05ec813eee9e61f3c1089304e950f089088f377ec3503418", func := "hauberk/hauberklaw11.TwinOnce", spec := "twinOnce", apart := false, narrowed := true }
def TwinOnceUptoSaid : Prop := twinOnceUptoRow.holds Try.pinned (OpenSpec.upto twinOnceSpec)

/-- 'hauberklaw11.TwinWell', WHERE WHAT IT READS IS OF BULK AT MOST 1048576: true; the input reads as it did. -/
def twinWellUptoRow : OpenClaim := { program := "ytalbncnhmofgaaa", sum := "e13b4207608dd82b05ec813eee9e61f3c1089304e950f089088f377ec3503418", func := "hauberk/hauberklaw11.TwinWell", spec := "twinWell", apart := false, narrowed := true }
def TwinWellUptoSaid : Prop := twinWellUptoRow.holds Try.pinned (OpenSpec.upto twinWellSpec)

/-- 'hauberklaw11.TwinTurns', WHERE WHAT IT READS IS OF BULK AT MOST 1048576: true; the input reads as it did. -/
def twinTurnsUptoRow : OpenClaim := { program := "ytalbncnhmofgaaa", sum := "e13b4207608dd82b05ec813eee9e61f3c1089304e950f089088f377ec3503418", func := "hauberk/hauberklaw11.TwinTurns", spec := "twinTurns", apart := false, narrowed := true }
def TwinTurnsUptoSaid : Prop := twinTurnsUptoRow.holds Try.pinned (OpenSpec.upto twinTurnsSpec)

/-- 'hauberklaw11.TwinDeeds', WHERE WHAT IT READS IS OF BULK AT MOST 1048576: true; the input reads as it did. -/
def twinDeedsUptoRow : OpenClaim := { program := "ytalbncnhmofgaaa", sum := "e13b4207608dd82b05ec813eee9e61f3c1089304e950f089088f377ec3503418", func := "hauberk/hauberklaw11.TwinDeeds", spec := "twinDeeds", apart := false, narrowed := true }
def TwinDeedsUptoSaid : Prop := twinDeedsUptoRow.holds Try.pinned (OpenSpec.upto twinDeedsSpec)

/-- 'hauberklaw11.TwinKnown', WHERE WHAT IT READS IS OF BULK AT MOST 1048576: true; the input reads as it did. -/
def twinKnownUptoRow : OpenClaim := { program := "ytalbncnhmofgaaa", sum := "e13b4207608dd82b05ec813eee9e61f3c1089304e950f089088f377ec3503418", func := "hauberk/hauberklaw11.TwinKnown", spec := "twinKnown", apart := false, narrowed := true }
def TwinKnownUptoSaid : Prop := twinKnownUptoRow.holds Try.pinned (OpenSpec.upto twinKnownSpec)

end Rows
end Go.Proofs.Ytalbncnhmofgaaa
