/-
  NARROWER THAN 'FOR EVERY INPUT', by the rows' own cells (each row's printed sentence says how): CrewOf: laid · CrewAround: laid · CrewTogether: laid · CrewTells: laid · CrewBack: laid · CrewKnown: laid.
  DERIVED. THE GIVEN ROWS OF THIS SEAT. 6 by the template 'for every input the law returns true; each argument reads behind the call as it read before'; 0 by the template 'total and deterministic' (their statements: YtkdlgfjpbcgnnaaDoorTotals.lean).
  GIVEN WITH THE SEED: the statements are not yours to turn. If you find one false, say at which input.
  Laid BY PROGRAM, IN A SANDBOX (cutbox-rows.mjs): the forced cells as the released guide's own fill.sh prints them over the translation a0d3d051caedbff3… (all of the seat's roots in one cut). By AI agents, Wed Nov 11 2026. No macro, syntax, notation, axiom, sorry.
-/
import Derived.Test.YtkdlgfjpbcgnnaaDoorChecked
import GoSem.Claim
import GoSem.ClaimJoined
import GoSem.ClaimMapViews
import Derived.JoinedTies
import Derived.KernelRfl
namespace Go.Proofs.YtkdlgfjpbcgnnaaDoor
/- THE CELL 'sum', in the pinned program and in every row, IS THE sha256 OF THE DUMP (.gsa) THAT YtkdlgfjpbcgnnaaDoorProg.lean LOADS. Nothing in Lean hashes anything: it is a label: what it is worth is what the hold of that sum in a sandbox is worth. -/
noncomputable def Tryd.pinned : Pinned := { name := "ytkdlgfjpbcgnnaadoor", sum := "a0d3d051caedbff3444b5427d166f1d21ed579763f04df3df1938a3011e01b8a", checked := Tryd.checked }
namespace Rows
def none {H : Type} : Left H := { results := [], args := [] }

/- WHAT THE LISTED PACKAGE-LEVEL VARIABLES READ AS WHEN THE CALL BEGINS. Each datum BY PROGRAM (the guide's laid-datum.mjs) off the statement by which the dump's own 'gosem.cut.vars' lays the variable. In a bare row this is a premise. The card (YtkdlgfjpbcgnnaaDoorCards.lean) ties it to the program's text. -/
def laid_math_bits_deBruijn32tab {H : Type} : DataW H := .agg [.lit (.int .u8 0), .lit (.int .u8 1), .lit (.int .u8 28), .lit (.int .u8 2), .lit (.int .u8 29), .lit (.int .u8 14), .lit (.int .u8 24), .lit (.int .u8 3), .lit (.int .u8 30), .lit (.int .u8 22), .lit (.int .u8 20), .lit (.int .u8 15), .lit (.int .u8 25), .lit (.int .u8 17), .lit (.int .u8 4), .lit (.int .u8 8), .lit (.int .u8 31), .lit (.int .u8 27), .lit (.int .u8 13), .lit (.int .u8 23), .lit (.int .u8 21), .lit (.int .u8 19), .lit (.int .u8 16), .lit (.int .u8 7), .lit (.int .u8 26), .lit (.int .u8 12), .lit (.int .u8 18), .lit (.int .u8 6), .lit (.int .u8 11), .lit (.int .u8 5), .lit (.int .u8 10), .lit (.int .u8 9)]
def laid_math_bits_deBruijn64tab {H : Type} : DataW H := .agg [.lit (.int .u8 0), .lit (.int .u8 1), .lit (.int .u8 56), .lit (.int .u8 2), .lit (.int .u8 57), .lit (.int .u8 49), .lit (.int .u8 28), .lit (.int .u8 3), .lit (.int .u8 61), .lit (.int .u8 58), .lit (.int .u8 42), .lit (.int .u8 50), .lit (.int .u8 38), .lit (.int .u8 29), .lit (.int .u8 17), .lit (.int .u8 4), .lit (.int .u8 62), .lit (.int .u8 47), .lit (.int .u8 59), .lit (.int .u8 36), .lit (.int .u8 45), .lit (.int .u8 43), .lit (.int .u8 51), .lit (.int .u8 22), .lit (.int .u8 53), .lit (.int .u8 39), .lit (.int .u8 33), .lit (.int .u8 30), .lit (.int .u8 24), .lit (.int .u8 18), .lit (.int .u8 12), .lit (.int .u8 5), .lit (.int .u8 63), .lit (.int .u8 55), .lit (.int .u8 48), .lit (.int .u8 27), .lit (.int .u8 60), .lit (.int .u8 41), .lit (.int .u8 37), .lit (.int .u8 16), .lit (.int .u8 46), .lit (.int .u8 35), .lit (.int .u8 44), .lit (.int .u8 21), .lit (.int .u8 52), .lit (.int .u8 32), .lit (.int .u8 23), .lit (.int .u8 11), .lit (.int .u8 54), .lit (.int .u8 26), .lit (.int .u8 40), .lit (.int .u8 15), .lit (.int .u8 34), .lit (.int .u8 20), .lit (.int .u8 31), .lit (.int .u8 10), .lit (.int .u8 25), .lit (.int .u8 14), .lit (.int .u8 19), .lit (.int .u8 9), .lit (.int .u8 13), .lit (.int .u8 8), .lit (.int .u8 7), .lit (.int .u8 6)]

/-- 'hauberklaw03.CrewOf': WHATEVER THE INPUT: true; the input reads as it did. -/
def crewOfSpec : ChangeSpec := { name := "crewOf", fn := fun _ => fun
  | [d] => { results := [.lit (.bool true)], args := [d] }
  | _ => none }
def crewOfRow : OpenClaim := { program := "ytkdlgfjpbcgnnaadoor", sum := "a0d3d051caedbff3444b5427d166f1d21ed579763f04df3df1938a3011e01b8a", func := "hauberk/hauberklaw03.CrewOf", spec := "crewOf", named := ["math/bits.deBruijn32tab", "math/bits.deBruijn64tab"], apart := false, laid := [("math/bits.deBruijn32tab", laid_math_bits_deBruijn32tab), ("math/bits.deBruijn64tab", laid_math_bits_deBruijn64tab)] }
def CrewOfSaid : Prop := crewOfRow.holds Tryd.pinned (OpenSpec.ofChange crewOfSpec)

/-- ITS FALSE NEIGHBOUR: 'it returns false'. Refute it at one input. -/
def crewOfWrong : ChangeSpec := { name := "crewOf", fn := fun _ => fun
  | [d] => { results := [.lit (.bool false)], args := [d] }
  | _ => none }
def CrewOfWrongFalsely : Prop := crewOfRow.holds Tryd.pinned (OpenSpec.ofChange crewOfWrong)

/-- 'hauberklaw03.CrewAround': WHATEVER THE INPUT: true; the input reads as it did. -/
def crewAroundSpec : ChangeSpec := { name := "crewAround", fn := fun _ => fun
  | [d1, d2] => { results := [.lit (.bool true)], args := [d1, d2] }
  | _ => none }
def crewAroundRow : OpenClaim := { program := "ytkdlgfjpbcgnnaadoor", sum := "a0d3d051caedbff3444b5427d166f1d21ed579763f04df3df1938a3011e01b8a", func := "hauberk/hauberklaw03.CrewAround", spec := "crewAround", named := ["math/bits.deBruijn32tab", "math/bits.deBruijn64tab"], apart := false, laid := [("math/bits.deBruijn32tab", laid_math_bits_deBruijn32tab), ("math/bits.deBruijn64tab", laid_math_bits_deBruijn64tab)] }
def CrewAroundSaid : Prop := crewAroundRow.holds Tryd.pinned (OpenSpec.ofChange crewAroundSpec)

/-- ITS FALSE NEIGHBOUR: 'it returns false'. Refute it at one input. -/
def crewAroundWrong : ChangeSpec := { name := "crewAround", fn := fun _ => fun
  | [d1, d2] => { results := [.lit (.bool false)], args := [d1, d2] }
  | _ => none }
def CrewAroundWrongFalsely : Prop := crewAroundRow.holds Tryd.pinned (OpenSpec.ofChange crewAroundWrong)

/-- 'hauberklaw03.CrewTogether': WHATEVER THE INPUT: true; the input reads as it did. -/
def crewTogetherSpec : ChangeSpec := { name := "crewTogether", fn := fun _ => fun
  | [d1, d2] => { results := [.lit (.bool true)], args := [d1, d2] }
  | _ => none }
def crewTogetherRow : OpenClaim := { program := "ytkdlgfjpbcgnnaadoor", sum := "a0d3d051caedbff3444b5427d166f1d21ed579763f04df3df1938a3011e01b8a", func := "hauberk/hauberklaw03.CrewTogether", spec := "crewTogether", named := ["math/bits.deBruijn32tab", "math/bits.deBruijn64tab"], apart := false, laid := [("math/bits.deBruijn32tab", laid_math_bits_deBruijn32tab), ("math/bits.deBruijn64tab", laid_math_bits_deBruijn64tab)] }
def CrewTogetherSaid : Prop := crewTogetherRow.holds Tryd.pinned (OpenSpec.ofChange crewTogetherSpec)

/-- ITS FALSE NEIGHBOUR: 'it returns false'. Refute it at one input. -/
def crewTogetherWrong : ChangeSpec := { name := "crewTogether", fn := fun _ => fun
  | [d1, d2] => { results := [.lit (.bool false)], args := [d1, d2] }
  | _ => none }
def CrewTogetherWrongFalsely : Prop := crewTogetherRow.holds Tryd.pinned (OpenSpec.ofChange crewTogetherWrong)

/-- 'hauberklaw03.CrewTells': WHATEVER THE INPUT: true; the input reads as it did. -/
def crewTellsSpec : ChangeSpec := { name := "crewTells", fn := fun _ => fun
  | [d1, d2] => { results := [.lit (.bool true)], args := [d1, d2] }
  | _ => none }
def crewTellsRow : OpenClaim := { program := "ytkdlgfjpbcgnnaadoor", sum := "a0d3d051caedbff3444b5427d166f1d21ed579763f04df3df1938a3011e01b8a", func := "hauberk/hauberklaw03.CrewTells", spec := "crewTells", named := ["math/bits.deBruijn32tab", "math/bits.deBruijn64tab"], apart := false, laid := [("math/bits.deBruijn32tab", laid_math_bits_deBruijn32tab), ("math/bits.deBruijn64tab", laid_math_bits_deBruijn64tab)] }
def CrewTellsSaid : Prop := crewTellsRow.holds Tryd.pinned (OpenSpec.ofChange crewTellsSpec)

/-- ITS FALSE NEIGHBOUR: 'it returns false'. Refute it at one input. -/
def crewTellsWrong : ChangeSpec := { name := "crewTells", fn := fun _ => fun
  | [d1, d2] => { results := [.lit (.bool false)], args := [d1, d2] }
  | _ => none }
def CrewTellsWrongFalsely : Prop := crewTellsRow.holds Tryd.pinned (OpenSpec.ofChange crewTellsWrong)

/-- 'hauberklaw03.CrewBack': WHATEVER THE INPUT: true; the input reads as it did. -/
def crewBackSpec : ChangeSpec := { name := "crewBack", fn := fun _ => fun
  | [d1, d2] => { results := [.lit (.bool true)], args := [d1, d2] }
  | _ => none }
def crewBackRow : OpenClaim := { program := "ytkdlgfjpbcgnnaadoor", sum := "a0d3d051caedbff3444b5427d166f1d21ed579763f04df3df1938a3011e01b8a", func := "hauberk/hauberklaw03.CrewBack", spec := "crewBack", named := ["math/bits.deBruijn32tab", "math/bits.deBruijn64tab"], apart := false, laid := [("math/bits.deBruijn32tab", laid_math_bits_deBruijn32tab), ("math/bits.deBruijn64tab", laid_math_bits_deBruijn64tab)] }
def CrewBackSaid : Prop := crewBackRow.holds Tryd.pinned (OpenSpec.ofChange crewBackSpec)

/-- ITS FALSE NEIGHBOUR: 'it returns false'. Refute it at one input. -/
def crewBackWrong : ChangeSpec := { name := "crewBack", fn := fun _ => fun
  | [d1, d2] => { results := [.lit (.bool false)], args := [d1, d2] }
  | _ => none }
def CrewBackWrongFalsely : Prop := crewBackRow.holds Tryd.pinned (OpenSpec.ofChange crewBackWrong)

/-- 'hauberklaw03.CrewKnown': WHATEVER THE INPUT: true; the input reads as it did. -/
def crewKnownSpec : ChangeSpec := { name := "crewKnown", fn := fun _ => fun
  | [] => { results := [.lit (.bool true)], args := [] }
  | _ => none }
def crewKnownRow : OpenClaim := { program := "ytkdlgfjpbcgnnaadoor", sum := "a0d3d051caedbff3444b5427d166f1d21ed579763f04df3df1938a3011e01b8a", func := "hauberk/hauberklaw03.CrewKnown", spec := "crewKnown", named := ["math/bits.deBruijn32tab", "math/bits.deBruijn64tab"], apart := false, laid := [("math/bits.deBruijn32tab", laid_math_bits_deBruijn32tab), ("math/bits.deBruijn64tab", laid_math_bits_deBruijn64tab)] }
def CrewKnownSaid : Prop := crewKnownRow.holds Tryd.pinned (OpenSpec.ofChange crewKnownSpec)

/-- ITS FALSE NEIGHBOUR: 'it returns false'. Refute it at one input. -/
def crewKnownWrong : ChangeSpec := { name := "crewKnown", fn := fun _ => fun
  | [] => { results := [.lit (.bool false)], args := [] }
  | _ => none }
def CrewKnownWrongFalsely : Prop := crewKnownRow.holds Tryd.pinned (OpenSpec.ofChange crewKnownWrong)

/- THE SECOND FORM. 'bulk': how many values and letters a reading holds, each counted each time it is reached (what is shared counts as often as it is met; a slice's spare places count too). A statement '..UptoSaid' is the law's where the arguments, and the package variables that the reading takes, are together of bulk at most 1048576: NARROWER than '..Said'. Prove '..Said' where nothing that the law and all that it calls make is longer than what came in: it says more and counts as full. Else prove '..UptoSaid'. A law counts once. -/
mutual
def uptoBulk {H : Type} : DataW H → Nat
  | .lit (.string bytes) => bytes.length + 1
  | .lit _ => 1
  | .nil => 1
  | .ptr d => uptoBulk d + 1
  | .slice elems spare => uptoBulkAll elems + uptoBulkAll spare + 1
  | .agg parts => uptoBulkAll parts + 1
  | .iface _ d => uptoBulk d + 1
  | .map entries => uptoBulkEntries entries + 1
  | .held _ => 1
def uptoBulkAll {H : Type} : List (DataW H) → Nat
  | [] => 0
  | d :: r => uptoBulk d + uptoBulkAll r
def uptoBulkEntries {H : Type} : List (Lit × DataW H) → Nat
  | [] => 0
  | x :: r => uptoBulkEntry x + uptoBulkEntries r
def uptoBulkEntry {H : Type} : Lit × DataW H → Nat
  | (.string bytes, d) => bytes.length + uptoBulk d + 1
  | (_, d) => uptoBulk d + 1
 end
def uptoSmall : (H : Type) → List (DataW H) → Bool := fun _ ds => decide (uptoBulkAll ds ≤ 1048576)
def OpenSpec.upto (s : _root_.Go.ChangeSpec) : _root_.Go.OpenSpec := { _root_.Go.OpenSpec.ofChange s with cond := some uptoSmall }

/-- 'hauberklaw03.CrewOf', WHERE WHAT IT READS IS OF BULK AT MOST 1048576: true; the input reads as it did. -/
def crewOfUptoRow : OpenClaim := { program := "ytkdlgfjpbcgnnaadoor", sum := "a0d3d051caedbff3444b5427d166f1d21ed579763f04df3df1938a3011e01b8a", func := "hauberk/hauberklaw03.CrewOf", spec := "crewOf", named := ["math/bits.deBruijn32tab", "math/bits.deBruijn64tab"], apart := false, laid := [("math/bits.deBruijn32tab", laid_math_bits_deBruijn32tab), ("math/bits.deBruijn64tab", laid_math_bits_deBruijn64tab)], narrowed := true }
def CrewOfUptoSaid : Prop := crewOfUptoRow.holds Tryd.pinned (OpenSpec.upto crewOfSpec)

/-- 'hauberklaw03.CrewAround', WHERE WHAT IT READS IS OF BULK AT MOST 1048576: true; the input reads as it did. -/
def crewAroundUptoRow : OpenClaim := { program := "ytkdlgfjpbcgnnaadoor", sum := "a0d3d051caedbff3444b5427d166f1d21ed579763f04df3df1938a3011e01b8a", func := "hauberk/hauberklaw03.CrewAround", spec := "crewAround", named := ["math/bits.deBruijn32tab", "math/bits.deBruijn64tab"], apart := false, laid := [("math/bits.deBruijn32tab", laid_math_bits_deBruijn32tab), ("math/bits.deBruijn64tab", laid_math_bits_deBruijn64tab)], narrowed := true }
def CrewAroundUptoSaid : Prop := crewAroundUptoRow.holds Tryd.pinned (OpenSpec.upto crewAroundSpec)

/-- 'hauberklaw03.CrewTogether', WHERE WHAT IT READS IS OF BULK AT MOST 1048576: true; the input reads as it did. -/
def crewTogetherUptoRow : OpenClaim := { program := "ytkdlgfjpbcgnnaadoor", sum := "a0d3d051caedbff3444b5427d166f1d21ed579763f04df3df1938a3011e01b8a", func := "hauberk/hauberklaw03.CrewTogether", spec := "crewTogether", named := ["math/bits.deBruijn32tab", "math/bits.deBruijn64tab"], apart := false, laid := [("math/bits.deBruijn32tab", laid_math_bits_deBruijn32tab), ("math/bits.deBruijn64tab", laid_math_bits_deBruijn64tab)], narrowed := true }
def CrewTogetherUptoSaid : Prop := crewTogetherUptoRow.holds Tryd.pinned (OpenSpec.upto crewTogetherSpec)

/-- 'hauberklaw03.CrewTells', WHERE WHAT IT READS IS OF BULK AT MOST 1048576: true; the input reads as it did. -/
def crewTellsUptoRow : OpenClaim := { program := "ytkdlgfjpbcgnnaadoor", sum := "a0d3d051caedbff3444b5427d166f1d21ed579763f04df3df1938a3011e01b8a", func := "hauberk/hauberklaw03.CrewTells", spec := "crewTells", named := ["math/bits.deBruijn32tab", "math/bits.deBruijn64tab"], apart := false, laid := [("math/bits.deBruijn32tab", laid_math_bits_deBruijn32tab), ("math/bits.deBruijn64tab", laid_math_bits_deBruijn64tab)], narrowed := true }
def CrewTellsUptoSaid : Prop := crewTellsUptoRow.holds Tryd.pinned (OpenSpec.upto crewTellsSpec)

/-- 'hauberklaw03.CrewBack', WHERE WHAT IT READS IS OF BULK AT MOST 1048576: true; the input reads as it did. -/
def crewBackUptoRow : OpenClaim := { program := "ytkdlgfjpbcgnnaadoor", sum := "a0d3d051caedbff3444b5427d166f1d21ed579763f04df3df1938a3011e01b8a", func := "hauberk/hauberklaw03.CrewBack", spec := "crewBack", named := ["math/bits.deBruijn32tab", "math/bits.deBruijn64tab"], apart := false, laid := [("math/bits.deBruijn32tab", laid_math_bits_deBruijn32tab), ("math/bits.deBruijn64tab", laid_math_bits_deBruijn64tab)], narrowed := true }
def CrewBackUptoSaid : Prop := crewBackUptoRow.holds Tryd.pinned (OpenSpec.upto crewBackSpec)

/-- 'hauberklaw03.CrewKnown', WHERE WHAT IT READS IS OF BULK AT MOST 1048576: true; the input reads as it did. -/
def crewKnownUptoRow : OpenClaim := { program := "ytkdlgfjpbcgnnaadoor", sum := "a0d3d051caedbff3444b5427d166f1d21ed579763f04df3df1938a3011e01b8a", func := "hauberk/hauberklaw03.CrewKnown", spec := "crewKnown", named := ["math/bits.deBruijn32tab", "math/bits.deBruijn64tab"], apart := false, laid := [("math/bits.deBruijn32tab", laid_math_bits_deBruijn32tab), ("math/bits.deBruijn64tab", laid_math_bits_deBruijn64tab)], narrowed := true }
def CrewKnownUptoSaid : Prop := crewKnownUptoRow.holds Tryd.pinned (OpenSpec.upto crewKnownSpec)

end Rows
end Go.Proofs.YtkdlgfjpbcgnnaaDoor
