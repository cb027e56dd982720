/-
  DERIVED. GIVEN WITH THE SEED: THE CARDS: each row of YtkdlgfjpbcgnnaaDoorRows.lean that lists a variable, with what it lists TIED to the program's text (the seventh form; the later family's looks); each row that meets fmt, with fmt's text TOLD by the authors' own Lean function (tested against real Go, not proved from fmt's source: count such statements apart). THE CARD IS WHAT COUNTS. Prove the row's statement (the work); the ties are given (YtkdlgfjpbcgnnaaDoorTie.lean); close each card by the builder's one call (the guide's Derived/Test/ToyasCard.lean, 'card_holds'). Laid BY PROGRAM, IN A SANDBOX (cutbox-door.mjs). By AI agents, Wed Nov 11 2026. No macro, syntax, notation, axiom, sorry.
-/
import Derived.Test.YtkdlgfjpbcgnnaaDoorRows
import GoSem.ClaimSeven
namespace Go.Proofs.YtkdlgfjpbcgnnaaDoor
namespace Rows

/-- THE TIED CARD OF 'hauberklaw03.CrewOf'. -/
def crewOfCard : Claim7 := { stood := { row := crewOfRow, standIns := [], harness := (true, "f94f2f988b29d9389fed99bd020861b514a9f55c761e054d5d42cb239c4bf192"), looks := false }, kinds := [], alts := [], laidByText := true, laidKinds := [.data, .data], laidTests := true, laidLooks := .later }
def CrewOfCardSaid : Prop := Claim7.holds Tryd.pinned (.plain (OpenSpec.ofChange crewOfSpec)) crewOfCard

/-- THE TIED CARD OF 'hauberklaw03.CrewAround'. -/
def crewAroundCard : Claim7 := { stood := { row := crewAroundRow, standIns := [], harness := (true, "f94f2f988b29d9389fed99bd020861b514a9f55c761e054d5d42cb239c4bf192"), looks := false }, kinds := [], alts := [], laidByText := true, laidKinds := [.data, .data], laidTests := true, laidLooks := .later }
def CrewAroundCardSaid : Prop := Claim7.holds Tryd.pinned (.plain (OpenSpec.ofChange crewAroundSpec)) crewAroundCard

/-- THE TIED CARD OF 'hauberklaw03.CrewTogether'. -/
def crewTogetherCard : Claim7 := { stood := { row := crewTogetherRow, standIns := [], harness := (true, "f94f2f988b29d9389fed99bd020861b514a9f55c761e054d5d42cb239c4bf192"), looks := false }, kinds := [], alts := [], laidByText := true, laidKinds := [.data, .data], laidTests := true, laidLooks := .later }
def CrewTogetherCardSaid : Prop := Claim7.holds Tryd.pinned (.plain (OpenSpec.ofChange crewTogetherSpec)) crewTogetherCard

/-- THE TIED CARD OF 'hauberklaw03.CrewTells'. -/
def crewTellsCard : Claim7 := { stood := { row := crewTellsRow, standIns := [], harness := (true, "f94f2f988b29d9389fed99bd020861b514a9f55c761e054d5d42cb239c4bf192"), looks := false }, kinds := [], alts := [], laidByText := true, laidKinds := [.data, .data], laidTests := true, laidLooks := .later }
def CrewTellsCardSaid : Prop := Claim7.holds Tryd.pinned (.plain (OpenSpec.ofChange crewTellsSpec)) crewTellsCard

/-- THE TIED CARD OF 'hauberklaw03.CrewBack'. -/
def crewBackCard : Claim7 := { stood := { row := crewBackRow, standIns := [], harness := (true, "f94f2f988b29d9389fed99bd020861b514a9f55c761e054d5d42cb239c4bf192"), looks := false }, kinds := [], alts := [], laidByText := true, laidKinds := [.data, .data], laidTests := true, laidLooks := .later }
def CrewBackCardSaid : Prop := Claim7.holds Tryd.pinned (.plain (OpenSpec.ofChange crewBackSpec)) crewBackCard

/-- THE TIED CARD OF 'hauberklaw03.CrewKnown'. -/
def crewKnownCard : Claim7 := { stood := { row := crewKnownRow, standIns := [], harness := (true, "f94f2f988b29d9389fed99bd020861b514a9f55c761e054d5d42cb239c4bf192"), looks := false }, kinds := [], alts := [], laidByText := true, laidKinds := [.data, .data], laidTests := true, laidLooks := .later }
def CrewKnownCardSaid : Prop := Claim7.holds Tryd.pinned (.plain (OpenSpec.ofChange crewKnownSpec)) crewKnownCard

/-- THE SECOND FORM's CARD OF 'hauberklaw03.CrewOf'. -/
def crewOfUptoCard : Claim7 := { stood := { row := crewOfUptoRow, standIns := [], harness := (true, "f94f2f988b29d9389fed99bd020861b514a9f55c761e054d5d42cb239c4bf192"), looks := false }, kinds := [], alts := [], laidByText := true, laidKinds := [.data, .data], laidTests := true, laidLooks := .later }
def CrewOfUptoCardSaid : Prop := Claim7.holds Tryd.pinned (.plain (OpenSpec.upto crewOfSpec)) crewOfUptoCard

/-- THE SECOND FORM's CARD OF 'hauberklaw03.CrewAround'. -/
def crewAroundUptoCard : Claim7 := { stood := { row := crewAroundUptoRow, standIns := [], harness := (true, "f94f2f988b29d9389fed99bd020861b514a9f55c761e054d5d42cb239c4bf192"), looks := false }, kinds := [], alts := [], laidByText := true, laidKinds := [.data, .data], laidTests := true, laidLooks := .later }
def CrewAroundUptoCardSaid : Prop := Claim7.holds Tryd.pinned (.plain (OpenSpec.upto crewAroundSpec)) crewAroundUptoCard

/-- THE SECOND FORM's CARD OF 'hauberklaw03.CrewTogether'. -/
def crewTogetherUptoCard : Claim7 := { stood := { row := crewTogetherUptoRow, standIns := [], harness := (true, "f94f2f988b29d9389fed99bd020861b514a9f55c761e054d5d42cb239c4bf192"), looks := false }, kinds := [], alts := [], laidByText := true, laidKinds := [.data, .data], laidTests := true, laidLooks := .later }
def CrewTogetherUptoCardSaid : Prop := Claim7.holds Tryd.pinned (.plain (OpenSpec.upto crewTogetherSpec)) crewTogetherUptoCard

/-- THE SECOND FORM's CARD OF 'hauberklaw03.CrewTells'. -/
def crewTellsUptoCard : Claim7 := { stood := { row := crewTellsUptoRow, standIns := [], harness := (true, "f94f2f988b29d9389fed99bd020861b514a9f55c761e054d5d42cb239c4bf192"), looks := false }, kinds := [], alts := [], laidByText := true, laidKinds := [.data, .data], laidTests := true, laidLooks := .later }
def CrewTellsUptoCardSaid : Prop := Claim7.holds Tryd.pinned (.plain (OpenSpec.upto crewTellsSpec)) crewTellsUptoCard

/-- THE SECOND FORM's CARD OF 'hauberklaw03.CrewBack'. -/
def crewBackUptoCard : Claim7 := { stood := { row := crewBackUptoRow, standIns := [], harness := (true, "f94f2f988b29d9389fed99bd020861b514a9f55c761e054d5d42cb239c4bf192"), looks := false }, kinds := [], alts := [], laidByText := true, laidKinds := [.data, .data], laidTests := true, laidLooks := .later }
def CrewBackUptoCardSaid : Prop := Claim7.holds Tryd.pinned (.plain (OpenSpec.upto crewBackSpec)) crewBackUptoCard

/-- THE SECOND FORM's CARD OF 'hauberklaw03.CrewKnown'. -/
def crewKnownUptoCard : Claim7 := { stood := { row := crewKnownUptoRow, standIns := [], harness := (true, "f94f2f988b29d9389fed99bd020861b514a9f55c761e054d5d42cb239c4bf192"), looks := false }, kinds := [], alts := [], laidByText := true, laidKinds := [.data, .data], laidTests := true, laidLooks := .later }
def CrewKnownUptoCardSaid : Prop := Claim7.holds Tryd.pinned (.plain (OpenSpec.upto crewKnownSpec)) crewKnownUptoCard
end Rows
end Go.Proofs.YtkdlgfjpbcgnnaaDoor
