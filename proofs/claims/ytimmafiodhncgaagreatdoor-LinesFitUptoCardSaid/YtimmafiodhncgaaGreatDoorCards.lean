/-
  DERIVED. GIVEN WITH THE SEED: THE CARDS: each row of YtimmafiodhncgaaGreatDoorRows.lean that lists a variable, with what it lists TIED to the program's text (the seventh form; the later family's looks); each row that meets fmt, with fmt's text TOLD by the authors' own Lean function (tested against real Go, not proved from fmt's source: count such statements apart). THE CARD IS WHAT COUNTS. Prove the row's statement (the work); the ties are given (YtimmafiodhncgaaGreatDoorTie.lean); close each card by the builder's one call (the guide's Derived/Test/ToyasCard.lean, 'card_holds'). Laid BY PROGRAM, IN A SANDBOX (cutbox-door.mjs). By AI agents, Wed Nov 11 2026. No macro, syntax, notation, axiom, sorry.
-/
import Derived.Test.YtimmafiodhncgaaGreatDoorRows
import GoSem.ClaimSeven
namespace Go.Proofs.YtimmafiodhncgaaGreatDoor
namespace Rows

/-- THE TIED CARD OF 'erratalaw29.FingerSpaces'. -/
def fingerSpacesCard : Claim7 := { stood := { row := fingerSpacesRow, standIns := [], harness := (true, "454a9a1e053cf2afe381d363efbf0fcfc3be37427db52aa2f09092a0f40ffa18"), looks := true }, kinds := [], alts := [], laidByText := true, laidKinds := [.data, .data, .data, .data, .listed, .data, .pinned, .pinned], laidTests := true, laidLooks := .later }
def FingerSpacesCardSaid : Prop := Claim7.holds Tryz.pinned (.plain (OpenSpec.ofChange fingerSpacesSpec)) fingerSpacesCard

/-- THE TIED CARD OF 'erratalaw20.RedactTexts'. -/
def redactTextsCard : Claim7 := { stood := { row := redactTextsRow, standIns := [], harness := (true, "454a9a1e053cf2afe381d363efbf0fcfc3be37427db52aa2f09092a0f40ffa18"), looks := true }, kinds := [], alts := [], laidByText := true, laidKinds := [.data, .data, .data, .data, .data, .listed, .data, .pinned, .pinned, .pinned], laidTests := true, laidLooks := .later }
def RedactTextsCardSaid : Prop := Claim7.holds Tryz.pinned (.plain (OpenSpec.ofChange redactTextsSpec)) redactTextsCard

/-- THE TIED CARD OF 'erratalaw15.LinesFit'. -/
def linesFitCard : Claim7 := { stood := { row := linesFitRow, standIns := [], harness := (true, "454a9a1e053cf2afe381d363efbf0fcfc3be37427db52aa2f09092a0f40ffa18"), looks := true }, kinds := [], alts := [], laidByText := true, laidKinds := [.data, .data, .data, .data, .listed, .data, .pinned, .pinned], laidTests := true, laidLooks := .later }
def LinesFitCardSaid : Prop := Claim7.holds Tryz.pinned (.plain (OpenSpec.ofChange linesFitSpec)) linesFitCard

/-- THE SECOND FORM's CARD OF 'erratalaw29.FingerSpaces'. -/
def fingerSpacesUptoCard : Claim7 := { stood := { row := fingerSpacesUptoRow, standIns := [], harness := (true, "454a9a1e053cf2afe381d363efbf0fcfc3be37427db52aa2f09092a0f40ffa18"), looks := true }, kinds := [], alts := [], laidByText := true, laidKinds := [.data, .data, .data, .data, .listed, .data, .pinned, .pinned], laidTests := true, laidLooks := .later }
def FingerSpacesUptoCardSaid : Prop := Claim7.holds Tryz.pinned (.plain (OpenSpec.upto fingerSpacesSpec)) fingerSpacesUptoCard

/-- THE SECOND FORM's CARD OF 'erratalaw20.RedactTexts'. -/
def redactTextsUptoCard : Claim7 := { stood := { row := redactTextsUptoRow, standIns := [], harness := (true, "454a9a1e053cf2afe381d363efbf0fcfc3be37427db52aa2f09092a0f40ffa18"), looks := true }, kinds := [], alts := [], laidByText := true, laidKinds := [.data, .data, .data, .data, .data, .listed, .data, .pinned, .pinned, .pinned], laidTests := true, laidLooks := .later }
def RedactTextsUptoCardSaid : Prop := Claim7.holds Tryz.pinned (.plain (OpenSpec.upto redactTextsSpec)) redactTextsUptoCard

/-- THE SECOND FORM's CARD OF 'erratalaw15.LinesFit'. -/
def linesFitUptoCard : Claim7 := { stood := { row := linesFitUptoRow, standIns := [], harness := (true, "454a9a1e053cf2afe381d363efbf0fcfc3be37427db52aa2f09092a0f40ffa18"), looks := true }, kinds := [], alts := [], laidByText := true, laidKinds := [.data, .data, .data, .data, .listed, .data, .pinned, .pinned], laidTests := true, laidLooks := .later }
def LinesFitUptoCardSaid : Prop := Claim7.holds Tryz.pinned (.plain (OpenSpec.upto linesFitSpec)) linesFitUptoCard
end Rows
end Go.Proofs.YtimmafiodhncgaaGreatDoor
