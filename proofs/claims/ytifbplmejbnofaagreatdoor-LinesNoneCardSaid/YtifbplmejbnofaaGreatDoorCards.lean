/-
  DERIVED. GIVEN WITH THE SEED: THE CARDS: each row of YtifbplmejbnofaaGreatDoorRows.lean that lists a variable, with what it lists TIED to the program's text (the seventh form; the later family's looks); each row that meets fmt, with fmt's text TOLD by the authors' own Lean function (tested against real Go, not proved from fmt's source: count such statements apart). THE CARD IS WHAT COUNTS. Prove the row's statement (the work); the ties are given (YtifbplmejbnofaaGreatDoorTie.lean); close each card by the builder's one call (the guide's Derived/Test/ToyasCard.lean, 'card_holds'). Laid BY PROGRAM, IN A SANDBOX (cutbox-door.mjs). By AI agents, Wed Nov 11 2026. No macro, syntax, notation, axiom, sorry.
-/
import Derived.Test.YtifbplmejbnofaaGreatDoorRows
import GoSem.ClaimSeven
namespace Go.Proofs.YtifbplmejbnofaaGreatDoor
namespace Rows

/-- THE TIED CARD OF 'erratalaw15.LinesNone'. -/
def linesNoneCard : Claim7 := { stood := { row := linesNoneRow, standIns := [], harness := (true, "5cd023395efd96bf5ff69ece2879a75e4e62ea83ec1ac4b9afd77a045fac3002"), looks := true }, kinds := [], alts := [], laidByText := true, laidKinds := [.data, .data, .data, .data, .listed, .data, .pinned, .pinned], laidTests := true, laidLooks := .later }
def LinesNoneCardSaid : Prop := Claim7.holds Tryz.pinned (.plain (OpenSpec.ofChange linesNoneSpec)) linesNoneCard

/-- THE TIED CARD OF 'erratalaw29.FingerNames'. -/
def fingerNamesCard : Claim7 := { stood := { row := fingerNamesRow, standIns := [], harness := (true, "5cd023395efd96bf5ff69ece2879a75e4e62ea83ec1ac4b9afd77a045fac3002"), looks := true }, kinds := [], alts := [], laidByText := true, laidKinds := [.data, .data, .data, .data, .listed, .data, .pinned, .pinned], laidTests := true, laidLooks := .later }
def FingerNamesCardSaid : Prop := Claim7.holds Tryz.pinned (.plain (OpenSpec.ofChange fingerNamesSpec)) fingerNamesCard

/-- THE TIED CARD OF 'erratalaw20.RedactNames'. -/
def redactNamesCard : Claim7 := { stood := { row := redactNamesRow, standIns := [], harness := (true, "5cd023395efd96bf5ff69ece2879a75e4e62ea83ec1ac4b9afd77a045fac3002"), looks := true }, kinds := [], alts := [], laidByText := true, laidKinds := [.data, .data, .data, .data, .listed, .data, .data, .pinned, .pinned], laidTests := true, laidLooks := .later }
def RedactNamesCardSaid : Prop := Claim7.holds Tryz.pinned (.plain (OpenSpec.ofChange redactNamesSpec)) redactNamesCard

/-- THE SECOND FORM's CARD OF 'erratalaw15.LinesNone'. -/
def linesNoneUptoCard : Claim7 := { stood := { row := linesNoneUptoRow, standIns := [], harness := (true, "5cd023395efd96bf5ff69ece2879a75e4e62ea83ec1ac4b9afd77a045fac3002"), looks := true }, kinds := [], alts := [], laidByText := true, laidKinds := [.data, .data, .data, .data, .listed, .data, .pinned, .pinned], laidTests := true, laidLooks := .later }
def LinesNoneUptoCardSaid : Prop := Claim7.holds Tryz.pinned (.plain (OpenSpec.upto linesNoneSpec)) linesNoneUptoCard

/-- THE SECOND FORM's CARD OF 'erratalaw29.FingerNames'. -/
def fingerNamesUptoCard : Claim7 := { stood := { row := fingerNamesUptoRow, standIns := [], harness := (true, "5cd023395efd96bf5ff69ece2879a75e4e62ea83ec1ac4b9afd77a045fac3002"), looks := true }, kinds := [], alts := [], laidByText := true, laidKinds := [.data, .data, .data, .data, .listed, .data, .pinned, .pinned], laidTests := true, laidLooks := .later }
def FingerNamesUptoCardSaid : Prop := Claim7.holds Tryz.pinned (.plain (OpenSpec.upto fingerNamesSpec)) fingerNamesUptoCard

/-- THE SECOND FORM's CARD OF 'erratalaw20.RedactNames'. -/
def redactNamesUptoCard : Claim7 := { stood := { row := redactNamesUptoRow, standIns := [], harness := (true, "5cd023395efd96bf5ff69ece2879a75e4e62ea83ec1ac4b9afd77a045fac3002"), looks := true }, kinds := [], alts := [], laidByText := true, laidKinds := [.data, .data, .data, .data, .listed, .data, .data, .pinned, .pinned], laidTests := true, laidLooks := .later }
def RedactNamesUptoCardSaid : Prop := Claim7.holds Tryz.pinned (.plain (OpenSpec.upto redactNamesSpec)) redactNamesUptoCard
end Rows
end Go.Proofs.YtifbplmejbnofaaGreatDoor
