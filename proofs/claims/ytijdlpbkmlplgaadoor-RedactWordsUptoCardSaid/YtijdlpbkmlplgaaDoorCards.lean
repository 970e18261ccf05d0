/-
  DERIVED. GIVEN WITH THE SEED: THE CARDS: each row of YtijdlpbkmlplgaaDoorRows.lean that lists a variable, with what it lists TIED to the program's text (the seventh form; the later family's looks); each row that meets fmt, with fmt's text TOLD by the authors' own Lean function (tested against real Go, not proved from fmt's source: count such statements apart). THE CARD IS WHAT COUNTS. Prove the row's statement (the work); the ties are given (YtijdlpbkmlplgaaDoorTie.lean); close each card by the builder's one call (the guide's Derived/Test/ToyasCard.lean, 'card_holds'). Laid BY PROGRAM, IN A SANDBOX (cutbox-door.mjs). By AI agents, Wed Nov 11 2026. No macro, syntax, notation, axiom, sorry.
-/
import Derived.Test.YtijdlpbkmlplgaaDoorRows
import GoSem.ClaimSeven
namespace Go.Proofs.YtijdlpbkmlplgaaDoor
namespace Rows

/-- THE TIED CARD OF 'erratalaw20.RedactWords'. -/
def redactWordsCard : Claim7 := { stood := { row := redactWordsRow, standIns := [], harness := (true, "bf2641a2cae91c0d7299acf1d7e904323645c71ce670b2de1681ef4eca9408ff"), looks := false }, kinds := [], alts := [], laidByText := true, laidKinds := [.data, .pinned], laidTests := true, laidLooks := .later }
def RedactWordsCardSaid : Prop := Claim7.holds Tryd.pinned (.plain (OpenSpec.ofChange redactWordsSpec)) redactWordsCard

/-- THE SECOND FORM's CARD OF 'erratalaw20.RedactWords'. -/
def redactWordsUptoCard : Claim7 := { stood := { row := redactWordsUptoRow, standIns := [], harness := (true, "bf2641a2cae91c0d7299acf1d7e904323645c71ce670b2de1681ef4eca9408ff"), looks := false }, kinds := [], alts := [], laidByText := true, laidKinds := [.data, .pinned], laidTests := true, laidLooks := .later }
def RedactWordsUptoCardSaid : Prop := Claim7.holds Tryd.pinned (.plain (OpenSpec.upto redactWordsSpec)) redactWordsUptoCard
end Rows
end Go.Proofs.YtijdlpbkmlplgaaDoor
