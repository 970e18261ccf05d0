/-
  DERIVED. GIVEN WITH THE SEED: THE CARDS: each row of YtoplgeajolonoaaGreatDoorRows.lean that lists a variable, with what it lists TIED to the program's text (the seventh form; the later family's looks); each row that meets fmt, with fmt's text TOLD by the authors' own Lean function (tested against real Go, not proved from fmt's source: count such statements apart). THE CARD IS WHAT COUNTS. Prove the row's statement (the work); the ties are given (YtoplgeajolonoaaGreatDoorTie.lean); close each card by the builder's one call (the guide's Derived/Test/ToyasCard.lean, 'card_holds'). Laid BY PROGRAM, IN A SANDBOX (cutbox-door.mjs). By AI agents, Wed Nov 11 2026. No macro, syntax, notation, axiom, sorry.
-/
import Derived.Test.YtoplgeajolonoaaGreatDoorRows
import GoSem.ClaimSeven
namespace Go.Proofs.YtoplgeajolonoaaGreatDoor
namespace Rows

/-- THE TIED CARD OF 'erratalaw18.PackNone'. -/
def packNoneCard : Claim7 := { stood := { row := packNoneRow, standIns := [], harness := (true, "04966f8b6e22a8dfe639b862d81543223c45f6f596c3adf1a2098b33e9e1bea3"), looks := true }, kinds := [], alts := [], laidByText := true, laidKinds := [.data, .data, .data, .data, .pinned, .pinned], laidTests := true, laidLooks := .later }
def PackNoneCardSaid : Prop := Claim7.holds Tryz.pinned (.plain (OpenSpec.ofChange packNoneSpec)) packNoneCard

/-- THE TIED CARD OF 'erratalaw18.PackBytes'. -/
def packBytesCard : Claim7 := { stood := { row := packBytesRow, standIns := [], harness := (true, "04966f8b6e22a8dfe639b862d81543223c45f6f596c3adf1a2098b33e9e1bea3"), looks := true }, kinds := [], alts := [], laidByText := true, laidKinds := [.data, .data, .data, .data, .data, .pinned, .pinned], laidTests := true, laidLooks := .later }
def PackBytesCardSaid : Prop := Claim7.holds Tryz.pinned (.plain (OpenSpec.ofChange packBytesSpec)) packBytesCard

/-- THE TIED CARD OF 'erratalaw18.PackForm'. -/
def packFormCard : Claim7 := { stood := { row := packFormRow, standIns := [], harness := (true, "04966f8b6e22a8dfe639b862d81543223c45f6f596c3adf1a2098b33e9e1bea3"), looks := true }, kinds := [], alts := [], laidByText := true, laidKinds := [.data, .data, .data, .data, .data, .pinned, .pinned], laidTests := true, laidLooks := .later }
def PackFormCardSaid : Prop := Claim7.holds Tryz.pinned (.plain (OpenSpec.ofChange packFormSpec)) packFormCard

/-- THE SECOND FORM's CARD OF 'erratalaw18.PackNone'. -/
def packNoneUptoCard : Claim7 := { stood := { row := packNoneUptoRow, standIns := [], harness := (true, "04966f8b6e22a8dfe639b862d81543223c45f6f596c3adf1a2098b33e9e1bea3"), looks := true }, kinds := [], alts := [], laidByText := true, laidKinds := [.data, .data, .data, .data, .pinned, .pinned], laidTests := true, laidLooks := .later }
def PackNoneUptoCardSaid : Prop := Claim7.holds Tryz.pinned (.plain (OpenSpec.upto packNoneSpec)) packNoneUptoCard

/-- THE SECOND FORM's CARD OF 'erratalaw18.PackBytes'. -/
def packBytesUptoCard : Claim7 := { stood := { row := packBytesUptoRow, standIns := [], harness := (true, "04966f8b6e22a8dfe639b862d81543223c45f6f596c3adf1a2098b33e9e1bea3"), looks := true }, kinds := [], alts := [], laidByText := true, laidKinds := [.data, .data, .data, .data, .data, .pinned, .pinned], laidTests := true, laidLooks := .later }
def PackBytesUptoCardSaid : Prop := Claim7.holds Tryz.pinned (.plain (OpenSpec.upto packBytesSpec)) packBytesUptoCard

/-- THE SECOND FORM's CARD OF 'erratalaw18.PackForm'. -/
def packFormUptoCard : Claim7 := { stood := { row := packFormUptoRow, standIns := [], harness := (true, "04966f8b6e22a8dfe639b862d81543223c45f6f596c3adf1a2098b33e9e1bea3"), looks := true }, kinds := [], alts := [], laidByText := true, laidKinds := [.data, .data, .data, .data, .data, .pinned, .pinned], laidTests := true, laidLooks := .later }
def PackFormUptoCardSaid : Prop := Claim7.holds Tryz.pinned (.plain (OpenSpec.upto packFormSpec)) packFormUptoCard
end Rows
end Go.Proofs.YtoplgeajolonoaaGreatDoor
