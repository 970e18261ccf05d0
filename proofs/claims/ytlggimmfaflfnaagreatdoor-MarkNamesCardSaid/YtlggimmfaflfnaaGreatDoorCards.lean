/-
  DERIVED. GIVEN WITH THE SEED: THE CARDS: each row of YtlggimmfaflfnaaGreatDoorRows.lean that lists a variable, with what it lists TIED to the program's text (the seventh form; the later family's looks); each row that meets fmt, with fmt's text TOLD by the authors' own Lean function (tested against real Go, not proved from fmt's source: count such statements apart). THE CARD IS WHAT COUNTS. Prove the row's statement (the work); the ties are given (YtlggimmfaflfnaaGreatDoorTie.lean); close each card by the builder's one call (the guide's Derived/Test/ToyasCard.lean, 'card_holds'). Laid BY PROGRAM, IN A SANDBOX (cutbox-door.mjs). By AI agents, Wed Nov 11 2026. No macro, syntax, notation, axiom, sorry.
-/
import Derived.Test.YtlggimmfaflfnaaGreatDoorRows
import GoSem.ClaimSeven
namespace Go.Proofs.YtlggimmfaflfnaaGreatDoor
namespace Rows

/-- THE TIED CARD OF 'erratalaw18.PackBytes'. -/
def packBytesCard : Claim7 := { stood := { row := packBytesRow, standIns := [], harness := (true, "9f45c3d5e71f13c145c5af1d2058d3de0c41acaff6a0e0deb5a3b24a5304557e"), looks := true }, kinds := [], alts := [], laidByText := true, laidKinds := [.data, .data, .data, .data, .data, .pinned, .pinned], laidTests := true, laidLooks := .later }
def PackBytesCardSaid : Prop := Claim7.holds Tryz.pinned (.plain (OpenSpec.ofChange packBytesSpec)) packBytesCard

/-- THE TIED CARD OF 'erratalaw18.PackForm'. -/
def packFormCard : Claim7 := { stood := { row := packFormRow, standIns := [], harness := (true, "9f45c3d5e71f13c145c5af1d2058d3de0c41acaff6a0e0deb5a3b24a5304557e"), looks := true }, kinds := [], alts := [], laidByText := true, laidKinds := [.data, .data, .data, .data, .data, .pinned, .pinned], laidTests := true, laidLooks := .later }
def PackFormCardSaid : Prop := Claim7.holds Tryz.pinned (.plain (OpenSpec.ofChange packFormSpec)) packFormCard

/-- THE TIED CARD OF 'erratalaw19.MarkNames'. -/
def markNamesCard : Claim7 := { stood := { row := markNamesRow, standIns := [], harness := (true, "9f45c3d5e71f13c145c5af1d2058d3de0c41acaff6a0e0deb5a3b24a5304557e"), looks := true }, kinds := [], alts := [], laidByText := true, laidKinds := [.data, .data, .data, .data, .listed, .data, .data, .pinned, .pinned], laidTests := true, laidLooks := .later }
def MarkNamesCardSaid : Prop := Claim7.holds Tryz.pinned (.plain (OpenSpec.ofChange markNamesSpec)) markNamesCard

/-- THE SECOND FORM's CARD OF 'erratalaw18.PackBytes'. -/
def packBytesUptoCard : Claim7 := { stood := { row := packBytesUptoRow, standIns := [], harness := (true, "9f45c3d5e71f13c145c5af1d2058d3de0c41acaff6a0e0deb5a3b24a5304557e"), looks := true }, kinds := [], alts := [], laidByText := true, laidKinds := [.data, .data, .data, .data, .data, .pinned, .pinned], laidTests := true, laidLooks := .later }
def PackBytesUptoCardSaid : Prop := Claim7.holds Tryz.pinned (.plain (OpenSpec.upto packBytesSpec)) packBytesUptoCard

/-- THE SECOND FORM's CARD OF 'erratalaw18.PackForm'. -/
def packFormUptoCard : Claim7 := { stood := { row := packFormUptoRow, standIns := [], harness := (true, "9f45c3d5e71f13c145c5af1d2058d3de0c41acaff6a0e0deb5a3b24a5304557e"), looks := true }, kinds := [], alts := [], laidByText := true, laidKinds := [.data, .data, .data, .data, .data, .pinned, .pinned], laidTests := true, laidLooks := .later }
def PackFormUptoCardSaid : Prop := Claim7.holds Tryz.pinned (.plain (OpenSpec.upto packFormSpec)) packFormUptoCard

/-- THE SECOND FORM's CARD OF 'erratalaw19.MarkNames'. -/
def markNamesUptoCard : Claim7 := { stood := { row := markNamesUptoRow, standIns := [], harness := (true, "9f45c3d5e71f13c145c5af1d2058d3de0c41acaff6a0e0deb5a3b24a5304557e"), looks := true }, kinds := [], alts := [], laidByText := true, laidKinds := [.data, .data, .data, .data, .listed, .data, .data, .pinned, .pinned], laidTests := true, laidLooks := .later }
def MarkNamesUptoCardSaid : Prop := Claim7.holds Tryz.pinned (.plain (OpenSpec.upto markNamesSpec)) markNamesUptoCard
end Rows
end Go.Proofs.YtlggimmfaflfnaaGreatDoor
