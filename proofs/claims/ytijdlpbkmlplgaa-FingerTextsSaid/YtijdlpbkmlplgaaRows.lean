/-
  No cell of these rows narrows 'for every input' (looked for: loops, veiled, ifaces, maps, wideKeys, modest, calm, conditions, laid).
  DERIVED. THE GIVEN ROWS OF THIS SEAT. 9 by the template 'for every input the law returns true; each argument reads behind the call as it read before'; 0 by the template 'total and deterministic' (their statements: YtijdlpbkmlplgaaTotals.lean).
  GIVEN WITH THE SEED: the statements are not yours to turn. If you find one false, say at which input.
  Laid BY PROGRAM, IN A SANDBOX (cutbox-rows.mjs): the forced cells as the released guide's own fill.sh prints them over the translation ca87e0fdb04599a7… (all of the seat's roots in one cut). By AI agents, Wed Nov 11 2026. No macro, syntax, notation, axiom, sorry.
-/
import Derived.Test.YtijdlpbkmlplgaaChecked
import GoSem.Claim
import GoSem.ClaimJoined
import GoSem.ClaimMapViews
import Derived.JoinedTies
import Derived.KernelRfl
namespace Go.Proofs.Ytijdlpbkmlplgaa
/- THE CELL 'sum', in the pinned program and in every row, IS THE sha256 OF THE DUMP (.gsa) THAT YtijdlpbkmlplgaaProg.lean LOADS. Nothing in Lean hashes anything: it is a label: what it is worth is what the hold of that sum in a sandbox is worth. -/
noncomputable def Try.pinned : Pinned := { name := "ytijdlpbkmlplgaa", sum := "ca87e0fdb04599a7b288ad3ee77451b70b7692a614d3461f60f7dfeba257d53d", checked := Try.checked }
namespace Rows
def none {H : Type} : Left H := { results := [], args := [] }

/-- 'erratalaw01.TextNames': WHATEVER THE INPUT: true; the input reads as it did. -/
def textNamesSpec : ChangeSpec := { name := "textNames", fn := fun _ => fun
  | [] => { results := [.lit (.bool true)], args := [] }
  | _ => none }
def textNamesRow : OpenClaim := { program := "ytijdlpbkmlplgaa", sum := "ca87e0fdb04599a7b288ad3ee77451b70b7692a614d3461f60f7dfeba257d53d", func := "errata/erratalaw01.TextNames", spec := "textNames", apart := false }
def TextNamesSaid : Prop := textNamesRow.holds Try.pinned (OpenSpec.ofChange textNamesSpec)

/-- ITS FALSE NEIGHBOUR: 'it returns false'. Refute it at one input. -/
def textNamesWrong : ChangeSpec := { name := "textNames", fn := fun _ => fun
  | [] => { results := [.lit (.bool false)], args := [] }
  | _ => none }
def TextNamesWrongFalsely : Prop := textNamesRow.holds Try.pinned (OpenSpec.ofChange textNamesWrong)

/-- 'erratalaw01.TextSmalls': WHATEVER THE INPUT: true; the input reads as it did. -/
def textSmallsSpec : ChangeSpec := { name := "textSmalls", fn := fun _ => fun
  | [d1, d2, d3] => { results := [.lit (.bool true)], args := [d1, d2, d3] }
  | _ => none }
def textSmallsRow : OpenClaim := { program := "ytijdlpbkmlplgaa", sum := "ca87e0fdb04599a7b288ad3ee77451b70b7692a614d3461f60f7dfeba257d53d", func := "errata/erratalaw01.TextSmalls", spec := "textSmalls", apart := false }
def TextSmallsSaid : Prop := textSmallsRow.holds Try.pinned (OpenSpec.ofChange textSmallsSpec)

/-- ITS FALSE NEIGHBOUR: 'it returns false'. Refute it at one input. -/
def textSmallsWrong : ChangeSpec := { name := "textSmalls", fn := fun _ => fun
  | [d1, d2, d3] => { results := [.lit (.bool false)], args := [d1, d2, d3] }
  | _ => none }
def TextSmallsWrongFalsely : Prop := textSmallsRow.holds Try.pinned (OpenSpec.ofChange textSmallsWrong)

/-- 'erratalaw01.TextRunes': WHATEVER THE INPUT: true; the input reads as it did. -/
def textRunesSpec : ChangeSpec := { name := "textRunes", fn := fun _ => fun
  | [d1, d2] => { results := [.lit (.bool true)], args := [d1, d2] }
  | _ => none }
def textRunesRow : OpenClaim := { program := "ytijdlpbkmlplgaa", sum := "ca87e0fdb04599a7b288ad3ee77451b70b7692a614d3461f60f7dfeba257d53d", func := "errata/erratalaw01.TextRunes", spec := "textRunes", unfollowed := true, recurses := true, apart := false }
def TextRunesSaid : Prop := textRunesRow.holds Try.pinned (OpenSpec.ofChange textRunesSpec)

/-- ITS FALSE NEIGHBOUR: 'it returns false'. Refute it at one input. -/
def textRunesWrong : ChangeSpec := { name := "textRunes", fn := fun _ => fun
  | [d1, d2] => { results := [.lit (.bool false)], args := [d1, d2] }
  | _ => none }
def TextRunesWrongFalsely : Prop := textRunesRow.holds Try.pinned (OpenSpec.ofChange textRunesWrong)

/-- 'erratalaw29.FingerTexts': WHATEVER THE INPUT: true; the input reads as it did. -/
def fingerTextsSpec : ChangeSpec := { name := "fingerTexts", fn := fun _ => fun
  | [d1, d2, d3] => { results := [.lit (.bool true)], args := [d1, d2, d3] }
  | _ => none }
def fingerTextsRow : OpenClaim := { program := "ytijdlpbkmlplgaa", sum := "ca87e0fdb04599a7b288ad3ee77451b70b7692a614d3461f60f7dfeba257d53d", func := "errata/erratalaw29.FingerTexts", spec := "fingerTexts", inPlace := ["internal/bytealg.IndexByteString"], apart := false }
def FingerTextsSaid : Prop := fingerTextsRow.holds Try.pinned (OpenSpec.ofChange fingerTextsSpec)

/-- ITS FALSE NEIGHBOUR: 'it returns false'. Refute it at one input. -/
def fingerTextsWrong : ChangeSpec := { name := "fingerTexts", fn := fun _ => fun
  | [d1, d2, d3] => { results := [.lit (.bool false)], args := [d1, d2, d3] }
  | _ => none }
def FingerTextsWrongFalsely : Prop := fingerTextsRow.holds Try.pinned (OpenSpec.ofChange fingerTextsWrong)

/-- 'erratalaw01.TextShows': WHATEVER THE INPUT: true; the input reads as it did. -/
def textShowsSpec : ChangeSpec := { name := "textShows", fn := fun _ => fun
  | [d1, d2, d3] => { results := [.lit (.bool true)], args := [d1, d2, d3] }
  | _ => none }
def textShowsRow : OpenClaim := { program := "ytijdlpbkmlplgaa", sum := "ca87e0fdb04599a7b288ad3ee77451b70b7692a614d3461f60f7dfeba257d53d", func := "errata/erratalaw01.TextShows", spec := "textShows", inPlace := ["internal/bytealg.IndexByteString"], unfollowed := true, recurses := true, apart := false }
def TextShowsSaid : Prop := textShowsRow.holds Try.pinned (OpenSpec.ofChange textShowsSpec)

/-- ITS FALSE NEIGHBOUR: 'it returns false'. Refute it at one input. -/
def textShowsWrong : ChangeSpec := { name := "textShows", fn := fun _ => fun
  | [d1, d2, d3] => { results := [.lit (.bool false)], args := [d1, d2, d3] }
  | _ => none }
def TextShowsWrongFalsely : Prop := textShowsRow.holds Try.pinned (OpenSpec.ofChange textShowsWrong)

/-- 'erratalaw01.TextCuts': WHATEVER THE INPUT: true; the input reads as it did. -/
def textCutsSpec : ChangeSpec := { name := "textCuts", fn := fun _ => fun
  | [d1, d2] => { results := [.lit (.bool true)], args := [d1, d2] }
  | _ => none }
def textCutsRow : OpenClaim := { program := "ytijdlpbkmlplgaa", sum := "ca87e0fdb04599a7b288ad3ee77451b70b7692a614d3461f60f7dfeba257d53d", func := "errata/erratalaw01.TextCuts", spec := "textCuts", inPlace := ["internal/abi.NoEscape", "internal/bytealg.MakeNoZero"], unfollowed := true, recurses := true, apart := false }
def TextCutsSaid : Prop := textCutsRow.holds Try.pinned (OpenSpec.ofChange textCutsSpec)

/-- ITS FALSE NEIGHBOUR: 'it returns false'. Refute it at one input. -/
def textCutsWrong : ChangeSpec := { name := "textCuts", fn := fun _ => fun
  | [d1, d2] => { results := [.lit (.bool false)], args := [d1, d2] }
  | _ => none }
def TextCutsWrongFalsely : Prop := textCutsRow.holds Try.pinned (OpenSpec.ofChange textCutsWrong)

/-- 'erratalaw01.TextBack': WHATEVER THE INPUT: true; the input reads as it did. -/
def textBackSpec : ChangeSpec := { name := "textBack", fn := fun _ => fun
  | [d1, d2, d3] => { results := [.lit (.bool true)], args := [d1, d2, d3] }
  | _ => none }
def textBackRow : OpenClaim := { program := "ytijdlpbkmlplgaa", sum := "ca87e0fdb04599a7b288ad3ee77451b70b7692a614d3461f60f7dfeba257d53d", func := "errata/erratalaw01.TextBack", spec := "textBack", inPlace := ["internal/bytealg.IndexByteString", "internal/abi.NoEscape", "internal/bytealg.MakeNoZero"], unfollowed := true, recurses := true, apart := false }
def TextBackSaid : Prop := textBackRow.holds Try.pinned (OpenSpec.ofChange textBackSpec)

/-- ITS FALSE NEIGHBOUR: 'it returns false'. Refute it at one input. -/
def textBackWrong : ChangeSpec := { name := "textBack", fn := fun _ => fun
  | [d1, d2, d3] => { results := [.lit (.bool false)], args := [d1, d2, d3] }
  | _ => none }
def TextBackWrongFalsely : Prop := textBackRow.holds Try.pinned (OpenSpec.ofChange textBackWrong)

/-- 'erratalaw01.TextParts': WHATEVER THE INPUT: true; the input reads as it did. -/
def textPartsSpec : ChangeSpec := { name := "textParts", fn := fun _ => fun
  | [d1, d2, d3] => { results := [.lit (.bool true)], args := [d1, d2, d3] }
  | _ => none }
def textPartsRow : OpenClaim := { program := "ytijdlpbkmlplgaa", sum := "ca87e0fdb04599a7b288ad3ee77451b70b7692a614d3461f60f7dfeba257d53d", func := "errata/erratalaw01.TextParts", spec := "textParts", inPlace := ["internal/bytealg.IndexByteString", "internal/abi.NoEscape", "internal/bytealg.MakeNoZero"], unfollowed := true, recurses := true, apart := false }
def TextPartsSaid : Prop := textPartsRow.holds Try.pinned (OpenSpec.ofChange textPartsSpec)

/-- ITS FALSE NEIGHBOUR: 'it returns false'. Refute it at one input. -/
def textPartsWrong : ChangeSpec := { name := "textParts", fn := fun _ => fun
  | [d1, d2, d3] => { results := [.lit (.bool false)], args := [d1, d2, d3] }
  | _ => none }
def TextPartsWrongFalsely : Prop := textPartsRow.holds Try.pinned (OpenSpec.ofChange textPartsWrong)

/-- 'erratalaw01.TextLines': WHATEVER THE INPUT: true; the input reads as it did. -/
def textLinesSpec : ChangeSpec := { name := "textLines", fn := fun _ => fun
  | [d1, d2] => { results := [.lit (.bool true)], args := [d1, d2] }
  | _ => none }
def textLinesRow : OpenClaim := { program := "ytijdlpbkmlplgaa", sum := "ca87e0fdb04599a7b288ad3ee77451b70b7692a614d3461f60f7dfeba257d53d", func := "errata/erratalaw01.TextLines", spec := "textLines", inPlace := ["internal/bytealg.IndexByteString", "internal/abi.NoEscape", "internal/bytealg.MakeNoZero"], unfollowed := true, recurses := true, apart := false }
def TextLinesSaid : Prop := textLinesRow.holds Try.pinned (OpenSpec.ofChange textLinesSpec)

/-- ITS FALSE NEIGHBOUR: 'it returns false'. Refute it at one input. -/
def textLinesWrong : ChangeSpec := { name := "textLines", fn := fun _ => fun
  | [d1, d2] => { results := [.lit (.bool false)], args := [d1, d2] }
  | _ => none }
def TextLinesWrongFalsely : Prop := textLinesRow.holds Try.pinned (OpenSpec.ofChange textLinesWrong)

/- THE SECOND FORM. 'bulk': how many values and letters a reading holds, each counted each time it is reached (what is shared counts as often as it is met; a slice's spare places count too). A statement '..UptoSaid' is the law's where the arguments, and the package variables that the reading takes, are together of bulk at most 1048576: NARROWER than '..Said'. Prove '..Said' where nothing that the law and all that it calls make is longer than what came in: it says more and counts as full. Else prove '..UptoSaid'. A law counts once. -/
mutual
def uptoBulk {H : Type} : DataW H → Nat
  | .lit (.string bytes) => bytes.length + 1
  | .lit _ => 1
  | .nil => 1
  | .ptr d => uptoBulk d + 1
  | .slice elems spare => uptoBulkAll elems + uptoBulkAll spare + 1
  | .agg parts => uptoBulkAll parts + 1
  | .iface _ d => uptoBulk d + 1
  | .map entries => uptoBulkEntries entries + 1
  | .held _ => 1
def uptoBulkAll {H : Type} : List (DataW H) → Nat
  | [] => 0
  | d :: r => uptoBulk d + uptoBulkAll r
def uptoBulkEntries {H : Type} : List (Lit × DataW H) → Nat
  | [] => 0
  | x :: r => uptoBulkEntry x + uptoBulkEntries r
def uptoBulkEntry {H : Type} : Lit × DataW H → Nat
  | (.string bytes, d) => bytes.length + uptoBulk d + 1
  | (_, d) => uptoBulk d + 1
 end
def uptoSmall : (H : Type) → List (DataW H) → Bool := fun _ ds => decide (uptoBulkAll ds ≤ 1048576)
def OpenSpec.upto (s : _root_.Go.ChangeSpec) : _root_.Go.OpenSpec := { _root_.Go.OpenSpec.ofChange s with cond := some uptoSmall }

/-- 'erratalaw01.TextNames', WHERE WHAT IT READS IS OF BULK AT MOST 1048576: true; the input reads as it did. -/
def textNamesUptoRow : OpenClaim := { program := "ytijdlpbkmlplgaa", sum := "ca87e0fdb04599a7b288ad3ee77451b70b7692a614d3461f60f7dfeba257d53d", func := "errata/erratalaw01.TextNames", spec := "textNames", apart := false, narrowed := true }
def TextNamesUptoSaid : Prop := textNamesUptoRow.holds Try.pinned (OpenSpec.upto textNamesSpec)

/-- 'erratalaw01.TextSmalls', WHERE WHAT IT READS IS OF BULK AT MOST 1048576: true; the input reads as it did. -/
def textSmallsUptoRow : OpenClaim := { program := "ytijdlpbkmlplgaa", sum := "ca87e0fdb04599a7b288ad3ee77451b70b7692a614d3461f60f7dfeba257d53d", func := "errata/erratalaw01.TextSmalls", spec := "textSmalls", apart := false, narrowed := true }
def TextSmallsUptoSaid : Prop := textSmallsUptoRow.holds Try.pinned (OpenSpec.upto textSmallsSpec)

/-- 'erratalaw01.TextRunes', WHERE WHAT IT READS IS OF BULK AT MOST 1048576: true; the input reads as it did. -/
def textRunesUptoRow : OpenClaim := { program := "ytijdlpbkmlplgaa", sum := "ca87e0fdb04599a7b288ad3ee77451b70b7692a614d3461f60f7dfeba257d53d", func := "errata/erratalaw01.TextRunes", spec := "textRunes", unfollowed := true, recurses := true, apart := false, narrowed := true }
def TextRunesUptoSaid : Prop := textRunesUptoRow.holds Try.pinned (OpenSpec.upto textRunesSpec)

/-- 'erratalaw29.FingerTexts', WHERE WHAT IT READS IS OF BULK AT MOST 1048576: true; the input reads as it did. -/
def fingerTextsUptoRow : OpenClaim := { program := "ytijdlpbkmlplgaa", sum := "ca87e0fdb04599a7b288ad3ee77451b70b7692a614d3461f60f7dfeba257d53d", func := "errata/erratalaw29.FingerTexts", spec := "fingerTexts", inPlace := ["internal/bytealg.IndexByteString"], apart := false, narrowed := true }
def FingerTextsUptoSaid : Prop := fingerTextsUptoRow.holds Try.pinned (OpenSpec.upto fingerTextsSpec)

/-- 'erratalaw01.TextShows', WHERE WHAT IT READS IS OF BULK AT MOST 1048576: true; the input reads as it did. -/
def textShowsUptoRow : OpenClaim := { program := "ytijdlpbkmlplgaa", sum := "ca87e0fdb04599a7b288ad3ee77451b70b7692a614d3461f60f7dfeba257d53d", func := "errata/erratalaw01.TextShows", spec := "textShows", inPlace := ["internal/bytealg.IndexByteString"], unfollowed := true, recurses := true, apart := false, narrowed := true }
def TextShowsUptoSaid : Prop := textShowsUptoRow.holds Try.pinned (OpenSpec.upto textShowsSpec)

/-- 'erratalaw01.TextCuts', WHERE WHAT IT READS IS OF BULK AT MOST 1048576: true; the input reads as it did. -/
def textCutsUptoRow : OpenClaim := { program := "ytijdlpbkmlplgaa", sum := "ca87e0fdb04599a7b288ad3ee77451b70b7692a614d3461f60f7dfeba257d53d", func := "errata/erratalaw01.TextCuts", spec := "textCuts", inPlace := ["internal/abi.NoEscape", "internal/bytealg.MakeNoZero"], unfollowed := true, recurses := true, apart := false, narrowed := true }
def TextCutsUptoSaid : Prop := textCutsUptoRow.holds Try.pinned (OpenSpec.upto textCutsSpec)

/-- 'erratalaw01.TextBack', WHERE WHAT IT READS IS OF BULK AT MOST 1048576: true; the input reads as it did. -/
def textBackUptoRow : OpenClaim := { program := "ytijdlpbkmlplgaa", sum := "ca87e0fdb04599a7b288ad3ee77451b70b7692a614d3461f60f7dfeba257d53d", func := "errata/erratalaw01.TextBack", spec := "textBack", inPlace := ["internal/bytealg.IndexByteString", "internal/abi.NoEscape", "internal/bytealg.MakeNoZero"], unfollowed := true, recurses := true, apart := false, narrowed := true }
def TextBackUptoSaid : Prop := textBackUptoRow.holds Try.pinned (OpenSpec.upto textBackSpec)

/-- 'erratalaw01.TextParts', WHERE WHAT IT READS IS OF BULK AT MOST 1048576: true; the input reads as it did. -/
def textPartsUptoRow : OpenClaim := { program := "ytijdlpbkmlplgaa", sum := "ca87e0fdb04599a7b288ad3ee77451b70b7692a614d3461f60f7dfeba257d53d", func := "errata/erratalaw01.TextParts", spec := "textParts", inPlace := ["internal/bytealg.IndexByteString", "internal/abi.NoEscape", "internal/bytealg.MakeNoZero"], unfollowed := true, recurses := true, apart := false, narrowed := true }
def TextPartsUptoSaid : Prop := textPartsUptoRow.holds Try.pinned (OpenSpec.upto textPartsSpec)

/-- 'erratalaw01.TextLines', WHERE WHAT IT READS IS OF BULK AT MOST 1048576: true; the input reads as it did. -/
def textLinesUptoRow : OpenClaim := { program := "ytijdlpbkmlplgaa", sum := "ca87e0fdb04599a7b288ad3ee77451b70b7692a614d3461f60f7dfeba257d53d", func := "errata/erratalaw01.TextLines", spec := "textLines", inPlace := ["internal/bytealg.IndexByteString", "internal/abi.NoEscape", "internal/bytealg.MakeNoZero"], unfollowed := true, recurses := true, apart := false, narrowed := true }
def TextLinesUptoSaid : Prop := textLinesUptoRow.holds Try.pinned (OpenSpec.upto textLinesSpec)

end Rows
end Go.Proofs.Ytijdlpbkmlplgaa
