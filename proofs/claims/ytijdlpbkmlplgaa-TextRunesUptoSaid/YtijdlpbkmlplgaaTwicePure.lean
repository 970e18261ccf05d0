/- The tail of TextRunes, as a pure function (printed by the kit's print out of a listing without the two rounds: tools/doctor_runes.py). -/
import Derived.Test.YtijdlpbkmlplgaaTextExt
import Derived.Test.YtijdlpbkmlplgaaQP2
set_option linter.unusedVariables false
set_option maxRecDepth 100000
namespace Go.Proofs.Ytijdlpbkmlplgaa.TR
open Go.RowKit Go.Proofs.Ytijdlpbkmlplgaa.TX Go.Proofs.YtijdlpbkmlplgaaW.PrintWords Go.Proofs.YtijdlpbkmlplgaaW.PrintMore Go.Proofs.Ytijdlpbkmlplgaa.QP
mutual
def erratalaw01_TextRunes.j0 : Nat → List Int → List Int → List Int → Bool → Option (Bool)
  | 0, _, _, _, _ => none
  | k + 1, x14, x15, x16, x112 => if x112 = true then (some false) else (erratalaw01_TextRunes.l0 k x14 x15 x16 0)
def erratalaw01_TextRunes.l0 : Nat → List Int → List Int → List Int → Int → Option (Bool)
  | 0, _, _, _, _ => none
  | k + 1, x14, x15, x16, x17 => if x17 < (x15.length : Int) then (if 0 ≤ x17 then (erratalaw01_TextRunes.l0 k x14 (x15.set (x17 : Int).toNat (-9)) x16 (wrap64 (x17 + 1))) else (none)) else (erratalaw01_TextRunes.l1 k x14 x15 x16 0)
def erratalaw01_TextRunes.l1 : Nat → List Int → List Int → List Int → Int → Option (Bool)
  | 0, _, _, _, _ => none
  | k + 1, x14, x15, x16, x18 => if x18 < 20 then (if x15.length < 17592186044416 then (erratalaw01_TextRunes.l1 k x14 (x15 ++ [(-9)]) x16 (wrap64 (x18 + 1))) else (none)) else (if (x15.length : Int) = (wrap64 ((x14.length : Int) + 20)) then ((erratalaw01_sameInts.f k x16 x14).bind fun t138 => (some t138)) else (some false))
end
def erratalaw01_TextRunes.f (k : Nat) (a0 : ByteArray) (a1 : Int) : Option (Bool) := (errataref01_Breaks.f k a0).bind fun t123 => ((text_Breaks.f a0).bind fun t126 => ((text_Breaks.f a0).bind fun t129 => ((erratalaw01_sameInts.f k t126 t123).bind fun t132 => (if t132 = true then ((erratalaw01_sameInts.f k t129 t123).bind fun t133 => (erratalaw01_TextRunes.j0 k t123 t126 t129 (!t133))) else (erratalaw01_TextRunes.j0 k t123 t126 t129 true)))))
end Go.Proofs.Ytijdlpbkmlplgaa.TR
