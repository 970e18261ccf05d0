/- erratalaw01.TextNames: the closed statement answers true: the numbers of the two errors, and the four calls on small numbers that the chapter names. No condition. -/
import Derived.Test.YtijdlpbkmlplgaaPTextNamesx1
namespace Go.Proofs.Ytijdlpbkmlplgaa.Pure
open Go.RowKit Go.Proofs.Ytijdlpbkmlplgaa.PTextNames Go.Proofs.YtijdlpbkmlplgaaW.PrintWords Go.Proofs.YtijdlpbkmlplgaaW.PrintLast

theorem TextNames : erratalaw01_TextNames.Pure := by
  unfold erratalaw01_TextNames.Pure
  decide +kernel

end Go.Proofs.Ytijdlpbkmlplgaa.Pure
