-- Written by wip/tools/myprint.py of this seat's repo: the kit's print, with contracts of our own for some functions.
import Derived.Test.YtijdlpbkmlplgaaQC0
import Derived.Test.YtijdlpbkmlplgaaQC1
import Derived.Test.YtijdlpbkmlplgaaQC2
import Derived.Test.YtijdlpbkmlplgaaQC3
namespace Go.Proofs.Ytijdlpbkmlplgaa.QC
open Go.RowKit Go.Proofs.YtijdlpbkmlplgaaW.PrintWords Go.Proofs.YtijdlpbkmlplgaaW.PrintLast Go.Proofs.YtijdlpbkmlplgaaW.PrintMore
attribute [local go_sem] max2_int min2_int max_two min_two max_three min_three max_four min_four   -- for this text's walks alone
set_option linter.unusedVariables false
set_option linter.unusedSimpArgs false

end Go.Proofs.Ytijdlpbkmlplgaa.QC
