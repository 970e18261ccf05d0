-- Written by wip/tools/myprint.py of this seat's repo: the kit's print, with contracts of our own for some functions.
import Derived.Test.YtijdlpbkmlplgaaProg
import Derived.Below
import Derived.Deep.Draws
import Derived.Deep.AppendLies
import Derived.Maps.AppendAt
import Derived.OwnWalk
import Derived.Laws.BytesArg
import Derived.Laws.MakeOwn
import Derived.Laws.OwnMore
import Derived.Deep.OwnRows
import Derived.Tactics
import Derived.Lib.ConvBytes
import Derived.Laws.Slices
import Derived.WalkKit
import Derived.KernelRfl
import Derived.RowKit3
import Derived.Deep.LoopGhost
import Derived.Deep.QuietTactic
import Derived.BigQuiet
import Derived.WideLaws
import Derived.Deep.DeepCutAuto
import Derived.Deep.CutBlock
import Derived.Deep.RegionHeld3
import Derived.Laws.Rows
import Derived.Lib.AppendStr
import Derived.ArgAppend
import Derived.Laws.IdiomCopy
import Derived.OrdersHeld
import Derived.Laws.BitsLemmas
import Derived.RowKit
import Derived.Test.YtijdlpbkmlplgaaWWords
import Derived.Test.YtijdlpbkmlplgaaWLast
import Derived.Test.YtijdlpbkmlplgaaWTab
import Derived.Test.YtijdlpbkmlplgaaWFour
import Derived.Test.YtijdlpbkmlplgaaWQPut
import Derived.Test.YtijdlpbkmlplgaaWApart
import Derived.Test.YtijdlpbkmlplgaaWArr
import Derived.Test.YtijdlpbkmlplgaaWZeros
import Derived.Test.YtijdlpbkmlplgaaWFoot
import Derived.Test.YtijdlpbkmlplgaaWKept
import Derived.Test.YtijdlpbkmlplgaaWShare
import Derived.Test.YtijdlpbkmlplgaaWN
import Derived.Test.YtijdlpbkmlplgaaWFootNe
import Derived.Test.YtijdlpbkmlplgaaWAt
import Derived.Test.YtijdlpbkmlplgaaWEqStruct
import Derived.Test.YtijdlpbkmlplgaaWRepsOne
import Derived.Test.YtijdlpbkmlplgaaWInv
import Derived.Test.YtijdlpbkmlplgaaWInvWords
import Derived.Test.YtijdlpbkmlplgaaWGuard
import Derived.Test.YtijdlpbkmlplgaaWNEv
import Derived.Test.YtijdlpbkmlplgaaWMore
namespace Go.Proofs.Ytijdlpbkmlplgaa.QG
open Go.RowKit Go.Proofs.YtijdlpbkmlplgaaW.PrintWords Go.Proofs.YtijdlpbkmlplgaaW.PrintLast Go.Proofs.YtijdlpbkmlplgaaW.PrintMore
attribute [local go_sem] max2_int min2_int max_two min_two max_three min_three max_four min_four   -- for this text's walks alone
set_option linter.unusedVariables false
set_option linter.unusedSimpArgs false



def errW : Option Int → Value
  | none => .nilIface
  | some c => .iface 0 (.int .i64 c)
theorem errW_none : errW none = .nilIface := rfl
theorem errW_some (c : Int) : errW (some c) = .iface 0 (.int .i64 c) := rfl

theorem info5 : (Try.prog.info? 5).map (fun i => (i.zero, i.size, i.bytes)) = some (some (.int .u8 0), 1, 1) := by kernel_rfl
-- the values' own types

end Go.Proofs.Ytijdlpbkmlplgaa.QG
