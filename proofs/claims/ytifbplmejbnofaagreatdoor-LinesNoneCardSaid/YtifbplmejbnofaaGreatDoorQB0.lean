-- Written by wip/tools/myprint.py of this seat's repo: the kit's print, with contracts of our own for some functions.
import Derived.Test.YtifbplmejbnofaaGreatDoorProg
import Derived.Below
import Derived.Deep.Draws
import Derived.Deep.AppendLies
import Derived.Maps.AppendAt
import Derived.OwnWalk
import Derived.Laws.BytesArg
import Derived.Laws.MakeOwn
import Derived.Laws.OwnMore
import Derived.Deep.OwnRows
import Derived.Tactics
import Derived.Lib.ConvBytes
import Derived.Laws.Slices
import Derived.WalkKit
import Derived.KernelRfl
import Derived.RowKit3
import Derived.Deep.LoopGhost
import Derived.Deep.QuietTactic
import Derived.BigQuiet
import Derived.WideLaws
import Derived.Deep.DeepCutAuto
import Derived.Deep.CutBlock
import Derived.Deep.RegionHeld3
import Derived.Laws.Rows
import Derived.Lib.AppendStr
import Derived.ArgAppend
import Derived.Laws.IdiomCopy
import Derived.OrdersHeld
import Derived.Laws.BitsLemmas
import Derived.RowKit
import Derived.Test.YtifbplmejbnofaaGreatDoorWWords
import Derived.Test.YtifbplmejbnofaaGreatDoorWLast
import Derived.Test.YtifbplmejbnofaaGreatDoorWTab
import Derived.Test.YtifbplmejbnofaaGreatDoorWFour
import Derived.Test.YtifbplmejbnofaaGreatDoorWQPut
import Derived.Test.YtifbplmejbnofaaGreatDoorWApart
import Derived.Test.YtifbplmejbnofaaGreatDoorWArr
import Derived.Test.YtifbplmejbnofaaGreatDoorWZeros
import Derived.Test.YtifbplmejbnofaaGreatDoorWFoot
import Derived.Test.YtifbplmejbnofaaGreatDoorWKept
import Derived.Test.YtifbplmejbnofaaGreatDoorWShare
import Derived.Test.YtifbplmejbnofaaGreatDoorWN
import Derived.Test.YtifbplmejbnofaaGreatDoorWFootNe
import Derived.Test.YtifbplmejbnofaaGreatDoorWAt
import Derived.Test.YtifbplmejbnofaaGreatDoorWEqStruct
import Derived.Test.YtifbplmejbnofaaGreatDoorWRepsOne
import Derived.Test.YtifbplmejbnofaaGreatDoorWInv
import Derived.Test.YtifbplmejbnofaaGreatDoorWInvWords
import Derived.Test.YtifbplmejbnofaaGreatDoorWGuard
import Derived.Test.YtifbplmejbnofaaGreatDoorWNEv
import Derived.Test.YtifbplmejbnofaaGreatDoorWMore
namespace Go.Proofs.YtifbplmejbnofaaGreatDoor.QB
open Go.RowKit Go.Proofs.YtifbplmejbnofaaGreatDoorW.PrintWords Go.Proofs.YtifbplmejbnofaaGreatDoorW.PrintLast Go.Proofs.YtifbplmejbnofaaGreatDoorW.PrintMore
attribute [local go_sem] max2_int min2_int max_two min_two max_three min_three max_four min_four   -- for this text's walks alone
set_option linter.unusedVariables false
set_option linter.unusedSimpArgs false



def errW : Option Int → Value
  | none => .nilIface
  | some c => .iface 0 (.int .i64 c)
theorem errW_none : errW none = .nilIface := rfl
theorem errW_some (c : Int) : errW (some c) = .iface 0 (.int .i64 c) := rfl

-- the values' own types

end Go.Proofs.YtifbplmejbnofaaGreatDoor.QB
