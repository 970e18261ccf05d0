/- The closed facts of the row LinesNone, each for itself. -/
import Derived.Test.YtifbplmejbnofaaGreatDoorRows
import Derived.JoinedOf
import Derived.KernelRfl
namespace Go.Proofs.YtifbplmejbnofaaGreatDoor.linesNone
open Go
set_option maxRecDepth 100000 in
set_option maxHeartbeats 8000000 in
theorem facts : joinedFacts Tryz.prog 3 Tryz.f3 Rows.linesNoneSpec Rows.linesNoneRow = true := by
  unfold joinedFacts
  repeat' (with_reducible refine Bool.and_eq_true_iff.2 ⟨?_, ?_⟩)
  all_goals (as_aux_lemma => kernel_rfl)
end Go.Proofs.YtifbplmejbnofaaGreatDoor.linesNone
