/- The closed facts of the row MarkNames, each for itself. -/
import Derived.Test.YtlggimmfaflfnaaGreatDoorRows
import Derived.JoinedOf
import Derived.KernelRfl
namespace Go.Proofs.YtlggimmfaflfnaaGreatDoor.markNames
open Go
set_option maxRecDepth 100000 in
set_option maxHeartbeats 8000000 in
theorem facts : joinedFacts Tryz.prog 5 Tryz.f5 Rows.markNamesSpec Rows.markNamesRow = true := by
  unfold joinedFacts
  repeat' (with_reducible refine Bool.and_eq_true_iff.2 ⟨?_, ?_⟩)
  all_goals (as_aux_lemma => kernel_rfl)
end Go.Proofs.YtlggimmfaflfnaaGreatDoor.markNames
