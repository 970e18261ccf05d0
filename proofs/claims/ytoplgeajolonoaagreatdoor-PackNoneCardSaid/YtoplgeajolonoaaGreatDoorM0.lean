/- PackNoneFacts -/
import Derived.Test.YtoplgeajolonoaaGreatDoorRows
import Derived.JoinedOf
import Derived.KernelRfl
/- The closed facts of the row PackNone, each for itself. -/
namespace Go.Proofs.YtoplgeajolonoaaGreatDoor.packNone
open Go
set_option maxRecDepth 100000 in
set_option maxHeartbeats 8000000 in
theorem facts : joinedFacts Tryz.prog 3 Tryz.f3 Rows.packNoneSpec Rows.packNoneRow = true := by
  unfold joinedFacts
  repeat' (with_reducible refine Bool.and_eq_true_iff.2 ⟨?_, ?_⟩)
  all_goals (as_aux_lemma => kernel_rfl)
end Go.Proofs.YtoplgeajolonoaaGreatDoor.packNone
