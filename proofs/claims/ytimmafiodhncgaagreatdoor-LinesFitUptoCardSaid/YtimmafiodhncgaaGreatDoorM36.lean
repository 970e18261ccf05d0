/- LinesFitFacts -/
import Derived.Test.YtimmafiodhncgaaGreatDoorRows
import Derived.JoinedOf
import Derived.KernelRfl
/- The closed facts of the row LinesFitUpto, each for itself. -/
namespace Go.Proofs.YtimmafiodhncgaaGreatDoor.linesFit
open Go
set_option maxRecDepth 100000 in
set_option maxHeartbeats 8000000 in
theorem facts : joinedFacts Tryz.prog 5 Tryz.f5 (Rows.OpenSpec.upto Rows.linesFitSpec).bare Rows.linesFitUptoRow = true := by
  unfold joinedFacts
  repeat' (with_reducible refine Bool.and_eq_true_iff.2 ⟨?_, ?_⟩)
  all_goals (as_aux_lemma => kernel_rfl)
end Go.Proofs.YtimmafiodhncgaaGreatDoor.linesFit
