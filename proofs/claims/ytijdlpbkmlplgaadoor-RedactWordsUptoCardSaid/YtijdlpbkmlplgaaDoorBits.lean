/- math.Float64bits. -/
import Derived.Test.YtijdlpbkmlplgaaDoorProg
import Derived.Laws.Externs
import Derived.WalkKit
set_option linter.unusedVariables false
namespace Go.Proofs.YtijdlpbkmlplgaaDoor.TW
open Go.RowKit
theorem bits_run (x : Nat) (W : World) : Sem.run Tryd.prog (callFunc 38 #[.float .f64 x]) W = .ok (.value (.int .u64 x)) W := by
  rw [run_callFunc_extern Tryd.func38 (by kernel_rfl) (by kernel_rfl) (by kernel_rfl) (e := Extern.MathFloatBits.float64bits) (by kernel_rfl)]
  rfl
end Go.Proofs.YtijdlpbkmlplgaaDoor.TW
