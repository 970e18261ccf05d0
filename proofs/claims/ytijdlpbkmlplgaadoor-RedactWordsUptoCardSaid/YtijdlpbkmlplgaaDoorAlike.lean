/- errataref05.Alike of a number with itself. -/
import Derived.Test.YtijdlpbkmlplgaaDoorProg
import Derived.Test.YtijdlpbkmlplgaaDoorFloatSelf
import Derived.Test.YtijdlpbkmlplgaaDoorWMore
import Derived.WalkKit
import Derived.Handy
set_option linter.unusedVariables false
set_option linter.unusedSimpArgs false
namespace Go.Proofs.YtijdlpbkmlplgaaDoor.TS
open Go.RowKit Go.Proofs.YtijdlpbkmlplgaaDoorW.PrintWords Go.Proofs.YtijdlpbkmlplgaaDoorW.PrintMore

theorem run_neq_none {P : Program} {w : World} {t : TypeId} {x : Nat} (h : Ieee.double.order x x = none) : (binOp .neq t (.float .f64 x) (.float .f64 x)).run P w = .ok (.bool true) w := by
  rw [binOp_float_cmp_neq]
  show (pure (Value.bool (Ieee.double.order x x != some .eq)) : Sem _).run P w = _
  rw [h]; rfl
theorem run_neq_eq {P : Program} {w : World} {t : TypeId} {x : Nat} (h : Ieee.double.order x x = some .eq) : (binOp .neq t (.float .f64 x) (.float .f64 x)).run P w = .ok (.bool false) w := by
  rw [binOp_float_cmp_neq]
  show (pure (Value.bool (Ieee.double.order x x != some .eq)) : Sem _).run P w = _
  rw [h]; rfl
theorem run_eql_eq {P : Program} {w : World} {t : TypeId} {x : Nat} (h : Ieee.double.order x x = some .eq) : (binOp .eql t (.float .f64 x) (.float .f64 x)).run P w = .ok (.bool true) w := by
  rw [binOp_float_cmp_eql]
  show (pure (Value.bool (Ieee.double.order x x == some .eq)) : Sem _).run P w = _
  rw [h]; rfl
theorem order_cases (x : Nat) : Ieee.double.order x x = none ∨ Ieee.double.order x x = some .eq := by
  unfold Ieee.Format.order
  rcases order_self (Ieee.double.read x) with ⟨s, t, h⟩ | h
  · rw [h]; exact .inl rfl
  · exact .inr h
attribute [-go_sem] binOp_float_cmp_eql binOp_float_cmp_neq
set_option maxHeartbeats 1000000 in
theorem alike_self (x : Nat) (w : World) :
    Calls Tryd.prog 19 #[.float .f64 x, .float .f64 x] w fun e w' => e = .returned (.bool true) ∧ w' = w := by
  rcases order_cases x with h | h
  · have h1 := fun W => run_neq_none (P := Tryd.prog) (w := W) (t := 24) h
    clear h
    go_enter Tryd.func19, Tryd.ntmps19
    go_wp2
    go_ret
    exact ⟨rfl, rfl⟩
  · obtain ⟨r, hr⟩ := div_one x h
    have h1 := fun W => run_neq_eq (P := Tryd.prog) (w := W) (t := 24) h
    have h2 := fun W => run_eql_eq (P := Tryd.prog) (w := W) (t := 24) h
    have h3 := fun W => run_float_arith (P := Tryd.prog) W .quo 24 .f64 _ _ r hr
    have h4 := fun W => run_eql_eq (P := Tryd.prog) (w := W) (t := 24) (div_self_eq _ _ _ hr)
    clear h hr
    go_enter Tryd.func19, Tryd.ntmps19
    go_wp2
    go_ret
    exact ⟨rfl, rfl⟩
end Go.Proofs.YtijdlpbkmlplgaaDoor.TS
