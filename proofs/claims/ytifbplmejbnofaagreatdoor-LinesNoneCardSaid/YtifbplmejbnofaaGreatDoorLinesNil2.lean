/- What lines answers of no book, and of handles that name no error in an empty one: Node, Short, Tree, Placed, Guides, Under. -/
import Derived.Test.YtifbplmejbnofaaGreatDoorLinesNil
set_option linter.unusedVariables false
set_option linter.unusedSimpArgs false
namespace Go.Proofs.YtifbplmejbnofaaGreatDoor.TN
open Go.RowKit Go.Proofs.YtifbplmejbnofaaGreatDoorW.PrintWords Go.Proofs.YtifbplmejbnofaaGreatDoorW.PrintMore

theorem node_nil (h : Int) (w : World) : Calls Tryz.prog 6 #[.pointer none, .int .i64 h] w fun e w' => e = .returned (.tuple #[.string ⟨#[]⟩, .int .i64 2]) ∧ Below w.heap.size w w' := by
  go_enter Tryz.func6, Tryz.ntmps6
  go_wp2_with (go_at_call 28; (with_reducible refine (known_calls _ _ 2 _ (.nil _)).mono ?_); rintro e w1 ⟨rfl, h1⟩)
  go_wp2
  go_ret2
  exact ⟨rfl, Below.trans (by go_grown) (h1.mono (by simp <;> omega))⟩
theorem short_nil (h : Int) (w : World) : Calls Tryz.prog 7 #[.pointer none, .int .i64 h] w fun e w' => e = .returned (.tuple #[.string ⟨#[]⟩, .int .i64 2]) ∧ Below w.heap.size w w' := by
  go_enter Tryz.func7, Tryz.ntmps7
  go_wp2_with (go_at_call 28; (with_reducible refine (known_calls _ _ 2 _ (.nil _)).mono ?_); rintro e w1 ⟨rfl, h1⟩)
  go_wp2
  go_ret2
  exact ⟨rfl, Below.trans (by go_grown) (h1.mono (by simp <;> omega))⟩
theorem placed_nil (h : Int) (at_ : Value) (w : World) : Calls Tryz.prog 9 #[.pointer none, .int .i64 h, at_] w fun e w' => e = .returned (.tuple #[.slice none 0 0, .int .i64 2]) ∧ Below w.heap.size w w' := by
  go_enter Tryz.func9, Tryz.ntmps9
  go_wp2_with (go_at_call 28; (with_reducible refine (known_calls _ _ 2 _ (.nil _)).mono ?_); rintro e w1 ⟨rfl, h1⟩)
  go_wp2
  go_ret2
  exact ⟨rfl, Below.trans (by go_grown) (h1.mono (by simp <;> omega))⟩
theorem tree_nil (h : Int) (w : World) : Calls Tryz.prog 8 #[.pointer none, .int .i64 h] w fun e w' => e = .returned (.tuple #[.slice none 0 0, .int .i64 2]) ∧ Below w.heap.size w w' := by
  go_enter Tryz.func8, Tryz.ntmps8
  go_wp2_with (go_at_call 9; (with_reducible refine (placed_nil _ _ _).mono ?_); rintro e w1 ⟨rfl, h1⟩)
  go_wp2
  go_ret2
  exact ⟨rfl, Below.trans (by go_grown) (h1.mono (by simp <;> omega))⟩
theorem guides_nil (h : Int) (w : World) : Calls Tryz.prog 10 #[.pointer none, .int .i64 h] w fun e w' => e = .returned (.tuple #[.slice none 0 0, .int .i64 2]) ∧ Below w.heap.size w w' := by
  go_enter Tryz.func10, Tryz.ntmps10
  go_wp2_with (go_at_call 28; (with_reducible refine (known_calls _ _ 2 _ (.nil _)).mono ?_); rintro e w1 ⟨rfl, h1⟩)
  go_wp2
  go_ret2
  exact ⟨rfl, Below.trans (by go_grown) (h1.mono (by simp <;> omega))⟩
end Go.Proofs.YtifbplmejbnofaaGreatDoor.TN
