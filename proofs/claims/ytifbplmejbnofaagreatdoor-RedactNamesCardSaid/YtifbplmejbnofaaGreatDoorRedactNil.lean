/- What redact answers of no book. -/
import Derived.Test.YtifbplmejbnofaaGreatDoorClean
import Derived.Laws.ResultCell
import Derived.Handy
set_option linter.unusedVariables false
set_option linter.unusedSimpArgs false
namespace Go.Proofs.YtifbplmejbnofaaGreatDoor.TB
open Go.RowKit Go.Shelf Go.Proofs.YtifbplmejbnofaaGreatDoorW.PrintWords Go.Proofs.YtifbplmejbnofaaGreatDoorW.PrintMore

theorem size_nil (h : Int) (w : World) : Calls Tryz.prog 75 #[.pointer none, .int .i64 h] w fun e w' => e = .returned (.tuple #[.int .i64 0, .int .i64 2]) ∧ Below w.heap.size w w' := by
  go_enter Tryz.func75, Tryz.ntmps75
  go_wp2
  go_ret2
  exact ⟨rfl, by go_grown⟩
theorem wrong_nil (h : Int) (w : World) : Calls Tryz.prog 62 #[.pointer none, .int .i64 h] w fun e w' => e = .returned (.int .i64 2) ∧ Below w.heap.size w w' := by
  go_enter Tryz.func62, Tryz.ntmps62
  go_wp2_with (go_at_call 75; (with_reducible refine (size_nil _ _).mono ?_); rintro e w1 ⟨rfl, h1⟩)
  go_wp2
  go_ret
  exact ⟨rfl, h1⟩
theorem nodes_nil (h : Int) (w : World) : Calls Tryz.prog 49 #[.pointer none, .int .i64 h] w fun e w' => e = .returned (.tuple #[.slice none 0 0, .int .i64 2]) ∧ Below w.heap.size w w' := by
  go_enter Tryz.func49, Tryz.ntmps49
  go_wp2_with (go_at_call 62; (with_reducible refine (wrong_nil _ _).mono ?_); rintro e w1 ⟨rfl, h1⟩)
  go_wp2
  go_ret2
  exact ⟨rfl, Below.trans (by go_grown) (h1.mono (by simp <;> omega))⟩
theorem turn_nil (f : Value) (w : World) : Calls Tryz.prog 20 #[.pointer none, .int .i64 0, f] w fun e w' => e = .returned (.tuple #[.int .i64 0, .int .i64 2]) ∧ Below w.heap.size w w' := by
  go_enter Tryz.func20, Tryz.ntmps20
  go_wp2
  go_ret2
  exact ⟨rfl, by go_grown⟩
theorem turned_nil (f : Value) (w : World) : Calls Tryz.prog 46 #[.pointer none, .int .i64 0, f] w fun e w' => e = .returned (.tuple #[.pointer none, .int .i64 0, .map none, .slice none 0 0, .int .i64 2]) ∧ Below w.heap.size w w' := by
  go_enter Tryz.func46, Tryz.ntmps46
  go_wp2_with (go_at_call 49; (with_reducible refine (nodes_nil _ _).mono ?_); rintro e w1 ⟨rfl, h1⟩)
  go_wp2
  (try simp only [Exit.inBlock, Exit.then])
  refine bodyPost_ret (results_list (rs := [.tmp 6, .tmp 7, .tmp 8, .tmp 9, .tmp 10]) rfl (by simp) (.tmp (.tmp (.tmp (.tmp (.tmp .nil)))))) rfl ?_
  exact ⟨rfl, Below.trans (by go_grown) (h1.mono (by simp <;> omega))⟩
theorem redact_nil (w : World) : Calls Tryz.prog 22 #[.pointer none, .int .i64 0, .agg #[.bool true, .slice none 0 0]] w fun e w' => e = .returned (.tuple #[.int .i64 0, .int .i64 2]) ∧ Below w.heap.size w w' := by
  go_enter Tryz.func22, Tryz.ntmps22
  go_wp2_with (first | (go_at_call 20; (with_reducible refine (turn_nil _ _).mono ?_); rintro e w1 ⟨rfl, h1⟩) | go_in)
  go_wp2
  go_ret2
  exact ⟨rfl, Below.trans (by go_grown) (h1.mono (by simp <;> omega))⟩
theorem found_nil (w : World) : Calls Tryz.prog 23 #[.pointer none, .int .i64 0, .agg #[.bool true, .slice none 0 0]] w fun e w' => e = .returned (.tuple #[.slice none 0 0, .int .i64 2]) ∧ Below w.heap.size w w' := by
  go_enter Tryz.func23, Tryz.ntmps23
  go_wp2_with (first | (go_at_call 49; (with_reducible refine (nodes_nil _ _).mono ?_); rintro e w1 ⟨rfl, h1⟩) | go_in)
  go_wp2
  go_ret2
  exact ⟨rfl, Below.trans (by go_grown) (h1.mono (by simp <;> omega))⟩
theorem lines_nil (w : World) : Calls Tryz.prog 24 #[.pointer none, .int .i64 0, .agg #[.bool true, .slice none 0 0]] w fun e w' => e = .returned (.tuple #[.slice none 0 0, .int .i64 2]) ∧ Below w.heap.size w w' := by
  go_enter Tryz.func24, Tryz.ntmps24
  go_wp2_with (first | (go_at_call 46; (with_reducible refine (turned_nil _ _).mono ?_); rintro e w1 ⟨rfl, h1⟩) | go_in)
  go_wp2
  go_ret2
  exact ⟨rfl, Below.trans (by go_grown) (h1.mono (by simp <;> omega))⟩
theorem bytes_nil (w : World) : Calls Tryz.prog 26 #[.pointer none, .int .i64 0, .agg #[.bool true, .slice none 0 0]] w fun e w' => e = .returned (.tuple #[.string ⟨#[]⟩, .int .i64 2]) ∧ Below w.heap.size w w' := by
  go_enter Tryz.func26, Tryz.ntmps26
  go_wp2_with (first | (go_at_call 46; (with_reducible refine (turned_nil _ _).mono ?_); rintro e w1 ⟨rfl, h1⟩) | go_in)
  go_wp2
  go_ret2
  exact ⟨rfl, Below.trans (by go_grown) (h1.mono (by simp <;> omega))⟩
theorem set_row {w : World} {g : Nat} {cs : Array Value} {t : TypeId} {fr : Nat × Nat} (h : w.heap[g]? = some (.cells cs t fr)) (i : Nat) (v : Value) : (w.setCell ⟨g, i, none⟩ v).heap[g]? = some (.cells (cs.setIfInBounds i v) t fr) := by
  simp [World.setCell, Array.getElem?_modify, h]
theorem text_nil (w : World) : Calls Tryz.prog 25 #[.pointer none, .int .i64 0, .agg #[.bool true, .slice none 0 0]] w fun e w' => e = .returned (.tuple #[.string ⟨#[]⟩, .agg #[.int .i64 0, .string ⟨#[]⟩, .int .i64 0], .int .i64 2]) ∧ Below w.heap.size w w' := by
  have hin : (Tryz.prog.info? 69).map (·.size) = some 3 := by kernel_rfl
  have HIN := Aside0.mk hin
  clear hin
  go_enter Tryz.func25, Tryz.ntmps25
  go_wp2_with (first | (go_at_call 46; (with_reducible refine (turned_nil _ _).mono ?_)) | go_in)
  rintro e w1 ⟨rfl, h1⟩
  have hk : w1.heap[w.heap.size + 1]? = some (.cells #[.int .i64 0, .string ⟨#[]⟩, .int .i64 0] 69 (0, 0)) := by
    refine (h1.block (w.heap.size + 1) (by simp)).trans ?_
    rw [Lib.alloc_old _ _ _ (by simp)]
    have := World.alloc_heap_new (w.alloc (.cells #[.bool true, .slice none 0 0] 55)) (.cells #[.int .i64 0, .string ⟨#[]⟩, .int .i64 0] 69)
    rw [World.size_alloc] at this
    exact this
  have hB : Below w.heap.size w w1 := Below.trans (by go_grown) (h1.mono (by simp <;> omega))
  clear h1
  have c0 : w1.cell? ⟨w.heap.size + 1, 0, none⟩ = some (.int .i64 0) := by rw [Lib.cell_of_heap hk]; rfl
  have c1 : w1.cell? ⟨w.heap.size + 1, 1, none⟩ = some (.string ⟨#[]⟩) := by rw [Lib.cell_of_heap hk]; rfl
  have c2 : w1.cell? ⟨w.heap.size + 1, 2, none⟩ = some (.int .i64 0) := by rw [Lib.cell_of_heap hk]; rfl
  have f0 := Lib.frozen_of_heap hk 0
  have f1 := Lib.frozen_of_heap hk 1
  have f2 := Lib.frozen_of_heap hk 2
  have HK := Aside0.mk hk
  have HB := Aside0.mk hB
  clear hk hB
  go_wp2
  (try simp only [Exit.inBlock, Exit.then])
  refine bodyPost_ret (results_list (rs := [.tmp 6, .cell 7 69, .tmp 8]) rfl (by simp) (.tmp (.cell (w.heap.size + 1) _ _ _ _ rfl (set_row (set_row (set_row HK.out 0 _) 1 _) 2 _) Tryz.underlying69 rfl HIN.out (.tmp .nil)))) rfl ?_
  refine ⟨rfl, ?_⟩
  exact ((HB.out.setCell (p := ⟨w.heap.size + 1, 0, none⟩) (by simp) _).setCell (p := ⟨w.heap.size + 1, 1, none⟩) (by simp) _).setCell (p := ⟨w.heap.size + 1, 2, none⟩) (by simp) _
end Go.Proofs.YtifbplmejbnofaaGreatDoor.TB
