/- The closed law FingerNames: the walks. -/
import Derived.Test.YtifbplmejbnofaaGreatDoorOf
import Derived.Test.YtifbplmejbnofaaGreatDoorQH1
import Derived.Test.YtifbplmejbnofaaGreatDoorBuild
import Derived.Laws.ResultCell
import Derived.Handy
set_option linter.unusedVariables false
set_option linter.unusedSimpArgs false
namespace Go.Proofs.YtifbplmejbnofaaGreatDoor.TF
open Go.RowKit Go.Proofs.YtifbplmejbnofaaGreatDoorW.PrintWords Go.Proofs.YtifbplmejbnofaaGreatDoorW.PrintMore

/-- no grain -/
def grain0 : Value := .agg #[.bool false, .bool false, .int .i64 0]
theorem wrong_nil (hs : Value) (w : World) : Calls Tryz.prog 40 #[.pointer none, hs, grain0] w fun e w' => e = .returned (.int .i64 2) ∧ Below w.heap.size w w' := by
  unfold grain0
  go_enter Tryz.func40, Tryz.ntmps40
  go_wp2
  go_ret
  exact ⟨rfl, by go_grown⟩
theorem key_nil (w : World) : Calls Tryz.prog 14 #[.pointer none, .int .i64 0, grain0] w fun e w' => e = .returned (.tuple #[.string ⟨#[]⟩, .int .i64 2]) ∧ Below w.heap.size w w' := by
  have hw := wrong_nil
  unfold grain0 at hw ⊢
  go_enter Tryz.func14, Tryz.ntmps14
  go_wp2_with (go_at_call 40; (with_reducible refine (hw _ _).mono ?_); rintro e w1 ⟨rfl, h1⟩)
  go_wp2
  go_ret2
  exact ⟨rfl, Below.trans (by go_grown) (h1.mono (by simp <;> omega))⟩
theorem groups_nil (w : World) : Calls Tryz.prog 16 #[.pointer none, .slice none 0 0, grain0] w fun e w' => e = .returned (.tuple #[.slice none 0 0, .int .i64 2]) ∧ Below w.heap.size w w' := by
  have hw := wrong_nil
  unfold grain0 at hw ⊢
  go_enter Tryz.func16, Tryz.ntmps16
  go_wp2_with (go_at_call 40; (with_reducible refine (hw _ _).mono ?_); rintro e w1 ⟨rfl, h1⟩)
  go_wp2
  go_ret2
  exact ⟨rfl, Below.trans (by go_grown) (h1.mono (by simp <;> omega))⟩
theorem clash_nil (w : World) : Calls Tryz.prog 17 #[.pointer none, .slice none 0 0, grain0] w fun e w' => e = .returned (.tuple #[.int .i64 0, .int .i64 0, .bool false, .int .i64 2]) ∧ Below w.heap.size w w' := by
  have hw := wrong_nil
  unfold grain0 at hw ⊢
  go_enter Tryz.func17, Tryz.ntmps17
  go_wp2_with (go_at_call 40; (with_reducible refine (hw _ _).mono ?_); rintro e w1 ⟨rfl, h1⟩)
  go_wp2
  (try simp only [Exit.inBlock, Exit.then])
  refine bodyPost_ret (results_list (rs := [.tmp 6, .tmp 7, .tmp 8, .tmp 9]) rfl (by simp) (.tmp (.tmp (.tmp (.tmp .nil))))) rfl ?_
  exact ⟨rfl, Below.trans (by go_grown) (h1.mono (by simp <;> omega))⟩
theorem set_row {w : World} {g : Nat} {cs : Array Value} {t : TypeId} {fr : Nat × Nat} (h : w.heap[g]? = some (.cells cs t fr)) (i : Nat) (v : Value) : (w.setCell ⟨g, i, none⟩ v).heap[g]? = some (.cells (cs.setIfInBounds i v) t fr) := by
  simp [World.setCell, Array.getElem?_modify, h]
/-- sixteen noughts -/
def zero16 : Array Value := #[.int .u8 0, .int .u8 0, .int .u8 0, .int .u8 0, .int .u8 0, .int .u8 0, .int .u8 0, .int .u8 0, .int .u8 0, .int .u8 0, .int .u8 0, .int .u8 0, .int .u8 0, .int .u8 0, .int .u8 0, .int .u8 0]
set_option maxHeartbeats 1000000 in
theorem error_nil (w : World) : Calls Tryz.prog 15 #[.pointer none, .int .i64 0, grain0] w fun e w' => e = .returned (.tuple #[.agg zero16, .int .i64 2]) ∧ Below w.heap.size w w' := by
  have hw := key_nil
  have hin : (Tryz.prog.info? 43).map (·.size) = some 16 := by kernel_rfl
  have HIN := Aside0.mk hin
  clear hin
  unfold grain0 at hw ⊢
  go_enter Tryz.func15, Tryz.ntmps15
  go_wp2_with (go_at_call 14; (with_reducible refine (hw _).mono ?_))
  rintro e w1 ⟨rfl, h1⟩
  have hk : w1.heap[w.heap.size + 1]? = some (.cells zero16 43 (0, 0)) := by
    refine (h1.block (w.heap.size + 1) (by simp)).trans ?_
    have := World.alloc_heap_new (w.alloc (.cells #[.bool false, .bool false, .int .i64 0] 41)) (.cells zero16 43)
    rw [World.size_alloc] at this
    exact this
  have hB : Below w.heap.size w w1 := Below.trans (by go_grown) (h1.mono (by simp <;> omega))
  clear h1
  have c0 : w1.cell? ⟨w.heap.size + 1, 0, none⟩ = some (.int .u8 0) := by rw [Lib.cell_of_heap hk]; rfl
  have c1 : w1.cell? ⟨w.heap.size + 1, 1, none⟩ = some (.int .u8 0) := by rw [Lib.cell_of_heap hk]; rfl
  have c2 : w1.cell? ⟨w.heap.size + 1, 2, none⟩ = some (.int .u8 0) := by rw [Lib.cell_of_heap hk]; rfl
  have c3 : w1.cell? ⟨w.heap.size + 1, 3, none⟩ = some (.int .u8 0) := by rw [Lib.cell_of_heap hk]; rfl
  have c4 : w1.cell? ⟨w.heap.size + 1, 4, none⟩ = some (.int .u8 0) := by rw [Lib.cell_of_heap hk]; rfl
  have c5 : w1.cell? ⟨w.heap.size + 1, 5, none⟩ = some (.int .u8 0) := by rw [Lib.cell_of_heap hk]; rfl
  have c6 : w1.cell? ⟨w.heap.size + 1, 6, none⟩ = some (.int .u8 0) := by rw [Lib.cell_of_heap hk]; rfl
  have c7 : w1.cell? ⟨w.heap.size + 1, 7, none⟩ = some (.int .u8 0) := by rw [Lib.cell_of_heap hk]; rfl
  have c8 : w1.cell? ⟨w.heap.size + 1, 8, none⟩ = some (.int .u8 0) := by rw [Lib.cell_of_heap hk]; rfl
  have c9 : w1.cell? ⟨w.heap.size + 1, 9, none⟩ = some (.int .u8 0) := by rw [Lib.cell_of_heap hk]; rfl
  have c10 : w1.cell? ⟨w.heap.size + 1, 10, none⟩ = some (.int .u8 0) := by rw [Lib.cell_of_heap hk]; rfl
  have c11 : w1.cell? ⟨w.heap.size + 1, 11, none⟩ = some (.int .u8 0) := by rw [Lib.cell_of_heap hk]; rfl
  have c12 : w1.cell? ⟨w.heap.size + 1, 12, none⟩ = some (.int .u8 0) := by rw [Lib.cell_of_heap hk]; rfl
  have c13 : w1.cell? ⟨w.heap.size + 1, 13, none⟩ = some (.int .u8 0) := by rw [Lib.cell_of_heap hk]; rfl
  have c14 : w1.cell? ⟨w.heap.size + 1, 14, none⟩ = some (.int .u8 0) := by rw [Lib.cell_of_heap hk]; rfl
  have c15 : w1.cell? ⟨w.heap.size + 1, 15, none⟩ = some (.int .u8 0) := by rw [Lib.cell_of_heap hk]; rfl
  have f0 := Lib.frozen_of_heap hk 0
  have f1 := Lib.frozen_of_heap hk 1
  have f2 := Lib.frozen_of_heap hk 2
  have f3 := Lib.frozen_of_heap hk 3
  have f4 := Lib.frozen_of_heap hk 4
  have f5 := Lib.frozen_of_heap hk 5
  have f6 := Lib.frozen_of_heap hk 6
  have f7 := Lib.frozen_of_heap hk 7
  have f8 := Lib.frozen_of_heap hk 8
  have f9 := Lib.frozen_of_heap hk 9
  have f10 := Lib.frozen_of_heap hk 10
  have f11 := Lib.frozen_of_heap hk 11
  have f12 := Lib.frozen_of_heap hk 12
  have f13 := Lib.frozen_of_heap hk 13
  have f14 := Lib.frozen_of_heap hk 14
  have f15 := Lib.frozen_of_heap hk 15
  have HK := Aside0.mk hk
  have HB := Aside0.mk hB
  clear hk hB
  go_wp2
  (try simp only [Exit.inBlock, Exit.then])
  refine bodyPost_ret (results_list (rs := [.cell 6 43, .tmp 7]) rfl (by simp) (.cell (w.heap.size + 1) _ _ _ _ rfl (set_row (set_row (set_row (set_row (set_row (set_row (set_row (set_row (set_row (set_row (set_row (set_row (set_row (set_row (set_row (set_row HK.out 0 _) 1 _) 2 _) 3 _) 4 _) 5 _) 6 _) 7 _) 8 _) 9 _) 10 _) 11 _) 12 _) 13 _) 14 _) 15 _) Tryz.underlying43 rfl HIN.out (.tmp .nil))) rfl ?_
  exact ⟨rfl, ((((((((((((((((HB.out.setCell (p := ⟨w.heap.size + 1, 0, none⟩) (by simp) _).setCell (p := ⟨w.heap.size + 1, 1, none⟩) (by simp) _).setCell (p := ⟨w.heap.size + 1, 2, none⟩) (by simp) _).setCell (p := ⟨w.heap.size + 1, 3, none⟩) (by simp) _).setCell (p := ⟨w.heap.size + 1, 4, none⟩) (by simp) _).setCell (p := ⟨w.heap.size + 1, 5, none⟩) (by simp) _).setCell (p := ⟨w.heap.size + 1, 6, none⟩) (by simp) _).setCell (p := ⟨w.heap.size + 1, 7, none⟩) (by simp) _).setCell (p := ⟨w.heap.size + 1, 8, none⟩) (by simp) _).setCell (p := ⟨w.heap.size + 1, 9, none⟩) (by simp) _).setCell (p := ⟨w.heap.size + 1, 10, none⟩) (by simp) _).setCell (p := ⟨w.heap.size + 1, 11, none⟩) (by simp) _).setCell (p := ⟨w.heap.size + 1, 12, none⟩) (by simp) _).setCell (p := ⟨w.heap.size + 1, 13, none⟩) (by simp) _).setCell (p := ⟨w.heap.size + 1, 14, none⟩) (by simp) _).setCell (p := ⟨w.heap.size + 1, 15, none⟩) (by simp) _)⟩

def ofEmpty : List Int := ofRow (ofA ⟨#[]⟩ 0) (ofC ⟨#[]⟩ 0) 8
theorem of_empty (w : World) : Calls Tryz.prog 18 #[.string ⟨#[]⟩] w fun e w' => e = .returned (.agg (arr ofEmpty)) ∧ Below w.heap.size w w' := of_walk ⟨#[]⟩ (by decide) w
theorem hex_empty (w : World) : Calls Tryz.prog 19 #[.agg (arr ofEmpty)] w fun e w' => e = .returned (.string ⟨#[99, 98, 102, 50, 57, 99, 101, 52, 56, 52, 50, 50, 50, 51, 50, 53, 50, 53, 50, 52, 55, 102, 97, 55, 99, 97, 102, 98, 97, 100, 57, 100]⟩) ∧ Below w.heap.size w w' :=
  YtifbplmejbnofaaGreatDoor.QH.finger_Finger_Hex.calls 18 ofEmpty _ w (ofRow_len _ _ _) (by decide +kernel)
set_option maxRecDepth 100000 in
set_option maxHeartbeats 4000000 in
theorem names_walk (w : World) : Calls Tryz.prog 4 #[] w fun e w' => e = .returned (.bool true) ∧ Below w.heap.size w w' := by
  have k1 := key_nil
  have k2 := error_nil
  have k3 := groups_nil
  have k4 := clash_nil
  unfold grain0 at k1 k2 k3 k4
  obtain ⟨Z, hZ⟩ : ∃ Z, zero16 = Z := ⟨_, rfl⟩
  obtain ⟨E, hE⟩ : ∃ E, arr ofEmpty = E := ⟨_, rfl⟩
  have k5 := of_empty
  have k6 := hex_empty
  rw [hE] at k5 k6
  go_enter Tryz.func4, Tryz.ntmps4
  go_wp2_with (go_at_call 14; (with_reducible refine (k1 _).mono ?_))
  rintro e w1 ⟨rfl, h1⟩
  go_wp2_with (go_at_call 15; (with_reducible refine (k2 _).mono ?_))
  rintro e w2 ⟨rfl, h2⟩
  have b2 := h1.trans (h2.mono h1.size)
  have HB2 := Aside0.mk b2
  clear h1 h2 b2 k1 k2
  unfold zero16
  go_wp2_with (go_at_call 16; (with_reducible refine (k3 _).mono ?_))
  rintro e w3 ⟨rfl, h3⟩
  have b3 : Below w.heap.size w w3 := Below.trans (HB2.out.alloc HB2.out.size _) (h3.mono (by have := HB2.out.size; simp; omega))
  have HB3 := Aside0.mk b3
  clear h3 b3 HB2 k3
  go_wp2_with (go_at_call 17; (with_reducible refine (k4 _).mono ?_))
  rintro e w4 ⟨rfl, h4⟩
  have b4 := HB3.out.trans (h4.mono HB3.out.size)
  have HB4 := Aside0.mk b4
  clear h4 b4 HB3 k4
  go_wp2_with (first | (go_at_call 18; (with_reducible refine (k5 _).mono ?_)))
  rintro e w5 ⟨rfl, h5⟩
  have b5 := HB4.out.trans (h5.mono HB4.out.size)
  have HB5 := Aside0.mk b5
  clear h5 b5 HB4 k5
  go_wp2_with (go_at_call 19; (with_reducible refine (k6 _).mono ?_))
  rintro e w6 ⟨rfl, h6⟩
  have b6 := HB5.out.trans (h6.mono HB5.out.size)
  have HB6 := Aside0.mk b6
  clear h6 b6 HB5 k6
  go_wp2
  go_ret
  exact ⟨rfl, HB6.out⟩
end Go.Proofs.YtifbplmejbnofaaGreatDoor.TF
