/- strings.Repeat: nought times; one letter four times. -/
import Derived.Test.YtifbplmejbnofaaGreatDoorBuild
import Derived.Test.YtifbplmejbnofaaGreatDoorShelfB
import Derived.Test.YtifbplmejbnofaaGreatDoorWMore
import Derived.LoopN
import Derived.Laws.Rows
import Derived.RangeFuncRecord
import Derived.Handy
set_option linter.unusedVariables false
set_option linter.unusedSimpArgs false
namespace Go.Proofs.YtifbplmejbnofaaGreatDoor.TB
open Go.RowKit Go.Shelf Go.Proofs.YtifbplmejbnofaaGreatDoorW.PrintWords Go.Proofs.YtifbplmejbnofaaGreatDoorW.PrintMore

theorem min3 (x y z : Int) (W : World) : Sem.run Tryz.prog (Builtin.min_ #[3, 3, 3] 3 #[.int .i64 x, .int .i64 y, .int .i64 z]) W = .ok (.int .i64 (if z < (if y < x then y else x) then z else (if y < x then y else x))) W := by
  simp [Builtin.min_, Builtin.min2]
set_option maxRecDepth 100000 in
theorem repeat_zero (s : ByteArray) (w : World) : Calls Tryz.prog 36 #[.string s, .int .i64 0] w fun e w' => e = .returned (.string ⟨#[]⟩) ∧ w' = w := by
  go_enter Tryz.func36, Tryz.ntmps36
  go_wp2
  go_ret
  exact ⟨rfl, rfl⟩
set_option maxRecDepth 100000 in
set_option maxHeartbeats 4000000 in
theorem repeat_four (w : World) : Calls Tryz.prog 36 #[.string ⟨#[94]⟩, .int .i64 4] w fun e w' => e = .returned (.string ⟨#[94, 94, 94, 94]⟩) ∧ Below w.heap.size w w' := by
  have hm : ∀ W, Calls Tryz.prog 68 #[.int .u64 1, .int .u64 4] W fun e w' => e = .returned (.tuple #[.int .u64 0, .int .u64 4]) ∧ w' = W := fun W => Tryz.bits_Mul 1 4 (by decide) (by decide) W
  go_enter Tryz.func36, Tryz.ntmps36
  go_wp2_with (go_at_call 68; (with_reducible refine (hm _).mono ?_))
  rintro e w1 ⟨rfl, rfl⟩
  clear hm
  have b0 : Below w1.heap.size w1 (w1.alloc (.cells #[.pointer none, .slice none 0 0] 81)) := (Below.refl _ w1).alloc (Nat.le_refl _) _
  have cG := Tryz.Builder_Grow_fresh w1.heap.size w1.heap.size 4 (w1.alloc (.cells #[.pointer none, .slice none 0 0] 81)) (Nat.le_refl _) (World.alloc_heap_new w1 _) b0.size (by omega)
  go_wp2_with (go_at_call 70; refine cG.mono ?_)
  rintro e W1 ⟨rfl, h1, b1⟩
  clear cG
  have i1 : Lib.IsBuilderF 81 5 w1.heap.size w1.heap.size [] W1 := Lib.IsBuilderF.of (Or.inr h1)
  have B1 : Below w1.heap.size w1 W1 := b0.trans b1
  clear h1 b0 b1
  go_wp2_with (go_at_call 71; (with_reducible refine (write_string w1.heap.size w1.heap.size [] ⟨#[94]⟩ _ i1 (by decide) B1.size).mono ?_))
  rintro e W2 ⟨rfl, h2, b2, _⟩
  have i2 : Lib.IsBuilderF 81 5 w1.heap.size w1.heap.size (Lib.byteCells [94]) W2 := Or.inr h2
  have B2 := B1.trans b2
  clear h2 b2 i1 B1
  go_wp2
  refine wp_loop_rounds 3 ?_
  unfold Code.rounds
  have cL := Tryz.Builder_Len_f w1.heap.size w1.heap.size _ W2 i2
  rw [show (Lib.byteCells [94]).length = 1 from rfl] at cL
  have cS := Tryz.Builder_String_any_k w1.heap.size w1.heap.size [94] W2 i2 B2.size
  go_wp2_with (go_at_call 72; refine cL.mono ?_; rintro e w' ⟨rfl, rfl⟩)
  rw [min3]
  rw [show (if (4 : Int) < (if (1 : Int) < 3 then (1 : Int) else 3) then (4 : Int) else (if (1 : Int) < 3 then (1 : Int) else 3)) = 1 from by decide]
  simp only [Result.andThen]
  rw [Oper.upon_value]
  clear cL
  go_wp2_with (go_at_call 32; refine cS.mono ?_)
  rintro e V1 ⟨rfl, j1, d1, _⟩
  have D1 := B2.trans d1
  clear cS
  have x1 : (⟨([94] : List UInt8).toArray⟩ : ByteArray).extract 0 1 = ⟨#[94]⟩ := by decide +kernel
  go_wp2_with (go_at_call 71; refine (write_string w1.heap.size w1.heap.size (Lib.byteCells [94]) ⟨#[94]⟩ _ j1 (by decide) D1.size).mono ?_)
  rintro e W3 ⟨rfl, h1, b1, _⟩
  have i3 : Lib.IsBuilderF 81 5 w1.heap.size w1.heap.size (Lib.byteCells [94, 94]) W3 := Or.inr h1
  have B3 := D1.trans b1
  clear h1 b1 j1 d1 D1 x1 i2 B2
  go_wp2
  unfold Code.rounds
  have cL := Tryz.Builder_Len_f w1.heap.size w1.heap.size _ W3 i3
  rw [show (Lib.byteCells [94, 94]).length = 2 from rfl] at cL
  have cS := Tryz.Builder_String_any_k w1.heap.size w1.heap.size [94, 94] W3 i3 B3.size
  go_wp2_with (go_at_call 72; refine cL.mono ?_; rintro e w' ⟨rfl, rfl⟩)
  rw [min3]
  rw [show (if (4 : Int) < (if (2 : Int) < 2 then (2 : Int) else 2) then (4 : Int) else (if (2 : Int) < 2 then (2 : Int) else 2)) = 2 from by decide]
  simp only [Result.andThen]
  rw [Oper.upon_value]
  clear cL
  go_wp2_with (go_at_call 32; refine cS.mono ?_)
  rintro e V2 ⟨rfl, j2, d2, _⟩
  have D2 := B3.trans d2
  clear cS
  have x2 : (⟨([94, 94] : List UInt8).toArray⟩ : ByteArray).extract 0 2 = ⟨#[94, 94]⟩ := by decide +kernel
  go_wp2_with (go_at_call 71; refine (write_string w1.heap.size w1.heap.size (Lib.byteCells [94, 94]) ⟨#[94, 94]⟩ _ j2 (by decide) D2.size).mono ?_)
  rintro e W4 ⟨rfl, h2, b2, _⟩
  have i4 : Lib.IsBuilderF 81 5 w1.heap.size w1.heap.size (Lib.byteCells [94, 94, 94, 94]) W4 := Or.inr h2
  have B4 := D2.trans b2
  clear h2 b2 j2 d2 D2 x2 i3 B3
  go_wp2
  unfold Code.rounds
  have cL := Tryz.Builder_Len_f w1.heap.size w1.heap.size _ W4 i4
  rw [show (Lib.byteCells [94, 94, 94, 94]).length = 4 from rfl] at cL
  have cS := Tryz.Builder_String_any_k w1.heap.size w1.heap.size [94, 94, 94, 94] W4 i4 B4.size
  go_wp2_with (go_at_call 72; refine cL.mono ?_; rintro e w' ⟨rfl, rfl⟩)
  go_wp2_with (go_at_call 32; refine cS.mono ?_)
  rintro e V3 ⟨rfl, _, d3, _⟩
  have D3 := B4.trans d3
  go_wp2
  go_ret
  exact ⟨rfl, D3⟩
end Go.Proofs.YtifbplmejbnofaaGreatDoor.TB
