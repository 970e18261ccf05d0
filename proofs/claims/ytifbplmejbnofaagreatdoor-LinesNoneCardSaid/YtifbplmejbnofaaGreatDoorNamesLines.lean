/- The closed law LinesNone: the walk. -/
import Derived.Test.YtifbplmejbnofaaGreatDoorUnderOk
import Derived.Test.YtifbplmejbnofaaGreatDoorPlacedOk
import Derived.Test.YtifbplmejbnofaaGreatDoorFitClosed
set_option linter.unusedVariables false
set_option linter.unusedSimpArgs false
namespace Go.Proofs.YtifbplmejbnofaaGreatDoor.TN
open Go.RowKit Go.Proofs.YtifbplmejbnofaaGreatDoorW.PrintWords Go.Proofs.YtifbplmejbnofaaGreatDoorW.PrintMore

/-- what stands when a call has gone by: the book at its block, and what lies below -/
structure On (n b : Nat) (w W : World) : Prop where
  emp : Empty b W
  below : Below n w W
  le : n ≤ b
theorem On.next {n b : Nat} {w W V : World} (h : On n b w W) (hb : Below W.heap.size W V) : On n b w V :=
  ⟨h.emp.next hb, h.below.trans (hb.mono (Nat.le_trans h.le (Nat.le_of_lt h.emp.lt))), h.le⟩
theorem cell_next {W V : World} {g : Nat} {v : Value} (h : W.cell? ⟨g, 0, none⟩ = some v) (hb : Below W.heap.size W V) : V.cell? ⟨g, 0, none⟩ = some v :=
  (World.cell?_of_block (hb.block g (World.block_lt_of_cell? W _ h))).trans h
set_option maxRecDepth 100000 in
set_option maxHeartbeats 16000000 in
theorem none_walk (w : World) : Calls Tryz.prog 3 #[] w fun e w' => e = .returned (.bool true) ∧ Below w.heap.size w w' := by
  have hcl : ∀ W n k, Calls Tryz.prog 133 #[.slice none n k] W fun e w' => e = .returned (.slice none 0 0) ∧ w' = W := fun W n k => Tryz.slices_Clone_int_nil n k W
  have HCL := Aside0.mk hcl
  clear hcl
  go_enter Tryz.func3, Tryz.ntmps3
  go_wp2_with (go_at_call 6; (with_reducible refine (node_nil _ _).mono ?_))
  rintro e w1 ⟨rfl, h1⟩
  have HB := Aside0.mk h1
  clear h1
  go_wp2_with (go_at_call 7; (with_reducible refine (short_nil _ _).mono ?_))
  rintro e w2 ⟨rfl, h1⟩
  have HB2 := Aside0.mk (HB.out.trans (h1.mono HB.out.size))
  clear h1 HB
  go_wp2_with (go_at_call 8; (with_reducible refine (tree_nil _ _).mono ?_))
  rintro e w3 ⟨rfl, h1⟩
  have HB3 := Aside0.mk (HB2.out.trans (h1.mono HB2.out.size))
  clear h1 HB2
  go_wp2_with (go_at_call 9; (with_reducible refine (placed_nil _ _ _).mono ?_))
  rintro e w4 ⟨rfl, h1⟩
  have HB4 := Aside0.mk (show Below w.heap.size w w4 from Below.trans (HB3.out.alloc HB3.out.size _) (h1.mono (by have := HB3.out.size; simp; omega)))
  clear h1 HB3
  go_wp2_with (go_at_call 10; (with_reducible refine (guides_nil _ _).mono ?_))
  rintro e w5 ⟨rfl, h1⟩
  have HB5 := Aside0.mk (HB4.out.trans (h1.mono HB4.out.size))
  clear h1 HB4
  go_wp2_with (go_at_call 11; (with_reducible refine (under_wrong _ _ 2 (by decide) _ _ (.nil _)).mono ?_))
  rintro e w6 ⟨rfl, h1⟩
  have HB6 := Aside0.mk (HB5.out.trans (h1.mono HB5.out.size))
  clear h1 HB5
  have hnew : Calls Tryz.prog 12 #[] w6 fun e w' => e = .returned (.pointer (some ⟨w6.heap.size, 0, none⟩)) ∧ w' = w6.alloc (.cells #[.slice none 0 0] 92) := by
    go_enter Tryz.func12, Tryz.ntmps12
    go_wp2
    go_ret
    exact ⟨rfl, rfl⟩
  go_wp2_with (go_at_call 12; (with_reducible refine hnew.mono ?_))
  rintro e w7 ⟨rfl, hw7⟩
  obtain ⟨b, hb⟩ : ∃ b, w6.heap.size = b := ⟨_, rfl⟩
  have hon : On w.heap.size b w w7 := ⟨by rw [hw7, ← hb]; exact World.alloc_heap_new w6 _, by rw [hw7]; exact HB6.out.alloc HB6.out.size _, by rw [← hb]; exact HB6.out.size⟩
  rw [hb]
  have HO7 := Aside0.mk hon
  clear hnew hw7 hb HB6 hon
  obtain ⟨n0, hn0⟩ : ∃ n0, w.heap.size = n0 := ⟨_, rfl⟩
  rw [hn0] at HO7
  go_wp2_with (go_at_call 11; (with_reducible refine (under_wrong _ _ 50 (by decide) _ _ (.far b HO7.out.emp _ (by decide))).mono ?_))
  rintro e w8 ⟨rfl, h1⟩
  have HO8 := Aside0.mk (HO7.out.next h1)
  clear h1 HO7
  go_wp2_with (go_at_call 11; (with_reducible refine (under_path b HCL.out _ HO8.out.emp).mono ?_))
  rintro e w9 ⟨rfl, h1⟩
  have HO9 := Aside0.mk (HO8.out.next h1)
  clear h1 HO8 HCL
  go_wp2_with (go_at_call 11; (with_reducible refine (TS2.under_ok b _ HO9.out.emp).mono ?_))
  rintro e w10 ⟨rfl, h1⟩
  have HO10 := Aside0.mk (HO9.out.next h1)
  clear h1 HO9
  go_wp2_with (go_at_call 8; (with_reducible refine (TP2.tree_ok b _ HO10.out.emp).mono ?_))
  rintro e w11 ⟨g, cap, rfl, hc, h1⟩
  have HO11 := Aside0.mk (HO10.out.next h1)
  have HC11 := Aside0.mk hc
  clear h1 HO10 hc
  go_wp2_with (go_at_call 13; (with_reducible refine (TR.fit_zero _ _).mono ?_))
  rintro e w12 ⟨rfl, h1⟩
  have bA : Below w11.heap.size w11 (w11.alloc (.cells #[.string ⟨#[97, 98]⟩] 9)) := (Below.refl _ w11).alloc (Nat.le_refl _) _
  have b12 := bA.trans (h1.mono bA.size)
  have HO12 := Aside0.mk (HO11.out.next b12)
  have HC12 := Aside0.mk (cell_next HC11.out b12)
  clear h1 HO11 HC11 bA b12
  have hrow : (w12.alloc (.cells #[.string ⟨#[255, 254]⟩] 9)).cell? ⟨w12.heap.size, 0, none⟩ = some (.string ⟨#[255, 254]⟩) := by rw [Lib.cell_of_heap (World.alloc_heap_new w12 _)]; rfl
  go_wp2_with (go_at_call 13; (with_reducible refine (TR.fit_one w12.heap.size _ hrow).mono ?_))
  rintro e w13 ⟨g2, cap2, rfl, hc2, h1⟩
  have bA : Below w12.heap.size w12 (w12.alloc (.cells #[.string ⟨#[255, 254]⟩] 9)) := (Below.refl _ w12).alloc (Nat.le_refl _) _
  have b13 := bA.trans (h1.mono bA.size)
  have HB := Aside0.mk (HO12.out.next b13).below
  have hc := cell_next HC12.out b13
  clear h1 HO12 HC12 bA b13 hrow
  go_wp2
  go_ret
  refine ⟨rfl, ?_⟩
  rw [hn0]
  exact HB.out
end Go.Proofs.YtifbplmejbnofaaGreatDoor.TN
