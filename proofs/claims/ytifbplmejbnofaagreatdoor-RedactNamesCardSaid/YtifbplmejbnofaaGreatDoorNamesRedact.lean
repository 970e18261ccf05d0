/- The closed law RedactNames: the walk. -/
import Derived.Test.YtifbplmejbnofaaGreatDoorRedactNil
set_option linter.unusedVariables false
set_option linter.unusedSimpArgs false
namespace Go.Proofs.YtifbplmejbnofaaGreatDoor.TB
open Go.RowKit Go.Shelf Go.Proofs.YtifbplmejbnofaaGreatDoorW.PrintWords Go.Proofs.YtifbplmejbnofaaGreatDoorW.PrintMore

/-- the veiling in its place, in a world behind others -/
structure Veil (n : Nat) (w W : World) : Prop where
  row : W.heap[n]? = some (.cells #[.bool true, .slice none 0 0] 55 (0, 0))
  below : Below n w W
theorem Veil.next {w W W' : World} {n : Nat} (h : Veil n w W) (hb : Below W.heap.size W W') : Veil n w W' :=
  ⟨(hb.block n (Array.getElem?_eq_some_iff.1 h.row).1).trans h.row, h.below.trans (hb.mono (Nat.le_of_lt (Array.getElem?_eq_some_iff.1 h.row).1))⟩
theorem Veil.c0 {w W : World} {n : Nat} (h : Veil n w W) : W.cell? ⟨n, 0, none⟩ = some (.bool true) := by rw [Lib.cell_of_heap h.row]; rfl
theorem Veil.c1 {w W : World} {n : Nat} (h : Veil n w W) : W.cell? ⟨n, 1, none⟩ = some (.slice none 0 0) := by rw [Lib.cell_of_heap h.row]; rfl

set_option maxRecDepth 100000 in
set_option maxHeartbeats 2000000 in
theorem names_walk (w : World) : Calls Tryz.prog 5 #[] w fun e w' => e = .returned (.bool true) ∧ Below w.heap.size w w' := by
  go_enter Tryz.func5, Tryz.ntmps5
  have hv0 : Veil w.heap.size w (w.alloc (.cells #[.bool true, .slice none 0 0] 55)) := ⟨World.alloc_heap_new w _, (Below.refl _ w).alloc (Nat.le_refl _) _⟩
  have HV := Aside0.mk hv0
  clear hv0
  go_wp2_with (go_at_call 20; (with_reducible refine (turn_nil _ _).mono ?_))
  rintro e w1 ⟨rfl, h1⟩
  have hv := HV.out.next h1
  clear HV h1
  have c0 := hv.c0
  have c1 := hv.c1
  have HV := Aside0.mk hv
  clear hv
  go_wp2_with (go_at_call 22; (with_reducible refine (redact_nil _).mono ?_))
  rintro e w2 ⟨rfl, h1⟩
  have hv := HV.out.next h1
  clear HV h1 c0 c1
  have c0 := hv.c0
  have c1 := hv.c1
  have HV := Aside0.mk hv
  clear hv
  go_wp2_with (go_at_call 23; (with_reducible refine (found_nil _).mono ?_))
  rintro e w3 ⟨rfl, h1⟩
  have hv := HV.out.next h1
  clear HV h1 c0 c1
  have c0 := hv.c0
  have c1 := hv.c1
  have HV := Aside0.mk hv
  clear hv
  go_wp2_with (go_at_call 24; (with_reducible refine (lines_nil _).mono ?_))
  rintro e w4 ⟨rfl, h1⟩
  have hv := HV.out.next h1
  clear HV h1 c0 c1
  have c0 := hv.c0
  have c1 := hv.c1
  have HV := Aside0.mk hv
  clear hv
  go_wp2_with (go_at_call 25; (with_reducible refine (text_nil _).mono ?_))
  rintro e w5 ⟨rfl, h1⟩
  have hv := HV.out.next h1
  clear HV h1 c0 c1
  have c0 := hv.c0
  have c1 := hv.c1
  have HV := Aside0.mk hv
  clear hv
  obtain ⟨n, hn⟩ : ∃ n, w.heap.size = n := ⟨_, rfl⟩
  rw [hn] at HV c0 c1 ⊢
  have hlt : n < w5.heap.size := (Array.getElem?_eq_some_iff.1 HV.out.row).1
  have hne : n ≠ w5.heap.size := Nat.ne_of_lt hlt
  go_wp2_with (go_at_call 26; (with_reducible refine (bytes_nil _).mono ?_))
  rintro e w6 ⟨rfl, h1⟩
  have hB : Below n w w6 := (HV.out.below.alloc (by omega) _).trans (h1.mono (by simp; omega))
  have HB := Aside0.mk hB
  clear HV h1 c0 c1 hlt hne hB
  have hcl : ∀ W, Calls Tryz.prog 27 #[.string ⟨#[97, 14, 98, 15, 99]⟩] W fun e w' => e = .returned (.string ⟨#[97, 14, 15, 99]⟩) ∧ Below W.heap.size W w' := fun W => by
    have h := clean_calls ⟨#[97, 14, 98, 15, 99]⟩ (by decide) W
    rw [show ofL (cleanL false (⟨#[97, 14, 98, 15, 99]⟩ : ByteArray).data.toList) = ⟨#[97, 14, 15, 99]⟩ from by decide +kernel] at h
    exact h
  go_wp2_with (go_at_call 27; (with_reducible refine (hcl _).mono ?_))
  rintro e w7 ⟨rfl, h1⟩
  clear hcl
  go_wp2
  go_ret
  refine ⟨rfl, ?_⟩
  rw [hn]
  exact HB.out.trans (h1.mono (by rw [← hn]; exact HB.out.size))
end Go.Proofs.YtifbplmejbnofaaGreatDoor.TB
