/- What lines answers of no book, and of handles that name no error in an empty one. -/
import Derived.Test.YtifbplmejbnofaaGreatDoorWMore
import Derived.Test.YtifbplmejbnofaaGreatDoorBuild
import Derived.Laws.Rows
import Derived.RangeFuncRecord
import Derived.Test.YtifbplmejbnofaaGreatDoorProg
import Derived.Laws.ResultCell
import Derived.Handy
set_option linter.unusedVariables false
set_option linter.unusedSimpArgs false
namespace Go.Proofs.YtifbplmejbnofaaGreatDoor.TN
open Go.RowKit Go.Proofs.YtifbplmejbnofaaGreatDoorW.PrintWords Go.Proofs.YtifbplmejbnofaaGreatDoorW.PrintMore

/-- a book without errors, at a block -/
def Empty (b : Nat) (W : World) : Prop := W.heap[b]? = some (.cells #[.slice none 0 0] 92 (0, 0))
theorem Empty.lt {b : Nat} {W : World} (h : Empty b W) : b < W.heap.size := (Array.getElem?_eq_some_iff.1 h).1
theorem Empty.next {b : Nat} {W W' : World} (h : Empty b W) (hb : Below W.heap.size W W') : Empty b W' := (hb.block b h.lt).trans h
theorem Empty.cell {b : Nat} {W : World} (h : Empty b W) : W.cell? ⟨b, 0, none⟩ = some (.slice none 0 0) := by rw [Lib.cell_of_heap h]; rfl
/-- a pointer to a book, a handle, and what is wrong with them -/
inductive Wrong (W : World) : Value → Int → Int → Prop where
  | nil (h : Int) : Wrong W (.pointer none) h 2
  | none (b : Nat) (hb : Empty b W) : Wrong W (.pointer (some ⟨b, 0, none⟩)) 0 0
  | far (b : Nat) (hb : Empty b W) (h : Int) (h1 : 0 < h) : Wrong W (.pointer (some ⟨b, 0, none⟩)) h 50
theorem Wrong.next {W W' : World} {p : Value} {h c : Int} (x : Wrong W p h c) (hb : Below W.heap.size W W') : Wrong W' p h c := by
  cases x with
  | nil => exact .nil _
  | none b e => exact .none b (e.next hb)
  | far b e _ h1 => exact .far b (e.next hb) _ h1
/-- a row of nothing -/
def row0 : Array Value := #[.nilIface, .int .u8 0, .bool false, .string ⟨#[]⟩, .int .i16 0, .int .i8 0, .float .f64 0, .float .f64 0, .bool false, .int .u32 0, .slice none 0 0, .slice none 0 0, .int .i64 0, .int .i64 0, .int .i64 0, .int .i64 0]
set_option maxHeartbeats 1000000 in
theorem at_calls (p : Value) (h c : Int) (w : World) (hw : Wrong w p h c) : Calls Tryz.prog 95 #[p, .int .i64 h] w fun e w' =>
    ∃ g, e = .returned (.tuple #[.pointer (some ⟨g, 0, none⟩), .int .i64 c]) ∧ w'.heap[g]? = some (.cells row0 153 (0, 0)) ∧ Below w.heap.size w w' := by
  have hn : ∀ W : World, (W.alloc (.cells row0 153)).heap[W.heap.size]? = some (.cells row0 153 (0, 0)) := fun W => World.alloc_heap_new W _
  unfold row0 at hn
  have HN := Aside0.mk hn
  clear hn
  cases hw with
  | nil =>
    go_enter Tryz.func95, Tryz.ntmps95
    go_wp2
    go_ret2
    exact ⟨_, rfl, HN.out _, by go_grown⟩
  | none b hb =>
    go_enter Tryz.func95, Tryz.ntmps95
    go_wp2
    go_ret2
    exact ⟨_, rfl, HN.out _, by go_grown⟩
  | far b hb _ h1 =>
    have hc := hb.cell
    have g1 : ¬ (h < 0) := by omega
    have g2 : (h == 0) = false := by simp; omega
    have g3 : (0 : Int) < h := h1
    clear hb
    go_enter Tryz.func95, Tryz.ntmps95
    go_wp2
    go_ret2
    exact ⟨_, rfl, HN.out _, by go_grown⟩
theorem known_calls (p : Value) (h c : Int) (w : World) (hw : Wrong w p h c) : Calls Tryz.prog 28 #[p, .int .i64 h] w fun e w' => e = .returned (.int .i64 c) ∧ Below w.heap.size w w' := by
  have he : Calls Tryz.prog 59 #[p, .int .i64 h] w fun e w' => e = .returned (.tuple #[.nilIface, .int .i64 c]) ∧ Below w.heap.size w w' := by
    go_enter Tryz.func59, Tryz.ntmps59
    go_wp2_with (go_at_call 95; (with_reducible refine (at_calls _ _ c _ hw).mono ?_))
    rintro e w1 ⟨g, rfl, hg, hb⟩
    have c0 : w1.cell? ⟨g, 0, none⟩ = some .nilIface := by rw [Lib.cell_of_heap hg]; rfl
    clear hg
    go_wp2
    go_ret2
    exact ⟨rfl, hb⟩
  go_enter Tryz.func28, Tryz.ntmps28
  go_wp2_with (go_at_call 59; (with_reducible refine he.mono ?_); rintro e w1 ⟨rfl, h1⟩)
  go_wp2
  go_ret
  exact ⟨rfl, h1⟩
theorem wrong_calls (p : Value) (h c : Int) (w : World) (hw : Wrong w p h c) : Calls Tryz.prog 62 #[p, .int .i64 h] w fun e w' => e = .returned (.int .i64 c) ∧ Below w.heap.size w w' := by
  have he : Calls Tryz.prog 75 #[p, .int .i64 h] w fun e w' => e = .returned (.tuple #[.int .i64 0, .int .i64 c]) ∧ Below w.heap.size w w' := by
    go_enter Tryz.func75, Tryz.ntmps75
    go_wp2_with (go_at_call 95; (with_reducible refine (at_calls _ _ c _ hw).mono ?_))
    rintro e w1 ⟨g, rfl, hg, hb⟩
    have c0 : w1.cell? ⟨g, 12, none⟩ = some (.int .i64 0) := by rw [Lib.cell_of_heap hg]; rfl
    clear hg
    go_wp2
    go_ret2
    exact ⟨rfl, hb⟩
  go_enter Tryz.func62, Tryz.ntmps62
  go_wp2_with (go_at_call 75; (with_reducible refine he.mono ?_); rintro e w1 ⟨rfl, h1⟩)
  go_wp2
  go_ret
  exact ⟨rfl, h1⟩
theorem parts_calls (p : Value) (h c : Int) (w : World) (hw : Wrong w p h c) (hcl : ∀ W n k, Calls Tryz.prog 133 #[.slice none n k] W fun e w' => e = .returned (.slice none 0 0) ∧ w' = W) : Calls Tryz.prog 63 #[p, .int .i64 h] w fun e w' => e = .returned (.slice none 0 0) ∧ Below w.heap.size w w' := by
  have he : Calls Tryz.prog 117 #[p, .int .i64 h] w fun e w' => e = .returned (.tuple #[.slice none 0 0, .int .i64 c]) ∧ Below w.heap.size w w' := by
    go_enter Tryz.func117, Tryz.ntmps117
    go_wp2_with (go_at_call 95; (with_reducible refine (at_calls _ _ c _ hw).mono ?_))
    rintro e w1 ⟨g, rfl, hg, hb⟩
    have c0 : w1.cell? ⟨g, 11, none⟩ = some (.slice none 0 0) := by rw [Lib.cell_of_heap hg]; rfl
    clear hg
    go_wp2_with (go_at_call 133; (with_reducible refine (hcl _ _ _).mono ?_); rintro e w2 ⟨rfl, rfl⟩)
    go_wp2
    go_ret2
    exact ⟨rfl, hb⟩
  go_enter Tryz.func63, Tryz.ntmps63
  go_wp2_with (go_at_call 117; (with_reducible refine he.mono ?_); rintro e w1 ⟨rfl, h1⟩)
  go_wp2
  go_ret
  exact ⟨rfl, h1⟩
end Go.Proofs.YtifbplmejbnofaaGreatDoor.TN
