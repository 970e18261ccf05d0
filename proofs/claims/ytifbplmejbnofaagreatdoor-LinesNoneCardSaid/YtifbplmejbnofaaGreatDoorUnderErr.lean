/- lines.Under where the book, the handle or the path is none. -/
import Derived.Test.YtifbplmejbnofaaGreatDoorLinesNil2
import Derived.LoopN
import Derived.Lib.ConvBytes
set_option linter.unusedVariables false
set_option linter.unusedSimpArgs false
namespace Go.Proofs.YtifbplmejbnofaaGreatDoor.TN
open Go.RowKit Go.Proofs.YtifbplmejbnofaaGreatDoorW.PrintWords Go.Proofs.YtifbplmejbnofaaGreatDoorW.PrintMore

theorem cell_bytes (W : World) (e : TypeId) (s : ByteArray) (i : Nat) (hi : i < s.size) : (Lib.bytesWorld W e s).cell? ⟨W.heap.size, i, none⟩ = some (.int .u8 (bt s i)) := by
  rw [Lib.bytesWorld_cell W e s i hi]
  have h' : i < s.data.toList.length := by rw [data_length]; exact hi
  rw [← rd_bytesOf]
  simp [rd, bytesOf, List.getD_eq_getElem?_getD, List.getElem?_eq_getElem h']
theorem below_bytes (W : World) (e : TypeId) (s : ByteArray) : Below W.heap.size W (Lib.bytesWorld W e s) := bytes_below (Below.refl _ W) (Nat.le_refl _) e s
theorem set_row {w : World} {g : Nat} {cs : Array Value} {t : TypeId} {fr : Nat × Nat} (h : w.heap[g]? = some (.cells cs t fr)) (i : Nat) (v : Value) : (w.setCell ⟨g, i, none⟩ v).heap[g]? = some (.cells (cs.setIfInBounds i v) t fr) := by
  simp [World.setCell, Array.getElem?_modify, h]
theorem results_tct {fn : Func} {p u v : Tmp} (h : fn.results = #[.tmp u, .cell p 9, .tmp v]) (tmps : Array Value) (w : World) (a : Addr) (x : ByteArray) (hp : tmps.getD p undef = .pointer (some a)) (hc : w.cell? a = some (.string x)) :
    (results fn tmps).run Tryz.prog w = .ok (.tuple #[tmps.getD u undef, .string x, tmps.getD v undef]) w := by
  have hp' : tmps[p]?.getD undef = .pointer (some a) := by simpa using hp
  simp [results, h, hp', asAddr, go_sem, loadVar, Tryz.underlying9, Tryz.isAgg9, hc]
theorem at_err (p : Value) (h c : Int) (hc : c ≠ 0) (path : ByteArray) (w : World) (hw : Wrong w p h c) : Calls Tryz.prog 33 #[p, .int .i64 h, .string path] w fun e w' => e = .returned (.tuple #[.int .i64 0, .int .i64 c]) ∧ Below w.heap.size w w' := by
  have hc' : (c == 0) = false := by simp [hc]
  go_enter Tryz.func33, Tryz.ntmps33
  go_wp2_with (go_at_call 62; (with_reducible refine (wrong_calls _ _ c _ hw).mono ?_); rintro e w1 ⟨rfl, h1⟩)
  go_wp2
  go_ret2
  exact ⟨rfl, h1⟩
theorem under_wrong (p : Value) (h c : Int) (hc : c ≠ 0) (path : ByteArray) (w : World) (hw : Wrong w p h c) : Calls Tryz.prog 11 #[p, .int .i64 h, .string path] w fun e w' => e = .returned (.tuple #[.string ⟨#[]⟩, .string ⟨#[]⟩, .int .i64 c]) ∧ Below w.heap.size w w' := by
  have hc' : (c == 0) = false := by simp [hc]
  have hW : ∀ W, Below w.heap.size w W → Wrong W p h c := fun W hb => hw.next hb
  go_enter Tryz.func11, Tryz.ntmps11
  go_wp2_with (go_at_call 28; (with_reducible refine (known_calls _ _ c _ (hW _ (by go_grown))).mono ?_))
  rintro e w1 ⟨rfl, h1⟩
  have hk : w1.heap[w.heap.size + 1]? = some (.cells #[.string ⟨#[]⟩] 9 (0, 0)) := by
    refine (h1.block (w.heap.size + 1) (by simp)).trans ?_
    have := World.alloc_heap_new (w.alloc (.cells #[.string path] 9)) (.cells #[.string ⟨#[]⟩] 9)
    rw [World.size_alloc] at this
    exact this
  have hB : Below w.heap.size w w1 := Below.trans (by go_grown) (h1.mono (by simp <;> omega))
  clear h1 hW hw
  have c0 : w1.cell? ⟨w.heap.size + 1, 0, none⟩ = some (.string ⟨#[]⟩) := by rw [Lib.cell_of_heap hk]; rfl
  have f0 := Lib.frozen_of_heap hk 0
  have HK := Aside0.mk hk
  have HB := Aside0.mk hB
  clear hk hB
  go_wp2
  (try simp only [Exit.inBlock, Exit.then])
  refine bodyPost_ret (results_tct rfl _ _ ⟨w.heap.size + 1, 0, none⟩ ⟨#[]⟩ rfl (by rw [Lib.cell_of_heap (set_row HK.out 0 _)]; rfl)) rfl ?_
  exact ⟨rfl, (HB.out.setCell (p := ⟨w.heap.size + 1, 0, none⟩) (by simp) _)⟩
theorem at_path (b : Nat) (hcl : ∀ W n k, Calls Tryz.prog 133 #[.slice none n k] W fun e w' => e = .returned (.slice none 0 0) ∧ w' = W) (w : World) (hw : Empty b w) :
    Calls Tryz.prog 33 #[.pointer (some ⟨b, 0, none⟩), .int .i64 0, .string ⟨#[120]⟩] w fun e w' => e = .returned (.tuple #[.int .i64 0, .int .i64 110]) ∧ Below w.heap.size w w' := by
  have kb := fun W => print_bytes (P := Tryz.prog) 9 53 5 Tryz.underlying9 Tryz.underlying53 Tryz.underlying5 ⟨#[120]⟩ W
  go_enter Tryz.func33, Tryz.ntmps33
  go_wp2_with (go_at_call 62; (with_reducible refine (wrong_calls _ _ 0 _ (.none b hw)).mono ?_); rintro e w1 ⟨rfl, h1⟩)
  have hB1 := h1
  have hb1 := hw.next h1
  have c0 : (Lib.bytesWorld w1 5 ⟨#[120]⟩).cell? ⟨w1.heap.size, 0, none⟩ = some (.int .u8 120) := cell_bytes w1 5 ⟨#[120]⟩ 0 (by decide)
  have bB : Below w1.heap.size w1 (Lib.bytesWorld w1 5 ⟨#[120]⟩) := below_bytes w1 _ _
  obtain ⟨W, hW⟩ : ∃ W, Lib.bytesWorld w1 5 ⟨#[120]⟩ = W := ⟨_, rfl⟩
  rw [hW] at c0 bB ⊢
  have hwr : Wrong W (.pointer (some ⟨b, 0, none⟩)) 0 0 := .none b (hb1.next bB)
  have HB := Aside0.mk (h1.trans (bB.mono h1.size))
  clear hW kb h1 hB1 hb1 bB hw
  refine wp_loop_rounds 1 ?_
  unfold Code.rounds
  go_wp2_with (go_at_call 63; (with_reducible refine (parts_calls _ _ 0 _ hwr hcl).mono ?_); rintro e w2 ⟨rfl, h2⟩)
  go_wp2
  go_ret2
  exact ⟨rfl, HB.out.trans (h2.mono HB.out.size)⟩
theorem at_empty (b : Nat) (w : World) (hw : Empty b w) :
    Calls Tryz.prog 33 #[.pointer (some ⟨b, 0, none⟩), .int .i64 0, .string ⟨#[]⟩] w fun e w' => e = .returned (.tuple #[.int .i64 0, .int .i64 0]) ∧ Below w.heap.size w w' := by
  have kb := fun W => print_bytes (P := Tryz.prog) 9 53 5 Tryz.underlying9 Tryz.underlying53 Tryz.underlying5 ⟨#[]⟩ W
  go_enter Tryz.func33, Tryz.ntmps33
  go_wp2_with (go_at_call 62; (with_reducible refine (wrong_calls _ _ 0 _ (.none b hw)).mono ?_); rintro e w1 ⟨rfl, h1⟩)
  have bB : Below w1.heap.size w1 (Lib.bytesWorld w1 5 ⟨#[]⟩) := below_bytes w1 _ _
  have HB := Aside0.mk (h1.trans (bB.mono h1.size))
  clear kb h1 bB hw
  refine wp_loop_rounds 1 ?_
  unfold Code.rounds
  go_wp2
  go_ret2
  exact ⟨rfl, HB.out⟩
theorem under_path (b : Nat) (hcl : ∀ W n k, Calls Tryz.prog 133 #[.slice none n k] W fun e w' => e = .returned (.slice none 0 0) ∧ w' = W) (w : World) (hw : Empty b w) :
    Calls Tryz.prog 11 #[.pointer (some ⟨b, 0, none⟩), .int .i64 0, .string ⟨#[120]⟩] w fun e w' => e = .returned (.tuple #[.string ⟨#[]⟩, .string ⟨#[]⟩, .int .i64 110]) ∧ Below w.heap.size w w' := by
  have hW : ∀ W, Below w.heap.size w W → Empty b W := fun W hb => hw.next hb
  go_enter Tryz.func11, Tryz.ntmps11
  go_wp2_with (go_at_call 28; (with_reducible refine (known_calls _ _ 0 _ (.none b (hW _ (by go_grown)))).mono ?_))
  rintro e w1 ⟨rfl, h1⟩
  have hB : Below w.heap.size w w1 := Below.trans (by go_grown) (h1.mono (by simp <;> omega))
  have hp : w1.heap[w.heap.size]? = some (.cells #[.string ⟨#[120]⟩] 9 (0, 0)) := by
    refine (h1.block w.heap.size (by simp; omega)).trans ?_
    rw [Lib.alloc_old _ _ _ (by simp)]
    exact World.alloc_heap_new w (.cells #[.string ⟨#[120]⟩] 9)
  have hk : w1.heap[w.heap.size + 1]? = some (.cells #[.string ⟨#[]⟩] 9 (0, 0)) := by
    refine (h1.block (w.heap.size + 1) (by simp)).trans ?_
    have := World.alloc_heap_new (w.alloc (.cells #[.string ⟨#[120]⟩] 9)) (.cells #[.string ⟨#[]⟩] 9)
    rw [World.size_alloc] at this
    exact this
  have c0 : w1.cell? ⟨w.heap.size, 0, none⟩ = some (.string ⟨#[120]⟩) := by rw [Lib.cell_of_heap hp]; rfl
  have he1 := hW _ hB
  have HB := Aside0.mk hB
  have HK := Aside0.mk hk
  clear h1 hB hp hk hW hw
  go_wp2_with (go_at_call 33; (with_reducible refine (at_path b hcl _ he1).mono ?_))
  rintro e w2 ⟨rfl, h2⟩
  have hk2 := (h2.block (w.heap.size + 1) (Array.getElem?_eq_some_iff.1 HK.out).1).trans HK.out
  have hB2 : Below w.heap.size w w2 := HB.out.trans (h2.mono HB.out.size)
  clear c0 h2 HB HK he1 hcl
  have c0 : w2.cell? ⟨w.heap.size + 1, 0, none⟩ = some (.string ⟨#[]⟩) := by rw [Lib.cell_of_heap hk2]; rfl
  have f0 := Lib.frozen_of_heap hk2 0
  have HK := Aside0.mk hk2
  have HB := Aside0.mk hB2
  clear hk2 hB2
  go_wp2
  (try simp only [Exit.inBlock, Exit.then])
  refine bodyPost_ret (results_tct rfl _ _ ⟨w.heap.size + 1, 0, none⟩ ⟨#[]⟩ rfl (by rw [Lib.cell_of_heap (set_row HK.out 0 _)]; rfl)) rfl ?_
  exact ⟨rfl, (HB.out.setCell (p := ⟨w.heap.size + 1, 0, none⟩) (by simp) _)⟩
end Go.Proofs.YtifbplmejbnofaaGreatDoor.TN
