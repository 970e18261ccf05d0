/- lines.Under of handle 0 at the empty path. -/
import Derived.Test.YtifbplmejbnofaaGreatDoorShortNode
import Derived.Test.YtifbplmejbnofaaGreatDoorUnderErr
set_option linter.unusedVariables false
set_option linter.unusedSimpArgs false
namespace Go.Proofs.YtifbplmejbnofaaGreatDoor.TS2
open Go.RowKit Go.Shelf Go.Proofs.YtifbplmejbnofaaGreatDoorW.PrintWords Go.Proofs.YtifbplmejbnofaaGreatDoorW.PrintMore Go.Proofs.YtifbplmejbnofaaGreatDoor.TB

theorem run_store_func {P : Program} {w : World} {a : Addr} {m : Mode} (f : Fn) (x y : Array Value) : (store a (.func f x y) m).run P w = stored P w a (.func f x y) m := run_store P w a _ m rfl
attribute [local go_sem] run_store_func
set_option maxHeartbeats 2000000 in
set_option maxRecDepth 100000 in
theorem under_ok (b : Nat) (w : World) (hw : TN.Empty b w) :
    Calls Tryz.prog 11 #[.pointer (some ⟨b, 0, none⟩), .int .i64 0, .string ⟨#[]⟩] w fun e w' => e = .returned (.tuple #[.string ⟨#[110, 111, 110, 101]⟩, .string ⟨#[94, 94, 94, 94]⟩, .int .i64 0]) ∧ Below w.heap.size w w' := by
  have hW : ∀ W, Below w.heap.size w W → TN.Empty b W := fun W hb => hw.next hb
  go_enter Tryz.func11, Tryz.ntmps11
  go_wp2_with (go_at_call 28; (with_reducible refine (TN.known_calls _ _ 0 _ (.none b (hW _ (by go_grown)))).mono ?_))
  rintro e w1 ⟨rfl, h1⟩
  have hB : Below w.heap.size w w1 := Below.trans (by go_grown) (h1.mono (by simp <;> omega))
  have hp : Txt w.heap.size ⟨#[]⟩ w1 := by
    refine (h1.block w.heap.size (by simp; omega)).trans ?_
    rw [Lib.alloc_old _ _ _ (by simp)]
    exact World.alloc_heap_new w (.cells #[.string ⟨#[]⟩] 9)
  have hk : Txt (w.heap.size + 1) ⟨#[]⟩ w1 := by
    refine (h1.block (w.heap.size + 1) (by simp)).trans ?_
    have := World.alloc_heap_new (w.alloc (.cells #[.string ⟨#[]⟩] 9)) (.cells #[.string ⟨#[]⟩] 9)
    rw [World.size_alloc] at this
    exact this
  have c0 := hp.cell
  have he1 := hW _ hB
  have HB := Aside0.mk hB
  have HP := Aside0.mk hp
  have HK := Aside0.mk hk
  clear h1 hB hp hk hW hw
  go_wp2_with (go_at_call 33; (with_reducible refine (TN.at_empty b _ he1).mono ?_))
  rintro e w2 ⟨rfl, h2⟩
  have hk2 : Txt (w.heap.size + 1) ⟨#[]⟩ w2 := (h2.block _ (size_of_heap HK.out)).trans HK.out
  have hp2 : Txt w.heap.size ⟨#[]⟩ w2 := (h2.block _ (size_of_heap HP.out)).trans HP.out
  have hB2 : Below w.heap.size w w2 := HB.out.trans (h2.mono HB.out.size)
  clear c0 h2 HB HK HP he1
  have HK := Aside0.mk hk2
  have HP := Aside0.mk hp2
  have HB := Aside0.mk hB2
  clear hk2 hp2 hB2
  obtain ⟨n0, hn0⟩ : ∃ n0, w.heap.size = n0 := ⟨_, rfl⟩
  rw [hn0] at HK HP HB
  obtain ⟨q, hq⟩ : ∃ q, w2.heap.size = q := ⟨_, rfl⟩
  have hBq : n0 ≤ q := by rw [← hn0, ← hq]; exact HB.out.size
  have hpq : n0 < q := by rw [← hq]; exact size_of_heap HP.out
  have hmq : n0 + 1 < q := by rw [← hq]; exact size_of_heap HK.out
  go_wp2_with (fail)
  obtain ⟨W3, hW3⟩ : ∃ W3, w2.alloc (.cells #[.pointer (some ⟨b, 0, none⟩), .pointer none, .slice none 0 0, .int .i64 0, .func (.func 38) #[] #[.pointer (some ⟨n0, 0, none⟩), .pointer (some ⟨n0 + 1, 0, none⟩)]] 83) = W3 := ⟨_, rfl⟩
  have hsh : Sh n0 q (.pointer (some ⟨b, 0, none⟩)) (.func (.func 38) #[] #[.pointer (some ⟨n0, 0, none⟩), .pointer (some ⟨n0 + 1, 0, none⟩)]) 0 [] W3 := by
    refine ⟨_, .slice none 0 0, .inl rfl, hBq, ?_, World.ownsRowF_nil _ _ _ _, by simp [Value.ownBlock]⟩
    rw [← hW3, ← hq]
    exact World.alloc_heap_new w2 _
  have hp3 : Txt n0 ⟨#[]⟩ W3 := by rw [← hW3]; exact (Lib.alloc_old _ _ _ (by rw [hq]; exact hpq)).trans HP.out
  have hm3 : Txt (n0 + 1) ⟨#[]⟩ W3 := by rw [← hW3]; exact (Lib.alloc_old _ _ _ (by rw [hq]; exact hmq)).trans HK.out
  have hB3 : Below n0 w W3 := by rw [← hW3]; exact HB.out.alloc (by rw [hq]; exact hBq) _
  have hs3 : n0 ≤ W3.heap.size := by rw [← hn0]; exact (by rw [hn0]; exact hB3 : Below w.heap.size w W3).size
  rw [hW3]
  clear hW3 HB HP HK
  refine (node_none n0 q n0 (n0 + 1) _ W3 hsh hs3 hp3 hm3 (by omega) (by omega) (by omega) (by omega)).mono ?_
  rintro e w4 ⟨rfl, h4, hm4, b4⟩
  have hB4 : Below n0 w w4 := hB3.trans b4
  have HB := Aside0.mk hB4
  clear hsh hp3 hm3 hB3 b4
  have hst := string_calls n0 q _ _ 4 [110, 111, 110, 101] w4 h4 (by decide)
  have hst' := string_calls n0 q _ _ 4 [110, 111, 110, 101] w4.drew h4 (by decide)
  have c1 := hm4.cell
  have f1 : w4.frozen? ⟨n0 + 1, 0, none⟩ = false := Lib.frozen_of_heap hm4 0
  have HM := Aside0.mk hm4
  have hmne : n0 + 1 ≠ q := by omega
  clear hm4 h4
  go_wp2
  go_region_with (first | (refine hst'.mono ?_; rintro e w5 ⟨rfl, b5, k5⟩; have hm5 := Txt.others (W := w4.drew) HM.out k5 hmne; have c1 := hm5.cell; have f1 : w5.frozen? ⟨n0 + 1, 0, none⟩ = false := Lib.frozen_of_heap hm5 0))
  all_goals
    have bU : Below n0 w4 w5 := ⟨b5.os, b5.tape, b5.output, b5.size, b5.block⟩
    go_wp2
    (try simp only [Exit.inBlock, Exit.then])
    refine bodyPost_ret (TN.results_tct rfl _ _ ⟨n0 + 1, 0, none⟩ ⟨#[94, 94, 94, 94]⟩ rfl (by rw [Lib.cell_of_heap (set_row hm5 0 _)]; rfl)) rfl ?_
    refine ⟨rfl, ?_⟩
    rw [hn0]
    exact (HB.out.trans bU).setCell (p := ⟨n0 + 1, 0, none⟩) (by simp) _
end Go.Proofs.YtifbplmejbnofaaGreatDoor.TS2
