/- lines.short.put of the word none; node of handle 0. -/
import Derived.Test.YtifbplmejbnofaaGreatDoorShort
import Derived.LoopN
import Derived.Deep.LoopGhost
import Derived.Laws.RangeString
import Derived.Lib.BufferKept
import Derived.Handy
set_option linter.unusedVariables false
set_option linter.unusedSimpArgs false
namespace Go.Proofs.YtifbplmejbnofaaGreatDoor.TS2
open Go.RowKit Go.Shelf Go.Proofs.YtifbplmejbnofaaGreatDoorW.PrintWords Go.Proofs.YtifbplmejbnofaaGreatDoorW.PrintMore Go.Proofs.YtifbplmejbnofaaGreatDoor.TB

theorem size_set (W : World) (a : Addr) (u : Value) : (W.setCell a u).heap.size = W.heap.size := by simp [World.setCell]
theorem iter_set (W : World) (s : ByteArray) (k q i : Nat) (u : Value) (hq : q < W.heap.size) : (W.iter s k).setCell ⟨q, i, none⟩ u = (W.setCell ⟨q, i, none⟩ u).iter s k := by
  unfold World.iter World.setCell World.alloc
  congr 1
  apply Array.ext_getElem?
  intro j
  simp only [Array.getElem?_modify, Array.getElem?_push, Array.size_modify]
  by_cases hj : q = j
  · subst hj
    simp [Nat.ne_of_lt hq]
  · simp [hj]
def noneB : ByteArray := ⟨#[110, 111, 110, 101]⟩
set_option maxHeartbeats 2000000 in
set_option maxRecDepth 100000 in
theorem put_none (B q : Nat) (bp sn : Value) (w : World) (h : Sh B q bp sn 0 [] w) (hBw : B ≤ w.heap.size) :
    Calls Tryz.prog 61 #[.pointer (some ⟨q, 0, none⟩), .string ⟨#[110, 111, 110, 101]⟩] w fun e w' => e = .returned (.tuple #[]) ∧
      (ShU B q bp sn 4 (Lib.byteCells [110, 111, 110, 101]) w' ∧ Below B w w' ∧ Lib.OthersKept 5 (some q) w w') := by
  go_enter Tryz.func61, Tryz.ntmps61
  go_wp2_with (go_at_call 71; refine (write_string B q bp sn 0 [] ⟨#[110, 111, 110, 101]⟩ _ h (by decide) hBw).mono ?_)
  rintro e w1 ⟨rfl, h1, b1, k1⟩
  obtain ⟨v, hB, hbk, hown, hne⟩ := h1
  have hq : q < w1.heap.size := size_of_heap hbk
  obtain ⟨nx, hnx⟩ : ∃ nx, w1.heap.size = nx := ⟨_, rfl⟩
  have hb0 : B ≤ nx := by rw [← hnx]; exact Nat.le_trans hBw b1.size
  have HK := Aside0.mk hbk
  have HO := Aside0.mk hown
  have HB := Aside0.mk b1
  have HT := Aside0.mk k1
  clear hbk hown h b1 k1
  go_wp2
  rw [hnx] at hq
  go_loopg [] 4 (fun kq wr => ∃ (k : Nat) (W : World), k + kq = 4 ∧ wr = W.iter noneB k ∧ Aside0 (W.heap.size = nx) ∧ Aside0 (W.heap[q]? = some (.cells #[bp, .pointer (some ⟨q, 1, none⟩), v, .int .i64 k, sn] 83 (0, 0))) ∧
    Aside0 (W.ownsRowF B 5 1 v ([] ++ Lib.strCells noneB).length ([] ++ Lib.strCells noneB)) ∧ Aside0 (Below B w W) ∧ Aside0 (Lib.OthersKept 5 (some q) w W))
  case atStart => exact ⟨0, w1, rfl, rfl, Aside0.mk hnx, HK, HO, HB, HT⟩
  case round =>
    clear HK HO HB HT
    obtain ⟨k, W, hkq, rfl, hsz, HK, HO, HB, HT⟩ := hrel
    have hs4 : noneB.size = 4 := rfl
    by_cases hk : k < 4
    · have hch : ∀ j, (h : j < noneB.size) → (noneB[j]'h).toNat < 128 := by decide +kernel
      have hx : ∀ ty, (Instr.next (.pointer (some ⟨nx, 0, none⟩)) true ty).run Tryz.prog (W.iter noneB k) = .ok (.tuple #[.bool true, .int .i64 k, .int .i32 (noneB[k]'(by rw [hs4]; exact hk)).toNat]) (W.iter noneB (k + 1)) := fun ty => by
        rw [← hsz.out]; exact run_next_ascii W noneB k ty (by rw [hs4]; exact hk) (hch k _)
      have hkk : (W.iter noneB (k + 1)).heap[q]? = some (.cells #[bp, .pointer (some ⟨q, 1, none⟩), v, .int .i64 k, sn] 83 (0, 0)) := by
        unfold World.iter
        rw [Lib.alloc_old _ _ _ (by rw [hsz.out]; exact hq)]
        exact HK.out
      have c3 : (W.iter noneB (k + 1)).cell? ⟨q, 3, none⟩ = some (.int .i64 k) := by rw [Lib.cell_of_heap hkk]; rfl
      have f3 : (W.iter noneB (k + 1)).frozen? ⟨q, 3, none⟩ = false := Lib.frozen_of_heap hkk 3
      have hw : IntKind.i64.wrap ((k : Int) + 1) = ((k + 1 : Nat) : Int) := by simp only [IntKind.wrap, IntKind.signed, IntKind.bits]; simp; omega
      clear hkk hch
      go_wp2
      go_roundg (3 - k)
      case measure => omega
      case rel =>
        refine ⟨k + 1, W.setCell ⟨q, 3, none⟩ (.int .i64 ((k : Int) + 1)), by omega, ?_, Aside0.mk ?_, Aside0.mk ?_, Aside0.mk ?_, Aside0.mk ?_, Aside0.mk ?_⟩
        · exact iter_set W noneB (k + 1) q 3 _ (by rw [hsz.out]; exact hq)
        · rw [size_set]; exact hsz.out
        · have := set_row HK.out 3 (.int .i64 ((k : Int) + 1))
          simpa using this
        · exact ownF_set HO.out hne 3 _
        · exact HB.out.setCell (p := ⟨q, 3, none⟩) hB _
        · exact HT.out.setCell ⟨q, 3, none⟩ rfl _
    · obtain rfl : k = 4 := by omega
      have hx : ∀ ty, (Instr.next (.pointer (some ⟨nx, 0, none⟩)) true ty).run Tryz.prog (W.iter noneB 4) = .ok (.tuple #[.bool false]) (W.iter noneB 4) := fun ty => by
        rw [← hsz.out]; exact run_next_end W noneB 4 ty (by rw [hs4]; omega)
      go_wp2
      go_end0
      refine ⟨rfl, ⟨v, hB, ?_, ?_, hne⟩, ?_, ?_⟩
      · unfold World.iter
        rw [Lib.alloc_old _ _ _ (by rw [hsz.out]; exact hq)]
        exact HK.out
      · exact HO.out.alloc _
      · exact HB.out.alloc (by rw [hsz.out]; exact hb0) _
      · exact HT.out.alloc _
end Go.Proofs.YtifbplmejbnofaaGreatDoor.TS2
