/- finger.Of: the walk. -/
import Derived.Test.YtifbplmejbnofaaGreatDoorWMore
import Derived.Test.YtifbplmejbnofaaGreatDoorProg
import Derived.Deep.RegionHeld3
import Derived.Deep.LoopGhost
import Derived.RangeFuncRecord
import Derived.Lib.ConvBytes
import Derived.Laws.Bits64
import Derived.Laws.Rows
import Derived.OwnWalk
import Derived.WalkKit
set_option linter.unusedVariables false
set_option linter.unusedSimpArgs false
namespace Go.Proofs.YtifbplmejbnofaaGreatDoor.TF
open Go.RowKit Go.Proofs.YtifbplmejbnofaaGreatDoorW.PrintWords Go.Proofs.YtifbplmejbnofaaGreatDoorW.PrintMore
theorem info5 : (Tryz.prog.info? 5).map (fun i => (i.zero, i.size, i.bytes)) = some (some (.int .u8 0), 1, 1) := by kernel_rfl

/-- sixteen bytes, as the program holds them -/
def arr (xs : List Int) : Array Value := (xs.map (Value.int .u8)).toArray
theorem arr_size (xs : List Int) : (arr xs).size = xs.length := by simp [arr]
theorem arr_get (xs : List Int) (i : Nat) (h : i < xs.length) : (arr xs)[i]? = some (.int .u8 (xs.getD i 0)) := by
  simp [arr, List.getElem?_eq_getElem h, List.getD_eq_getElem?_getD]
theorem arr_lit (A : Array Value) (h : A.size = 16) : #[A[0], A[1], A[2], A[3], A[4], A[5], A[6], A[7], A[8], A[9], A[10], A[11], A[12], A[13], A[14], A[15]] = A := by
  apply Array.ext
  · simp [h]
  · intro i h1 h2
    have : i < 16 := by simpa using h1
    have h0 : i = 0 ∨ i = 1 ∨ i = 2 ∨ i = 3 ∨ i = 4 ∨ i = 5 ∨ i = 6 ∨ i = 7 ∨ i = 8 ∨ i = 9 ∨ i = 10 ∨ i = 11 ∨ i = 12 ∨ i = 13 ∨ i = 14 ∨ i = 15 := by omega
    rcases h0 with rfl | rfl | rfl | rfl | rfl | rfl | rfl | rfl | rfl | rfl | rfl | rfl | rfl | rfl | rfl | rfl <;> rfl
theorem index_arr43 (A : Array Value) (hA : A.size = 16) (i : Nat) (hi : i < 16) (v : Value) (hv : A[i]? = some v) (W : World) : Sem.run Tryz.prog (Instr.index 43 (.agg A) (.int .i64 i)) W = .ok v W := by
  have h1 : A[i]'(by omega) = v := by rw [Array.getElem?_eq_getElem (by omega)] at hv; exact Option.some.inj hv
  have ht := Tryz.underlying43
  have ht5 := Tryz.underlying5
  obtain ⟨i0, hi0, hz0, hz1, hz2⟩ := info_parts info5
  have hc : (0 ≤ (i : Int)) ∧ ((i : Int) < 16) := by omega
  simp [Instr.index, go_sem, ht, ht5, hc, hi, part, hi0, hz1, h1, hA, hv]
theorem cell_arr (w : World) (A B : Array Value) (t : TypeId) (i : Nat) (v : Value) (h : B[i]? = some v) : ((w.alloc (.cells A t)).alloc (.cells B t)).cell? ⟨w.heap.size + 1, i, none⟩ = some v := by
  have h1 := World.alloc_heap_new (w.alloc (.cells A t)) (.cells B t)
  rw [World.size_alloc] at h1
  simp only [World.cell?]
  rw [h1]
  exact h
/-- the two numbers behind the first n bytes -/
def ofA (s : ByteArray) : Nat → Int
  | 0 => 14695981039346656037
  | i + 1 => IntKind.u64.wrap (Go.bits .xor .u64 (ofA s i) (bt s i) * 1099511628211)
def ofV (s : ByteArray) (c : Int) (i : Nat) : Int := IntKind.u64.wrap (Go.bits .xor .u64 c (bt s i) * 15485907322112368019)
def ofC (s : ByteArray) : Nat → Int
  | 0 => 2676404437206674845
  | i + 1 => Go.bits .xor .u64 (ofV s (ofC s i) i) (ofV s (ofC s i) i / 4294967296)
def byteAt (A : Int) (i : Nat) : Int := A / 2 ^ (56 - 8 * i) % 256
def ofRow (A C : Int) : Nat → List Int
  | 0 => [0, 0, 0, 0, 0, 0, 0, 0, 0, 0, 0, 0, 0, 0, 0, 0]
  | i + 1 => ((ofRow A C i).set i (byteAt A i)).set (8 + i) (byteAt C i)
theorem cell_box (w : World) (A : Array Value) (t : TypeId) (i : Nat) (v : Value) (h : A[i]? = some v) : (w.alloc (.cells A t)).cell? ⟨w.heap.size, i, none⟩ = some v := by
  have h1 := World.alloc_heap_new w (.cells A t)
  simp only [World.cell?]
  rw [h1]
  exact h
theorem frozen_box (w : World) (A : Array Value) (t : TypeId) (i : Nat) : (w.alloc (.cells A t)).frozen? ⟨w.heap.size, i, none⟩ = false := by
  have h1 := World.alloc_heap_new w (.cells A t)
  simp only [World.frozen?]
  rw [h1]
  simp
theorem arr_set (xs : List Int) (i : Nat) (v : Int) : (arr xs).setIfInBounds i (.int .u8 v) = arr (xs.set i v) := by
  simp [arr, List.map_set]
theorem arr_one (xs : List Int) : (arr xs).all (·.oneCell') = true := by
  simp [arr, Value.oneCell']
theorem ofRow_len (A C : Int) (i : Nat) : (ofRow A C i).length = 16 := by
  induction i with
  | zero => rfl
  | succ i ih => unfold ofRow; rw [List.length_set, List.length_set, ih]
theorem below_drewN' {B : Nat} {a w : World} (h : Below B a w) (n : Nat) : Below B a (w.drewN n) := h.trans ⟨rfl, rfl, rfl, Nat.le_refl _, fun _ _ => rfl⟩
theorem cell_bytes (W : World) (e : TypeId) (s : ByteArray) (i : Nat) (hi : i < s.size) : (Lib.bytesWorld W e s).cell? ⟨W.heap.size, i, none⟩ = some (.int .u8 (bt s i)) := by
  rw [Lib.bytesWorld_cell W e s i hi]
  have h' : i < s.data.toList.length := by rw [data_length]; exact hi
  rw [← rd_bytesOf]
  simp [rd, bytesOf, List.getD_eq_getElem?_getD, List.getElem?_eq_getElem h']

set_option maxRecDepth 100000 in
set_option maxHeartbeats 1000000 in
theorem of_walk (s : ByteArray) (hs : s.size ≤ 9223372036854775807) (w : World) :
    Calls Tryz.prog 18 #[.string s] w fun e w' => e = .returned (.agg (arr (ofRow (ofA s s.size) (ofC s s.size) 8))) ∧ Below w.heap.size w w' := by
  have kb := fun W => print_bytes (P := Tryz.prog) 9 53 5 Tryz.underlying9 Tryz.underlying53 Tryz.underlying5 s W
  go_enter Tryz.func18, Tryz.ntmps18
  go_wp2
  obtain ⟨Z, hZ⟩ : ∃ Z : Array Value, #[Value.int .u8 0, .int .u8 0, .int .u8 0, .int .u8 0, .int .u8 0, .int .u8 0, .int .u8 0, .int .u8 0, .int .u8 0, .int .u8 0, .int .u8 0, .int .u8 0, .int .u8 0, .int .u8 0, .int .u8 0, .int .u8 0] = Z := ⟨_, rfl⟩
  rw [hZ]
  obtain ⟨W0, hW0⟩ : ∃ W0, Lib.bytesWorld (w.alloc (.cells Z 43)) 5 s = W0 := ⟨_, rfl⟩
  rw [hW0]
  clear kb
  have hcb := fun i hi => cell_bytes (w.alloc (.cells Z 43)) 5 s i hi
  rw [hW0, World.size_alloc] at hcb
  go_loopg [3, 4, 12] s.size (fun kq v3 v4 v12 wr => ∃ i : Nat, v12 = .int .i64 i ∧ i + kq = s.size ∧ v3 = .int .u64 (ofA s i) ∧ v4 = .int .u64 (ofC s i) ∧ wr = W0)
  case atStart => exact ⟨0, rfl, by omega, rfl, rfl, rfl⟩
  case round =>
    obtain ⟨i, rfl, hk, rfl, rfl, rfl⟩ := hrel
    by_cases hi : i < s.size
    · have hc := hcb i hi
      clear hcb
      obtain ⟨x, hx⟩ : ∃ x, bt s i = x := ⟨_, rfl⟩
      obtain ⟨A, hA⟩ : ∃ A, ofA s i = A := ⟨_, rfl⟩
      obtain ⟨C, hC⟩ : ∃ C, ofC s i = C := ⟨_, rfl⟩
      rw [hx] at hc
      rw [hA, hC]
      have hii : (0 ≤ (i : Int)) ∧ ((i : Int) < s.size) := by omega
      have hwi : wrap64 ((i : Int) + 1) = ((i + 1 : Nat) : Int) := by unfold wrap64; omega
      have hbb : 0 ≤ x ∧ x < 256 := by have := bt_range s i; omega
      have hm : IntKind.u64.wrap x = x := by show x % 18446744073709551616 = x; omega
      go_wp2
      go_roundg (gk - 1)
      case measure => omega
      case rel => exact ⟨i + 1, by simp, by omega, by rw [← hA, ← hx]; rfl, by rw [← hC, ← hx]; rfl, rfl⟩
    · obtain rfl : i = s.size := by omega
      clear hcb
      obtain ⟨A, hA⟩ : ∃ A, ofA s s.size = A := ⟨_, rfl⟩
      obtain ⟨C, hC⟩ : ∃ C, ofC s s.size = C := ⟨_, rfl⟩
      rw [hA, hC]
      go_wp2
      have hZ' : Z = arr (ofRow A C 0) := by rw [← hZ]; rfl
      go_loopg [33] 8 (fun kq v33 wq => ∃ i m : Nat, v33 = .int .i64 i ∧ i + kq = 8 ∧ wq = (wr.drewN m).alloc (.cells (arr (ofRow A C i)) 43))
      case atStart => exact ⟨0, 0, rfl, rfl, by rw [hZ']; rfl⟩
      case round =>
        obtain ⟨i, m, rfl, hki, rfl⟩ := hrel
        by_cases hi8 : i < 8
        · have hii : (0 ≤ (i : Int)) ∧ ((i : Int) < 16) := by omega
          go_wp2
          have f1 : IntKind.i64.wrap (8 * (i : Int)) = 8 * (i : Int) := IntWalk.i64_in _ (by omega)
          have f2 : IntKind.i64.wrap (8 + (i : Int)) = ((8 + i : Nat) : Int) := by rw [IntWalk.i64_in _ (by omega)]; omega
          have f3 : IntKind.i64.wrap (56 - 8 * (i : Int)) = ((56 - 8 * i : Nat) : Int) := by rw [IntWalk.i64_in _ (by omega)]; omega
          obtain ⟨j, hj⟩ : ∃ j, 56 - 8 * i = j := ⟨_, rfl⟩
          obtain ⟨k, hk8⟩ : ∃ k, 8 + i = k := ⟨_, rfl⟩
          rw [hj] at f3
          rw [hk8] at f2
          obtain ⟨L, hL⟩ : ∃ L, arr (ofRow A C i) = L := ⟨_, rfl⟩
          rw [hL]
          have hk0 : (0 : Int) ≤ (k : Int) := by omega
          have hk1 : (k : Int) < 16 := by omega
          have hi0 : (0 : Int) ≤ (i : Int) := by omega
          have hi1 : (i : Int) < 16 := by omega
          have hj0 : (0 : Int) ≤ (j : Int) := by omega
          have hls : L.size = 16 := by rw [← hL, arr_size, ofRow_len]
          have h1 : Tryz.prog.follows .mixedOrders = true := by kernel_rfl
          obtain ⟨x, hLi⟩ : ∃ x, L[i]? = some (Value.int .u8 x) := ⟨_, by rw [← hL]; exact arr_get _ i (by rw [ofRow_len]; omega)⟩
          obtain ⟨y, hLk⟩ : ∃ y, L[k]? = some (Value.int .u8 y) := ⟨_, by rw [← hL]; exact arr_get _ k (by rw [ofRow_len]; omega)⟩
          have hik : i ≠ k := by omega
          have hki : k ≠ i := by omega
          obtain ⟨W1, hW1⟩ : ∃ W1, (wr.drewN m).alloc (.cells L 43) = W1 := ⟨_, rfl⟩
          rw [hW1]
          have c1 : W1.cell? ⟨wr.heap.size, i, none⟩ = some (Value.int .u8 x) := by rw [← hW1]; exact cell_box (wr.drewN m) L 43 i _ hLi
          have c2 : W1.cell? ⟨wr.heap.size, k, none⟩ = some (Value.int .u8 y) := by rw [← hW1]; exact cell_box (wr.drewN m) L 43 k _ hLk
          have z1 : W1.frozen? ⟨wr.heap.size, i, none⟩ = false := by rw [← hW1]; exact frozen_box (wr.drewN m) L 43 i
          have z2 : W1.frozen? ⟨wr.heap.size, k, none⟩ = false := by rw [← hW1]; exact frozen_box (wr.drewN m) L 43 k
          go_region
          have hfin : ((W1.setCell ⟨wr.heap.size, i, none⟩ (.int .u8 (A / 2 ^ j % 256))).setCell ⟨wr.heap.size, k, none⟩ (.int .u8 (C / 2 ^ j % 256))).drew = (wr.drewN (m + 1)).alloc (.cells (arr (ofRow A C (i + 1))) 43) := by
            rw [← hW1, ← hL]
            have hp : wr.heap.size = (wr.drewN m).heap.size := rfl
            rw [hp, World.setCell_alloc_at _ _ _ _ _ rfl, World.setCell_alloc_at _ _ _ _ _ rfl, arr_set _ _ _ , arr_set, ← hj, ← hk8]
            rfl
          rw [hfin]
          clear hfin c1 c2 z1 z2 hW1 hLi hLk hL hls f1 f2 f3
          go_wp2
          go_roundg (7 - i)
          case measure => omega
          case rel => exact ⟨i + 1, m + 1, by simp, by omega, rfl⟩
        · obtain rfl : i = 8 := by omega
          obtain ⟨W1, hW1⟩ : ∃ W1, (wr.drewN m).alloc (.cells (arr (ofRow A C 8)) 43) = W1 := ⟨_, rfl⟩
          rw [hW1]
          have hsz : wr.heap.size = w.heap.size + 2 := by rw [← hW0, Lib.bytesWorld_size, World.size_alloc]
          have hg1 : W1.heap[wr.heap.size]? = some (.cells (arr (ofRow A C 8)) 43) := by rw [← hW1]; exact World.alloc_heap_new (wr.drewN m) _
          have hg0 : W1.heap[w.heap.size]? = some (.cells Z 43) := by
            rw [← hW1]
            rw [Below.heap_alloc _ _ _ (show w.heap.size < (wr.drewN m).heap.size by show w.heap.size < wr.heap.size; omega)]
            show wr.heap[w.heap.size]? = _
            rw [← hW0, Lib.bytesWorld_at_old _ _ _ _ (by rw [World.size_alloc]; omega)]
            exact World.alloc_heap_new w _
          have hls : (arr (ofRow A C 8)).size = 16 := by rw [arr_size, ofRow_len]
          have hZs : Z.size = 16 := by rw [← hZ]; rfl
          have hinf : (Tryz.prog.info? 43).map (·.size) = some 16 := by kernel_rfl
          have hone : (arr (ofRow A C 8)).all (·.oneCell') = true := arr_one _
          obtain ⟨R, hR⟩ : ∃ R, arr (ofRow A C 8) = R := ⟨_, rfl⟩
          rw [hR] at hls hone hg1
          go_upto_region 17 with (fail)
          refine wp_region_list ?_
          refine wpList_load_row rfl 43 _ rfl _ rfl 43 R (0, 0) _ hg1 Tryz.underlying43 rfl (by rw [hls]; exact hinf) ?_
          refine wpList_store_row rfl 43 _ _ rfl _ R rfl rfl 43 Z hg0 (by rw [hls]; exact hinf) (by rw [hZs, hls]) hone ?_
          have hg2 := setRow_heap W1 w.heap.size Z R 43 (0, 0) hg0
          have hB2 : Below w.heap.size w (W1.setRow w.heap.size R) := by
            have b1 : Below w.heap.size w W1 := by
              rw [← hW1, ← hW0]
              exact (below_drewN' (bytes_below ((Below.refl _ w).alloc (Nat.le_refl _) _) (by rw [World.size_alloc]; omega) 5 s) m).alloc (by rw [hW0]; show w.heap.size ≤ wr.heap.size; omega) _
            exact b1.trans ⟨rfl, rfl, rfl, by rw [setRow_size]; exact Nat.le_refl _, fun i hi => setRow_other _ _ _ _ (by omega)⟩
          obtain ⟨W2, hW2⟩ : ∃ W2, W1.setRow w.heap.size R = W2 := ⟨_, rfl⟩
          rw [hW2] at hg2 hB2 ⊢
          have HG := Aside0.mk hg2
          have HI := Aside0.mk (show (Tryz.prog.info? 43).map (·.size) = some R.size by rw [hls]; exact hinf)
          have HB2 := Aside0.mk hB2
          have HR := Aside0.mk (show R = arr (ofRow (ofA s s.size) (ofC s s.size) 8) by rw [hA, hC, hR])
          clear hB2 hW2 hW1 hg0 hg1 hg2 hsz hZs hinf hone hZ' hZ hW0 hR hA hC
          go_wp2
          exact ⟨rfl, _, results_cell_row rfl _ W2 w.heap.size 43 R (0, 0) _ rfl HG.out Tryz.underlying43 rfl HI.out, by rw [HR.out], HB2.out⟩

end Go.Proofs.YtifbplmejbnofaaGreatDoor.TF
