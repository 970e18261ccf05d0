/- Clone Book -/
import Derived.Test.YtlggimmfaflfnaaGreatDoorM1
import Derived.Test.YtlggimmfaflfnaaGreatDoorM3
import Derived.Shelf.SlicesE.Clone
import Derived.Test.YtlggimmfaflfnaaGreatDoorM4
import Derived.Deep.RegionHeld3
import Derived.Laws.Rows
section
/- slices.Clone of strings, of numbers, of errors and of a book's rows, over rows in memory of their own. -/
set_option linter.unusedVariables false
set_option linter.unusedSimpArgs false
namespace Go.Proofs.YtlggimmfaflfnaaGreatDoor.TK
open Go.RowKit Go.Shelf Go.Lib Go.Proofs.YtlggimmfaflfnaaGreatDoorW.PrintWords Go.Proofs.YtlggimmfaflfnaaGreatDoor.TF
open Go.Proofs.YtlggimmfaflfnaaGreatDoor.TF (own_next own_slice own_some)

def rowRen : Go.Shelf.Ren := ⟨fun | 41 => 125 | n => n, fun | 22 => 98 | 23 => 154 | 4 => 4 | n => n, fun | n => n⟩
theorem row_cells {W : World} {base size n : Nat} {e : TypeId} {v : Value} {xs : List Value} (h : W.ownsRow base e size v n xs) : (v = .slice none 0 0 ∧ n = 0 ∧ xs = []) ∨ ∃ g c, v = .slice (some ⟨g, 0, none⟩) n c ∧ n ≤ maxLen ∧ ∀ j u, xs[j]? = some u → W.cell? ⟨g, 0 + j, none⟩ = some u := by
  obtain ⟨h0, h1⟩ := h
  rcases h1 with ⟨rfl, hn⟩ | ⟨g, cap, cur, rfl, hg, hh, hnc, hcm, hsz, ht⟩
  · exact .inl ⟨rfl, hn, by subst hn; simpa using h0⟩
  · refine .inr ⟨g, cap, rfl, Nat.le_trans hnc hcm, fun j u hj => ?_⟩
    have hjl : j < xs.length := (List.getElem?_eq_some_iff.1 hj).1
    rw [Nat.zero_add, Lib.cell_of_heap hh]
    have : (cur.toList.take (n * size))[j]? = some u := by rw [ht]; exact hj
    rw [List.getElem?_take] at this
    split at this
    · simpa using this
    · cases this
theorem infoRow : (Tryz.prog.info? 154).map (fun i => (i.zero.map (fun z => z.cells.size), i.size, i.bytes)) = some (some 16, 16, 152) := by kernel_rfl
theorem clone_ints {W : World} {base n : Nat} {v : Value} {ps : List Int} (h : W.ownsRow base 3 1 v n (encs (Value.int .i64) ps)) (hb : n ≤ 4398046511104) :
    Calls Tryz.prog 53 #[v] W fun e w' => ∃ v', e = .returned v' ∧ w'.ownsRow W.heap.size 3 1 v' n (encs (Value.int .i64) ps) ∧ Below W.heap.size W w' := by
  have hn : ps.length = n := by have := h.1; simp [encs] at this; omega
  rcases row_cells h with ⟨rfl, rfl, hx⟩ | ⟨g, c, rfl, hm, hc⟩
  · obtain rfl : ps = [] := List.length_eq_zero_iff.1 hn
    refine (Tryz.slices_Clone_int_nil 0 0 W).mono ?_
    rintro e w' ⟨rfl, rfl⟩
    exact ⟨_, rfl, World.ownsRow_nil _ _ _ _, Below.refl _ _⟩
  · refine (Tryz.slices_Clone_int g 0 n c ps W (by omega) (by omega) (fun j hj => hc j _ (by simp [encs, hj]))).mono ?_
    rintro e w' ⟨v', rfl, h2, _, h3⟩
    rw [← hn, List.take_length] at h2
    exact ⟨v', rfl, hn ▸ h2, h3⟩
theorem clone_strs {W : World} {base n : Nat} {v : Value} {xs : List ByteArray} (h : W.ownsRow base 9 1 v n (encs Value.string xs)) (hb : n ≤ 4398046511104) :
    Calls Tryz.prog 144 #[v] W fun e w' => ∃ v', e = .returned v' ∧ w'.ownsRow W.heap.size 9 1 v' n (encs Value.string xs) ∧ Below W.heap.size W w' := by
  have hn : xs.length = n := by have := h.1; simp [encs] at this; omega
  rcases row_cells h with ⟨rfl, rfl, hx⟩ | ⟨g, c, rfl, hm, hc⟩
  · obtain rfl : xs = [] := List.length_eq_zero_iff.1 hn
    refine (Tryz.slices_Clone_string_nil 0 0 W).mono ?_
    rintro e w' ⟨rfl, rfl⟩
    exact ⟨_, rfl, World.ownsRow_nil _ _ _ _, Below.refl _ _⟩
  · refine (Tryz.slices_Clone_string g 0 n c xs W (by omega) (by omega) (fun j hj => hc j _ (by simp [encs, hj]))).mono ?_
    rintro e w' ⟨v', rfl, h2, _, h3⟩
    rw [← hn, List.take_length] at h2
    exact ⟨v', rfl, hn ▸ h2, h3⟩
end Go.Proofs.YtlggimmfaflfnaaGreatDoor.TK
end
section
/- The program's book in memory: a row of records behind a pointer; at, Size, Error, made, Parts. -/
set_option linter.unusedVariables false
set_option linter.unusedSimpArgs false
namespace Go.Proofs.YtlggimmfaflfnaaGreatDoor.TK
open Go.RowKit Go.Shelf Go.Proofs.YtlggimmfaflfnaaGreatDoorW.PrintWords Go.Proofs.YtlggimmfaflfnaaGreatDoorW.PrintMore Go.Proofs.YtlggimmfaflfnaaGreatDoor.TF Go.Proofs.YtlggimmfaflfnaaGreatDoor.TW

/-- what a handle has -/
structure RowD where
  err : Value
  k : Int
  nl : Bool
  t : ByteArray
  n : Int
  sm : Int
  re : Nat
  im : Nat
  fl : Bool
  mask : Int
  A : Option Addr
  c : Nat
  B : Option Addr
  d : Nat
  its : List ByteArray
  ps : List Int
  size : Int
  depth : Int
  long : Int
  words : Int
def RowD.cells (r : RowD) : List Value :=
  [r.err, .int .u8 r.k, .bool r.nl, .string r.t, .int .i16 r.n, .int .i8 r.sm, .float .f64 r.re, .float .f64 r.im, .bool r.fl, .int .u32 r.mask, .slice r.A r.its.length r.c, .slice r.B r.ps.length r.d, .int .i64 r.size, .int .i64 r.depth, .int .i64 r.long, .int .i64 r.words]
def RowD.spec (r : RowD) : Value := TW.spec r.k r.nl r.t r.n r.sm r.re r.im r.fl r.mask (.slice r.A r.its.length r.c) (.slice r.B r.ps.length r.d)
/-- a record's lists, in memory of their own -/
def RowD.own (r : RowD) (W : World) : Prop := W.ownsRow 0 9 1 (.slice r.A r.its.length r.c) r.its.length (encs Value.string r.its) ∧ W.ownsRow 0 3 1 (.slice r.B r.ps.length r.d) r.ps.length (encs (Value.int .i64) r.ps)
/-- a book at block b: its rows' slice v, the records L -/
structure Bk (b : Nat) (v : Value) (L : List RowD) (W : World) : Prop where
  head : Blk W b 100 #[v]
  rows : W.ownsRow 0 154 16 v L.length (L.flatMap RowD.cells)
  owns : ∀ r ∈ L, r.own W
theorem cells_len (r : RowD) : r.cells.length = 16 := rfl
theorem flat_get : ∀ (L : List RowD) (j i : Nat) (r : RowD), L[j]? = some r → i < 16 → (L.flatMap RowD.cells)[j * 16 + i]? = r.cells[i]?
  | [], j, i, r, h, _ => by simp at h
  | r0 :: L, 0, i, r, h, hi => by
    have : r0 = r := by simpa using h
    subst this
    rw [List.flatMap_cons, Nat.zero_mul, Nat.zero_add, List.getElem?_append_left (by rw [cells_len]; exact hi)]
  | r0 :: L, j + 1, i, r, h, hi => by
    have h' : L[j]? = some r := by simpa using h
    rw [List.flatMap_cons, List.getElem?_append_right (by rw [cells_len]; omega), cells_len, show (j + 1) * 16 + i - 16 = j * 16 + i by omega]
    exact flat_get L j i r h' hi
section
variable {b : Nat} {v : Value} {L : List RowD} {W V : World} {S : Nat → Prop}
theorem Bk.next (h : Bk b v L W) (hb : Below W.heap.size W V) : Bk b v L V :=
  ⟨h.head.next hb, TF.own_next h.rows hb, fun r hr => ⟨TF.own_next (h.owns r hr).1 hb, TF.own_next (h.owns r hr).2 hb⟩⟩
theorem Bk.lt (h : Bk b v L W) : b < W.heap.size := h.head.lt
theorem Bk.cell (h : Bk b v L W) : W.cell? ⟨b, 0, none⟩ = some v := by rw [h.head.cell]; rfl
theorem Bk.some_ (h : Bk b v L W) {j : Nat} {r : RowD} (hj : L[j]? = some r) : ∃ g c, v = .slice (some ⟨g, 0, none⟩) L.length c := by
  obtain ⟨A, c, rfl⟩ := TF.own_slice h.rows
  obtain ⟨g, rfl⟩ := TF.own_some h.rows (by have := (List.getElem?_eq_some_iff.1 hj).1; omega)
  exact ⟨g, c, rfl⟩
theorem add_plain' (g k : Nat) : (⟨g, 0, none⟩ : Addr).add k = ⟨g, k, none⟩ := by unfold Addr.add; split <;> simp_all
theorem Bk.at_ {g c : Nat} (h : Bk b (.slice (some ⟨g, 0, none⟩) L.length c) L W) {j : Nat} {r : RowD} (hj : L[j]? = some r) (i : Nat) (hi : i < 16) : W.cell? ⟨g, j * 16 + i, none⟩ = r.cells[i]? := by
  have h1 := flat_get L j i r hj hi
  have h2 : r.cells[i]? = some (r.cells[i]'(by rw [cells_len]; exact hi)) := List.getElem?_eq_getElem _
  have h3 := h.rows.cells (g := g) rfl (j * 16 + i) _ (h1.trans h2)
  rw [add_plain'] at h3
  rw [h3, h2]
end
theorem at_ok (b g c : Nat) (L : List RowD) (j : Nat) (r : RowD) (W : World) (h : Bk b (.slice (some ⟨g, 0, none⟩) L.length c) L W) (hj : L[j]? = some r) (hl : L.length ≤ 65536) :
    Calls Tryz.prog 71 #[.pointer (some ⟨b, 0, none⟩), .int .i64 ((j : Int) + 1)] W fun e w' => e = .returned (.tuple #[.pointer (some ⟨g, j * 16, none⟩), .int .i64 0]) ∧ w' = W := by
  have hc := h.cell
  have hj1 : j < L.length := (List.getElem?_eq_some_iff.1 hj).1
  have g1 : ¬ ((j : Int) + 1 < 0) := by omega
  have g2 : (((j : Int) + 1) == 0) = false := by simp; omega
  have g3 : ¬ ((L.length : Int) < (j : Int) + 1) := by omega
  have g4 : (0 ≤ (j : Int)) ∧ ((j : Int) < (L.length : Int)) := by omega
  clear h
  go_enter Tryz.func71, Tryz.ntmps71
  go_wp2
  go_ret2
  exact ⟨rfl, rfl⟩
/-- a row of nothing -/
def row0 : Array Value := #[.nilIface, .int .u8 0, .bool false, .string ⟨#[]⟩, .int .i16 0, .int .i8 0, .float .f64 0, .float .f64 0, .bool false, .int .u32 0, .slice none 0 0, .slice none 0 0, .int .i64 0, .int .i64 0, .int .i64 0, .int .i64 0]
theorem at_zero (b : Nat) (W : World) : Calls Tryz.prog 71 #[.pointer (some ⟨b, 0, none⟩), .int .i64 0] W fun e w' => e = .returned (.tuple #[.pointer (some ⟨W.heap.size, 0, none⟩), .int .i64 0]) ∧ w' = W.alloc (.cells row0 154) := by
  unfold row0
  go_enter Tryz.func71, Tryz.ntmps71
  go_wp2
  go_ret2
  exact ⟨rfl, rfl⟩
section
variable (b g c : Nat) (L : List RowD) (j : Nat) (r : RowD) (W : World)
theorem error_ok (h : Bk b (.slice (some ⟨g, 0, none⟩) L.length c) L W) (hj : L[j]? = some r) (hl : L.length ≤ 65536) :
    Calls Tryz.prog 64 #[.pointer (some ⟨b, 0, none⟩), .int .i64 ((j : Int) + 1)] W fun e w' => e = .returned (.tuple #[r.err, .int .i64 0]) ∧ w' = W := by
  have c12 : W.cell? ⟨g, j * 16, none⟩ = some r.err := (h.at_ hj 0 (by decide)).trans rfl
  have HA := Aside0.mk (at_ok b g c L j r W h hj hl)
  clear h
  go_enter Tryz.func64, Tryz.ntmps64
  go_wp2_with (go_at_call 71; (with_reducible refine HA.out.mono ?_); rintro e w' ⟨rfl, rfl⟩)
  go_ret2
  exact ⟨rfl, rfl⟩
theorem made_ok (h : Bk b (.slice (some ⟨g, 0, none⟩) L.length c) L W) (hj : L[j]? = some r) (hl : L.length ≤ 65536) :
    Calls Tryz.prog 123 #[.pointer (some ⟨b, 0, none⟩), .int .i64 ((j : Int) + 1)] W fun e w' => e = .returned (.tuple #[.pointer (some ⟨g, j * 16, none⟩), .int .i64 0]) ∧ w' = W := by
  have HA := Aside0.mk (at_ok b g c L j r W h hj hl)
  have g2 : (((j : Int) + 1) == 0) = false := by simp; omega
  clear h
  go_enter Tryz.func123, Tryz.ntmps123
  go_wp2_with (go_at_call 71; (with_reducible refine HA.out.mono ?_); rintro e w' ⟨rfl, rfl⟩)
  go_ret2
  exact ⟨rfl, rfl⟩
end
theorem new_ok (W : World) : Calls Tryz.prog 15 #[] W fun e w' => e = .returned (.pointer (some ⟨W.heap.size, 0, none⟩)) ∧ w' = W.alloc (.cells #[.slice none 0 0] 100) := by
  go_enter Tryz.func15, Tryz.ntmps15
  go_wp2
  go_ret
  exact ⟨rfl, rfl⟩
theorem Bk.new (W : World) : Bk W.heap.size (.slice none 0 0) [] (W.alloc (.cells #[.slice none 0 0] 100)) := ⟨Blk.new _ _ _, World.ownsRow_nil _ _ _ _, fun r hr => by cases hr⟩
end Go.Proofs.YtlggimmfaflfnaaGreatDoor.TK
end
