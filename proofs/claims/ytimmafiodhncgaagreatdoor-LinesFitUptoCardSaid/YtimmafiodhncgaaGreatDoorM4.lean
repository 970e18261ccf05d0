/- Shelf Bits SpecBare Clone Book -/
import Derived.Shelf.Strings.Builder1
import Derived.Shelf.Strings.Builder2
import Derived.Shelf.Small.Utf8
import Derived.Shelf.Small.Strs
import Derived.Shelf.Small.Wraps
import Derived.Shelf.Strings.BuilderF
import Derived.Shelf.Strings.BuilderK
import Derived.Shelf.Strconv.Itoa0
import Derived.Shelf.Strconv.Itoa1
import Derived.Shelf.LaysM
import Derived.Shelf.Strconv.Itoa2
import Derived.Shelf.Strconv.Itoa3
import Derived.Shelf.Strings.Search1
import Derived.Shelf.Strings.Search2
import Derived.Shelf.Strings.Search3
import Derived.Shelf.Strings.Count
import Derived.Shelf.Strings.Shaped
import Derived.Shelf.Strings.Prefix
import Derived.Shelf.Strings.Split
import Derived.Shelf.Strings.Fields
import Derived.Shelf.Strings.Replace
import Derived.Shelf.Unicode.Latin
import Derived.Shelf.Strings.Runes
import Derived.Shelf.Strings.IndexAny
import Derived.Shelf.Strings.AsciiSet
import Derived.Shelf.Strings.IndexAnyAll
import Derived.Shelf.Bits.Mul64
import Derived.Shelf.Unicode.DecodeSlow
import Derived.Shelf.Unicode.Is16White
import Derived.Shelf.Unicode.IsSpaceAny
import Derived.Shelf.Unicode.Is16Any
import Derived.Shelf.Unicode.Is32Any
import Derived.Shelf.Unicode.ExclAny
import Derived.Shelf.Slices.Equal
import Derived.Ground.Names2Prog
import Derived.Shelf.Slices.Clone
import Derived.Shelf.Slices.Empties2
import Derived.Test.YtimmafiodhncgaaGreatDoorProg
import Derived.Laws.Externs
import Derived.WalkKit
import Derived.Test.YtimmafiodhncgaaGreatDoorM2
import Derived.Handy
import Derived.RangeFuncRecord
import Derived.Laws.Rows
import Derived.Lib.IndexLaws
import Derived.Test.YtimmafiodhncgaaGreatDoorM3
import Derived.Shelf.SlicesE.Clone
import Derived.Deep.RegionHeld3
section
/-
  DERIVED: THE SHELF's CONTRACTS AT THIS DUMP, IN PLAIN WORDS (tools/lay-plain.mjs out of 'TryzShelf.lean', which tools/lay-shelf.mjs wrote): THE SAME DECLARATIONS UNDER THE SAME NAMES: 'import', 'namespace', 'open', 'def', 'theorem' AND NOTHING ELSE: no command of the shelf's: FOR A HAND-IN. Each laying: the table of numbers ('.._ren') and one theorem, a field a fact of the dump's own or the kernel's comparison; each contract: ONE APPLICATION.
-/
namespace Go.Proofs
open Go.Shelf
def Tryz.lays169_ren : Go.Shelf.Ren := ⟨fun | 169 => 55 | n => n, fun | 70 => 108 | 9 => 9 | 0 => 0 | 72 => 110 | 37 => 59 | 127 => 190 | 3 => 3 | 5 => 5 | n => n, fun | n => n⟩
def Tryz.lays137_ren : Go.Shelf.Ren := ⟨fun | 137 => 25 | 217 => 50 | 266 => 99 | n => n, fun | 9 => 9 | 5 => 5 | 3 => 3 | n => n, fun | n => n⟩
def Tryz.laysM171_ren : Go.Shelf.Ren := ⟨fun | 171 => 83 | 243 => 133 | 246 => 161 | 283 => 192 | 284 => 193 | 285 => 194 | 286 => 195 | 129 => 212 | 317 => 222 | 318 => 223 | 319 => 224 | 320 => 225 | 337 => 261 | 338 => 262 | n => n, fun | 3 => 3 | 9 => 9 | 2 => 2 | 4 => 4 | 171 => 321 | 0 => 0 | 53 => 217 | 37 => 59 | 5 => 5 | 173 => 324 | 212 => 353 | 51 => 49 | 20 => 20 | 213 => 354 | 46 => 58 | 232 => 359 | 233 => 416 | n => n, fun | 17 => 4 | 18 => 8 | 19 => 9 | n => n⟩
def Tryz.lays144_ren : Go.Shelf.Ren := ⟨fun | 144 => 129 | 143 => 30 | 219 => 56 | 217 => 50 | 225 => 107 | 224 => 108 | 267 => 109 | 266 => 99 | 314 => 145 | n => n, fun | 9 => 9 | 4 => 4 | 3 => 3 | 5 => 5 | 46 => 58 | 146 => 281 | 51 => 49 | n => n, fun | 1 => 0 | n => n⟩
theorem Tryz.lays144 : Go.Proofs.Lays.n144 Tryz.prog Tryz.lays144_ren := {
  mixed := by kernel_rfl
  f143 := Tryz.func30.trans (congrArg some (by kernel_rfl))
  f144 := Tryz.func129.trans (congrArg some (by kernel_rfl))
  f217 := Tryz.func50.trans (congrArg some (by kernel_rfl))
  f219 := Tryz.func56.trans (congrArg some (by kernel_rfl))
  f224 := Tryz.func108.trans (congrArg some (by kernel_rfl))
  f225 := Tryz.func107.trans (congrArg some (by kernel_rfl))
  f266 := Tryz.func99.trans (congrArg some (by kernel_rfl))
  f267 := Tryz.func109.trans (congrArg some (by kernel_rfl))
  f314 := Tryz.func145.trans (congrArg some (by kernel_rfl))
  t3 := Tryz.underlying3
  a3 := Tryz.isAgg3
  z3 := Tryz.sizeOf3
  v3 := Tryz.zeroValue3
  t4 := Tryz.underlying4
  a4 := Tryz.isAgg4
  z4 := Tryz.sizeOf4
  v4 := Tryz.zeroValue4
  t5 := Tryz.underlying5
  a5 := Tryz.isAgg5
  z5 := Tryz.sizeOf5
  v5 := Tryz.zeroValue5
  t9 := Tryz.underlying9
  a9 := Tryz.isAgg9
  z9 := Tryz.sizeOf9
  v9 := Tryz.zeroValue9
  t46 := Tryz.underlying58
  a46 := Tryz.isAgg58
  z46 := Tryz.sizeOf58
  v46 := Tryz.zeroValue58
  t51 := Tryz.underlying49
  a51 := Tryz.isAgg49
  z51 := Tryz.sizeOf49
  v51 := Tryz.zeroValue49
  t146 := Tryz.underlying281
  a146 := Tryz.isAgg281
  z146 := Tryz.sizeOf281
  v146 := Tryz.zeroValue281
  g1 := by kernel_rfl }
open Go.RowKit Go.Lib in
/-- strings.Contains: "Contains reports whether substr is within s.": AT A substr OF ONE BYTE c: IT RETURNS 'decide (0 ≤ Lib.indexByte s c)'; the world is as it was. (LAID: no walk: one application.) -/
theorem Tryz.strings_Contains_one (s : ByteArray) (c : UInt8) (w : World) :
    Calls Tryz.prog 129 #[.string s, .string ⟨#[c]⟩] w fun e w' => e = .returned (.bool (decide (0 ≤ Lib.indexByte s.data.toList c))) ∧ w' = w := Any.strings_Contains_one Tryz.lays144 s c w
def Tryz.lays155_ren : Go.Shelf.Ren := ⟨fun | 155 => 16 | 154 => 32 | 138 => 13 | 165 => 57 | 143 => 30 | 166 => 53 | 197 => 58 | 169 => 55 | 195 => 28 | 218 => 29 | 240 => 106 | 241 => 110 | 219 => 56 | 260 => 111 | 276 => 144 | 277 => 146 | 217 => 50 | 225 => 107 | 224 => 108 | 267 => 109 | 266 => 99 | 314 => 145 | n => n, fun | 9 => 9 | 3 => 3 | 4 => 4 | 72 => 110 | 0 => 0 | 76 => 111 | 105 => 115 | 21 => 21 | 5 => 5 | 70 => 108 | 20 => 20 | 37 => 59 | 75 => 92 | 127 => 190 | 164 => 279 | 46 => 58 | 119 => 284 | 139 => 287 | 138 => 286 | 146 => 281 | 51 => 49 | 80 => 28 | n => n, fun | 1 => 0 | 3 => 1 | 4 => 2 | n => n⟩
def Tryz.laysNm215_ren : Go.Shelf.Ren := ⟨fun | 15 => 73 | n => n, fun | 22 => 50 | 3 => 3 | 4 => 4 | n => n, fun | n => n⟩
theorem Tryz.laysNm215 : Go.Proofs.Lays2.n15 Tryz.prog Tryz.laysNm215_ren := {
  mixed := by kernel_rfl
  f15 := Tryz.func73.trans (congrArg some (by kernel_rfl))
  t3 := Tryz.underlying3
  a3 := Tryz.isAgg3
  z3 := Tryz.sizeOf3
  v3 := Tryz.zeroValue3
  t4 := Tryz.underlying4
  a4 := Tryz.isAgg4
  z4 := Tryz.sizeOf4
  v4 := Tryz.zeroValue4
  t22 := Tryz.underlying50
  a22 := Tryz.isAgg50
  z22 := Tryz.sizeOf50
  v22 := Tryz.zeroValue50
  i3 := by kernel_rfl }
open Go.RowKit Go.Lib in
/-- slices.Clone at []int: "Clone returns a copy of the slice. The elements are copied using assignment, so this is a shallow clone. The result may have additional unused capacity. The result preserves the nilness of s.": OF A SLICE THAT IS NOT nil IT RETURNS A SLICE THAT IS NOT nil, OF THE SAME ELEMENTS, IN MEMORY OF THE CALL's OWN: in the how-to's words (6f): 'w'.ownsRow B e 1 v' n cells': v' begins at the head of a row among the blocks from B on (B: the heap's size at the call), not frozen, whose first cells are the elements · 'Below B w w'': below B all is as it was. The capacity is whatever the run-time gives. 'zs': what the cells behind the slice's address hold; 'zs.take n': its elements. (LAID: no walk: one application.) -/
theorem Tryz.slices_Clone_int (b off n c : Nat) (zs : List Int) (w : World) (hz : n ≤ zs.length) (hbig : n * 8 ≤ 140737488355328) (hc : ∀ j, j < zs.length → w.cell? ⟨b, off + j, none⟩ = some (.int .i64 (zs.getD j 0))) :
    Calls Tryz.prog 73 #[.slice (some ⟨b, off, none⟩) n c] w fun e w' => ∃ v', e = .returned v' ∧ w'.ownsRow w.heap.size 3 1 v' n ((zs.take n).map (Value.int .i64)) ∧ v' ≠ .slice none 0 0 ∧ Below w.heap.size w w' := Any.slices_Clone_int Tryz.laysNm215 b off n c zs w hz hbig hc
open Go.RowKit Go.Lib in
/-- The same at nil: nil comes back; the world is as it was. (LAID: no walk: one application.) -/
theorem Tryz.slices_Clone_int_nil (n c : Nat) (w : World) :
    Calls Tryz.prog 73 #[.slice none n c] w fun e w' => e = .returned (.slice none 0 0) ∧ w' = w := Any.slices_Clone_int_nil Tryz.laysNm215 n c w
def Tryz.laysNm216_ren : Go.Shelf.Ren := ⟨fun | 16 => 72 | n => n, fun | 24 => 32 | 9 => 9 | 4 => 4 | n => n, fun | n => n⟩
theorem Tryz.laysNm216 : Go.Proofs.Lays2.n16 Tryz.prog Tryz.laysNm216_ren := {
  mixed := by kernel_rfl
  f16 := Tryz.func72.trans (congrArg some (by kernel_rfl))
  t4 := Tryz.underlying4
  a4 := Tryz.isAgg4
  z4 := Tryz.sizeOf4
  v4 := Tryz.zeroValue4
  t9 := Tryz.underlying9
  a9 := Tryz.isAgg9
  z9 := Tryz.sizeOf9
  v9 := Tryz.zeroValue9
  t24 := Tryz.underlying32
  a24 := Tryz.isAgg32
  z24 := Tryz.sizeOf32
  v24 := Tryz.zeroValue32
  i9 := by kernel_rfl }
open Go.RowKit Go.Lib in
/-- slices.Clone at []string: "Clone returns a copy of the slice. The elements are copied using assignment, so this is a shallow clone. The result may have additional unused capacity. The result preserves the nilness of s.": OF A SLICE THAT IS NOT nil IT RETURNS A SLICE THAT IS NOT nil, OF THE SAME ELEMENTS, IN MEMORY OF THE CALL's OWN: in the how-to's words (6f): 'w'.ownsRow B e 1 v' n cells': v' begins at the head of a row among the blocks from B on (B: the heap's size at the call), not frozen, whose first cells are the elements · 'Below B w w'': below B all is as it was. The capacity is whatever the run-time gives. 'zs': what the cells behind the slice's address hold; 'zs.take n': its elements. (LAID: no walk: one application.) -/
theorem Tryz.slices_Clone_string (b off n c : Nat) (zs : List ByteArray) (w : World) (hz : n ≤ zs.length) (hbig : n * 16 ≤ 140737488355328) (hc : ∀ j, j < zs.length → w.cell? ⟨b, off + j, none⟩ = some (.string (zs.getD j ByteArray.empty))) :
    Calls Tryz.prog 72 #[.slice (some ⟨b, off, none⟩) n c] w fun e w' => ∃ v', e = .returned v' ∧ w'.ownsRow w.heap.size 9 1 v' n ((zs.take n).map (Value.string)) ∧ v' ≠ .slice none 0 0 ∧ Below w.heap.size w w' := Any.slices_Clone_string Tryz.laysNm216 b off n c zs w hz hbig hc
open Go.RowKit Go.Lib in
/-- The same at nil: nil comes back; the world is as it was. (LAID: no walk: one application.) -/
theorem Tryz.slices_Clone_string_nil (n c : Nat) (w : World) :
    Calls Tryz.prog 72 #[.slice none n c] w fun e w' => e = .returned (.slice none 0 0) ∧ w' = w := Any.slices_Clone_string_nil Tryz.laysNm216 n c w
end Go.Proofs
end
section
/- math.Float64bits. -/
set_option linter.unusedVariables false
namespace Go.Proofs.YtimmafiodhncgaaGreatDoor.TW
open Go.RowKit
theorem bits_run (x : Nat) (W : World) : Sem.run Tryz.prog (callFunc 130 #[.float .f64 x]) W = .ok (.value (.int .u64 x)) W := by
  rw [run_callFunc_extern Tryz.func130 (by kernel_rfl) (by kernel_rfl) (by kernel_rfl) (e := Extern.MathFloatBits.float64bits) (by kernel_rfl)]
  rfl
end Go.Proofs.YtimmafiodhncgaaGreatDoor.TW
end
section
/- kinds.bare: the fields that do not count. -/
set_option linter.unusedVariables false
set_option linter.unusedSimpArgs false
namespace Go.Proofs.YtimmafiodhncgaaGreatDoor.TW
open Go.RowKit Go.Shelf Go.Proofs.YtimmafiodhncgaaGreatDoorW.PrintWords Go.Proofs.YtimmafiodhncgaaGreatDoorW.PrintMore

/-- does a letter stand in a row? -/
def hasL (l : List UInt8) (c : UInt8) : Bool := decide (0 ≤ Lib.indexByte l c)
/-- A spec, as the program holds it. -/
def spec (k : Int) (nl : Bool) (t : ByteArray) (n sm : Int) (re im : Nat) (fl : Bool) (mk : Int) (it pa : Value) : Value :=
  .agg #[.int .u8 k, .bool nl, .string t, .int .i16 n, .int .i8 sm, .float .f64 re, .float .f64 im, .bool fl, .int .u32 mk, it, pa]
/-- are the fields zero that do not count? -/
def okB (cnt : List UInt8) (nl : Bool) (t : ByteArray) (n sm : Int) (re im : Nat) (fl : Bool) (mk : Int) (l : Nat) : Bool :=
  (t.toList.isEmpty || hasL cnt 84) && (n == 0 || hasL cnt 78) && (sm == 0 || hasL cnt 83) && ((re : Int) == 0 || hasL cnt 82) && ((im : Int) == 0 || hasL cnt 77) && (!fl || hasL cnt 70) && (mk == 0 || hasL cnt 75) && ((l : Int) == 0 || hasL cnt 73) && (!nl || hasL cnt 48)
theorem has_calls (b : Nat) (cnt : ByteArray) (c : UInt8) (z : Bool) (w : World) (h : w.cell? ⟨b, 0, none⟩ = some (.string cnt)) :
    Calls Tryz.prog 128 #[.string ⟨#[c]⟩, .bool z, .pointer (some ⟨b, 0, none⟩)] w fun e w' => e = .returned (.bool (z || hasL cnt.data.toList c)) ∧ w' = w := by
  go_enter Tryz.func128, Tryz.ntmps128
  cases z
  · go_wp2_with (go_at_call 129; (with_reducible refine (Tryz.strings_Contains_one cnt c _).mono ?_); rintro e w' ⟨rfl, rfl⟩)
    go_wp2
    go_ret
    exact ⟨rfl, rfl⟩
  · go_wp2
    go_ret
    exact ⟨rfl, rfl⟩
set_option maxHeartbeats 4000000 in
theorem bare_calls (k : Int) (nl : Bool) (t : ByteArray) (n sm : Int) (re im : Nat) (fl : Bool) (mk : Int) (A B : Option Addr) (l c l2 c2 : Nat) (cnt : ByteArray) (w : World) :
    Calls Tryz.prog 70 #[spec k nl t n sm re im fl mk (.slice A l c) (.slice B l2 c2), .string cnt] w fun e w' => e = .returned (.bool (okB cnt.data.toList nl t n sm re im fl mk l)) ∧ Below w.heap.size w w' := by
  have hbits := bits_run
  unfold spec
  go_enter Tryz.func70, Tryz.ntmps70
  have hcell : ((w.alloc (.cells #[.int .u8 k, .bool nl, .string t, .int .i16 n, .int .i8 sm, .float .f64 re, .float .f64 im, .bool fl, .int .u32 mk, .slice A l c, .slice B l2 c2] 52)).alloc (.cells #[.string cnt] 9)).cell? ⟨w.heap.size + 1, 0, none⟩ = some (.string cnt) := by
    have := World.alloc_heap_new (w.alloc (.cells #[.int .u8 k, .bool nl, .string t, .int .i16 n, .int .i8 sm, .float .f64 re, .float .f64 im, .bool fl, .int .u32 mk, .slice A l c, .slice B l2 c2] 52)) (.cells #[.string cnt] 9)
    rw [World.size_alloc] at this
    rw [Lib.cell_of_heap this]
    rfl
  go_wp2_with (go_at_call 128; (with_reducible refine (has_calls _ cnt _ _ _ hcell).mono ?_); rintro e w' ⟨rfl, rfl⟩)
  all_goals go_ret
  all_goals refine ⟨?_, by go_grown⟩
  all_goals
    show Ending.returned (.bool _) = Ending.returned (.bool _)
    refine congrArg (fun b => Ending.returned (Value.bool b)) ?_
    simp [okB, *]
end Go.Proofs.YtimmafiodhncgaaGreatDoor.TW
end
section
/- slices.Clone of strings, of numbers, of errors and of a book's rows, over rows in memory of their own. -/
set_option linter.unusedVariables false
set_option linter.unusedSimpArgs false
namespace Go.Proofs.YtimmafiodhncgaaGreatDoor.TK
open Go.RowKit Go.Shelf Go.Lib Go.Proofs.YtimmafiodhncgaaGreatDoorW.PrintWords Go.Proofs.YtimmafiodhncgaaGreatDoor.TF
open Go.Proofs.YtimmafiodhncgaaGreatDoor.TF (own_next own_slice own_some)

def rowRen : Go.Shelf.Ren := ⟨fun | 41 => 87 | n => n, fun | 22 => 83 | 23 => 94 | 4 => 4 | n => n, fun | n => n⟩
theorem row_cells {W : World} {base size n : Nat} {e : TypeId} {v : Value} {xs : List Value} (h : W.ownsRow base e size v n xs) : (v = .slice none 0 0 ∧ n = 0 ∧ xs = []) ∨ ∃ g c, v = .slice (some ⟨g, 0, none⟩) n c ∧ n ≤ maxLen ∧ ∀ j u, xs[j]? = some u → W.cell? ⟨g, 0 + j, none⟩ = some u := by
  obtain ⟨h0, h1⟩ := h
  rcases h1 with ⟨rfl, hn⟩ | ⟨g, cap, cur, rfl, hg, hh, hnc, hcm, hsz, ht⟩
  · exact .inl ⟨rfl, hn, by subst hn; simpa using h0⟩
  · refine .inr ⟨g, cap, rfl, Nat.le_trans hnc hcm, fun j u hj => ?_⟩
    have hjl : j < xs.length := (List.getElem?_eq_some_iff.1 hj).1
    rw [Nat.zero_add, Lib.cell_of_heap hh]
    have : (cur.toList.take (n * size))[j]? = some u := by rw [ht]; exact hj
    rw [List.getElem?_take] at this
    split at this
    · simpa using this
    · cases this
theorem infoRow : (Tryz.prog.info? 94).map (fun i => (i.zero.map (fun z => z.cells.size), i.size, i.bytes)) = some (some 16, 16, 152) := by kernel_rfl
theorem clone_ints {W : World} {base n : Nat} {v : Value} {ps : List Int} (h : W.ownsRow base 3 1 v n (encs (Value.int .i64) ps)) (hb : n ≤ 4398046511104) :
    Calls Tryz.prog 73 #[v] W fun e w' => ∃ v', e = .returned v' ∧ w'.ownsRow W.heap.size 3 1 v' n (encs (Value.int .i64) ps) ∧ Below W.heap.size W w' := by
  have hn : ps.length = n := by have := h.1; simp [encs] at this; omega
  rcases row_cells h with ⟨rfl, rfl, hx⟩ | ⟨g, c, rfl, hm, hc⟩
  · obtain rfl : ps = [] := List.length_eq_zero_iff.1 hn
    refine (Tryz.slices_Clone_int_nil 0 0 W).mono ?_
    rintro e w' ⟨rfl, rfl⟩
    exact ⟨_, rfl, World.ownsRow_nil _ _ _ _, Below.refl _ _⟩
  · refine (Tryz.slices_Clone_int g 0 n c ps W (by omega) (by omega) (fun j hj => hc j _ (by simp [encs, hj]))).mono ?_
    rintro e w' ⟨v', rfl, h2, _, h3⟩
    rw [← hn, List.take_length] at h2
    exact ⟨v', rfl, hn ▸ h2, h3⟩
theorem clone_strs {W : World} {base n : Nat} {v : Value} {xs : List ByteArray} (h : W.ownsRow base 9 1 v n (encs Value.string xs)) (hb : n ≤ 4398046511104) :
    Calls Tryz.prog 72 #[v] W fun e w' => ∃ v', e = .returned v' ∧ w'.ownsRow W.heap.size 9 1 v' n (encs Value.string xs) ∧ Below W.heap.size W w' := by
  have hn : xs.length = n := by have := h.1; simp [encs] at this; omega
  rcases row_cells h with ⟨rfl, rfl, hx⟩ | ⟨g, c, rfl, hm, hc⟩
  · obtain rfl : xs = [] := List.length_eq_zero_iff.1 hn
    refine (Tryz.slices_Clone_string_nil 0 0 W).mono ?_
    rintro e w' ⟨rfl, rfl⟩
    exact ⟨_, rfl, World.ownsRow_nil _ _ _ _, Below.refl _ _⟩
  · refine (Tryz.slices_Clone_string g 0 n c xs W (by omega) (by omega) (fun j hj => hc j _ (by simp [encs, hj]))).mono ?_
    rintro e w' ⟨v', rfl, h2, _, h3⟩
    rw [← hn, List.take_length] at h2
    exact ⟨v', rfl, hn ▸ h2, h3⟩
end Go.Proofs.YtimmafiodhncgaaGreatDoor.TK
end
section
/- The program's book in memory: a row of records behind a pointer; at, Size, Error, made, Parts. -/
set_option linter.unusedVariables false
set_option linter.unusedSimpArgs false
namespace Go.Proofs.YtimmafiodhncgaaGreatDoor.TK
open Go.RowKit Go.Shelf Go.Proofs.YtimmafiodhncgaaGreatDoorW.PrintWords Go.Proofs.YtimmafiodhncgaaGreatDoorW.PrintMore Go.Proofs.YtimmafiodhncgaaGreatDoor.TF Go.Proofs.YtimmafiodhncgaaGreatDoor.TW

/-- what a handle has -/
structure RowD where
  err : Value
  k : Int
  nl : Bool
  t : ByteArray
  n : Int
  sm : Int
  re : Nat
  im : Nat
  fl : Bool
  mask : Int
  A : Option Addr
  c : Nat
  B : Option Addr
  d : Nat
  its : List ByteArray
  ps : List Int
  size : Int
  depth : Int
  long : Int
  words : Int
def RowD.cells (r : RowD) : List Value :=
  [r.err, .int .u8 r.k, .bool r.nl, .string r.t, .int .i16 r.n, .int .i8 r.sm, .float .f64 r.re, .float .f64 r.im, .bool r.fl, .int .u32 r.mask, .slice r.A r.its.length r.c, .slice r.B r.ps.length r.d, .int .i64 r.size, .int .i64 r.depth, .int .i64 r.long, .int .i64 r.words]
def RowD.spec (r : RowD) : Value := TW.spec r.k r.nl r.t r.n r.sm r.re r.im r.fl r.mask (.slice r.A r.its.length r.c) (.slice r.B r.ps.length r.d)
/-- a record's lists, in memory of their own -/
def RowD.own (r : RowD) (W : World) : Prop := W.ownsRow 0 9 1 (.slice r.A r.its.length r.c) r.its.length (encs Value.string r.its) ∧ W.ownsRow 0 3 1 (.slice r.B r.ps.length r.d) r.ps.length (encs (Value.int .i64) r.ps)
/-- a book at block b: its rows' slice v, the records L -/
structure Bk (b : Nat) (v : Value) (L : List RowD) (W : World) : Prop where
  head : Blk W b 85 #[v]
  rows : W.ownsRow 0 94 16 v L.length (L.flatMap RowD.cells)
  owns : ∀ r ∈ L, r.own W
theorem cells_len (r : RowD) : r.cells.length = 16 := rfl
theorem flat_get : ∀ (L : List RowD) (j i : Nat) (r : RowD), L[j]? = some r → i < 16 → (L.flatMap RowD.cells)[j * 16 + i]? = r.cells[i]?
  | [], j, i, r, h, _ => by simp at h
  | r0 :: L, 0, i, r, h, hi => by
    have : r0 = r := by simpa using h
    subst this
    rw [List.flatMap_cons, Nat.zero_mul, Nat.zero_add, List.getElem?_append_left (by rw [cells_len]; exact hi)]
  | r0 :: L, j + 1, i, r, h, hi => by
    have h' : L[j]? = some r := by simpa using h
    rw [List.flatMap_cons, List.getElem?_append_right (by rw [cells_len]; omega), cells_len, show (j + 1) * 16 + i - 16 = j * 16 + i by omega]
    exact flat_get L j i r h' hi
section
variable {b : Nat} {v : Value} {L : List RowD} {W V : World} {S : Nat → Prop}
theorem Bk.next (h : Bk b v L W) (hb : Below W.heap.size W V) : Bk b v L V :=
  ⟨h.head.next hb, TF.own_next h.rows hb, fun r hr => ⟨TF.own_next (h.owns r hr).1 hb, TF.own_next (h.owns r hr).2 hb⟩⟩
theorem Bk.lt (h : Bk b v L W) : b < W.heap.size := h.head.lt
theorem Bk.cell (h : Bk b v L W) : W.cell? ⟨b, 0, none⟩ = some v := by rw [h.head.cell]; rfl
theorem Bk.some_ (h : Bk b v L W) {j : Nat} {r : RowD} (hj : L[j]? = some r) : ∃ g c, v = .slice (some ⟨g, 0, none⟩) L.length c := by
  obtain ⟨A, c, rfl⟩ := TF.own_slice h.rows
  obtain ⟨g, rfl⟩ := TF.own_some h.rows (by have := (List.getElem?_eq_some_iff.1 hj).1; omega)
  exact ⟨g, c, rfl⟩
theorem add_plain' (g k : Nat) : (⟨g, 0, none⟩ : Addr).add k = ⟨g, k, none⟩ := by unfold Addr.add; split <;> simp_all
theorem Bk.at_ {g c : Nat} (h : Bk b (.slice (some ⟨g, 0, none⟩) L.length c) L W) {j : Nat} {r : RowD} (hj : L[j]? = some r) (i : Nat) (hi : i < 16) : W.cell? ⟨g, j * 16 + i, none⟩ = r.cells[i]? := by
  have h1 := flat_get L j i r hj hi
  have h2 : r.cells[i]? = some (r.cells[i]'(by rw [cells_len]; exact hi)) := List.getElem?_eq_getElem _
  have h3 := h.rows.cells (g := g) rfl (j * 16 + i) _ (h1.trans h2)
  rw [add_plain'] at h3
  rw [h3, h2]
end
theorem at_ok (b g c : Nat) (L : List RowD) (j : Nat) (r : RowD) (W : World) (h : Bk b (.slice (some ⟨g, 0, none⟩) L.length c) L W) (hj : L[j]? = some r) (hl : L.length ≤ 65536) :
    Calls Tryz.prog 38 #[.pointer (some ⟨b, 0, none⟩), .int .i64 ((j : Int) + 1)] W fun e w' => e = .returned (.tuple #[.pointer (some ⟨g, j * 16, none⟩), .int .i64 0]) ∧ w' = W := by
  have hc := h.cell
  have hj1 : j < L.length := (List.getElem?_eq_some_iff.1 hj).1
  have g1 : ¬ ((j : Int) + 1 < 0) := by omega
  have g2 : (((j : Int) + 1) == 0) = false := by simp; omega
  have g3 : ¬ ((L.length : Int) < (j : Int) + 1) := by omega
  have g4 : (0 ≤ (j : Int)) ∧ ((j : Int) < (L.length : Int)) := by omega
  clear h
  go_enter Tryz.func38, Tryz.ntmps38
  go_wp2
  go_ret2
  exact ⟨rfl, rfl⟩
/-- a row of nothing -/
def row0 : Array Value := #[.nilIface, .int .u8 0, .bool false, .string ⟨#[]⟩, .int .i16 0, .int .i8 0, .float .f64 0, .float .f64 0, .bool false, .int .u32 0, .slice none 0 0, .slice none 0 0, .int .i64 0, .int .i64 0, .int .i64 0, .int .i64 0]
theorem at_zero (b : Nat) (W : World) : Calls Tryz.prog 38 #[.pointer (some ⟨b, 0, none⟩), .int .i64 0] W fun e w' => e = .returned (.tuple #[.pointer (some ⟨W.heap.size, 0, none⟩), .int .i64 0]) ∧ w' = W.alloc (.cells row0 94) := by
  unfold row0
  go_enter Tryz.func38, Tryz.ntmps38
  go_wp2
  go_ret2
  exact ⟨rfl, rfl⟩
section
variable (b g c : Nat) (L : List RowD) (j : Nat) (r : RowD) (W : World)
theorem error_ok (h : Bk b (.slice (some ⟨g, 0, none⟩) L.length c) L W) (hj : L[j]? = some r) (hl : L.length ≤ 65536) :
    Calls Tryz.prog 120 #[.pointer (some ⟨b, 0, none⟩), .int .i64 ((j : Int) + 1)] W fun e w' => e = .returned (.tuple #[r.err, .int .i64 0]) ∧ w' = W := by
  have c12 : W.cell? ⟨g, j * 16, none⟩ = some r.err := (h.at_ hj 0 (by decide)).trans rfl
  have HA := Aside0.mk (at_ok b g c L j r W h hj hl)
  clear h
  go_enter Tryz.func120, Tryz.ntmps120
  go_wp2_with (go_at_call 38; (with_reducible refine HA.out.mono ?_); rintro e w' ⟨rfl, rfl⟩)
  go_ret2
  exact ⟨rfl, rfl⟩
theorem made_ok (h : Bk b (.slice (some ⟨g, 0, none⟩) L.length c) L W) (hj : L[j]? = some r) (hl : L.length ≤ 65536) :
    Calls Tryz.prog 142 #[.pointer (some ⟨b, 0, none⟩), .int .i64 ((j : Int) + 1)] W fun e w' => e = .returned (.tuple #[.pointer (some ⟨g, j * 16, none⟩), .int .i64 0]) ∧ w' = W := by
  have HA := Aside0.mk (at_ok b g c L j r W h hj hl)
  have g2 : (((j : Int) + 1) == 0) = false := by simp; omega
  clear h
  go_enter Tryz.func142, Tryz.ntmps142
  go_wp2_with (go_at_call 38; (with_reducible refine HA.out.mono ?_); rintro e w' ⟨rfl, rfl⟩)
  go_ret2
  exact ⟨rfl, rfl⟩
end
theorem new_ok (W : World) : Calls Tryz.prog 22 #[] W fun e w' => e = .returned (.pointer (some ⟨W.heap.size, 0, none⟩)) ∧ w' = W.alloc (.cells #[.slice none 0 0] 85) := by
  go_enter Tryz.func22, Tryz.ntmps22
  go_wp2
  go_ret
  exact ⟨rfl, rfl⟩
theorem Bk.new (W : World) : Bk W.heap.size (.slice none 0 0) [] (W.alloc (.cells #[.slice none 0 0] 85)) := ⟨Blk.new _ _ _, World.ownsRow_nil _ _ _ _, fun r hr => by cases hr⟩
end Go.Proofs.YtimmafiodhncgaaGreatDoor.TK
end
