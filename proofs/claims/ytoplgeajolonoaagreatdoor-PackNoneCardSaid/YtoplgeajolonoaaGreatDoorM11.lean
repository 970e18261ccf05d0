/- Once Shelf -/
import Derived.Test.YtoplgeajolonoaaGreatDoorM10
import Derived.Deep.LoopGhost
import Derived.Laws.ResultCell
import Derived.Shelf.Strings.Builder1
import Derived.Shelf.Small.Strs
import Derived.Shelf.Strings.BuilderF
import Derived.Shelf.Strings.BuilderK
import Derived.Shelf.Strings.Search1
import Derived.Shelf.Strings.Search2
import Derived.Shelf.Strings.Search3
import Derived.Ground.Names2Prog
import Derived.Shelf.Slices.Clone
import Derived.Ground.SlgnProg
import Derived.Shelf.SlicesE.Clone
import Derived.Test.YtoplgeajolonoaaGreatDoorProg
section
/- The registry: sync.Once about the closure, freeze, Of where there are no rows. -/
set_option linter.unusedVariables false
set_option linter.unusedSimpArgs false
namespace Go.Proofs.YtoplgeajolonoaaGreatDoor.PK
open Go.RowKit Go.Proofs.YtoplgeajolonoaaGreatDoorW.PrintWords Go.Proofs.YtoplgeajolonoaaGreatDoorW.PrintMore Go.Proofs.YtoplgeajolonoaaGreatDoor.TF Go.MuLone

/-- a registry's cells when it has been frozen -/
def reg1 (m : Nat) : Array Value := #[.int .i32 0, .int .u32 0, .int .u32 1, .int .i32 0, .int .u32 0, .slice none 0 0, .map (some m), .slice none 0 0, .int .i64 1]
theorem bool_load (a : Addr) (w : World) (h0 : w.cell? a = some (.int .u32 0)) :
    Calls Tryz.prog 156 #[.pointer (some a)] w fun e w' => e = .returned (.bool false) ∧ w' = w := by
  have hl := run_call_load (P := Tryz.prog) Tryz.func186 (by kernel_rfl) (by kernel_rfl) (by kernel_rfl) .u32 (by kernel_rfl) h0
  go_enter Tryz.func156, Tryz.ntmps156
  go_wp2
  go_ret
  exact ⟨rfl, rfl⟩
set_option maxRecDepth 100000 in
set_option maxHeartbeats 4000000 in
theorem slow_own (g m : Nat) (pl : Addr) (w : World) (hp : w.cell? pl = some (.pointer (some ⟨g, 0, none⟩))) (h : Blk w g 76 (reg0 m)) (hne : ¬ g = pl.block) :
    Calls Tryz.prog 157 #[.pointer (some ⟨g, 2, none⟩), .func (.func 95) #[] #[.pointer (some pl)]] w fun e w' => e = .returned (.tuple #[]) ∧ Blk w' g 76 (reg1 m) ∧ Fr (fun q => q = g) w w' := by
  have c3 : w.cell? ⟨g, 3, none⟩ = some (.int .i32 0) := (h.cell 3).trans rfl
  have f3 := h.frozen 3
  have f2 := h.frozen 2
  have h1 := h.set_ 3 (.int .i32 1)
  have c2 : (w.setCell ⟨g, 3, none⟩ (.int .i32 1)).cell? ⟨g, 2, none⟩ = some (.int .u32 0) := (h1.cell 2).trans rfl
  have p1 : (w.setCell ⟨g, 3, none⟩ (.int .i32 1)).cell? pl = some (.pointer (some ⟨g, 0, none⟩)) := (World.cell?_setCell_other _ ⟨g, 3, none⟩ pl _ (fun h => hne (by rw [← h]))).trans hp
  have h4 := ((h1.set_ 0 (.int .i32 1)).set_ 8 (.int .i64 1)).set_ 0 (.int .i32 0)
  have HL := Aside0.mk (bool_load ⟨g, 2, none⟩ _ c2)
  have HF := Aside0.mk (freeze_own g _ pl _ p1 h1 hne rfl rfl)
  have hnot : ∀ (x : Bool) (w : World), (Op.unary .not (.bool x)).run Tryz.prog w = .ok (.bool (!x)) w := fun _ _ => rfl
  have H := Aside0.mk h
  have H4 := Aside0.mk h4
  clear h h1 h4
  go_enter_defers Tryz.func157, Tryz.ntmps157
  go_wp2_with (first
    | (go_at_call 61; refine (lock_free Tryz.muLib ⟨g, 3, none⟩ _ c3 f3).mono ?_; rintro e w' ⟨rfl, rfl⟩)
    | (go_at_call 156; (with_reducible refine HL.out.mono ?_); rintro e w' ⟨rfl, rfl⟩)
    | (go_at_call 95; (with_reducible refine HF.out.mono ?_); rintro e w' ⟨rfl, rfl⟩))
  refine leaves_cons (f := 187) (args := #[.pointer (some ⟨g, 2, none⟩), .bool true]) (by simp) (by simp [go_sem]) ?_
  refine (store_deferred ⟨g, 2, none⟩ (.int .u32 0) .returning _ ((H4.out.cell 2).trans rfl) (H4.out.frozen 2)).mono ?_
  rintro e u' w'' ⟨rfl, rfl, rfl⟩
  have h5 := (H4.out.next (Below.refl _ _).drew).set_ 2 (.int .u32 1)
  refine leaves_cons (f := 62) (args := #[.pointer (some ⟨g, 3, none⟩)]) (by simp [settle]) (by simp [go_sem]) ?_
  refine (unlock_deferred Tryz.muLib ⟨g, 3, none⟩ _ _ ((h5.cell 3).trans rfl) (h5.frozen 3)).mono ?_
  rintro e u' w'' ⟨rfl, rfl, rfl⟩
  have hfr := (((((((Fr.refl (fun q => q = g) w).set (p := ⟨g, 3, none⟩) (.inl rfl) (.int .i32 1)).set (p := ⟨g, 0, none⟩) (.inl rfl) (.int .i32 1)).set (p := ⟨g, 8, none⟩) (.inl rfl) (.int .i64 1)).set (p := ⟨g, 0, none⟩) (.inl rfl) (.int .i32 0)).drew).set (p := ⟨g, 2, none⟩) (.inl rfl) (.int .u32 1)).set (p := ⟨g, 3, none⟩) (.inl rfl) (.int .i32 0)
  have HFr := Aside0.mk hfr
  have HL5 := Aside0.mk (h5.set_ 3 (.int .i32 0))
  clear hfr h5
  exact ⟨_, results_none rfl _ _ _, rfl, HL5.out, HFr.out⟩
theorem once_own (g m : Nat) (pl : Addr) (w : World) (hp : w.cell? pl = some (.pointer (some ⟨g, 0, none⟩))) (h : Blk w g 76 (reg0 m)) (hne : ¬ g = pl.block) :
    Calls Tryz.prog 94 #[.pointer (some ⟨g, 2, none⟩), .func (.func 95) #[] #[.pointer (some pl)]] w fun e w' => e = .returned (.tuple #[]) ∧ Blk w' g 76 (reg1 m) ∧ Fr (fun q => q = g) w w' := by
  have c2 : w.cell? ⟨g, 2, none⟩ = some (.int .u32 0) := (h.cell 2).trans rfl
  have hnot : ∀ (x : Bool) (w : World), (Op.unary .not (.bool x)).run Tryz.prog w = .ok (.bool (!x)) w := fun _ _ => rfl
  have HL := Aside0.mk (bool_load ⟨g, 2, none⟩ _ c2)
  have HS := Aside0.mk (slow_own g m pl w hp h hne)
  clear h
  go_enter Tryz.func94, Tryz.ntmps94
  go_wp2_with (first
    | (go_at_call 156; (with_reducible refine HL.out.mono ?_); rintro e w' ⟨rfl, rfl⟩)
    | (go_at_call 157; (with_reducible refine HS.out.mono ?_)))
  rintro e w' ⟨rfl, hf⟩
  have HF := Aside0.mk hf
  clear hf
  go_wp2
  go_end0
  exact ⟨rfl, HF.out⟩
theorem freeze_ok (g m : Nat) (w : World) (h : Blk w g 76 (reg0 m)) :
    Calls Tryz.prog 51 #[.pointer (some ⟨g, 0, none⟩)] w fun e w' => e = .returned (.tuple #[]) ∧ Blk w' g 76 (reg1 m) ∧ Fr (fun q => q = g) w w' := by
  have hmf : ∀ (fn : Fn) (first cap : Array Value) (w : World), (Instr.makeFunc fn first cap).run Tryz.prog w = .ok (.func fn first cap) w := fun _ _ _ _ => rfl
  have hb := (Below.refl w.heap.size w).alloc (Nat.le_refl _) (.cells #[.pointer (some ⟨g, 0, none⟩)] 24)
  have h1 := h.next hb
  have hn := Blk.new w 24 #[.pointer (some ⟨g, 0, none⟩)]
  have hlt := h.lt
  have HD := Aside0.mk (once_own g m ⟨w.heap.size, 0, none⟩ _ ((hn.cell 0).trans rfl) h1 (by simp; omega))
  have HB := Aside0.mk hb
  clear h h1 hn hb
  go_enter Tryz.func51, Tryz.ntmps51
  go_wp2_with (go_at_call 94; (with_reducible refine HD.out.mono ?_))
  rintro e w' ⟨rfl, hr, hf⟩
  have HF := Aside0.mk ((Fr.of (S := fun q => q = g) HB.out).trans hf (fun k hk => .inl hk))
  have HR := Aside0.mk hr
  clear hr hf
  go_wp2
  go_end0
  exact ⟨rfl, HR.out, HF.out⟩
set_option maxRecDepth 100000 in
/-- no row of that kind: an empty row, and ErrKind -/
theorem of_none (g m : Nat) (k : Int) (w : World) (h : Blk w g 76 (reg0 m)) :
    Calls Tryz.prog 25 #[.pointer (some ⟨g, 0, none⟩), .int .u8 k] w fun e w' => e = .returned (.tuple #[.agg #[.string ⟨#[]⟩, .int .u8 0, .int .u32 0], .int .i64 40]) ∧ Fr (fun q => q = g) w w' := by
  have hb := (Below.refl w.heap.size w).alloc (Nat.le_refl _) (.cells #[.string ⟨#[]⟩, .int .u8 0, .int .u32 0] 87)
  have h1 := h.next hb
  have hlt := h.lt
  have HR := Aside0.mk (freeze_ok g m _ h1)
  have HB := Aside0.mk hb
  clear h hb
  go_enter Tryz.func25, Tryz.ntmps25
  go_wp2_with (go_at_call 51; (with_reducible refine HR.out.mono ?_))
  rintro e w' ⟨rfl, hr, hf⟩
  have hf2 := (Fr.of (S := fun q => q = g) HB.out).trans hf (fun k hk => .inl hk)
  have c5 : w'.cell? ⟨g, 5, none⟩ = some (.slice none 0 0) := (hr.cell 5).trans rfl
  have hx := Blk.fr (Blk.new w 87 #[.string ⟨#[]⟩, .int .u8 0, .int .u32 0]) hf (by omega)
  have HF := Aside0.mk hf2
  have HX := Aside0.mk hx
  clear hr hf hf2 h1 hx
  go_wp2_with (fail)
  go_loopg [18] 0 (fun kq v18 wr => v18 = .int .i64 0 ∧ kq = 0 ∧ wr = w')
  case atStart => exact ⟨rfl, rfl, rfl⟩
  case round =>
    obtain ⟨rfl, rfl, rfl⟩ := hrel
    obtain ⟨x0, x1, x2⟩ : wr.cell? ⟨w.heap.size, 0, none⟩ = some (.string ⟨#[]⟩) ∧ wr.cell? ⟨w.heap.size, 1, none⟩ = some (.int .u8 0) ∧ wr.cell? ⟨w.heap.size, 2, none⟩ = some (.int .u32 0) := ⟨(HX.out.cell 0).trans rfl, (HX.out.cell 1).trans rfl, (HX.out.cell 2).trans rfl⟩
    obtain ⟨z0, z1, z2⟩ : wr.frozen? ⟨w.heap.size, 0, none⟩ = false ∧ wr.frozen? ⟨w.heap.size, 1, none⟩ = false ∧ wr.frozen? ⟨w.heap.size, 2, none⟩ = false := ⟨HX.out.frozen 0, HX.out.frozen 1, HX.out.frozen 2⟩
    go_wp2_with (fail)
    have hx3 := ((HX.out.set_ 0 (.string ⟨#[]⟩)).set_ 1 (.int .u8 0)).set_ 2 (.int .u32 0)
    have hl := run_loadVar_row (P := Tryz.prog) _ w.heap.size 87 87 _ (0, 0) _ hx3 Tryz.underlying87 rfl (by kernel_rfl)
    refine bodyPost_ret (v := .tuple #[.agg #[.string ⟨#[]⟩, .int .u8 0, .int .u32 0], .int .i64 40]) ?_ rfl ?_
    · rw [results_cell_tmp rfl]
      simp [asAddr, Result.andThen]
      rw [hl]
      rfl
    · exact ⟨rfl, ((HF.out.set (p := ⟨w.heap.size, 0, none⟩) (.inr (Nat.le_refl _)) _).set (p := ⟨w.heap.size, 1, none⟩) (.inr (Nat.le_refl _)) _).set (p := ⟨w.heap.size, 2, none⟩) (.inr (Nat.le_refl _)) _⟩
end Go.Proofs.YtoplgeajolonoaaGreatDoor.PK
end
section
/-
  DERIVED: THE SHELF's CONTRACTS AT THIS DUMP, IN PLAIN WORDS (tools/lay-plain.mjs out of 'TryzShelf.lean', which tools/lay-shelf.mjs wrote): THE SAME DECLARATIONS UNDER THE SAME NAMES: 'import', 'namespace', 'open', 'def', 'theorem' AND NOTHING ELSE: no command of the shelf's: FOR A HAND-IN. Each laying: the table of numbers ('.._ren') and one theorem, a field a fact of the dump's own or the kernel's comparison; each contract: ONE APPLICATION.
-/
namespace Go.Proofs
open Go.Shelf
def Tryz.lays137_ren : Go.Shelf.Ren := ⟨fun | 137 => 241 | 217 => 220 | 266 => 244 | n => n, fun | 9 => 9 | 5 => 5 | 3 => 3 | n => n, fun | n => n⟩
def Tryz.lays144_ren : Go.Shelf.Ren := ⟨fun | 144 => 136 | 143 => 174 | 219 => 196 | 217 => 220 | 225 => 221 | 224 => 222 | 267 => 223 | 266 => 244 | 314 => 245 | n => n, fun | 9 => 9 | 4 => 4 | 3 => 3 | 5 => 5 | 46 => 138 | 146 => 412 | 51 => 40 | n => n, fun | 1 => 2 | n => n⟩
theorem Tryz.lays144 : Go.Proofs.Lays.n144 Tryz.prog Tryz.lays144_ren := {
  mixed := by kernel_rfl
  f143 := Tryz.func174.trans (congrArg some (by kernel_rfl))
  f144 := Tryz.func136.trans (congrArg some (by kernel_rfl))
  f217 := Tryz.func220.trans (congrArg some (by kernel_rfl))
  f219 := Tryz.func196.trans (congrArg some (by kernel_rfl))
  f224 := Tryz.func222.trans (congrArg some (by kernel_rfl))
  f225 := Tryz.func221.trans (congrArg some (by kernel_rfl))
  f266 := Tryz.func244.trans (congrArg some (by kernel_rfl))
  f267 := Tryz.func223.trans (congrArg some (by kernel_rfl))
  f314 := Tryz.func245.trans (congrArg some (by kernel_rfl))
  t3 := Tryz.underlying3
  a3 := Tryz.isAgg3
  z3 := Tryz.sizeOf3
  v3 := Tryz.zeroValue3
  t4 := Tryz.underlying4
  a4 := Tryz.isAgg4
  z4 := Tryz.sizeOf4
  v4 := Tryz.zeroValue4
  t5 := Tryz.underlying5
  a5 := Tryz.isAgg5
  z5 := Tryz.sizeOf5
  v5 := Tryz.zeroValue5
  t9 := Tryz.underlying9
  a9 := Tryz.isAgg9
  z9 := Tryz.sizeOf9
  v9 := Tryz.zeroValue9
  t46 := Tryz.underlying138
  a46 := Tryz.isAgg138
  z46 := Tryz.sizeOf138
  v46 := Tryz.zeroValue138
  t51 := Tryz.underlying40
  a51 := Tryz.isAgg40
  z51 := Tryz.sizeOf40
  v51 := Tryz.zeroValue40
  t146 := Tryz.underlying412
  a146 := Tryz.isAgg412
  z146 := Tryz.sizeOf412
  v146 := Tryz.zeroValue412
  g1 := by kernel_rfl }
open Go.RowKit Go.Lib in
/-- strings.Contains: "Contains reports whether substr is within s.": AT A substr OF ONE BYTE c: IT RETURNS 'decide (0 ≤ Lib.indexByte s c)'; the world is as it was. (LAID: no walk: one application.) -/
theorem Tryz.strings_Contains_one (s : ByteArray) (c : UInt8) (w : World) :
    Calls Tryz.prog 136 #[.string s, .string ⟨#[c]⟩] w fun e w' => e = .returned (.bool (decide (0 ≤ Lib.indexByte s.data.toList c))) ∧ w' = w := Any.strings_Contains_one Tryz.lays144 s c w
def Tryz.laysNm215_ren : Go.Shelf.Ren := ⟨fun | 15 => 68 | n => n, fun | 22 => 41 | 3 => 3 | 4 => 4 | n => n, fun | n => n⟩
theorem Tryz.laysNm215 : Go.Proofs.Lays2.n15 Tryz.prog Tryz.laysNm215_ren := {
  mixed := by kernel_rfl
  f15 := Tryz.func68.trans (congrArg some (by kernel_rfl))
  t3 := Tryz.underlying3
  a3 := Tryz.isAgg3
  z3 := Tryz.sizeOf3
  v3 := Tryz.zeroValue3
  t4 := Tryz.underlying4
  a4 := Tryz.isAgg4
  z4 := Tryz.sizeOf4
  v4 := Tryz.zeroValue4
  t22 := Tryz.underlying41
  a22 := Tryz.isAgg41
  z22 := Tryz.sizeOf41
  v22 := Tryz.zeroValue41
  i3 := by kernel_rfl }
open Go.RowKit Go.Lib in
/-- slices.Clone at []int: "Clone returns a copy of the slice. The elements are copied using assignment, so this is a shallow clone. The result may have additional unused capacity. The result preserves the nilness of s.": OF A SLICE THAT IS NOT nil IT RETURNS A SLICE THAT IS NOT nil, OF THE SAME ELEMENTS, IN MEMORY OF THE CALL's OWN: in the how-to's words (6f): 'w'.ownsRow B e 1 v' n cells': v' begins at the head of a row among the blocks from B on (B: the heap's size at the call), not frozen, whose first cells are the elements · 'Below B w w'': below B all is as it was. The capacity is whatever the run-time gives. 'zs': what the cells behind the slice's address hold; 'zs.take n': its elements. (LAID: no walk: one application.) -/
theorem Tryz.slices_Clone_int (b off n c : Nat) (zs : List Int) (w : World) (hz : n ≤ zs.length) (hbig : n * 8 ≤ 140737488355328) (hc : ∀ j, j < zs.length → w.cell? ⟨b, off + j, none⟩ = some (.int .i64 (zs.getD j 0))) :
    Calls Tryz.prog 68 #[.slice (some ⟨b, off, none⟩) n c] w fun e w' => ∃ v', e = .returned v' ∧ w'.ownsRow w.heap.size 3 1 v' n ((zs.take n).map (Value.int .i64)) ∧ v' ≠ .slice none 0 0 ∧ Below w.heap.size w w' := Any.slices_Clone_int Tryz.laysNm215 b off n c zs w hz hbig hc
open Go.RowKit Go.Lib in
/-- The same at nil: nil comes back; the world is as it was. (LAID: no walk: one application.) -/
theorem Tryz.slices_Clone_int_nil (n c : Nat) (w : World) :
    Calls Tryz.prog 68 #[.slice none n c] w fun e w' => e = .returned (.slice none 0 0) ∧ w' = w := Any.slices_Clone_int_nil Tryz.laysNm215 n c w
def Tryz.laysNm216_ren : Go.Shelf.Ren := ⟨fun | 16 => 67 | n => n, fun | 24 => 31 | 9 => 9 | 4 => 4 | n => n, fun | n => n⟩
theorem Tryz.laysNm216 : Go.Proofs.Lays2.n16 Tryz.prog Tryz.laysNm216_ren := {
  mixed := by kernel_rfl
  f16 := Tryz.func67.trans (congrArg some (by kernel_rfl))
  t4 := Tryz.underlying4
  a4 := Tryz.isAgg4
  z4 := Tryz.sizeOf4
  v4 := Tryz.zeroValue4
  t9 := Tryz.underlying9
  a9 := Tryz.isAgg9
  z9 := Tryz.sizeOf9
  v9 := Tryz.zeroValue9
  t24 := Tryz.underlying31
  a24 := Tryz.isAgg31
  z24 := Tryz.sizeOf31
  v24 := Tryz.zeroValue31
  i9 := by kernel_rfl }
open Go.RowKit Go.Lib in
/-- slices.Clone at []string: "Clone returns a copy of the slice. The elements are copied using assignment, so this is a shallow clone. The result may have additional unused capacity. The result preserves the nilness of s.": OF A SLICE THAT IS NOT nil IT RETURNS A SLICE THAT IS NOT nil, OF THE SAME ELEMENTS, IN MEMORY OF THE CALL's OWN: in the how-to's words (6f): 'w'.ownsRow B e 1 v' n cells': v' begins at the head of a row among the blocks from B on (B: the heap's size at the call), not frozen, whose first cells are the elements · 'Below B w w'': below B all is as it was. The capacity is whatever the run-time gives. 'zs': what the cells behind the slice's address hold; 'zs.take n': its elements. (LAID: no walk: one application.) -/
theorem Tryz.slices_Clone_string (b off n c : Nat) (zs : List ByteArray) (w : World) (hz : n ≤ zs.length) (hbig : n * 16 ≤ 140737488355328) (hc : ∀ j, j < zs.length → w.cell? ⟨b, off + j, none⟩ = some (.string (zs.getD j ByteArray.empty))) :
    Calls Tryz.prog 67 #[.slice (some ⟨b, off, none⟩) n c] w fun e w' => ∃ v', e = .returned v' ∧ w'.ownsRow w.heap.size 9 1 v' n ((zs.take n).map (Value.string)) ∧ v' ≠ .slice none 0 0 ∧ Below w.heap.size w w' := Any.slices_Clone_string Tryz.laysNm216 b off n c zs w hz hbig hc
open Go.RowKit Go.Lib in
/-- The same at nil: nil comes back; the world is as it was. (LAID: no walk: one application.) -/
theorem Tryz.slices_Clone_string_nil (n c : Nat) (w : World) :
    Calls Tryz.prog 67 #[.slice none n c] w fun e w' => e = .returned (.slice none 0 0) ∧ w' = w := Any.slices_Clone_string_nil Tryz.laysNm216 n c w
end Go.Proofs
end
