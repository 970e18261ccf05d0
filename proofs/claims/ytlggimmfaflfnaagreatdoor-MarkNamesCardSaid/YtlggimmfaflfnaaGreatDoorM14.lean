/- MarkForm ConvAppend QT0 -/
import Derived.Test.YtlggimmfaflfnaaGreatDoorM12
import Derived.Test.YtlggimmfaflfnaaGreatDoorM13
import Derived.Test.YtlggimmfaflfnaaGreatDoorM1
import Derived.Deep.LoopGhost
import Derived.Lib.FrozenHead2
import Derived.Lib.ConvBytes
import Derived.WalkKit
import Derived.Test.YtlggimmfaflfnaaGreatDoorProg
import Derived.Below
import Derived.Deep.Draws
import Derived.Deep.AppendLies
import Derived.Maps.AppendAt
import Derived.OwnWalk
import Derived.Laws.BytesArg
import Derived.Laws.MakeOwn
import Derived.Laws.OwnMore
import Derived.Deep.OwnRows
import Derived.Tactics
import Derived.Laws.Slices
import Derived.KernelRfl
import Derived.RowKit3
import Derived.Deep.QuietTactic
import Derived.BigQuiet
import Derived.WideLaws
import Derived.Deep.DeepCutAuto
import Derived.Deep.CutBlock
import Derived.Deep.RegionHeld3
import Derived.Laws.Rows
import Derived.Lib.AppendStr
import Derived.ArgAppend
import Derived.Laws.IdiomCopy
import Derived.OrdersHeld
import Derived.Laws.BitsLemmas
import Derived.RowKit
import Derived.Test.YtlggimmfaflfnaaGreatDoorM2
import Derived.Test.YtlggimmfaflfnaaGreatDoorM3
import Derived.Test.YtlggimmfaflfnaaGreatDoorM6
section
/- lines.Node of a record; mark.form of a record without parts, and of one with one part; whole. -/
set_option linter.unusedVariables false
set_option linter.unusedSimpArgs false
namespace Go.Proofs.YtlggimmfaflfnaaGreatDoor.MK
open Go.RowKit Go.Shelf Go.Proofs.YtlggimmfaflfnaaGreatDoorW.PrintWords Go.Proofs.YtlggimmfaflfnaaGreatDoorW.PrintMore Go.Proofs.YtlggimmfaflfnaaGreatDoor.TF Go.Proofs.YtlggimmfaflfnaaGreatDoor.TK Go.Proofs.YtlggimmfaflfnaaGreatDoor.TB

theorem known_ok (b g c : Nat) (L : List RowD) (j : Nat) (r : RowD) (W : World) (h : Bk b (.slice (some ⟨g, 0, none⟩) L.length c) L W) (hj : L[j]? = some r) (hl : L.length ≤ 65536) :
    Calls Tryz.prog 132 #[.pointer (some ⟨b, 0, none⟩), .int .i64 ((j : Int) + 1)] W fun e w' => e = .returned (.int .i64 0) ∧ w' = W := by
  have HE := Aside0.mk (error_ok b g c L j r W h hj hl)
  clear h
  go_enter Tryz.func132, Tryz.ntmps132
  go_wp2_with (go_at_call 64; (with_reducible refine HE.out.mono ?_); rintro e w' ⟨rfl, rfl⟩)
  go_ret
  exact ⟨rfl, rfl⟩
theorem node_rec (b g c : Nat) (L : List RowD) (j : Nat) (r : RowD) (x : ByteArray) (w : World) (h : Bk b (.slice (some ⟨g, 0, none⟩) L.length c) L w) (hj : L[j]? = some r) (hl : L.length ≤ 65536) (h1 : r.its.length ≤ 65536) (h2 : r.ps.length ≤ 65536) (htab : TW.Tab w)
    (hx : ∀ A' c' B' d' W, TW.Tab W → Calls Tryz.prog 164 #[TW.spec r.k r.nl r.t r.n r.sm r.re r.im r.fl r.mask (.slice A' r.its.length c') (.slice B' r.ps.length d')] W fun e w' => e = .returned (.string x) ∧ Below W.heap.size W w') :
    Calls Tryz.prog 78 #[.pointer (some ⟨b, 0, none⟩), .int .i64 ((j : Int) + 1)] w fun e w' => e = .returned (.tuple #[.string x, .int .i64 0]) ∧ Below w.heap.size w w' := by
  have HK := Aside0.mk (known_ok b g c L j r w h hj hl)
  have HO := Aside0.mk (own_rec b g c L j r x w h hj hl h1 h2 htab hx)
  clear h hx
  go_enter Tryz.func78, Tryz.ntmps78
  go_wp2_with (go_at_call 132; (with_reducible refine HK.out.mono ?_); rintro e w' ⟨rfl, rfl⟩)
  go_wp2_with (go_at_call 133; (with_reducible refine HO.out.mono ?_))
  rintro e w1 ⟨B', d', rfl, ho, h1⟩
  clear ho
  go_wp2
  go_ret2
  exact ⟨rfl, h1⟩
/-- what stands of a handle in every world behind w0: its words, its parts -/
structure Nd (B b : Nat) (h : Int) (x : ByteArray) (ps : List Int) (w0 : World) : Prop where
  node : ∀ W, Below B w0 W → Calls Tryz.prog 78 #[.pointer (some ⟨b, 0, none⟩), .int .i64 h] W fun e w' => e = .returned (.tuple #[.string x, .int .i64 0]) ∧ Below W.heap.size W w'
  parts : ∀ W, Below B w0 W → Calls Tryz.prog 77 #[.pointer (some ⟨b, 0, none⟩), .int .i64 h] W fun e w' => ∃ B' d', e = .returned (.slice B' ps.length d') ∧ w'.ownsRow W.heap.size 3 1 (.slice B' ps.length d') ps.length (encs (Value.int .i64) ps) ∧ Below W.heap.size W w'
def FormIs (B b q : Nat) (h : Int) (y : List UInt8) (w0 : World) : Prop :=
  ∀ (l : List UInt8) (W : World), Below B w0 W → B ≤ W.heap.size → l.length ≤ 1048576 → Lib.IsBuilderF 169 5 B q (Lib.byteCells l) W →
    Calls Tryz.prog 80 #[.pointer (some ⟨q, 0, none⟩), .pointer (some ⟨b, 0, none⟩), .int .i64 h] W fun e w' => e = .returned (.tuple #[]) ∧ Lib.IsBuilderF 169 5 B q (Lib.byteCells (l ++ y)) w' ∧ Below B W w'
theorem ownF_below {w W : World} {B n : Nat} {v : Value} {xs : List Value} (h : w.ownsRowF B 5 1 v n xs) (hb : Below w.heap.size w W) : W.ownsRowF B 5 1 v n xs := by
  obtain ⟨h1, h2⟩ := h
  refine ⟨h1, ?_⟩
  rcases h2 with h2 | ⟨g, cap, cur, fz, e1, e2, e3, e4⟩
  · exact .inl h2
  · exact .inr ⟨g, cap, cur, fz, e1, e2, (hb.block g (size_of_heap e3)).trans e3, e4⟩
theorem bld_next {B q : Nat} {bs : List Value} {w W : World} (h : Lib.IsBuilderF 169 5 B q bs w) (hb : Below w.heap.size w W) : Lib.IsBuilderF 169 5 B q bs W := by
  rcases h with ⟨h1, v, h2, h3, h4⟩ | ⟨h1, v, h2, h3, h4⟩
  · exact .inl ⟨h1, v, (hb.block q (size_of_heap h2)).trans h2, ownF_below h3 hb, h4⟩
  · exact .inr ⟨h1, v, (hb.block q (size_of_heap h2)).trans h2, ownF_below h3 hb, h4⟩
theorem cells_add (l : List UInt8) (s : ByteArray) : Lib.byteCells l ++ Lib.strCells s = Lib.byteCells (l ++ s.data.toList) := by
  show Lib.byteCells l ++ Lib.byteCells s.data.toList = _
  unfold Lib.byteCells
  simp
theorem cells_len (l : List UInt8) : (Lib.byteCells l).length = l.length := by unfold Lib.byteCells; simp
theorem write_txt (B q : Nat) (l : List UInt8) (s : ByteArray) (w : World) (h : Lib.IsBuilderF 169 5 B q (Lib.byteCells l) w) (hl : l.length ≤ 4000000) (hs : s.size ≤ 4000000) (hBw : B ≤ w.heap.size) :
    Calls Tryz.prog 134 #[.pointer (some ⟨q, 0, none⟩), .string s] w fun e w' => e = .returned (.tuple #[.int .i64 s.size, .nilIface]) ∧
      Lib.IsBuilderF 169 5 B q (Lib.byteCells (l ++ s.data.toList)) w' ∧ Below B w w' ∧ Lib.OthersKept 5 (some q) w w' :=
  (write_string B q _ s w h (by rw [cells_len]; omega) hBw).mono fun e w' ⟨h1, h2, h3, h4⟩ => ⟨h1, by rw [← cells_add]; exact .inr h2, h3, h4⟩
set_option maxHeartbeats 2000000 in
set_option maxRecDepth 100000 in
theorem form_leaf (B b q : Nat) (h : Int) (x : ByteArray) (w0 : World) (hN : Nd B b h x [] w0) (h0 : (h == 0) = false) (hx : x.size ≤ 100000) : FormIs B b q h x.data.toList w0 := by
  intro l W hW hBW hl hS
  have HN := Aside0.mk (hN.node W hW)
  have HP := Aside0.mk (fun V (hV : Below W.heap.size W V ∨ Below B W V) => hN.parts V (hV.elim (fun h => hW.trans (h.mono hBW)) (fun h => hW.trans h)))
  have HS := Aside0.mk hS
  clear hS hN
  go_enter Tryz.func80, Tryz.ntmps80
  go_wp2_with (go_at_call 78; (with_reducible refine HN.out.mono ?_))
  rintro e w1 ⟨rfl, h1⟩
  have hB1 : Below B W w1 := h1.mono hBW
  have HB1 := Aside0.mk hB1
  have HS1 := Aside0.mk (bld_next HS.out h1)
  have hBw1 : B ≤ w1.heap.size := Nat.le_trans hBW h1.size
  clear h1 hB1 HS HN
  go_wp2_with (go_at_call 134; (with_reducible refine (write_txt B q l x _ HS1.out (by omega) (by omega) hBw1).mono ?_))
  rintro e w2 ⟨rfl, h2, b2, -⟩
  have HS2 := Aside0.mk h2
  have HB2 := Aside0.mk (HB1.out.trans b2)
  clear h2 b2 HS1
  go_wp2_with (go_at_call 77; (with_reducible refine (HP.out _ (.inr HB2.out)).mono ?_))
  rintro e w3 ⟨B', d', rfl, ho, h3⟩
  have HS3 := Aside0.mk (bld_next HS2.out h3)
  have HB3 := Aside0.mk (HB2.out.trans (h3.mono (Nat.le_trans hBW HB2.out.size)))
  clear ho h3 HS2
  go_wp2_with (fail)
  refine wp_loop_rounds 1 ?_
  unfold Code.rounds
  go_wp2_with (fail)
  go_end0
  exact ⟨rfl, HS3.out, HB3.out⟩
theorem own_first {W : World} {base c : Nat} {e : TypeId} {A : Option Addr} {x : Value} (h : W.ownsRow base e 1 (.slice A 1 c) 1 [x]) : ∃ g, A = some ⟨g, 0, none⟩ ∧ W.cell? ⟨g, 0, none⟩ = some x ∧ ∃ cells, W.heap[g]? = some (.cells cells e (0, 0)) := by
  obtain ⟨g, rfl⟩ := TF.own_some h (by omega)
  have := h.cells (g := g) rfl 0 x rfl
  rw [TK.add_plain'] at this
  exact ⟨g, rfl, this, TF.own_typed h (by simp [Value.ownBlock])⟩
theorem bld_ne {B q g : Nat} {bs : List Value} {cells : Array Value} {W : World} (h : Lib.IsBuilderF 169 5 B q bs W) (hg : W.heap[g]? = some (.cells cells 3 (0, 0))) : g ≠ q := by
  rintro rfl
  rcases h with ⟨h1, v, h2, _⟩ | ⟨h1, v, h2, _⟩ <;> (rw [hg] at h2; cases h2)
set_option maxHeartbeats 2000000 in
set_option maxRecDepth 100000 in
theorem form_one (B b q : Nat) (h p : Int) (x : ByteArray) (y : List UInt8) (w0 : World) (hN : Nd B b h x [p] w0) (hF : FormIs B b q p y w0) (h0 : (h == 0) = false) (hx : x.size ≤ 1000) (hy : y.length ≤ 1000) :
    ∀ (l : List UInt8) (W : World), Below B w0 W → B ≤ W.heap.size → l.length ≤ 100000 → Lib.IsBuilderF 169 5 B q (Lib.byteCells l) W →
    Calls Tryz.prog 80 #[.pointer (some ⟨q, 0, none⟩), .pointer (some ⟨b, 0, none⟩), .int .i64 h] W fun e w' => e = .returned (.tuple #[]) ∧ Lib.IsBuilderF 169 5 B q (Lib.byteCells (((l ++ x.data.toList ++ [32, 40]) ++ y) ++ [41])) w' ∧ Below B W w' := by
  intro l W hW hBW hl hS
  have HN := Aside0.mk (hN.node W hW)
  have HP := Aside0.mk (fun V (hV : Below B W V) => hN.parts V (hW.trans hV))
  have HS := Aside0.mk hS
  have HW := Aside0.mk hW
  have HF := Aside0.mk hF
  have hxl : x.data.toList.length = x.size := by simp
  have HXL := Aside0.mk hxl
  clear hS hN hF hxl hW
  go_enter Tryz.func80, Tryz.ntmps80
  go_wp2_with (go_at_call 78; (with_reducible refine HN.out.mono ?_))
  rintro e w1 ⟨rfl, h1⟩
  have hB1 : Below B W w1 := h1.mono hBW
  have HB1 := Aside0.mk hB1
  have HS1 := Aside0.mk (bld_next HS.out h1)
  have hBw1 : B ≤ w1.heap.size := Nat.le_trans hBW h1.size
  clear h1 hB1 HS HN
  go_wp2_with (go_at_call 134; (with_reducible refine (write_txt B q l x _ HS1.out (by omega) (by omega) hBw1).mono ?_))
  rintro e w2 ⟨rfl, h2, b2, -⟩
  obtain ⟨l2, hl2⟩ : ∃ l2, l ++ x.data.toList = l2 := ⟨_, rfl⟩
  have hn2 : l2.length ≤ 110000 := by rw [← hl2, List.length_append, HXL.out]; omega
  rw [hl2] at h2
  have HS2 := Aside0.mk h2
  have HB2 := Aside0.mk (HB1.out.trans b2)
  have HL2 := Aside0.mk hl2
  clear h2 b2 HS1 hl2
  go_wp2_with (go_at_call 77; (with_reducible refine (HP.out _ HB2.out).mono ?_))
  rintro e w3 ⟨B', d', rfl, ho, h3⟩
  obtain ⟨g, rfl, hg, cells, hgc⟩ := own_first (x := .int .i64 p) ho
  have HS3 := Aside0.mk (bld_next HS2.out h3)
  have HB3 := Aside0.mk (HB2.out.trans (h3.mono (Nat.le_trans hBW HB2.out.size)))
  have hBw3 : B ≤ w3.heap.size := Nat.le_trans (Nat.le_trans hBW HB2.out.size) h3.size
  have hgq : g ≠ q := bld_ne HS3.out hgc
  clear ho h3 HS2
  go_wp2_with (fail)
  refine wp_loop_rounds 2 ?_
  unfold Code.rounds
  go_wp2_with (go_at_call 134; (with_reducible refine (write_txt B q l2 ⟨#[32, 40]⟩ _ HS3.out (by omega) (by decide) hBw3).mono ?_))
  rintro e w4 rfl h4 b4 k4
  have hgc4 : w4.heap[g]? = some (.cells cells 3 (0, 0)) := k4 g _ hgc (fun e => hgq (Option.some.inj e)) (fun c fz e => by cases e)
  have HB4 := Aside0.mk (HB3.out.trans b4)
  have hBw4 : B ≤ w4.heap.size := Nat.le_trans hBw3 b4.size
  obtain ⟨l4, hl4⟩ : ∃ l4, l2 ++ (ByteArray.mk #[32, 40]).data.toList = l4 := ⟨_, rfl⟩
  have hn4 : l4.length ≤ 120000 := by rw [← hl4, List.length_append]; show l2.length + 2 ≤ _; omega
  rw [hl4] at h4
  have HF4 := Aside0.mk (HF.out l4 w4 (HW.out.trans HB4.out) hBw4 (by omega) h4)
  have HL4 := Aside0.mk hl4
  clear h4 b4 k4 hg hgc HS3 hl4 hn2
  go_wp2_with (go_at_call 80; (with_reducible refine HF4.out.mono ?_))
  rintro e w5 ⟨rfl, h5, b5⟩
  obtain ⟨l5, hl5⟩ : ∃ l5, l4 ++ y = l5 := ⟨_, rfl⟩
  have hn5 : l5.length ≤ 130000 := by rw [← hl5, List.length_append]; omega
  rw [hl5] at h5
  have HS5 := Aside0.mk h5
  have HB5 := Aside0.mk (HB4.out.trans b5)
  have hBw5 : B ≤ w5.heap.size := Nat.le_trans hBw4 b5.size
  have HL5 := Aside0.mk hl5
  clear h5 b5 hgc4 hn4 hl5 HF4
  go_wp2_with (fail)
  unfold Code.rounds
  go_wp2_with (go_at_call 134; (with_reducible refine (write_txt B q l5 ⟨#[41]⟩ _ HS5.out (by omega) (by decide) hBw5).mono ?_))
  rintro e w6 rfl h6 b6 -
  have HS6 := Aside0.mk (show Lib.IsBuilderF 169 5 B q (Lib.byteCells (((l ++ x.data.toList ++ [32, 40]) ++ y) ++ [41])) w6 by
    rw [HL2.out, show l2 ++ [32, 40] = l4 from HL4.out, HL5.out]; exact h6)
  have HB6 := Aside0.mk (HB5.out.trans b6)
  clear h6 b6 HS5
  go_wp2_with (fail)
  go_end0
  exact ⟨rfl, HS6.out, HB6.out⟩
theorem bld_new (w : World) : Lib.IsBuilderF 169 5 w.heap.size w.heap.size (Lib.byteCells []) (w.alloc (.cells #[.pointer none, .slice none 0 0] 169)) :=
  .inl ⟨Nat.le_refl _, .slice none 0 0, World.alloc_heap_new w _, ⟨rfl, .inl ⟨rfl, rfl⟩⟩, by simp [Value.ownBlock]⟩
set_option maxRecDepth 100000 in
theorem whole_ok (b : Nat) (h : Int) (y : List UInt8) (w : World)
    (hF : ∀ W, w.alloc (.cells #[.pointer none, .slice none 0 0] 169) = W → Calls Tryz.prog 80 #[.pointer (some ⟨w.heap.size, 0, none⟩), .pointer (some ⟨b, 0, none⟩), .int .i64 h] W fun e w' => e = .returned (.tuple #[]) ∧ Lib.IsBuilderF 169 5 w.heap.size w.heap.size (Lib.byteCells y) w' ∧ Below w.heap.size W w') :
    Calls Tryz.prog 42 #[.pointer (some ⟨b, 0, none⟩), .int .i64 h] w fun e w' => e = .returned (.string ⟨y.toArray⟩) ∧ Below w.heap.size w w' := by
  have hF' := hF _ rfl
  have hb0 := (Below.refl w.heap.size w).alloc (Nat.le_refl _) (.cells #[.pointer none, .slice none 0 0] 169)
  have HF := Aside0.mk hF'
  have HB0 := Aside0.mk hb0
  clear hF hF' hb0
  go_enter Tryz.func42, Tryz.ntmps42
  go_wp2_with (go_at_call 80; (with_reducible refine HF.out.mono ?_))
  rintro e w1 ⟨rfl, h1, b1⟩
  have HB1 := Aside0.mk (HB0.out.trans b1)
  have hBw : w.heap.size ≤ w1.heap.size := HB1.out.size
  have HS := Aside0.mk h1
  clear h1 b1 HF HB0
  go_wp2_with (go_at_call 81; (with_reducible refine (Tryz.Builder_String_any_k w.heap.size w.heap.size y w1 HS.out hBw).mono ?_))
  rintro e w2 ⟨rfl, -, b2, -⟩
  have HB2 := Aside0.mk (HB1.out.trans b2)
  clear b2 HS
  go_wp2_with (fail)
  go_ret
  exact ⟨rfl, HB2.out⟩
/-- whole of a record without parts -/
theorem whole_leaf (b : Nat) (h : Int) (x : ByteArray) (w : World) (hN : Nd w.heap.size b h x [] w) (h0 : (h == 0) = false) (hx : x.size ≤ 100000) :
    Calls Tryz.prog 42 #[.pointer (some ⟨b, 0, none⟩), .int .i64 h] w fun e w' => e = .returned (.string x) ∧ Below w.heap.size w w' := by
  refine (whole_ok b h x.data.toList w ?_).mono (fun e w' h => ⟨h.1.trans (by cases x; rfl), h.2⟩)
  rintro W rfl
  have := form_leaf w.heap.size b w.heap.size h x w hN h0 hx [] _ ((Below.refl _ w).alloc (Nat.le_refl _) _) (by rw [World.size_alloc]; omega) (Nat.zero_le _) (bld_new w)
  simpa using this
theorem whole_one (b : Nat) (h p : Int) (x y z : ByteArray) (w : World) (hN : Nd w.heap.size b h x [p] w) (hP : Nd w.heap.size b p y [] w) (h0 : (h == 0) = false) (p0 : (p == 0) = false) (hx : x.size ≤ 1000) (hy : y.size ≤ 1000)
    (hz : z.data.toList = x.data.toList ++ [32, 40] ++ y.data.toList ++ [41]) :
    Calls Tryz.prog 42 #[.pointer (some ⟨b, 0, none⟩), .int .i64 h] w fun e w' => e = .returned (.string z) ∧ Below w.heap.size w w' := by
  refine (whole_ok b h z.data.toList w ?_).mono (fun e w' h => ⟨h.1.trans (by cases z; rfl), h.2⟩)
  rintro W rfl
  have := form_one w.heap.size b w.heap.size h p x y.data.toList w hN (form_leaf _ b _ p y w hP p0 (by omega)) h0 hx (by simpa using hy) [] _ ((Below.refl _ w).alloc (Nat.le_refl _) _) (by rw [World.size_alloc]; omega) (Nat.zero_le _) (bld_new w)
  rw [hz]
  simpa using this
end Go.Proofs.YtlggimmfaflfnaaGreatDoor.MK
end
section
/- append to a row that []byte(s) has just made (its mark lies behind its cells): what it reads, where it lies. -/
set_option linter.unusedVariables false
set_option linter.unusedSimpArgs false
namespace Go.Proofs.YtlggimmfaflfnaaGreatDoor.CA
open Go Go.RowKit

theorem run_storeCells_beyond (P : Program) (g o : Nat) (t : TypeId) (fz : Nat × Nat) : ∀ (vs : List Value) (i : Nat) (cur : Array Value) (w : World), w.heap[g]? = some (.cells cur t fz) → o + i + vs.length ≤ fz.1 → o + i + vs.length ≤ cur.size → (∀ v ∈ vs, v.oneCell' = true) →
    (storeCells ⟨g, o, none⟩ vs i).run P w = .ok () (w.setRow g (cur.toList.take (o + i) ++ vs ++ cur.toList.drop (o + i + vs.length)).toArray)
  | [], i, cur, w, hg, _, _, _ => by
    simp only [storeCells, List.append_nil, List.length_nil, Nat.add_zero, List.take_append_drop, Array.toArray_toList]
    rw [setRow_self w g cur t fz hg]
    rfl
  | v :: rest, i, cur, w, hg, hfz, hl, h1 => by
    have hi : o + i < cur.size := by simp at hl; omega
    have hadd : (⟨g, o, none⟩ : Addr).add i = ⟨g, o + i, none⟩ := by unfold Addr.add; split <;> simp_all
    have hcell : w.cell? ⟨g, o + i, none⟩ = some cur[o + i] := by simp [World.cell?, hg, hi]
    have hfro : w.frozen? ⟨g, o + i, none⟩ = false := by
      obtain ⟨lo, hi'⟩ := fz
      simp only [World.frozen?, hg, Bool.and_eq_false_iff, decide_eq_false_iff_not]
      left
      simp at hfz
      omega
    have hst : (store ((⟨g, o, none⟩ : Addr).add i) v).run P w = .ok () (w.setRow g (cur.setIfInBounds (o + i) v)) := by
      rw [hadd, run_store P w _ v _ (h1 v (by simp)), hcell]
      simp [hfro, setCell_eq_setRow w g (o + i) cur t fz v hg]
    have ih := run_storeCells_beyond P g o t fz rest (i + 1) (cur.setIfInBounds (o + i) v) (w.setRow g (cur.setIfInBounds (o + i) v)) (setRow_heap w g cur _ t _ hg) (by simp at hfz ⊢; omega) (by simp at hl ⊢; omega) (fun x hx => h1 x (by simp [hx]))
    simp only [storeCells, Sem.run_bind, hst, Result.andThen_ok, ih, setRow_setRow]
    congr 3
    have e := list_seg_step cur.toList (o + i) v rest (by simp at hl ⊢; omega)
    simpa [Array.toList_setIfInBounds, Nat.add_assoc] using e
section
variable {P : Program} (w : World)
/-- one byte a cell -/
theorem run_append_conv (t ty e : TypeId) (i : TypeInfo) (z : Value) (ht : P.underlying t = some (.slice e)) (hi : P.info? e = some i) (hz : i.zero = some z) (hsize : i.size = 1) (hby : i.bytes = 1)
    (g n cap : Nat) (cur : Array Value) (fz : Nat × Nat) (hg : w.heap[g]? = some (.cells cur e fz)) (hcs : cur.size = cap) (hfz : cap ≤ fz.1) (hnc : n ≤ cap) (xs : List Value) (hxs : cur.toList.take n = xs)
    (a : Addr) (m c : Nat) (news : List Value) (hl : news.length = m) (hnews : ∀ j u, news[j]? = some u → w.cell? (a.add j) = some u) (h1 : ∀ u ∈ news, u.oneCell' = true) (hsm : n + m ≤ 1000000000) :
    ∃ g' c' w', (Builtin.append_ #[t, t] ty #[.slice (some ⟨g, 0, none⟩) n cap, .slice (some a) m c]).run P w = .ok (.slice (some ⟨g', 0, none⟩) (n + m) c') w' ∧ n + m ≤ c' ∧
      (∀ j u, (xs ++ news)[j]? = some u → w'.cell? ⟨g', j, none⟩ = some u) ∧ w.grownBy w' (some g) := by
  have hxl : xs.length = n := by rw [← hxs, List.length_take, Array.length_toList, hcs]; omega
  have hadd : ∀ g j : Nat, (⟨g, 0, none⟩ : Addr).add j = ⟨g, j, none⟩ := fun g j => by unfold Addr.add; split <;> simp_all
  by_cases hroom : n + m ≤ cap
  · have hf := run_firstCells_some (P := P) w i.size m a m c news (by rw [hsize, hl]; omega) hnews
    have hst := run_storeCells_beyond P g n e fz news 0 cur w hg (by rw [hl]; omega) (by rw [hl]; omega) h1
    simp only [Nat.add_zero] at hst
    rw [hsize] at hf
    have hr : (Builtin.append_ #[t, t] ty #[.slice (some ⟨g, 0, none⟩) n cap, .slice (some a) m c]).run P w = .ok (.slice (some ⟨g, 0, none⟩) (n + m) cap) (w.setRow g (cur.toList.take n ++ news ++ cur.toList.drop (n + news.length)).toArray) := by
      simp [Builtin.append_, run_underlying ht, sizeOf, typeInfo, hi, Builtin.lenOf, hroom, hf, Addr.add_lit, hsize, hst]
    refine ⟨g, cap, _, hr, hroom, fun j u hj => ?_, ⟨rfl, rfl, rfl, by simp, fun k _ hk => setRow_other w g k _ (fun e => hk (by rw [e]))⟩⟩
    rw [cell_of_row _ g j _ e fz (setRow_heap w g cur _ e fz hg), hxs]
    simp only [List.getElem?_toArray]
    rw [List.getElem?_append_left]
    · exact hj
    · have := (List.getElem?_eq_some_iff.1 hj).1; exact this
  · have holds : ∀ j u, xs[j]? = some u → w.cell? ((⟨g, 0, none⟩ : Addr).add j) = some u := fun j u hj => by
      rw [hadd, cell_of_row _ g j _ e fz hg]
      rw [← hxs, List.getElem?_take] at hj
      split at hj
      · simpa using hj
      · cases hj
    have hge := grownCap_ge w (n + m) cap e
    have hr := run_append_grow (P := P) w t ty e i z ht hi hz ⟨g, 0, none⟩ n cap xs (by rw [hsize, hxl]; omega) holds a m c news (by rw [hsize, hl]; omega) hnews (by omega) (by omega) (growslice_fits (by omega) (by rw [hby]; omega))
    refine ⟨_, _, _, hr, hge, fun j u hj => ?_, ⟨rfl, rfl, rfl, by simp, fun k hk _ => heap_alloc_old w.drew _ hk⟩⟩
    have hnew := heap_alloc_new w.drew (.cells (xs.toArray ++ news.toArray ++ Builtin.zeroCells z.cells (grownCap w (n + m) cap e - (n + m))) e)
    have hlt := (List.getElem?_eq_some_iff.1 hj).1
    have := cell_of_row (w.drew.alloc (.cells (xs.toArray ++ news.toArray ++ Builtin.zeroCells z.cells (grownCap w (n + m) cap e - (n + m))) e)) w.heap.size j _ e (0, 0) hnew
    rw [this]
    rw [Array.getElem?_append_left (by simpa using hlt)]
    simpa using hj
end
end Go.Proofs.YtlggimmfaflfnaaGreatDoor.CA
end
section
-- Written by wip/tools/myprint.py of this seat's repo: the kit's print, with contracts of our own for some functions.
namespace Go.Proofs.YtlggimmfaflfnaaGreatDoor.QT
open Go.RowKit Go.Proofs.YtlggimmfaflfnaaGreatDoorW.PrintWords Go.Proofs.YtlggimmfaflfnaaGreatDoorW.PrintLast Go.Proofs.YtlggimmfaflfnaaGreatDoorW.PrintMore
attribute [local go_sem] max2_int min2_int max_two min_two max_three min_three max_four min_four   -- for this text's walks alone
set_option linter.unusedVariables false
set_option linter.unusedSimpArgs false



def errW : Option Int → Value
  | none => .nilIface
  | some c => .iface 0 (.int .i64 c)
theorem errW_none : errW none = .nilIface := rfl
theorem errW_some (c : Int) : errW (some c) = .iface 0 (.int .i64 c) := rfl

-- the values' own types

end Go.Proofs.YtlggimmfaflfnaaGreatDoor.QT
end
