/- Words AwakeTwo LinesAwake -/
import Derived.Test.YtimmafiodhncgaaGreatDoorM21
import Derived.Test.YtimmafiodhncgaaGreatDoorM29
import Derived.Test.YtimmafiodhncgaaGreatDoorM9
import Derived.Test.YtimmafiodhncgaaGreatDoorM18
import Derived.Test.YtimmafiodhncgaaGreatDoorM23
import Derived.Test.YtimmafiodhncgaaGreatDoorM24
import Derived.Test.YtimmafiodhncgaaGreatDoorM11
import Derived.Test.YtimmafiodhncgaaGreatDoorM19
import Derived.Test.YtimmafiodhncgaaGreatDoorM3
import Derived.Test.YtimmafiodhncgaaGreatDoorProg
import Derived.Below
import Derived.Deep.Draws
import Derived.Deep.AppendLies
import Derived.Maps.AppendAt
import Derived.OwnWalk
import Derived.Laws.BytesArg
import Derived.Laws.MakeOwn
import Derived.Laws.OwnMore
import Derived.Deep.OwnRows
import Derived.Tactics
import Derived.Lib.ConvBytes
import Derived.Laws.Slices
import Derived.WalkKit
import Derived.KernelRfl
import Derived.RowKit3
import Derived.Deep.LoopGhost
import Derived.Deep.QuietTactic
import Derived.BigQuiet
import Derived.WideLaws
import Derived.Deep.DeepCutAuto
import Derived.Deep.CutBlock
import Derived.Deep.RegionHeld3
import Derived.Laws.Rows
import Derived.Lib.AppendStr
import Derived.ArgAppend
import Derived.Laws.IdiomCopy
import Derived.OrdersHeld
import Derived.Laws.BitsLemmas
import Derived.RowKit
import Derived.Test.YtimmafiodhncgaaGreatDoorM1
import Derived.Test.YtimmafiodhncgaaGreatDoorM2
section
/- lines.words of a Code and of a kind that has a text alone. -/
set_option linter.unusedVariables false
set_option linter.unusedSimpArgs false
namespace Go.Proofs.YtimmafiodhncgaaGreatDoor.TW
open Go.RowKit Go.Shelf Go.Lib Go.Proofs.YtimmafiodhncgaaGreatDoor.TF Go.Proofs.YtimmafiodhncgaaGreatDoor.TK Go.Proofs.YtimmafiodhncgaaGreatDoorW.PrintWords Go.Proofs.YtimmafiodhncgaaGreatDoorW.PrintMore Go.Proofs.YtimmafiodhncgaaGreatDoor.QW

theorem two_strs (w : World) (x y : ByteArray) : Kd.C Kd.string (w.alloc (.cells #[.string x, .string y] 9)) (some ⟨w.heap.size, 0, none⟩) 2 [x, y] := by
  have h := own_lit_of (enc := Value.string) w w.heap.size 9 [x, y] (Nat.le_refl _) (by simp)
  exact Kd.C_of_reads (own_reads_of' (d := ByteArray.empty) h)
theorem one_str (w : World) (x : ByteArray) : Kd.C Kd.string (w.alloc (.cells #[.string x] 9)) (some ⟨w.heap.size, 0, none⟩) 1 [x] := by
  have h := own_lit_of (enc := Value.string) w w.heap.size 9 [x] (Nat.le_refl _) (by simp)
  exact Kd.C_of_reads (own_reads_of' (d := ByteArray.empty) h)
theorem row_two (q : Nat) (x y r : ByteArray) (w : World) (h : lines_row.f q [x, y] = some r) :
    Calls Tryz.prog 180 #[.slice (some ⟨w.heap.size, 0, none⟩) 2 2] (w.alloc (.cells #[.string x, .string y] 9)) fun e w' => e = .returned (.string r) ∧ Below w.heap.size w w' :=
  (lines_row.calls q _ _ [x, y] r _ (two_strs w x y) (Nat.le_refl _) h).mono fun e w' ⟨h1, h2⟩ => ⟨h1, ((Below.refl _ w).alloc (Nat.le_refl _) _).trans (h2.mono (by simp))⟩
theorem quoted_one (q : Nat) (x r : ByteArray) (w : World) (h : lines_quoted.f q [x] = some r) :
    Calls Tryz.prog 181 #[.slice (some ⟨w.heap.size, 0, none⟩) 1 1] (w.alloc (.cells #[.string x] 9)) fun e w' => e = .returned (.string r) ∧ Below w.heap.size w w' :=
  (lines_quoted.calls q _ _ [x] r _ (one_str w x) (Nat.le_refl _) h).mono fun e w' ⟨h1, h2⟩ => ⟨h1, ((Below.refl _ w).alloc (Nat.le_refl _) _).trans (h2.mono (by simp))⟩
set_option maxRecDepth 100000 in
theorem words_code (t : ByteArray) (n : Int) (d : ByteArray) (sm : Int) (re im : Nat) (mk : Int) (A B : Option Addr) (l c l2 d2 : Nat) (q : Nat) (r : ByteArray) (w : World) (htab : Tab w) (hn0 : 0 ≤ n) (hn1 : n ≤ 32767)
    (hI : ∀ W, Calls Tryz.prog 83 #[.int .i64 n] W fun e w' => e = .returned (.string d) ∧ w' = W) (hr : lines_row.f q [nameOf 1, d] = some r) :
    Calls Tryz.prog 151 #[spec 1 false t n sm re im false mk (.slice A l c) (.slice B l2 d2)] w fun e w' => e = .returned (.string r) ∧ Below w.heap.size w w' := by
  unfold spec
  have hx := Blk.new w 52 #[.int .u8 1, .bool false, .string t, .int .i16 n, .int .i8 sm, .float .f64 re, .float .f64 im, .bool false, .int .u32 mk, .slice A l c, .slice B l2 d2]
  have b0 : Below w.heap.size w (w.alloc (.cells #[.int .u8 1, .bool false, .string t, .int .i16 n, .int .i8 sm, .float .f64 re, .float .f64 im, .bool false, .int .u32 mk, .slice A l c, .slice B l2 d2] 52)) := (Below.refl _ w).alloc (Nat.le_refl _) _
  obtain ⟨V0, hV0⟩ : ∃ V, w.alloc (.cells #[.int .u8 1, .bool false, .string t, .int .i16 n, .int .i8 sm, .float .f64 re, .float .f64 im, .bool false, .int .u32 mk, .slice A l c, .slice B l2 d2] 52) = V := ⟨_, rfl⟩
  rw [hV0] at hx b0
  have c0 : V0.cell? ⟨w.heap.size, 0, none⟩ = some (.int .u8 1) := (hx.cell 0).trans rfl
  have HX := Aside0.mk hx
  have HB := Aside0.mk b0
  have HW : Aside0 (Calls Tryz.prog 179 #[.int .u8 1] V0 fun e w' => e = .returned (.tuple #[.string (nameOf 1), .int .i64 0]) ∧ Below V0.heap.size V0 w') := Aside0.mk (word_calls 1 (by decide) (by decide) V0 (htab.stays b0))
  clear hx b0
  go_enter Tryz.func151, Tryz.ntmps151
  go_wp2_with (go_at_call 179; (with_reducible refine HW.out.mono ?_))
  rintro e w1 ⟨rfl, h1⟩
  have hx1 := HX.out.next h1
  have d0 : w1.cell? ⟨w.heap.size, 0, none⟩ = some (.int .u8 1) := (hx1.cell 0).trans rfl
  have d1 : w1.cell? ⟨w.heap.size, 1, none⟩ = some (.bool false) := (hx1.cell 1).trans rfl
  have d3 : w1.cell? ⟨w.heap.size, 3, none⟩ = some (.int .i16 n) := (hx1.cell 3).trans rfl
  have d7 : w1.cell? ⟨w.heap.size, 7, none⟩ = some (.bool false) := (hx1.cell 7).trans rfl
  have HB1 := Aside0.mk (HB.out.trans (h1.mono HB.out.size))
  clear hx1 h1 HX HB c0
  go_wp2_with (go_at_call 83; (with_reducible refine (hI _).mono ?_); rintro e w' ⟨rfl, rfl⟩)
  go_wp2_with (go_at_call 180; (with_reducible refine (row_two q _ _ _ _ hr).mono ?_))
  rintro e w2 ⟨rfl, h2⟩
  have HB2 := Aside0.mk (HB1.out.trans (h2.mono HB1.out.size))
  clear h2 d0 d1 d3 d7 HB1
  go_wp2_with (fail)
  go_ret
  exact ⟨by kernel_rfl, HB2.out⟩
set_option maxRecDepth 100000 in
theorem words_text (k : Int) (t : ByteArray) (sm : Int) (re im : Nat) (mk : Int) (A B : Option Addr) (l c l2 d2 : Nat) (q1 q2 : Nat) (z r1 r : ByteArray) (w : World) (htab : Tab w) (hk : k = 2 ∨ k = 14)
    (hI : ∀ W, Calls Tryz.prog 83 #[.int .i64 0] W fun e w' => e = .returned (.string z) ∧ w' = W) (hr1 : lines_quoted.f q1 [t] = some r1) (hr : lines_row.f q2 [nameOf k.toNat, r1] = some r) :
    Calls Tryz.prog 151 #[spec k false t 0 sm re im false mk (.slice A l c) (.slice B l2 d2)] w fun e w' => e = .returned (.string r) ∧ Below w.heap.size w w' := by
  rcases hk with rfl | rfl
  · have hr : lines_row.f q2 [nameOf 2, r1] = some r := hr
    unfold spec
    have hx := Blk.new w 52 #[.int .u8 2, .bool false, .string t, .int .i16 0, .int .i8 sm, .float .f64 re, .float .f64 im, .bool false, .int .u32 mk, .slice A l c, .slice B l2 d2]
    have b0 : Below w.heap.size w (w.alloc (.cells #[.int .u8 2, .bool false, .string t, .int .i16 0, .int .i8 sm, .float .f64 re, .float .f64 im, .bool false, .int .u32 mk, .slice A l c, .slice B l2 d2] 52)) := (Below.refl _ w).alloc (Nat.le_refl _) _
    obtain ⟨V0, hV0⟩ : ∃ V, w.alloc (.cells #[.int .u8 2, .bool false, .string t, .int .i16 0, .int .i8 sm, .float .f64 re, .float .f64 im, .bool false, .int .u32 mk, .slice A l c, .slice B l2 d2] 52) = V := ⟨_, rfl⟩
    rw [hV0] at hx b0
    have c0 : V0.cell? ⟨w.heap.size, 0, none⟩ = some (.int .u8 2) := (hx.cell 0).trans rfl
    have HX := Aside0.mk hx
    have HB := Aside0.mk b0
    have HW : Aside0 (Calls Tryz.prog 179 #[.int .u8 2] V0 fun e w' => e = .returned (.tuple #[.string (nameOf 2), .int .i64 0]) ∧ Below V0.heap.size V0 w') := Aside0.mk (word_calls 2 (by decide) (by decide) V0 (htab.stays b0))
    clear hx b0
    go_enter Tryz.func151, Tryz.ntmps151
    go_wp2_with (go_at_call 179; (with_reducible refine HW.out.mono ?_))
    rintro e w1 ⟨rfl, h1⟩
    have hx1 := HX.out.next h1
    have d0 : w1.cell? ⟨w.heap.size, 0, none⟩ = some (.int .u8 2) := (hx1.cell 0).trans rfl
    have d1 : w1.cell? ⟨w.heap.size, 1, none⟩ = some (.bool false) := (hx1.cell 1).trans rfl
    have d3 : w1.cell? ⟨w.heap.size, 3, none⟩ = some (.int .i16 0) := (hx1.cell 3).trans rfl
    have d7 : w1.cell? ⟨w.heap.size, 7, none⟩ = some (.bool false) := (hx1.cell 7).trans rfl
    have d2' : w1.cell? ⟨w.heap.size, 2, none⟩ = some (.string t) := (hx1.cell 2).trans rfl
    have HB1 := Aside0.mk (HB.out.trans (h1.mono HB.out.size))
    clear hx1 h1 HX HB c0
    go_wp2_with (go_at_call 83; (with_reducible refine (hI _).mono ?_); rintro e w' ⟨rfl, rfl⟩)
    go_wp2_with (go_at_call 181; (with_reducible refine (quoted_one q1 _ _ _ hr1).mono ?_))
    rintro e w2 ⟨rfl, h2⟩
    have HB2 := Aside0.mk (HB1.out.trans (h2.mono HB1.out.size))
    clear h2 d0 d1 d3 d7 HB1 d2'
    go_wp2_with (go_at_call 180; (with_reducible refine (row_two q2 _ _ _ _ hr).mono ?_))
    rintro e w3 ⟨rfl, h3⟩
    have HB3 := Aside0.mk (HB2.out.trans (h3.mono HB2.out.size))
    clear h3 HB2
    go_wp2_with (fail)
    go_ret
    exact ⟨by kernel_rfl, HB3.out⟩
  · have hr : lines_row.f q2 [nameOf 14, r1] = some r := hr
    unfold spec
    have hx := Blk.new w 52 #[.int .u8 14, .bool false, .string t, .int .i16 0, .int .i8 sm, .float .f64 re, .float .f64 im, .bool false, .int .u32 mk, .slice A l c, .slice B l2 d2]
    have b0 : Below w.heap.size w (w.alloc (.cells #[.int .u8 14, .bool false, .string t, .int .i16 0, .int .i8 sm, .float .f64 re, .float .f64 im, .bool false, .int .u32 mk, .slice A l c, .slice B l2 d2] 52)) := (Below.refl _ w).alloc (Nat.le_refl _) _
    obtain ⟨V0, hV0⟩ : ∃ V, w.alloc (.cells #[.int .u8 14, .bool false, .string t, .int .i16 0, .int .i8 sm, .float .f64 re, .float .f64 im, .bool false, .int .u32 mk, .slice A l c, .slice B l2 d2] 52) = V := ⟨_, rfl⟩
    rw [hV0] at hx b0
    have c0 : V0.cell? ⟨w.heap.size, 0, none⟩ = some (.int .u8 14) := (hx.cell 0).trans rfl
    have HX := Aside0.mk hx
    have HB := Aside0.mk b0
    have HW : Aside0 (Calls Tryz.prog 179 #[.int .u8 14] V0 fun e w' => e = .returned (.tuple #[.string (nameOf 14), .int .i64 0]) ∧ Below V0.heap.size V0 w') := Aside0.mk (word_calls 14 (by decide) (by decide) V0 (htab.stays b0))
    clear hx b0
    go_enter Tryz.func151, Tryz.ntmps151
    go_wp2_with (go_at_call 179; (with_reducible refine HW.out.mono ?_))
    rintro e w1 ⟨rfl, h1⟩
    have hx1 := HX.out.next h1
    have d0 : w1.cell? ⟨w.heap.size, 0, none⟩ = some (.int .u8 14) := (hx1.cell 0).trans rfl
    have d1 : w1.cell? ⟨w.heap.size, 1, none⟩ = some (.bool false) := (hx1.cell 1).trans rfl
    have d3 : w1.cell? ⟨w.heap.size, 3, none⟩ = some (.int .i16 0) := (hx1.cell 3).trans rfl
    have d7 : w1.cell? ⟨w.heap.size, 7, none⟩ = some (.bool false) := (hx1.cell 7).trans rfl
    have d2' : w1.cell? ⟨w.heap.size, 2, none⟩ = some (.string t) := (hx1.cell 2).trans rfl
    have HB1 := Aside0.mk (HB.out.trans (h1.mono HB.out.size))
    clear hx1 h1 HX HB c0
    go_wp2_with (go_at_call 83; (with_reducible refine (hI _).mono ?_); rintro e w' ⟨rfl, rfl⟩)
    go_wp2_with (go_at_call 181; (with_reducible refine (quoted_one q1 _ _ _ hr1).mono ?_))
    rintro e w2 ⟨rfl, h2⟩
    have HB2 := Aside0.mk (HB1.out.trans (h2.mono HB1.out.size))
    clear h2 d0 d1 d3 d7 HB1 d2'
    go_wp2_with (go_at_call 180; (with_reducible refine (row_two q2 _ _ _ _ hr).mono ?_))
    rintro e w3 ⟨rfl, h3⟩
    have HB3 := Aside0.mk (HB2.out.trans (h3.mono HB2.out.size))
    clear h3 HB2
    go_wp2_with (fail)
    go_ret
    exact ⟨by kernel_rfl, HB3.out⟩
end Go.Proofs.YtimmafiodhncgaaGreatDoor.TW
end
section
/- lines.Short and lines.Tree of the book of awake. -/
set_option linter.unusedVariables false
set_option linter.unusedSimpArgs false
namespace Go.Proofs.YtimmafiodhncgaaGreatDoor.TK
open Go.RowKit Go.Shelf Go.Proofs.YtimmafiodhncgaaGreatDoorW.PrintWords Go.Proofs.YtimmafiodhncgaaGreatDoorW.PrintMore Go.Proofs.YtimmafiodhncgaaGreatDoor.TF Go.Proofs.YtimmafiodhncgaaGreatDoor.TW Go.Proofs.YtimmafiodhncgaaGreatDoor.QW

def txW : ByteArray := ⟨#[119, 114, 97, 112, 32, 34, 119, 34]⟩
def txC : ByteArray := ⟨#[99, 111, 100, 101, 32, 55]⟩
theorem rowC : lines_row.f 8 [nameOf 1, ⟨#[55]⟩] = some txC := by kernel_rfl
theorem quoW : lines_quoted.f 8 [⟨#[119]⟩] = some ⟨#[34, 119, 34]⟩ := by kernel_rfl
theorem rowW : lines_row.f 8 [nameOf 14, ⟨#[34, 119, 34]⟩] = some txW := by kernel_rfl
theorem asciiW : ∀ j, (h : j < txW.size) → (txW[j]'h).toNat < 128 := by decide
theorem asciiC : ∀ j, (h : j < txC.size) → (txC[j]'h).toNat < 128 := by decide
theorem wordsC (A c B d) : ∀ A' c' B' d' W, TW.Tab W → Calls Tryz.prog 151 #[TW.spec (recCode A c B d).k (recCode A c B d).nl (recCode A c B d).t (recCode A c B d).n (recCode A c B d).sm (recCode A c B d).re (recCode A c B d).im (recCode A c B d).fl (recCode A c B d).mask (.slice A' (recCode A c B d).its.length c') (.slice B' (recCode A c B d).ps.length d')] W fun e w' => e = .returned (.string txC) ∧ Below W.heap.size W w' :=
  fun A' c' B' d' W hT => words_code _ 7 ⟨#[55]⟩ _ _ _ _ _ _ _ _ _ _ 8 _ W hT (by decide) (by decide) (fun W => itoa_seven W) rowC
theorem wordsW (g A c B d) : ∀ A' c' B' d' W, TW.Tab W → Calls Tryz.prog 151 #[TW.spec (recWrap g A c B d).k (recWrap g A c B d).nl (recWrap g A c B d).t (recWrap g A c B d).n (recWrap g A c B d).sm (recWrap g A c B d).re (recWrap g A c B d).im (recWrap g A c B d).fl (recWrap g A c B d).mask (.slice A' (recWrap g A c B d).its.length c') (.slice B' (recWrap g A c B d).ps.length d')] W fun e w' => e = .returned (.string txW) ∧ Below W.heap.size W w' :=
  fun A' c' B' d' W hT => words_text 14 ⟨#[119]⟩ _ _ _ _ _ _ _ _ _ _ 8 8 _ _ _ W hT (.inr rfl) (fun W => Tryz.strconv_Itoa_small 0 (by decide) W) quoW rowW

def shortT : ByteArray := ⟨#[119, 114, 97, 112, 32, 34, 119, 34, 32, 40, 99, 111, 100, 101, 32, 55, 41]⟩
theorem short_awake (b : Nat) (v : Value) (g A1 c1 B1 d1 A2 c2 B2 d2) (w : World) (htab : TW.Tab w) (h : Bk b v [recCode A1 c1 B1 d1, recWrap g A2 c2 B2 d2] w) :
    Calls Tryz.prog 36 #[.pointer (some ⟨b, 0, none⟩), .int .i64 2] w fun e w' => e = .returned (.tuple #[.string shortT, .int .i64 0]) ∧ Below w.heap.size w w' := by
  obtain ⟨q, c, rfl⟩ : ∃ q c, v = .slice (some ⟨q, 0, none⟩) 2 c := by
    obtain ⟨A, c, rfl⟩ := TF.own_slice h.rows
    obtain ⟨q, rfl⟩ := TF.own_some h.rows (Nat.succ_pos 1)
    exact ⟨q, c, rfl⟩
  exact (TS2.short_one b q c [recCode A1 c1 B1 d1, recWrap g A2 c2 B2 d2] 1 0 _ _ txW txC w h rfl rfl (show 2 ≤ 65536 from by decide) rfl rfl (show 0 ≤ 65536 from by decide) (show 0 ≤ 65536 from by decide) htab (by decide) (by decide) asciiW asciiC (wordsW _ _ _ _ _) (wordsC _ _ _ _)).mono (fun e w' he => ⟨he.1.trans (by rfl), he.2⟩)
theorem tree_awake (b : Nat) (v : Value) (g A1 c1 B1 d1 A2 c2 B2 d2) (w : World) (htab : TW.Tab w) (h : Bk b v [recCode A1 c1 B1 d1, recWrap g A2 c2 B2 d2] w) :
    Calls Tryz.prog 37 #[.pointer (some ⟨b, 0, none⟩), .int .i64 2] w fun e w' => ∃ g c, e = .returned (.tuple #[.slice (some ⟨g, 0, none⟩) 2 c, .int .i64 0]) ∧ w'.cell? ⟨g, 0, none⟩ = some (.string txW) ∧ w'.cell? ⟨g, 1, none⟩ = some (.string ⟨#[32, 32, 99, 111, 100, 101, 32, 55]⟩) ∧ Below w.heap.size w w' := by
  obtain ⟨q, c, rfl⟩ : ∃ q c, v = .slice (some ⟨q, 0, none⟩) 2 c := by
    obtain ⟨A, c, rfl⟩ := TF.own_slice h.rows
    obtain ⟨q, rfl⟩ := TF.own_some h.rows (Nat.succ_pos 1)
    exact ⟨q, c, rfl⟩
  refine (TP2.tree_one b q c [recCode A1 c1 B1 d1, recWrap g A2 c2 B2 d2] 1 0 _ _ txW txC w h rfl rfl (show 2 ≤ 65536 from by decide) rfl rfl (show 0 ≤ 65536 from by decide) (show 0 ≤ 65536 from by decide) htab (by decide) (by decide) (wordsW _ _ _ _ _) (wordsC _ _ _ _)).mono ?_
  rintro e w' ⟨v, rfl, ho, hb⟩
  obtain ⟨A, c, rfl⟩ := TF.own_slice ho
  obtain ⟨g, rfl⟩ := TF.own_some ho (Nat.succ_pos 1)
  refine ⟨g, c, rfl, ?_, ?_, hb⟩
  · exact (ho.cells (g := g) rfl 0 _ rfl).trans rfl
  · exact (ho.cells (g := g) rfl 1 _ rfl).trans rfl
end Go.Proofs.YtimmafiodhncgaaGreatDoor.TK
end
section
/- awake of layer 15: true. -/
set_option linter.unusedVariables false
set_option linter.unusedSimpArgs false
namespace Go.Proofs.YtimmafiodhncgaaGreatDoor.TK
open Go.RowKit Go.Shelf Go.Proofs.YtimmafiodhncgaaGreatDoorW.PrintWords Go.Proofs.YtimmafiodhncgaaGreatDoorW.PrintMore Go.Proofs.YtimmafiodhncgaaGreatDoor.TF Go.Proofs.YtimmafiodhncgaaGreatDoor.TW Go.Proofs.YtimmafiodhncgaaGreatDoor.QW
theorem made_awake (w : World) (htab : TW.Tab w) : Calls Tryz.prog 35 #[.slice (some ⟨w.heap.size + 1, 0, none⟩) 2 2] ((w.alloc (.cells #[.int .i64 1] 3)).alloc (.cells (specs2 w.heap.size 1) 52)) fun e w' => ∃ dk b v A1 c1 B1 d1 g A2 c2 B2 d2, e = .returned (.tuple #[.pointer (some ⟨dk, 0, none⟩), .bool true]) ∧ w'.cell? ⟨dk, 0, none⟩ = some (.pointer (some ⟨b, 0, none⟩)) ∧
      Bk b v [recCode A1 c1 B1 d1, recWrap g A2 c2 B2 d2] w' ∧ Below w.heap.size w w' ∧ TW.Tab w' := by
  have h1 := own_lit_of (enc := Value.int .i64) w w.heap.size 3 [1] (Nat.le_refl _) (by simp)
  have b1 : Below w.heap.size w (w.alloc (.cells #[.int .i64 1] 3)) := (Below.refl _ w).alloc (Nat.le_refl _) _
  have b2 : Below w.heap.size w ((w.alloc (.cells #[.int .i64 1] 3)).alloc (.cells (specs2 w.heap.size 1) 52)) := b1.alloc b1.size _
  have h2 := Blk.new (w.alloc (.cells #[.int .i64 1] 3)) 52 (specs2 w.heap.size 1)
  rw [World.size_alloc] at h2
  refine (made_calls (w.heap.size + 1) w.heap.size 1 2 _ (fun i _ => h2.cell i) (TF.own_lower (base' := 0) (h1.alloc _) (Nat.zero_le _))).mono ?_
  rintro e w' ⟨dk, b, v, A1, c1, B1, d1, g, A2, c2, B2, d2, rfl, hc, hbk, hb⟩
  have hb' := b2.trans (hb.mono b2.size)
  exact ⟨dk, b, v, A1, c1, B1, d1, g, A2, c2, B2, d2, rfl, hc, hbk, hb', htab.stays hb'⟩
set_option maxHeartbeats 4000000 in
set_option maxRecDepth 100000 in
theorem awake_calls (w : World) (htab : TW.Tab w) : Calls Tryz.prog 21 #[] w fun e w' => e = .returned (.bool true) ∧ Below w.heap.size w w' := by
  have HM := Aside0.mk (made_awake w htab)
  unfold specs2 at HM
  clear htab
  go_enter Tryz.func21, Tryz.ntmps21
  go_wp2_with (go_at_call 35; (with_reducible refine HM.out.mono ?_))
  rintro e w1 ⟨dk, b, v, A1, c1, B1, d1, g, A2, c2, B2, d2, rfl, hc1, hbk, hb1, ht1⟩
  have HS := Aside0.mk (short_awake b v g A1 c1 B1 d1 A2 c2 B2 d2 w1 ht1 hbk)
  have HD := Aside0.mk (show dk < w1.heap.size from World.block_lt_of_cell? _ _ hc1)
  have HB1 := Aside0.mk hb1
  have HK := Aside0.mk hbk
  have HT := Aside0.mk ht1
  clear HM hb1 hbk ht1
  go_wp2_with (go_at_call 36; (with_reducible refine HS.out.mono ?_))
  rintro e w2 ⟨rfl, hb2⟩
  have hc2 : w2.cell? ⟨dk, 0, none⟩ = some (.pointer (some ⟨b, 0, none⟩)) := (hb2.cell HD.out).trans hc1
  have HT2 := Aside0.mk (tree_awake b v g A1 c1 B1 d1 A2 c2 B2 d2 w2 (HT.out.stays hb2) (HK.out.next hb2))
  have HB2 := Aside0.mk (HB1.out.trans (hb2.mono HB1.out.size))
  clear hb2 hc1 HS HB1 HK HT
  unfold shortT
  go_wp2_with (go_at_call 37; (with_reducible refine HT2.out.mono ?_))
  rintro e w3 ⟨tg, tc, rfl, k0, k1, hb3⟩
  have HB3 := Aside0.mk (HB2.out.trans (hb3.mono HB2.out.size))
  clear HT2 hb3
  unfold txW at k0
  go_wp2_with (fail)
  go_ret
  exact ⟨by kernel_rfl, HB3.out⟩
end Go.Proofs.YtimmafiodhncgaaGreatDoor.TK
end
