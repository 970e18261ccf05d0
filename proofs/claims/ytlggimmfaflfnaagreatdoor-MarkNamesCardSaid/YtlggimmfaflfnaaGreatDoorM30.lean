/- lines.words of a Code and of a kind that has a text alone. -/
import Derived.Test.YtlggimmfaflfnaaGreatDoorM12
import Derived.Test.YtlggimmfaflfnaaGreatDoorM29
import Derived.Test.YtlggimmfaflfnaaGreatDoorM20
set_option linter.unusedVariables false
set_option linter.unusedSimpArgs false
namespace Go.Proofs.YtlggimmfaflfnaaGreatDoor.TW
open Go.RowKit Go.Shelf Go.Lib Go.Proofs.YtlggimmfaflfnaaGreatDoor.TF Go.Proofs.YtlggimmfaflfnaaGreatDoor.TK Go.Proofs.YtlggimmfaflfnaaGreatDoorW.PrintWords Go.Proofs.YtlggimmfaflfnaaGreatDoorW.PrintMore Go.Proofs.YtlggimmfaflfnaaGreatDoor.QW

theorem two_strs (w : World) (x y : ByteArray) : Kd.C Kd.string (w.alloc (.cells #[.string x, .string y] 9)) (some ⟨w.heap.size, 0, none⟩) 2 [x, y] := by
  have h := own_lit_of (enc := Value.string) w w.heap.size 9 [x, y] (Nat.le_refl _) (by simp)
  exact Kd.C_of_reads (own_reads_of' (d := ByteArray.empty) h)
theorem one_str (w : World) (x : ByteArray) : Kd.C Kd.string (w.alloc (.cells #[.string x] 9)) (some ⟨w.heap.size, 0, none⟩) 1 [x] := by
  have h := own_lit_of (enc := Value.string) w w.heap.size 9 [x] (Nat.le_refl _) (by simp)
  exact Kd.C_of_reads (own_reads_of' (d := ByteArray.empty) h)
theorem row_two (q : Nat) (x y r : ByteArray) (w : World) (h : lines_row.f q [x, y] = some r) :
    Calls Tryz.prog 193 #[.slice (some ⟨w.heap.size, 0, none⟩) 2 2] (w.alloc (.cells #[.string x, .string y] 9)) fun e w' => e = .returned (.string r) ∧ Below w.heap.size w w' :=
  (lines_row.calls q _ _ [x, y] r _ (two_strs w x y) (Nat.le_refl _) h).mono fun e w' ⟨h1, h2⟩ => ⟨h1, ((Below.refl _ w).alloc (Nat.le_refl _) _).trans (h2.mono (by simp))⟩
theorem quoted_one (q : Nat) (x r : ByteArray) (w : World) (h : lines_quoted.f q [x] = some r) :
    Calls Tryz.prog 194 #[.slice (some ⟨w.heap.size, 0, none⟩) 1 1] (w.alloc (.cells #[.string x] 9)) fun e w' => e = .returned (.string r) ∧ Below w.heap.size w w' :=
  (lines_quoted.calls q _ _ [x] r _ (one_str w x) (Nat.le_refl _) h).mono fun e w' ⟨h1, h2⟩ => ⟨h1, ((Below.refl _ w).alloc (Nat.le_refl _) _).trans (h2.mono (by simp))⟩
set_option maxRecDepth 100000 in
theorem words_code (t : ByteArray) (n : Int) (d : ByteArray) (sm : Int) (re im : Nat) (mk : Int) (A B : Option Addr) (l c l2 d2 : Nat) (q : Nat) (r : ByteArray) (w : World) (htab : Tab w) (hn0 : 0 ≤ n) (hn1 : n ≤ 32767)
    (hI : ∀ W, Calls Tryz.prog 154 #[.int .i64 n] W fun e w' => e = .returned (.string d) ∧ w' = W) (hr : lines_row.f q [nameOf 1, d] = some r) :
    Calls Tryz.prog 164 #[spec 1 false t n sm re im false mk (.slice A l c) (.slice B l2 d2)] w fun e w' => e = .returned (.string r) ∧ Below w.heap.size w w' := by
  unfold spec
  have hx := Blk.new w 37 #[.int .u8 1, .bool false, .string t, .int .i16 n, .int .i8 sm, .float .f64 re, .float .f64 im, .bool false, .int .u32 mk, .slice A l c, .slice B l2 d2]
  have b0 : Below w.heap.size w (w.alloc (.cells #[.int .u8 1, .bool false, .string t, .int .i16 n, .int .i8 sm, .float .f64 re, .float .f64 im, .bool false, .int .u32 mk, .slice A l c, .slice B l2 d2] 37)) := (Below.refl _ w).alloc (Nat.le_refl _) _
  obtain ⟨V0, hV0⟩ : ∃ V, w.alloc (.cells #[.int .u8 1, .bool false, .string t, .int .i16 n, .int .i8 sm, .float .f64 re, .float .f64 im, .bool false, .int .u32 mk, .slice A l c, .slice B l2 d2] 37) = V := ⟨_, rfl⟩
  rw [hV0] at hx b0
  have c0 : V0.cell? ⟨w.heap.size, 0, none⟩ = some (.int .u8 1) := (hx.cell 0).trans rfl
  have HX := Aside0.mk hx
  have HB := Aside0.mk b0
  have HW : Aside0 (Calls Tryz.prog 192 #[.int .u8 1] V0 fun e w' => e = .returned (.tuple #[.string (nameOf 1), .int .i64 0]) ∧ Below V0.heap.size V0 w') := Aside0.mk (word_calls 1 (by decide) (by decide) V0 (htab.stays b0))
  clear hx b0
  go_enter Tryz.func164, Tryz.ntmps164
  go_wp2_with (go_at_call 192; (with_reducible refine HW.out.mono ?_))
  rintro e w1 ⟨rfl, h1⟩
  have hx1 := HX.out.next h1
  have d0 : w1.cell? ⟨w.heap.size, 0, none⟩ = some (.int .u8 1) := (hx1.cell 0).trans rfl
  have d1 : w1.cell? ⟨w.heap.size, 1, none⟩ = some (.bool false) := (hx1.cell 1).trans rfl
  have d3 : w1.cell? ⟨w.heap.size, 3, none⟩ = some (.int .i16 n) := (hx1.cell 3).trans rfl
  have d7 : w1.cell? ⟨w.heap.size, 7, none⟩ = some (.bool false) := (hx1.cell 7).trans rfl
  have HB1 := Aside0.mk (HB.out.trans (h1.mono HB.out.size))
  clear hx1 h1 HX HB c0
  go_wp2_with (go_at_call 154; (with_reducible refine (hI _).mono ?_); rintro e w' ⟨rfl, rfl⟩)
  go_wp2_with (go_at_call 193; (with_reducible refine (row_two q _ _ _ _ hr).mono ?_))
  rintro e w2 ⟨rfl, h2⟩
  have HB2 := Aside0.mk (HB1.out.trans (h2.mono HB1.out.size))
  clear h2 d0 d1 d3 d7 HB1
  go_wp2_with (fail)
  go_ret
  exact ⟨by kernel_rfl, HB2.out⟩
set_option maxRecDepth 100000 in
theorem words_text (k : Int) (t : ByteArray) (sm : Int) (re im : Nat) (mk : Int) (A B : Option Addr) (l c l2 d2 : Nat) (q1 q2 : Nat) (z r1 r : ByteArray) (w : World) (htab : Tab w) (hk : k = 2 ∨ k = 14)
    (hI : ∀ W, Calls Tryz.prog 154 #[.int .i64 0] W fun e w' => e = .returned (.string z) ∧ w' = W) (hr1 : lines_quoted.f q1 [t] = some r1) (hr : lines_row.f q2 [nameOf k.toNat, r1] = some r) :
    Calls Tryz.prog 164 #[spec k false t 0 sm re im false mk (.slice A l c) (.slice B l2 d2)] w fun e w' => e = .returned (.string r) ∧ Below w.heap.size w w' := by
  rcases hk with rfl | rfl
  · have hr : lines_row.f q2 [nameOf 2, r1] = some r := hr
    unfold spec
    have hx := Blk.new w 37 #[.int .u8 2, .bool false, .string t, .int .i16 0, .int .i8 sm, .float .f64 re, .float .f64 im, .bool false, .int .u32 mk, .slice A l c, .slice B l2 d2]
    have b0 : Below w.heap.size w (w.alloc (.cells #[.int .u8 2, .bool false, .string t, .int .i16 0, .int .i8 sm, .float .f64 re, .float .f64 im, .bool false, .int .u32 mk, .slice A l c, .slice B l2 d2] 37)) := (Below.refl _ w).alloc (Nat.le_refl _) _
    obtain ⟨V0, hV0⟩ : ∃ V, w.alloc (.cells #[.int .u8 2, .bool false, .string t, .int .i16 0, .int .i8 sm, .float .f64 re, .float .f64 im, .bool false, .int .u32 mk, .slice A l c, .slice B l2 d2] 37) = V := ⟨_, rfl⟩
    rw [hV0] at hx b0
    have c0 : V0.cell? ⟨w.heap.size, 0, none⟩ = some (.int .u8 2) := (hx.cell 0).trans rfl
    have HX := Aside0.mk hx
    have HB := Aside0.mk b0
    have HW : Aside0 (Calls Tryz.prog 192 #[.int .u8 2] V0 fun e w' => e = .returned (.tuple #[.string (nameOf 2), .int .i64 0]) ∧ Below V0.heap.size V0 w') := Aside0.mk (word_calls 2 (by decide) (by decide) V0 (htab.stays b0))
    clear hx b0
    go_enter Tryz.func164, Tryz.ntmps164
    go_wp2_with (go_at_call 192; (with_reducible refine HW.out.mono ?_))
    rintro e w1 ⟨rfl, h1⟩
    have hx1 := HX.out.next h1
    have d0 : w1.cell? ⟨w.heap.size, 0, none⟩ = some (.int .u8 2) := (hx1.cell 0).trans rfl
    have d1 : w1.cell? ⟨w.heap.size, 1, none⟩ = some (.bool false) := (hx1.cell 1).trans rfl
    have d3 : w1.cell? ⟨w.heap.size, 3, none⟩ = some (.int .i16 0) := (hx1.cell 3).trans rfl
    have d7 : w1.cell? ⟨w.heap.size, 7, none⟩ = some (.bool false) := (hx1.cell 7).trans rfl
    have d2' : w1.cell? ⟨w.heap.size, 2, none⟩ = some (.string t) := (hx1.cell 2).trans rfl
    have HB1 := Aside0.mk (HB.out.trans (h1.mono HB.out.size))
    clear hx1 h1 HX HB c0
    go_wp2_with (go_at_call 154; (with_reducible refine (hI _).mono ?_); rintro e w' ⟨rfl, rfl⟩)
    go_wp2_with (go_at_call 194; (with_reducible refine (quoted_one q1 _ _ _ hr1).mono ?_))
    rintro e w2 ⟨rfl, h2⟩
    have HB2 := Aside0.mk (HB1.out.trans (h2.mono HB1.out.size))
    clear h2 d0 d1 d3 d7 HB1 d2'
    go_wp2_with (go_at_call 193; (with_reducible refine (row_two q2 _ _ _ _ hr).mono ?_))
    rintro e w3 ⟨rfl, h3⟩
    have HB3 := Aside0.mk (HB2.out.trans (h3.mono HB2.out.size))
    clear h3 HB2
    go_wp2_with (fail)
    go_ret
    exact ⟨by kernel_rfl, HB3.out⟩
  · have hr : lines_row.f q2 [nameOf 14, r1] = some r := hr
    unfold spec
    have hx := Blk.new w 37 #[.int .u8 14, .bool false, .string t, .int .i16 0, .int .i8 sm, .float .f64 re, .float .f64 im, .bool false, .int .u32 mk, .slice A l c, .slice B l2 d2]
    have b0 : Below w.heap.size w (w.alloc (.cells #[.int .u8 14, .bool false, .string t, .int .i16 0, .int .i8 sm, .float .f64 re, .float .f64 im, .bool false, .int .u32 mk, .slice A l c, .slice B l2 d2] 37)) := (Below.refl _ w).alloc (Nat.le_refl _) _
    obtain ⟨V0, hV0⟩ : ∃ V, w.alloc (.cells #[.int .u8 14, .bool false, .string t, .int .i16 0, .int .i8 sm, .float .f64 re, .float .f64 im, .bool false, .int .u32 mk, .slice A l c, .slice B l2 d2] 37) = V := ⟨_, rfl⟩
    rw [hV0] at hx b0
    have c0 : V0.cell? ⟨w.heap.size, 0, none⟩ = some (.int .u8 14) := (hx.cell 0).trans rfl
    have HX := Aside0.mk hx
    have HB := Aside0.mk b0
    have HW : Aside0 (Calls Tryz.prog 192 #[.int .u8 14] V0 fun e w' => e = .returned (.tuple #[.string (nameOf 14), .int .i64 0]) ∧ Below V0.heap.size V0 w') := Aside0.mk (word_calls 14 (by decide) (by decide) V0 (htab.stays b0))
    clear hx b0
    go_enter Tryz.func164, Tryz.ntmps164
    go_wp2_with (go_at_call 192; (with_reducible refine HW.out.mono ?_))
    rintro e w1 ⟨rfl, h1⟩
    have hx1 := HX.out.next h1
    have d0 : w1.cell? ⟨w.heap.size, 0, none⟩ = some (.int .u8 14) := (hx1.cell 0).trans rfl
    have d1 : w1.cell? ⟨w.heap.size, 1, none⟩ = some (.bool false) := (hx1.cell 1).trans rfl
    have d3 : w1.cell? ⟨w.heap.size, 3, none⟩ = some (.int .i16 0) := (hx1.cell 3).trans rfl
    have d7 : w1.cell? ⟨w.heap.size, 7, none⟩ = some (.bool false) := (hx1.cell 7).trans rfl
    have d2' : w1.cell? ⟨w.heap.size, 2, none⟩ = some (.string t) := (hx1.cell 2).trans rfl
    have HB1 := Aside0.mk (HB.out.trans (h1.mono HB.out.size))
    clear hx1 h1 HX HB c0
    go_wp2_with (go_at_call 154; (with_reducible refine (hI _).mono ?_); rintro e w' ⟨rfl, rfl⟩)
    go_wp2_with (go_at_call 194; (with_reducible refine (quoted_one q1 _ _ _ hr1).mono ?_))
    rintro e w2 ⟨rfl, h2⟩
    have HB2 := Aside0.mk (HB1.out.trans (h2.mono HB1.out.size))
    clear h2 d0 d1 d3 d7 HB1 d2'
    go_wp2_with (go_at_call 193; (with_reducible refine (row_two q2 _ _ _ _ hr).mono ?_))
    rintro e w3 ⟨rfl, h3⟩
    have HB3 := Aside0.mk (HB2.out.trans (h3.mono HB2.out.size))
    clear h3 HB2
    go_wp2_with (fail)
    go_ret
    exact ⟨by kernel_rfl, HB3.out⟩
end Go.Proofs.YtlggimmfaflfnaaGreatDoor.TW
