/- RefLong -/
import Derived.Test.YtimmafiodhncgaaGreatDoorM9
import Derived.Test.YtimmafiodhncgaaGreatDoorM11
import Derived.Deep.LoopGhost
/- errataref04.Long of a Code and of a Wrap. -/
set_option linter.unusedVariables false
set_option linter.unusedSimpArgs false
namespace Go.Proofs.YtimmafiodhncgaaGreatDoor.TK
open Go.RowKit Go.Shelf Go.Proofs.YtimmafiodhncgaaGreatDoorW.PrintWords Go.Proofs.YtimmafiodhncgaaGreatDoorW.PrintMore Go.Proofs.YtimmafiodhncgaaGreatDoor.TF Go.Proofs.YtimmafiodhncgaaGreatDoor.TW

theorem refnumber_seven (w : World) : Calls Tryz.prog 174 #[.int .i16 7] w fun e w' => e = .returned (.string ⟨#[55]⟩) ∧ w' = w := by
  go_enter Tryz.func174, Tryz.ntmps174
  go_wp2_with (go_at_call 83; (with_reducible refine (itoa_seven _).mono ?_); rintro e w' ⟨rfl, rfl⟩)
  go_ret
  exact ⟨by kernel_rfl, rfl⟩
theorem refplain_code (nl : Bool) (t : ByteArray) (sm : Int) (re im : Nat) (fl : Bool) (mk : Int) (A B : Option Addr) (l c l2 d : Nat) (w : World) :
    Calls Tryz.prog 150 #[spec 1 nl t 7 sm re im fl mk (.slice A l c) (.slice B l2 d)] w fun e w' => e = .returned (.string ⟨#[99, 111, 100, 101, 32, 55]⟩) ∧ Below w.heap.size w w' := by
  unfold spec
  have hx := Blk.new w 52 #[.int .u8 1, .bool nl, .string t, .int .i16 7, .int .i8 sm, .float .f64 re, .float .f64 im, .bool fl, .int .u32 mk, .slice A l c, .slice B l2 d]
  have b0 : Below w.heap.size w (w.alloc (.cells #[.int .u8 1, .bool nl, .string t, .int .i16 7, .int .i8 sm, .float .f64 re, .float .f64 im, .bool fl, .int .u32 mk, .slice A l c, .slice B l2 d] 52)) := (Below.refl _ w).alloc (Nat.le_refl _) _
  obtain ⟨V0, hV0⟩ : ∃ V, w.alloc (.cells #[.int .u8 1, .bool nl, .string t, .int .i16 7, .int .i8 sm, .float .f64 re, .float .f64 im, .bool fl, .int .u32 mk, .slice A l c, .slice B l2 d] 52) = V := ⟨_, rfl⟩
  rw [hV0] at hx b0
  have c0 : V0.cell? ⟨w.heap.size, 0, none⟩ = some (.int .u8 1) := (hx.cell 0).trans rfl
  have c3 : V0.cell? ⟨w.heap.size, 3, none⟩ = some (.int .i16 7) := (hx.cell 3).trans rfl
  have HB := Aside0.mk b0
  clear hx b0
  go_enter Tryz.func150, Tryz.ntmps150
  go_wp2_with (go_at_call 174; (with_reducible refine (refnumber_seven _).mono ?_); rintro e w2 ⟨rfl, rfl⟩)
  go_ret
  exact ⟨by kernel_rfl, HB.out⟩
set_option maxRecDepth 100000 in
theorem reflong_code (t : ByteArray) (sm : Int) (re im : Nat) (fl : Bool) (mk : Int) (A B E : Option Addr) (c d ec base : Nat) (its : List ByteArray) (w : World)
    (hI : w.ownsRow base 9 1 (.slice A its.length c) its.length (encs Value.string its)) (hi : its.length ≤ 65536) (hchk : chk 1 false t 7 sm re im fl mk its 0 = 0) :
    Calls Tryz.prog 119 #[spec 1 false t 7 sm re im fl mk (.slice A its.length c) (.slice B 0 d), .slice E 0 ec] w fun e w' => e = .returned (.int .i64 6) ∧ Below w.heap.size w w' := by
  have hcheck := fun W (hW : Below w.heap.size w W) => refcheck_calls 1 false t 7 sm re im fl mk A B its.length c 0 d its W rfl (Kd.C_below (Kd.C_of_reads (own_reads_of' (d := ByteArray.empty) hI)) hW) (by omega)
  rw [hchk] at hcheck
  have HCh := Aside0.mk hcheck
  unfold spec at hcheck HCh ⊢
  clear hcheck
  have hx := Blk.new w 52 #[.int .u8 1, .bool false, .string t, .int .i16 7, .int .i8 sm, .float .f64 re, .float .f64 im, .bool fl, .int .u32 mk, .slice A its.length c, .slice B 0 d]
  have b0 : Below w.heap.size w (w.alloc (.cells #[.int .u8 1, .bool false, .string t, .int .i16 7, .int .i8 sm, .float .f64 re, .float .f64 im, .bool fl, .int .u32 mk, .slice A its.length c, .slice B 0 d] 52)) := (Below.refl _ w).alloc (Nat.le_refl _) _
  obtain ⟨V0, hV0⟩ : ∃ V, w.alloc (.cells #[.int .u8 1, .bool false, .string t, .int .i16 7, .int .i8 sm, .float .f64 re, .float .f64 im, .bool fl, .int .u32 mk, .slice A its.length c, .slice B 0 d] 52) = V := ⟨_, rfl⟩
  rw [hV0] at hx b0
  obtain ⟨c0, c1, c2, c3, c4, c5, c6, c7, c8, c9, c10⟩ : V0.cell? ⟨w.heap.size, 0, none⟩ = some (.int .u8 1) ∧ V0.cell? ⟨w.heap.size, 1, none⟩ = some (.bool false) ∧ V0.cell? ⟨w.heap.size, 2, none⟩ = some (.string t) ∧ V0.cell? ⟨w.heap.size, 3, none⟩ = some (.int .i16 7) ∧ V0.cell? ⟨w.heap.size, 4, none⟩ = some (.int .i8 sm) ∧ V0.cell? ⟨w.heap.size, 5, none⟩ = some (.float .f64 re) ∧ V0.cell? ⟨w.heap.size, 6, none⟩ = some (.float .f64 im) ∧ V0.cell? ⟨w.heap.size, 7, none⟩ = some (.bool fl) ∧ V0.cell? ⟨w.heap.size, 8, none⟩ = some (.int .u32 mk) ∧ V0.cell? ⟨w.heap.size, 9, none⟩ = some (.slice A its.length c) ∧ V0.cell? ⟨w.heap.size, 10, none⟩ = some (.slice B 0 d) := ⟨(hx.cell 0).trans rfl, (hx.cell 1).trans rfl, (hx.cell 2).trans rfl, (hx.cell 3).trans rfl, (hx.cell 4).trans rfl, (hx.cell 5).trans rfl, (hx.cell 6).trans rfl, (hx.cell 7).trans rfl, (hx.cell 8).trans rfl, (hx.cell 9).trans rfl, (hx.cell 10).trans rfl⟩
  have HX := Aside0.mk hx
  have HB := Aside0.mk b0
  clear hx b0 hI hchk
  go_enter Tryz.func119, Tryz.ntmps119
  go_wp2_with (go_at_call 148; (with_reducible refine (HCh.out _ HB.out).mono ?_))
  rintro e W1 ⟨rfl, h1⟩
  clear c0 c1 c2 c3 c4 c5 c6 c7 c8 c9 c10
  have hx1 := HX.out.next h1
  obtain ⟨c0, c1, c2, c3, c4, c5, c6, c7, c8, c9, c10⟩ : W1.cell? ⟨w.heap.size, 0, none⟩ = some (.int .u8 1) ∧ W1.cell? ⟨w.heap.size, 1, none⟩ = some (.bool false) ∧ W1.cell? ⟨w.heap.size, 2, none⟩ = some (.string t) ∧ W1.cell? ⟨w.heap.size, 3, none⟩ = some (.int .i16 7) ∧ W1.cell? ⟨w.heap.size, 4, none⟩ = some (.int .i8 sm) ∧ W1.cell? ⟨w.heap.size, 5, none⟩ = some (.float .f64 re) ∧ W1.cell? ⟨w.heap.size, 6, none⟩ = some (.float .f64 im) ∧ W1.cell? ⟨w.heap.size, 7, none⟩ = some (.bool fl) ∧ W1.cell? ⟨w.heap.size, 8, none⟩ = some (.int .u32 mk) ∧ W1.cell? ⟨w.heap.size, 9, none⟩ = some (.slice A its.length c) ∧ W1.cell? ⟨w.heap.size, 10, none⟩ = some (.slice B 0 d) := ⟨(hx1.cell 0).trans rfl, (hx1.cell 1).trans rfl, (hx1.cell 2).trans rfl, (hx1.cell 3).trans rfl, (hx1.cell 4).trans rfl, (hx1.cell 5).trans rfl, (hx1.cell 6).trans rfl, (hx1.cell 7).trans rfl, (hx1.cell 8).trans rfl, (hx1.cell 9).trans rfl, (hx1.cell 10).trans rfl⟩
  have HX1 := Aside0.mk hx1
  have HB1 := Aside0.mk (HB.out.trans (h1.mono HB.out.size))
  clear hx1 h1 HX HB HCh
  have HPl := Aside0.mk (refplain_code false t sm re im fl mk A B its.length c 0 d)
  unfold spec at HPl
  go_wp2_with (fail)
  go_loopg [5, 6, 7] 0 (fun kq v5 v6 v7 wr => v5 = .int .i64 0 ∧ v6 = .int .i64 0 ∧ v7 = .int .i64 0 ∧ kq = 0 ∧ wr = W1)
  case atStart => exact ⟨rfl, rfl, rfl, rfl, rfl⟩
  case round =>
    obtain ⟨rfl, rfl, rfl, rfl, rfl⟩ := hrel
    go_wp2_with (go_at_call 150; (with_reducible refine (HPl.out _).mono ?_))
    rintro e W2 ⟨rfl, h2⟩
    have HB2 := Aside0.mk (HB1.out.trans (h2.mono HB1.out.size))
    clear h2 c0 c1 c2 c3 c4 c5 c6 c7 c8 c9 c10
    go_wp2_with (fail)
    go_ret
    exact ⟨by kernel_rfl, HB2.out⟩
set_option maxRecDepth 100000 in
theorem reflong_wrap (t : ByteArray) (n sm : Int) (re im : Nat) (fl : Bool) (mk : Int) (A : Option Addr) (c d ec gp g base bs : Nat) (its : List ByteArray) (p x : Int) (w : World)
    (hI : w.ownsRow base 9 1 (.slice A its.length c) its.length (encs Value.string its)) (hi : its.length ≤ 65536) (hchk : chk 14 false t n sm re im fl mk its 1 = 0) (hp : p ≠ 0) (hx0 : 0 ≤ x) (hx1 : x ≤ 65536) (ht : t.size ≤ 4096)
    (hgp : gp < w.heap.size) (hP : w.cell? ⟨gp, 0, none⟩ = some (.int .i64 p)) (hg : g < w.heap.size) (hE : w.cell? ⟨g, 0, none⟩ = some (.int .i64 x)) :
    Calls Tryz.prog 119 #[spec 14 false t n sm re im fl mk (.slice A its.length c) (.slice (some ⟨gp, 0, none⟩) 1 d), .slice (some ⟨g, 0, none⟩) 1 ec] w fun e w' => e = .returned (.int .i64 ((t.size : Int) + 2 + x)) ∧ Below w.heap.size w w' := by
  have hcheck := fun W (hW : Below w.heap.size w W) => refcheck_calls 14 false t n sm re im fl mk A (some ⟨gp, 0, none⟩) its.length c 1 d its W rfl (Kd.C_below (Kd.C_of_reads (own_reads_of' (d := ByteArray.empty) hI)) hW) (by omega)
  rw [hchk] at hcheck
  have HCh := Aside0.mk hcheck
  unfold spec at hcheck HCh ⊢
  clear hcheck
  have hx := Blk.new w 52 #[.int .u8 14, .bool false, .string t, .int .i16 n, .int .i8 sm, .float .f64 re, .float .f64 im, .bool fl, .int .u32 mk, .slice A its.length c, .slice (some ⟨gp, 0, none⟩) 1 d]
  have b0 : Below w.heap.size w (w.alloc (.cells #[.int .u8 14, .bool false, .string t, .int .i16 n, .int .i8 sm, .float .f64 re, .float .f64 im, .bool fl, .int .u32 mk, .slice A its.length c, .slice (some ⟨gp, 0, none⟩) 1 d] 52)) := (Below.refl _ w).alloc (Nat.le_refl _) _
  obtain ⟨V0, hV0⟩ : ∃ V, w.alloc (.cells #[.int .u8 14, .bool false, .string t, .int .i16 n, .int .i8 sm, .float .f64 re, .float .f64 im, .bool fl, .int .u32 mk, .slice A its.length c, .slice (some ⟨gp, 0, none⟩) 1 d] 52) = V := ⟨_, rfl⟩
  rw [hV0] at hx b0
  obtain ⟨c0, c1, c2, c3, c4, c5, c6, c7, c8, c9, c10⟩ : V0.cell? ⟨w.heap.size, 0, none⟩ = some (.int .u8 14) ∧ V0.cell? ⟨w.heap.size, 1, none⟩ = some (.bool false) ∧ V0.cell? ⟨w.heap.size, 2, none⟩ = some (.string t) ∧ V0.cell? ⟨w.heap.size, 3, none⟩ = some (.int .i16 n) ∧ V0.cell? ⟨w.heap.size, 4, none⟩ = some (.int .i8 sm) ∧ V0.cell? ⟨w.heap.size, 5, none⟩ = some (.float .f64 re) ∧ V0.cell? ⟨w.heap.size, 6, none⟩ = some (.float .f64 im) ∧ V0.cell? ⟨w.heap.size, 7, none⟩ = some (.bool fl) ∧ V0.cell? ⟨w.heap.size, 8, none⟩ = some (.int .u32 mk) ∧ V0.cell? ⟨w.heap.size, 9, none⟩ = some (.slice A its.length c) ∧ V0.cell? ⟨w.heap.size, 10, none⟩ = some (.slice (some ⟨gp, 0, none⟩) 1 d) := ⟨(hx.cell 0).trans rfl, (hx.cell 1).trans rfl, (hx.cell 2).trans rfl, (hx.cell 3).trans rfl, (hx.cell 4).trans rfl, (hx.cell 5).trans rfl, (hx.cell 6).trans rfl, (hx.cell 7).trans rfl, (hx.cell 8).trans rfl, (hx.cell 9).trans rfl, (hx.cell 10).trans rfl⟩
  have HX := Aside0.mk hx
  have HB := Aside0.mk b0
  clear hx b0 hI hchk
  go_enter Tryz.func119, Tryz.ntmps119
  go_wp2_with (go_at_call 148; (with_reducible refine (HCh.out _ HB.out).mono ?_))
  rintro e W1 ⟨rfl, h1⟩
  clear c0 c1 c2 c3 c4 c5 c6 c7 c8 c9 c10
  have hx1 := HX.out.next h1
  obtain ⟨c0, c1, c2, c3, c4, c5, c6, c7, c8, c9, c10⟩ : W1.cell? ⟨w.heap.size, 0, none⟩ = some (.int .u8 14) ∧ W1.cell? ⟨w.heap.size, 1, none⟩ = some (.bool false) ∧ W1.cell? ⟨w.heap.size, 2, none⟩ = some (.string t) ∧ W1.cell? ⟨w.heap.size, 3, none⟩ = some (.int .i16 n) ∧ W1.cell? ⟨w.heap.size, 4, none⟩ = some (.int .i8 sm) ∧ W1.cell? ⟨w.heap.size, 5, none⟩ = some (.float .f64 re) ∧ W1.cell? ⟨w.heap.size, 6, none⟩ = some (.float .f64 im) ∧ W1.cell? ⟨w.heap.size, 7, none⟩ = some (.bool fl) ∧ W1.cell? ⟨w.heap.size, 8, none⟩ = some (.int .u32 mk) ∧ W1.cell? ⟨w.heap.size, 9, none⟩ = some (.slice A its.length c) ∧ W1.cell? ⟨w.heap.size, 10, none⟩ = some (.slice (some ⟨gp, 0, none⟩) 1 d) := ⟨(hx1.cell 0).trans rfl, (hx1.cell 1).trans rfl, (hx1.cell 2).trans rfl, (hx1.cell 3).trans rfl, (hx1.cell 4).trans rfl, (hx1.cell 5).trans rfl, (hx1.cell 6).trans rfl, (hx1.cell 7).trans rfl, (hx1.cell 8).trans rfl, (hx1.cell 9).trans rfl, (hx1.cell 10).trans rfl⟩
  have HX1 := Aside0.mk hx1
  have HB1 := Aside0.mk (HB.out.trans (h1.mono HB.out.size))
  clear hx1 h1 HX HB HCh
  have hP1 : W1.cell? ⟨gp, 0, none⟩ = some (.int .i64 p) := (hb_cell HB1.out hgp).trans hP
  have hE1 : W1.cell? ⟨g, 0, none⟩ = some (.int .i64 x) := (hb_cell HB1.out hg).trans hE
  have hpn : (p == 0) = false := by simp [hp]
  clear hP hE
  have hmx : max 0 (min 65537 x) = x := by omega
  go_wp2_with (fail)
  go_loopg [5, 6, 7] 1 (fun kq v5 v6 v7 wr => (kq = 1 ∧ v5 = .int .i64 0 ∧ v6 = .int .i64 0 ∧ v7 = .int .i64 0 ∧ wr = W1) ∨ (kq = 0 ∧ v5 = .int .i64 x ∧ v6 = .int .i64 1 ∧ v7 = .int .i64 1 ∧ wr = W1))
  case atStart => exact .inl ⟨rfl, rfl, rfl, rfl, rfl⟩
  case round =>
    rcases hrel with ⟨rfl, rfl, rfl, rfl, rfl⟩ | ⟨rfl, rfl, rfl, rfl, rfl⟩
    · go_wp2_with (fail)
      go_roundg 0
      case measure => omega
      case rel => exact .inr ⟨rfl, by simp, rfl, rfl, rfl⟩
    · go_wp2_with (fail)
      go_ret
      exact ⟨by kernel_rfl, HB1.out⟩
end Go.Proofs.YtimmafiodhncgaaGreatDoor.TK
