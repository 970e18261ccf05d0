/- KindsMake ItoaNought LongNought BookNought Ends -/
import Derived.Test.YtoplgeajolonoaaGreatDoorM19
import Derived.BigQuiet
import Derived.Deep.LoopGhost
import Derived.Test.YtoplgeajolonoaaGreatDoorM20
import Derived.Test.YtoplgeajolonoaaGreatDoorM9
import Derived.Test.YtoplgeajolonoaaGreatDoorM10
import Derived.Test.YtoplgeajolonoaaGreatDoorM11
section
/- kinds.Make of a Code and of a Wrap. -/
set_option linter.unusedVariables false
set_option linter.unusedSimpArgs false
namespace Go.Proofs.YtoplgeajolonoaaGreatDoor.TK
open Go.RowKit Go.Shelf Go.Proofs.YtoplgeajolonoaaGreatDoorW.PrintWords Go.Proofs.YtoplgeajolonoaaGreatDoorW.PrintMore Go.Proofs.YtoplgeajolonoaaGreatDoor.TF Go.Proofs.YtoplgeajolonoaaGreatDoor.TW

theorem leaf_code (nl : Bool) (t : ByteArray) (n sm : Int) (re im : Nat) (fl : Bool) (mk : Int) (A B : Option Addr) (l c l2 d : Nat) (w : World) :
    Calls Tryz.prog 75 #[spec 1 nl t n sm re im fl mk (.slice A l c) (.slice B l2 d)] w fun e w' => e = .returned (.iface 272 (.int .i16 n)) ∧ Below w.heap.size w w' := by
  unfold spec
  have hx := Blk.new w 43 #[.int .u8 1, .bool nl, .string t, .int .i16 n, .int .i8 sm, .float .f64 re, .float .f64 im, .bool fl, .int .u32 mk, .slice A l c, .slice B l2 d]
  have b0 : Below w.heap.size w (w.alloc (.cells #[.int .u8 1, .bool nl, .string t, .int .i16 n, .int .i8 sm, .float .f64 re, .float .f64 im, .bool fl, .int .u32 mk, .slice A l c, .slice B l2 d] 43)) := (Below.refl _ w).alloc (Nat.le_refl _) _
  obtain ⟨V0, hV0⟩ : ∃ V, w.alloc (.cells #[.int .u8 1, .bool nl, .string t, .int .i16 n, .int .i8 sm, .float .f64 re, .float .f64 im, .bool fl, .int .u32 mk, .slice A l c, .slice B l2 d] 43) = V := ⟨_, rfl⟩
  rw [hV0] at hx b0
  have c0 : V0.cell? ⟨w.heap.size, 0, none⟩ = some (.int .u8 1) := (hx.cell 0).trans rfl
  have c3 : V0.cell? ⟨w.heap.size, 3, none⟩ = some (.int .i16 n) := (hx.cell 3).trans rfl
  have HB := Aside0.mk b0
  clear hx b0
  go_enter Tryz.func75, Tryz.ntmps75
  go_wp2_with (fail)
  go_ret
  exact ⟨by kernel_rfl, HB.out⟩
theorem kmake_code (t : ByteArray) (n sm : Int) (re im : Nat) (fl : Bool) (mk : Int) (A B E : Option Addr) (c d ec base : Nat) (its : List ByteArray) (w : World)
    (hI : w.ownsRow base 9 1 (.slice A its.length c) its.length (encs Value.string its)) (hi : its.length ≤ 65536) (hchk : chk 1 false t n sm re im fl mk its 0 = 0) :
    Calls Tryz.prog 38 #[spec 1 false t n sm re im fl mk (.slice A its.length c) (.slice B 0 d), .slice E 0 ec] w fun e w' => e = .returned (.tuple #[.iface 272 (.int .i16 n), .int .i64 0]) ∧ Below w.heap.size w w' := by
  have hcheck := fun W (hW : Below w.heap.size w W) => check_calls 1 false t n sm re im fl mk A B its.length c 0 d its W rfl (Kd.C_below (Kd.C_of_reads (own_reads_of' (d := ByteArray.empty) hI)) hW) (by omega)
  rw [hchk] at hcheck
  have HCh := Aside0.mk hcheck
  unfold spec at hcheck HCh ⊢
  clear hcheck
  have hx := Blk.new w 43 #[.int .u8 1, .bool false, .string t, .int .i16 n, .int .i8 sm, .float .f64 re, .float .f64 im, .bool fl, .int .u32 mk, .slice A its.length c, .slice B 0 d]
  have b0 : Below w.heap.size w (w.alloc (.cells #[.int .u8 1, .bool false, .string t, .int .i16 n, .int .i8 sm, .float .f64 re, .float .f64 im, .bool fl, .int .u32 mk, .slice A its.length c, .slice B 0 d] 43)) := (Below.refl _ w).alloc (Nat.le_refl _) _
  obtain ⟨V0, hV0⟩ : ∃ V, w.alloc (.cells #[.int .u8 1, .bool false, .string t, .int .i16 n, .int .i8 sm, .float .f64 re, .float .f64 im, .bool fl, .int .u32 mk, .slice A its.length c, .slice B 0 d] 43) = V := ⟨_, rfl⟩
  rw [hV0] at hx b0
  obtain ⟨c0, c1, c2, c3, c4, c5, c6, c7, c8, c9, c10⟩ : V0.cell? ⟨w.heap.size, 0, none⟩ = some (.int .u8 1) ∧ V0.cell? ⟨w.heap.size, 1, none⟩ = some (.bool false) ∧ V0.cell? ⟨w.heap.size, 2, none⟩ = some (.string t) ∧ V0.cell? ⟨w.heap.size, 3, none⟩ = some (.int .i16 n) ∧ V0.cell? ⟨w.heap.size, 4, none⟩ = some (.int .i8 sm) ∧ V0.cell? ⟨w.heap.size, 5, none⟩ = some (.float .f64 re) ∧ V0.cell? ⟨w.heap.size, 6, none⟩ = some (.float .f64 im) ∧ V0.cell? ⟨w.heap.size, 7, none⟩ = some (.bool fl) ∧ V0.cell? ⟨w.heap.size, 8, none⟩ = some (.int .u32 mk) ∧ V0.cell? ⟨w.heap.size, 9, none⟩ = some (.slice A its.length c) ∧ V0.cell? ⟨w.heap.size, 10, none⟩ = some (.slice B 0 d) := ⟨(hx.cell 0).trans rfl, (hx.cell 1).trans rfl, (hx.cell 2).trans rfl, (hx.cell 3).trans rfl, (hx.cell 4).trans rfl, (hx.cell 5).trans rfl, (hx.cell 6).trans rfl, (hx.cell 7).trans rfl, (hx.cell 8).trans rfl, (hx.cell 9).trans rfl, (hx.cell 10).trans rfl⟩
  have HX := Aside0.mk hx
  have HB := Aside0.mk b0
  clear hx b0 hI hchk
  go_enter Tryz.func38, Tryz.ntmps38
  go_wp2_with (go_at_call 36; (with_reducible refine (HCh.out _ HB.out).mono ?_))
  rintro e W1 ⟨rfl, h1⟩
  clear c0 c1 c2 c3 c4 c5 c6 c7 c8 c9 c10
  have hx1 := HX.out.next h1
  obtain ⟨c0, c1, c2, c3, c4, c5, c6, c7, c8, c9, c10⟩ : W1.cell? ⟨w.heap.size, 0, none⟩ = some (.int .u8 1) ∧ W1.cell? ⟨w.heap.size, 1, none⟩ = some (.bool false) ∧ W1.cell? ⟨w.heap.size, 2, none⟩ = some (.string t) ∧ W1.cell? ⟨w.heap.size, 3, none⟩ = some (.int .i16 n) ∧ W1.cell? ⟨w.heap.size, 4, none⟩ = some (.int .i8 sm) ∧ W1.cell? ⟨w.heap.size, 5, none⟩ = some (.float .f64 re) ∧ W1.cell? ⟨w.heap.size, 6, none⟩ = some (.float .f64 im) ∧ W1.cell? ⟨w.heap.size, 7, none⟩ = some (.bool fl) ∧ W1.cell? ⟨w.heap.size, 8, none⟩ = some (.int .u32 mk) ∧ W1.cell? ⟨w.heap.size, 9, none⟩ = some (.slice A its.length c) ∧ W1.cell? ⟨w.heap.size, 10, none⟩ = some (.slice B 0 d) := ⟨(hx1.cell 0).trans rfl, (hx1.cell 1).trans rfl, (hx1.cell 2).trans rfl, (hx1.cell 3).trans rfl, (hx1.cell 4).trans rfl, (hx1.cell 5).trans rfl, (hx1.cell 6).trans rfl, (hx1.cell 7).trans rfl, (hx1.cell 8).trans rfl, (hx1.cell 9).trans rfl, (hx1.cell 10).trans rfl⟩
  have HX1 := Aside0.mk hx1
  have HB1 := Aside0.mk (HB.out.trans (h1.mono HB.out.size))
  clear hx1 h1 HX HB HCh
  have HLf := Aside0.mk (leaf_code false t n sm re im fl mk A B its.length c 0 d)
  unfold spec at HLf
  go_wp2_with (go_at_call 75; (with_reducible refine (HLf.out _).mono ?_))
  rintro e W2 ⟨rfl, h2⟩
  have HB2 := Aside0.mk (HB1.out.trans (h2.mono HB1.out.size))
  clear h2 c0 c1 c2 c3 c4 c5 c6 c7 c8 c9 c10
  go_wp2_with (fail)
  go_ret2
  exact ⟨by kernel_rfl, HB2.out⟩
end Go.Proofs.YtoplgeajolonoaaGreatDoor.TK
end
section
/- strconv.Itoa(0). -/
set_option linter.unusedVariables false
set_option linter.unusedSimpArgs false
namespace Go.Proofs.YtoplgeajolonoaaGreatDoor.TK
open Go.RowKit Go.Shelf Go.Proofs.YtoplgeajolonoaaGreatDoorW.PrintWords Go.Proofs.YtoplgeajolonoaaGreatDoorW.PrintMore Go.Proofs.YtoplgeajolonoaaGreatDoor.TF Go.Proofs.YtoplgeajolonoaaGreatDoor.TW

theorem small_nought (w : World) : Calls Tryz.prog 200 #[.int .i64 0] w fun e w' => e = .returned (.string ⟨#[48]⟩) ∧ w' = w := by
  go_enter Tryz.func200, Tryz.ntmps200
  go_wp2
  go_ret
  exact ⟨by kernel_rfl, rfl⟩
theorem formatInt_nought (w : World) : Calls Tryz.prog 180 #[.int .i64 0, .int .i64 10] w fun e w' => e = .returned (.string ⟨#[48]⟩) ∧ w' = w := by
  go_enter Tryz.func180, Tryz.ntmps180
  go_wp2_with (go_at_call 200; (with_reducible refine (small_nought _).mono ?_); rintro e w' ⟨rfl, rfl⟩)
  go_ret
  exact ⟨by kernel_rfl, rfl⟩
theorem itoa_nought0 (w : World) : Calls Tryz.prog 142 #[.int .i64 0] w fun e w' => e = .returned (.string ⟨#[48]⟩) ∧ w' = w := by
  go_enter Tryz.func142, Tryz.ntmps142
  go_wp2_with (go_at_call 180; (with_reducible refine (formatInt_nought _).mono ?_); rintro e w' ⟨rfl, rfl⟩)
  go_ret
  exact ⟨by kernel_rfl, rfl⟩
theorem itoa_nought (w : World) : Calls Tryz.prog 78 #[.int .i64 0] w fun e w' => e = .returned (.string ⟨#[48]⟩) ∧ w' = w := by
  go_enter Tryz.func78, Tryz.ntmps78
  go_wp2_with (go_at_call 142; (with_reducible refine (itoa_nought0 _).mono ?_); rintro e w' ⟨rfl, rfl⟩)
  go_ret
  exact ⟨by kernel_rfl, rfl⟩
end Go.Proofs.YtoplgeajolonoaaGreatDoor.TK
end
section
/- kinds.Long of a Code without a number. -/
set_option linter.unusedVariables false
set_option linter.unusedSimpArgs false
namespace Go.Proofs.YtoplgeajolonoaaGreatDoor.TK
open Go.RowKit Go.Shelf Go.Proofs.YtoplgeajolonoaaGreatDoorW.PrintWords Go.Proofs.YtoplgeajolonoaaGreatDoorW.PrintMore Go.Proofs.YtoplgeajolonoaaGreatDoor.TF Go.Proofs.YtoplgeajolonoaaGreatDoor.TW

set_option maxRecDepth 100000 in
theorem klong_nought (t : ByteArray) (sm : Int) (re im : Nat) (fl : Bool) (mk : Int) (A B E : Option Addr) (c d ec base : Nat) (its : List ByteArray) (w : World)
    (hI : w.ownsRow base 9 1 (.slice A its.length c) its.length (encs Value.string its)) (hi : its.length ≤ 65536) (hchk : chk 1 false t 0 sm re im fl mk its 0 = 0) :
    Calls Tryz.prog 39 #[spec 1 false t 0 sm re im fl mk (.slice A its.length c) (.slice B 0 d), .slice E 0 ec] w fun e w' => e = .returned (.int .i64 6) ∧ Below w.heap.size w w' := by
  have hcheck := fun W (hW : Below w.heap.size w W) => check_calls 1 false t 0 sm re im fl mk A B its.length c 0 d its W rfl (Kd.C_below (Kd.C_of_reads (own_reads_of' (d := ByteArray.empty) hI)) hW) (by omega)
  rw [hchk] at hcheck
  have HCh := Aside0.mk hcheck
  unfold spec at hcheck HCh ⊢
  clear hcheck
  have hx := Blk.new w 43 #[.int .u8 1, .bool false, .string t, .int .i16 0, .int .i8 sm, .float .f64 re, .float .f64 im, .bool fl, .int .u32 mk, .slice A its.length c, .slice B 0 d]
  have b0 : Below w.heap.size w (w.alloc (.cells #[.int .u8 1, .bool false, .string t, .int .i16 0, .int .i8 sm, .float .f64 re, .float .f64 im, .bool fl, .int .u32 mk, .slice A its.length c, .slice B 0 d] 43)) := (Below.refl _ w).alloc (Nat.le_refl _) _
  obtain ⟨V0, hV0⟩ : ∃ V, w.alloc (.cells #[.int .u8 1, .bool false, .string t, .int .i16 0, .int .i8 sm, .float .f64 re, .float .f64 im, .bool fl, .int .u32 mk, .slice A its.length c, .slice B 0 d] 43) = V := ⟨_, rfl⟩
  rw [hV0] at hx b0
  obtain ⟨c0, c1, c2, c3, c4, c5, c6, c7, c8, c9, c10⟩ : V0.cell? ⟨w.heap.size, 0, none⟩ = some (.int .u8 1) ∧ V0.cell? ⟨w.heap.size, 1, none⟩ = some (.bool false) ∧ V0.cell? ⟨w.heap.size, 2, none⟩ = some (.string t) ∧ V0.cell? ⟨w.heap.size, 3, none⟩ = some (.int .i16 0) ∧ V0.cell? ⟨w.heap.size, 4, none⟩ = some (.int .i8 sm) ∧ V0.cell? ⟨w.heap.size, 5, none⟩ = some (.float .f64 re) ∧ V0.cell? ⟨w.heap.size, 6, none⟩ = some (.float .f64 im) ∧ V0.cell? ⟨w.heap.size, 7, none⟩ = some (.bool fl) ∧ V0.cell? ⟨w.heap.size, 8, none⟩ = some (.int .u32 mk) ∧ V0.cell? ⟨w.heap.size, 9, none⟩ = some (.slice A its.length c) ∧ V0.cell? ⟨w.heap.size, 10, none⟩ = some (.slice B 0 d) := ⟨(hx.cell 0).trans rfl, (hx.cell 1).trans rfl, (hx.cell 2).trans rfl, (hx.cell 3).trans rfl, (hx.cell 4).trans rfl, (hx.cell 5).trans rfl, (hx.cell 6).trans rfl, (hx.cell 7).trans rfl, (hx.cell 8).trans rfl, (hx.cell 9).trans rfl, (hx.cell 10).trans rfl⟩
  have HX := Aside0.mk hx
  have HB := Aside0.mk b0
  clear hx b0 hI hchk
  go_enter Tryz.func39, Tryz.ntmps39
  go_wp2_with (go_at_call 36; (with_reducible refine (HCh.out _ HB.out).mono ?_))
  rintro e W1 ⟨rfl, h1⟩
  clear c0 c1 c2 c3 c4 c5 c6 c7 c8 c9 c10
  have hx1 := HX.out.next h1
  obtain ⟨c0, c1, c2, c3, c4, c5, c6, c7, c8, c9, c10⟩ : W1.cell? ⟨w.heap.size, 0, none⟩ = some (.int .u8 1) ∧ W1.cell? ⟨w.heap.size, 1, none⟩ = some (.bool false) ∧ W1.cell? ⟨w.heap.size, 2, none⟩ = some (.string t) ∧ W1.cell? ⟨w.heap.size, 3, none⟩ = some (.int .i16 0) ∧ W1.cell? ⟨w.heap.size, 4, none⟩ = some (.int .i8 sm) ∧ W1.cell? ⟨w.heap.size, 5, none⟩ = some (.float .f64 re) ∧ W1.cell? ⟨w.heap.size, 6, none⟩ = some (.float .f64 im) ∧ W1.cell? ⟨w.heap.size, 7, none⟩ = some (.bool fl) ∧ W1.cell? ⟨w.heap.size, 8, none⟩ = some (.int .u32 mk) ∧ W1.cell? ⟨w.heap.size, 9, none⟩ = some (.slice A its.length c) ∧ W1.cell? ⟨w.heap.size, 10, none⟩ = some (.slice B 0 d) := ⟨(hx1.cell 0).trans rfl, (hx1.cell 1).trans rfl, (hx1.cell 2).trans rfl, (hx1.cell 3).trans rfl, (hx1.cell 4).trans rfl, (hx1.cell 5).trans rfl, (hx1.cell 6).trans rfl, (hx1.cell 7).trans rfl, (hx1.cell 8).trans rfl, (hx1.cell 9).trans rfl, (hx1.cell 10).trans rfl⟩
  have HX1 := Aside0.mk hx1
  have HB1 := Aside0.mk (HB.out.trans (h1.mono HB.out.size))
  clear hx1 h1 HX HB HCh
  go_wp2_with (fail)
  go_loopg [5, 18] 0 (fun kq v5 v18 wr => v5 = .slice none 0 0 ∧ v18 = .int .i64 0 ∧ kq = 0 ∧ wr = W1)
  case atStart => exact ⟨rfl, rfl, rfl, rfl⟩
  case round =>
    obtain ⟨rfl, rfl, rfl, rfl⟩ := hrel
    go_wp2_with (fail)
    go_loopg [9, 42] 0 (fun kq v9 v42 wr2 => v9 = .int .i64 0 ∧ v42 = .int .i64 0 ∧ kq = 0 ∧ wr2 = wr)
    case atStart => exact ⟨rfl, rfl, rfl, rfl⟩
    case round =>
      obtain ⟨rfl, rfl, rfl, rfl⟩ := hrel
      go_wp2_with (go_at_call 78; (with_reducible refine (itoa_nought _).mono ?_); rintro e w2 ⟨rfl, rfl⟩)
      go_ret
      exact ⟨by kernel_rfl, HB1.out⟩
end Go.Proofs.YtoplgeajolonoaaGreatDoor.TK
end
section
/- book.Make of a Code without a number. -/
set_option linter.unusedVariables false
set_option linter.unusedSimpArgs false
namespace Go.Proofs.YtoplgeajolonoaaGreatDoor.TK
open Go.RowKit Go.Shelf Go.Proofs.YtoplgeajolonoaaGreatDoorW.PrintWords Go.Proofs.YtoplgeajolonoaaGreatDoorW.PrintMore Go.Proofs.YtoplgeajolonoaaGreatDoor.TF Go.Proofs.YtoplgeajolonoaaGreatDoor.TW

def code0 : Value := .iface 272 (.int .i16 0)
def recNought (A : Option Addr) (c : Nat) (B : Option Addr) (d : Nat) : RowD := ⟨code0, 1, false, ⟨#[]⟩, 0, 0, 0, 0, false, 0, A, c, B, d, [], [], 1, 1, 6, 0⟩
theorem chk_nought : chk 1 false ⟨#[]⟩ 0 0 0 0 false 0 [] 0 = 0 := by kernel_rfl
theorem make_nought (b : Nat) (A B : Option Addr) (c d base : Nat) (w : World) (h : Bk b (.slice none 0 0) [] w) (hI : w.ownsRow base 9 1 (.slice A 0 c) 0 []) (hP : w.ownsRow base 3 1 (.slice B 0 d) 0 []) :
    Calls Tryz.prog 13 #[.pointer (some ⟨b, 0, none⟩), spec 1 false ⟨#[]⟩ 0 0 0 0 false 0 (.slice A 0 c) (.slice B 0 d)] w fun e w' => ∃ v' A' c' B' d', e = .returned (.tuple #[.int .i64 1, .int .i64 0]) ∧ Bk b v' [recNought A' c' B' d'] w' ∧ Fr (fun q => q = b) w w' ∧
      (∀ q, v'.ownBlock = some q → w.heap.size ≤ q) := by
  refine (make_ok b (.slice none 0 0) [] 1 false ⟨#[]⟩ 0 0 0 0 false 0 A B c d base [] [] 6 (fun err _ _ => err = code0) (fun _ _ _ _ h _ => h) w h ⟨by decide, by simp, by simp, by simp, by simp, by simp⟩ hI hP chk_nought (by decide) (by decide) (by simp)
    (fun W A' B' E c' d' ec bs hI' hP' hE' => (kmake_code ⟨#[]⟩ 0 0 0 0 false 0 A' B' E c' d' ec bs [] W hI' (by decide) chk_nought).mono ?_)
    (fun W A' B' E c' d' ec bs hI' hP' hE' => klong_nought ⟨#[]⟩ 0 0 0 false 0 A' B' E c' d' ec bs [] W hI' (by decide) chk_nought) (by decide) (by decide) (by decide) (by decide) (by decide)).mono ?_
  · rintro e w' ⟨rfl, hb⟩
    exact ⟨code0, rfl, rfl, rfl, hb⟩
  · rintro e w' ⟨v', err, A', c', B', d', rfl, ⟨W, hW, rfl⟩, hbk, hone, hfr, hv⟩
    refine ⟨v', A', c', B', d', rfl, hbk, hfr.mono (fun q hq => by rcases hq with h1 | h1; exact h1; cases h1), fun q hq => ?_⟩
    rcases hv with h1 | ⟨q', h1, h2⟩
    · rw [h1] at hq; cases hq
    · rw [h1] at hq; cases hq; exact h2
end Go.Proofs.YtoplgeajolonoaaGreatDoor.TK
end
section
/- pack.Bytes, pack.Encode, pack.Decode, pack.Unknown where nothing is, and where it is refused. -/
set_option linter.unusedVariables false
set_option linter.unusedSimpArgs false
namespace Go.Proofs.YtoplgeajolonoaaGreatDoor.PK
open Go.RowKit Go.Proofs.YtoplgeajolonoaaGreatDoorW.PrintWords Go.Proofs.YtoplgeajolonoaaGreatDoorW.PrintMore Go.Proofs.YtoplgeajolonoaaGreatDoor.TF

theorem bytes_bad (v : Value) (w : World) (hr : Calls Tryz.prog 33 #[v] w fun e w' => e = .returned (.bool false) ∧ Below w.heap.size w w') :
    Calls Tryz.prog 11 #[v] w fun e w' => e = .returned (.tuple #[.string ⟨#[]⟩, .int .i64 4]) ∧ Below w.heap.size w w' := by
  have HR := Aside0.mk hr
  clear hr
  go_enter Tryz.func11, Tryz.ntmps11
  go_wp2_with (go_at_call 33; (with_reducible refine HR.out.mono ?_))
  rintro e w1 ⟨rfl, h1⟩
  go_wp2_with (fail)
  go_ret2
  exact ⟨rfl, h1⟩
set_option maxRecDepth 100000 in
set_option maxHeartbeats 2000000 in
theorem bytes_none (w : World) : Calls Tryz.prog 11 #[.slice none 0 0] w fun e w' => e = .returned (.tuple #[.string ⟨#[69, 1, 0]⟩, .int .i64 0]) ∧ Below w.heap.size w w' := by
  have hb0 := (Below.refl w.heap.size w).alloc (Nat.le_refl _) (.cells #[.slice none 0 0] 46)
  go_enter Tryz.func11, Tryz.ntmps11
  go_wp2_with (go_at_call 33; (with_reducible refine (row_nil _).mono ?_))
  rintro e w1 ⟨rfl, hw1⟩
  have hb1 : Below w.heap.size w w1 := by rw [hw1]; exact hb0
  clear hw1 hb0
  go_wp2_with (go_at_call 27; (with_reducible refine (told_none _).mono ?_))
  rintro e w2 ⟨v, rfl, ho, h2⟩
  have HB := Aside0.mk (hb1.trans (h2.mono hb1.size))
  have ho : w2.ownsRow w1.heap.size 5 1 v 3 (nums .u8 [69, 1, 0]) := ho
  have hcv := own_string (P := Tryz.prog) (src := 92) (dst := 9) Tryz.underlying92 Tryz.underlying5 Tryz.underlying9 ho
  rw [show strOfNums [69, 1, 0] = ⟨#[69, 1, 0]⟩ by kernel_rfl] at hcv
  obtain ⟨A, c, rfl⟩ := TF.own_slice ho
  clear hb1 h2 ho
  go_wp2_with (fail)
  go_ret2
  exact ⟨rfl, HB.out⟩
set_option maxRecDepth 100000 in
set_option maxHeartbeats 2000000 in
theorem bytes_both (g p : Nat) (w : World) (hG : Blk w g 45 (two_ (.slice (some ⟨p, 0, none⟩) 1 1))) (hP : Blk w p 3 #[.int .i64 1]) (ht : (ByteArray.mk #[97]).size < 128) (ht2 : (ByteArray.mk #[98]).size < 128) (h0 : (ByteArray.mk #[]).size ≤ 4096) :
    Calls Tryz.prog 11 #[.slice (some ⟨g, 0, none⟩) 2 2] w fun e w' => ∃ s, e = .returned (.tuple #[.string s, .int .i64 0]) ∧ Below w.heap.size w w' := by
  have HR := Aside0.mk (row_both g p w hG (by omega) (by omega) h0 hP)
  have HG := Aside0.mk hG
  have HP := Aside0.mk hP
  clear hG hP
  go_enter Tryz.func11, Tryz.ntmps11
  go_wp2_with (go_at_call 33; (with_reducible refine HR.out.mono ?_))
  rintro e w1 ⟨rfl, hb1⟩
  have HT := Aside0.mk (told_both g p w1 (HG.out.next hb1) (HP.out.next hb1) ht ht2)
  have HB1 := Aside0.mk hb1
  clear hb1
  go_wp2_with (go_at_call 27; (with_reducible refine HT.out.mono ?_))
  rintro e w2 ⟨v, n, rfl, ht2⟩
  obtain ⟨xs, hxl, ho⟩ := ht2.own
  have HB := Aside0.mk (HB1.out.trans (ht2.b.mono HB1.out.size))
  have hcv := own_string (P := Tryz.prog) (src := 92) (dst := 9) Tryz.underlying92 Tryz.underlying5 Tryz.underlying9 ho
  obtain ⟨s, hs⟩ : ∃ s, strOfNums xs = s := ⟨_, rfl⟩
  rw [hs] at hcv
  obtain ⟨A, c, rfl⟩ := TF.own_slice ho
  clear ht2 ho hxl
  go_wp2_with (fail)
  go_ret2
  exact ⟨s, rfl, HB.out⟩
theorem unknown_nil (w : World) : Calls Tryz.prog 10 #[.pointer none, .string ⟨#[]⟩] w fun e w' => e = .returned (.tuple #[.slice none 0 0, .int .i64 2]) ∧ w' = w := by
  go_enter Tryz.func10, Tryz.ntmps10
  go_wp2_with (fail)
  go_ret2
  exact ⟨rfl, rfl⟩
theorem unknown_bad (g : Nat) (w : World) : Calls Tryz.prog 10 #[.pointer (some ⟨g, 0, none⟩), .string ⟨#[]⟩] w fun e w' => e = .returned (.tuple #[.slice none 0 0, .int .i64 4]) ∧ Below w.heap.size w w' := by
  go_enter Tryz.func10, Tryz.ntmps10
  go_wp2_with (go_at_call 19; (with_reducible refine (records_none _).mono ?_))
  rintro e w1 ⟨rfl, h1⟩
  go_wp2_with (fail)
  go_ret2
  exact ⟨rfl, h1⟩
theorem decode_nil1 (x s : Value) (w : World) : Calls Tryz.prog 9 #[.pointer none, x, s] w fun e w' => e = .returned (.tuple #[.int .i64 0, .int .i64 2]) ∧ w' = w := by
  go_enter Tryz.func9, Tryz.ntmps9
  go_wp2_with (fail)
  go_ret2
  exact ⟨rfl, rfl⟩
theorem decode_nil2 (b : Nat) (s : Value) (w : World) : Calls Tryz.prog 9 #[.pointer (some ⟨b, 0, none⟩), .pointer none, s] w fun e w' => e = .returned (.tuple #[.int .i64 0, .int .i64 2]) ∧ w' = w := by
  go_enter Tryz.func9, Tryz.ntmps9
  go_wp2_with (fail)
  go_ret2
  exact ⟨rfl, rfl⟩
theorem decode_bad (b g : Nat) (w : World) : Calls Tryz.prog 9 #[.pointer (some ⟨b, 0, none⟩), .pointer (some ⟨g, 0, none⟩), .string ⟨#[]⟩] w fun e w' => e = .returned (.tuple #[.int .i64 0, .int .i64 4]) ∧ Below w.heap.size w w' := by
  go_enter Tryz.func9, Tryz.ntmps9
  go_wp2_with (go_at_call 19; (with_reducible refine (records_none _).mono ?_))
  rintro e w1 ⟨rfl, h1⟩
  go_wp2_with (fail)
  go_ret2
  exact ⟨rfl, h1⟩
theorem make_none (W : World) : (Instr.makeSlice 41 (.int .i64 0) (.int .i64 0)).run Tryz.prog W = .ok (.slice (some ⟨W.heap.size, 0, none⟩) 0 0) (W.alloc (.cells #[] 3)) := by kernel_rfl
theorem all_none (b g : Value) (w : World) : Calls Tryz.prog 28 #[b, g, .slice none 0 0] w fun e w' => e = .returned (.tuple #[.int .i64 0, .int .i64 0]) ∧ Below w.heap.size w w' := by
  have hmk := make_none
  have hb := Aside0.mk ((Below.refl w.heap.size w).alloc (Nat.le_refl _) (.cells #[] 3))
  go_enter Tryz.func28, Tryz.ntmps28
  go_wp2_with (fail)
  go_loopg [9, 22] 0 (fun kq v9 v22 wr => v9 = .int .i64 0 ∧ v22 = .int .i64 0 ∧ kq = 0 ∧ wr = w.alloc (.cells #[] 3))
  case atStart => exact ⟨rfl, rfl, rfl, rfl⟩
  case round =>
    obtain ⟨rfl, rfl, rfl, rfl⟩ := hrel
    go_wp2_with (fail)
    go_ret2
    exact ⟨rfl, hb.out⟩
end Go.Proofs.YtoplgeajolonoaaGreatDoor.PK
end
