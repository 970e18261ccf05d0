/- errataref05.Same of two specs alike. -/
import Derived.Test.YtijdlpbkmlplgaaDoorTwin
import Derived.Test.YtijdlpbkmlplgaaDoorAlike
import Derived.Deep.LoopGhost
import Derived.BigQuiet
set_option linter.unusedVariables false
set_option linter.unusedSimpArgs false
namespace Go.Proofs.YtijdlpbkmlplgaaDoor.TW
open Go.RowKit Go.Shelf Go.Proofs.YtijdlpbkmlplgaaDoorW.PrintWords Go.Proofs.YtijdlpbkmlplgaaDoorW.PrintMore

set_option maxHeartbeats 8000000 in
set_option maxRecDepth 100000 in
theorem same_calls (k : Int) (nl : Bool) (t : ByteArray) (n sm : Int) (re im : Nat) (fl : Bool) (mk : Int) (A B A' B' : Option Addr) (l c c' l2 c2 c2' : Nat) (its : List ByteArray) (ps : List Int) (w : World) (hl : its.length = l) (hC : Kd.string.C w A l its) (hC' : Kd.string.C w A' l its)
    (hl2 : ps.length = l2) (hP : (Kd.int .i64).C w B l2 ps) (hP' : (Kd.int .i64).C w B' l2 ps) (hb1 : l ≤ 140737488355328) (hb2 : l2 ≤ 140737488355328) :
    Calls Tryd.prog 7 #[spec k nl t n sm re im fl mk (.slice A l c) (.slice B l2 c2), spec k nl t n sm re im fl mk (.slice A' l c') (.slice B' l2 c2')] w fun e w' => e = .returned (.bool true) ∧ Below w.heap.size w w' := by
  unfold spec
  have hn := SpecAt.new w k nl t n sm re im fl mk (.slice A l c) (.slice B l2 c2)
  obtain ⟨W1, hW1⟩ : ∃ W1, w.alloc (.cells #[.int .u8 k, .bool nl, .string t, .int .i16 n, .int .i8 sm, .float .f64 re, .float .f64 im, .bool fl, .int .u32 mk, .slice A l c, .slice B l2 c2] 29) = W1 := ⟨_, rfl⟩
  have hs1 : W1.heap.size = w.heap.size + 1 := by rw [← hW1, World.size_alloc]
  have b1 : Below w.heap.size w W1 := by rw [← hW1]; exact (Below.refl _ w).alloc (Nat.le_refl _) _
  rw [hW1] at hn
  have hr := SpecAt.new W1 k nl t n sm re im fl mk (.slice A' l c') (.slice B' l2 c2')
  obtain ⟨W2, hW2⟩ : ∃ W2, W1.alloc (.cells #[.int .u8 k, .bool nl, .string t, .int .i16 n, .int .i8 sm, .float .f64 re, .float .f64 im, .bool fl, .int .u32 mk, .slice A' l c', .slice B' l2 c2'] 29) = W2 := ⟨_, rfl⟩
  have hs2 : W2.heap.size = w.heap.size + 1 + 1 := by rw [← hW2, World.size_alloc, hs1]
  have b12 : Below W1.heap.size W1 W2 := by rw [← hW2]; exact (Below.refl _ W1).alloc (Nat.le_refl _) _
  have hn2 := hn.next b12
  rw [hW2, hs1] at hr
  have hB2 : Below w.heap.size w W2 := b1.trans (b12.mono b1.size)
  have hC2 := Kd.C_below hC hB2
  have hC2' := Kd.C_below hC' hB2
  have hP2 := Kd.C_below hP hB2
  have hP2' := Kd.C_below hP' hB2
  obtain ⟨c0, c1, c2q, c3, c4, c5, c6, c7, c8, c9, c10⟩ := hn2.cells
  obtain ⟨d0, d1, d2, d3, d4, d5, d6, d7, d8, d9, d10⟩ := hr.cells
  have HN := Aside0.mk hn2
  have HR := Aside0.mk hr
  have HB := Aside0.mk hB2
  have HC := Aside0.mk hC2
  have HC' := Aside0.mk hC2'
  have HP := Aside0.mk hP2
  have HP' := Aside0.mk hP2'
  clear hn hn2 hr hB2 hC2 hC2' hP2 hP2' hC hC' hP hP' b1 b12
  go_enter Tryd.func7, Tryd.ntmps7
  go_upto_region 1 with (fail)
  clear hW1 hW2 hs1
  go_wp2_with (fail)
  go_loopg [5] l (fun kq v5 wr => ∃ i : Nat, v5 = .int .i64 i ∧ i + kq = l ∧ Aside0 (Below W2.heap.size W2 wr))
  case atStart => exact ⟨0, rfl, by omega, Aside0.mk (Below.refl _ _)⟩
  case round =>
    clear c0 c1 c2q c3 c4 c5 c6 c7 c8 c9 c10 d0 d1 d2 d3 d4 d5 d6 d7 d8 d9 d10
    obtain ⟨i, rfl, hik, HW⟩ := hrel
    have hnw := HN.out.next HW.out
    have hrw := HR.out.next HW.out
    have c9 := hnw.cells.2.2.2.2.2.2.2.2.2.1
    have d9 := hrw.cells.2.2.2.2.2.2.2.2.2.1
    by_cases hi : i < l
    · have hi2 : (i : Int) < (l : Int) := by omega
      obtain ⟨ad, rfl, hx⟩ := Kd.at_string (Kd.C_below HC.out HW.out) (i : Int) (by omega) hi2
      obtain ⟨ad', rfl, hx'⟩ := Kd.at_string (Kd.C_below HC'.out HW.out) (i : Int) (by omega) hi2
      rw [show ((i : Int)).toNat = i from rfl, rd_get its i (by omega)] at hx hx'
      clear hnw hrw
      have hwi : wrap64 ((i : Int) + 1) = ((i + 1 : Nat) : Int) := by unfold wrap64; omega
      have hii : (0 ≤ (i : Int)) ∧ ((i : Int) < (l : Int)) := by omega
      go_wp2_with (fail)
      go_quiet (fail)
      go_wp2_with (fail)
      go_roundg (gk - 1)
      case measure => omega
      case rel => exact ⟨i + 1, by simp, by omega, Aside0.mk (pw_below_drewN HW.out _)⟩
    · obtain rfl : i = l := by omega
      have d10 := hrw.cells.2.2.2.2.2.2.2.2.2.2
      have c10 := hnw.cells.2.2.2.2.2.2.2.2.2.2
      clear hnw hrw
      obtain ⟨wo, rfl⟩ : ∃ wo : World, wo = wr := ⟨_, rfl⟩
      go_wp2_with (fail)
      go_loopg [6] l2 (fun kq v6 wr => ∃ j : Nat, v6 = .int .i64 j ∧ j + kq = l2 ∧ Aside0 (Below W2.heap.size W2 wr))
      case atStart => exact ⟨0, rfl, by omega, HW⟩
      case round =>
        clear c9 d9 c10 d10 HW
        obtain ⟨j, rfl, hjk, HW⟩ := hrel
        have hnw := HN.out.next HW.out
        have hrw := HR.out.next HW.out
        have c10 := hnw.cells.2.2.2.2.2.2.2.2.2.2
        have d10 := hrw.cells.2.2.2.2.2.2.2.2.2.2
        by_cases hj : j < l2
        · have hj2 : (j : Int) < (l2 : Int) := by omega
          obtain ⟨ad, rfl, hx⟩ := Kd.at_int (Kd.C_below HP.out HW.out) (j : Int) (by omega) hj2
          obtain ⟨ad', rfl, hx'⟩ := Kd.at_int (Kd.C_below HP'.out HW.out) (j : Int) (by omega) hj2
          rw [show ((j : Int)).toNat = j from rfl] at hx hx'
          clear hnw hrw
          have hwi : wrap64 ((j : Int) + 1) = ((j + 1 : Nat) : Int) := by unfold wrap64; omega
          have hii : (0 ≤ (j : Int)) ∧ ((j : Int) < (l2 : Int)) := by omega
          go_wp2_with (fail)
          go_quiet (fail)
          go_wp2_with (fail)
          go_roundg (gk - 1)
          case measure => omega
          case rel => exact ⟨j + 1, by simp, by omega, Aside0.mk (pw_below_drewN HW.out _)⟩
        · obtain rfl : j = l2 := by omega
          obtain ⟨_, _, _, _, _, c5, c6, _, _, _, _⟩ := hnw.cells
          obtain ⟨_, _, _, _, _, d5, d6, _, _, _, _⟩ := hrw.cells
          clear hnw hrw
          have hal := fun W x => TS.alike_self x W
          go_wp2_with (go_at_call 19; (with_reducible refine (hal _ _).mono ?_); rintro e w' ⟨rfl, rfl⟩)
          go_ret
          exact ⟨rfl, HB.out.trans (HW.out.mono (by omega))⟩
end Go.Proofs.YtijdlpbkmlplgaaDoor.TW
