/- lines.short.node of handle 0; Under's teller. -/
import Derived.Test.YtifbplmejbnofaaGreatDoorShortPut
import Derived.Test.YtifbplmejbnofaaGreatDoorRepeatFour
import Derived.RegionTactic
import Derived.Deep.RegionWith
set_option linter.unusedVariables false
set_option linter.unusedSimpArgs false
namespace Go.Proofs.YtifbplmejbnofaaGreatDoor.TS2
open Go.RowKit Go.Shelf Go.Proofs.YtifbplmejbnofaaGreatDoorW.PrintWords Go.Proofs.YtifbplmejbnofaaGreatDoorW.PrintMore Go.Proofs.YtifbplmejbnofaaGreatDoor.TB

theorem ownF_below {w W : World} {B n : Nat} {v : Value} {xs : List Value} (h : w.ownsRowF B 5 1 v n xs) (hb : Below w.heap.size w W) : W.ownsRowF B 5 1 v n xs := by
  obtain ⟨h1, h2⟩ := h
  refine ⟨h1, ?_⟩
  rcases h2 with h2 | ⟨g, cap, cur, fz, e1, e2, e3, e4⟩
  · exact .inl h2
  · exact .inr ⟨g, cap, cur, fz, e1, e2, (hb.block g (size_of_heap e3)).trans e3, e4⟩
theorem own_none (p : Value) (w : World) : Calls Tryz.prog 29 #[p, .int .i64 0] w fun e w' => e = .returned (.tuple #[.string ⟨#[110, 111, 110, 101]⟩, .slice none 0 0]) ∧ w' = w := by
  go_enter Tryz.func29, Tryz.ntmps29
  go_wp2
  go_ret2
  exact ⟨rfl, rfl⟩
/-- an empty text in a block of its own -/
def Txt (b : Nat) (x : ByteArray) (W : World) : Prop := W.heap[b]? = some (.cells #[.string x] 9 (0, 0))
theorem Txt.cell {b : Nat} {x : ByteArray} {W : World} (h : Txt b x W) : W.cell? ⟨b, 0, none⟩ = some (.string x) := by rw [Lib.cell_of_heap h]; rfl
theorem Txt.others {b q : Nat} {x : ByteArray} {W W' : World} (h : Txt b x W) (hk : Lib.OthersKept 5 (some q) W W') (hne : b ≠ q) : Txt b x W' :=
  hk b _ h (fun e => hne (Option.some.inj e)) (fun c fz e => by cases e)
set_option maxRecDepth 100000 in
theorem under1 (pb mb : Nat) (w : World) (hp : Txt pb ⟨#[]⟩ w) (hm : Txt mb ⟨#[]⟩ w) :
    Calls Tryz.prog 38 #[.string ⟨#[]⟩, .int .i64 0, .int .i64 4, .pointer (some ⟨pb, 0, none⟩), .pointer (some ⟨mb, 0, none⟩)] w fun e w' => e = .returned (.tuple #[]) ∧
      ∃ V, Below w.heap.size w V ∧ w' = V.setCell ⟨mb, 0, none⟩ (.string ⟨#[94, 94, 94, 94]⟩) := by
  have c0 := hp.cell
  go_enter Tryz.func38, Tryz.ntmps38
  go_wp2_with (go_at_call 36; (with_reducible refine (repeat_zero _ _).mono ?_); rintro e w' ⟨rfl, rfl⟩)
  go_wp2_with (go_at_call 36; (with_reducible refine (repeat_four _).mono ?_))
  rintro e w1 ⟨rfl, b1⟩
  have hm1 : Txt mb ⟨#[]⟩ w1 := (b1.block mb (size_of_heap hm)).trans hm
  have c1 := hm1.cell
  have f1 : w1.frozen? ⟨mb, 0, none⟩ = false := Lib.frozen_of_heap hm1 0
  clear hp hm hm1 c0
  go_wp2
  go_end0
  exact ⟨rfl, w1, b1, rfl⟩
set_option maxHeartbeats 2000000 in
set_option maxRecDepth 100000 in
theorem node_none (B q pb mb : Nat) (bp : Value) (w : World) (h : Sh B q bp (.func (.func 38) #[] #[.pointer (some ⟨pb, 0, none⟩), .pointer (some ⟨mb, 0, none⟩)]) 0 [] w) (hBw : B ≤ w.heap.size)
    (hp : Txt pb ⟨#[]⟩ w) (hm : Txt mb ⟨#[]⟩ w) (hBm : B ≤ mb) (hpq : pb ≠ q) (hmq : mb ≠ q) (hpm : pb ≠ mb) :
    Calls Tryz.prog 31 #[.pointer (some ⟨q, 0, none⟩), .int .i64 0, .string ⟨#[]⟩] w fun e w' => e = .returned (.tuple #[]) ∧
      (Sh B q bp (.func (.func 38) #[] #[.pointer (some ⟨pb, 0, none⟩), .pointer (some ⟨mb, 0, none⟩)]) 4 (Lib.byteCells [110, 111, 110, 101]) w' ∧ Txt mb ⟨#[94, 94, 94, 94]⟩ w' ∧ Below B w w') := by
  have h' := h
  obtain ⟨p, v, hpp, hB, hbk, hown, hne⟩ := h
  have c0 : w.cell? ⟨q, 0, none⟩ = some bp := by rw [Lib.cell_of_heap hbk]; rfl
  have c3 : w.cell? ⟨q, 3, none⟩ = some (.int .i64 0) := by rw [Lib.cell_of_heap hbk]; rfl
  clear hpp hbk hown hne
  go_enter Tryz.func31, Tryz.ntmps31
  go_wp2_with (go_at_call 29; (with_reducible refine (own_none _ _).mono ?_); rintro e w' ⟨rfl, rfl⟩)
  go_wp2_with (go_at_call 61; refine (put_none B q bp _ _ h' hBw).mono ?_)
  rintro e w1 ⟨rfl, h1, b1, k1⟩
  have hp1 := hp.others k1 hpq
  have hm1 := hm.others k1 hmq
  clear c0 c3 h' hp hm
  obtain ⟨v1, _, hbk1, hown1, hne1⟩ := h1
  have c3 : w1.cell? ⟨q, 3, none⟩ = some (.int .i64 4) := by rw [Lib.cell_of_heap hbk1]; rfl
  have c4 : w1.cell? ⟨q, 4, none⟩ = some (.func (.func 38) #[] #[.pointer (some ⟨pb, 0, none⟩), .pointer (some ⟨mb, 0, none⟩)]) := by rw [Lib.cell_of_heap hbk1]; rfl
  have HK := Aside0.mk hbk1
  have HO := Aside0.mk hown1
  have HB := Aside0.mk b1
  have hBw1 : B ≤ w1.heap.size := Nat.le_trans hBw b1.size
  clear hbk1 hown1 b1 k1
  go_wp2
  refine wp_loop_rounds 1 ?_
  unfold Code.rounds
  go_wp2
  have hc := under1 pb mb w1.drew hp1 hm1
  go_region_with (refine hc.mono ?_; rintro e w2 ⟨rfl, V, bV, rfl⟩)
  all_goals
    go_wp2
    go_end0
    have bU : Below w1.heap.size w1 V := ⟨bV.os, bV.tape, bV.output, bV.size, bV.block⟩
    refine ⟨rfl, ⟨_, v1, .inr rfl, hB, ?_, ?_, hne1⟩, ?_, ?_⟩
    · exact (Below.heap_setCell V ⟨mb, 0, none⟩ _ q (fun e => hmq e.symm)).trans ((bU.block q (size_of_heap HK.out)).trans HK.out)
    · exact ownF_set (ownF_below HO.out bU) (fun e => by
        obtain ⟨c, fz, hc⟩ := Lib.ownsRowF_kind HO.out mb e
        rw [show w1.heap[mb]? = _ from hm1] at hc; cases hc) 0 _
    · have := set_row (show V.heap[mb]? = some (.cells #[.string ⟨#[]⟩] 9 (0, 0)) from (bU.block mb (size_of_heap hm1)).trans hm1) 0 (.string ⟨#[94, 94, 94, 94]⟩)
      exact this
    · exact (HB.out.trans (bU.mono (Nat.le_trans hBw1 (Nat.le_refl _)))).setCell (p := ⟨mb, 0, none⟩) hBm _
end Go.Proofs.YtifbplmejbnofaaGreatDoor.TS2
