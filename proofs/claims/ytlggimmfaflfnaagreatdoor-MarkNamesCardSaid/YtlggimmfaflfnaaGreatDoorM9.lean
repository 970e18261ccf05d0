/- What a kind alone asks: kinds.own. -/
import Derived.Test.YtlggimmfaflfnaaGreatDoorM4
set_option linter.unusedVariables false
set_option linter.unusedSimpArgs false
namespace Go.Proofs.YtlggimmfaflfnaaGreatDoor.TW
open Go.RowKit Go.Shelf Go.Proofs.YtlggimmfaflfnaaGreatDoorW.PrintWords Go.Proofs.YtlggimmfaflfnaaGreatDoorW.PrintMore

/-- has a spec what its kind alone asks? -/
def ownB (k : Int) (nl : Bool) (tl : Nat) (n : Int) (its : List ByteArray) : Bool :=
  if k = 5 then decide (tl = 4) else if k = 23 then decide (1 ≤ n ∧ n ≤ 3) else if k = 26 then (nl || (decide (its.length = 1) && !(its.headD ByteArray.empty).toList.isEmpty)) else decide (1 ≤ k ∧ k ≤ 26)
set_option maxHeartbeats 4000000 in
theorem own_calls (k : Int) (nl : Bool) (t : ByteArray) (n sm : Int) (re im : Nat) (fl : Bool) (mk : Int) (A B : Option Addr) (l c l2 c2 : Nat) (its : List ByteArray) (w : World) (hl : its.length = l) (hC : Kd.string.C w A l its) :
    Calls Tryz.prog 140 #[spec k nl t n sm re im fl mk (.slice A l c) (.slice B l2 c2)] w fun e w' => e = .returned (.bool (ownB k nl t.size n its)) ∧ Below w.heap.size w w' := by
  unfold spec
  by_cases h5 : k = 5
  · subst h5
    go_enter Tryz.func140, Tryz.ntmps140
    go_wp2
    go_ret
    refine ⟨?_, by go_grown⟩
    show Ending.returned (.bool _) = Ending.returned (.bool _)
    refine congrArg (fun b => Ending.returned (Value.bool b)) ?_
    rw [Bool.eq_iff_iff]
    simp [ownB]
    omega
  · by_cases h23 : k = 23
    · subst h23
      go_enter Tryz.func140, Tryz.ntmps140
      go_wp2
      all_goals
        go_ret
        refine ⟨?_, by go_grown⟩
        show Ending.returned (.bool _) = Ending.returned (.bool _)
        refine congrArg (fun b => Ending.returned (Value.bool b)) ?_
        rw [Bool.eq_iff_iff]
        simp [ownB]
        omega
    · by_cases h26 : k = 26
      · subst h26
        cases nl with
        | true =>
          go_enter Tryz.func140, Tryz.ntmps140
          go_wp2
          go_ret
          exact ⟨by simp [ownB], by go_grown⟩
        | false =>
          by_cases hl1 : l = 1
          · subst hl1
            obtain ⟨x, rfl⟩ : ∃ x, its = [x] := by
              match its, hl with
              | [x], _ => exact ⟨x, rfl⟩
            obtain ⟨ad, rfl, hx⟩ := Kd.at_string hC 0 (by omega) (by omega)
            rw [show (0 : Int).toNat = 0 from rfl, show rdOf ByteArray.empty [x] 0 = x from rfl] at hx
            have hx2 : w.cell? ad = some (.string x) := by
              have : ad.add 0 = ad := by unfold Addr.add; split <;> simp_all
              rw [this] at hx
              exact hx
            have hb := World.block_lt_of_cell? w _ hx2
            clear hx hC
            have hx3 : (w.alloc (.cells #[.int .u8 26, .bool false, .string t, .int .i16 n, .int .i8 sm, .float .f64 re, .float .f64 im, .bool fl, .int .u32 mk, .slice (some ad) 1 c, .slice B l2 c2] 37)).cell? ad = some (.string x) :=
              (World.cell?_of_block (Lib.alloc_old w _ _ hb)).trans hx2
            go_enter Tryz.func140, Tryz.ntmps140
            go_wp2
            all_goals
              go_ret
              exact ⟨by simp [ownB], by go_grown⟩
          · have hl2 : ((l : Int) == 1) = false := by simp; omega
            go_enter Tryz.func140, Tryz.ntmps140
            go_wp2
            go_ret
            exact ⟨by simp [ownB, hl, hl1], by go_grown⟩
      · have g5 : (k == 5) = false := by simp [h5]
        have g23 : (k == 23) = false := by simp [h23]
        have g26 : (k == 26) = false := by simp [h26]
        go_enter Tryz.func140, Tryz.ntmps140
        go_wp2
        all_goals
          go_ret
          refine ⟨?_, by go_grown⟩
          show Ending.returned (.bool _) = Ending.returned (.bool _)
          refine congrArg (fun b => Ending.returned (Value.bool b)) ?_
          rw [Bool.eq_iff_iff]
          simp [ownB, h5, h23, h26]
          omega
end Go.Proofs.YtlggimmfaflfnaaGreatDoor.TW
