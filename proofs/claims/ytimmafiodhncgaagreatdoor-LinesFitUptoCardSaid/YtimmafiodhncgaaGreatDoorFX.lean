/- FitExt QF0 -/
import Derived.Test.YtimmafiodhncgaaGreatDoorM21
import Derived.Test.YtimmafiodhncgaaGreatDoorM3
import Derived.Test.YtimmafiodhncgaaGreatDoorProg
import Derived.Below
import Derived.Deep.Draws
import Derived.Deep.AppendLies
import Derived.Maps.AppendAt
import Derived.OwnWalk
import Derived.Laws.BytesArg
import Derived.Laws.MakeOwn
import Derived.Laws.OwnMore
import Derived.Deep.OwnRows
import Derived.Tactics
import Derived.Lib.ConvBytes
import Derived.Laws.Slices
import Derived.WalkKit
import Derived.KernelRfl
import Derived.RowKit3
import Derived.Deep.LoopGhost
import Derived.Deep.QuietTactic
import Derived.BigQuiet
import Derived.WideLaws
import Derived.Deep.DeepCutAuto
import Derived.Deep.CutBlock
import Derived.Deep.RegionHeld3
import Derived.Laws.Rows
import Derived.Lib.AppendStr
import Derived.ArgAppend
import Derived.Laws.IdiomCopy
import Derived.OrdersHeld
import Derived.Laws.BitsLemmas
import Derived.RowKit
import Derived.Test.YtimmafiodhncgaaGreatDoorM1
import Derived.Test.YtimmafiodhncgaaGreatDoorM2
section
/- lines.Fit and awake, in the printed contracts' form. -/
set_option linter.unusedVariables false
namespace Go.Proofs.YtimmafiodhncgaaGreatDoor.TX
open Go.RowKit Go.Proofs.YtimmafiodhncgaaGreatDoor.TS Go.Proofs.YtimmafiodhncgaaGreatDoor.TR Go.Proofs.YtimmafiodhncgaaGreatDoor.TF Go.Proofs.YtimmafiodhncgaaGreatDoorW.PrintWords
theorem lines_Fit.calls (A0 : Option Addr) (c0 : Nat) (l0 : List ByteArray) (a1 : Int) (r1 : List ByteArray) (r2 : Int) (w : World) (hr0 : Kd.C Kd.string w A0 l0.length l0) (hc0 : l0.length ≤ c0) (h : lines_Fit.f l0 a1 = some (r1, r2)) :
    Calls Tryz.prog 17 #[.slice A0 l0.length c0, .int .i64 a1] w fun e w' => ∃ v0_ : Value, e = .returned (.tuple #[v0_, .int .i64 r2]) ∧ Kd.R Kd.string 9 w' w.heap.size (fun _ => True) v0_ r1 ∧ Below w.heap.size w w' := by
  unfold lines_Fit.f at h
  split at h
  · rename_i hlt
    obtain ⟨rfl, rfl⟩ := Prod.mk.inj (Option.some.inj h)
    refine (fit_zero_any A0 l0.length c0 a1 hlt w).mono ?_
    rintro e w' ⟨rfl, hB⟩
    exact ⟨_, rfl, Kd.R_nil _ _ _ _ _, hB⟩
  · rename_i hlt
    split at h
    · rename_i hs
      obtain ⟨rfl, rfl⟩ := Prod.mk.inj (Option.some.inj h)
      refine (fit_any A0 c0 l0 a1 w hr0 hc0 (by omega) hs.1 hs.2).mono ?_
      rintro e w' ⟨v, rfl, hown, hB⟩
      refine ⟨v, rfl, ?_, hB⟩
      have ho := own_lower (base' := w.heap.size) hown (by omega)
      rw [show l0.length = (l0.map (fit1 a1)).length from by rw [List.length_map]] at ho
      exact Kd.R_of_own ho (fun _ _ => trivial)
    · cases h
/-- what the law stands on: the laid table, and that awake tells true -/
structure TabA (w : World) : Prop where
  tab : Go.Proofs.YtimmafiodhncgaaGreatDoor.TW.Tab w
  awake : ∀ W, Go.Proofs.YtimmafiodhncgaaGreatDoor.TW.Tab W → Calls Tryz.prog 21 #[] W fun e w' => e = .returned (.bool true) ∧ Below W.heap.size W w'
theorem TabA.stays {w W : World} (h : TabA w) (hb : Below w.heap.size w W) : TabA W := ⟨h.tab.stays hb, h.awake⟩
theorem erratalaw15_awake.calls (r : Bool) (w : World) (htab : TabA w) (h : erratalaw15_awake.f = some r) :
    Calls Tryz.prog 21 #[] w fun e w' => e = .returned (.bool r) ∧ Below w.heap.size w w' := by
  obtain rfl := Option.some.inj h
  exact htab.awake w htab.tab
end Go.Proofs.YtimmafiodhncgaaGreatDoor.TX
end
section
-- Written by wip/tools/myprint.py of this seat's repo: the kit's print, with contracts of our own for some functions.
namespace Go.Proofs.YtimmafiodhncgaaGreatDoor.QF
open Go.RowKit Go.Proofs.YtimmafiodhncgaaGreatDoor.TX Go.Proofs.YtimmafiodhncgaaGreatDoorW.PrintWords Go.Proofs.YtimmafiodhncgaaGreatDoorW.PrintLast Go.Proofs.YtimmafiodhncgaaGreatDoorW.PrintMore
attribute [local go_sem] max2_int min2_int max_two min_two max_three min_three max_four min_four   -- for this text's walks alone
set_option linter.unusedVariables false
set_option linter.unusedSimpArgs false



def errW : Option Int → Value
  | none => .nilIface
  | some c => .iface 0 (.int .i64 c)
theorem errW_none : errW none = .nilIface := rfl
theorem errW_some (c : Int) : errW (some c) = .iface 0 (.int .i64 c) := rfl

theorem info5 : (Tryz.prog.info? 5).map (fun i => (i.zero, i.size, i.bytes)) = some (some (.int .u8 0), 1, 1) := by kernel_rfl
theorem info9 : (Tryz.prog.info? 9).map (fun i => (i.zero, i.size, i.bytes)) = some (some (.string ⟨#[]⟩), 1, 16) := by kernel_rfl
theorem info73 : (Tryz.prog.info? 73).map (fun i => (i.zero, i.size, i.bytes)) = some (some (.agg #[(.int .i64 0), (.string ⟨#[]⟩), (.int .i32 0)]), 3, 32) := by kernel_rfl
-- the values' own types
/-! #### struct type 73 -/
structure S73 where
  f0 : Int
  f1 : ByteArray
  f2 : Int
def z73 : S73 := ⟨(0 : Int), (⟨#[]⟩ : ByteArray), (0 : Int)⟩
def k73 : Kd S73 := Kd.iso (Kd.pair (Kd.int .i64) (Kd.pair Kd.string (Kd.int .i32))) (fun x : S73 => (x.f0, x.f1, x.f2))
theorem k73_open {w : World} {x : S73} {cs : List Value} (h : k73.K w x cs) : cs = [.int .i64 x.f0, .string x.f1, .int .i32 x.f2] := by
  obtain ⟨_, _, rfl, rfl, ⟨_, _, rfl, rfl, rfl⟩⟩ := h
  exact rfl
theorem k73_mkM (w : World) (base : Nat) (ok : Nat → Prop) (x : S73)  : k73.M w base ok x [.int .i64 x.f0, .string x.f1, .int .i32 x.f2] := ⟨[.int .i64 x.f0], [.string x.f1, .int .i32 x.f2], rfl, rfl, ⟨[.string x.f1], [.int .i32 x.f2], rfl, rfl, rfl⟩⟩
def rd_T73 (xs : List S73) (i : Int) : S73 := xs.getD i.toNat z73
theorem at_T73 {w : World} {A : Option Addr} {n : Nat} {xs : List S73} (h : Kd.C k73 w A n xs) (i : Int) (h0 : 0 ≤ i) (h1 : i < n) : ∃ ad , A = some ad ∧ w.cell? (ad.add (i.toNat * 3)) = some (.int .i64 (rd_T73 xs i).f0) ∧ w.cell? ⟨(ad.add (i.toNat * 3)).block, (ad.add (i.toNat * 3)).off + 1, none⟩ = some (.string (rd_T73 xs i).f1) ∧ w.cell? ⟨(ad.add (i.toNat * 3)).block, (ad.add (i.toNat * 3)).off + 2, none⟩ = some (.int .i32 (rd_T73 xs i).f2) := by
  obtain ⟨ad, c, e, _, hK, hc0⟩ := Kd.C_get h z73 i h0 h1
  have hc : ∀ j u, c[j]? = some u → w.cell? (ad.add (i.toNat * 3 + j)) = some u := hc0
  obtain rfl := k73_open hK
  exact ⟨ad, e, hc 0 _ rfl, by rw [← add_field _ _ 1 (by omega)]; exact hc 1 _ rfl, by rw [← add_field _ _ 2 (by omega)]; exact hc 2 _ rfl⟩

end Go.Proofs.YtimmafiodhncgaaGreatDoor.QF
end

