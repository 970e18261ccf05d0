/- kinds.bare: the fields that do not count. -/
import Derived.Test.YtlggimmfaflfnaaGreatDoorProg
import Derived.Test.YtlggimmfaflfnaaGreatDoorM1
import Derived.Test.YtlggimmfaflfnaaGreatDoorM3
import Derived.WalkKit
import Derived.Handy
import Derived.RangeFuncRecord
import Derived.Laws.Rows
import Derived.Lib.IndexLaws
set_option linter.unusedVariables false
set_option linter.unusedSimpArgs false
namespace Go.Proofs.YtlggimmfaflfnaaGreatDoor.TW
open Go.RowKit Go.Shelf Go.Proofs.YtlggimmfaflfnaaGreatDoorW.PrintWords Go.Proofs.YtlggimmfaflfnaaGreatDoorW.PrintMore

/-- does a letter stand in a row? -/
def hasL (l : List UInt8) (c : UInt8) : Bool := decide (0 ≤ Lib.indexByte l c)
/-- A spec, as the program holds it. -/
def spec (k : Int) (nl : Bool) (t : ByteArray) (n sm : Int) (re im : Nat) (fl : Bool) (mk : Int) (it pa : Value) : Value :=
  .agg #[.int .u8 k, .bool nl, .string t, .int .i16 n, .int .i8 sm, .float .f64 re, .float .f64 im, .bool fl, .int .u32 mk, it, pa]
/-- are the fields zero that do not count? -/
def okB (cnt : List UInt8) (nl : Bool) (t : ByteArray) (n sm : Int) (re im : Nat) (fl : Bool) (mk : Int) (l : Nat) : Bool :=
  (t.toList.isEmpty || hasL cnt 84) && (n == 0 || hasL cnt 78) && (sm == 0 || hasL cnt 83) && ((re : Int) == 0 || hasL cnt 82) && ((im : Int) == 0 || hasL cnt 77) && (!fl || hasL cnt 70) && (mk == 0 || hasL cnt 75) && ((l : Int) == 0 || hasL cnt 73) && (!nl || hasL cnt 48)
theorem has_calls (b : Nat) (cnt : ByteArray) (c : UInt8) (z : Bool) (w : World) (h : w.cell? ⟨b, 0, none⟩ = some (.string cnt)) :
    Calls Tryz.prog 177 #[.string ⟨#[c]⟩, .bool z, .pointer (some ⟨b, 0, none⟩)] w fun e w' => e = .returned (.bool (z || hasL cnt.data.toList c)) ∧ w' = w := by
  go_enter Tryz.func177, Tryz.ntmps177
  cases z
  · go_wp2_with (go_at_call 178; (with_reducible refine (Tryz.strings_Contains_one cnt c _).mono ?_); rintro e w' ⟨rfl, rfl⟩)
    go_wp2
    go_ret
    exact ⟨rfl, rfl⟩
  · go_wp2
    go_ret
    exact ⟨rfl, rfl⟩
set_option maxHeartbeats 4000000 in
theorem bare_calls (k : Int) (nl : Bool) (t : ByteArray) (n sm : Int) (re im : Nat) (fl : Bool) (mk : Int) (A B : Option Addr) (l c l2 c2 : Nat) (cnt : ByteArray) (w : World) :
    Calls Tryz.prog 142 #[spec k nl t n sm re im fl mk (.slice A l c) (.slice B l2 c2), .string cnt] w fun e w' => e = .returned (.bool (okB cnt.data.toList nl t n sm re im fl mk l)) ∧ Below w.heap.size w w' := by
  have hbits := bits_run
  unfold spec
  go_enter Tryz.func142, Tryz.ntmps142
  have hcell : ((w.alloc (.cells #[.int .u8 k, .bool nl, .string t, .int .i16 n, .int .i8 sm, .float .f64 re, .float .f64 im, .bool fl, .int .u32 mk, .slice A l c, .slice B l2 c2] 37)).alloc (.cells #[.string cnt] 9)).cell? ⟨w.heap.size + 1, 0, none⟩ = some (.string cnt) := by
    have := World.alloc_heap_new (w.alloc (.cells #[.int .u8 k, .bool nl, .string t, .int .i16 n, .int .i8 sm, .float .f64 re, .float .f64 im, .bool fl, .int .u32 mk, .slice A l c, .slice B l2 c2] 37)) (.cells #[.string cnt] 9)
    rw [World.size_alloc] at this
    rw [Lib.cell_of_heap this]
    rfl
  go_wp2_with (go_at_call 177; (with_reducible refine (has_calls _ cnt _ _ _ hcell).mono ?_); rintro e w' ⟨rfl, rfl⟩)
  all_goals go_ret
  all_goals refine ⟨?_, by go_grown⟩
  all_goals
    show Ending.returned (.bool _) = Ending.returned (.bool _)
    refine congrArg (fun b => Ending.returned (Value.bool b)) ?_
    simp [okB, *]
end Go.Proofs.YtlggimmfaflfnaaGreatDoor.TW
