/- redact.Seal, and the document's Seal: alike. -/
import Derived.Test.YtijdlpbkmlplgaaDoorSealPlain
import Derived.Test.YtijdlpbkmlplgaaDoorShelf
import Derived.Test.YtijdlpbkmlplgaaDoorQA2
import Derived.Test.YtijdlpbkmlplgaaDoorBits
import Derived.Test.YtijdlpbkmlplgaaDoorWMore
import Derived.WalkKit
import Derived.Handy
set_option linter.unusedVariables false
set_option linter.unusedSimpArgs false
namespace Go.Proofs.YtijdlpbkmlplgaaDoor.TS
open Go.RowKit Go.Shelf Go.Lib Go.Proofs.YtijdlpbkmlplgaaDoorW.PrintWords Go.Proofs.YtijdlpbkmlplgaaDoorW.PrintMore

def sealB (s : ByteArray) : ByteArray := (⟨#[14]⟩ ++ ⟨(s.data.toList.filter (· != 15)).toArray⟩) ++ ⟨#[15]⟩
theorem seal_calls (s : ByteArray) (m : Int) (w : World) (hs : s.size < 4294967281) (hm : w.cell? ⟨1, 0, none⟩ = some (.int .i64 m)) :
    Calls Tryd.prog 8 #[.string s] w fun e w' => e = .returned (.string (sealB s)) ∧ Below w.heap.size w w' := by
  have hrep : ∀ W : World, W.cell? ⟨1, 0, none⟩ = some (.int .i64 m) → Calls Tryd.prog 20 #[.string s, .string ⟨#[15]⟩, .string ⟨#[]⟩] W fun e w' => e = .returned (.string ⟨(s.data.toList.filter (· != 15)).toArray⟩) ∧ Below W.heap.size W w' := fun W hW => by
    have := Tryd.strings_ReplaceAll s ⟨#[15]⟩ ⟨#[]⟩ m W hs hW (by decide) (by show s.size + countB s ⟨#[15]⟩ * 0 ≤ _; omega)
    rw [show (⟨#[15]⟩ : ByteArray).data.toList = [15] from rfl, show (⟨#[]⟩ : ByteArray).data.toList = [] from rfl, replaceAll_one] at this
    exact this
  obtain ⟨X, hX⟩ : ∃ X : ByteArray, (⟨(s.data.toList.filter (· != 15)).toArray⟩ : ByteArray) = X := ⟨_, rfl⟩
  rw [hX] at hrep
  have hxs : X.size ≤ s.size := by
    rw [← hX]
    show ((s.data.toList.filter (· != 15)).toArray).size ≤ s.size
    rw [List.size_toArray]
    refine Nat.le_trans (List.length_filter_le _ _) ?_
    rw [Array.length_toList]
    exact Nat.le_refl _
  have g1 : ¬ 9223372036854775807 < 1 + X.size := by omega
  have g2 : ¬ 9223372036854775807 < 1 + X.size + 1 := by omega
  have HX := Aside0.mk hX
  clear hX
  have HR := Aside0.mk hrep
  clear hrep
  go_enter Tryd.func8, Tryd.ntmps8
  go_wp2_with (go_at_call 20; (with_reducible refine (HR.out _ hm).mono ?_))
  rintro e w1 ⟨rfl, h1⟩
  have HB := Aside0.mk h1
  clear h1 hm HR
  go_wp2
  go_ret
  exact ⟨by unfold sealB; rw [HX.out]; rfl, HB.out⟩
end Go.Proofs.YtijdlpbkmlplgaaDoor.TS
