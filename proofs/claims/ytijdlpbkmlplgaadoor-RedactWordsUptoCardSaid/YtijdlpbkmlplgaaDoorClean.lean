/- redact.Clean, redact.Secrets: the walks. -/
import Derived.Test.YtijdlpbkmlplgaaDoorPart2
set_option linter.unusedVariables false
set_option linter.unusedSimpArgs false
namespace Go.Proofs.YtijdlpbkmlplgaaDoor.TB
open Go.RowKit Go.Shelf Go.Proofs.YtijdlpbkmlplgaaDoorW.PrintWords Go.Proofs.YtijdlpbkmlplgaaDoorW.PrintMore

theorem clean_calls (s : ByteArray) (hs : s.size ≤ 1073741824) (w : World) :
    Calls Tryd.prog 10 #[.string s] w fun e w' => e = .returned (.string (ofL (cleanL false s.data.toList))) ∧ Below w.heap.size w w' := by
  go_enter Tryd.func10, Tryd.ntmps10
  go_wp2_with (go_at_call 21; (with_reducible refine (part_walk s hs _).mono ?_); rintro e w1 ⟨v, rfl, h1, h2⟩)
  clear h1
  go_wp2
  go_ret
  exact ⟨rfl, h2⟩
theorem secrets_calls (s : ByteArray) (hs : s.size ≤ 1073741824) (w : World) :
    Calls Tryd.prog 13 #[.string s] w fun e w' => ∃ v, e = .returned v ∧
      w'.ownsRow w.heap.size 9 1 v (secsB none s.data.toList).length ((secsB none s.data.toList).map Value.string) ∧ Below w.heap.size w w' := by
  go_enter Tryd.func13, Tryd.ntmps13
  go_wp2_with (go_at_call 21; (with_reducible refine (part_walk s hs _).mono ?_); rintro e w1 ⟨v, rfl, h1, h2⟩)
  have H1 := Aside0.mk h1
  clear h1
  go_wp2
  go_ret
  exact ⟨_, rfl, H1.out, h2⟩
end Go.Proofs.YtijdlpbkmlplgaaDoor.TB
