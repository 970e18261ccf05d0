/- redact.Clean, redact.Secrets: the walks. -/
import Derived.Test.YtifbplmejbnofaaGreatDoorPart2
set_option linter.unusedVariables false
set_option linter.unusedSimpArgs false
namespace Go.Proofs.YtifbplmejbnofaaGreatDoor.TB
open Go.RowKit Go.Shelf Go.Proofs.YtifbplmejbnofaaGreatDoorW.PrintWords Go.Proofs.YtifbplmejbnofaaGreatDoorW.PrintMore

theorem clean_calls (s : ByteArray) (hs : s.size ≤ 1073741824) (w : World) :
    Calls Tryz.prog 27 #[.string s] w fun e w' => e = .returned (.string (ofL (cleanL false s.data.toList))) ∧ Below w.heap.size w w' := by
  go_enter Tryz.func27, Tryz.ntmps27
  go_wp2_with (go_at_call 58; (with_reducible refine (part_walk s hs _).mono ?_); rintro e w1 ⟨v, rfl, h1, h2⟩)
  clear h1
  go_wp2
  go_ret
  exact ⟨rfl, h2⟩
theorem secrets_calls (s : ByteArray) (hs : s.size ≤ 1073741824) (w : World) :
    Calls Tryz.prog 54 #[.string s] w fun e w' => ∃ v, e = .returned v ∧
      w'.ownsRow w.heap.size 9 1 v (secsB none s.data.toList).length ((secsB none s.data.toList).map Value.string) ∧ Below w.heap.size w w' := by
  go_enter Tryz.func54, Tryz.ntmps54
  go_wp2_with (go_at_call 58; (with_reducible refine (part_walk s hs _).mono ?_); rintro e w1 ⟨v, rfl, h1, h2⟩)
  have H1 := Aside0.mk h1
  clear h1
  go_wp2
  go_ret
  exact ⟨_, rfl, H1.out, h2⟩
end Go.Proofs.YtifbplmejbnofaaGreatDoor.TB
