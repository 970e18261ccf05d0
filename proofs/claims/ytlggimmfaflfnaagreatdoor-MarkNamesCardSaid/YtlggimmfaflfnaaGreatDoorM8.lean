/- Which fields of a spec count: kinds.fields, errataref04.fields; which specs are a kind's own. -/
import Derived.Test.YtlggimmfaflfnaaGreatDoorM4
import Derived.Test.YtlggimmfaflfnaaGreatDoorM7
set_option linter.unusedVariables false
set_option linter.unusedSimpArgs false
namespace Go.Proofs.YtlggimmfaflfnaaGreatDoor.TW
open Go.RowKit Go.Shelf Go.Proofs.YtlggimmfaflfnaaGreatDoorW.PrintWords Go.Proofs.YtlggimmfaflfnaaGreatDoorW.PrintMore

def tableL : Nat → List UInt8
  | 1 => [78] | 2 => [84] | 3 => [82] | 4 => [82, 77] | 5 => [84] | 6 => [73, 78, 48] | 7 => [84, 70, 48] | 8 => [48] | 9 => [84, 48] | 10 => [84, 70, 48] | 11 => [78, 84] | 12 => [84, 73] | 13 => [84]
  | 14 => [84, 48] | 15 => [84] | 16 => [48] | 17 => [70] | 18 => [78] | 19 => [78, 82] | 20 => [] | 21 => [84, 70, 48] | 22 => [84, 78, 48] | 24 => [84, 70, 48] | 25 => [78, 84] | 26 => [84, 75, 73, 48] | _ => []
def boxL (n : Int) : List UInt8 := if n = 1 then [78, 83] else if n = 2 then [78, 82] else if n = 3 then [78, 84, 48] else []
/-- which fields of a spec count -/
def fieldsL (k n : Int) : List UInt8 := if k = 23 then boxL n else tableL k.toNat
theorem kinds26 (k : Int) (h1 : 1 ≤ k) (h2 : k ≤ 26) : k = 1 ∨ k = 2 ∨ k = 3 ∨ k = 4 ∨ k = 5 ∨ k = 6 ∨ k = 7 ∨ k = 8 ∨ k = 9 ∨ k = 10 ∨ k = 11 ∨ k = 12 ∨ k = 13 ∨ k = 14 ∨ k = 15 ∨ k = 16 ∨ k = 17 ∨ k = 18 ∨ k = 19 ∨ k = 20 ∨ k = 21 ∨ k = 22 ∨ k = 23 ∨ k = 24 ∨ k = 25 ∨ k = 26 := by omega
set_option maxHeartbeats 16000000 in
theorem fields_calls (k : Int) (nl : Bool) (t : ByteArray) (n sm : Int) (re im : Nat) (fl : Bool) (mk : Int) (A B : Option Addr) (l c l2 c2 : Nat) (w : World) (h1 : 1 ≤ k) (h2 : k ≤ 26) (h3 : k = 23 → 1 ≤ n ∧ n ≤ 3) :
    Calls Tryz.prog 141 #[spec k nl t n sm re im fl mk (.slice A l c) (.slice B l2 c2)] w fun e w' => e = .returned (.string ⟨(fieldsL k n).toArray⟩) ∧ Below w.heap.size w w' := by
  unfold spec
  by_cases h23 : k = 23
  · subst h23
    obtain ⟨n1, n3⟩ := h3 rfl
    have hbox : ∀ W, Calls Tryz.prog 176 #[.int .i16 n] W fun e w' => e = .returned (.string ⟨(fieldsL 23 n).toArray⟩) ∧ Drawn0 W w' := fun W => by
      have hn : n = 1 ∨ n = 2 ∨ n = 3 := by omega
      rcases hn with rfl | rfl | rfl
      · exact YtlggimmfaflfnaaGreatDoor.QA.kinds_box.calls 1 ⟨(fieldsL 23 1).toArray⟩ W (by decide +kernel)
      · exact YtlggimmfaflfnaaGreatDoor.QA.kinds_box.calls 2 ⟨(fieldsL 23 2).toArray⟩ W (by decide +kernel)
      · exact YtlggimmfaflfnaaGreatDoor.QA.kinds_box.calls 3 ⟨(fieldsL 23 3).toArray⟩ W (by decide +kernel)
    go_enter Tryz.func141, Tryz.ntmps141
    go_wp2_with (go_at_call 176; (with_reducible refine (hbox _).mono ?_); rintro e w' ⟨rfl, hd⟩)
    go_wp2
    go_ret
    exact ⟨rfl, Below.trans (by go_grown) (hd.below.mono (by simp))⟩
  · rcases kinds26 k h1 h2 with rfl | rfl | rfl | rfl | rfl | rfl | rfl | rfl | rfl | rfl | rfl | rfl | rfl | rfl | rfl | rfl | rfl | rfl | rfl | rfl | rfl | rfl | rfl | rfl | rfl | rfl
    all_goals first
      | exact absurd rfl h23
      | (go_enter Tryz.func141, Tryz.ntmps141
         go_wp2
         go_ret
         exact ⟨rfl, by go_grown⟩)
end Go.Proofs.YtlggimmfaflfnaaGreatDoor.TW
