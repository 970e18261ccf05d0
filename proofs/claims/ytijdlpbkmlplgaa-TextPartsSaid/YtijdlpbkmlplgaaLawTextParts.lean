/- The row TextParts: what is taken of a text is the whole of it, byte by byte, breaks one byte each; widths add up; a cut is a beginning, a wider one begins with a narrower one, and is no wider than it may be; the next thing that is taken would be. -/
import Derived.Test.YtijdlpbkmlplgaaRows
import Derived.Test.YtijdlpbkmlplgaaPartsPlain
import Derived.Test.YtijdlpbkmlplgaaQL3
import Derived.Test.YtijdlpbkmlplgaaPartsWalk
import Derived.WalkKit
import Derived.ProofKit
import Derived.OpenShut
import Derived.ShutString
import Derived.ChangeOld
import Derived.SizedLaws
import Derived.Below
set_option linter.unusedVariables false
namespace Go.Proofs.Ytijdlpbkmlplgaa.textParts
open Go.ChangeShapes Go.WideShapes Go.ChangeAt Go.RowKit
open Go.ChangeMaps (open_string shut_string)
open Go.Proofs.Ytijdlpbkmlplgaa.TS Go.Proofs.Ytijdlpbkmlplgaa.TR Go.Proofs.Ytijdlpbkmlplgaa.TX Go.Proofs.Ytijdlpbkmlplgaa.TL Go.Proofs.YtijdlpbkmlplgaaW.PrintWords Go.Proofs.Ytijdlpbkmlplgaa.QL

theorem works_true : erratalaw01_works.f 60 = some true := by decide +kernel
theorem own : ownKnob Try.prog.godebug = none := by kernel_rfl
/-- THE LAW, as the program runs. -/
theorem law_calls (s : ByteArray) (one two : Int) (hs : s.size ≤ 140737488351232) (ho1 : -9223372036854775808 ≤ one ∧ one ≤ 9223372036854775807) (ho2 : -9223372036854775808 ≤ two ∧ two ≤ 9223372036854775807) (w : World) :
    Calls Try.prog 10 #[.string s, .int .i64 one, .int .i64 two] w fun e w' => e = .returned (.bool true) ∧ Below w.heap.size w w' := by
  have hmm : min one two ≤ max one two := by omega
  obtain ⟨c1, c2, c3⟩ := cut_all s (max one two)
  have hcl := cutB_le s (max one two)
  exact parts_walk s one two hs (parts_A2 s) (parts_A3 s) (cutB s (min one two)) (cutB s (max one two)) (widthI (cutB s (max one two))) (widthI s) rfl
    (cutB_mono s _ _ hmm) hcl (cutB_front s _) (cutB_within s _ _ hmm) ho1 ho2 c1 (widthI_bd _).1
    (fun w => cut_wide s _ hs w) (fun w => cut_wide s _ hs w) (fun w => width_of s _ hs rfl w) (fun w => by have h9 := cut_wide s (widthI s) hs w; rwa [cut_whole s _ (Int.le_refl _)] at h9)
    (fun w => width_of _ _ (by omega) rfl w) c2 c3 (fun w => erratalaw01_works.calls 60 true w works_true) w
set_option maxRecDepth 100000 in
theorem lifted (os : Os) (started : os.Started) (H : Type) (enc : TypeId × Value → H) :
    ReturnsInHanded {} Try.checked os 10 .any (Rows.textPartsSpec.pre6 enc Try.prog Try.f10 Rows.textPartsRow.domain false) (Rows.textPartsSpec.post enc Try.prog Try.f10 false true false false) := by
  refine returnsInHanded_of_change_sized (C := Try.checked) own started (by kernel_rfl) Try.func10
    (ChangeSpec.witness6 (enc := enc) (C := Try.checked) false ⟨#[], #[.string .empty, .int .i64 0, .int .i64 0], []⟩ 8 (by kernel_rfl) (by kernel_rfl) (by kernel_rfl) (by kernel_rfl)) ?_
  intro W base args ds gs before hval0 hW hcnd hsz0 _
  have hsz : (DataW.weightsEach Try.prog (Try.f10.params.toList ++ Rows.textPartsSpec.plain.varTypes Try.prog) (ds ++ gs)).all (· ≤ reachBytes) = true := hsz0
  have hval : ∀ (j : Nat) t v, Try.f10.params[j]? = some t → args[j]? = some v → Value.okWide Try.prog W .any base t v := hval0
  have hW' := hW
  obtain ⟨p, q, hA0, hV, rfl, hfz, hnd⟩ := hW
  have hA : DataW.TrodAll enc Try.prog W 0 (fun _ => true) true Try.f10.params.toList args.toList ds p := hA0
  rw [Try.params10] at hA hval hsz
  obtain ⟨v0, vs0, d0, ds0, p0, q0, hargs, rfl, rfl, h0, r0⟩ := trodAll_cons hA
  obtain ⟨v1, vs1, d1, ds1, p1, q1, rfl, rfl, rfl, h1, r1⟩ := trodAll_cons r0
  obtain ⟨v2, vs2, d2, ds2, p2, q2, rfl, rfl, rfl, h2, r2⟩ := trodAll_cons r1
  obtain ⟨rfl, rfl, rfl⟩ := trodAll_nil r2
  obtain rfl : args = #[v0, v1, v2] := by cases args; simp_all
  obtain ⟨rfl, rfl⟩ := trodVars_none hV
  obtain ⟨a0, rfl, rfl, rfl, hmax0⟩ := open_string Try.underlying9 (hval 0 9 v0 rfl rfl) h0
  obtain ⟨a1, rfl, rfl, rfl, hwf1⟩ := open_int Try.underlying3 (hval 1 3 v1 rfl rfl) h1
  obtain ⟨a2, rfl, rfl, rfl, hwf2⟩ := open_int Try.underlying3 (hval 2 3 v2 rfl rfl) h2
  have hs : a0.size ≤ 140737488351232 := by
    have h := sized_string hsz (j := 0) (t := 9) (bytes := a0.data.toList) rfl rfl
    rw [bytes_length] at h
    exact h
  clear hA0 hval0 hsz0 hsz
  refine (law_calls a0 a1 a2 hs (bounds_i64 hwf1) (bounds_i64 hwf2) W).mono fun e W' ⟨he, bel⟩ => ?_
  subst he
  exact ⟨_, rfl, _, _, _, [], _, [], hW', trodAll_mk1 (shut_bool Try.underlying4 _), (trodAll_cons_mk (shut_string Try.underlying9 hmax0) (trodAll_cons_mk (shut_int Try.underlying3 hwf1) (trodAll_cons_mk (shut_int Try.underlying3 hwf2) trodAll_mk0))), rfl, bel.frame _, fun h => by cases h⟩
theorem proved : Rows.TextPartsSaid :=
  OpenClaim.holds_of_wide 10 Try.f10 rfl rfl rfl rfl rfl rfl rfl ⟨rfl, rfl, rfl, rfl, rfl⟩ rfl rfl rfl rfl rfl (by kernel_rfl) Try.func10 (by kernel_rfl)
    (of_decide_eq_true (by kernel_rfl)) (by unfold Func.isWrapper; first | (rw [if_pos (by decide +kernel)]; kernel_rfl) | (rw [if_neg (by decide +kernel)]; exact ⟨rfl, rfl⟩))
    (fun os started H enc _ => lifted os started H enc)
#print axioms proved
end Go.Proofs.Ytijdlpbkmlplgaa.textParts
namespace Go.Proofs.Ytijdlpbkmlplgaa
/-- The row, under a short name, for the claim. -/
theorem textParts_holds : Rows.TextPartsSaid := textParts.proved
end Go.Proofs.Ytijdlpbkmlplgaa
