/- The row TextShowsUpto: the program's Show, Width, Quote, Unquote and Front answer as the document's do. -/
import Derived.Test.YtijdlpbkmlplgaaRows
import Derived.Test.YtijdlpbkmlplgaaTextFront
import Derived.WalkKit
import Derived.ProofKit
import Derived.OpenShut
import Derived.ShutString
import Derived.JoinedCond
import Derived.Below
set_option linter.unusedVariables false
namespace Go.Proofs.Ytijdlpbkmlplgaa.textShows
open Go.ChangeShapes Go.WideShapes Go.ChangeAt Go.RowKit
open Go.ChangeMaps (open_string shut_string)
open Go.Proofs.Ytijdlpbkmlplgaa.TX Go.Proofs.Ytijdlpbkmlplgaa.TL Go.Proofs.YtijdlpbkmlplgaaW.PrintWords Go.Proofs.Ytijdlpbkmlplgaa.QF

theorem own : ownKnob Try.prog.godebug = none := by kernel_rfl
/-- WHAT THE BOUND GIVES: the texts' lengths. -/
theorem short {H : Type} {s t u : ByteArray} (hk : Rows.uptoSmall H [.lit (.string s.data.toList), .lit (.string t.data.toList), .lit (.string u.data.toList)] = true) : s.size + t.size + u.size ≤ 1048576 := by
  have h : Rows.uptoBulkAll [DataW.lit (H := H) (.string s.data.toList), DataW.lit (H := H) (.string t.data.toList), DataW.lit (H := H) (.string u.data.toList)] ≤ 1048576 := of_decide_eq_true hk
  simp only [Rows.uptoBulkAll, Rows.uptoBulk] at h
  have e : ∀ s : ByteArray, s.data.toList.length = s.size := fun s => by rw [Array.length_toList]; rfl
  rw [e, e, e] at h
  omega
/-- THE PLAIN LAW. -/
theorem pure (s t u : ByteArray) (hs : s.size + t.size + u.size ≤ 1048576) : ∃ k, erratalaw01_TextShows.f k s t u = some true := by
  have h1 : s.size ≤ 1073741824 := by omega
  have h2 : t.size ≤ 1073741824 := by omega
  have h3 : (t ++ u).size ≤ 1073741824 := by rw [ByteArray.size_append]; omega
  obtain ⟨U, ⟨K1, e1⟩, ⟨K2, e2⟩⟩ := unquotes t h2
  obtain ⟨F, ⟨K3, e3⟩, ⟨K4, e4⟩, _⟩ := fronts (t ++ u) h3
  have h4 : (t.size + u.size ≤ 9223372036854775807) = True := eq_true (by omega)
  refine ⟨s.size + 50 + K1 + K2 + K3 + K4 + 1, ?_⟩
  generalize hk : s.size + 50 + K1 + K2 + K3 + K4 = k
  have f1 : text_Unquote.f k t = some U := e1 k (by omega)
  have f2 : errataref01_Unquote.f k t = some U := e2 k (by omega)
  have f3 : text_Front.f k (t ++ u) = some F := e3 k (by omega)
  have f4 : errataref01_Front.f k (t ++ u) = some F := e4 k (by omega)
  have g1 : text_Show.f s = some (showB s) := by unfold text_Show.f; rw [if_pos (show small s.size from h1)]
  have g2 : text_Quote.f s = some (quoteB s) := by unfold text_Quote.f; rw [if_pos (show small s.size from h1)]
  have g3 : text_Width.f s = some (widthI s) := by unfold text_Width.f; rw [if_pos (show small s.size from h1)]
  have g4 := show_eq s h1 (k + 1) (by omega)
  have g5 := quote_eq s h1 (k + 1) (by omega)
  have g6 := width_eq s h1 (k + 1) (by omega)
  unfold erratalaw01_TextShows.f
  rw [g1, g2, g3, g4, g5, g6]
  simp only [Option.bind_some, if_true]
  rw [bne_eq_false_iff_eq.mpr rfl, erratalaw01_TextShows.j0, if_neg (by decide), f2, f1, f3, f4]
  simp only [Option.bind_some, h4, if_true, beq_self_eq_true]
set_option maxRecDepth 100000 in
theorem contract (H : Type) (enc : TypeId × Value → H) (W : World) (base : Nat) (args : Array Value) (ds gs : List (DataW H)) (before : List MemPlace)
    (hval : ∀ (j : Nat) t v, Try.f7.params[j]? = some t → args[j]? = some v → Value.okWide Try.prog W .any base t v)
    (hW : DataW.Whole enc Try.prog Try.f7.params.toList Rows.textShowsSpec.vars false W args.toList ds gs before) (hk : Rows.uptoSmall H (ds ++ gs) = true) :
    Calls Try.prog 7 args W fun e W' => ∃ v, e = .returned v ∧ Rows.textShowsSpec.post enc Try.prog Try.f7 false true false false W args v W' := by
  have hW' := hW
  obtain ⟨p, q, hA0, hV, rfl, hfz, hnd⟩ := hW
  have hA : DataW.TrodAll enc Try.prog W 0 (fun _ => true) true Try.f7.params.toList args.toList ds p := hA0
  rw [Try.params7] at hA hval
  obtain ⟨v0, vs0, d0, ds0, p0, q0, hargs, rfl, rfl, h0, r0⟩ := trodAll_cons hA
  obtain ⟨v1, vs1, d1, ds1, p1, q1, rfl, rfl, rfl, h1, r1⟩ := trodAll_cons r0
  obtain ⟨v2, vs2, d2, ds2, p2, q2, rfl, rfl, rfl, h2, r2⟩ := trodAll_cons r1
  obtain ⟨rfl, rfl, rfl⟩ := trodAll_nil r2
  obtain rfl : args = #[v0, v1, v2] := by cases args; simp_all
  obtain ⟨rfl, rfl⟩ := trodVars_none hV
  obtain ⟨a0, rfl, rfl, rfl, hmax0⟩ := open_string Try.underlying9 (hval 0 9 v0 rfl rfl) h0
  obtain ⟨a1, rfl, rfl, rfl, hmax1⟩ := open_string Try.underlying9 (hval 1 9 v1 rfl rfl) h1
  obtain ⟨a2, rfl, rfl, rfl, hmax2⟩ := open_string Try.underlying9 (hval 2 9 v2 rfl rfl) h2
  clear hA0
  simp only [List.append_nil] at hW' hk
  obtain ⟨k, hf⟩ := pure a0 a1 a2 (short hk)
  refine (erratalaw01_TextShows.calls k a0 a1 a2 true W hf).mono fun e W' ⟨he, bel⟩ => ?_
  subst he
  exact ⟨_, rfl, _, _, _, [], _, [], hW', trodAll_mk1 (shut_bool Try.underlying4 _), (trodAll_cons_mk (shut_string Try.underlying9 hmax0) (trodAll_cons_mk (shut_string Try.underlying9 hmax1) (trodAll_cons_mk (shut_string Try.underlying9 hmax2) trodAll_mk0))), rfl, bel.frame _, fun h => by cases h⟩

set_option maxRecDepth 100000 in
theorem lifted (os : Os) (started : os.Started) (H : Type) (enc : TypeId × Value → H) (F : Stop.Interp) :
    ReturnsInHanded {} Try.checked os 7 .any ((Rows.OpenSpec.upto Rows.textShowsSpec).pre6 enc Try.prog Try.f7 Rows.textShowsUptoRow.domain false) (((Rows.OpenSpec.upto Rows.textShowsSpec).at F).post enc Try.prog Try.f7 false true false false) := by
  refine returnsInHanded_of_cond (C := Try.checked) (s := Rows.OpenSpec.upto Rows.textShowsSpec) (k := Rows.uptoSmall) rfl own started (by kernel_rfl) Try.func7
    (OpenSpec.witness (enc := enc) (C := Try.checked) (s := Rows.OpenSpec.upto Rows.textShowsSpec) (k := Rows.uptoSmall) rfl false ⟨#[], #[.string .empty, .string .empty, .string .empty], []⟩ 8 (by kernel_rfl) (by kernel_rfl) (by kernel_rfl)
      (x := ([.lit (.string []), .lit (.string []), .lit (.string [])], [], [])) (by kernel_rfl) rfl (by kernel_rfl)) ?_
  intro W base args ds gs before hval hW _ hk _
  exact contract H enc W base args ds gs before hval hW hk

theorem proved : Rows.TextShowsUptoSaid :=
  OpenClaim.holds_of_cond 7 Try.f7 rfl rfl rfl rfl rfl rfl rfl ⟨rfl, rfl, rfl, rfl, rfl⟩ rfl rfl rfl rfl rfl (by kernel_rfl) Try.func7 (by kernel_rfl)
    (of_decide_eq_true (by kernel_rfl)) (by unfold Func.isWrapper; first | (rw [if_pos (by decide +kernel)]; kernel_rfl) | (rw [if_neg (by decide +kernel)]; exact ⟨rfl, rfl⟩))
    (fun os started H enc _ F => lifted os started H enc F)
#print axioms proved
end Go.Proofs.Ytijdlpbkmlplgaa.textShows
namespace Go.Proofs.Ytijdlpbkmlplgaa
/-- The row, under a short name, for the claim. -/
theorem textShows_holds : Rows.TextShowsUptoSaid := textShows.proved
end Go.Proofs.Ytijdlpbkmlplgaa
