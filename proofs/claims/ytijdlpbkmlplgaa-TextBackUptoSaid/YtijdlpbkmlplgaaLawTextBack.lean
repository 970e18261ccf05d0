/- The row TextBackUpto: any text's quotes are read as the text, also with anything behind them; whatever quotes are read are the text's; unlike texts are shown unlike, and what is shown has neither break nor a rune below 32, nor 127. Condition: what comes in is of bulk at most 1048576. -/
import Derived.Test.YtijdlpbkmlplgaaRows
import Derived.Test.YtijdlpbkmlplgaaFrontAlone
import Derived.Test.YtijdlpbkmlplgaaQL3
import Derived.Test.YtijdlpbkmlplgaaBackWalk
import Derived.WalkKit
import Derived.ProofKit
import Derived.OpenShut
import Derived.ShutString
import Derived.JoinedCond
import Derived.Below
set_option linter.unusedVariables false
namespace Go.Proofs.Ytijdlpbkmlplgaa.textBack
open Go.ChangeShapes Go.WideShapes Go.ChangeAt Go.RowKit
open Go.ChangeMaps (open_string shut_string)
open Go.Proofs.Ytijdlpbkmlplgaa.TS Go.Proofs.Ytijdlpbkmlplgaa.TR Go.Proofs.Ytijdlpbkmlplgaa.TX Go.Proofs.Ytijdlpbkmlplgaa.TL Go.Proofs.YtijdlpbkmlplgaaW.PrintWords Go.Proofs.Ytijdlpbkmlplgaa.QL

theorem works_true : erratalaw01_works.f 60 = some true := by decide +kernel
theorem own : ownKnob Try.prog.godebug = none := by kernel_rfl
/-- WHAT THE BOUND GIVES: the texts' lengths. -/
theorem short {H : Type} {s t r : ByteArray} (hk : Rows.uptoSmall H [.lit (.string s.data.toList), .lit (.string t.data.toList), .lit (.string r.data.toList)] = true) : s.size ≤ 1048576 ∧ t.size ≤ 1048576 ∧ r.size ≤ 1048576 := by
  have h : Rows.uptoBulkAll [DataW.lit (H := H) (.string s.data.toList), DataW.lit (H := H) (.string t.data.toList), DataW.lit (H := H) (.string r.data.toList)] ≤ 1048576 := of_decide_eq_true hk
  simp only [Rows.uptoBulkAll, Rows.uptoBulk] at h
  have e : s.data.toList.length = s.size := by rw [Array.length_toList]; rfl
  have e2 : t.data.toList.length = t.size := by rw [Array.length_toList]; rfl
  have e3 : r.data.toList.length = r.size := by rw [Array.length_toList]; rfl
  omega
theorem slice_of {α : Type} {d : Kd α} {e base : Nat} {ok : Nat → Prop} {w : World} {v : Value} (h : d.R e w base ok v []) : ∃ A c, v = .slice A 0 c := by
  obtain ⟨A, c, rfl⟩ := Kd.R_slice h
  exact ⟨A, c, rfl⟩
theorem shows_same (s t : ByteArray) : ((showB s).toList == (showB t).toList) = (s.toList == t.toList) := by
  rw [Bool.eq_iff_iff, beq_iff_eq, beq_iff_eq, tl_inj, tl_inj]
  exact ⟨show_inj s t, fun h => by rw [h]⟩
/-- THE LAW, as the program runs. -/
theorem law_calls (s t r : ByteArray) (hs : s.size ≤ 1048576) (ht : t.size ≤ 1048576) (hr : r.size ≤ 1048576) (w : World) :
    Calls Try.prog 9 #[.string s, .string t, .string r] w fun e w' => e = .returned (.bool true) ∧ Below w.heap.size w w' := by
  have hq := quoteB_len s
  have hqs : (quoteB s).size ≤ 4194306 := by omega
  have hap : (quoteB s ++ r).size ≤ 1073741824 := by rw [ByteArray.size_append]; omega
  obtain ⟨k3, h3⟩ := unquote_back (quoteB s) s (by omega) rfl
  obtain ⟨k4, h4⟩ := front_back (quoteB s ++ r) s (quoteB s).size hap (by rw [ByteArray.size_append]; omega) (by
    apply ByteArray.ext
    apply Array.toList_inj.1
    rw [Lib.extract_data, ByteArray.data_append, Array.toList_append, Nat.sub_zero, List.drop_zero, ← bytes_length, List.take_left])
  obtain ⟨u, ⟨k5, h5⟩, hu⟩ := unquote_total t (by omega)
  have q1 : text_Quote.f s = some (quoteB s) := by unfold text_Quote.f; rw [if_pos (by unfold small; omega)]
  refine back_walk s t r (quoteB s) (showB s) (showB t) (shows_same s t) (by omega) (by omega)
    (erratalaw01_works.calls 60 true · works_true) (text_Quote.calls _ _ · q1) (fun w => text_Unquote.calls k3 _ _ _ w (h3 k3 (Nat.le_refl _))) (fun w => text_Front.calls k4 _ _ _ _ w (h4 k4 (Nat.le_refl _))) ?_
    (text_Show.calls _ _ · (by unfold text_Show.f; rw [if_pos (by unfold small; omega)])) (text_Show.calls _ _ · (by unfold text_Show.f; rw [if_pos (by unfold small; omega)])) ?_ (show_runes s) w
  · rcases hu with rfl | ⟨w0, rfl, hw0, hw1⟩
    · exact Or.inl fun w => text_Unquote.calls k5 _ _ _ w (h5 k5 (Nat.le_refl _))
    · exact Or.inr ⟨w0, fun w => text_Unquote.calls k5 _ _ _ w (h5 k5 (Nat.le_refl _)), fun w => text_Quote.calls _ _ w (by unfold text_Quote.f; rw [if_pos (by unfold small; omega), hw0])⟩
  · intro w
    refine (text_Breaks.calls (quoteB s) [] w (by unfold text_Breaks.f; rw [if_pos (by unfold small; omega), breaks_quote])).mono ?_
    rintro e w' ⟨v, rfl, hR, hB⟩
    obtain ⟨A, c, rfl⟩ := slice_of hR
    exact ⟨A, c, rfl, hB⟩
set_option maxRecDepth 100000 in
theorem contract (H : Type) (enc : TypeId × Value → H) (W : World) (base : Nat) (args : Array Value) (ds gs : List (DataW H)) (before : List MemPlace)
    (hval : ∀ (j : Nat) t v, Try.f9.params[j]? = some t → args[j]? = some v → Value.okWide Try.prog W .any base t v)
    (hW : DataW.Whole enc Try.prog Try.f9.params.toList Rows.textBackSpec.vars false W args.toList ds gs before) (hk : Rows.uptoSmall H (ds ++ gs) = true) :
    Calls Try.prog 9 args W fun e W' => ∃ v, e = .returned v ∧ Rows.textBackSpec.post enc Try.prog Try.f9 false true false false W args v W' := by
  have hW' := hW
  obtain ⟨p, q, hA0, hV, rfl, hfz, hnd⟩ := hW
  have hA : DataW.TrodAll enc Try.prog W 0 (fun _ => true) true Try.f9.params.toList args.toList ds p := hA0
  rw [Try.params9] at hA hval
  obtain ⟨v0, vs0, d0, ds0, p0, q0, hargs, rfl, rfl, h0, r0⟩ := trodAll_cons hA
  obtain ⟨v1, vs1, d1, ds1, p1, q1, rfl, rfl, rfl, h1, r1⟩ := trodAll_cons r0
  obtain ⟨v2, vs2, d2, ds2, p2, q2, rfl, rfl, rfl, h2, r2⟩ := trodAll_cons r1
  obtain ⟨rfl, rfl, rfl⟩ := trodAll_nil r2
  obtain rfl : args = #[v0, v1, v2] := by cases args; simp_all
  obtain ⟨rfl, rfl⟩ := trodVars_none hV
  obtain ⟨a0, rfl, rfl, rfl, hmax0⟩ := open_string Try.underlying9 (hval 0 9 v0 rfl rfl) h0
  obtain ⟨a1, rfl, rfl, rfl, hmax1⟩ := open_string Try.underlying9 (hval 1 9 v1 rfl rfl) h1
  obtain ⟨a2, rfl, rfl, rfl, hmax2⟩ := open_string Try.underlying9 (hval 2 9 v2 rfl rfl) h2
  clear hA0
  simp only [List.append_nil] at hW' hk
  obtain ⟨z0, z1, z2⟩ := short hk
  refine (law_calls a0 a1 a2 z0 z1 z2 W).mono fun e W' ⟨he, bel⟩ => ?_
  subst he
  exact ⟨_, rfl, _, _, _, [], _, [], hW', trodAll_mk1 (shut_bool Try.underlying4 _), (trodAll_cons_mk (shut_string Try.underlying9 hmax0) (trodAll_cons_mk (shut_string Try.underlying9 hmax1) (trodAll_cons_mk (shut_string Try.underlying9 hmax2) trodAll_mk0))), rfl, bel.frame _, fun h => by cases h⟩

set_option maxRecDepth 100000 in
theorem lifted (os : Os) (started : os.Started) (H : Type) (enc : TypeId × Value → H) (F : Stop.Interp) :
    ReturnsInHanded {} Try.checked os 9 .any ((Rows.OpenSpec.upto Rows.textBackSpec).pre6 enc Try.prog Try.f9 Rows.textBackUptoRow.domain false) (((Rows.OpenSpec.upto Rows.textBackSpec).at F).post enc Try.prog Try.f9 false true false false) := by
  refine returnsInHanded_of_cond (C := Try.checked) (s := Rows.OpenSpec.upto Rows.textBackSpec) (k := Rows.uptoSmall) rfl own started (by kernel_rfl) Try.func9
    (OpenSpec.witness (enc := enc) (C := Try.checked) (s := Rows.OpenSpec.upto Rows.textBackSpec) (k := Rows.uptoSmall) rfl false ⟨#[], #[.string .empty, .string .empty, .string .empty], []⟩ 8 (by kernel_rfl) (by kernel_rfl) (by kernel_rfl)
      (x := ([.lit (.string []), .lit (.string []), .lit (.string [])], [], [])) (by kernel_rfl) rfl (by kernel_rfl)) ?_
  intro W base args ds gs before hval hW _ hk _
  exact contract H enc W base args ds gs before hval hW hk

theorem proved : Rows.TextBackUptoSaid :=
  OpenClaim.holds_of_cond 9 Try.f9 rfl rfl rfl rfl rfl rfl rfl ⟨rfl, rfl, rfl, rfl, rfl⟩ rfl rfl rfl rfl rfl (by kernel_rfl) Try.func9 (by kernel_rfl)
    (of_decide_eq_true (by kernel_rfl)) (by unfold Func.isWrapper; first | (rw [if_pos (by decide +kernel)]; kernel_rfl) | (rw [if_neg (by decide +kernel)]; exact ⟨rfl, rfl⟩))
    (fun os started H enc _ F => lifted os started H enc F)
#print axioms proved
end Go.Proofs.Ytijdlpbkmlplgaa.textBack
namespace Go.Proofs.Ytijdlpbkmlplgaa
/-- The row, under a short name, for the claim. -/
theorem textBack_holds : Rows.TextBackUptoSaid := textBack.proved
end Go.Proofs.Ytijdlpbkmlplgaa
