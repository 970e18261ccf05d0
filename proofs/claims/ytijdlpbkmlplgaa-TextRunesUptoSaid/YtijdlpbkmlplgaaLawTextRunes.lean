/- The row TextRunesUpto: what is taken of any text: all of it, gone through again, within itself, left early; the breaks, in memory of their own. Condition: what comes in is of bulk at most 1048576. -/
import Derived.Test.YtijdlpbkmlplgaaRows
import Derived.Test.YtijdlpbkmlplgaaTwicePlain
import Derived.Test.YtijdlpbkmlplgaaTwiceWalk
import Derived.WalkKit
import Derived.ProofKit
import Derived.OpenShut
import Derived.ShutString
import Derived.JoinedCond
import Derived.Below
set_option linter.unusedVariables false
namespace Go.Proofs.Ytijdlpbkmlplgaa.textRunes
open Go.ChangeShapes Go.WideShapes Go.ChangeAt Go.RowKit
open Go.ChangeMaps (open_string shut_string)
open Go.Proofs.Ytijdlpbkmlplgaa.TS Go.Proofs.Ytijdlpbkmlplgaa.TR Go.Proofs.Ytijdlpbkmlplgaa.TX Go.Proofs.Ytijdlpbkmlplgaa.TP Go.Proofs.YtijdlpbkmlplgaaW.PrintWords Go.Proofs.Ytijdlpbkmlplgaa.QP

theorem own : ownKnob Try.prog.godebug = none := by kernel_rfl
/-- WHAT THE BOUND GIVES: the text's length. -/
theorem short {H : Type} {s : ByteArray} {n : Int} (hk : Rows.uptoSmall H [.lit (.string s.data.toList), .lit (.int .i64 n)] = true) : s.size ≤ 1048576 := by
  have h : Rows.uptoBulkAll [DataW.lit (H := H) (.string s.data.toList), DataW.lit (H := H) (.int .i64 n)] ≤ 1048576 := of_decide_eq_true hk
  simp only [Rows.uptoBulkAll, Rows.uptoBulk] at h
  have e : s.data.toList.length = s.size := by rw [Array.length_toList]; rfl
  omega
/-- the document's Pieces, as cells -/
theorem pieces_want (s : ByteArray) (hs : s.size ≤ 1048576) (w : World) : Calls Try.prog 20 #[.string s] w fun e w' => ∃ A c, e = .returned (.slice A (runes s.data.toList).length c) ∧ WantO A (runes s.data.toList) w' ∧ Below w.heap.size w w' := by
  refine (errataref01_Pieces.calls (s.size + 42) s _ w (pieces_eq s (by omega) _ (Nat.le_refl _))).mono ?_
  rintro e w' ⟨v, rfl, hR, hB⟩
  have hm := (pS_all s).2
  have hlen : (pS s 0 (pieces s.data.toList)).length = (runes s.data.toList).length := by
    have := congrArg List.length hm
    simpa using this
  obtain ⟨A, c, rfl⟩ := Kd.R_slice hR
  refine ⟨A, c, by rw [hlen], fun j x hj => ?_, hB⟩
  have hjl : j < (pS s 0 (pieces s.data.toList)).length := by rw [hlen]; exact (List.getElem?_eq_some_iff.1 hj).1
  obtain ⟨ad, e, k1, _, k2⟩ := at_T37 (Kd.R_reads' hR).2.2 (j : Int) (by omega) (by omega)
  rw [rd37_at _ j hjl] at k1 k2
  have hx : ((pS s 0 (pieces s.data.toList))[j].f0, (pS s 0 (pieces s.data.toList))[j].f2) = ((x.1 : Int), x.2) := by
    have h1 := congrArg (fun l => l[j]?) hm
    simp only [List.getElem?_map, List.getElem?_eq_getElem hjl, hj, Option.map_some] at h1
    exact Option.some.inj h1
  injection hx with h0 h2
  rw [h0, Int.toNat_natCast] at k1
  rw [h2, Int.toNat_natCast] at k2
  exact ⟨ad, e, k1, k2⟩
/-- THE LAW, as the program runs. -/
theorem law_calls (s : ByteArray) (stop : Int) (hs : s.size ≤ 1048576) (hst : -9223372036854775808 ≤ stop ∧ stop ≤ 9223372036854775807) (w : World) :
    Calls Try.prog 5 #[.string s, .int .i64 stop] w fun e w' => e = .returned (.bool true) ∧ Below w.heap.size w w' := by
  obtain ⟨k, hk⟩ := tail_pure s stop hs
  exact twice_walk s stop hs hst (pieces_want s hs) k hk w
set_option maxRecDepth 100000 in
theorem contract (H : Type) (enc : TypeId × Value → H) (W : World) (base : Nat) (args : Array Value) (ds gs : List (DataW H)) (before : List MemPlace)
    (hval : ∀ (j : Nat) t v, Try.f5.params[j]? = some t → args[j]? = some v → Value.okWide Try.prog W .any base t v)
    (hW : DataW.Whole enc Try.prog Try.f5.params.toList Rows.textRunesSpec.vars false W args.toList ds gs before) (hk : Rows.uptoSmall H (ds ++ gs) = true) :
    Calls Try.prog 5 args W fun e W' => ∃ v, e = .returned v ∧ Rows.textRunesSpec.post enc Try.prog Try.f5 false true false false W args v W' := by
  have hW' := hW
  obtain ⟨p, q, hA0, hV, rfl, hfz, hnd⟩ := hW
  have hA : DataW.TrodAll enc Try.prog W 0 (fun _ => true) true Try.f5.params.toList args.toList ds p := hA0
  rw [Try.params5] at hA hval
  obtain ⟨v0, vs0, d0, ds0, p0, q0, hargs, rfl, rfl, h0, r0⟩ := trodAll_cons hA
  obtain ⟨v1, vs1, d1, ds1, p1, q1, rfl, rfl, rfl, h1, r1⟩ := trodAll_cons r0
  obtain ⟨rfl, rfl, rfl⟩ := trodAll_nil r1
  obtain rfl : args = #[v0, v1] := by cases args; simp_all
  obtain ⟨rfl, rfl⟩ := trodVars_none hV
  obtain ⟨a0, rfl, rfl, rfl, hmax0⟩ := open_string Try.underlying9 (hval 0 9 v0 rfl rfl) h0
  obtain ⟨a1, rfl, rfl, rfl, hwf1⟩ := open_int Try.underlying3 (hval 1 3 v1 rfl rfl) h1
  clear hA0
  simp only [List.append_nil] at hW' hk
  refine (law_calls a0 a1 (short hk) (bounds_i64 hwf1) W).mono fun e W' ⟨he, bel⟩ => ?_
  subst he
  exact ⟨_, rfl, _, _, _, [], _, [], hW', trodAll_mk1 (shut_bool Try.underlying4 _), (trodAll_cons_mk (shut_string Try.underlying9 hmax0) (trodAll_cons_mk (shut_int Try.underlying3 hwf1) trodAll_mk0)), rfl, bel.frame _, fun h => by cases h⟩

set_option maxRecDepth 100000 in
theorem lifted (os : Os) (started : os.Started) (H : Type) (enc : TypeId × Value → H) (F : Stop.Interp) :
    ReturnsInHanded {} Try.checked os 5 .any ((Rows.OpenSpec.upto Rows.textRunesSpec).pre6 enc Try.prog Try.f5 Rows.textRunesUptoRow.domain false) (((Rows.OpenSpec.upto Rows.textRunesSpec).at F).post enc Try.prog Try.f5 false true false false) := by
  refine returnsInHanded_of_cond (C := Try.checked) (s := Rows.OpenSpec.upto Rows.textRunesSpec) (k := Rows.uptoSmall) rfl own started (by kernel_rfl) Try.func5
    (OpenSpec.witness (enc := enc) (C := Try.checked) (s := Rows.OpenSpec.upto Rows.textRunesSpec) (k := Rows.uptoSmall) rfl false ⟨#[], #[.string .empty, .int .i64 0], []⟩ 8 (by kernel_rfl) (by kernel_rfl) (by kernel_rfl)
      (x := ([.lit (.string []), .lit (.int .i64 0)], [], [])) (by kernel_rfl) rfl (by kernel_rfl)) ?_
  intro W base args ds gs before hval hW _ hk _
  exact contract H enc W base args ds gs before hval hW hk

theorem proved : Rows.TextRunesUptoSaid :=
  OpenClaim.holds_of_cond 5 Try.f5 rfl rfl rfl rfl rfl rfl rfl ⟨rfl, rfl, rfl, rfl, rfl⟩ rfl rfl rfl rfl rfl (by kernel_rfl) Try.func5 (by kernel_rfl)
    (of_decide_eq_true (by kernel_rfl)) (by unfold Func.isWrapper; first | (rw [if_pos (by decide +kernel)]; kernel_rfl) | (rw [if_neg (by decide +kernel)]; exact ⟨rfl, rfl⟩))
    (fun os started H enc _ F => lifted os started H enc F)
#print axioms proved
end Go.Proofs.Ytijdlpbkmlplgaa.textRunes
namespace Go.Proofs.Ytijdlpbkmlplgaa
/-- The row, under a short name, for the claim. -/
theorem textRunes_holds : Rows.TextRunesUptoSaid := textRunes.proved
end Go.Proofs.Ytijdlpbkmlplgaa
