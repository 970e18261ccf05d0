/- LawLinesFit -/
import Derived.Test.YtimmafiodhncgaaGreatDoorCards
import Derived.Test.YtimmafiodhncgaaGreatDoorTie
import Derived.Test.YtimmafiodhncgaaGreatDoorM35
import Derived.Test.YtimmafiodhncgaaGreatDoorM30
import Derived.Test.YtimmafiodhncgaaGreatDoorM36
import Derived.WalkKit
import Derived.ProofKit
import Derived.OpenShut
import Derived.ShutString
import Derived.JoinedCond
import Derived.Deep.Strs
import Derived.Deep.DeepHandedRow
import Derived.Lay
import Derived.Handy
import Derived.Carry
import Derived.SevenTiedAt
import Derived.Shelf.Vars
import Derived.Lib.LaidTab
import Derived.Stop.LaidErr
/- The row LinesFitUpto, tied to the program's text: lines.Fit of any lines is the document's, and never wider; the lines handed in stand. Condition: what comes in is of bulk at most 1048576. -/
set_option linter.unusedVariables false
namespace Go.Proofs.YtimmafiodhncgaaGreatDoor.linesFit
open Go.ChangeShapes Go.WideShapes Go.ChangeAt Go.RowKit
open Go.ChangeMaps (open_string shut_string)
open Go.Proofs.YtimmafiodhncgaaGreatDoorW.PrintWords Go.Proofs.YtimmafiodhncgaaGreatDoor.QF
theorem own : ownKnob Tryz.prog.godebug = none := by kernel_rfl
theorem laidOut : laidOutB Tryz.prog = true := by kernel_rfl
theorem texts_bulk {H : Type} (f : Nat → ByteArray) (l : List Nat) : l.length ≤ Rows.uptoBulkAll (l.map fun i => DataW.lit (H := H) (.string (f i).data.toList)) ∧ ∀ i ∈ l, (f i).size ≤ Rows.uptoBulkAll (l.map fun i => DataW.lit (H := H) (.string (f i).data.toList)) := by
  induction l with
  | nil => exact ⟨Nat.zero_le _, fun i h => by cases h⟩
  | cons a l ih =>
    have e : Rows.uptoBulkAll ((a :: l).map fun i => DataW.lit (H := H) (.string (f i).data.toList)) = (f a).data.toList.length + 1 + Rows.uptoBulkAll (l.map fun i => DataW.lit (H := H) (.string (f i).data.toList)) := by
      simp only [List.map_cons, Rows.uptoBulkAll, Rows.uptoBulk]
    have e2 : (f a).data.toList.length = (f a).size := by rw [Array.length_toList]; rfl
    rw [e, e2]
    refine ⟨by have := ih.1; simp only [List.length_cons]; omega, fun i hi => ?_⟩
    rcases List.mem_cons.1 hi with rfl | hi
    · omega
    · have := ih.2 i hi; omega
set_option maxRecDepth 100000 in
theorem open_texts {H : Type} {enc : TypeId × Value → H} {W : World} {base : Nat} {v : Value} {d : DataW H} {p : List MemPlace} (hv : Value.okWide Tryz.prog W .any base 32 v) (h : DataW.Trod enc Tryz.prog W 0 (fun _ => true) true 32 v d p) :
    ∃ (A : Option Addr) (c : Nat) (l0 : List ByteArray), v = .slice A l0.length c ∧ l0.length ≤ c ∧ Kd.string.C W A l0.length l0 ∧ l0.length ≤ Rows.uptoBulk d ∧ ∀ s ∈ l0, s.size ≤ Rows.uptoBulk d := by
  obtain ⟨a0, n0, c0, rfl⟩ := okWide_slice Tryz.underlying32 hv
  obtain ⟨fuel, hf⟩ := h
  have w9 : Tryz.prog.cellsOf 9 = 1 := by kernel_rfl
  rcases Deep.open_strs Tryz.underlying32 Tryz.underlying9 w9 hf with ⟨e, e2⟩ | ⟨a, len, cap, mm, Sx, e, -, hl, hm, hmm, e2, hcell⟩
  · have e' : Value.slice a0 n0 c0 = .slice none 0 0 := List.head_eq_of_cons_eq e
    rw [e']
    exact ⟨none, 0, [], rfl, Nat.le_refl _, Kd.C_nil _ _, Nat.zero_le _, fun s h => by cases h⟩
  · have e' : Value.slice a0 n0 c0 = .slice (some a) len cap := List.head_eq_of_cons_eq e
    rw [e']
    have hlm : len ≤ mm := by rw [hmm]; split <;> omega
    have hlen : ((List.range len).map Sx).length = len := by simp
    have hd : d = _ := congrArg Prod.fst e2
    have hb := texts_bulk (H := H) Sx (List.range len)
    have hbd : Rows.uptoBulkAll ((List.range len).map fun i => DataW.lit (H := H) (.string (Sx i).data.toList)) ≤ Rows.uptoBulk d := by
      rw [hd]
      simp only [Rows.uptoBulk]
      omega
    refine ⟨some a, cap, (List.range len).map Sx, by rw [hlen], by rw [hlen]; exact hl, ?_, ?_, ?_⟩
    · rw [hlen]
      refine Kd.C_of_reads (enc := Value.string) (d := ByteArray.empty) ⟨hlen, by unfold maxLen at hm; omega, fun hn => ⟨a, rfl, fun j hj => ?_⟩⟩
      have hx := (hcell j (by omega)).1
      rw [hx]
      simp [List.getD_eq_getElem?_getD, hj]
    · rw [hlen]
      have := hb.1
      rw [List.length_range] at this
      omega
    · intro s hs
      obtain ⟨i, hi, rfl⟩ := List.mem_map.1 hs
      have := hb.2 i hi
      omega
theorem tab_of (W : World) (h : laidMetH Tryz.prog Rows.linesFitUptoRow.laid W) : TW.Tab W := by
  rw [MakeChecks.laidMetH_plain _ _ _ (by kernel_rfl)] at h
  have h5 := h.tail.tail.tail.tail.tail
  rw [show (Rows.laid_strings_asciiSpace : DataW Unit) = Lib.tabData .u8 Lib.asciiSpaceTab from by kernel_rfl] at h5
  exact Lib.tabIs_of_head (g := 6) (t := 284) (e := 5) (n := 256) (by kernel_rfl) (by kernel_rfl) (by kernel_rfl) (by kernel_rfl) (by kernel_rfl) (by kernel_rfl) h5
theorem short {H : Type} {d : DataW H} {n : Int} (hk : Rows.uptoSmall H [d, .lit (.int .i64 n)] = true) : Rows.uptoBulk d ≤ 1048576 := by
  have h : Rows.uptoBulkAll [d, DataW.lit (H := H) (.int .i64 n)] ≤ 1048576 := of_decide_eq_true hk
  simp only [Rows.uptoBulkAll, Rows.uptoBulk] at h
  omega
set_option maxRecDepth 100000 in
theorem contract (H : Type) (enc : TypeId × Value → H) (W : World) (base : Nat) (args : Array Value) (ds gs : List (DataW H)) (before : List MemPlace)
    (hval : ∀ (j : Nat) t v, Tryz.f5.params[j]? = some t → args[j]? = some v → Value.okWide Tryz.prog W .any base t v)
    (hW : DataW.Whole enc Tryz.prog Tryz.f5.params.toList Rows.linesFitSpec.vars false W args.toList ds gs before) (hk : Rows.uptoSmall H (ds ++ gs) = true) (hL : laidMetH Tryz.prog Rows.linesFitUptoRow.laid W) :
    Calls Tryz.prog 5 args W fun e W' => ∃ v, e = .returned v ∧ Rows.linesFitSpec.post enc Tryz.prog Tryz.f5 false true false false W args v W' := by
  have hW' := hW
  obtain ⟨p, q, hA0, hV, rfl, hfz, hnd⟩ := hW
  have hA : DataW.TrodAll enc Tryz.prog W 0 (fun _ => true) true Tryz.f5.params.toList args.toList ds p := hA0
  rw [Tryz.params5] at hA hval
  obtain ⟨v0, vs0, d0, ds0, p0, q0, hargs, rfl, rfl, h0, r0⟩ := trodAll_cons hA
  obtain ⟨v1, vs1, d1, ds1, p1, q1, rfl, rfl, rfl, h1, r1⟩ := trodAll_cons r0
  obtain ⟨rfl, rfl, rfl⟩ := trodAll_nil r1
  obtain rfl : args = #[v0, v1] := by cases args; simp_all
  obtain ⟨rfl, rfl⟩ := trodVars_none hV
  have k0 := h0
  have lt0 : ∀ x ∈ p0, x.block < W.heap.size := by obtain ⟨m, hm⟩ := k0; exact DataW.trod_lt m _ _ _ hm
  obtain ⟨A, c, l0, rfl, hc0, hr0, hb1, hb2⟩ := open_texts (hval 0 32 v0 rfl rfl) h0
  obtain ⟨a1, rfl, rfl, rfl, hwf1⟩ := open_int Tryz.underlying3 (hval 1 3 v1 rfl rfl) h1
  clear hA0
  simp only [List.append_nil] at hW' hk
  have hs := short hk
  obtain ⟨k, hf⟩ := (TF2.fits_pure l0 a1 (bounds_i64 hwf1).2 (by omega) (fun s h => by have := hb2 s h; omega)).rounds
  refine (erratalaw15_LinesFit.calls k A c l0 a1 true W ⟨tab_of W hL, fun V hV => TK.awake_calls V hV⟩ hr0 hc0 hf).mono fun e' W' ⟨he, bel⟩ => ?_
  subst he
  exact ⟨_, rfl, _, _, _, [], _, [], hW', trodAll_mk1 (shut_bool Tryz.underlying4 _), (trodAll_cons_mk (Below.trod laidOut (by kernel_rfl) (of_decide_eq_true (by kernel_rfl)) k0 bel lt0) (trodAll_cons_mk (shut_int Tryz.underlying3 hwf1) trodAll_mk0)), rfl, bel.frame _, fun h => by cases h⟩

noncomputable def laidWorld (os : Os) : World := World.laidAll Tryz.prog os Rows.linesFitUptoRow.laid
def args0 : Array Value := #[.slice none 0 0, .int .i64 0]
def data0 (H : Type) : List (DataW H) := [.nil, .lit (.int .i64 0)]
theorem reads (os : Os) {H : Type} (enc : TypeId × Value → H) : DataW.whole enc Tryz.prog ((laidWorld os).forCall (fun _ _ => 0) ⟨#[], args0, []⟩).memory Tryz.f5.params.toList Rows.linesFitSpec.vars false args0.toList 8 = some (data0 H, [], []) := by kernel_rfl
theorem laid_met (os : Os) : laidMetH Tryz.prog Rows.linesFitUptoRow.laid ((laidWorld os).forCall (fun _ _ => 0) ⟨#[], args0, []⟩).memory := by
  rw [MakeChecks.laidMetH_plain _ _ _ (by kernel_rfl)]
  exact laidMet_laidAll _ (by kernel_rfl) (by kernel_rfl)
theorem shaped (os : Os) : ((laidWorld os).forCall (fun _ _ => 0) ⟨#[], args0, []⟩).Shaped Tryz.prog := World.shaped_of_ZipB (by kernel_rfl) (by kernel_rfl)
theorem oks (os : Os) : Input.okWideB Tryz.prog ((laidWorld os).forCall (fun _ _ => 0) ⟨#[], args0, []⟩) 5 ⟨#[], args0, []⟩ = true := by kernel_rfl
theorem sizes (os : Os) {H : Type} (enc : TypeId × Value → H) : (Rows.OpenSpec.upto Rows.linesFitSpec).bare.sizedB enc Tryz.prog Tryz.f5 false ((laidWorld os).forCall (fun _ _ => 0) ⟨#[], args0, []⟩).memory args0 8 = true := by kernel_rfl
set_option maxRecDepth 100000 in
theorem lifted (os : Os) (started : os.Started) (H : Type) (enc : TypeId × Value → H) (F : Stop.Interp) :
    ReturnsInHanded {} Tryz.checked os 5 .any ((Rows.OpenSpec.upto Rows.linesFitSpec).preRow enc Tryz.prog Tryz.f5 Rows.linesFitUptoRow.domain false Rows.linesFitUptoRow.laid) (((Rows.OpenSpec.upto Rows.linesFitSpec).at F).post enc Tryz.prog Tryz.f5 false true false false) := by
  refine returnsInHanded_of_row (C := Tryz.checked) (s := Rows.OpenSpec.upto Rows.linesFitSpec) own started (by kernel_rfl) Tryz.func5
    ⟨laidWorld os, fun _ _ => 0, ⟨#[], args0, []⟩, World.laidAll_os _ _ _, shaped os, (Input.okWide_of_okWideB (base := 0) (oks os)).1, (Input.okWide_of_okWideB (oks os)).2,
      OpenSpec.preRow_of_cond 8 (reads os enc) (by kernel_rfl) (fun k hk => by cases hk; kernel_rfl) (sizes os enc) (laid_met os), by
        simp only [Assume.holds]
        exact ⟨by simp, by simp, fun _ => Modest.zero, by simp, by simp⟩⟩ ?_
  intro W base args ds gs before hval hW _ hcond _ hL hsh _
  exact contract H enc W base args ds gs before hval hW (hcond _ rfl) hL
set_option maxHeartbeats 8000000 in
theorem said : Rows.LinesFitUptoSaid :=
  OpenClaim.holds_of_cond 5 Tryz.f5 rfl rfl rfl rfl rfl rfl rfl ⟨rfl, rfl, rfl, rfl, rfl⟩ rfl rfl rfl rfl rfl (by kernel_rfl) Tryz.func5 facts
    (of_decide_eq_true (by kernel_rfl)) (by unfold Func.isWrapper; first | (rw [if_pos (by decide +kernel)]; kernel_rfl) | (rw [if_neg (by decide +kernel)]; exact ⟨rfl, rfl⟩))
    (fun os started H enc _ F => by rw [OpenClaim.pre_eq_preRow]; exact lifted os started H enc F)
theorem plain (f : FuncId) (fn : Func) (hf : Tryz.pinned.checked.prog.funcNamed "errata/erratalaw15.LinesFit" = some f) (hfn : Tryz.pinned.checked.prog.funcs[f]? = some fn) :
    true = Tryz.pinned.checked.prog.looks [] ∧ ∀ (j : Nat) t, fn.params[j]? = some t → Tryz.pinned.checked.prog.wantsStandIn t = false := by
  obtain rfl : f = 5 := Option.some.inj ((show Tryz.prog.funcNamed "errata/erratalaw15.LinesFit" = some 5 by kernel_rfl).symm.trans hf) |>.symm
  obtain rfl : fn = Tryz.f5 := (Option.some.inj (Tryz.func5.symm.trans hfn)).symm
  refine ⟨by kernel_rfl, fun j t ht => ?_⟩
  rw [Tryz.params5] at ht
  have ht' : t = 32 ∨ t = 3 := by simpa using Array.mem_of_getElem? ht
  rcases ht' with rfl | rfl
  · exact (show Tryz.prog.wantsStandIn 32 = false by kernel_rfl)
  · exact (show Tryz.prog.wantsStandIn 3 = false by kernel_rfl)
theorem card : Rows.LinesFitUptoCardSaid :=
  Claim7.holds_tied_plain_at .later [] _ _ _ _ said (fun _ h => by cases h) (by kernel_rfl) (fun _ h => by cases h) linesFitUpto_row_tie rfl ⟨rfl, rfl⟩ (by kernel_rfl) rfl plain (by kernel_rfl)
#print axioms card
end Go.Proofs.YtimmafiodhncgaaGreatDoor.linesFit
namespace Go.Proofs.YtimmafiodhncgaaGreatDoor
/-- The card, under a short name, for the claim. -/
theorem linesFit_holds : Rows.LinesFitUptoCardSaid := linesFit.card
end Go.Proofs.YtimmafiodhncgaaGreatDoor
