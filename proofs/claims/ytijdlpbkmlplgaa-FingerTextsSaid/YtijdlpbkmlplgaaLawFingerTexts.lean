/- The row FingerTexts: the program's finger of a text, its digits in one, the finger that a text reads as, a finger's hex and how far two fingers are apart are the document's. -/
import Derived.Test.YtijdlpbkmlplgaaRows
import Derived.Test.YtijdlpbkmlplgaaFingerRead
import Derived.Test.YtijdlpbkmlplgaaFingerDigits
import Derived.WalkKit
import Derived.ProofKit
import Derived.OpenShut
import Derived.ShutString
import Derived.ChangeOld
import Derived.SizedLaws
import Derived.Below
import Derived.WideKeyArr2
set_option linter.unusedVariables false
namespace Go.Proofs.Ytijdlpbkmlplgaa.fingerTexts
open Go.ChangeShapes Go.WideShapes Go.ChangeAt Go.RowKit
open Go.ChangeMaps (open_string shut_string)
open Go.Proofs.Ytijdlpbkmlplgaa.TF Go.Proofs.YtijdlpbkmlplgaaW.PrintWords Go.Proofs.Ytijdlpbkmlplgaa.QG

theorem own : ownKnob Try.prog.godebug = none := by kernel_rfl
theorem laidOut : laidOutB Try.prog = true := by kernel_rfl
theorem cells5 : Try.prog.cellsOf 5 = 1 := by kernel_rfl
theorem cells42 : Try.prog.cellsOf 42 = 16 := by kernel_rfl
theorem arr42 : Go.WideMaps.ArrKey Try.prog 42 5 16 := ⟨Try.underlying42, by kernel_rfl, cells5, cells42⟩
set_option maxRecDepth 100000 in
/-- sixteen bytes, by value, opened -/
theorem open_bytes {H : Type} {enc : TypeId × Value → H} {W : World} {base b0 : Nat} {sp : Nat → Bool} {held : Bool} {r : Reach} {v : Value} {d : DataW H} {ps : List MemPlace}
    (hw : Value.okWide Try.prog W r b0 42 v) (h : DataW.Trod enc Try.prog W base sp held 42 v d ps) : ∃ zs : List Int, zs.length = 16 ∧ v = .agg (arr zs) ∧ ps = [] ∧ ∀ i : Nat, i < 16 → 0 ≤ zs.getD i 0 ∧ zs.getD i 0 < 256 := by
  obtain ⟨xs, rfl, hn⟩ := Go.WideMaps.okWide_arr arr42 hw
  obtain ⟨fuel, hf⟩ := h
  obtain ⟨ys, m, rfl, hx, _, hyl, hat⟩ := DataW.trod_array Try.underlying42 hf
  have hone : ∀ i, i < 16 → ∃ z, xs[i]? = some (.int .u8 z) ∧ 0 ≤ z ∧ z < 256 ∧ (ys[i]?.map (·.2) = some []) := by
    intro i hi
    have h1 := hat i hi
    rw [cells5, Nat.mul_one] at h1
    have hyi : i < ys.length := by omega
    rw [List.getElem?_eq_getElem hyi] at h1
    obtain ⟨z, hz, hzl, hwf⟩ := DataW.trod_int Try.underlying5 h1
    have hxi : i < xs.size := by omega
    have : xs[i]? = some (.int .u8 z) := by
      have h2 : ((Value.agg xs).cells.toList.drop i).take 1 = [.int .u8 z] := hz
      have h3 : (xs.toList.drop i).take 1 = [.int .u8 z] := h2
      have h4 := congrArg (fun l => l[0]?) h3
      simp [List.getElem?_drop] at h4
      simpa using h4
    refine ⟨z, this, ?_, ?_, ?_⟩
    · have := hwf; simp [Lit.wf, IntKind.min, IntKind.max, IntKind.signed, IntKind.bits] at this; omega
    · have := hwf; simp [Lit.wf, IntKind.min, IntKind.max, IntKind.signed, IntKind.bits] at this; omega
    · rw [List.getElem?_eq_getElem hyi, hzl]; rfl
  let num : Value → Int := fun | .int _ z => z | _ => 0
  refine ⟨xs.toList.map num, by simpa using hn, ?_, ?_, fun i hi => ?_⟩
  · congr 1
    apply Array.ext_getElem?
    intro i
    by_cases hi : i < 16
    · obtain ⟨z, hz, _⟩ := hone i hi
      have : (arr (xs.toList.map num))[i]? = some (.int .u8 z) := by
        simp only [arr, List.getElem?_toArray, List.getElem?_map, Array.getElem?_toList, hz, Option.map_some]
        rfl
      rw [hz, this]
    · rw [Array.getElem?_eq_none (by omega), Array.getElem?_eq_none (by simp [arr]; omega)]
  · have h2 : ps = ys.flatMap (·.2) := by
      have := congrArg Prod.snd hx
      exact this
    rw [h2, List.flatMap_eq_nil_iff]
    intro y hy
    obtain ⟨i, hi, rfl⟩ := List.getElem_of_mem hy
    obtain ⟨z, _, _, _, h3⟩ := hone i (by omega)
    rw [List.getElem?_eq_getElem hi] at h3
    exact Option.some.inj h3
  · obtain ⟨z, hz, h0, h1, _⟩ := hone i hi
    have : (xs.toList.map num).getD i 0 = z := by
      simp only [List.getD_eq_getElem?_getD, List.getElem?_map, Array.getElem?_toList, hz, Option.map_some, Option.getD_some]
      rfl
    rw [this]
    exact ⟨h0, h1⟩
set_option maxRecDepth 100000 in
set_option maxHeartbeats 1000000 in
/-- an array is itself -/
theorem eqIn_arr (zs : List Int) (h : zs.length = 16) (W : World) : Sem.run Try.prog (Op.equalIn 10000 43 (.agg (arr zs)) (.agg (arr zs))) W = .ok true W := by
  match zs, h with
  | [z0, z1, z2, z3, z4, z5, z6, z7, z8, z9, z10, z11, z12, z13, z14, z15], _ =>
    show Sem.run Try.prog (Op.equalIn 10000 43 (.agg #[.int .u8 z0, .int .u8 z1, .int .u8 z2, .int .u8 z3, .int .u8 z4, .int .u8 z5, .int .u8 z6, .int .u8 z7, .int .u8 z8, .int .u8 z9, .int .u8 z10, .int .u8 z11, .int .u8 z12, .int .u8 z13, .int .u8 z14, .int .u8 z15]) (.agg #[.int .u8 z0, .int .u8 z1, .int .u8 z2, .int .u8 z3, .int .u8 z4, .int .u8 z5, .int .u8 z6, .int .u8 z7, .int .u8 z8, .int .u8 z9, .int .u8 z10, .int .u8 z11, .int .u8 z12, .int .u8 z13, .int .u8 z14, .int .u8 z15])) W = .ok true W
    have u5 := Try.underlying5
    have a5 := Try.isAgg5
    have s5 := Try.sizeOf5
    rw [show (10000 : Nat) = 9999 + 1 from rfl, Op.equalIn]
    simp only [Sem.run_bind, run_underlying Try.underlying43, Result.andThen_ok]
    simp only [Std.Legacy.Range.forIn_eq_forIn_range', Std.Legacy.Range.size, Nat.sub_zero, Nat.add_sub_cancel, Nat.div_one, List.range'_succ, List.range'_zero, List.forIn_cons, List.forIn_nil]
    go_simp
theorem eql_arr (zs : List Int) (h : zs.length = 16) (W : World) : Sem.run Try.prog (binOp .eql 43 (.agg (arr zs)) (.agg (arr zs))) W = .ok (.bool true) W := by
  rw [run_eql_struct, eqIn_arr zs h W]
  rfl
/-- THE LAW, as the program runs. -/
theorem law_calls (s : ByteArray) (xs ys : List Int) (hs : s.size ≤ 140737488351232) (hx : xs.length = 16) (hy : ys.length = 16) (bx : ∀ i : Nat, i < 16 → 0 ≤ xs.getD i 0 ∧ xs.getD i 0 < 256) (by_ : ∀ i : Nat, i < 16 → 0 ≤ ys.getD i 0 ∧ ys.getD i 0 < 256) (w : World) :
    Calls Try.prog 6 #[.string s, .agg (arr xs), .agg (arr ys)] w fun e w' => e = .returned (.bool true) ∧ Below w.heap.size w w' := by
  have hs' : s.size ≤ 9223372036854775807 := by omega
  obtain ⟨L, c, hL, p1, p2⟩ := parse_both s hs'
  obtain ⟨kd, D, d1, d2⟩ := digits_same s hs
  have bx' : ∀ i : Nat, i < 16 → 0 ≤ rd xs (i : Int) ∧ rd xs (i : Int) < 256 := fun i hi => by
    have e : ((i : Nat) : Int).toNat = i := by omega
    unfold rd
    rw [e]
    exact bx i hi
  obtain ⟨kh, h1, h2⟩ := hex_same xs hx bx'
  have hxor : ∀ i, i < 16 → ∀ x y, xs.getD i 0 = x → ys.getD i 0 = y → 0 ≤ Go.bits .xor .u8 x y ∧ Go.bits .xor .u8 x y < 256 := fun i hi x y ex ey => by
    rw [← ex, ← ey]
    exact xor_u8 _ _ (bx i hi) (by_ i hi)
  have hF : (ofAns s).length = 16 := ofRow_len _ _ _
  exact law_walk s D (strOfNums (hexs xs 16)) (arr xs) (arr ys) (arr (ofAns s)) (arr L) c (apartN xs ys 16) (by rw [arr_size, hx]) (by rw [arr_size, hy]) (by rw [arr_size, hL]) (arr_one _) (arr_one _) (arr_one _)
    p1 p2 (fun w => (of_both s hs' w).1) (fun w => (of_both s hs' w).2) (fun w => finger_Digits.calls kd s D w hs d1) (fun w => errataref29_Digits.calls kd s D w d2)
    (fun w => Ytijdlpbkmlplgaa.QH.finger_Finger_Hex.calls kh xs _ w hx h1) (fun w => Ytijdlpbkmlplgaa.QH.errataref29_Hex.calls kh xs _ w hx h2)
    (fun w => apart_walk xs ys hx hy hxor w) (fun w => apart_ref xs ys hx hy hxor w) (eql_arr _ hF) (eql_arr _ hL) w
set_option maxRecDepth 100000 in
theorem lifted (os : Os) (started : os.Started) (H : Type) (enc : TypeId × Value → H) :
    ReturnsInHanded {} Try.checked os 6 .any (Rows.fingerTextsSpec.pre6 enc Try.prog Try.f6 Rows.fingerTextsRow.domain false) (Rows.fingerTextsSpec.post enc Try.prog Try.f6 false true false false) := by
  refine returnsInHanded_of_change_sized (C := Try.checked) own started (by kernel_rfl) Try.func6
    (ChangeSpec.witness6 (enc := enc) (C := Try.checked) false ⟨#[], #[.string .empty, .agg #[.int .u8 0, .int .u8 0, .int .u8 0, .int .u8 0, .int .u8 0, .int .u8 0, .int .u8 0, .int .u8 0, .int .u8 0, .int .u8 0, .int .u8 0, .int .u8 0, .int .u8 0, .int .u8 0, .int .u8 0, .int .u8 0], .agg #[.int .u8 0, .int .u8 0, .int .u8 0, .int .u8 0, .int .u8 0, .int .u8 0, .int .u8 0, .int .u8 0, .int .u8 0, .int .u8 0, .int .u8 0, .int .u8 0, .int .u8 0, .int .u8 0, .int .u8 0, .int .u8 0]], []⟩ 8 (by kernel_rfl) (by kernel_rfl) (by kernel_rfl) (by kernel_rfl)) ?_
  intro W base args ds gs before hval0 hW hcnd hsz0 _
  have hsz : (DataW.weightsEach Try.prog (Try.f6.params.toList ++ Rows.fingerTextsSpec.plain.varTypes Try.prog) (ds ++ gs)).all (· ≤ reachBytes) = true := hsz0
  have hval : ∀ (j : Nat) t v, Try.f6.params[j]? = some t → args[j]? = some v → Value.okWide Try.prog W .any base t v := hval0
  have hW' := hW
  obtain ⟨p, q, hA0, hV, rfl, hfz, hnd⟩ := hW
  have hA : DataW.TrodAll enc Try.prog W 0 (fun _ => true) true Try.f6.params.toList args.toList ds p := hA0
  rw [Try.params6] at hA hval hsz
  obtain ⟨v0, vs0, d0, ds0, p0, q0, hargs, rfl, rfl, h0, r0⟩ := trodAll_cons hA
  obtain ⟨v1, vs1, d1, ds1, p1, q1, rfl, rfl, rfl, h1, r1⟩ := trodAll_cons r0
  obtain ⟨v2, vs2, d2, ds2, p2, q2, rfl, rfl, rfl, h2, r2⟩ := trodAll_cons r1
  obtain ⟨rfl, rfl, rfl⟩ := trodAll_nil r2
  obtain rfl : args = #[v0, v1, v2] := by cases args; simp_all
  obtain ⟨rfl, rfl⟩ := trodVars_none hV
  obtain ⟨a0, rfl, rfl, rfl, hmax0⟩ := open_string Try.underlying9 (hval 0 9 v0 rfl rfl) h0
  obtain ⟨xs, hx, rfl, rfl, bx⟩ := open_bytes (hval 1 42 v1 rfl rfl) h1
  obtain ⟨ys, hy, rfl, rfl, by_⟩ := open_bytes (hval 2 42 v2 rfl rfl) h2
  have hs : a0.size ≤ 140737488351232 := by
    have h := sized_string hsz (j := 0) (t := 9) (bytes := a0.data.toList) rfl rfl
    rw [show a0.data.toList.length = a0.size by rw [Array.length_toList]; rfl] at h
    exact h
  clear hA0 hval0 hsz0 hsz
  refine (law_calls a0 xs ys hs hx hy bx by_ W).mono fun e W' ⟨he, bel⟩ => ?_
  subst he
  have k1 : DataW.Trod enc Try.prog W' 0 (fun b => decide (b < W.heap.size)) true 42 (.agg (arr xs)) d1 [] := Below.trod laidOut (by kernel_rfl) (of_decide_eq_true (by kernel_rfl)) h1 bel (by simp)
  have k2 : DataW.Trod enc Try.prog W' 0 (fun b => decide (b < W.heap.size)) true 42 (.agg (arr ys)) d2 [] := Below.trod laidOut (by kernel_rfl) (of_decide_eq_true (by kernel_rfl)) h2 bel (by simp)
  exact ⟨_, rfl, _, _, _, [], _, [], hW', trodAll_mk1 (shut_bool Try.underlying4 _), (trodAll_cons_mk (shut_string Try.underlying9 hmax0) (trodAll_cons_mk k1 (trodAll_cons_mk k2 trodAll_mk0))), rfl, bel.frame _, fun h => by cases h⟩
theorem proved : Rows.FingerTextsSaid :=
  OpenClaim.holds_of_wide 6 Try.f6 rfl rfl rfl rfl rfl rfl rfl ⟨rfl, rfl, rfl, rfl, rfl⟩ rfl rfl rfl rfl rfl (by kernel_rfl) Try.func6 (by kernel_rfl)
    (of_decide_eq_true (by kernel_rfl)) (by unfold Func.isWrapper; first | (rw [if_pos (by decide +kernel)]; kernel_rfl) | (rw [if_neg (by decide +kernel)]; exact ⟨rfl, rfl⟩))
    (fun os started H enc _ => lifted os started H enc)
#print axioms proved
end Go.Proofs.Ytijdlpbkmlplgaa.fingerTexts
namespace Go.Proofs.Ytijdlpbkmlplgaa
/-- The row, under a short name, for the claim. -/
theorem fingerTexts_holds : Rows.FingerTextsSaid := fingerTexts.proved
end Go.Proofs.Ytijdlpbkmlplgaa
