/- QB0 QB1 TextRunes RunesLaw RunesNext FitSpec Frame FitWalk -/
import Derived.Test.YtimmafiodhncgaaGreatDoorProg
import Derived.Below
import Derived.Deep.Draws
import Derived.Deep.AppendLies
import Derived.Maps.AppendAt
import Derived.OwnWalk
import Derived.Laws.BytesArg
import Derived.Laws.MakeOwn
import Derived.Laws.OwnMore
import Derived.Deep.OwnRows
import Derived.Tactics
import Derived.Lib.ConvBytes
import Derived.Laws.Slices
import Derived.WalkKit
import Derived.KernelRfl
import Derived.RowKit3
import Derived.Deep.LoopGhost
import Derived.Deep.QuietTactic
import Derived.BigQuiet
import Derived.WideLaws
import Derived.Deep.DeepCutAuto
import Derived.Deep.CutBlock
import Derived.Deep.RegionHeld3
import Derived.Laws.Rows
import Derived.Lib.AppendStr
import Derived.ArgAppend
import Derived.Laws.IdiomCopy
import Derived.OrdersHeld
import Derived.Laws.BitsLemmas
import Derived.RowKit
import Derived.Test.YtimmafiodhncgaaGreatDoorM1
import Derived.Test.YtimmafiodhncgaaGreatDoorM2
import Derived.RangeFuncNested
import Derived.RangeFuncBound
import Derived.RangeFuncCalls
import Derived.RangeFuncLeaves
import Derived.Shelf.Abstract
import Derived.Shelf.RegionOpen
import Derived.OwnWalkIn
import Derived.TacticsInMore
import Derived.LoopNIn
import Derived.LoopIn
import Derived.Lib.OthersKept
import Derived.Lib.Strings
import Derived.Lib.Hide
import Derived.WalkSmall
import Derived.Test.YtimmafiodhncgaaGreatDoorM0
import Derived.RangeFuncBox
import Derived.RangeFuncRecord
import Derived.Handy
section
-- Written by wip/tools/myprint.py of this seat's repo: the kit's print, with contracts of our own for some functions.
namespace Go.Proofs.YtimmafiodhncgaaGreatDoor.QB
open Go.RowKit Go.Proofs.YtimmafiodhncgaaGreatDoorW.PrintWords Go.Proofs.YtimmafiodhncgaaGreatDoorW.PrintLast Go.Proofs.YtimmafiodhncgaaGreatDoorW.PrintMore
attribute [local go_sem] max2_int min2_int max_two min_two max_three min_three max_four min_four   -- for this text's walks alone
set_option linter.unusedVariables false
set_option linter.unusedSimpArgs false



def errW : Option Int → Value
  | none => .nilIface
  | some c => .iface 0 (.int .i64 c)
theorem errW_none : errW none = .nilIface := rfl
theorem errW_some (c : Int) : errW (some c) = .iface 0 (.int .i64 c) := rfl

-- the values' own types

end Go.Proofs.YtimmafiodhncgaaGreatDoor.QB
end
section
-- Written by wip/tools/myprint.py of this seat's repo: the kit's print, with contracts of our own for some functions.
namespace Go.Proofs.YtimmafiodhncgaaGreatDoor.QB
open Go.RowKit Go.Proofs.YtimmafiodhncgaaGreatDoorW.PrintWords Go.Proofs.YtimmafiodhncgaaGreatDoorW.PrintLast Go.Proofs.YtimmafiodhncgaaGreatDoorW.PrintMore
attribute [local go_sem] max2_int min2_int max_two min_two max_three min_three max_four min_four   -- for this text's walks alone
set_option linter.unusedVariables false
set_option linter.unusedSimpArgs false

/-! ### stringslite_HasPrefix: function 147 -/
def stringslite_HasPrefix.f (a0 : ByteArray) (a1 : ByteArray) : Option (Bool) := if (a0.size : Int) ≥ (a1.size : Int) then (if 0 ≤ (a1.size : Int) then (if (a1.size : Int) ≤ (a0.size : Int) then (some ((a0.extract 0 ((a1.size : Int) : Int).toNat).toList == a1.toList)) else (none)) else (none)) else (some false)
set_option maxHeartbeats 8000000 in
set_option maxRecDepth 100000 in
theorem stringslite_HasPrefix.calls (a0 : ByteArray) (a1 : ByteArray) (r : Bool) (w : World) (h : stringslite_HasPrefix.f a0 a1 = some r) :
    Calls Tryz.prog 147 #[.string a0, .string a1] w fun e w' => e = .returned (.bool r) ∧ Drawn0 w w' := by
  have H : (if (a0.size : Int) ≥ (a1.size : Int) then (if 0 ≤ (a1.size : Int) then (if (a1.size : Int) ≤ (a0.size : Int) then (some ((a0.extract 0 ((a1.size : Int) : Int).toNat).toList == a1.toList)) else (none)) else (none)) else (some false)) = some r := h
  clear h
  by_cases c3 : (a0.size : Int) ≥ (a1.size : Int)
  · rw [if_pos c3] at H
    have c3b0 : decide ((a1.size : Int) ≤ (a0.size : Int)) = true := decide_eq_true c3
    have c3b1 : decide (a1.size ≤ a0.size) = true := decide_eq_true (Int.ofNat_le.mp c3)
    clear c3
    by_cases c4 : 0 ≤ (a1.size : Int)
    · rw [if_pos c4] at H
      have c4b0 := eq_true c4
      have c4b1 : decide (0 ≤ (a1.size : Int)) = true := decide_eq_true c4
      clear c4
      by_cases c5 : (a1.size : Int) ≤ (a0.size : Int)
      · rw [if_pos c5] at H
        have c5b0 := eq_true c5
        have c5b1 : decide ((a1.size : Int) ≤ (a0.size : Int)) = true := decide_eq_true c5
        clear c5
        obtain rfl := Option.some.inj H
        go_enter Tryz.func147, Tryz.ntmps147
        go_wp2
        go_ret
        exact ⟨by first | rfl | (simp; done) | (simp [*]; done), by repeat (first | exact Drawn0.refl _ | apply Drawn0.step)⟩
      · rw [if_neg c5] at H
        exact absurd H (by simp)
    · rw [if_neg c4] at H
      exact absurd H (by simp)
  · rw [if_neg c3] at H
    have c3b0 : decide ((a1.size : Int) ≤ (a0.size : Int)) = false := decide_eq_false c3
    have c3b1 : decide (a1.size ≤ a0.size) = false := decide_eq_false (fun h => c3 (Int.ofNat_le.mpr h))
    clear c3
    obtain rfl := Option.some.inj H
    go_enter Tryz.func147, Tryz.ntmps147
    go_wp2
    go_ret
    exact ⟨by first | rfl | (simp; done) | (simp [*]; done), by repeat (first | exact Drawn0.refl _ | apply Drawn0.step)⟩

/-! ### strings_HasPrefix: function 112 -/
def strings_HasPrefix.f (a0 : ByteArray) (a1 : ByteArray) : Option (Bool) := (stringslite_HasPrefix.f a0 a1).bind fun t101 => (some t101)
set_option maxHeartbeats 8000000 in
set_option maxRecDepth 100000 in
theorem strings_HasPrefix.calls (a0 : ByteArray) (a1 : ByteArray) (r : Bool) (w : World) (h : strings_HasPrefix.f a0 a1 = some r) :
    Calls Tryz.prog 112 #[.string a0, .string a1] w fun e w' => e = .returned (.bool r) ∧ Drawn0 w w' := by
  have H : ((stringslite_HasPrefix.f a0 a1).bind fun t101 => (some t101)) = some r := h
  clear h
  replace H := Option.bind_eq_some_iff.mp H
  obtain ⟨t101, A30, H⟩ := H
  replace H : (some t101) = some r := H
  have A3 := Aside0.mk A30
  clear A30
  obtain rfl := Option.some.inj H
  go_enter Tryz.func112, Tryz.ntmps112
  go_wp2_with (first | ((with_reducible refine gate_callee (f := 147) rfl ?_); refine goesL_ (some 7) rfl rfl Tryz.func147 (by kernel_rfl) rfl #[.string a0, .string a1] rfl (by (try simp only [List.map_toArray, List.map_cons, List.map_nil]); first | done | rfl | (simp only [List.length_drop, List.length_take]; rfl)) ?_; (with_reducible refine (stringslite_HasPrefix.calls a0 a1 t101 _ A3.out).mono ?_); rintro e w' ⟨rfl, ⟨nd, rfl⟩⟩; refine ⟨_, rfl, ?_⟩))
  go_ret
  exact ⟨by first | rfl | (simp; done) | (simp [*]; done), by repeat (first | exact Drawn0.refl _ | apply Drawn0.step)⟩

/-! ### text_broken: function 60 -/
def text_broken.f (a0 : ByteArray) (a1 : Int) (a2 : Int) : Option (Bool) := if a2 = 65533 then (if 0 ≤ a1 then (if a1 ≤ (a0.size : Int) then ((strings_HasPrefix.f (a0.extract (a1 : Int).toNat a0.size) (⟨#[239, 191, 189]⟩ : ByteArray)).bind fun t102 => (some (!t102))) else (none)) else (none)) else (some false)
set_option maxHeartbeats 8000000 in
set_option maxRecDepth 100000 in
theorem text_broken.calls (a0 : ByteArray) (a1 : Int) (a2 : Int) (r : Bool) (w : World) (h : text_broken.f a0 a1 a2 = some r) :
    Calls Tryz.prog 60 #[.string a0, .int .i64 a1, .int .i32 a2] w fun e w' => e = .returned (.bool r) ∧ Drawn0 w w' := by
  have H : (if a2 = 65533 then (if 0 ≤ a1 then (if a1 ≤ (a0.size : Int) then ((strings_HasPrefix.f (a0.extract (a1 : Int).toNat a0.size) (⟨#[239, 191, 189]⟩ : ByteArray)).bind fun t102 => (some (!t102))) else (none)) else (none)) else (some false)) = some r := h
  clear h
  by_cases c4 : a2 = 65533
  · rw [if_pos c4] at H
    have c4b0 : (a2 == 65533) = true := beq_iff_eq.mpr c4
    have c4b1 : (a2 != 65533) = false := bne_eq_false_iff_eq.mpr c4
    clear c4
    by_cases c5 : 0 ≤ a1
    · rw [if_pos c5] at H
      have c5b0 := eq_true c5
      have c5b1 : decide (0 ≤ a1) = true := decide_eq_true c5
      clear c5
      by_cases c6 : a1 ≤ (a0.size : Int)
      · rw [if_pos c6] at H
        have c6b0 := eq_true c6
        have c6b1 : decide (a1 ≤ (a0.size : Int)) = true := decide_eq_true c6
        clear c6
        replace H := Option.bind_eq_some_iff.mp H
        obtain ⟨t102, A70, H⟩ := H
        replace H : (some (!t102)) = some r := H
        have A7 := Aside0.mk A70
        clear A70
        obtain rfl := Option.some.inj H
        go_enter Tryz.func60, Tryz.ntmps60
        go_wp2_with (first | (go_at_call 112; (with_reducible refine (strings_HasPrefix.calls (a0.extract (a1 : Int).toNat a0.size) (⟨#[239, 191, 189]⟩ : ByteArray) t102 _ A7.out).mono ?_); rintro e w' ⟨rfl, ⟨nd, rfl⟩⟩))
        go_ret
        exact ⟨by first | rfl | (simp; done) | (simp [*]; done), by repeat (first | exact Drawn0.refl _ | apply Drawn0.step)⟩
      · rw [if_neg c6] at H
        exact absurd H (by simp)
    · rw [if_neg c5] at H
      exact absurd H (by simp)
  · rw [if_neg c4] at H
    have c4b0 : (a2 == 65533) = false := beq_eq_false_iff_ne.mpr c4
    have c4b1 : (a2 != 65533) = true := bne_iff_ne.mpr c4
    obtain rfl := Option.some.inj H
    go_enter Tryz.func60, Tryz.ntmps60
    go_wp2
    go_ret
    exact ⟨by first | rfl | (simp; done) | (simp [*]; done), by repeat (first | exact Drawn0.refl _ | apply Drawn0.step)⟩

end Go.Proofs.YtimmafiodhncgaaGreatDoor.QB
end
section
/- text.Runes: what the iterator hands to each round: every rune of the text in order, with its place; -1 for a byte by itself. Stated for whatever loop body keeps what lay below the iterator's box and every walk's object. -/
namespace Go.Proofs.YtimmafiodhncgaaGreatDoor.TR
open Go.RowKit Go.Shelf Go.Lib Go.Proofs.YtimmafiodhncgaaGreatDoor.TS Go.Proofs.YtimmafiodhncgaaGreatDoorW.PrintWords

theorem get_drop (s : ByteArray) (i k : Nat) : s.get! (i + k) = (s.data.toList.drop i).getD k 0 := by
  show s.data[i + k]! = _
  simp only [List.getD_eq_getElem?_getD, List.getElem?_drop, Array.getElem?_toList, getElem!_def]
  rfl
theorem g_drop (s : ByteArray) (i k : Nat) : (s.get! (i + k)).toNat = g (s.data.toList.drop i) k := by rw [get_drop]; rfl
theorem c_drop (s : ByteArray) (i k : Nat) : (i + k < s.size ∧ g (s.data.toList.drop i) k / 64 = 2) ↔ c (s.data.toList.drop i) k = true := by
  unfold c
  have e : s.data.toList.length = s.size := by rw [Array.length_toList]; rfl
  simp only [Bool.and_eq_true, decide_eq_true_eq, beq_iff_eq, List.length_drop, e]
  constructor <;> (rintro ⟨h1, h2⟩; exact ⟨by omega, h2⟩)
/-- WHAT THE MODEL'S DECODER TELLS IS WHAT IS TAKEN. -/
theorem decode_eq (s : ByteArray) (i : Nat) : Utf8.decode s i = ((take1 (s.data.toList.drop i)).1.getD 65533, (take1 (s.data.toList.drop i)).2) := by
  simp only [Utf8.decode, g_drop, take1, r2, r3, r4, Utf8.runeError, Bool.and_eq_true, beq_iff_eq, decide_eq_true_eq, ge_iff_le]
  simp only [c_drop]
  have hv : ∀ r : Nat, Utf8.valid (r : Int) = may r := fun r => by unfold Utf8.valid may; rw [Bool.eq_iff_iff]; simp; omega
  simp only [hv]
  by_cases h1 : g (s.data.toList.drop i) 0 < 0x80
  · rw [if_pos h1, if_pos h1]; rfl
  · rw [if_neg h1, if_neg h1]
    by_cases h2 : g (s.data.toList.drop i) 0 / 32 = 6 ∧ c (s.data.toList.drop i) 1 = true
    · rw [if_pos h2, if_pos h2]; (split <;> rename_i hh <;> simp [hh])
    · rw [if_neg h2, if_neg h2]
      by_cases h3 : g (s.data.toList.drop i) 0 / 16 = 14 ∧ c (s.data.toList.drop i) 1 = true ∧ c (s.data.toList.drop i) 2 = true
      · rw [if_pos h3, if_pos ⟨⟨h3.1, h3.2.1⟩, h3.2.2⟩]; (split <;> rename_i hh <;> simp [hh])
      · rw [if_neg h3, if_neg (fun h => h3 ⟨h.1.1, h.1.2, h.2⟩)]
        by_cases h4 : g (s.data.toList.drop i) 0 / 8 = 30 ∧ c (s.data.toList.drop i) 1 = true ∧ c (s.data.toList.drop i) 2 = true ∧ c (s.data.toList.drop i) 3 = true
        · rw [if_pos h4, if_pos ⟨⟨⟨h4.1, h4.2.1⟩, h4.2.2.1⟩, h4.2.2.2⟩]; (split <;> rename_i hh <;> simp [hh])
        · rw [if_neg h4, if_neg (fun h => h4 ⟨h.1.1.1, h.1.1.2, h.1.2, h.2⟩)]; rfl
theorem width_pos (s : ByteArray) (i : Nat) : 1 ≤ (Utf8.decode s i).2 := by rw [decode_eq]; exact (take1_width _).1

theorem bytes_length (s : ByteArray) : s.data.toList.length = s.size := by rw [Array.length_toList]; rfl
theorem prefix_eq (s : ByteArray) (i : Nat) (_h : i ≤ s.size) : YtimmafiodhncgaaGreatDoor.QB.strings_HasPrefix.f (s.extract i s.size) (⟨#[239, 191, 189]⟩ : ByteArray) = some (([239, 191, 189] : List UInt8).isPrefixOf (s.data.toList.drop i)) := by
  have e1 : (s.extract i s.size).size = s.size - i := by simp [ByteArray.size_extract]
  have e2 : (⟨#[239, 191, 189]⟩ : ByteArray).size = 3 := rfl
  have ed : (s.extract i s.size).data.toList = s.data.toList.drop i := by
    rw [extract_data, List.take_of_length_le]; rw [List.length_drop, bytes_length]; omega
  have hr := hasPrefix_raw (s.extract i s.size) (⟨#[239, 191, 189]⟩ : ByteArray)
  rw [ed, e1, e2] at hr
  unfold YtimmafiodhncgaaGreatDoor.QB.strings_HasPrefix.f YtimmafiodhncgaaGreatDoor.QB.stringslite_HasPrefix.f
  rw [e1, e2]
  show _ = some (hasPrefix _ _)
  rw [← hr]
  by_cases h3 : 3 ≤ s.size - i
  · rw [if_pos (by omega), if_pos (by omega), if_pos (by omega)]
    simp [h3]
  · rw [if_neg (by omega)]
    simp [h3]
theorem drop_ne (s : ByteArray) (i : Nat) (h : i < s.size) : s.data.toList.drop i ≠ [] := by
  intro e; have := congrArg List.length e; simp only [List.length_drop, bytes_length, List.length_nil] at this; omega
/-- broken tells a byte by itself. -/
theorem broken_eq (s : ByteArray) (i : Nat) (h : i < s.size) : YtimmafiodhncgaaGreatDoor.QB.text_broken.f s i ((Utf8.decode s i).1 : Int) = some (take1 (s.data.toList.drop i)).1.isNone := by
  have hne := drop_ne s i h
  have hfd : enc 65533 = [239, 191, 189] := by decide +kernel
  unfold YtimmafiodhncgaaGreatDoor.QB.text_broken.f
  rw [decode_eq]
  cases e : (take1 (s.data.toList.drop i)).1 with
  | none =>
    have hn := (take1_none_iff _ hne).1 e 65533 (by decide +kernel)
    rw [hfd] at hn
    have hb : ([239, 191, 189] : List UInt8).isPrefixOf (s.data.toList.drop i) = false := by
      rw [Bool.eq_false_iff]; intro hc; exact hn (List.isPrefixOf_iff_prefix.1 hc)
    rw [if_pos (show ((none.getD 65533 : Nat) : Int) = 65533 from rfl), if_pos (by omega), if_pos (by omega)]
    show (YtimmafiodhncgaaGreatDoor.QB.strings_HasPrefix.f (s.extract i s.size) _).bind _ = _
    rw [prefix_eq s i (by omega), hb]; rfl
  | some r =>
    by_cases hr : r = 65533
    · subst hr
      have hp : ([239, 191, 189] : List UInt8) <+: s.data.toList.drop i := by
        rw [← hfd, ← take1_form _ 65533 hne e]; exact List.take_prefix _ _
      have hb : ([239, 191, 189] : List UInt8).isPrefixOf (s.data.toList.drop i) = true := List.isPrefixOf_iff_prefix.2 hp
      rw [if_pos (show (((some 65533).getD 65533 : Nat) : Int) = 65533 from rfl), if_pos (by omega), if_pos (by omega)]
      show (YtimmafiodhncgaaGreatDoor.QB.strings_HasPrefix.f (s.extract i s.size) _).bind _ = _
      rw [prefix_eq s i (by omega), hb]; rfl
    · rw [if_neg (by show ¬ ((r : Int) = 65533); omega)]; rfl
/-- what the iterator hands over where the rest of the text begins at i -/
theorem runesFrom_step (s : ByteArray) (i : Nat) (h : i < s.size) :
    runesFrom i (pieces (s.data.toList.drop i)) = (i, rn (take1 (s.data.toList.drop i)).1) :: runesFrom (i + (Utf8.decode s i).2) (pieces (s.data.toList.drop (i + (Utf8.decode s i).2))) := by
  have hne := drop_ne s i h
  rw [pieces_cons _ hne]
  have hw := take1_le _ hne
  simp only [runesFrom, List.length_take, List.drop_drop]
  rw [Nat.min_eq_left hw, decode_eq]
theorem runesFrom_end (s : ByteArray) (i : Nat) (h : ¬ i < s.size) : runesFrom i (pieces (s.data.toList.drop i)) = [] := by
  have e : s.data.toList.drop i = [] := List.drop_of_length_le (by rw [bytes_length]; omega)
  rw [e]; rfl

theorem iterAt_size (w : World) (k : Nat) (s : ByteArray) (p : Nat) : (w.iterAt k s p).heap.size = w.heap.size := by simp [World.iterAt]
theorem iterAt_other (w : World) (k j : Nat) (s : ByteArray) (p : Nat) (h : j ≠ k) : (w.iterAt k s p).heap[j]? = w.heap[j]? := by
  simp only [World.iterAt]; rw [Array.getElem?_setIfInBounds_ne (by omega)]
theorem iterAt_grown (w : World) (k : Nat) (s : ByteArray) (p : Nat) : w.grownBy (w.iterAt k s p) (some k) :=
  ⟨rfl, rfl, rfl, by rw [iterAt_size]; exact Nat.le_refl _, fun j _ hj => iterAt_other w k j s p (fun e => hj (by rw [e]))⟩
theorem grown_drewN (w : World) (m : Nat) : w.grownBy (w.drewN m) none := ⟨rfl, rfl, rfl, Nat.le_refl _, fun _ _ _ => rfl⟩
/-- what a round keeps, as the iterator asks it -/
def KpB (Bn : Nat) (s : ByteArray) (W W' : World) : Prop := (W.cell? ⟨Bn, 0, none⟩ = some (.string s) → W'.cell? ⟨Bn, 0, none⟩ = some (.string s)) ∧ KeepsWalks W W'
theorem KpB_t {Bn : Nat} {s : ByteArray} {A B C : World} (h : KpB Bn s A B) (k : KpB Bn s B C) : KpB Bn s A C := ⟨fun x => k.1 (h.1 x), h.2.trans k.2⟩
theorem KpB_b {Bn : Nat} {s : ByteArray} (W : World) (l : Nat) (o o' : Obj) (h : W.heap[l]? = some o) (h1 : o.isCells = false) (h2 : o.isWalk = false) : KpB Bn s W (W.putObj l o') := by
  refine ⟨fun hc => ?_, KeepsWalks.putObj _ h h2⟩
  have hne : Bn ≠ l := by
    rintro rfl
    obtain ⟨o2, ho, hc2⟩ := cells_of_cell hc
    rw [h] at ho; cases ho; rw [h1] at hc2; cases hc2
  exact (World.cell?_of_block (World.putObj_heap_other hne)).trans hc

/-- a rune of the text s, with its place -/
abbrev El (s : ByteArray) := { x : Nat × Int // x ∈ runes s.data.toList }
def encs (s : ByteArray) (x : El s) : Array Value := #[.int .i64 x.1.1, .int .i32 x.1.2]
def vals {s : ByteArray} (xs : List (El s)) : List (Nat × Int) := xs.map (·.1)
theorem vals_snoc {s : ByteArray} (xs : List (El s)) (x : El s) : vals (xs ++ [x]) = vals xs ++ [x.1] := by simp [vals]

theorem hmf (fn : Fn) (first cap : Array Value) (w : World) : (Instr.makeFunc fn first cap).run Tryz.prog w = .ok (.func fn first cap) w := rfl
set_option maxRecDepth 100000 in
set_option maxHeartbeats 1000000 in
/-- text.Runes: the text is boxed; the function value captures the box. -/
theorem runes_in (s : ByteArray) (w : World) :
    Calls Tryz.prog 33 #[.string s] w fun e w' => e = .returned (.func (.func 59) #[] #[.pointer (some ⟨w.heap.size, 0, none⟩)]) ∧ w' = w.alloc (.cells #[.string s] 9) := by
  have h := hmf
  go_enter Tryz.func33, Tryz.ntmps33
  go_wp2
  go_ret
  exact ⟨rfl, rfl⟩

set_option maxRecDepth 100000 in
set_option maxHeartbeats 2000000 in
theorem runes1_in (n : Nat) (hn : 1 ≤ n) (l Bn : Nat) (s : ByteArray) (J Jx : List (El s) → World → Prop)
    (W : World) (hJ : AbidesFrom W.heap.size J)
    (hY : ∀ pre x W, J pre W → pre.length < (runes s.data.toList).length → YieldAt Fence.wide (n - 1) Tryz.prog l (encs s x) W fun e W' =>
      (e = .returned (.bool true) ∧ J (pre ++ [x]) W' ∧ KpB Bn s W W') ∨ (e = .returned (.bool false) ∧ Jx (pre ++ [x]) W'))
    (hBn : W.cell? ⟨Bn, 0, none⟩ = some (.string s)) (h0 : J [] W) :
    CallsIn Fence.wide n Tryz.prog 59 #[.func (.yield l) #[] #[], .pointer (some ⟨Bn, 0, none⟩)] W fun e W' => (∃ v, e = .returned v) ∧
      ((∃ ys, vals ys = runes s.data.toList ∧ J ys W') ∨ (∃ pre, vals pre <+: runes s.data.toList ∧ Jx pre W')) := by
  refine callsIn_of_wp Tryz.func59 rfl trivial ?_ rfl
  simp only [Tryz.ntmps59, List.size_toArray, List.length_cons, List.length_nil, Nat.reduceAdd, Nat.reduceSub, Array.replicate_succ, Array.replicate_zero, List.push_toArray, List.append_toArray, List.nil_append, List.cons_append]
  gi_wp2
  have hBlt : Bn < W.heap.size := World.block_lt_of_cell? W _ hBn
  have hcall : ∀ (i : Nat) (w : World), i < s.size → CallsIn Fence.wide (n - 1) Tryz.prog 60 #[.string s, .int .i64 i, .int .i32 (Utf8.decode s i).1] w fun e w' => e = .returned (.bool (take1 (s.data.toList.drop i)).1.isNone) ∧ ∃ m, w' = w.drewN m := by
    intro i w hi
    refine callsIn_wide.2 ((YtimmafiodhncgaaGreatDoor.QB.text_broken.calls s i _ _ w (broken_eq s i hi)).mono ?_)
    rintro e w' ⟨he, hd⟩
    exact ⟨he, hd.out⟩
  gi_loopw [3] (fun _ wr => ∃ (pre : List (El s)) (pos : Nat), wr.heap[W.heap.size]? = some (.stringIter s pos) ∧ runes s.data.toList = vals pre ++ runesFrom pos (pieces (s.data.toList.drop pos)) ∧ J pre wr ∧ wr.cell? ⟨Bn, 0, none⟩ = some (.string s))
    (fun _ wr => s.size - wr.iterPos W.heap.size)
  case atStart =>
    refine ⟨[], 0, World.iter_heap W s 0, by simp [vals, runes], ?_, (((Below.refl W.heap.size W).alloc (Nat.le_refl _) _).cell (p := ⟨Bn, 0, none⟩) hBlt).trans hBn⟩
    exact hJ [] W _ none h0 (World.grownBy_alloc W _ none) (fun r e => by cases e)
  case round =>
    obtain ⟨pre, pos, hit, hx, hJs, hc⟩ := hrel
    have hpos := iterPos_of hit
    by_cases hp : pos < s.size
    · obtain ⟨wn, hwn⟩ : ∃ wn, wr.iterAt W.heap.size s (pos + (Utf8.decode s pos).2) = wn := ⟨_, rfl⟩
      obtain ⟨c, hc0⟩ : ∃ c, (Utf8.decode s pos).1 = c := ⟨_, rfl⟩
      obtain ⟨q, hq⟩ : ∃ q, (take1 (s.data.toList.drop pos)).1 = q := ⟨_, rfl⟩
      have hnx : ∀ ty, (Instr.next (.pointer (some ⟨W.heap.size, 0, none⟩)) true ty).run Tryz.prog wr = .ok (.tuple #[.bool true, .int .i64 pos, .int .i32 c]) wn := fun ty => by
        rw [← hwn, ← hc0]; exact run_next_any_at wr W.heap.size s pos ty hit hp
      rw [runesFrom_step s pos hp, hq] at hx
      have hmem : (pos, rn q) ∈ runes s.data.toList := by rw [hx]; simp
      have hlen : pre.length < (runes s.data.toList).length := by rw [hx]; simp [vals]
      have hJ2 : ∀ m, J pre (wn.drewN m) := fun m => by
        rw [← hwn]
        exact hJ pre _ _ none (hJ pre _ _ _ hJs (iterAt_grown wr W.heap.size s _) (fun r e => by cases e; exact ⟨Nat.le_refl _, _, hit, rfl⟩)) (grown_drewN _ m) (fun r e => by cases e)
      have hi2 : ∀ m, (wn.drewN m).heap[W.heap.size]? = some (.stringIter s (pos + (Utf8.decode s pos).2)) := fun m => by rw [← hwn]; exact iterAt_heap wr W.heap.size s pos _ hit
      have hc1 : wn.cell? ⟨Bn, 0, none⟩ = some (.string s) := by rw [← hwn]; exact (World.cell?_of_block (iterAt_other wr W.heap.size Bn s _ (by omega))).trans hc
      have hc2 : ∀ m, (wn.drewN m).cell? ⟨Bn, 0, none⟩ = some (.string s) := fun _ => hc1
      have hw := width_pos s pos
      have hcl := hcall pos wn hp
      rw [hq, hc0] at hcl
      have hd : (c : Int) = ((q.getD 65533 : Nat) : Int) := by rw [← hc0, decode_eq, hq]
      have HX := Lib.hid hx
      have HP := Lib.hid hpos
      have HD := Lib.hid hd
      have HN := Lib.hid hwn
      clear hx hpos hJs hd hwn hq hc0 hc
      cases q with
      | none =>
        gi_wp2_with (refine ⟨trivial, ?_⟩; gi_at_call 60; refine hcl.mono ?_; rintro e w' ⟨rfl, m, rfl⟩)
        obtain ⟨fn, tmps, assign, body, hy, hR⟩ := hY pre ⟨(pos, rn none), hmem⟩ (wn.drewN m) (hJ2 m) hlen
        dsimp only [encs, rn] at hy
        rw [hy]
        gi_wp2
        refine hR.mono ?_
        rintro e W3 (⟨rfl, hJ3, hk3⟩ | ⟨rfl, hJx3⟩)
        · have hi3 := hk3.2.same _ _ (hi2 m) rfl
          have hp3 := iterPos_of hi3
          gi_wp2
          go_roundw
          case rel => exact ⟨_, pos + (Utf8.decode s pos).2, hi3, HX.out.trans (by rw [vals_snoc, List.append_assoc]; rfl), hJ3, hk3.1 (hc2 m)⟩
          case measure => rw [HP.out, hp3]; omega
        · gi_wp2
          refine bodyPost_ret (results_none rfl _ _ _) rfl ?_
          exact ⟨⟨_, rfl⟩, .inr ⟨_, ⟨_, (by rw [vals_snoc, List.append_assoc]; rfl : _ = _).trans HX.out.symm⟩, hJx3⟩⟩
      | some r =>
        gi_wp2_with (refine ⟨trivial, ?_⟩; gi_at_call 60; refine hcl.mono ?_; rintro e w' ⟨rfl, m, rfl⟩)
        obtain ⟨fn, tmps, assign, body, hy, hR⟩ := hY pre ⟨(pos, rn (some r)), hmem⟩ (wn.drewN m) (hJ2 m) hlen
        dsimp only [encs, rn] at hy
        obtain rfl : c = r := by have := HD.out; simp at this; omega
        rw [hy]
        gi_wp2
        refine hR.mono ?_
        rintro e W3 (⟨rfl, hJ3, hk3⟩ | ⟨rfl, hJx3⟩)
        · have hi3 := hk3.2.same _ _ (hi2 m) rfl
          have hp3 := iterPos_of hi3
          gi_wp2
          go_roundw
          case rel => exact ⟨_, pos + (Utf8.decode s pos).2, hi3, HX.out.trans (by rw [vals_snoc, List.append_assoc]; rfl), hJ3, hk3.1 (hc2 m)⟩
          case measure => rw [HP.out, hp3]; omega
        · gi_wp2
          refine bodyPost_ret (results_none rfl _ _ _) rfl ?_
          exact ⟨⟨_, rfl⟩, .inr ⟨_, ⟨_, (by rw [vals_snoc, List.append_assoc]; rfl : _ = _).trans HX.out.symm⟩, hJx3⟩⟩
    · have hnx : ∀ ty, (Instr.next (.pointer (some ⟨W.heap.size, 0, none⟩)) true ty).run Tryz.prog wr = _ := fun ty => run_next_end_at wr W.heap.size s pos ty hit hp
      rw [runesFrom_end s pos hp, List.append_nil] at hx
      have HX := Lib.hid hx
      clear hx hpos
      gi_wp2
      go_end0
      exact ⟨⟨_, rfl⟩, .inl ⟨pre, HX.out.symm, hJs⟩⟩

/-- **text.Runes(s) TELLS EVERY RUNE OF s WITH ITS PLACE, IN ORDER; or a beginning of them, where a round says 'no more'.** -/
theorem runes_stops (n : Nat) (hn : 1 ≤ n) (Bn : Nat) (s : ByteArray) (w : World) (hc : w.cell? ⟨Bn, 0, none⟩ = some (.string s)) :
    SeqStopsK Fence.wide n Tryz.prog 59 #[.pointer (some ⟨Bn, 0, none⟩)] (encs s) (KpB Bn s) (fun ys => vals ys = runes s.data.toList) (fun pre => vals pre <+: runes s.data.toList) (runes s.data.toList).length w := fun l J Jx W hW hJ _ hY h0 =>
  runes1_in n hn l Bn s J Jx W hJ hY ((hW.cell (p := ⟨Bn, 0, none⟩) (World.block_lt_of_cell? w _ hc)).trans hc) h0

end Go.Proofs.YtimmafiodhncgaaGreatDoor.TR
end
section
/- One law for the statement 'for i, r := range text.Runes(s)': what a caller owes is an invariant on its own cells and one walk of the body. -/
set_option linter.unusedVariables false
set_option linter.unusedSimpArgs false
namespace Go.Proofs.YtimmafiodhncgaaGreatDoor.TR
open Go.RowKit Go.Shelf Go.Lib Go.Proofs.YtimmafiodhncgaaGreatDoor.TS Go.Proofs.YtimmafiodhncgaaGreatDoorW.PrintWords

/-- A step that turns cells alone, none of them below n₀, none of block Bn's. -/
def Turned (n₀ Bn : Nat) (W W' : World) : Prop :=
  W'.os = W.os ∧ W'.tape = W.tape ∧ W'.output = W.output ∧ W.heap.size ≤ W'.heap.size ∧
    ∃ S : Nat → Prop, (∀ k, k < W.heap.size → ¬ S k → W'.heap[k]? = W.heap[k]?) ∧ (∀ k, S k → n₀ ≤ k ∧ k ≠ Bn) ∧ (∀ k o, S k → W.heap[k]? = some o → o.isCells = true)
theorem Turned.refl (n₀ Bn : Nat) (W : World) : Turned n₀ Bn W W := ⟨rfl, rfl, rfl, Nat.le_refl _, fun _ => False, fun _ _ _ => rfl, fun _ h => h.elim, fun _ _ h => h.elim⟩
theorem Turned.below {n₀ Bn : Nat} {W W' : World} (h : Turned n₀ Bn W W') (hn : n₀ ≤ W.heap.size) : Below n₀ W W' := by
  obtain ⟨h1, h2, h3, h4, S, h5, h6, _⟩ := h
  exact ⟨h1, h2, h3, h4, fun k hk => h5 k (by omega) (fun hs => by have := (h6 k hs).1; omega)⟩
theorem Turned.box {n₀ Bn : Nat} {W W' : World} (h : Turned n₀ Bn W W') {t : TypeId} {v : Value} (hb : Boxed W Bn t v) : Boxed W' Bn t v := by
  obtain ⟨_, _, _, _, S, h5, h6, _⟩ := h
  exact (h5 Bn hb.lt (fun hs => (h6 Bn hs).2 rfl)).trans hb
theorem Turned.others {n₀ Bn : Nat} {W W' : World} (h : Turned n₀ Bn W W') : KeepsOthers W W' := by
  obtain ⟨_, _, _, h4, S, h5, _, h7⟩ := h
  exact ⟨h4, fun k o hk ho => (h5 k (Array.getElem?_eq_some_iff.1 hk).1 (fun hs => by rw [h7 k o hs hk] at ho; cases ho)).trans hk⟩
theorem Turned.of_below {n₀ Bn m : Nat} {W W' : World} (h : Below m W W') (hm : W.heap.size ≤ m) : Turned n₀ Bn W W' :=
  ⟨h.os, h.tape, h.output, h.size, fun _ => False, fun k hk _ => h.block k (by omega), fun _ h => h.elim, fun _ _ h => h.elim⟩
theorem Turned.trans {n₀ Bn : Nat} {A B C : World} (h : Turned n₀ Bn A B) (k : Turned n₀ Bn B C) : Turned n₀ Bn A C := by
  obtain ⟨a1, a2, a3, a4, S, a5, a6, a7⟩ := h
  obtain ⟨b1, b2, b3, b4, T, b5, b6, b7⟩ := k
  refine ⟨b1.trans a1, b2.trans a2, b3.trans a3, Nat.le_trans a4 b4, fun k => S k ∨ (T k ∧ ¬ S k), fun k hk hs => ?_, fun k hs => ?_, fun k o hs ho => ?_⟩
  · have h1 : ¬ S k := fun h => hs (.inl h)
    have h2 : ¬ T k := fun h => hs (.inr ⟨h, h1⟩)
    exact (b5 k (by omega) h2).trans (a5 k hk h1)
  · rcases hs with h | h
    · exact a6 k h
    · exact b6 k h.1
  · rcases hs with h | h
    · exact a7 k o h ho
    · exact b7 k o h.1 ((a5 k (Array.getElem?_eq_some_iff.1 ho).1 h.2).trans ho)
/-- a store into a box of the caller's own -/
theorem Turned.set {n₀ Bn b : Nat} {W : World} {t : TypeId} {v : Value} (hb : Boxed W b t v) (hn : n₀ ≤ b) (hne : b ≠ Bn) (u : Value) : Turned n₀ Bn W (W.setCell ⟨b, 0, none⟩ u) :=
  ⟨rfl, rfl, rfl, (KeepsWalks.setCell W _ u).size, fun k => k = b, fun k _ hk => Below.heap_setCell W ⟨b, 0, none⟩ u k hk, fun k hk => by subst hk; exact ⟨hn, hne⟩,
    fun k o hk ho => by subst hk; rw [show W.heap[k]? = _ from hb] at ho; cases ho; rfl⟩
theorem Turned.drewN {n₀ Bn : Nat} {W W' : World} (h : Turned n₀ Bn W W') (m : Nat) : Turned n₀ Bn W (W'.drewN m) := h

/-- what is said of cells alone -/
def OfCells {β : Type} (I : β → World → Prop) : Prop := ∀ (b : β) (W W' : World), I b W → (∀ (k : Nat) (o : Obj), W.heap[k]? = some o → o.isCells = true → W'.heap[k]? = some o) → I b W'
theorem OfCells.own {β : Type} {I : β → World → Prop} (h : OfCells I) : Own I := fun s W W' row hs hg hr => h s W W' hs fun k o hk ho =>
  (grownBy_keeps_cells hg hr hk ho).trans hk
theorem ofCells_boxed {β : Type} (B : β → Nat) (t : TypeId) (v : β → Value) : OfCells (fun b W => Boxed W (B b) t (v b)) := fun _ _ _ h hk => hk _ _ h rfl
theorem OfCells.and {β : Type} {I J : β → World → Prop} (h : OfCells I) (k : OfCells J) : OfCells (fun b W => I b W ∧ J b W) := fun b W W' hs hk => ⟨h b W W' hs.1 hk, k b W W' hs.2 hk⟩
theorem ofCells_pure {β : Type} (p : β → Prop) : OfCells (fun b (_ : World) => p b) := fun _ _ _ h _ => h

/-- HOW THE BODY OF A ROUND MAY BE LEFT. -/
def rpost (n₀ Bn : Nat) (I : List (Nat × Int) → World → Prop) (Ix : Code → List (Nat × Int) → World → Prop) (xs : List (Nat × Int)) (W : World) : Exit → Act → World → Prop
  | .normal, _, W' => Turned n₀ Bn W W' ∧ I xs W'
  | .ret, _, W' => Turned n₀ Bn W W' ∧ Ix .ret xs W'
  | .exit id, _, W' => Turned n₀ Bn W W' ∧ Ix (.exit id) xs W'
  | .goto t, _, W' => Turned n₀ Bn W W' ∧ Ix (.goto t) xs W'
  | .panic _, _, _ => False
  | .outgrown, _, _ => False

set_option maxHeartbeats 1000000 in
theorem wp_runes (n : Nat) (hn : 4 ≤ n) {g : Operand} {ps : Array Tmp} {assign body : Code} {Q : Exit → Act → World → Prop} {a : Act} {w W0 : World} (n₀ Bn : Nat) (s : ByteArray)
    (hg : a.eval g = .func (.func 59) #[] #[.pointer (some ⟨Bn, 0, none⟩)]) (hps : ps.size = 2) (hbox : Boxed w Bn 9 (.string s)) (hW0 : Below n₀ W0 w) (hn₀ : n₀ ≤ W0.heap.size)
    (I : List (Nat × Int) → World → Prop) (Ix : Code → List (Nat × Int) → World → Prop) (hI : OfCells I) (hIx : ∀ c, OfCells (Ix c)) (h0 : I [] w) (a₁ : Nat → Int → Act)
    (hassign : ∀ (l : Nat) (i : Nat) (r : Int) (W : World) (K : Act → World → Prop), K (a₁ i r) W →
      assign.wpIn (Fence.wide.inRound l) (n - 1 - 1) Tryz.prog (Exit.then K (fun _ _ _ => False)) { tmps := (ps.zip #[.int .i64 i, .int .i32 r]).foldl (fun t (p, v) => t.setIfInBounds p v) a.tmps, defers := [] } W)
    (hbody : ∀ (l : Nat) (pre : List (Nat × Int)) (i : Nat) (r : Int) (W : World), I pre W → Below n₀ W0 W → Boxed W Bn 9 (.string s) → w.heap.size ≤ W.heap.size → (i, r) ∈ runes s.data.toList → pre.length < (runes s.data.toList).length →
      body.wpIn (Fence.wide.inRound l) (n - 1 - 1) Tryz.prog (rpost n₀ Bn I Ix (pre ++ [(i, r)]) W) (a₁ i r) W)
    (hdone : ∀ (D : Nat) (W : World), w.heap.size ≤ D → I (runes s.data.toList) W → Below n₀ W0 W → W.heap[D]? = some (.deferred (some [])) → Q .normal { a with defers := { target := .collected D, args := #[] } :: a.defers } W)
    (hstop : ∀ (D : Nat) (c : Code) (pre : List (Nat × Int)) (W : World), w.heap.size ≤ D → pre <+: runes s.data.toList → Ix c pre W → Below n₀ W0 W → W.heap[D]? = some (.deferred (some [])) → c.wpIn Fence.wide n Tryz.prog Q { a with defers := { target := .collected D, args := #[] } :: a.defers } W) :
    (Code.rangeFunc g ps assign body).wpIn Fence.wide n Tryz.prog Q a w := by
  have hseq : SeqStopsK Fence.wide (n - 1) Tryz.prog 59 #[.pointer (some ⟨Bn, 0, none⟩)] (encs s) (KpB Bn s) (fun ys => vals ys = runes s.data.toList) (fun pre => vals pre <+: runes s.data.toList) (runes s.data.toList).length w :=
    runes_stops (n - 1) (by omega) Bn s w hbox.cell
  have hnw : n₀ ≤ w.heap.size := Nat.le_trans hn₀ hW0.size
  refine wpIn_rangeFunc_ownG (n := n) rfl (by omega) hg trivial (enters_of Tryz.func59 (by kernel_rfl) rfl) hseq KpB_t (fun W l o o' _ h h1 h2 => KpB_b W l o o' h h1 h2) (Below.refl _ _) (fun x => by simp [encs, hps])
    (fun pre W => (I (vals pre) W ∧ Boxed W Bn 9 (.string s)) ∧ Below n₀ W0 W ∧ w.heap.size ≤ W.heap.size) (fun c pre W => Ix c (vals pre) W ∧ Below n₀ W0 W)
    (OwnFrom.and (Own.from (fun s' W W' row hs hgr hr => ⟨hI.own _ W W' row hs.1 hgr hr, (ofCells_boxed (fun _ : Unit => Bn) _ (fun _ => .string s)).own () W W' row hs.2 hgr hr⟩) _) (OwnFrom.and (ownFrom_below hn₀ hnw) (fun s' W W' row hs hgr _ => Nat.le_trans hs hgr.size)))
    (fun c => OwnFrom.and (Own.from (I := fun (pre : List (El s)) W => Ix c (vals pre) W) (fun s' W W' row hs hgr hr => (hIx c).own _ W W' row hs hgr hr) _) (ownFrom_below hn₀ hnw))
    ⟨⟨h0, hbox⟩, hW0, Nat.le_refl _⟩ (fun x => a₁ x.1.1 x.1.2) ?_ ?_ ?_ ?_
  · intro l x W K hK
    exact hassign l x.1.1 x.1.2 W K hK
  · rintro l pre x W ⟨⟨hi, hb⟩, hB, hsz⟩ hlt
    have hx : vals (pre ++ [x]) = vals pre ++ [(x.1.1, x.1.2)] := vals_snoc pre x
    have hlen : (vals pre).length = pre.length := by simp [vals]
    refine wpIn_mono (hbody l (vals pre) x.1.1 x.1.2 W hi hB hb hsz x.2 (by rw [hlen]; exact hlt)) ?_
    have hnW : n₀ ≤ W.heap.size := Nat.le_trans hnw hsz
    rintro e a3 W3 hp
    have key : Turned n₀ Bn W W3 → KeepsFrom w.heap.size W W3 ∧ KpB Bn s W W3 ∧ Boxed W3 Bn 9 (.string s) ∧ Below n₀ W0 W3 ∧ w.heap.size ≤ W3.heap.size := fun ht =>
      ⟨ht.others.from _, ⟨fun _ => (ht.box hb).cell, ht.others.walks⟩, ht.box hb, hB.trans (ht.below hnW), Nat.le_trans hsz ht.others.size⟩
    cases e with
    | normal => obtain ⟨k1, k2, k3, k4, k5⟩ := key hp.1; exact ⟨k1, k2, ⟨by rw [hx]; exact hp.2, k3⟩, k4, k5⟩
    | ret => obtain ⟨k1, _, _, k4, _⟩ := key hp.1; exact ⟨k1, by rw [hx]; exact hp.2, k4⟩
    | exit id => obtain ⟨k1, _, _, k4, _⟩ := key hp.1; exact ⟨k1, by rw [hx]; exact hp.2, k4⟩
    | goto t => obtain ⟨k1, _, _, k4, _⟩ := key hp.1; exact ⟨k1, by rw [hx]; exact hp.2, k4⟩
    | panic ch => exact hp.elim
    | outgrown => exact hp.elim
  · rintro D xs W hD hS ⟨⟨hi, _⟩, hB, _⟩ hK
    exact hdone D W hD (by rw [← hS]; exact hi) hB hK
  · rintro D c pre W hD hS ⟨hi, hB⟩ hK
    exact hstop D c (vals pre) W hD hS hi hB hK

end Go.Proofs.YtimmafiodhncgaaGreatDoor.TR
end
section
/- The statement 'for i, r := range text.Runes(s)' once more: the body is told that its rune is the next one. -/
set_option linter.unusedVariables false
set_option linter.unusedSimpArgs false
namespace Go.Proofs.YtimmafiodhncgaaGreatDoor.TR
open Go.RowKit Go.Shelf Go.Lib Go.Proofs.YtimmafiodhncgaaGreatDoor.TS Go.Proofs.YtimmafiodhncgaaGreatDoorW.PrintWords

set_option maxRecDepth 100000 in
set_option maxHeartbeats 2000000 in
theorem runes1_next (n : Nat) (hn : 1 ≤ n) (l Bn : Nat) (s : ByteArray) (J Jx : List (Nat × Int) → World → Prop)
    (W : World) (hJ : AbidesFrom W.heap.size J)
    (hY : ∀ (pre : List (Nat × Int)) (i : Nat) (r : Int) (W : World), J pre W → pre ++ [(i, r)] <+: runes s.data.toList → YieldAt Fence.wide (n - 1) Tryz.prog l #[.int .i64 i, .int .i32 r] W fun e W' =>
      (e = .returned (.bool true) ∧ J (pre ++ [(i, r)]) W' ∧ KpB Bn s W W') ∨ (e = .returned (.bool false) ∧ Jx (pre ++ [(i, r)]) W'))
    (hBn : W.cell? ⟨Bn, 0, none⟩ = some (.string s)) (h0 : J [] W) :
    CallsIn Fence.wide n Tryz.prog 59 #[.func (.yield l) #[] #[], .pointer (some ⟨Bn, 0, none⟩)] W fun e W' => (∃ v, e = .returned v) ∧
      (J (runes s.data.toList) W' ∨ (∃ pre, pre <+: runes s.data.toList ∧ Jx pre W')) := by
  refine callsIn_of_wp Tryz.func59 rfl trivial ?_ rfl
  simp only [Tryz.ntmps59, List.size_toArray, List.length_cons, List.length_nil, Nat.reduceAdd, Nat.reduceSub, Array.replicate_succ, Array.replicate_zero, List.push_toArray, List.append_toArray, List.nil_append, List.cons_append]
  gi_wp2
  have hBlt : Bn < W.heap.size := World.block_lt_of_cell? W _ hBn
  have hcall : ∀ (i : Nat) (w : World), i < s.size → CallsIn Fence.wide (n - 1) Tryz.prog 60 #[.string s, .int .i64 i, .int .i32 (Utf8.decode s i).1] w fun e w' => e = .returned (.bool (take1 (s.data.toList.drop i)).1.isNone) ∧ ∃ m, w' = w.drewN m := by
    intro i w hi
    refine callsIn_wide.2 ((YtimmafiodhncgaaGreatDoor.QB.text_broken.calls s i _ _ w (broken_eq s i hi)).mono ?_)
    rintro e w' ⟨he, hd⟩
    exact ⟨he, hd.out⟩
  gi_loopw [3] (fun _ wr => ∃ (pre : List (Nat × Int)) (pos : Nat), wr.heap[W.heap.size]? = some (.stringIter s pos) ∧ runes s.data.toList = pre ++ runesFrom pos (pieces (s.data.toList.drop pos)) ∧ J pre wr ∧ wr.cell? ⟨Bn, 0, none⟩ = some (.string s))
    (fun _ wr => s.size - wr.iterPos W.heap.size)
  case atStart =>
    refine ⟨[], 0, World.iter_heap W s 0, by simp [runes], ?_, (((Below.refl W.heap.size W).alloc (Nat.le_refl _) _).cell (p := ⟨Bn, 0, none⟩) hBlt).trans hBn⟩
    exact hJ [] W _ none h0 (World.grownBy_alloc W _ none) (fun r e => by cases e)
  case round =>
    obtain ⟨pre, pos, hit, hx, hJs, hc⟩ := hrel
    have hpos := iterPos_of hit
    by_cases hp : pos < s.size
    · obtain ⟨wn, hwn⟩ : ∃ wn, wr.iterAt W.heap.size s (pos + (Utf8.decode s pos).2) = wn := ⟨_, rfl⟩
      obtain ⟨c, hc0⟩ : ∃ c, (Utf8.decode s pos).1 = c := ⟨_, rfl⟩
      obtain ⟨q, hq⟩ : ∃ q, (take1 (s.data.toList.drop pos)).1 = q := ⟨_, rfl⟩
      have hnx : ∀ ty, (Instr.next (.pointer (some ⟨W.heap.size, 0, none⟩)) true ty).run Tryz.prog wr = .ok (.tuple #[.bool true, .int .i64 pos, .int .i32 c]) wn := fun ty => by
        rw [← hwn, ← hc0]; exact run_next_any_at wr W.heap.size s pos ty hit hp
      rw [runesFrom_step s pos hp, hq] at hx
      have hnext : pre ++ [(pos, rn q)] <+: runes s.data.toList := by rw [hx]; exact ⟨_, by rw [List.append_assoc]; rfl⟩
      have hJ2 : ∀ m, J pre (wn.drewN m) := fun m => by
        rw [← hwn]
        exact hJ pre _ _ none (hJ pre _ _ _ hJs (iterAt_grown wr W.heap.size s _) (fun r e => by cases e; exact ⟨Nat.le_refl _, _, hit, rfl⟩)) (grown_drewN _ m) (fun r e => by cases e)
      have hi2 : ∀ m, (wn.drewN m).heap[W.heap.size]? = some (.stringIter s (pos + (Utf8.decode s pos).2)) := fun m => by rw [← hwn]; exact iterAt_heap wr W.heap.size s pos _ hit
      have hc1 : wn.cell? ⟨Bn, 0, none⟩ = some (.string s) := by rw [← hwn]; exact (World.cell?_of_block (iterAt_other wr W.heap.size Bn s _ (by omega))).trans hc
      have hc2 : ∀ m, (wn.drewN m).cell? ⟨Bn, 0, none⟩ = some (.string s) := fun _ => hc1
      have hw := width_pos s pos
      have hcl := hcall pos wn hp
      rw [hq, hc0] at hcl
      have hd : (c : Int) = ((q.getD 65533 : Nat) : Int) := by rw [← hc0, decode_eq, hq]
      have HX := Lib.hid hx
      have HP := Lib.hid hpos
      have HD := Lib.hid hd
      have HN := Lib.hid hwn
      clear hx hpos hJs hd hwn hq hc0 hc
      cases q with
      | none =>
        gi_wp2_with (refine ⟨trivial, ?_⟩; gi_at_call 60; refine hcl.mono ?_; rintro e w' ⟨rfl, m, rfl⟩)
        obtain ⟨fn, tmps, assign, body, hy, hR⟩ := hY pre pos (rn none) (wn.drewN m) (hJ2 m) hnext
        dsimp only [rn] at hy
        rw [hy]
        gi_wp2
        refine hR.mono ?_
        rintro e W3 (⟨rfl, hJ3, hk3⟩ | ⟨rfl, hJx3⟩)
        · have hi3 := hk3.2.same _ _ (hi2 m) rfl
          have hp3 := iterPos_of hi3
          gi_wp2
          go_roundw
          case rel => exact ⟨_, pos + (Utf8.decode s pos).2, hi3, HX.out.trans (by rw [List.append_assoc]; rfl), hJ3, hk3.1 (hc2 m)⟩
          case measure => rw [HP.out, hp3]; omega
        · gi_wp2
          refine bodyPost_ret (results_none rfl _ _ _) rfl ?_
          exact ⟨⟨_, rfl⟩, .inr ⟨_, hnext, hJx3⟩⟩
      | some r =>
        gi_wp2_with (refine ⟨trivial, ?_⟩; gi_at_call 60; refine hcl.mono ?_; rintro e w' ⟨rfl, m, rfl⟩)
        obtain ⟨fn, tmps, assign, body, hy, hR⟩ := hY pre pos (rn (some r)) (wn.drewN m) (hJ2 m) hnext
        dsimp only [rn] at hy
        obtain rfl : c = r := by have := HD.out; simp at this; omega
        rw [hy]
        gi_wp2
        refine hR.mono ?_
        rintro e W3 (⟨rfl, hJ3, hk3⟩ | ⟨rfl, hJx3⟩)
        · have hi3 := hk3.2.same _ _ (hi2 m) rfl
          have hp3 := iterPos_of hi3
          gi_wp2
          go_roundw
          case rel => exact ⟨_, pos + (Utf8.decode s pos).2, hi3, HX.out.trans (by rw [List.append_assoc]; rfl), hJ3, hk3.1 (hc2 m)⟩
          case measure => rw [HP.out, hp3]; omega
        · gi_wp2
          refine bodyPost_ret (results_none rfl _ _ _) rfl ?_
          exact ⟨⟨_, rfl⟩, .inr ⟨_, hnext, hJx3⟩⟩
    · have hnx : ∀ ty, (Instr.next (.pointer (some ⟨W.heap.size, 0, none⟩)) true ty).run Tryz.prog wr = _ := fun ty => run_next_end_at wr W.heap.size s pos ty hit hp
      rw [runesFrom_end s pos hp, List.append_nil] at hx
      have HX := Lib.hid hx
      clear hx hpos
      gi_wp2
      go_end0
      exact ⟨⟨_, rfl⟩, .inl (by rw [HX.out]; exact hJs)⟩


/-- a loop's record is no cells: what is said of cells alone stands when it is put -/
theorem OfCells.put {β : Type} {I : β → World → Prop} (h : OfCells I) {b : β} {W : World} {l : Nat} {o : Obj} (o' : Obj) (hi : I b W) (ho : W.heap[l]? = some o) (hc : o.isCells = false) : I b (W.putObj l o') :=
  h b W _ hi fun k u hk hu => by
    by_cases e : k = l
    · subst e; rw [ho] at hk; cases hk; rw [hc] at hu; cases hu
    · exact (World.putObj_heap_other e).trans hk
theorem OfCells.abides {β : Type} {I : β → World → Prop} (h : OfCells I) {B : Nat} {b : β} {W W' : World} {row : Option Nat} (hi : I b W) (hg : W.grownBy W' row) (hr : ∀ r, row = some r → B ≤ r ∧ ∃ o : Obj, W.heap[r]? = some o ∧ o.isWalk = true) : I b W' :=
  h b W W' hi fun k o hk ho => (grownBy_keeps_cells hg (fun r e => by obtain ⟨_, u, hu, hw⟩ := hr r e; exact ⟨u, hu, Obj.not_cells_of_walk hw⟩) hk ho).trans hk

set_option maxHeartbeats 1000000 in
/-- THE STATEMENT, where the body is told that its rune is the next one. -/
theorem wp_runes_next (n : Nat) (hn : 4 ≤ n) {g : Operand} {ps : Array Tmp} {assign body : Code} {Q : Exit → Act → World → Prop} {a : Act} {w W0 : World} (n₀ Bn : Nat) (s : ByteArray)
    (hg : a.eval g = .func (.func 59) #[] #[.pointer (some ⟨Bn, 0, none⟩)]) (hps : ps.size = 2) (hbox : Boxed w Bn 9 (.string s)) (hW0 : Below n₀ W0 w) (hn₀ : n₀ ≤ W0.heap.size)
    (I : List (Nat × Int) → World → Prop) (Ix : Code → List (Nat × Int) → World → Prop) (hI : OfCells I) (hIx : ∀ c, OfCells (Ix c)) (h0 : I [] w) (a₁ : Nat → Int → Act)
    (hassign : ∀ (l : Nat) (i : Nat) (r : Int) (W : World) (K : Act → World → Prop), K (a₁ i r) W →
      assign.wpIn (Fence.wide.inRound l) (n - 1 - 1) Tryz.prog (Exit.then K (fun _ _ _ => False)) { tmps := (ps.zip #[.int .i64 i, .int .i32 r]).foldl (fun t (p, v) => t.setIfInBounds p v) a.tmps, defers := [] } W)
    (hbody : ∀ (l : Nat) (pre : List (Nat × Int)) (i : Nat) (r : Int) (W : World), I pre W → Below n₀ W0 W → Boxed W Bn 9 (.string s) → w.heap.size ≤ W.heap.size → pre ++ [(i, r)] <+: runes s.data.toList →
      body.wpIn (Fence.wide.inRound l) (n - 1 - 1) Tryz.prog (rpost n₀ Bn I Ix (pre ++ [(i, r)]) W) (a₁ i r) W)
    (hdone : ∀ (D : Nat) (W : World), w.heap.size ≤ D → I (runes s.data.toList) W → Below n₀ W0 W → (∀ (k : Nat) (o : Obj), w.heap[k]? = some o → o.isCells = false → W.heap[k]? = some o) → W.heap[D]? = some (.deferred (some [])) → Q .normal { a with defers := { target := .collected D, args := #[] } :: a.defers } W)
    (hstop : ∀ (D : Nat) (c : Code) (pre : List (Nat × Int)) (W : World), w.heap.size ≤ D → pre <+: runes s.data.toList → Ix c pre W → Below n₀ W0 W → (∀ (k : Nat) (o : Obj), w.heap[k]? = some o → o.isCells = false → W.heap[k]? = some o) → W.heap[D]? = some (.deferred (some [])) → c.wpIn Fence.wide n Tryz.prog Q { a with defers := { target := .collected D, args := #[] } :: a.defers } W) :
    (Code.rangeFunc g ps assign body).wpIn Fence.wide n Tryz.prog Q a w := by
  have hnw : n₀ ≤ w.heap.size := Nat.le_trans hn₀ hW0.size
  refine wpIn_rangeFunc fun fn hfn => ?_
  rw [show Fence.wide.round = none from rfl]
  obtain ⟨D, hD⟩ : ∃ D, w.heap.size = D := ⟨_, rfl⟩
  obtain ⟨rec, hrec⟩ : ∃ rec : LoopState → Option Code → Loop, rec = fun st pe => { state := st, pending := pe, fn, tmps := a.tmps, params := ps, assign, body, defers := D } := ⟨_, rfl⟩
  obtain ⟨W1, hW1⟩ : ∃ W1, (w.alloc (.deferred (some []))).alloc (.loop (rec .ready none)) = W1 := ⟨_, rfl⟩
  have hL1 : W1.heap[D + 1]? = some (.loop (rec .ready none)) := by
    rw [← hW1, ← hD]; have := World.alloc_heap_new (w.alloc (.deferred (some []))) (.loop (rec .ready none)); rwa [World.size_alloc] at this
  have hK1 : W1.heap[D]? = some (.deferred (some [])) := by
    rw [← hW1, ← hD]; exact (Below.heap_alloc _ _ _ (by simp)).trans (World.alloc_heap_new w _)
  have hsz1 : W1.heap.size = D + 2 := by rw [← hW1, ← hD]; simp
  have hB1 : Below n₀ W0 W1 := by rw [← hW1]; exact (hW0.alloc hnw _).alloc (by simp; omega) _
  have hcells : ∀ (k : Nat) (o : Obj), w.heap[k]? = some o → o.isCells = true → W1.heap[k]? = some o := fun k o hk _ => by
    have hlt := (Array.getElem?_eq_some_iff.1 hk).1
    rw [← hW1]
    exact (Below.heap_alloc _ _ _ (by simp; omega)).trans ((Below.heap_alloc _ _ _ hlt).trans hk)
  have hI1 : I [] W1 := hI _ _ _ h0 hcells
  have hO1 : ∀ (k : Nat) (o : Obj), w.heap[k]? = some o → o.isCells = false → W1.heap[k]? = some o := fun k o hk _ => by
    have hlt := (Array.getElem?_eq_some_iff.1 hk).1
    rw [← hW1]
    exact (Below.heap_alloc _ _ _ (by simp; omega)).trans ((Below.heap_alloc _ _ _ hlt).trans hk)
  have hbox1 : Boxed W1 Bn 9 (.string s) := hcells _ _ hbox rfl
  have hBcells : OfCells (fun (_ : Unit) W => Boxed W Bn 9 (.string s)) := ofCells_boxed (fun _ => Bn) _ (fun _ => .string s)
  -- what lies at a block that is no walk's stands
  have stays : ∀ {A B : World} {row : Option Nat} {k : Nat} {o : Obj}, A.grownBy B row → (∀ r, row = some r → W1.heap.size ≤ r ∧ ∃ o : Obj, A.heap[r]? = some o ∧ o.isWalk = true) → k < W1.heap.size → A.heap[k]? = some o → B.heap[k]? = some o :=
    fun hg hr hk ho => (hg.block _ (Array.getElem?_eq_some_iff.1 ho).1 (fun e => by have := (hr _ e.symm).1; omega)).trans ho
  have below : ∀ {A B : World} {row : Option Nat}, Below n₀ W0 A → D ≤ A.heap.size → A.grownBy B row → (∀ r, row = some r → W1.heap.size ≤ r ∧ ∃ o : Obj, A.heap[r]? = some o ∧ o.isWalk = true) → Below n₀ W0 B :=
    fun hb hz hg hr => hb.grown hg (by omega) (fun k e => by have := (hr k e).1; omega)
  have hJ : AbidesFrom W1.heap.size (fun pre W => (I pre W ∧ Boxed W Bn 9 (.string s) ∧ Below n₀ W0 W ∧ D ≤ W.heap.size ∧ (∀ (k : Nat) (o : Obj), w.heap[k]? = some o → o.isCells = false → W.heap[k]? = some o)) ∧ W.heap[D + 1]? = some (.loop (rec .ready none)) ∧ W.heap[D]? = some (.deferred (some []))) :=
    fun pre A B row hs hg hr => ⟨⟨hI.abides hs.1.1 hg hr, hBcells.abides (b := ()) hs.1.2.1 hg hr, below hs.1.2.2.1 hs.1.2.2.2.1 hg hr, Nat.le_trans hs.1.2.2.2.1 hg.size, fun k o hk ho => stays hg hr (by have := (Array.getElem?_eq_some_iff.1 hk).1; omega) (hs.1.2.2.2.2 k o hk ho)⟩, stays hg hr (by omega) hs.2.1, stays hg hr (by omega) hs.2.2⟩
  refine ⟨D + 1, [{ target := .collected D, args := #[] }], W1, { target := .fn (.func 59) #[.pointer (some ⟨Bn, 0, none⟩)], args := #[.func (.yield (D + 1)) #[] #[]] }, W1, 59,
    #[.func (.yield (D + 1)) #[] #[]] ++ #[.pointer (some ⟨Bn, 0, none⟩)], W1, ?_, ?_, ?_, ?_, fun _ => by omega, ?_⟩
  · rw [← hW1, hrec, ← hD]; exact run_enterLoop_outer _ _ _ _ _
  · simp only [resolve, hg]
    simp [go_sem]
  · intro f' _; exact trivial
  · simp [invoke, go_sem, enters_of Tryz.func59 (by kernel_rfl) rfl]
  refine (runes1_next (n - 1) (by omega) (D + 1) Bn s _
    (fun pre W => ∃ c, (Ix c pre W ∧ Below n₀ W0 W ∧ D ≤ W.heap.size ∧ (∀ (k : Nat) (o : Obj), w.heap[k]? = some o → o.isCells = false → W.heap[k]? = some o)) ∧ W.heap[D + 1]? = some (.loop (rec .done (some c))) ∧ W.heap[D]? = some (.deferred (some []))) W1 hJ ?_ hbox1.cell ⟨⟨hI1, hbox1, hB1, by omega, hO1⟩, hL1, hK1⟩).mono ?_
  · rintro pre i r W ⟨⟨hi, hb, hB, hz, hO⟩, hl, hk⟩ hnext
    have hlt := (Array.getElem?_eq_some_iff.1 hl).1
    have hy := run_yield (P := Tryz.prog) (args := #[.int .i64 i, .int .i32 r]) hl (by rw [hrec]; exact hps.symm)
    rw [hrec] at hy
    refine ⟨fn, _, assign, body, hy, roundIn_of_wpIn hfn (hassign _ i r W _ ⟨_, run_beginRound hl (by rw [hrec]), ?_⟩)⟩
    obtain ⟨V, hV⟩ : ∃ V, W.putObj (D + 1) (.loop { rec .ready none with state := .busy }) = V := ⟨_, rfl⟩
    rw [hV]
    have v1 : V.heap[D + 1]? = some (.loop { rec .ready none with state := .busy }) := by rw [← hV]; exact World.putObj_heap_same hlt
    have v2 : V.heap[D]? = some (.deferred (some [])) := by rw [← hV]; exact (World.putObj_heap_other (by omega)).trans hk
    have v3 : KpB Bn s W V := by rw [← hV]; exact KpB_b W (D + 1) _ _ hl rfl rfl
    have v4 : I pre V := by rw [← hV]; exact hI.put _ hi hl rfl
    have v5 : Boxed V Bn 9 (.string s) := by rw [← hV]; exact hBcells.put (b := ()) _ hb hl rfl
    have vz : D ≤ V.heap.size := by rw [← hV]; simpa [World.putObj] using hz
    have v6 : Below n₀ W0 V := by rw [← hV]; exact hB.grown (grownBy_putObj' W (D + 1) _) (by omega) (fun k e => by cases e; omega)
    refine wpIn_mono (hbody (D + 1) pre i r V v4 v6 v5 (by omega) hnext) ?_
    have fin : ∀ (jump : Option Code) (X : World), Turned n₀ Bn V X → ∃ Y, (Instr.endRound (D + 1) jump).run Tryz.prog X = .ok (.bool jump.isNone) Y ∧ Y = X.putObj (D + 1) (.loop (rec (if jump.isNone then .ready else .done) jump)) ∧
        X.heap[D + 1]? = some (.loop { rec .ready none with state := .busy }) ∧ Y.heap[D + 1]? = some (.loop (rec (if jump.isNone then .ready else .done) jump)) ∧ Y.heap[D]? = some (.deferred (some [])) ∧ Below n₀ W0 Y ∧ D ≤ Y.heap.size ∧ (∀ (k : Nat) (o : Obj), w.heap[k]? = some o → o.isCells = false → Y.heap[k]? = some o) := by
      intro jump X ht
      have x1 := ht.others.same _ _ v1 rfl
      have hlt1 := (Array.getElem?_eq_some_iff.1 x1).1
      have he := run_endRound (P := Tryz.prog) jump x1
      refine ⟨_, he, by rw [hrec], x1, by rw [World.putObj_heap_same hlt1, hrec], (World.putObj_heap_other (by omega)).trans (ht.others.same _ _ v2 rfl), ?_, ?_, ?_⟩
      · exact (v6.trans (ht.below (by omega))).grown (grownBy_putObj' X (D + 1) _) (by omega) (fun k e => by cases e; omega)
      · have := ht.others.size; simp [World.putObj]; omega
      · intro k o hk ho
        have hlt2 := (Array.getElem?_eq_some_iff.1 hk).1
        have e1 : V.heap[k]? = some o := by rw [← hV]; exact (World.putObj_heap_other (by omega)).trans (hO k o hk ho)
        exact (World.putObj_heap_other (by omega)).trans (ht.others.same _ _ e1 ho)
    rintro e a3 X hp
    cases e with
    | normal =>
      obtain ⟨ht, hi3⟩ := hp
      obtain ⟨Y, y1, y2, x1, y3, y4, y5, y6, y7⟩ := fin none X ht
      refine ⟨_, Y, y1, .inl ⟨rfl, ⟨⟨?_, ?_, y5, y6, y7⟩, y3, y4⟩, ?_⟩⟩
      · rw [y2]; exact hI.put _ hi3 x1 rfl
      · rw [y2]; exact hBcells.put (b := ()) _ (ht.box v5) x1 rfl
      · rw [y2]
        exact KpB_t v3 (KpB_t ⟨fun _ => (ht.box v5).cell, ht.others.walks⟩ (KpB_b X (D + 1) _ _ x1 rfl rfl))
    | ret =>
      obtain ⟨ht, hi3⟩ := hp
      obtain ⟨Y, y1, y2, x1, y3, y4, y5, y6, y7⟩ := fin (some .ret) X ht
      exact ⟨_, Y, y1, .inr ⟨rfl, .ret, ⟨by rw [y2]; exact (hIx _).put _ hi3 x1 rfl, y5, y6, y7⟩, y3, y4⟩⟩
    | exit id =>
      obtain ⟨ht, hi3⟩ := hp
      obtain ⟨Y, y1, y2, x1, y3, y4, y5, y6, y7⟩ := fin (some (.exit id)) X ht
      exact ⟨_, Y, y1, .inr ⟨rfl, .exit id, ⟨by rw [y2]; exact (hIx _).put _ hi3 x1 rfl, y5, y6, y7⟩, y3, y4⟩⟩
    | goto t =>
      obtain ⟨ht, hi3⟩ := hp
      obtain ⟨Y, y1, y2, x1, y3, y4, y5, y6, y7⟩ := fin (some (.goto t)) X ht
      exact ⟨_, Y, y1, .inr ⟨rfl, .goto t, ⟨by rw [y2]; exact (hIx _).put _ hi3 x1 rfl, y5, y6, y7⟩, y3, y4⟩⟩
    | panic ch => exact hp.elim
    | outgrown => exact hp.elim
  · rintro e X ⟨⟨v, rfl⟩, (⟨⟨hi, hb, hB, hz, hO⟩, hl, hk⟩ | ⟨pre, hpre, c, ⟨hi, hB, hz, hO⟩, hl, hk⟩)⟩
    · have he := run_endLoop (P := Tryz.prog) hl (by rw [hrec]; simp)
      have hnone : (rec .ready none).pending = none := by rw [hrec]
      rw [hnone] at he
      exact ⟨none, _, he, hdone D _ (by omega) (hI.put _ hi hl rfl) (hB.grown (grownBy_putObj' X (D + 1) _) (by omega) (fun k e => by cases e; omega)) (fun k o h1 h2 => (World.putObj_heap_other (by have := (Array.getElem?_eq_some_iff.1 h1).1; omega)).trans (hO k o h1 h2)) ((World.putObj_heap_other (by omega)).trans hk)⟩
    · have he := run_endLoop (P := Tryz.prog) hl (by rw [hrec]; simp)
      have hsome : (rec .done (some c)).pending = some c := by rw [hrec]
      rw [hsome] at he
      exact ⟨some c, _, he, hstop D c pre _ (by omega) hpre ((hIx c).put _ hi hl rfl) (hB.grown (grownBy_putObj' X (D + 1) _) (by omega) (fun k e => by cases e; omega)) (fun k o h1 h2 => (World.putObj_heap_other (by have := (Array.getElem?_eq_some_iff.1 h1).1; omega)).trans (hO k o h1 h2)) ((World.putObj_heap_other (by omega)).trans hk)⟩
end Go.Proofs.YtimmafiodhncgaaGreatDoor.TR
end
section
/- What lines.Fit computes: of each text what fits. -/
set_option linter.unusedVariables false
namespace Go.Proofs.YtimmafiodhncgaaGreatDoor.TX
open Go.RowKit Go.Proofs.YtimmafiodhncgaaGreatDoor.TS Go.Proofs.YtimmafiodhncgaaGreatDoor.TR Go.Proofs.YtimmafiodhncgaaGreatDoorW.PrintWords

/-- where the rune number n stands -/
def endOf (width : Int) (pre : List (Nat × Int)) : Int := if width ≤ (pre.length : Int) then ((pre.getD (width.toNat - 1) (0, 0)).1 : Int) else 0
def fit1 (width : Int) (s : ByteArray) : ByteArray :=
  if width < ((runes s.data.toList).length : Int) then s.extract 0 (endOf width (runes s.data.toList)).toNat ++ (⟨#[126]⟩ : ByteArray) else s
def okText (s : ByteArray) : Prop := s.size ≤ 1073741824
instance (s : ByteArray) : Decidable (okText s) := inferInstanceAs (Decidable (_ ≤ _))
def lines_Fit.f (l0 : List ByteArray) (a1 : Int) : Option (List ByteArray × Int) :=
  if a1 < 1 then some ([], 1) else if l0.length ≤ 1073741824 ∧ ∀ s ∈ l0, okText s then some (l0.map (fit1 a1), 0) else none
def erratalaw15_awake.f : Option Bool := some true
end Go.Proofs.YtimmafiodhncgaaGreatDoor.TX
end
section
/- Blocks known whole; what a call leaves alone: all blocks of before but those of a set. -/
set_option linter.unusedVariables false
set_option linter.unusedSimpArgs false
namespace Go.Proofs.YtimmafiodhncgaaGreatDoor.TF
open Go.RowKit

/-- block g is the cells cs of element type t, none frozen -/
def Blk (w : World) (g : Nat) (t : TypeId) (cs : Array Value) : Prop := w.heap[g]? = some (.cells cs t (0, 0))
/-- a call's frame: the blocks of before, but those of S, are as they were -/
structure Fr (S : Nat → Prop) (W V : World) : Prop where
  os : V.os = W.os
  tape : V.tape = W.tape
  output : V.output = W.output
  size : W.heap.size ≤ V.heap.size
  block : ∀ k, k < W.heap.size → ¬ S k → V.heap[k]? = W.heap[k]?
section
variable {S S' : Nat → Prop} {W V U : World} {g n base size : Nat} {t e : TypeId} {cs : Array Value} {v : Value} {xs : List Value}
theorem Fr.refl (S : Nat → Prop) (W : World) : Fr S W W := ⟨rfl, rfl, rfl, Nat.le_refl _, fun _ _ _ => rfl⟩
theorem Fr.of (h : Below W.heap.size W V) : Fr S W V := ⟨h.os, h.tape, h.output, h.size, fun k hk _ => h.block k hk⟩
theorem Fr.mono (h : Fr S W V) (hs : ∀ k, S k → S' k) : Fr S' W V := ⟨h.os, h.tape, h.output, h.size, fun k hk hn => h.block k hk (fun hk' => hn (hs k hk'))⟩
theorem Fr.trans (h : Fr S W V) (h' : Fr S' V U) (hs : ∀ k, S' k → S k ∨ W.heap.size ≤ k) : Fr S W U :=
  ⟨h'.os.trans h.os, h'.tape.trans h.tape, h'.output.trans h.output, Nat.le_trans h.size h'.size, fun k hk hn => (h'.block k (Nat.lt_of_lt_of_le hk h.size) (fun hk' => by rcases hs k hk' with h1 | h1; exact hn h1; omega)).trans (h.block k hk hn)⟩
theorem Fr.below {m : Nat} (h : Fr S W V) (hm : m ≤ W.heap.size) (hs : ∀ k, S k → m ≤ k) : Below m W V :=
  ⟨h.os, h.tape, h.output, h.size, fun k hk => h.block k (by omega) (fun hk' => by have := hs k hk'; omega)⟩
theorem Fr.then_ (h : Fr S W V) (h' : Below V.heap.size V U) : Fr S W U := h.trans (S' := fun _ => False) (Fr.of h') (fun _ hk => hk.elim)
theorem Fr.alloc (h : Fr S W V) (o : Obj) : Fr S W (V.alloc o) := h.then_ ((Below.refl _ V).alloc (Nat.le_refl _) o)
theorem Fr.drew (h : Fr S W V) : Fr S W V.drew := h.then_ (Below.refl _ V).drew
theorem Fr.drewN (h : Fr S W V) (m : Nat) : Fr S W (V.drewN m) := by
  induction m with
  | zero => exact h
  | succ m ih => exact ih.drew
theorem Fr.set (h : Fr S W V) {p : Addr} (hp : S p.block ∨ W.heap.size ≤ p.block) (u : Value) : Fr S W (V.setCell p u) :=
  ⟨h.os, h.tape, h.output, by rw [World.size_setCell]; exact h.size, fun k hk hn => (Below.heap_setCell V p u k (fun e => by subst e; rcases hp with h1 | h1; exact hn h1; omega)).trans (h.block k hk hn)⟩
theorem Blk.lt (h : Blk W g t cs) : g < W.heap.size := (Array.getElem?_eq_some_iff.1 h).1
theorem Blk.cell (h : Blk W g t cs) (i : Nat) : W.cell? ⟨g, i, none⟩ = cs[i]? := cell_of_row W g i cs t (0, 0) h
theorem Blk.frozen (h : Blk W g t cs) (i : Nat) : W.frozen? ⟨g, i, none⟩ = false := by
  unfold Blk at h
  simp [World.frozen?, h]
theorem Blk.new (W : World) (t : TypeId) (cs : Array Value) : Blk (W.alloc (.cells cs t)) W.heap.size t cs := World.alloc_heap_new W _
theorem Blk.set_ (h : Blk W g t cs) (i : Nat) (u : Value) : Blk (W.setCell ⟨g, i, none⟩ u) g t (cs.setIfInBounds i u) := by
  unfold Blk at h ⊢
  simp [World.setCell, Array.getElem?_modify, h]
theorem Blk.far (h : Blk W g t cs) {p : Addr} (hp : g ≠ p.block) (u : Value) : Blk (W.setCell p u) g t cs := (Below.heap_setCell W p u g hp).trans h
theorem Blk.fr (h : Blk W g t cs) (hf : Fr S W V) (hg : ¬ S g) : Blk V g t cs := (hf.block g h.lt hg).trans h
theorem Blk.next (h : Blk W g t cs) (hb : Below W.heap.size W V) : Blk V g t cs := (hb.block g h.lt).trans h
theorem Blk.under {m : Nat} (h : Blk W g t cs) (hb : Below m W V) (hg : g < m) : Blk V g t cs := (hb.block g hg).trans h
theorem Blk.ne_ {g' : Nat} {t' : TypeId} {cs' : Array Value} (h : Blk W g t cs) (h' : Blk W g' t' cs') (hne : t ≠ t') : g ≠ g' := by
  rintro rfl
  unfold Blk at h h'
  rw [h] at h'
  injection h' with h'
  injection h' with _ ht
  exact hne ht
theorem own_fr (h : W.ownsRow base e size v n xs) (hf : Fr S W V) (hs : ∀ k, v.ownBlock = some k → ¬ S k) : V.ownsRow base e size v n xs := by
  obtain ⟨h1, h2⟩ := h
  refine ⟨h1, ?_⟩
  rcases h2 with h2 | ⟨g, cap, cur, rfl, hg, hh, r⟩
  · exact .inl h2
  · exact .inr ⟨g, cap, cur, rfl, hg, (hf.block g (Array.getElem?_eq_some_iff.1 hh).1 (hs g (by simp [Value.ownBlock]))).trans hh, r⟩
theorem own_next (h : W.ownsRow base e size v n xs) (hb : Below W.heap.size W V) : V.ownsRow base e size v n xs := own_fr (S := fun _ => False) h (Fr.of hb) (fun _ _ hk => hk)
theorem own_lower {base' : Nat} (h : W.ownsRow base e size v n xs) (hb : base' ≤ base) : W.ownsRow base' e size v n xs := by
  obtain ⟨h0, h1 | ⟨g, cap, cur, h1, h2, h3⟩⟩ := h
  · exact ⟨h0, .inl h1⟩
  · exact ⟨h0, .inr ⟨g, cap, cur, h1, Nat.le_trans hb h2, h3⟩⟩
theorem own_slice (h : W.ownsRow base e size v n xs) : ∃ A c, v = .slice A n c := by
  rcases h with ⟨_, ⟨rfl, rfl⟩ | ⟨g, cap, cur, rfl, _⟩⟩
  · exact ⟨_, _, rfl⟩
  · exact ⟨_, _, rfl⟩
theorem own_some {A : Option Addr} {c : Nat} (h : W.ownsRow base e size (.slice A n c) n xs) (hn : 0 < n) : ∃ g, A = some ⟨g, 0, none⟩ := by
  rcases h.2 with ⟨_, h0⟩ | ⟨g, cap, cur, hv, _⟩
  · omega
  · injection hv with h1 _ _
    exact ⟨g, h1⟩
theorem own_typed (h : W.ownsRow base e size v n xs) {k : Nat} (hk : v.ownBlock = some k) : ∃ cells, W.heap[k]? = some (.cells cells e (0, 0)) := by
  rcases h.2 with ⟨rfl, _⟩ | ⟨g, cap, cur, rfl, hg, hh, r⟩
  · simp [Value.ownBlock] at hk
  · have : g = k := by simpa [Value.ownBlock] using hk
    subst this
    exact ⟨cur, hh⟩
theorem own_blk_ne (h : W.ownsRow base e size v n xs) (hg : Blk W g t cs) (hne : e ≠ t) : v.ownBlock ≠ some g := fun hk => by
  obtain ⟨cells, hc⟩ := own_typed h hk
  exact Blk.ne_ (t := e) hc hg hne rfl
theorem own_own_ne {base' size' n' : Nat} {e' : TypeId} {v' : Value} {xs' : List Value} (h : W.ownsRow base e size v n xs) (h' : W.ownsRow base' e' size' v' n' xs') (hne : e ≠ e') {k : Nat} (hk : v.ownBlock = some k) : v'.ownBlock ≠ some k := fun hk' => by
  obtain ⟨cells, hc⟩ := own_typed h hk
  obtain ⟨cells', hc'⟩ := own_typed h' hk'
  exact Blk.ne_ (t := e) hc (show Blk W k e' cells' from hc') hne rfl
theorem Fr.grown {row : Option Nat} (h : Fr S W V) (hg : V.grownBy U row) (hr : ∀ k, row = some k → S k ∨ W.heap.size ≤ k) : Fr S W U :=
  ⟨hg.os.trans h.os, hg.tape.trans h.tape, hg.output.trans h.output, Nat.le_trans h.size hg.size, fun k hk hn => (hg.block k (Nat.lt_of_lt_of_le hk h.size) (fun e => by rcases hr k e.symm with h1 | h1; exact hn h1; omega)).trans (h.block k hk hn)⟩
end
end Go.Proofs.YtimmafiodhncgaaGreatDoor.TF
end
section
/- lines.Fit at any list of texts and any width: of each text what fits, in a row of its own. -/
set_option linter.unusedVariables false
set_option linter.unusedSimpArgs false
namespace Go.Proofs.YtimmafiodhncgaaGreatDoor.TX
open Go.RowKit Go.Shelf Go.Lib Go.Proofs.YtimmafiodhncgaaGreatDoor.TS Go.Proofs.YtimmafiodhncgaaGreatDoor.TR Go.Proofs.YtimmafiodhncgaaGreatDoor.TF Go.Proofs.YtimmafiodhncgaaGreatDoorW.PrintWords Go.Proofs.YtimmafiodhncgaaGreatDoorW.PrintMore
attribute [local go_sem] Oper.semAt_some

def marks (Ds : List Nat) : List Deferred := Ds.map fun D => { target := .collected D, args := #[] }
theorem many_marks {F : Fence} {m : Nat} {P : Program} {fn : Func} {tmps : Array Value} {R : Ending → World → Prop} (z : Nat) (Q : World → Prop)
    (hQ : ∀ W D, Q W → z ≤ D → W.heap[D]? = some (.deferred (some [])) → Q (W.putObj D (.deferred none))) (hend : ∀ W, Q W → LeavesInM F m P fn tmps R [] .returning W) :
    ∀ (Ds : List Nat) (W : World), Ds.Nodup → (∀ D ∈ Ds, z ≤ D ∧ W.heap[D]? = some (.deferred (some []))) → Q W → LeavesInM F m P fn tmps R (marks Ds) .returning W
  | [], W, _, _, h => hend W h
  | D :: Ds, W, hn, hD, h => by
    obtain ⟨hz, hk⟩ := hD D (by simp)
    have hn' := List.nodup_cons.1 hn
    refine ⟨by simp, .inl ⟨D, _, rfl, run_takeDeferred hk, ?_⟩⟩
    refine many_marks z Q hQ hend Ds _ hn'.2 (fun D' h' => ⟨(hD D' (by simp [h'])).1, ?_⟩) (hQ W D h hz hk)
    exact (World.putObj_heap_other (by rintro rfl; exact hn'.1 h')).trans (hD D' (by simp [h'])).2
theorem fit_zero_any (A0 : Option Addr) (n c0 : Nat) (width : Int) (h : width < 1) (w : World) : Calls Tryz.prog 17 #[.slice A0 n c0, .int .i64 width] w fun e w' => e = .returned (.tuple #[.slice none 0 0, .int .i64 1]) ∧ Below w.heap.size w w' := by
  go_enter Tryz.func17, Tryz.ntmps17
  go_wp2
  go_ret2
  exact ⟨rfl, by go_grown⟩
theorem infoStr : (Tryz.prog.info? 9).map (fun i => (i.zero, i.size, i.bytes)) = some (some (.string .empty), 1, 16) := by kernel_rfl
/-- the two cells of a round: how many runes, where the cut is -/
def fitJ (width : Int) (m : Nat) (pre : List (Nat × Int)) (W : World) : Prop := Boxed W m 3 (.int .i64 pre.length) ∧ Boxed W (m + 1) 3 (.int .i64 (endOf width pre))
theorem fitJ_cells (width : Int) (m : Nat) : OfCells (fitJ width m) := fun b W W' h hk => ⟨hk _ _ h.1 rfl, hk _ _ h.2 rfl⟩
def idxOf : Value → Nat
  | .int _ i => i.toNat
  | _ => 0
theorem endOf_snoc (width : Int) (pre : List (Nat × Int)) (i : Nat) (r : Int) (hw : 1 ≤ width) : endOf width (pre ++ [(i, r)]) = if (pre.length : Int) + 1 = width then (i : Int) else endOf width pre := by
  unfold endOf
  rw [List.length_append]
  simp only [List.length_cons, List.length_nil]
  by_cases h1 : width ≤ (pre.length : Int)
  · rw [if_pos (by omega), if_pos h1, if_neg (by omega), List.getD_eq_getElem?_getD, List.getD_eq_getElem?_getD, List.getElem?_append_left (by omega)]
  · by_cases h2 : (pre.length : Int) + 1 = width
    · rw [if_pos (by omega), if_pos h2, List.getD_eq_getElem?_getD, show width.toNat - 1 = pre.length from by omega, List.getElem?_append_right (Nat.le_refl _)]
      simp
    · rw [if_neg (by omega), if_neg h2, if_neg h1]
theorem runesFrom_lt (l : List UInt8) : ∀ (ps : List Piece) (i : Nat), (∀ p ∈ ps, okPiece p) → ∀ x ∈ runesFrom i ps, x.1 < i + (ps.flatMap (·.2)).length := by
  intro ps
  induction ps with
  | nil => intro i _ x hx; simp [runesFrom] at hx
  | cons p t ih =>
    intro i hok x hx
    have hp : 1 ≤ p.2.length := by
      have h := hok p (by simp)
      unfold okPiece at h
      split at h
      · rw [h.2]; exact List.length_pos_iff.2 (enc_ne _)
      · omega
    simp only [runesFrom, List.mem_cons] at hx
    rcases hx with rfl | hx
    · simp; omega
    · have := ih (i + p.2.length) (fun q hq => hok q (by simp [hq])) x hx
      simp at this ⊢; omega
theorem runes_lt (s : ByteArray) : ∀ x ∈ runes s.data.toList, x.1 < s.size := by
  intro x hx
  have := runesFrom_lt s.data.toList (pieces s.data.toList) 0 (pieces_ok _) x hx
  rw [pieces_flat, bytes_length] at this
  omega
theorem runes_len (s : ByteArray) : (runes s.data.toList).length ≤ s.size := by
  unfold runes; rw [runesFrom_length]; exact Nat.le_trans (pieces_length _) (by rw [bytes_length]; exact Nat.le_refl _)
theorem endOf_bd (width : Int) (s : ByteArray) : 0 ≤ endOf width (runes s.data.toList) ∧ endOf width (runes s.data.toList) ≤ (s.size : Int) := by
  unfold endOf
  split
  · rename_i h
    rw [List.getD_eq_getElem?_getD]
    cases e : (runes s.data.toList)[width.toNat - 1]? with
    | none => simp
    | some x => have := runes_lt s x (List.mem_of_getElem? e); simp; omega
  · simp
theorem own_ge {W : World} {base size n k : Nat} {e : TypeId} {v : Value} {xs : List Value} (h : W.ownsRow base e size v n xs) (hk : v.ownBlock = some k) : base ≤ k := by
  rcases h.2 with ⟨rfl, _⟩ | ⟨g, cap, cur, rfl, hg, _⟩
  · simp [Value.ownBlock] at hk
  · have : g = k := by simpa [Value.ownBlock] using hk
    omega
/-- what stands ahead of a round -/
structure Rd (w : World) (b : Nat) (width : Int) (l0 : List ByteArray) (k : Nat) (Ds : List Nat) (v : Value) (W : World) : Prop where
  le : k ≤ l0.length
  own : W.ownsRow (b + 1) 9 1 v k (encs Value.string ((l0.map (fit1 width)).take k))
  below : Below b w W
  box : Boxed W b 3 (.int .i64 width)
  nodup : Ds.Nodup
  at_ : ∀ D ∈ Ds, b + 1 ≤ D ∧ W.heap[D]? = some (.deferred (some []))

set_option maxRecDepth 100000 in
set_option maxHeartbeats 4000000 in
theorem fit_any (A0 : Option Addr) (c0 : Nat) (l0 : List ByteArray) (width : Int) (w : World) (hr0 : Kd.C Kd.string w A0 l0.length l0) (hc0 : l0.length ≤ c0) (hw : 1 ≤ width) (hl : l0.length ≤ 1073741824) (hs : ∀ s ∈ l0, okText s) :
    Calls Tryz.prog 17 #[.slice A0 l0.length c0, .int .i64 width] w fun e w' => ∃ v, e = .returned (.tuple #[v, .int .i64 0]) ∧ w'.ownsRow (w.heap.size + 1) 9 1 v l0.length (encs Value.string (l0.map (fit1 width))) ∧ Below w.heap.size w w' := by
  obtain ⟨i0, hi, hz0, hz1, hz2⟩ := info_parts infoStr
  obtain ⟨n, hn⟩ : ∃ n, l0.length = n := ⟨_, rfl⟩
  obtain ⟨b, hb⟩ : ∃ b, w.heap.size = b := ⟨_, rfl⟩
  have HR := Aside0.mk hr0
  rw [hn] at hl ⊢
  clear hr0
  refine (callsIn_wide (n := 9)).1 ?_
  refine callsIn_of_wp_marks Tryz.func17 rfl trivial ?_ rfl
  simp only [Tryz.ntmps17, List.size_toArray, List.length_cons, List.length_nil, Nat.reduceAdd, Nat.reduceSub, Array.replicate_succ, Array.replicate_zero, List.push_toArray, List.append_toArray, List.nil_append, List.cons_append]
  gi_wp2
  have hbox0 := Boxed.new w 3 (.int .i64 width)
  have hB0 : Below w.heap.size w (w.alloc (.cells #[.int .i64 width] 3)) := by go_grown
  rw [hb] at hbox0 hB0
  refine wpIn_loop (fun a W => ∃ (k : Nat) (Ds : List Nat) (v u8 u9 u10 u11 u17 u18 u19 u20 u21 u22 u23 u24 u25 u26 u27 u28 u29 u30 u31 u32 u33 u34 u35 u36 u37 u38 u39 u40 u41 : Value), a = ({ tmps := #[.slice A0 n c0, .int .i64 width, undef, .pointer (some ⟨b, 0, none⟩), .slice none 0 0, .int .i64 0, v, undef, u8, u9, u10, u11, .int .i64 width, .bool (decide (width < 1)), .slice A0 n c0, .int .i64 n, .int .i64 k, u17, u18, u19, u20, u21, u22, u23, u24, u25, u26, u27, u28, u29, u30, u31, u32, u33, u34, u35, u36, u37, u38, u39, u40, u41, undef], defers := marks Ds } : Act) ∧ Aside0 (Rd w b width l0 k Ds v W)) (fun a W => n - idxOf (a.tmps.getD 16 undef)) ?_ ?_
  · refine ⟨0, [], .slice none 0 0, _, _, _, _, _, _, _, _, _, _, _, _, _, _, _, _, _, _, _, _, _, _, _, _, _, _, _, _, _, rfl, Aside0.mk ⟨Nat.zero_le _, World.ownsRow_nil _ _ _ _, hB0, hbox0, List.nodup_nil, fun D h => by cases h⟩⟩
  rintro a wr ⟨k, Ds, v, u8, u9, u10, u11, u17, u18, u19, u20, u21, u22, u23, u24, u25, u26, u27, u28, u29, u30, u31, u32, u33, u34, u35, u36, u37, u38, u39, u40, u41, rfl, HRd⟩
  have HB := HRd.out.below
  have hbx := HRd.out.box.cell
  by_cases hk : k < n
  · have q0 : (0 : Int) ≤ (k : Int) := by omega
    have q1 : (k : Int) < (l0.length : Int) := by omega
    obtain ⟨ad, e0, hx⟩ := Kd.at_string HR.out (k : Int) q0 q1
    have hxw : (ad.add (k : Int).toNat).block < w.heap.size := World.block_lt_of_cell? w _ hx
    obtain rfl : A0 = some ad := e0
    obtain ⟨s, hsv⟩ : ∃ s, rdOf ByteArray.empty l0 (k : Int) = s := ⟨_, rfl⟩
    rw [hsv] at hx
    rw [Int.toNat_natCast] at hx
    rw [Int.toNat_natCast] at hxw
    have hx1 : wr.cell? (ad.add k) = some (.string s) := (World.cell?_of_block (HB.block _ (by omega))).trans hx
    have q2 : (k : Int) < (n : Int) := by omega
    clear hx hxw q1 HB
    gi_wp2_with (refine ⟨trivial, ?_⟩; gi_at_call 33; refine (callsIn_wide.2 (runes_in s _)).mono ?_; rintro e w' ⟨rfl, rfl⟩)
    obtain ⟨hle, hown, hbel, hbox, hnod, hat⟩ := HRd.out
    obtain ⟨m, hm⟩ : ∃ m, wr.heap.size = m := ⟨_, rfl⟩
    have hbm : b < m := by rw [← hm]; exact hbox.lt
    have hok : s.size ≤ 1073741824 := hs s (by rw [← hsv]; unfold rdOf; rw [Int.toNat_natCast, List.getD_eq_getElem?_getD, List.getElem?_eq_getElem (by omega)]; exact List.getElem_mem _)
    have b0 := ((Boxed.new wr 3 (.int .i64 0)).alloc (.cells #[.int .i64 0] 3)).alloc (.cells #[.string s] 9)
    have b1 := (Boxed.new (wr.alloc (.cells #[.int .i64 0] 3)) 3 (.int .i64 0)).alloc (.cells #[.string s] 9)
    have b3 := Boxed.new ((wr.alloc (.cells #[.int .i64 0] 3)).alloc (.cells #[.int .i64 0] 3)) 9 (.string s)
    have hB4 : Below wr.heap.size wr (((wr.alloc (.cells #[.int .i64 0] 3)).alloc (.cells #[.int .i64 0] 3)).alloc (.cells #[.string s] 9)) := by go_grown
    have hO4 : ∀ (k : Nat) (o : Obj), wr.heap[k]? = some o → (((wr.alloc (.cells #[.int .i64 0] 3)).alloc (.cells #[.int .i64 0] 3)).alloc (.cells #[.string s] 9)).heap[k]? = some o := fun k o h => (hB4.block k (Array.getElem?_eq_some_iff.1 h).1).trans h
    simp only [World.size_alloc] at b0 b1 b3
    rw [hm] at b0 b1 b3 hB4
    obtain ⟨V, hV⟩ : ∃ V, ((wr.alloc (.cells #[.int .i64 0] 3)).alloc (.cells #[.int .i64 0] 3)).alloc (.cells #[.string s] 9) = V := ⟨_, rfl⟩
    rw [hV] at b0 b1 b3 hB4 hO4 ⊢
    clear hV
    have hI0 : fitJ width m [] V := ⟨b0, by have : endOf width [] = 0 := by { unfold endOf; rw [if_neg (by simp; omega)] }; rw [this]; exact b1⟩
    have hnV : m + 1 + 1 < V.heap.size := b3.lt
    rw [hm]
    have HB4 := Aside0.mk hB4
    have HO4 := Aside0.mk hO4
    have HX := Aside0.mk (And.intro hown (And.intro hbel (And.intro hnod hat)))
    have hlen := runes_len s
    clear b0 b1 hB4 hO4 hown hbel hnod hat hx1
    apply wp_runes_next 9 (by omega) m (m + 1 + 1) s rfl rfl b3 HB4.out (by omega) (fitJ width m) (fun _ _ _ => False) (fitJ_cells _ _) (fun _ => ofCells_pure (fun _ => False)) hI0
    case hassign =>
      intro l i r W K hK
      gi_wp2
      exact hK
    case hbody =>
      rintro l pre i r W ⟨q0', q1'⟩ hB hbb hsz hnext
      have hpl : pre.length + 1 ≤ s.size := Nat.le_trans (by have := hnext.length_le; simpa using this) hlen
      have c0 := q0'.cell
      have c1 := q1'.cell
      have f0 := q0'.frozen
      have f1 := q1'.frozen
      have cb : W.cell? ⟨b, 0, none⟩ = some (.int .i64 width) := (World.cell?_of_block (hB.block b hbm)).trans hbx
      have p0 : (0 : Int) ≤ (pre.length : Int) := by omega
      have p1 : (pre.length : Int) ≤ 1073741824 := by omega
      have hne0 : m ≠ m + 1 + 1 := by omega
      have hne1 : m + 1 ≠ m + 1 + 1 := by omega
      have hbm' : b ≠ m := by omega
      have hE := endOf_snoc width pre i r hw
      have T0 := Turned.set q0' (Nat.le_refl m) hne0 (.int .i64 ((pre.length : Int) + 1))
      have Q1 : Boxed (W.setCell ⟨m, 0, none⟩ (.int .i64 ((pre.length : Int) + 1))) (m + 1) 3 (.int .i64 (endOf width pre)) := (Below.heap_setCell W ⟨m, 0, none⟩ _ (m + 1) (by simp)).trans q1'
      have T1 := Turned.set Q1 (by omega : m ≤ m + 1) hne1 (.int .i64 (i : Int))
      have Q0 := q0'.set (.int .i64 ((pre.length : Int) + 1))
      have HT := Aside0.mk (And.intro T0 (And.intro Q1 (And.intro T1 (And.intro Q0 hE))))
      have hln : (((pre ++ [(i, r)]).length : Nat) : Int) = (pre.length : Int) + 1 := by simp
      have HL := Aside0.mk hln
      clear q0' q1' hnext T0 Q1 T1 Q0 hE hB hbb hsz hln hpl hI0 hnV hlen b3
      by_cases hwid : (pre.length : Int) + 1 = width
      · gi_wp2
        obtain ⟨T0, Q1, T1, Q0, hE⟩ := HT.out
        rw [hwid] at T0 Q1 T1 Q0
        rw [if_pos hwid] at hE
        refine ⟨T0.trans T1, ?_, ?_⟩
        · rw [HL.out, hwid]
          exact (Below.heap_setCell _ ⟨m + 1, 0, none⟩ _ m (by simp)).trans Q0
        · rw [hE]
          exact Q1.set (.int .i64 (i : Int))
      · gi_wp2
        obtain ⟨T0, Q1, T1, Q0, hE⟩ := HT.out
        rw [if_neg hwid] at hE
        refine ⟨T0, ?_, ?_⟩
        · rw [HL.out]
          exact Q0
        · rw [hE]
          exact Q1
    case hdone =>
      rintro D W hD ⟨q0', q1'⟩ hB hO hK
      obtain ⟨hown, hbel, hnod, hat⟩ := HX.out
      have c0 := q0'.cell
      have c1 := q1'.cell
      have cb : W.cell? ⟨b, 0, none⟩ = some (.int .i64 width) := (World.cell?_of_block (hB.block b hbm)).trans hbx
      have hbd := endOf_bd width s
      obtain ⟨en, hen⟩ : ∃ en, endOf width (runes s.data.toList) = en := ⟨_, rfl⟩
      obtain ⟨ln, hln⟩ : ∃ ln, (runes s.data.toList).length = ln := ⟨_, rfl⟩
      have hfit : fit1 width s = if width < (ln : Int) then s.extract 0 en.toNat ++ (⟨#[126]⟩ : ByteArray) else s := by unfold fit1; rw [hen, hln]
      rw [hen] at c1 hbd
      rw [hln] at c0 hlen
      obtain ⟨e0, e1⟩ := hbd
      have e2 : (9223372036854775807 < en.toNat + 1) = False := eq_false (by omega)
      have g0 : (0 : Int) ≤ (ln : Int) := by omega
      have g1 : (ln : Int) ≤ 1073741824 := by omega
      have g2 : (k : Int) ≤ 1073741824 := by omega
      have hOw : W.ownsRow (b + 1) 9 1 v k (encs Value.string ((l0.map (fit1 width)).take k)) := own_next hown (by rw [hm]; exact hB)
      have hbW : Below b w W := hbel.trans (hB.mono (by omega))
      have hbxW : Boxed W b 3 (.int .i64 width) := (hB.block b hbm).trans hbox
      have hatW : ∀ D ∈ Ds, b + 1 ≤ D ∧ W.heap[D]? = some (.deferred (some [])) := fun D' h' => ⟨(hat D' h').1, hO D' _ (HO4.out D' _ (hat D' h').2) rfl⟩
      have hDn : D ∉ Ds := fun h' => by
        have := (Array.getElem?_eq_some_iff.1 (hat D h').2).1
        omega
      have hDb : b + 1 ≤ D := by omega
      have hDW : D < W.heap.size := (Array.getElem?_eq_some_iff.1 hK).1
      have hbz : b + 1 ≤ W.heap.size := hbxW.lt
      have HZ := Aside0.mk (And.intro hbW (And.intro hbxW (And.intro hatW (And.intro hDn (And.intro hDb (And.intro hK (And.intro hnod hDW)))))))
      have HF := Aside0.mk hfit
      have hfin : ∀ (t : ByteArray) (v' : Value) (w2 : World), t = fit1 width s → w2.ownsRow (b + 1) 9 1 v' (k + 1) (encs Value.string ((l0.map (fit1 width)).take k) ++ [.string t]) → (W.alloc (.cells #[.string t] 9)).grownBy w2 v.ownBlock →
          Rd w b width l0 (k + 1) (D :: Ds) v' w2 := by
        intro t v' w2 ht ho hg
        have hstay : ∀ D', W.heap[D']? = some (Obj.deferred (some [])) → w2.heap[D']? = some (Obj.deferred (some [])) := fun D' h' => by
          have hlt := (Array.getElem?_eq_some_iff.1 h').1
          refine (hg.block D' (by rw [World.size_alloc]; omega) (fun e => ?_)).trans ((Below.heap_alloc _ _ _ hlt).trans h')
          obtain ⟨cells, hc⟩ := own_typed hOw e.symm
          rw [h'] at hc
          cases hc
        have hblt := hbxW.lt
        refine ⟨by omega, ?_, ?_, ?_, List.nodup_cons.2 ⟨hDn, hnod⟩, ?_⟩
        · have e1 : (l0.map (fit1 width)).take (k + 1) = (l0.map (fit1 width)).take k ++ [t] := by
            rw [List.take_add_one, List.getElem?_map, List.getElem?_eq_getElem (by omega)]
            have : l0[k]'(by omega) = s := by
              rw [← hsv]; unfold rdOf
              rw [Int.toNat_natCast, List.getD_eq_getElem?_getD, List.getElem?_eq_getElem (by omega)]; rfl
            simp [this, ht]
          rw [e1]
          unfold Go.Proofs.YtimmafiodhncgaaGreatDoorW.PrintWords.encs at ho ⊢
          rw [List.map_append]
          exact ho
        · exact (hbW.alloc (by omega) _).grown hg (by rw [World.size_alloc]; omega) (fun k' e => by have := own_ge hOw e; omega)
        · refine (hg.block b (by rw [World.size_alloc]; omega) (fun e => ?_)).trans ((Below.heap_alloc _ _ _ hblt).trans hbxW)
          have := own_ge hOw e.symm
          omega
        · intro D' h'
          rcases List.mem_cons.1 h' with rfl | h'
          · exact ⟨hDb, hstay _ hK⟩
          · exact ⟨(hatW D' h').1, hstay _ (hatW D' h').2⟩
      have HFin := Aside0.mk hfin
      clear q0' q1' hown hbel hnod hat hB hO hK hbW hbxW hatW hDn hDb hDW hfit hfin hlen hI0 hnV b3 hen hln
      by_cases hgt : width < (ln : Int)
      · gi_wp2_with (gi_at_builtin; refine wpListIn_append_own _ rfl _ _ 32 rfl (b + 1) 9 i0 (.string .empty) 1 16 Tryz.underlying32 hi hz0 hz1 hz2 rfl (by decide) _ _ _ rfl (hOw.alloc _) ⟨_, 0, none⟩ 1 1 [.string (s.extract 0 en.toNat ++ (⟨#[126]⟩ : ByteArray))] rfl rfl ?c1 ?c2 ?c3 ?c4 ?c5 ?_)
        case c1 =>
          intro j u hj
          match j, hj with
          | 0, hj => simp at hj; subst hj; simp [Addr.add]
        case c2 => intro u hu; simp at hu; subst hu; rfl
        case c3 => unfold maxLen; omega
        case c4 => omega
        case c5 => rw [World.size_alloc]; omega
        intro v' w2 hown2 hgrow2 _
        have HRd2 := Aside0.mk (HFin.out _ v' w2 (by rw [HF.out, if_pos hgt]) hown2 hgrow2)
        clear hown2 hgrow2 hOw c0 c1 cb e0 e1 e2
        gi_wp2
        exact ⟨⟨k + 1, D :: Ds, v', _, _, _, _, _, _, _, _, _, _, _, _, _, _, _, _, _, _, _, _, _, _, _, _, _, _, _, _, _, rfl, HRd2⟩, by simp only [idxOf]; show n - ((k : Int) + 1).toNat < n - (k : Int).toNat; omega⟩
      · gi_wp2_with (gi_at_builtin; refine wpListIn_append_own _ rfl _ _ 32 rfl (b + 1) 9 i0 (.string .empty) 1 16 Tryz.underlying32 hi hz0 hz1 hz2 rfl (by decide) _ _ _ rfl (hOw.alloc _) ⟨_, 0, none⟩ 1 1 [.string s] rfl rfl ?c1 ?c2 ?c3 ?c4 ?c5 ?_)
        case c2 => rfl
        case c3 => unfold maxLen; omega
        case c4 => omega
        case c5 => omega
        intro v' w2 hown2 hgrow2 _
        have HRd2 := Aside0.mk (HFin.out _ v' w2 (by rw [HF.out, if_neg (Int.not_lt.2 hgt)]) hown2 hgrow2)
        clear hown2 hgrow2 hOw c0 c1 cb e0 e1 e2
        gi_wp2
        exact ⟨⟨k + 1, D :: Ds, v', _, _, _, _, _, _, _, _, _, _, _, _, _, _, _, _, _, _, _, _, _, _, _, _, _, _, _, _, _, rfl, HRd2⟩, by simp only [idxOf]; show n - ((k : Int) + 1).toNat < n - (k : Int).toNat; omega⟩
    case hstop =>
      rintro D c pre W _ _ h _ _ _
      exact h.elim
  · have hkn : (k : Int) < (n : Int) ↔ False := by simp; omega
    obtain ⟨hle, hown, hbel, hbox, hnod, hat⟩ := HRd.out
    obtain rfl : k = n := by omega
    have HX := Aside0.mk (And.intro hown (And.intro hbel (And.intro hnod hat)))
    clear hown hbel hnod hat HB hbx hbox hle
    gi_wp2
    obtain ⟨hown, hbel, hnod, hat⟩ := HX.out
    rw [List.take_of_length_le (by rw [List.length_map]; omega)] at hown
    rw [hb]
    refine many_marks (b + 1) (fun W => W.ownsRow (b + 1) 9 1 v k (encs Value.string (l0.map (fit1 width))) ∧ Below b w W) ?_ ?_ Ds wr hnod hat ⟨hown, hbel⟩
    · rintro W D ⟨ho, hB⟩ hz hk'
      have hg := grownBy_putObj' W D (.deferred none)
      refine ⟨World.ownsRow.kept ho hg (.inr fun e => ?_), hB.grown hg (Nat.le_trans (by omega) hB.size) (fun q e => by cases e; omega)⟩
      obtain ⟨cells, hc⟩ := own_typed ho e
      rw [hk'] at hc
      cases hc
    · rintro W ⟨ho, hB⟩
      exact ⟨_, results_tmp2 rfl _ _ _, v, rfl, ho, hB⟩
end Go.Proofs.YtimmafiodhncgaaGreatDoor.TX
end
