/- QB1 TextRunes -/
import Derived.Test.YtlggimmfaflfnaaGreatDoorM22
import Derived.RangeFuncNested
import Derived.RangeFuncBound
import Derived.RangeFuncCalls
import Derived.RangeFuncLeaves
import Derived.Shelf.Abstract
import Derived.Shelf.RegionOpen
import Derived.WalkKit
import Derived.OwnWalkIn
import Derived.TacticsInMore
import Derived.LoopNIn
import Derived.LoopIn
import Derived.Lib.OthersKept
import Derived.Lib.Strings
import Derived.Lib.Hide
import Derived.WalkSmall
section
-- Written by wip/tools/myprint.py of this seat's repo: the kit's print, with contracts of our own for some functions.
namespace Go.Proofs.YtlggimmfaflfnaaGreatDoor.QB
open Go.RowKit Go.Proofs.YtlggimmfaflfnaaGreatDoorW.PrintWords Go.Proofs.YtlggimmfaflfnaaGreatDoorW.PrintLast Go.Proofs.YtlggimmfaflfnaaGreatDoorW.PrintMore
attribute [local go_sem] max2_int min2_int max_two min_two max_three min_three max_four min_four   -- for this text's walks alone
set_option linter.unusedVariables false
set_option linter.unusedSimpArgs false

/-! ### stringslite_HasPrefix: function 328 -/
def stringslite_HasPrefix.f (a0 : ByteArray) (a1 : ByteArray) : Option (Bool) := if (a0.size : Int) ≥ (a1.size : Int) then (if 0 ≤ (a1.size : Int) then (if (a1.size : Int) ≤ (a0.size : Int) then (some ((a0.extract 0 ((a1.size : Int) : Int).toNat).toList == a1.toList)) else (none)) else (none)) else (some false)
set_option maxHeartbeats 8000000 in
set_option maxRecDepth 100000 in
theorem stringslite_HasPrefix.calls (a0 : ByteArray) (a1 : ByteArray) (r : Bool) (w : World) (h : stringslite_HasPrefix.f a0 a1 = some r) :
    Calls Tryz.prog 328 #[.string a0, .string a1] w fun e w' => e = .returned (.bool r) ∧ Drawn0 w w' := by
  have H : (if (a0.size : Int) ≥ (a1.size : Int) then (if 0 ≤ (a1.size : Int) then (if (a1.size : Int) ≤ (a0.size : Int) then (some ((a0.extract 0 ((a1.size : Int) : Int).toNat).toList == a1.toList)) else (none)) else (none)) else (some false)) = some r := h
  clear h
  by_cases c3 : (a0.size : Int) ≥ (a1.size : Int)
  · rw [if_pos c3] at H
    have c3b0 : decide ((a1.size : Int) ≤ (a0.size : Int)) = true := decide_eq_true c3
    have c3b1 : decide (a1.size ≤ a0.size) = true := decide_eq_true (Int.ofNat_le.mp c3)
    clear c3
    by_cases c4 : 0 ≤ (a1.size : Int)
    · rw [if_pos c4] at H
      have c4b0 := eq_true c4
      have c4b1 : decide (0 ≤ (a1.size : Int)) = true := decide_eq_true c4
      clear c4
      by_cases c5 : (a1.size : Int) ≤ (a0.size : Int)
      · rw [if_pos c5] at H
        have c5b0 := eq_true c5
        have c5b1 : decide ((a1.size : Int) ≤ (a0.size : Int)) = true := decide_eq_true c5
        clear c5
        obtain rfl := Option.some.inj H
        go_enter Tryz.func328, Tryz.ntmps328
        go_wp2
        go_ret
        exact ⟨by first | rfl | (simp; done) | (simp [*]; done), by repeat (first | exact Drawn0.refl _ | apply Drawn0.step)⟩
      · rw [if_neg c5] at H
        exact absurd H (by simp)
    · rw [if_neg c4] at H
      exact absurd H (by simp)
  · rw [if_neg c3] at H
    have c3b0 : decide ((a1.size : Int) ≤ (a0.size : Int)) = false := decide_eq_false c3
    have c3b1 : decide (a1.size ≤ a0.size) = false := decide_eq_false (fun h => c3 (Int.ofNat_le.mpr h))
    clear c3
    obtain rfl := Option.some.inj H
    go_enter Tryz.func328, Tryz.ntmps328
    go_wp2
    go_ret
    exact ⟨by first | rfl | (simp; done) | (simp [*]; done), by repeat (first | exact Drawn0.refl _ | apply Drawn0.step)⟩

/-! ### strings_HasPrefix: function 314 -/
def strings_HasPrefix.f (a0 : ByteArray) (a1 : ByteArray) : Option (Bool) := (stringslite_HasPrefix.f a0 a1).bind fun t101 => (some t101)
set_option maxHeartbeats 8000000 in
set_option maxRecDepth 100000 in
theorem strings_HasPrefix.calls (a0 : ByteArray) (a1 : ByteArray) (r : Bool) (w : World) (h : strings_HasPrefix.f a0 a1 = some r) :
    Calls Tryz.prog 314 #[.string a0, .string a1] w fun e w' => e = .returned (.bool r) ∧ Drawn0 w w' := by
  have H : ((stringslite_HasPrefix.f a0 a1).bind fun t101 => (some t101)) = some r := h
  clear h
  replace H := Option.bind_eq_some_iff.mp H
  obtain ⟨t101, A30, H⟩ := H
  replace H : (some t101) = some r := H
  have A3 := Aside0.mk A30
  clear A30
  obtain rfl := Option.some.inj H
  go_enter Tryz.func314, Tryz.ntmps314
  go_wp2_with (first | ((with_reducible refine gate_callee (f := 328) rfl ?_); refine goesL_ (some 7) rfl rfl Tryz.func328 (by kernel_rfl) rfl #[.string a0, .string a1] rfl (by (try simp only [List.map_toArray, List.map_cons, List.map_nil]); first | done | rfl | (simp only [List.length_drop, List.length_take]; rfl)) ?_; (with_reducible refine (stringslite_HasPrefix.calls a0 a1 t101 _ A3.out).mono ?_); rintro e w' ⟨rfl, ⟨nd, rfl⟩⟩; refine ⟨_, rfl, ?_⟩))
  go_ret
  exact ⟨by first | rfl | (simp; done) | (simp [*]; done), by repeat (first | exact Drawn0.refl _ | apply Drawn0.step)⟩

/-! ### text_broken: function 273 -/
def text_broken.f (a0 : ByteArray) (a1 : Int) (a2 : Int) : Option (Bool) := if a2 = 65533 then (if 0 ≤ a1 then (if a1 ≤ (a0.size : Int) then ((strings_HasPrefix.f (a0.extract (a1 : Int).toNat a0.size) (⟨#[239, 191, 189]⟩ : ByteArray)).bind fun t102 => (some (!t102))) else (none)) else (none)) else (some false)
set_option maxHeartbeats 8000000 in
set_option maxRecDepth 100000 in
theorem text_broken.calls (a0 : ByteArray) (a1 : Int) (a2 : Int) (r : Bool) (w : World) (h : text_broken.f a0 a1 a2 = some r) :
    Calls Tryz.prog 273 #[.string a0, .int .i64 a1, .int .i32 a2] w fun e w' => e = .returned (.bool r) ∧ Drawn0 w w' := by
  have H : (if a2 = 65533 then (if 0 ≤ a1 then (if a1 ≤ (a0.size : Int) then ((strings_HasPrefix.f (a0.extract (a1 : Int).toNat a0.size) (⟨#[239, 191, 189]⟩ : ByteArray)).bind fun t102 => (some (!t102))) else (none)) else (none)) else (some false)) = some r := h
  clear h
  by_cases c4 : a2 = 65533
  · rw [if_pos c4] at H
    have c4b0 : (a2 == 65533) = true := beq_iff_eq.mpr c4
    have c4b1 : (a2 != 65533) = false := bne_eq_false_iff_eq.mpr c4
    clear c4
    by_cases c5 : 0 ≤ a1
    · rw [if_pos c5] at H
      have c5b0 := eq_true c5
      have c5b1 : decide (0 ≤ a1) = true := decide_eq_true c5
      clear c5
      by_cases c6 : a1 ≤ (a0.size : Int)
      · rw [if_pos c6] at H
        have c6b0 := eq_true c6
        have c6b1 : decide (a1 ≤ (a0.size : Int)) = true := decide_eq_true c6
        clear c6
        replace H := Option.bind_eq_some_iff.mp H
        obtain ⟨t102, A70, H⟩ := H
        replace H : (some (!t102)) = some r := H
        have A7 := Aside0.mk A70
        clear A70
        obtain rfl := Option.some.inj H
        go_enter Tryz.func273, Tryz.ntmps273
        go_wp2_with (first | (go_at_call 314; (with_reducible refine (strings_HasPrefix.calls (a0.extract (a1 : Int).toNat a0.size) (⟨#[239, 191, 189]⟩ : ByteArray) t102 _ A7.out).mono ?_); rintro e w' ⟨rfl, ⟨nd, rfl⟩⟩))
        go_ret
        exact ⟨by first | rfl | (simp; done) | (simp [*]; done), by repeat (first | exact Drawn0.refl _ | apply Drawn0.step)⟩
      · rw [if_neg c6] at H
        exact absurd H (by simp)
    · rw [if_neg c5] at H
      exact absurd H (by simp)
  · rw [if_neg c4] at H
    have c4b0 : (a2 == 65533) = false := beq_eq_false_iff_ne.mpr c4
    have c4b1 : (a2 != 65533) = true := bne_iff_ne.mpr c4
    obtain rfl := Option.some.inj H
    go_enter Tryz.func273, Tryz.ntmps273
    go_wp2
    go_ret
    exact ⟨by first | rfl | (simp; done) | (simp [*]; done), by repeat (first | exact Drawn0.refl _ | apply Drawn0.step)⟩

end Go.Proofs.YtlggimmfaflfnaaGreatDoor.QB
end
section
/- text.Runes: what the iterator hands to each round: every rune of the text in order, with its place; -1 for a byte by itself. Stated for whatever loop body keeps what lay below the iterator's box and every walk's object. -/
namespace Go.Proofs.YtlggimmfaflfnaaGreatDoor.TR
open Go.RowKit Go.Shelf Go.Lib Go.Proofs.YtlggimmfaflfnaaGreatDoor.TS Go.Proofs.YtlggimmfaflfnaaGreatDoorW.PrintWords

theorem get_drop (s : ByteArray) (i k : Nat) : s.get! (i + k) = (s.data.toList.drop i).getD k 0 := by
  show s.data[i + k]! = _
  simp only [List.getD_eq_getElem?_getD, List.getElem?_drop, Array.getElem?_toList, getElem!_def]
  rfl
theorem g_drop (s : ByteArray) (i k : Nat) : (s.get! (i + k)).toNat = g (s.data.toList.drop i) k := by rw [get_drop]; rfl
theorem c_drop (s : ByteArray) (i k : Nat) : (i + k < s.size ∧ g (s.data.toList.drop i) k / 64 = 2) ↔ c (s.data.toList.drop i) k = true := by
  unfold c
  have e : s.data.toList.length = s.size := by rw [Array.length_toList]; rfl
  simp only [Bool.and_eq_true, decide_eq_true_eq, beq_iff_eq, List.length_drop, e]
  constructor <;> (rintro ⟨h1, h2⟩; exact ⟨by omega, h2⟩)
/-- WHAT THE MODEL'S DECODER TELLS IS WHAT IS TAKEN. -/
theorem decode_eq (s : ByteArray) (i : Nat) : Utf8.decode s i = ((take1 (s.data.toList.drop i)).1.getD 65533, (take1 (s.data.toList.drop i)).2) := by
  simp only [Utf8.decode, g_drop, take1, r2, r3, r4, Utf8.runeError, Bool.and_eq_true, beq_iff_eq, decide_eq_true_eq, ge_iff_le]
  simp only [c_drop]
  have hv : ∀ r : Nat, Utf8.valid (r : Int) = may r := fun r => by unfold Utf8.valid may; rw [Bool.eq_iff_iff]; simp; omega
  simp only [hv]
  by_cases h1 : g (s.data.toList.drop i) 0 < 0x80
  · rw [if_pos h1, if_pos h1]; rfl
  · rw [if_neg h1, if_neg h1]
    by_cases h2 : g (s.data.toList.drop i) 0 / 32 = 6 ∧ c (s.data.toList.drop i) 1 = true
    · rw [if_pos h2, if_pos h2]; (split <;> rename_i hh <;> simp [hh])
    · rw [if_neg h2, if_neg h2]
      by_cases h3 : g (s.data.toList.drop i) 0 / 16 = 14 ∧ c (s.data.toList.drop i) 1 = true ∧ c (s.data.toList.drop i) 2 = true
      · rw [if_pos h3, if_pos ⟨⟨h3.1, h3.2.1⟩, h3.2.2⟩]; (split <;> rename_i hh <;> simp [hh])
      · rw [if_neg h3, if_neg (fun h => h3 ⟨h.1.1, h.1.2, h.2⟩)]
        by_cases h4 : g (s.data.toList.drop i) 0 / 8 = 30 ∧ c (s.data.toList.drop i) 1 = true ∧ c (s.data.toList.drop i) 2 = true ∧ c (s.data.toList.drop i) 3 = true
        · rw [if_pos h4, if_pos ⟨⟨⟨h4.1, h4.2.1⟩, h4.2.2.1⟩, h4.2.2.2⟩]; (split <;> rename_i hh <;> simp [hh])
        · rw [if_neg h4, if_neg (fun h => h4 ⟨h.1.1.1, h.1.1.2, h.1.2, h.2⟩)]; rfl
theorem width_pos (s : ByteArray) (i : Nat) : 1 ≤ (Utf8.decode s i).2 := by rw [decode_eq]; exact (take1_width _).1

theorem bytes_length (s : ByteArray) : s.data.toList.length = s.size := by rw [Array.length_toList]; rfl
theorem prefix_eq (s : ByteArray) (i : Nat) (_h : i ≤ s.size) : YtlggimmfaflfnaaGreatDoor.QB.strings_HasPrefix.f (s.extract i s.size) (⟨#[239, 191, 189]⟩ : ByteArray) = some (([239, 191, 189] : List UInt8).isPrefixOf (s.data.toList.drop i)) := by
  have e1 : (s.extract i s.size).size = s.size - i := by simp [ByteArray.size_extract]
  have e2 : (⟨#[239, 191, 189]⟩ : ByteArray).size = 3 := rfl
  have ed : (s.extract i s.size).data.toList = s.data.toList.drop i := by
    rw [extract_data, List.take_of_length_le]; rw [List.length_drop, bytes_length]; omega
  have hr := hasPrefix_raw (s.extract i s.size) (⟨#[239, 191, 189]⟩ : ByteArray)
  rw [ed, e1, e2] at hr
  unfold YtlggimmfaflfnaaGreatDoor.QB.strings_HasPrefix.f YtlggimmfaflfnaaGreatDoor.QB.stringslite_HasPrefix.f
  rw [e1, e2]
  show _ = some (hasPrefix _ _)
  rw [← hr]
  by_cases h3 : 3 ≤ s.size - i
  · rw [if_pos (by omega), if_pos (by omega), if_pos (by omega)]
    simp [h3]
  · rw [if_neg (by omega)]
    simp [h3]
theorem drop_ne (s : ByteArray) (i : Nat) (h : i < s.size) : s.data.toList.drop i ≠ [] := by
  intro e; have := congrArg List.length e; simp only [List.length_drop, bytes_length, List.length_nil] at this; omega
/-- broken tells a byte by itself. -/
theorem broken_eq (s : ByteArray) (i : Nat) (h : i < s.size) : YtlggimmfaflfnaaGreatDoor.QB.text_broken.f s i ((Utf8.decode s i).1 : Int) = some (take1 (s.data.toList.drop i)).1.isNone := by
  have hne := drop_ne s i h
  have hfd : enc 65533 = [239, 191, 189] := by decide +kernel
  unfold YtlggimmfaflfnaaGreatDoor.QB.text_broken.f
  rw [decode_eq]
  cases e : (take1 (s.data.toList.drop i)).1 with
  | none =>
    have hn := (take1_none_iff _ hne).1 e 65533 (by decide +kernel)
    rw [hfd] at hn
    have hb : ([239, 191, 189] : List UInt8).isPrefixOf (s.data.toList.drop i) = false := by
      rw [Bool.eq_false_iff]; intro hc; exact hn (List.isPrefixOf_iff_prefix.1 hc)
    rw [if_pos (show ((none.getD 65533 : Nat) : Int) = 65533 from rfl), if_pos (by omega), if_pos (by omega)]
    show (YtlggimmfaflfnaaGreatDoor.QB.strings_HasPrefix.f (s.extract i s.size) _).bind _ = _
    rw [prefix_eq s i (by omega), hb]; rfl
  | some r =>
    by_cases hr : r = 65533
    · subst hr
      have hp : ([239, 191, 189] : List UInt8) <+: s.data.toList.drop i := by
        rw [← hfd, ← take1_form _ 65533 hne e]; exact List.take_prefix _ _
      have hb : ([239, 191, 189] : List UInt8).isPrefixOf (s.data.toList.drop i) = true := List.isPrefixOf_iff_prefix.2 hp
      rw [if_pos (show (((some 65533).getD 65533 : Nat) : Int) = 65533 from rfl), if_pos (by omega), if_pos (by omega)]
      show (YtlggimmfaflfnaaGreatDoor.QB.strings_HasPrefix.f (s.extract i s.size) _).bind _ = _
      rw [prefix_eq s i (by omega), hb]; rfl
    · rw [if_neg (by show ¬ ((r : Int) = 65533); omega)]; rfl
/-- what the iterator hands over where the rest of the text begins at i -/
theorem runesFrom_step (s : ByteArray) (i : Nat) (h : i < s.size) :
    runesFrom i (pieces (s.data.toList.drop i)) = (i, rn (take1 (s.data.toList.drop i)).1) :: runesFrom (i + (Utf8.decode s i).2) (pieces (s.data.toList.drop (i + (Utf8.decode s i).2))) := by
  have hne := drop_ne s i h
  rw [pieces_cons _ hne]
  have hw := take1_le _ hne
  simp only [runesFrom, List.length_take, List.drop_drop]
  rw [Nat.min_eq_left hw, decode_eq]
theorem runesFrom_end (s : ByteArray) (i : Nat) (h : ¬ i < s.size) : runesFrom i (pieces (s.data.toList.drop i)) = [] := by
  have e : s.data.toList.drop i = [] := List.drop_of_length_le (by rw [bytes_length]; omega)
  rw [e]; rfl

theorem iterAt_size (w : World) (k : Nat) (s : ByteArray) (p : Nat) : (w.iterAt k s p).heap.size = w.heap.size := by simp [World.iterAt]
theorem iterAt_other (w : World) (k j : Nat) (s : ByteArray) (p : Nat) (h : j ≠ k) : (w.iterAt k s p).heap[j]? = w.heap[j]? := by
  simp only [World.iterAt]; rw [Array.getElem?_setIfInBounds_ne (by omega)]
theorem iterAt_grown (w : World) (k : Nat) (s : ByteArray) (p : Nat) : w.grownBy (w.iterAt k s p) (some k) :=
  ⟨rfl, rfl, rfl, by rw [iterAt_size]; exact Nat.le_refl _, fun j _ hj => iterAt_other w k j s p (fun e => hj (by rw [e]))⟩
theorem grown_drewN (w : World) (m : Nat) : w.grownBy (w.drewN m) none := ⟨rfl, rfl, rfl, Nat.le_refl _, fun _ _ _ => rfl⟩
/-- what a round keeps, as the iterator asks it -/
def KpB (Bn : Nat) (s : ByteArray) (W W' : World) : Prop := (W.cell? ⟨Bn, 0, none⟩ = some (.string s) → W'.cell? ⟨Bn, 0, none⟩ = some (.string s)) ∧ KeepsWalks W W'
theorem KpB_t {Bn : Nat} {s : ByteArray} {A B C : World} (h : KpB Bn s A B) (k : KpB Bn s B C) : KpB Bn s A C := ⟨fun x => k.1 (h.1 x), h.2.trans k.2⟩
theorem KpB_b {Bn : Nat} {s : ByteArray} (W : World) (l : Nat) (o o' : Obj) (h : W.heap[l]? = some o) (h1 : o.isCells = false) (h2 : o.isWalk = false) : KpB Bn s W (W.putObj l o') := by
  refine ⟨fun hc => ?_, KeepsWalks.putObj _ h h2⟩
  have hne : Bn ≠ l := by
    rintro rfl
    obtain ⟨o2, ho, hc2⟩ := cells_of_cell hc
    rw [h] at ho; cases ho; rw [h1] at hc2; cases hc2
  exact (World.cell?_of_block (World.putObj_heap_other hne)).trans hc

/-- a rune of the text s, with its place -/
abbrev El (s : ByteArray) := { x : Nat × Int // x ∈ runes s.data.toList }
def encs (s : ByteArray) (x : El s) : Array Value := #[.int .i64 x.1.1, .int .i32 x.1.2]
def vals {s : ByteArray} (xs : List (El s)) : List (Nat × Int) := xs.map (·.1)
theorem vals_snoc {s : ByteArray} (xs : List (El s)) (x : El s) : vals (xs ++ [x]) = vals xs ++ [x.1] := by simp [vals]

theorem hmf (fn : Fn) (first cap : Array Value) (w : World) : (Instr.makeFunc fn first cap).run Tryz.prog w = .ok (.func fn first cap) w := rfl
set_option maxRecDepth 100000 in
set_option maxHeartbeats 1000000 in
/-- text.Runes: the text is boxed; the function value captures the box. -/
theorem runes_in (s : ByteArray) (w : World) :
    Calls Tryz.prog 239 #[.string s] w fun e w' => e = .returned (.func (.func 272) #[] #[.pointer (some ⟨w.heap.size, 0, none⟩)]) ∧ w' = w.alloc (.cells #[.string s] 9) := by
  have h := hmf
  go_enter Tryz.func239, Tryz.ntmps239
  go_wp2
  go_ret
  exact ⟨rfl, rfl⟩

set_option maxRecDepth 100000 in
set_option maxHeartbeats 2000000 in
theorem runes1_in (n : Nat) (hn : 1 ≤ n) (l Bn : Nat) (s : ByteArray) (J Jx : List (El s) → World → Prop)
    (W : World) (hJ : AbidesFrom W.heap.size J)
    (hY : ∀ pre x W, J pre W → pre.length < (runes s.data.toList).length → YieldAt Fence.wide (n - 1) Tryz.prog l (encs s x) W fun e W' =>
      (e = .returned (.bool true) ∧ J (pre ++ [x]) W' ∧ KpB Bn s W W') ∨ (e = .returned (.bool false) ∧ Jx (pre ++ [x]) W'))
    (hBn : W.cell? ⟨Bn, 0, none⟩ = some (.string s)) (h0 : J [] W) :
    CallsIn Fence.wide n Tryz.prog 272 #[.func (.yield l) #[] #[], .pointer (some ⟨Bn, 0, none⟩)] W fun e W' => (∃ v, e = .returned v) ∧
      ((∃ ys, vals ys = runes s.data.toList ∧ J ys W') ∨ (∃ pre, vals pre <+: runes s.data.toList ∧ Jx pre W')) := by
  refine callsIn_of_wp Tryz.func272 rfl trivial ?_ rfl
  simp only [Tryz.ntmps272, List.size_toArray, List.length_cons, List.length_nil, Nat.reduceAdd, Nat.reduceSub, Array.replicate_succ, Array.replicate_zero, List.push_toArray, List.append_toArray, List.nil_append, List.cons_append]
  gi_wp2
  have hBlt : Bn < W.heap.size := World.block_lt_of_cell? W _ hBn
  have hcall : ∀ (i : Nat) (w : World), i < s.size → CallsIn Fence.wide (n - 1) Tryz.prog 273 #[.string s, .int .i64 i, .int .i32 (Utf8.decode s i).1] w fun e w' => e = .returned (.bool (take1 (s.data.toList.drop i)).1.isNone) ∧ ∃ m, w' = w.drewN m := by
    intro i w hi
    refine callsIn_wide.2 ((YtlggimmfaflfnaaGreatDoor.QB.text_broken.calls s i _ _ w (broken_eq s i hi)).mono ?_)
    rintro e w' ⟨he, hd⟩
    exact ⟨he, hd.out⟩
  gi_loopw [3] (fun _ wr => ∃ (pre : List (El s)) (pos : Nat), wr.heap[W.heap.size]? = some (.stringIter s pos) ∧ runes s.data.toList = vals pre ++ runesFrom pos (pieces (s.data.toList.drop pos)) ∧ J pre wr ∧ wr.cell? ⟨Bn, 0, none⟩ = some (.string s))
    (fun _ wr => s.size - wr.iterPos W.heap.size)
  case atStart =>
    refine ⟨[], 0, World.iter_heap W s 0, by simp [vals, runes], ?_, (((Below.refl W.heap.size W).alloc (Nat.le_refl _) _).cell (p := ⟨Bn, 0, none⟩) hBlt).trans hBn⟩
    exact hJ [] W _ none h0 (World.grownBy_alloc W _ none) (fun r e => by cases e)
  case round =>
    obtain ⟨pre, pos, hit, hx, hJs, hc⟩ := hrel
    have hpos := iterPos_of hit
    by_cases hp : pos < s.size
    · obtain ⟨wn, hwn⟩ : ∃ wn, wr.iterAt W.heap.size s (pos + (Utf8.decode s pos).2) = wn := ⟨_, rfl⟩
      obtain ⟨c, hc0⟩ : ∃ c, (Utf8.decode s pos).1 = c := ⟨_, rfl⟩
      obtain ⟨q, hq⟩ : ∃ q, (take1 (s.data.toList.drop pos)).1 = q := ⟨_, rfl⟩
      have hnx : ∀ ty, (Instr.next (.pointer (some ⟨W.heap.size, 0, none⟩)) true ty).run Tryz.prog wr = .ok (.tuple #[.bool true, .int .i64 pos, .int .i32 c]) wn := fun ty => by
        rw [← hwn, ← hc0]; exact run_next_any_at wr W.heap.size s pos ty hit hp
      rw [runesFrom_step s pos hp, hq] at hx
      have hmem : (pos, rn q) ∈ runes s.data.toList := by rw [hx]; simp
      have hlen : pre.length < (runes s.data.toList).length := by rw [hx]; simp [vals]
      have hJ2 : ∀ m, J pre (wn.drewN m) := fun m => by
        rw [← hwn]
        exact hJ pre _ _ none (hJ pre _ _ _ hJs (iterAt_grown wr W.heap.size s _) (fun r e => by cases e; exact ⟨Nat.le_refl _, _, hit, rfl⟩)) (grown_drewN _ m) (fun r e => by cases e)
      have hi2 : ∀ m, (wn.drewN m).heap[W.heap.size]? = some (.stringIter s (pos + (Utf8.decode s pos).2)) := fun m => by rw [← hwn]; exact iterAt_heap wr W.heap.size s pos _ hit
      have hc1 : wn.cell? ⟨Bn, 0, none⟩ = some (.string s) := by rw [← hwn]; exact (World.cell?_of_block (iterAt_other wr W.heap.size Bn s _ (by omega))).trans hc
      have hc2 : ∀ m, (wn.drewN m).cell? ⟨Bn, 0, none⟩ = some (.string s) := fun _ => hc1
      have hw := width_pos s pos
      have hcl := hcall pos wn hp
      rw [hq, hc0] at hcl
      have hd : (c : Int) = ((q.getD 65533 : Nat) : Int) := by rw [← hc0, decode_eq, hq]
      have HX := Lib.hid hx
      have HP := Lib.hid hpos
      have HD := Lib.hid hd
      have HN := Lib.hid hwn
      clear hx hpos hJs hd hwn hq hc0 hc
      cases q with
      | none =>
        gi_wp2_with (refine ⟨trivial, ?_⟩; gi_at_call 273; refine hcl.mono ?_; rintro e w' ⟨rfl, m, rfl⟩)
        obtain ⟨fn, tmps, assign, body, hy, hR⟩ := hY pre ⟨(pos, rn none), hmem⟩ (wn.drewN m) (hJ2 m) hlen
        dsimp only [encs, rn] at hy
        rw [hy]
        gi_wp2
        refine hR.mono ?_
        rintro e W3 (⟨rfl, hJ3, hk3⟩ | ⟨rfl, hJx3⟩)
        · have hi3 := hk3.2.same _ _ (hi2 m) rfl
          have hp3 := iterPos_of hi3
          gi_wp2
          go_roundw
          case rel => exact ⟨_, pos + (Utf8.decode s pos).2, hi3, HX.out.trans (by rw [vals_snoc, List.append_assoc]; rfl), hJ3, hk3.1 (hc2 m)⟩
          case measure => rw [HP.out, hp3]; omega
        · gi_wp2
          refine bodyPost_ret (results_none rfl _ _ _) rfl ?_
          exact ⟨⟨_, rfl⟩, .inr ⟨_, ⟨_, (by rw [vals_snoc, List.append_assoc]; rfl : _ = _).trans HX.out.symm⟩, hJx3⟩⟩
      | some r =>
        gi_wp2_with (refine ⟨trivial, ?_⟩; gi_at_call 273; refine hcl.mono ?_; rintro e w' ⟨rfl, m, rfl⟩)
        obtain ⟨fn, tmps, assign, body, hy, hR⟩ := hY pre ⟨(pos, rn (some r)), hmem⟩ (wn.drewN m) (hJ2 m) hlen
        dsimp only [encs, rn] at hy
        obtain rfl : c = r := by have := HD.out; simp at this; omega
        rw [hy]
        gi_wp2
        refine hR.mono ?_
        rintro e W3 (⟨rfl, hJ3, hk3⟩ | ⟨rfl, hJx3⟩)
        · have hi3 := hk3.2.same _ _ (hi2 m) rfl
          have hp3 := iterPos_of hi3
          gi_wp2
          go_roundw
          case rel => exact ⟨_, pos + (Utf8.decode s pos).2, hi3, HX.out.trans (by rw [vals_snoc, List.append_assoc]; rfl), hJ3, hk3.1 (hc2 m)⟩
          case measure => rw [HP.out, hp3]; omega
        · gi_wp2
          refine bodyPost_ret (results_none rfl _ _ _) rfl ?_
          exact ⟨⟨_, rfl⟩, .inr ⟨_, ⟨_, (by rw [vals_snoc, List.append_assoc]; rfl : _ = _).trans HX.out.symm⟩, hJx3⟩⟩
    · have hnx : ∀ ty, (Instr.next (.pointer (some ⟨W.heap.size, 0, none⟩)) true ty).run Tryz.prog wr = _ := fun ty => run_next_end_at wr W.heap.size s pos ty hit hp
      rw [runesFrom_end s pos hp, List.append_nil] at hx
      have HX := Lib.hid hx
      clear hx hpos
      gi_wp2
      go_end0
      exact ⟨⟨_, rfl⟩, .inl ⟨pre, HX.out.symm, hJs⟩⟩

/-- **text.Runes(s) TELLS EVERY RUNE OF s WITH ITS PLACE, IN ORDER; or a beginning of them, where a round says 'no more'.** -/
theorem runes_stops (n : Nat) (hn : 1 ≤ n) (Bn : Nat) (s : ByteArray) (w : World) (hc : w.cell? ⟨Bn, 0, none⟩ = some (.string s)) :
    SeqStopsK Fence.wide n Tryz.prog 272 #[.pointer (some ⟨Bn, 0, none⟩)] (encs s) (KpB Bn s) (fun ys => vals ys = runes s.data.toList) (fun pre => vals pre <+: runes s.data.toList) (runes s.data.toList).length w := fun l J Jx W hW hJ _ hY h0 =>
  runes1_in n hn l Bn s J Jx W hJ hY ((hW.cell (p := ⟨Bn, 0, none⟩) (World.block_lt_of_cell? w _ hc)).trans hc) h0

end Go.Proofs.YtlggimmfaflfnaaGreatDoor.TR
end
