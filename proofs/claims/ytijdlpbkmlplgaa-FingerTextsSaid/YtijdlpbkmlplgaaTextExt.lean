/- The hand-proved contracts of package text, and of the library's calls beside it, in the printed contracts' form: so that the print goes on above them. -/
import Derived.Test.YtijdlpbkmlplgaaTextShow2
import Derived.Test.YtijdlpbkmlplgaaTextQuote
import Derived.Test.YtijdlpbkmlplgaaTextBreaks
import Derived.Test.YtijdlpbkmlplgaaTextCut
import Derived.Test.YtijdlpbkmlplgaaShelf
set_option linter.unusedVariables false
set_option linter.unusedSimpArgs false
namespace Go.Proofs.Ytijdlpbkmlplgaa.TX
open Go.RowKit Go.Lib Go.Proofs.Ytijdlpbkmlplgaa.TS Go.Proofs.Ytijdlpbkmlplgaa.TR Go.Proofs.YtijdlpbkmlplgaaW.PrintWords

def showB (s : ByteArray) : ByteArray := strOfNums (shownAll 92 s (runes s.data.toList))
def quoteB (s : ByteArray) : ByteArray := strOfNums (34 :: shownAll 34 s (runes s.data.toList) ++ [34])
def widthI (s : ByteArray) : Int := sumW (runes s.data.toList)
def breaksI (s : ByteArray) : List Int := breaksAll (runes s.data.toList)
/-- what is not longer than may be -/
def small (n : Nat) : Prop := n ≤ 1073741824
instance (n : Nat) : Decidable (small n) := inferInstanceAs (Decidable (n ≤ _))

def text_Show.f (a0 : ByteArray) : Option ByteArray := if small a0.size then some (showB a0) else none
theorem text_Show.calls (a0 : ByteArray) (r : ByteArray) (w : World) (h : text_Show.f a0 = some r) :
    Calls Try.prog 35 #[.string a0] w fun e w' => e = .returned (.string r) ∧ Below w.heap.size w w' := by
  unfold text_Show.f at h
  split at h
  · rename_i hs; obtain rfl := Option.some.inj h; exact show_calls a0 hs w
  · cases h
def text_Quote.f (a0 : ByteArray) : Option ByteArray := if small a0.size then some (quoteB a0) else none
theorem text_Quote.calls (a0 : ByteArray) (r : ByteArray) (w : World) (h : text_Quote.f a0 = some r) :
    Calls Try.prog 39 #[.string a0] w fun e w' => e = .returned (.string r) ∧ Below w.heap.size w w' := by
  unfold text_Quote.f at h
  split at h
  · rename_i hs; obtain rfl := Option.some.inj h; exact quote_calls a0 hs w
  · cases h
def text_Width.f (a0 : ByteArray) : Option Int := if small a0.size then some (widthI a0) else none
theorem text_Width.calls (a0 : ByteArray) (r : Int) (w : World) (h : text_Width.f a0 = some r) :
    Calls Try.prog 37 #[.string a0] w fun e w' => e = .returned (.int .i64 r) ∧ Below w.heap.size w w' := by
  unfold text_Width.f at h
  split at h
  · rename_i hs; obtain rfl := Option.some.inj h; exact width_calls a0 (by unfold small at hs; omega) w
  · cases h
def text_Breaks.f (a0 : ByteArray) : Option (List Int) := if small a0.size then some (breaksI a0) else none
theorem text_Breaks.calls (a0 : ByteArray) (r : List Int) (w : World) (h : text_Breaks.f a0 = some r) :
    Calls Try.prog 23 #[.string a0] w fun e w' => ∃ v0_ : Value, e = .returned (v0_) ∧ Kd.R (Kd.int .i64) 3 w' w.heap.size (fun _ => True) v0_ r ∧ Below w.heap.size w w' := by
  unfold text_Breaks.f at h
  split at h
  · rename_i hs; obtain rfl := Option.some.inj h; exact breaks_calls a0 hs w
  · cases h
def text_Cut.f (a0 : ByteArray) (a1 : Int) : Option ByteArray := if small a0.size then some (cutB a0 a1) else none
theorem text_Cut.calls (a0 : ByteArray) (a1 : Int) (r : ByteArray) (w : World) (h : text_Cut.f a0 a1 = some r) :
    Calls Try.prog 45 #[.string a0, .int .i64 a1] w fun e w' => e = .returned (.string r) ∧ Below w.heap.size w w' := by
  unfold text_Cut.f at h
  split at h
  · rename_i hs; obtain rfl := Option.some.inj h; exact cut_calls a0 a1 hs w
  · cases h
def strings_IndexByte.f (a0 : ByteArray) (a1 : Int) : Option Int := some (Lib.indexByte a0.data.toList a1.toNat.toUInt8)
theorem strings_IndexByte.calls (a0 : ByteArray) (a1 : Int) (r : Int) (w : World) (h : strings_IndexByte.f a0 a1 = some r) :
    Calls Try.prog 57 #[.string a0, .int .u8 a1] w fun e w' => e = .returned (.int .i64 r) ∧ Drawn0 w w' := by
  obtain rfl := Option.some.inj h
  refine (Try.strings_IndexByte a0 a1 w).mono ?_
  rintro e w' ⟨he, rfl⟩
  exact ⟨he, Drawn0.refl _⟩
/-- a blank or a line's end -/
def blank (r : Nat) : Bool := r == 32 || r == 10
theorem wrap1_calls (x : Nat) (w : World) : Calls Try.prog 68 #[.int .i32 x] w fun e w' => e = .returned (.bool (blank x)) ∧ Drawn0 w w' := by
  refine Ytijdlpbkmlplgaa.QC.text_Wrap_1.calls x _ w ?_
  unfold Ytijdlpbkmlplgaa.QC.text_Wrap_1.f blank
  by_cases h : x = 32
  · subst h; rfl
  · rw [if_neg (by omega)]
    have e1 : (x == 32) = false := by simpa using h
    rw [e1]
    congr 1
    rw [Bool.eq_iff_iff]; simp; omega
def strings_FieldsFunc.f (a0 : ByteArray) : Option (List ByteArray) := if small a0.size then some (Lib.goFieldsP blank a0) else none
theorem strings_FieldsFunc.calls (a0 : ByteArray) (r : List ByteArray) (w : World) (h : strings_FieldsFunc.f a0 = some r) :
    Calls Try.prog 67 #[.string a0, .func (.func 68) #[] #[]] w fun e w' => ∃ v0_ : Value, e = .returned (v0_) ∧ Kd.R Kd.string 9 w' w.heap.size (fun _ => True) v0_ r ∧ Below w.heap.size w w' := by
  unfold strings_FieldsFunc.f at h
  split at h
  · rename_i hs
    obtain rfl := Option.some.inj h
    refine (Try.strings_FieldsFunc_runes 68 #[] (enters_of Try.func68 (by kernel_rfl) rfl) blank a0 w (by unfold small at hs; omega) ?_).mono ?_
    · exact fun W x _ _ => (wrap1_calls x W).mono (fun e w' ⟨he, hd⟩ => ⟨he, hd.out⟩)
    · rintro e w' ⟨A, rfl, _, hown, hB⟩
      exact ⟨_, rfl, Kd.R_of_own hown (fun _ _ => trivial), hB⟩
  · cases h
def strings_Join.f (l0 : List ByteArray) (a1 : ByteArray) : Option ByteArray := if l0.length ≤ 1073741824 ∧ (Lib.join (l0.map (·.data.toList)) a1.data.toList).length ≤ 140737488355328 then some ⟨(Lib.join (l0.map (·.data.toList)) a1.data.toList).toArray⟩ else none
theorem strings_Join.calls (A0 : Option Addr) (c0 : Nat) (l0 : List ByteArray) (a1 : ByteArray) (r : ByteArray) (w : World) (hr0 : Kd.C Kd.string w A0 l0.length l0) (hc0 : l0.length ≤ c0) (h : strings_Join.f l0 a1 = some r) :
    Calls Try.prog 69 #[.slice A0 l0.length c0, .string a1] w fun e w' => e = .returned (.string r) ∧ Below w.heap.size w w' := by
  unfold strings_Join.f at h
  split at h
  · rename_i hs
    obtain rfl := Option.some.inj h
    cases l0 with
    | nil =>
      refine (Try.strings_Join_none A0 c0 a1 w).mono ?_
      rintro e w' ⟨rfl, rfl⟩
      exact ⟨rfl, Below.refl _ _⟩
    | cons x t =>
      obtain ⟨_, _, hr⟩ := hr0
      obtain ⟨⟨bk, o, sp⟩, rfl, hcell⟩ := hr (by simp)
      have hc0' : ∀ (j : Nat) y, (x :: t)[j]? = some y → w.cell? (if j = 0 then ⟨bk, o, sp⟩ else ⟨bk, o + j, none⟩) = some (.string y) := fun j y hj => by
        obtain ⟨c, _, hc1, hc2⟩ := hcell j y hj
        have hc1' : c = [.string y] := hc1
        subst hc1'
        have := hc2 0 _ rfl
        simpa [Addr.add, Kd.string, Kd.scalar] using this
      obtain rfl : sp = none := by
        have := hc0' 0 x rfl
        cases sp with
        | none => rfl
        | some q =>
          exfalso
          unfold World.cell? at this
          split at this
          · simp at this
          · cases this
      have hc : ∀ (j : Nat) y, (x :: t)[j]? = some y → w.cell? ⟨bk, o + j, none⟩ = some (.string y) := fun j y hj => by
        have := hc0' j y hj
        split at this
        · rename_i e; subst e; exact this
        · exact this
      exact Try.strings_Join bk o c0 (x :: t) a1 w hc (World.block_lt_of_cell? w _ (hc 0 x rfl)) (by omega) hc0 hs.2
  · cases h
end Go.Proofs.Ytijdlpbkmlplgaa.TX
