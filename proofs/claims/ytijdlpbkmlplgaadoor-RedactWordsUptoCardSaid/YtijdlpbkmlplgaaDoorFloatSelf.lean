/- A float against itself; a quotient is no NaN. -/
import Derived.Laws.FloatArith
namespace Go.Proofs.YtijdlpbkmlplgaaDoor.TS
open Ieee

theorem order_self (d : Datum) : (∃ s t, d = .nan s t) ∨ d.order d = some .eq := by
  cases d with
  | nan s t => exact .inl ⟨s, t, rfl⟩
  | infinity s => right; cases s <;> rfl
  | number s m i => right; simp only [Datum.order]; simp
theorem read_word (neg : Bool) (r : Nat) (h : r ≤ Ieee.double.infRung) : ∀ s t, Ieee.double.read (Ieee.double.word neg r) ≠ .nan s t := by
  intro s t
  have h1 : Ieee.double.infRung = 9218868437227405312 := by decide
  have h2 : Ieee.double.signWeight = 9223372036854775808 := by decide
  have h3 : Ieee.double.word neg r % Ieee.double.signWeight = r := by
    unfold Format.word
    rw [h2]; split <;> omega
  unfold Format.read
  simp only [h3]
  split
  · simp
  · split
    · simp
    · split
      · simp
      · omega
theorem read_write (d : Datum) (h : ∀ s t, d ≠ .nan s t) : ∀ s t, Ieee.double.read (Ieee.double.write d) ≠ .nan s t := by
  cases d with
  | nan s t => exact absurd rfl (h s t)
  | infinity s => exact read_word s _ (Nat.le_refl _)
  | number s m i =>
    show ∀ s' t, Ieee.double.read (Ieee.double.nearest s m i) ≠ .nan s' t
    unfold Format.nearest
    split
    · exact read_word s 0 (Nat.zero_le _)
    · exact read_word s _ (Nat.min_le_right _ _)
theorem quotient_fine (g : Nat) (x y d : Datum) (h : Datum.quotient g x y = some d) : ∀ s t, d ≠ .nan s t := by
  intro s t e
  subst e
  unfold Datum.quotient at h
  split at h <;> simp at h
  split at h
  · split at h <;> simp at h
  · simp at h
theorem div_self_eq (x y r : Nat) (h : floatBits .quo .f64 x y = some r) : Ieee.double.order r r = some .eq := by
  have h' : Ieee.double.div x y = some r := h
  unfold Format.div at h'
  obtain ⟨d, hd, rfl⟩ := Option.map_eq_some_iff.1 h'
  unfold Format.order
  rcases order_self (Ieee.double.read (Ieee.double.write d)) with ⟨s, t, h⟩ | h
  · exact absurd h (read_write d (quotient_fine _ _ _ _ hd) s t)
  · exact h
theorem div_one (x : Nat) (h : Ieee.double.order x x = some .eq) : ∃ r, floatBits .quo .f64 4607182418800017408 x = some r := by
  show ∃ r, Ieee.double.div 4607182418800017408 x = some r
  have h1 : Ieee.double.read 4607182418800017408 = .number false 4503599627370496 (-52) := by decide +kernel
  unfold Format.div
  rw [h1]
  unfold Format.order at h
  cases hx : Ieee.double.read x with
  | nan s t => rw [hx] at h; cases h
  | infinity s => exact ⟨_, rfl⟩
  | number s m i =>
    simp only [Datum.quotient]
    split
    · simp
    · simp
end Go.Proofs.YtijdlpbkmlplgaaDoor.TS
