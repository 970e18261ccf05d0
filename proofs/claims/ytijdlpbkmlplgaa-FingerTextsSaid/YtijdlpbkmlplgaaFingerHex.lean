/- Hex: the program's and the document's: the same, and what it is. -/
import Derived.Test.YtijdlpbkmlplgaaQH1
import Derived.Test.YtijdlpbkmlplgaaTextShow
set_option linter.unusedVariables false
set_option linter.unusedSimpArgs false
namespace Go.Proofs.Ytijdlpbkmlplgaa.TF
open Go.RowKit Go.Proofs.YtijdlpbkmlplgaaW.PrintWords Go.Proofs.YtijdlpbkmlplgaaW.PrintMore Go.Proofs.Ytijdlpbkmlplgaa.QH

def hexs (xs : List Int) : Nat → List Int
  | 0 => []
  | i + 1 => hexs xs i ++ [TR.hexI (rd xs (i : Int) / 16), TR.hexI (rd xs (i : Int) % 16)]
theorem hexs_len (xs : List Int) (i : Nat) : (hexs xs i).length = 2 * i := by
  induction i with
  | zero => rfl
  | succ i ih => unfold hexs; rw [List.length_append, ih]; simp; omega
theorem both_hex (xs : List Int) (hx : xs.length = 16) (hb : ∀ i : Nat, i < 16 → 0 ≤ rd xs (i : Int) ∧ rd xs (i : Int) < 256) (d : Nat) : ∀ i : Nat, 16 - i = d → i ≤ 16 →
    Ev (fun k => finger_Finger_Hex.l0 k (hexs xs i) xs (i : Int)) (strOfNums (hexs xs 16)) ∧ Ev (fun k => errataref29_Hex.l0 k xs (hexs xs i) (i : Int)) (strOfNums (hexs xs 16)) := by
  induction d with
  | zero =>
    intro i hd hi
    obtain rfl : i = 16 := by omega
    refine ⟨Ev.step (fun k => ?_) (Ev.now _), Ev.step (fun k => ?_) (Ev.now _)⟩
    · rw [finger_Finger_Hex.l0, if_neg (by decide)]
    · rw [errataref29_Hex.l0, if_neg (by decide)]
  | succ d ih =>
    intro i hd hi
    have hlt : i < 16 := by omega
    obtain ⟨r1, r2⟩ := hb i hlt
    obtain ⟨i1, i2⟩ := ih (i + 1) (by omega) (by omega)
    have hn : hexs xs (i + 1) = hexs xs i ++ [TR.hexI (rd xs (i : Int) / 16), TR.hexI (rd xs (i : Int) % 16)] := rfl
    have hl := hexs_len xs i
    rw [hn] at i1 i2
    obtain ⟨x, hx0⟩ : ∃ x, rd xs (i : Int) = x := ⟨_, rfl⟩
    rw [hx0] at r1 r2 i1 i2
    obtain ⟨L, hL⟩ : ∃ L, hexs xs i = L := ⟨_, rfl⟩
    rw [hL] at hl i1 i2 ⊢
    have q0 : ((i : Int) < 16) = True := eq_true (by omega)
    have q1 : (0 ≤ (i : Int)) = True := eq_true (by omega)
    have q2 : ((i : Int) < (xs.length : Int)) = True := eq_true (by omega)
    have w1 : wrap64 ((i : Int) + 1) = ((i + 1 : Nat) : Int) := by unfold wrap64; omega
    have d1 : Int.tdiv x 16 % 256 = x / 16 := by rw [Int.tdiv_eq_ediv_of_nonneg r1]; omega
    have d2 : Int.tmod x 16 = x % 16 := Int.tmod_eq_emod_of_nonneg r1
    have a1 := TR.and15 x r1 r2
    have p1 : (0 ≤ x / 16) = True := eq_true (by omega)
    have p2 : (x / 16 < 16) = True := eq_true (by omega)
    have p3 : (0 ≤ x % 16) = True := eq_true (by omega)
    have p4 : (x % 16 < 16) = True := eq_true (by omega)
    have e1 := TR.hex_eq (x / 16) (by omega) (by omega)
    have e2 := TR.hex_eq (x % 16) (by omega) (by omega)
    have ln : (L.length + [TR.hexI (x / 16), TR.hexI (x % 16)].length < 140737488355328) = True := eq_true (by simp; omega)
    refine ⟨Ev.step (fun k => ?_) i1, Ev.step (fun k => ?_) i2⟩
    · rw [finger_Finger_Hex.l0]
      simp only [q0, q1, q2, hx0, p1, p2, a1, p3, p4, e1, e2, if_true, Option.bind_some, ln, w1]
    · rw [errataref29_Hex.l0]
      simp only [q0, q1, q2, hx0, d1, d2, p1, p2, p3, p4, e1, e2, if_true, Option.bind_some, ln, w1]
/-- WHAT Hex ANSWERS. -/
theorem hex_same (xs : List Int) (hx : xs.length = 16) (hb : ∀ i : Nat, i < 16 → 0 ≤ rd xs (i : Int) ∧ rd xs (i : Int) < 256) : ∃ k, finger_Finger_Hex.f k xs = some (strOfNums (hexs xs 16)) ∧ errataref29_Hex.f k xs = some (strOfNums (hexs xs 16)) := by
  obtain ⟨⟨K1, h1⟩, ⟨K2, h2⟩⟩ := both_hex xs hx hb 16 0 rfl (by omega)
  exact ⟨K1 + K2, h1 _ (by omega), h2 _ (by omega)⟩
end Go.Proofs.Ytijdlpbkmlplgaa.TF
