/- Digits: the program's and the document's runs of digits as one: the same. -/
import Derived.Test.YtijdlpbkmlplgaaQG1
set_option linter.unusedVariables false
set_option linter.unusedSimpArgs false
namespace Go.Proofs.Ytijdlpbkmlplgaa.TF
open Go.RowKit Go.Proofs.YtijdlpbkmlplgaaW.PrintWords Go.Proofs.YtijdlpbkmlplgaaW.PrintMore Go.Proofs.Ytijdlpbkmlplgaa.QG

theorem wn (i : Nat) (c : Int) (j : Nat) (hc : (i : Int) + c = (j : Int)) (hj : j ≤ 4611686018427387904) : wrap64 ((i : Int) + c) = (j : Int) := by
  rw [hc]; unfold wrap64; omega
theorem wless (i : Nat) (hi : i ≤ 4611686018427387904) : wrap64 (((i + 1 : Nat) : Int) - 1) = (i : Int) := by unfold wrap64; omega
/-- is the byte ahead of place i a digit? -/
def prevd (s : ByteArray) : Nat → Bool
  | 0 => false
  | i + 1 => decide (48 ≤ bt s (i : Int)) && decide (bt s (i : Int) ≤ 57)
/-- one step on, whatever is put -/
theorem both_digits (s : ByteArray) (hs : s.size ≤ 140737488351232) (d : Nat) : ∀ (i : Nat) (out : List Int), s.size - i = d → i ≤ s.size → out.length ≤ i →
    ∃ r, Ev (fun k => finger_Digits.l0 k s out (i : Int)) r ∧ Ev (fun k => errataref29_Digits.l0 k s out (prevd s i) (i : Int)) r := by
  induction d with
  | zero =>
    intro i out hd hi ho
    have q0 : ((i : Int) < (s.size : Int)) = False := eq_false (by omega)
    refine ⟨strOfNums out, Ev.step (fun k => ?_) (Ev.now _), Ev.step (fun k => ?_) (Ev.now _)⟩
    · rw [finger_Digits.l0]; simp only [q0, if_false]
    · rw [errataref29_Digits.l0]; simp only [q0, if_false]
  | succ d ih =>
    intro i out hd hi ho
    have q0 : ((i : Int) < (s.size : Int)) = True := eq_true (by omega)
    have q1 : (0 ≤ (i : Int)) = True := eq_true (by omega)
    have q2 : (out.length < 140737488355328) = True := eq_true (by omega)
    have w1 := wn i 1 (i + 1) (by omega) (by omega)
    have hlen : ∀ c : Int, (out ++ [c]).length ≤ i + 1 := fun c => by simp; omega
    have ih0 := ih (i + 1) out (by omega) (by omega) (by omega)
    have ihp := fun c : Int => ih (i + 1) (out ++ [c]) (by omega) (by omega) (hlen c)
    have hpv : prevd s (i + 1) = (decide (48 ≤ bt s (i : Int)) && decide (bt s (i : Int) ≤ 57)) := rfl
    have hwl : ∀ j : Nat, i = j + 1 → wrap64 ((i : Int) - 1) = (j : Int) := fun j e => by subst e; exact wless j (by omega)
    rw [hpv] at ih0 ihp
    obtain ⟨b, hb⟩ : ∃ b, bt s (i : Int) = b := ⟨_, rfl⟩
    rw [hb] at ih0 ihp
    by_cases hd1 : 48 ≤ b
    · by_cases hd2 : b ≤ 57
      · rw [decide_eq_true hd1, decide_eq_true hd2, Bool.and_self] at ih0 ihp
        have g1 : (b ≥ 48) = True := eq_true hd1
        have g2 : decide (b ≤ 57) = true := decide_eq_true hd2
        -- the program, at a digit
        have hP : ∀ {r : ByteArray}, Ev (fun k => finger_Digits.j1 k s out (i : Int) true) r → Ev (fun k => finger_Digits.l0 k s out (i : Int)) r := fun h => by
          refine Ev.step (fun k => ?_) h
          rw [finger_Digits.l0]
          simp only [q0, q1, hb, g1, g2, if_true]
        have hR : ∀ {r : ByteArray}, Ev (fun k => errataref29_Digits.j1 k s out (prevd s i) (i : Int) true) r → Ev (fun k => errataref29_Digits.l0 k s out (prevd s i) (i : Int)) r := fun h => by
          refine Ev.step (fun k => ?_) h
          rw [errataref29_Digits.l0]
          simp only [q0, q1, hb, g1, g2, if_true]
        cases i with
        | zero =>
          obtain ⟨r, h1, h2⟩ := ihp 48
          refine ⟨r, hP (Ev.step (fun k => ?_) h1), hR (Ev.step (fun k => ?_) h2)⟩
          · rw [finger_Digits.j1]
            simp only [w1, q2, if_true, show ((0 : Nat) : Int) = 0 from rfl]
            simp only [show ((0 : Nat) : Int) = 0 from rfl] at w1
            rw [w1]
          · rw [errataref29_Digits.j1]
            simp only [prevd, w1, q2, if_true, if_false, Bool.false_eq_true]
        | succ j =>
          have hw := hwl j rfl
          have q5 : (((j + 1 : Nat) : Int) = 0) = False := eq_false (by omega)
          have q6 : (0 ≤ (j : Int)) = True := eq_true (by omega)
          have q7 : ((j : Int) < (s.size : Int)) = True := eq_true (by omega)
          by_cases p1 : bt s (j : Int) < 48
          · obtain ⟨r, h1, h2⟩ := ihp 48
            have hpd : prevd s (j + 1) = false := by show (decide (48 ≤ bt s (j : Int)) && decide (bt s (j : Int) ≤ 57)) = false; rw [decide_eq_false (show ¬ 48 ≤ bt s (j : Int) from by omega), Bool.false_and]
            refine ⟨r, hP (Ev.step (fun k => ?_) h1), hR (Ev.step (fun k => ?_) h2)⟩
            · rw [finger_Digits.j1]
              simp only [hw, q5, q6, q7, p1, w1, q2, if_true, if_false]
            · rw [errataref29_Digits.j1, hpd]
              simp only [w1, q2, if_true, if_false, Bool.false_eq_true]
          · by_cases p2 : bt s (j : Int) > 57
            · obtain ⟨r, h1, h2⟩ := ihp 48
              have hpd : prevd s (j + 1) = false := by show (decide (48 ≤ bt s (j : Int)) && decide (bt s (j : Int) ≤ 57)) = false; rw [decide_eq_false (show ¬ bt s (j : Int) ≤ 57 from by omega), Bool.and_false]
              refine ⟨r, hP (Ev.step (fun k => ?_) h1), hR (Ev.step (fun k => ?_) h2)⟩
              · rw [finger_Digits.j1]
                simp only [hw, q5, q6, q7, p1, p2, w1, q2, if_true, if_false]
              · rw [errataref29_Digits.j1, hpd]
                simp only [w1, q2, if_true, if_false, Bool.false_eq_true]
            · obtain ⟨r, h1, h2⟩ := ih0
              have hpd : prevd s (j + 1) = true := by show (decide (48 ≤ bt s (j : Int)) && decide (bt s (j : Int) ≤ 57)) = true; rw [decide_eq_true (show 48 ≤ bt s (j : Int) from by omega), decide_eq_true (show bt s (j : Int) ≤ 57 from by omega)]; rfl
              refine ⟨r, hP (Ev.step (fun k => ?_) h1), hR (Ev.step (fun k => ?_) h2)⟩
              · rw [finger_Digits.j1]
                simp only [hw, q5, q6, q7, p1, p2, w1, if_true, if_false]
              · rw [errataref29_Digits.j1, hpd]
                simp only [w1, if_true]
      · rw [decide_eq_false hd2, Bool.and_false] at ihp
        have g1 : (b ≥ 48) = True := eq_true hd1
        have g2 : decide (b ≤ 57) = false := decide_eq_false hd2
        obtain ⟨r, h1, h2⟩ := ihp b
        refine ⟨r, Ev.step (f := fun k => finger_Digits.j1 k s out (i : Int) false) (fun k => ?_) (Ev.step (fun k => ?_) h1), Ev.step (f := fun k => errataref29_Digits.j1 k s out (prevd s i) (i : Int) false) (fun k => ?_) (Ev.step (fun k => ?_) h2)⟩
        · rw [finger_Digits.l0]; simp only [q0, q1, hb, g1, g2, if_true]
        · rw [finger_Digits.j1]; simp only [q0, q1, q2, hb, w1, if_true, if_false, Bool.false_eq_true]
        · rw [errataref29_Digits.l0]; simp only [q0, q1, hb, g1, g2, if_true]
        · rw [errataref29_Digits.j1]; simp only [q0, q1, q2, hb, w1, if_true, if_false, Bool.false_eq_true]
    · rw [decide_eq_false hd1, Bool.false_and] at ihp
      have g1 : (b ≥ 48) = False := eq_false hd1
      obtain ⟨r, h1, h2⟩ := ihp b
      refine ⟨r, Ev.step (f := fun k => finger_Digits.j1 k s out (i : Int) false) (fun k => ?_) (Ev.step (fun k => ?_) h1), Ev.step (f := fun k => errataref29_Digits.j1 k s out (prevd s i) (i : Int) false) (fun k => ?_) (Ev.step (fun k => ?_) h2)⟩
      · rw [finger_Digits.l0]; simp only [q0, q1, hb, g1, if_true, if_false]
      · rw [finger_Digits.j1]; simp only [q0, q1, q2, hb, w1, if_true, if_false, Bool.false_eq_true]
      · rw [errataref29_Digits.l0]; simp only [q0, q1, hb, g1, if_true, if_false]
      · rw [errataref29_Digits.j1]; simp only [q0, q1, q2, hb, w1, if_true, if_false, Bool.false_eq_true]
/-- THE SAME DIGITS. -/
theorem digits_same (s : ByteArray) (hs : s.size ≤ 140737488351232) : ∃ (k : Nat) (r : ByteArray), finger_Digits.f k s = some r ∧ errataref29_Digits.f k s = some r := by
  obtain ⟨r, ⟨K1, h1⟩, ⟨K2, h2⟩⟩ := both_digits s hs s.size 0 [] (by omega) (by omega) (by simp)
  exact ⟨K1 + K2, r, h1 _ (by omega), h2 _ (by omega)⟩
end Go.Proofs.Ytijdlpbkmlplgaa.TF
