/- strings.ReplaceAll of one byte by nothing: a filter. -/
import Derived.Lib.ReplaceLaws
import Derived.Lib.CountLaws
import Derived.Lib.Replace
set_option linter.unusedVariables false
set_option linter.unusedSimpArgs false
namespace Go.Proofs.YtijdlpbkmlplgaaDoor.TS
open Go.Lib

theorem index_split (c : UInt8) : ∀ (s : List UInt8), (index s [c] = -1 ∧ s.filter (· != c) = s) ∨ ∃ i : Nat, index s [c] = i ∧ i < s.length ∧ s.filter (· != c) = s.take i ++ (s.drop (i + 1)).filter (· != c)
  | [] => .inl ⟨rfl, rfl⟩
  | b :: l => by
    have hf : (b != c) = true → (b :: l).filter (· != c) = b :: l.filter (· != c) := fun h => List.filter_cons_of_pos (p := fun x => x != c) h
    have hp : ([c] : List UInt8).isPrefixOf (b :: l) = (c == b) := by simp [List.isPrefixOf]
    by_cases hb : b = c
    · subst hb
      refine .inr ⟨0, ?_, by simp, by simp⟩
      show (if ([b] : List UInt8).isPrefixOf (b :: l) = true then (0 : Int) else _) = 0
      rw [hp]; simp
    · have hb1 : (c == b) = false := by simp; exact fun h => hb h.symm
      have hb2 : (b != c) = true := by simp [bne, hb]
      have hi : index (b :: l) [c] = if index l [c] == -1 then -1 else index l [c] + 1 := by
        show (if ([c] : List UInt8).isPrefixOf (b :: l) = true then (0 : Int) else _) = _
        rw [hp, hb1]; rfl
      rcases index_split c l with ⟨h1, h2⟩ | ⟨i, h1, h2, h3⟩
      · refine .inl ⟨by rw [hi, h1]; rfl, ?_⟩
        rw [hf hb2, h2]
      · refine .inr ⟨i + 1, ?_, by simp; omega, ?_⟩
        · rw [hi, h1]
          have : ((i : Int) == -1) = false := by simp
          rw [this]; simp
        · rw [hf hb2, h3]; simp
theorem replaceK_one (c : UInt8) : ∀ (k : Nat) (s : List UInt8), count s [c] ≤ k → replaceK [c] [] k s = s.filter (· != c)
  | 0, s, h => by
    rcases index_split c s with ⟨h1, h2⟩ | ⟨i, h1, h2, h3⟩
    · rw [h2]; rfl
    · have := count_hit (s := s) (sub := [c]) (i := i) (by simp) h1
      omega
  | k + 1, s, h => by
    rcases index_split c s with ⟨h1, h2⟩ | ⟨i, h1, h2, h3⟩
    · rw [h2, replaceK, h1]; rfl
    · have := count_hit (s := s) (sub := [c]) (i := i) (by simp) h1
      have h4 : count (s.drop (i + [c].length)) [c] ≤ k := by omega
      rw [replaceK_hit _ _ _ _ i h1, h3, List.append_nil, replaceK_one c k _ h4]
      rfl
theorem replaceAll_one (s : List UInt8) (c : UInt8) : replaceAll s [c] [] = s.filter (· != c) := by
  show (if ([c] == ([] : List UInt8)) = true then s else _) = _
  rw [if_neg (by simp)]
  refine replaceK_one c _ s ?_
  unfold replaceNum
  rw [if_pos (.inl (by decide))]
  exact Nat.le_refl _
end Go.Proofs.YtijdlpbkmlplgaaDoor.TS
