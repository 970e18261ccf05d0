/- erratalaw01.TextSmalls: for every int16 and every two int8 the program's Low, Near, Sum and Turn answer what the document's own do. No condition. -/
import Derived.Test.YtijdlpbkmlplgaaPTextSmallsx1
namespace Go.Proofs.Ytijdlpbkmlplgaa.Pure
open Go.RowKit Go.Proofs.Ytijdlpbkmlplgaa.PTextSmalls Go.Proofs.YtijdlpbkmlplgaaW.PrintWords Go.Proofs.YtijdlpbkmlplgaaW.PrintLast

theorem w64 (n : Int) (_h1 : -100000 ≤ n) (_h2 : n ≤ 100000) : wrap64 n = n := by unfold wrap64; omega
theorem tm (n : Int) : Int.tmod n 256 = if 0 ≤ n then n % 256 else -((-n) % 256) := by
  by_cases h : 0 ≤ n
  · rw [if_pos h, Int.tmod_eq_emod_of_nonneg h]
  · rw [if_neg h]
    have e := Int.neg_tmod (-n) 256
    rw [Int.neg_neg] at e
    rw [e, Int.tmod_eq_emod_of_nonneg (by omega)]
theorem i8w (n : Int) : IntKind.i8.wrap n = (n + 128) % 256 - 128 := by
  simp [IntKind.wrap, IntKind.bits, IntKind.signed] <;> omega
theorem i16w (n : Int) : IntKind.i16.wrap n = (n + 32768) % 65536 - 32768 := by
  simp [IntKind.wrap, IntKind.bits, IntKind.signed] <;> omega
theorem wrapped_eq (n : Int) (_h1 : -100000 ≤ n) (_h2 : n ≤ 100000) : errataref01_wrapped.f n = some (IntKind.i8.wrap n) := by
  unfold errataref01_wrapped.f
  have b1 : -256 < Int.tmod n 256 ∧ Int.tmod n 256 < 256 := by rw [tm]; split <;> omega
  have w1 : wrap64 (Int.tmod n 256 + 256) = Int.tmod n 256 + 256 := w64 _ (by omega) (by omega)
  have w2 : wrap64 (Int.tmod n 256 - 256) = Int.tmod n 256 - 256 := w64 _ (by omega) (by omega)
  rw [w1, w2]
  have w3 : wrap64 (Int.tmod n 256 + 256 - 256) = Int.tmod n 256 + 256 - 256 := w64 _ (by omega) (by omega)
  rw [w3]
  simp only [i8w]
  rw [tm] at *
  repeat' split
  all_goals (congr 1; omega)
theorem sum_eq (a b : Int) (ha : -128 ≤ a ∧ a ≤ 127) (hb : -128 ≤ b ∧ b ≤ 127) : ∃ s o, errataref01_Sum.f a b = some (s, o) ∧ text_Sum.f a b = some (s, o) := by
  refine ⟨IntKind.i8.wrap (a + b), decide (a + b < -128 ∨ 127 < a + b), ?_, ?_⟩
  · unfold errataref01_Sum.f
    rw [w64 a (by omega) (by omega), w64 b (by omega) (by omega), w64 (a + b) (by omega) (by omega), wrapped_eq _ (by omega) (by omega)]
    simp only [Option.bind_some]
    split
    · congr 2; simp; omega
    · congr 2; simp; omega
  · unfold text_Sum.f
    split
    · rename_i h
      congr 2
      rw [i8w]
      simp at h
      rw [Bool.eq_iff_iff]
      simp
      omega
    · rename_i h
      congr 2
      simp at h
      symm
      simp
      omega
theorem turn_eq (n : Int) (h : -32768 ≤ n ∧ n ≤ 32767) : ∃ s o, errataref01_Turn.f n = some (s, o) ∧ text_Turn.f n = some (s, o) := by
  refine ⟨IntKind.i16.wrap (-n), decide (n ≠ -32768), ?_, ?_⟩
  · unfold errataref01_Turn.f
    split
    · rename_i e; subst e; decide +kernel
    · rename_i e; simp [e]
  · unfold text_Turn.f
    rw [i16w]
    split
    · rename_i e; subst e; decide +kernel
    · rename_i e
      congr 2
      rw [Bool.eq_iff_iff]
      simp
      omega
theorem TextSmalls : erratalaw01_TextSmalls.Pure := by
  intro n a b hn ha hb
  have hn' : -32768 ≤ n ∧ n ≤ 32767 := by simp [Lit.wf, IntKind.min, IntKind.max, IntKind.bits, IntKind.signed] at hn; omega
  have ha' : -128 ≤ a ∧ a ≤ 127 := by simp [Lit.wf, IntKind.min, IntKind.max, IntKind.bits, IntKind.signed] at ha; omega
  have hb' : -128 ≤ b ∧ b ≤ 127 := by simp [Lit.wf, IntKind.min, IntKind.max, IntKind.bits, IntKind.signed] at hb; omega
  obtain ⟨s, o, e1, e2⟩ := sum_eq a b ha' hb'
  obtain ⟨t, p, e3, e4⟩ := turn_eq n hn'
  unfold erratalaw01_TextSmalls.f
  rw [e1, e2, e3, e4]
  unfold text_Low.f errataref01_Low.f text_Near.f errataref01_Near.f
  rw [w64 n (by omega) (by omega), wrapped_eq n (by omega) (by omega)]
  simp

end Go.Proofs.Ytijdlpbkmlplgaa.Pure
