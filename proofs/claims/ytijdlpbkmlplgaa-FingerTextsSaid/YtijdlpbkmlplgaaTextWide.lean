/- text.Width: the sum of the widths of what is taken of a text. -/
import Derived.Test.YtijdlpbkmlplgaaRunesLaw
import Derived.Test.YtijdlpbkmlplgaaQC2
set_option linter.unusedVariables false
set_option linter.unusedSimpArgs false
namespace Go.Proofs.Ytijdlpbkmlplgaa.TR
open Go.RowKit Go.Shelf Go.Lib Go.Proofs.Ytijdlpbkmlplgaa.TS Go.Proofs.YtijdlpbkmlplgaaW.PrintWords
attribute [local go_sem] Oper.semAt_some

def wideI (r : Int) : Int := if r < 32 ∨ r = 127 then 4 else if r = 92 then 2 else 1
theorem wide_eq (r : Int) : Ytijdlpbkmlplgaa.QC.text_wide.f 1 r = some (wideI r) := by
  unfold Ytijdlpbkmlplgaa.QC.text_wide.f wideI
  by_cases h : r < 32
  · rw [if_pos h, if_pos (.inl h)]; rfl
  · rw [if_neg h]
    by_cases h1 : r = 127
    · rw [if_pos (.inr h1)]; subst h1; rfl
    · rw [if_neg (by omega)]
      simp [Ytijdlpbkmlplgaa.QC.text_wide.j0, h1]
      split <;> rfl
theorem wideI_bd (r : Int) : 1 ≤ wideI r ∧ wideI r ≤ 4 := by unfold wideI; repeat' split
                                                             all_goals omega
/-- the width of what has come -/
def sumW (l : List (Nat × Int)) : Int := (l.map fun x => wideI x.2).sum
theorem sumW_snoc (l : List (Nat × Int)) (x : Nat × Int) : sumW (l ++ [x]) = sumW l + wideI x.2 := by simp [sumW]
theorem sumW_bd (l : List (Nat × Int)) : 0 ≤ sumW l ∧ sumW l ≤ 4 * l.length := by
  induction l with
  | nil => simp [sumW]
  | cons x t ih => have := wideI_bd x.2; simp [sumW] at ih ⊢; omega
theorem runes_le (s : ByteArray) : (runes s.data.toList).length ≤ s.size := by
  unfold runes; rw [runesFrom_length]; exact Nat.le_trans (pieces_length _) (by rw [bytes_length]; exact Nat.le_refl _)
theorem boxed_drewN {W : World} {B : Nat} {t : TypeId} {v : Value} (h : Boxed W B t v) (m : Nat) : Boxed (W.drewN m) B t v := h
theorem hmx : Try.prog.follows .mixedOrders = true := by kernel_rfl

set_option maxRecDepth 100000 in
set_option maxHeartbeats 2000000 in
theorem width_calls (s : ByteArray) (hs : s.size ≤ 140737488351232) (w : World) :
    Calls Try.prog 37 #[.string s] w fun e w' => e = .returned (.int .i64 (sumW (runes s.data.toList))) ∧ Below w.heap.size w w' := by
  refine (callsIn_wide (n := 9)).1 ?_
  refine callsIn_of_wp_marks Try.func37 rfl trivial ?_ rfl
  simp only [Try.ntmps37, List.size_toArray, List.length_cons, List.length_nil, Nat.reduceAdd, Nat.reduceSub, Array.replicate_succ, Array.replicate_zero, List.push_toArray, List.append_toArray, List.nil_append, List.cons_append]
  gi_wp2_with (refine ⟨trivial, ?_⟩; gi_at_call 21; refine (callsIn_wide.2 (runes_in s _)).mono ?_; rintro e w' ⟨rfl, rfl⟩)
  have b0 := Boxed.new w 3 (.int .i64 0)
  have b1 := Boxed.new (w.alloc (.cells #[.int .i64 0] 3)) 9 (.string s)
  have b0' := b0.alloc (.cells #[.string s] 9)
  have hB0 : Below w.heap.size w ((w.alloc (.cells #[.int .i64 0] 3)).alloc (.cells #[.string s] 9)) := ((Below.refl _ w).alloc (Nat.le_refl _) _).alloc (by simp) _
  have hz : (w.alloc (.cells #[.int .i64 0] 3)).heap.size = w.heap.size + 1 := World.size_alloc _ _
  rw [hz] at b1
  refine wp_runes 9 (by omega) w.heap.size (w.heap.size + 1) s rfl rfl b1 hB0 (Nat.le_refl _)
    (fun pre W => Boxed W w.heap.size 3 (.int .i64 (sumW pre))) (fun _ _ _ => False)
    (ofCells_boxed (fun _ => w.heap.size) _ (fun pre => .int .i64 (sumW pre))) (fun _ => ofCells_pure (fun _ => False)) b0'
    (fun i r => { tmps := #[.string s, undef, .int .i64 0, .pointer (some ⟨w.heap.size, 0, none⟩), undef, .int .i32 r, .string s, .func (.func 55) #[] #[.pointer (some ⟨w.heap.size + 1, 0, none⟩)], .int .i64 i, .int .i32 r, undef, undef, undef, undef, undef], defers := [] }) ?assign ?body ?done ?stop
  case assign =>
    intro l i r W K hK
    gi_wp2
    exact hK
  case body =>
    rintro l pre i r W hv hB hbx hsz hmem hlt
    have hc := hv.cell
    have hf := hv.frozen
    have h1 := hmx
    have hbd := sumW_bd pre
    have hrl := runes_le s
    have hwb := wideI_bd r
    gi_wp2
    gi_region_with_o (refine ⟨trivial, ?_⟩; gi_at_call 62; refine (CallsIn.inRound l (callsIn_wide.2 (Ytijdlpbkmlplgaa.QC.text_wide.calls 1 r _ _ (wide_eq r)))).mono ?_; rintro e w' ⟨rfl, hdr⟩; obtain ⟨m, rfl⟩ := hdr.out)
    all_goals gi_wp2
    all_goals (try go_bits)
    all_goals exact ⟨((Turned.refl _ _ _).drewN (1 + m)).trans (Turned.set (boxed_drewN hv (1 + m)) (Nat.le_refl _) (by omega) _), by show Boxed _ _ _ (.int .i64 (sumW (pre ++ [(i, r)]))); rw [sumW_snoc]; exact Boxed.set _ (boxed_drewN hv (1 + m))⟩
  case done =>
    rintro D W hD hv hB hK
    have hc := hv.cell
    gi_wp2
    refine ⟨by simp, .inl ⟨_, _, rfl, run_takeDeferred hK, ?_⟩⟩
    exact ⟨_, results_tmp rfl _ _ _, rfl, hB.trans (belowK_b (w := w) (Nat.le_refl _) W D _ _ (Nat.le_trans hB0.size hD) hK rfl rfl)⟩
  case stop =>
    rintro D c pre W _ _ h _ _
    exact h.elim
end Go.Proofs.Ytijdlpbkmlplgaa.TR
