/- text.Show: the walk. -/
import Derived.Test.YtijdlpbkmlplgaaTextShow
set_option linter.unusedVariables false
set_option linter.unusedSimpArgs false
namespace Go.Proofs.Ytijdlpbkmlplgaa.TR
open Go.RowKit Go.Shelf Go.Lib Go.Proofs.Ytijdlpbkmlplgaa.TS Go.Proofs.YtijdlpbkmlplgaaW.PrintWords
attribute [local go_sem] Oper.semAt_some

set_option maxRecDepth 100000 in
set_option maxHeartbeats 4000000 in
theorem show_calls (s : ByteArray) (hs : s.size ≤ 1073741824) (w : World) :
    Calls Try.prog 35 #[.string s] w fun e w' => e = .returned (.string (strOfNums (shownAll 92 s (runes s.data.toList)))) ∧ Below w.heap.size w w' := by
  obtain ⟨i0, hi, hz0, hz1, hz2⟩ := info_parts TP.info5
  refine (callsIn_wide (n := 9)).1 ?_
  refine callsIn_of_wp_marks Try.func35 rfl trivial ?_ rfl
  simp only [Try.ntmps35, List.size_toArray, List.length_cons, List.length_nil, Nat.reduceAdd, Nat.reduceSub, Array.replicate_succ, Array.replicate_zero, List.push_toArray, List.append_toArray, List.nil_append, List.cons_append]
  gi_wp2_with (first | (refine ⟨trivial, ?_⟩; gi_at_call 21; refine (callsIn_wide.2 (runes_in s _)).mono ?_; rintro e w' ⟨rfl, rfl⟩) | (gi_at_make; refine wpListIn_make_own _ rfl _ _ 80 rfl w.heap.size 5 i0 (.int .u8 0) 1 Try.underlying80 hi hz0 hz1 .i64 .i64 _ s.size rfl rfl rfl (by rw [hz2]; omega) (by unfold maxLen; omega) (by simp) ?_; intro w1 hown hg; have bs : Boxed w1 w.heap.size 9 (.string s) := (Boxed.new w 9 (.string s)).kept hg (by simp); have bs2 := bs.alloc (.cells #[.slice (some ⟨w.heap.size + 1, 0, none⟩) 0 s.size] 80); have hc2 := bs2.cell))
  have hz1' : w.heap.size + 1 ≤ w1.heap.size := by have := hg.size; simp at this; omega
  have bb := Boxed.new w1 80 (.slice (some ⟨w.heap.size + 1, 0, none⟩) 0 s.size)
  have bb2 := bb.alloc (.cells #[.string s] 9)
  have bs3 := bs2.alloc (.cells #[.string s] 9)
  have br := Boxed.new (w1.alloc (.cells #[.slice (some ⟨w.heap.size + 1, 0, none⟩) 0 s.size] 80)) 9 (.string s)
  rw [World.size_alloc] at br
  have hB1 : Below w.heap.size w w1 := ((Below.refl _ w).alloc (Nat.le_refl _) _).grown hg (by simp) (fun k e => by cases e)
  have hB2 : Below w.heap.size w ((w1.alloc (.cells #[.slice (some ⟨w.heap.size + 1, 0, none⟩) 0 s.size] 80)).alloc (.cells #[.string s] 9)) := (hB1.alloc (by omega) _).alloc (by simp; omega) _
  rw [World.size_alloc] at hown
  have hR0 : Kd.R (Kd.int .u8) 5 ((w1.alloc (.cells #[.slice (some ⟨w.heap.size + 1, 0, none⟩) 0 s.size] 80)).alloc (.cells #[.string s] 9)) w.heap.size (fun k => (.slice (some ⟨w.heap.size + 1, 0, none⟩) 0 s.size : Value).ownBlock = some k) (.slice (some ⟨w.heap.size + 1, 0, none⟩) 0 s.size) [] :=
    Kd.R_of_own ((hown.alloc _).alloc _) (fun k hk => hk)
  clear hown hi hz0 hz1 hz2 bs bs2 hc2 bb
  generalize hW2 : ((w1.alloc (.cells #[.slice (some ⟨w.heap.size + 1, 0, none⟩) 0 s.size] 80)).alloc (.cells #[.string s] 9)) = W2 at *
  refine wp_runes 9 (by omega) w.heap.size (w1.heap.size + 1) s rfl rfl br hB2 (Nat.le_refl _)
    (fun pre W => RowBox w1.heap.size w.heap.size (shownAll 92 s pre) W ∧ Boxed W w.heap.size 9 (.string s)) (fun _ _ _ => False)
    (OfCells.and (rowBox_cells w1.heap.size w.heap.size (fun pre => shownAll 92 s pre)) (ofCells_boxed (fun _ => w.heap.size) _ (fun _ => .string s))) (fun _ => ofCells_pure (fun _ => False)) ⟨⟨_, bb2, hR0⟩, bs3⟩
    (fun i r => { tmps := #[.string s, .pointer (some ⟨w.heap.size, 0, none⟩), .string ⟨#[]⟩, .pointer (some ⟨w1.heap.size, 0, none⟩), .int .i64 i, .int .i32 r, .string s, .int .i64 s.size, .slice (some ⟨w.heap.size + 1, 0, none⟩) 0 s.size, .string s, .func (.func 55) #[] #[.pointer (some ⟨w1.heap.size + 1, 0, none⟩)], .int .i64 i, .int .i32 r, undef, undef, undef, undef, undef, undef, undef], defers := [] }) ?assign ?body ?done ?stop
  case assign =>
    intro l i r W K hK
    gi_wp2
    exact hK
  case body =>
    rintro l pre i r W ⟨⟨v, hv, hR⟩, hbs⟩ hB hbx hsz hmem hlt
    have hc := hv.cell
    have hcs := hbs.cell
    have hrl := runes_le s
    obtain ⟨hi1, hi2⟩ := runes_ok s hmem
    have hsl := shownAll_len 92 s pre
    have hpe := put_eq 0 (shownAll 92 s pre) s i r 92 (by omega) (by omega) hi2 (by omega)
    have HP := Lib.hid hpe
    clear hpe
    gi_wp2_with (refine ⟨trivial, ?_⟩; gi_at_call 60; refine (CallsIn.inRound l (callsIn_wide.2 (Ytijdlpbkmlplgaa.QD.text_put.calls 1 _ v (shownAll 92 s pre) s i r 92 _ w _ hB hR HP.out))).mono ?_; rintro e W3 ⟨v', rfl, hR', hB', hK'⟩; obtain ⟨hT, hRB, hoth⟩ := put_step hv hR hbx hB hB' hK' hR' (by omega) (by omega); have hv3 := kept_boxed hR hK' hv (by decide); have hc3 := hv3.cell; have hf3 := hv3.frozen; obtain ⟨A3, c3, rfl⟩ := Kd.R_slice hR')
    rw [List.length_append] at hT hRB hoth
    exact ⟨hT, by show RowBox _ _ (shownAll 92 s (pre ++ [(i, r)])) _ ∧ _; rw [shownAll_snoc]; exact ⟨hRB, hoth _ _ _ hbs (by decide) (by omega)⟩⟩
  case done =>
    rintro D W hD ⟨⟨v, hv, hR⟩, hbs⟩ hB hK
    have hc := hv.cell
    have hcv := own_string (P := Try.prog) Try.underlying80 Try.underlying5 Try.underlying9 (Kd.own_of_R hR)
    gi_wp2
    refine ⟨by simp, .inl ⟨_, _, rfl, run_takeDeferred hK, ?_⟩⟩
    exact ⟨_, results_tmp rfl _ _ _, rfl, hB.trans (belowK_b (w := w) (Nat.le_refl _) W D _ _ (Nat.le_trans hB2.size hD) hK rfl rfl)⟩
  case stop =>
    rintro D c pre W _ _ h _ _
    exact h.elim
end Go.Proofs.Ytijdlpbkmlplgaa.TR
