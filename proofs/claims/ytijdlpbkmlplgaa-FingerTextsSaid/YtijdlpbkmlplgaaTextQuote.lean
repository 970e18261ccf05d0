/- text.Quote: the walk. -/
import Derived.Test.YtijdlpbkmlplgaaTextShow
import Derived.Maps.AppendAt
set_option linter.unusedVariables false
set_option linter.unusedSimpArgs false
namespace Go.Proofs.Ytijdlpbkmlplgaa.TR
open Go.RowKit Go.Shelf Go.Lib Go.Proofs.Ytijdlpbkmlplgaa.TS Go.Proofs.YtijdlpbkmlplgaaW.PrintWords
attribute [local go_sem] Oper.semAt_some

set_option maxRecDepth 100000 in
set_option maxHeartbeats 4000000 in
theorem quote_calls (s : ByteArray) (hs : s.size ≤ 1073741824) (w : World) :
    Calls Try.prog 39 #[.string s] w fun e w' => e = .returned (.string (strOfNums (34 :: shownAll 34 s (runes s.data.toList) ++ [34]))) ∧ Below w.heap.size w w' := by
  refine (callsIn_wide (n := 9)).1 ?_
  refine callsIn_of_wp_marks Try.func39 rfl trivial ?_ rfl
  simp only [Try.ntmps39, List.size_toArray, List.length_cons, List.length_nil, Nat.reduceAdd, Nat.reduceSub, Array.replicate_succ, Array.replicate_zero, List.push_toArray, List.append_toArray, List.nil_append, List.cons_append]
  gi_wp2_with (refine ⟨trivial, ?_⟩; gi_at_call 21; refine (callsIn_wide.2 (runes_in s _)).mono ?_; rintro e w' ⟨rfl, rfl⟩)
  have bs := Boxed.new w 9 (.string s)
  have hown0 := own_lit (w.alloc (.cells #[.string s] 9)) w.heap.size 5 .u8 [34] (by simp) (by simp)
  have bs1 := bs.alloc (.cells #[.int .u8 34] 5)
  have bb := Boxed.new ((w.alloc (.cells #[.string s] 9)).alloc (.cells #[.int .u8 34] 5)) 80 (.slice (some ⟨w.heap.size + 1, 0, none⟩) 1 1)
  have bs2 := bs1.alloc (.cells #[.slice (some ⟨w.heap.size + 1, 0, none⟩) 1 1] 80)
  have bb2 := bb.alloc (.cells #[.string s] 9)
  have bs3 := bs2.alloc (.cells #[.string s] 9)
  have br := Boxed.new (((w.alloc (.cells #[.string s] 9)).alloc (.cells #[.int .u8 34] 5)).alloc (.cells #[.slice (some ⟨w.heap.size + 1, 0, none⟩) 1 1] 80)) 9 (.string s)
  simp only [World.size_alloc] at br bb2 hown0
  have hB2 : Below w.heap.size w ((((w.alloc (.cells #[.string s] 9)).alloc (.cells #[.int .u8 34] 5)).alloc (.cells #[.slice (some ⟨w.heap.size + 1, 0, none⟩) 1 1] 80)).alloc (.cells #[.string s] 9)) :=
    ((((Below.refl _ w).alloc (Nat.le_refl _) _).alloc (by simp) _).alloc (by simp; omega) _).alloc (by simp; omega) _
  have hR0 : Kd.R (Kd.int .u8) 5 ((((w.alloc (.cells #[.string s] 9)).alloc (.cells #[.int .u8 34] 5)).alloc (.cells #[.slice (some ⟨w.heap.size + 1, 0, none⟩) 1 1] 80)).alloc (.cells #[.string s] 9)) w.heap.size (fun k => (.slice (some ⟨w.heap.size + 1, 0, none⟩) 1 1 : Value).ownBlock = some k) (.slice (some ⟨w.heap.size + 1, 0, none⟩) 1 1) [34] :=
    Kd.R_of_own ((hown0.alloc _).alloc _) (fun k hk => hk)
  clear hown0 bs bs1 bs2 bb
  generalize hW2 : ((((w.alloc (.cells #[.string s] 9)).alloc (.cells #[.int .u8 34] 5)).alloc (.cells #[.slice (some ⟨w.heap.size + 1, 0, none⟩) 1 1] 80)).alloc (.cells #[.string s] 9)) = W2 at *
  refine wp_runes 9 (by omega) w.heap.size (w.heap.size + 1 + 1 + 1) s rfl rfl br hB2 (Nat.le_refl _)
    (fun pre W => RowBox (w.heap.size + 1 + 1) w.heap.size (34 :: shownAll 34 s pre) W ∧ Boxed W w.heap.size 9 (.string s)) (fun _ _ _ => False)
    (OfCells.and (rowBox_cells (w.heap.size + 1 + 1) w.heap.size (fun pre => 34 :: shownAll 34 s pre)) (ofCells_boxed (fun _ => w.heap.size) _ (fun _ => .string s))) (fun _ => ofCells_pure (fun _ => False)) ⟨⟨_, bb2, hR0⟩, bs3⟩
    (fun i r => { tmps := #[.string s, .pointer (some ⟨w.heap.size, 0, none⟩), .string ⟨#[]⟩, .pointer (some ⟨w.heap.size + 1 + 1, 0, none⟩), .int .i64 i, .int .i32 r, .slice (some ⟨w.heap.size + 1, 0, none⟩) 1 1, .string s, .func (.func 55) #[] #[.pointer (some ⟨w.heap.size + 1 + 1 + 1, 0, none⟩)], .int .i64 i, .int .i32 r, undef, undef, undef, undef, undef, undef, undef, undef, undef], defers := [] }) ?assign ?body ?done ?stop
  case assign =>
    intro l i r W K hK
    gi_wp2
    exact hK
  case body =>
    rintro l pre i r W ⟨⟨v, hv, hR⟩, hbs⟩ hB hbx hsz hmem hlt
    have hc := hv.cell
    have hcs := hbs.cell
    have hrl := runes_le s
    obtain ⟨hi1, hi2⟩ := runes_ok s hmem
    have hsl := shownAll_len 34 s pre
    have hpe := put_eq 0 (34 :: shownAll 34 s pre) s i r 34 (by omega) (by omega) hi2 (by simp; omega)
    have HP := Lib.hid hpe
    clear hpe
    gi_wp2_with (refine ⟨trivial, ?_⟩; gi_at_call 60; refine (CallsIn.inRound l (callsIn_wide.2 (Ytijdlpbkmlplgaa.QD.text_put.calls 1 _ v (34 :: shownAll 34 s pre) s i r 34 _ w _ hB hR HP.out))).mono ?_; rintro e W3 ⟨v', rfl, hR', hB', hK'⟩; obtain ⟨hT, hRB, hoth⟩ := put_step hv hR hbx hB hB' hK' hR' (by omega) (by omega); have hv3 := kept_boxed hR hK' hv (by decide); have hc3 := hv3.cell; have hf3 := hv3.frozen; obtain ⟨A3, c3, rfl⟩ := Kd.R_slice hR')
    have el : (34 :: shownAll 34 s pre ++ shownI 34 (bt s ↑i) r).length = (shownAll 34 s pre).length + (shownI 34 (bt s ↑i) r).length + 1 := by simp
    rw [el] at hT hRB hoth
    exact ⟨hT, by show RowBox _ _ (34 :: shownAll 34 s (pre ++ [(i, r)])) _ ∧ _; rw [shownAll_snoc]; exact ⟨hRB, hoth _ _ _ hbs (by decide) (by omega)⟩⟩
  case done =>
    rintro D W hD ⟨⟨v, hv, hR⟩, hbs⟩ hB hK
    have hc := hv.cell
    obtain ⟨i0, hi, hz0, hz1, hz2⟩ := info_parts TP.info5
    have hrl := runes_le s
    have hsl := shownAll_len 34 s (runes s.data.toList)
    have hbs2 := hB.size
    gi_wp2_with (gi_at_builtin; go_loud (refine wpListIn_append_own _ rfl _ _ 80 rfl w.heap.size 5 i0 (.int .u8 0) 1 1 Try.underlying80 hi hz0 hz1 hz2 rfl (by decide) v (34 :: shownAll 34 s (runes s.data.toList)).length _ rfl ((Kd.own_of_R hR).alloc _) ⟨W.heap.size, 0, none⟩ 1 1 [.int .u8 34] rfl rfl (cell_one_new _ _ _) (by simp [Value.oneCell']) (by unfold maxLen; simp; omega) (by simp; omega) (by simp; omega) ?_; intro v' w3 hown' hgrow _; have hcv := own_string (P := Try.prog) (xs := 34 :: shownAll 34 s (runes s.data.toList) ++ [34]) Try.underlying80 Try.underlying5 Try.underlying9 (by simpa [Go.Proofs.YtijdlpbkmlplgaaW.PrintWords.encs, nums] using hown')))
    have hK3 : w3.heap[D]? = some (.deferred (some [])) := by
      have hne : some D ≠ v.ownBlock := by
        intro e
        obtain ⟨cells, hc'⟩ := own_typed (Kd.own_of_R hR) D e.symm
        rw [hc'] at hK; cases hK
      refine (hgrow.block D (by have := (Array.getElem?_eq_some_iff.1 hK).1; simp; omega) hne).trans ?_
      exact (Below.heap_alloc W _ D (Array.getElem?_eq_some_iff.1 hK).1).trans hK
    have hB3 : Below w.heap.size w w3 := (hB.alloc hbs2 _).grown hgrow (by simp; omega) (fun k e => own_base (Kd.own_of_R hR) k e)
    refine ⟨by simp, .inl ⟨_, _, rfl, run_takeDeferred hK3, ?_⟩⟩
    exact ⟨_, results_tmp rfl _ _ _, rfl, hB3.trans (belowK_b (w := w) (Nat.le_refl _) w3 D _ _ (Nat.le_trans hB2.size hD) hK3 rfl rfl)⟩
  case stop =>
    rintro D c pre W _ _ h _ _
    exact h.elim
end Go.Proofs.Ytijdlpbkmlplgaa.TR
