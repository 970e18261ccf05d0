/- text.Cut: as much of a text as a width lets there be. -/
import Derived.Test.YtijdlpbkmlplgaaTextShow
set_option linter.unusedVariables false
set_option linter.unusedSimpArgs false
namespace Go.Proofs.Ytijdlpbkmlplgaa.TR
open Go.RowKit Go.Shelf Go.Lib Go.Proofs.Ytijdlpbkmlplgaa.TS Go.Proofs.YtijdlpbkmlplgaaW.PrintWords
attribute [local go_sem] Oper.semAt_some

/-- where a text is cut: n has been used up; e: its end -/
def cutPos (w : Int) (e : Nat) : List (Nat × Int) → Int → Nat
  | [], _ => e
  | x :: t, n => if n + wideI x.2 > w then x.1 else cutPos w e t (n + wideI x.2)
theorem sumW_cons (x : Nat × Int) (l : List (Nat × Int)) : sumW (x :: l) = wideI x.2 + sumW l := by simp [sumW]
theorem cutPos_all (w : Int) (e : Nat) (l : List (Nat × Int)) : ∀ n, (l ≠ [] → n + sumW l ≤ w) → cutPos w e l n = e := by
  induction l with
  | nil => intro n _; rfl
  | cons x t ih =>
    intro n h
    have h1 := h (by simp)
    rw [sumW_cons] at h1
    have h2 := (sumW_bd t).1
    unfold cutPos
    rw [if_neg (by omega)]
    exact ih _ (fun _ => by omega)
theorem cutPos_at (w : Int) (e : Nat) (l : List (Nat × Int)) (x : Nat × Int) (t : List (Nat × Int)) : ∀ n, (l ≠ [] → n + sumW l ≤ w) → n + sumW l + wideI x.2 > w → cutPos w e (l ++ x :: t) n = x.1 := by
  induction l with
  | nil => intro n _ h; simp [sumW] at h; show cutPos w e (x :: t) n = _; unfold cutPos; rw [if_pos (by omega)]
  | cons y l ih =>
    intro n h h'
    have h1 := h (by simp)
    rw [sumW_cons] at h1 h'
    have h2 := (sumW_bd l).1
    show cutPos w e (y :: (l ++ x :: t)) n = _
    unfold cutPos
    rw [if_neg (by omega)]
    exact ih _ (fun _ => by omega) (by omega)
def cutB (s : ByteArray) (w : Int) : ByteArray := s.extract 0 (cutPos w s.size (runes s.data.toList) 0)
def lastPos (l : List (Nat × Int)) : Nat := (l.getLast?.getD (0, 0)).1
theorem lastPos_snoc (l : List (Nat × Int)) (x : Nat × Int) : lastPos (l ++ [x]) = x.1 := by simp [lastPos]
theorem boxed_setCell {W : World} {B b : Nat} {t : TypeId} {v : Value} (h : Boxed W B t v) (hne : B ≠ b) (u : Value) : Boxed (W.setCell ⟨b, 0, none⟩ u) B t v := (Below.heap_setCell W ⟨b, 0, none⟩ u B hne).trans h
def cutI (z : Nat) (s : ByteArray) (width : Int) (pre : List (Nat × Int)) (W : World) : Prop :=
  (Boxed W (z + 1 + 1 + 1) 3 (.int .i64 (sumW pre)) ∧ Boxed W z 9 (.string s) ∧ Boxed W (z + 1) 3 (.int .i64 width) ∧ Boxed W (z + 1 + 1) 9 (.string ⟨#[]⟩)) ∧ (pre ≠ [] → sumW pre ≤ width)
def cutX (z : Nat) (s : ByteArray) (width : Int) (c : Code) (pre : List (Nat × Int)) (W : World) : Prop :=
  Boxed W (z + 1 + 1) 9 (.string (s.extract 0 (lastPos pre))) ∧ (c = .ret ∧ ∃ p x, pre = p ++ [x] ∧ (p ≠ [] → sumW p ≤ width) ∧ sumW p + wideI x.2 > width)
theorem cutI_cells (z : Nat) (s : ByteArray) (width : Int) : OfCells (cutI z s width) := by
  rintro pre W W' ⟨⟨h1, h2, h3, h4⟩, h5⟩ hk
  exact ⟨⟨hk _ _ h1 rfl, hk _ _ h2 rfl, hk _ _ h3 rfl, hk _ _ h4 rfl⟩, h5⟩
theorem cutX_cells (z : Nat) (s : ByteArray) (width : Int) (c : Code) : OfCells (cutX z s width c) := by
  rintro pre W W' ⟨h1, h5⟩ hk
  exact ⟨hk _ _ h1 rfl, h5⟩
theorem extract_whole (s : ByteArray) : s.extract 0 s.size = s := by simp

set_option maxRecDepth 100000 in
set_option maxHeartbeats 4000000 in
theorem cut_calls (s : ByteArray) (width : Int) (hs : s.size ≤ 1073741824) (w : World) :
    Calls Try.prog 45 #[.string s, .int .i64 width] w fun e w' => e = .returned (.string (cutB s width)) ∧ Below w.heap.size w w' := by
  refine (callsIn_wide (n := 9)).1 ?_
  refine callsIn_of_wp_marks Try.func45 rfl trivial ?_ rfl
  simp only [Try.ntmps45, List.size_toArray, List.length_cons, List.length_nil, Nat.reduceAdd, Nat.reduceSub, Array.replicate_succ, Array.replicate_zero, List.push_toArray, List.append_toArray, List.nil_append, List.cons_append]
  gi_wp2_with (refine ⟨trivial, ?_⟩; gi_at_call 21; refine (callsIn_wide.2 (runes_in s _)).mono ?_; rintro e w' ⟨rfl, rfl⟩)
  have b1 := (((((Boxed.new w 9 (.string s)).alloc (.cells #[.int .i64 width] 3)).alloc (.cells #[.string ⟨#[]⟩] 9)).alloc (.cells #[.int .i64 0] 3)).alloc (.cells #[.string s] 9))
  have b2 := ((((Boxed.new (w.alloc (.cells #[.string s] 9)) 3 (.int .i64 width)).alloc (.cells #[.string ⟨#[]⟩] 9)).alloc (.cells #[.int .i64 0] 3)).alloc (.cells #[.string s] 9))
  have b3 := (((Boxed.new ((w.alloc (.cells #[.string s] 9)).alloc (.cells #[.int .i64 width] 3)) 9 (.string ⟨#[]⟩)).alloc (.cells #[.int .i64 0] 3)).alloc (.cells #[.string s] 9))
  have b4 := ((Boxed.new (((w.alloc (.cells #[.string s] 9)).alloc (.cells #[.int .i64 width] 3)).alloc (.cells #[.string ⟨#[]⟩] 9)) 3 (.int .i64 0)).alloc (.cells #[.string s] 9))
  have b5 := (Boxed.new ((((w.alloc (.cells #[.string s] 9)).alloc (.cells #[.int .i64 width] 3)).alloc (.cells #[.string ⟨#[]⟩] 9)).alloc (.cells #[.int .i64 0] 3)) 9 (.string s))
  simp only [World.size_alloc] at b2 b3 b4 b5
  have hB0 : Below w.heap.size w (((((w.alloc (.cells #[.string s] 9)).alloc (.cells #[.int .i64 width] 3)).alloc (.cells #[.string ⟨#[]⟩] 9)).alloc (.cells #[.int .i64 0] 3)).alloc (.cells #[.string s] 9)) := (((((Below.refl _ w).alloc (Nat.le_refl _) _).alloc (by simp) _).alloc (by simp; omega) _).alloc (by simp; omega) _).alloc (by simp; omega) _
  generalize hW2 : (((((w.alloc (.cells #[.string s] 9)).alloc (.cells #[.int .i64 width] 3)).alloc (.cells #[.string ⟨#[]⟩] 9)).alloc (.cells #[.int .i64 0] 3)).alloc (.cells #[.string s] 9)) = W2 at *
  refine wp_runes 9 (by omega) w.heap.size (w.heap.size + 1 + 1 + 1 + 1) s rfl rfl b5 hB0 (Nat.le_refl _)
    (cutI w.heap.size s width) (cutX w.heap.size s width) (cutI_cells _ _ _) (cutX_cells _ _ _) ⟨⟨b4, b1, b2, b3⟩, fun h => absurd rfl h⟩
    (fun i r => { tmps := #[.string s, .int .i64 width, .pointer (some ⟨w.heap.size, 0, none⟩), .pointer (some ⟨w.heap.size + 1, 0, none⟩), .pointer (some ⟨w.heap.size + 1 + 1, 0, none⟩), .pointer (some ⟨w.heap.size + 1 + 1 + 1, 0, none⟩), .int .i64 i, .int .i32 r, .string s, .func (.func 55) #[] #[.pointer (some ⟨w.heap.size + 1 + 1 + 1 + 1, 0, none⟩)], .int .i64 i, .int .i32 r, undef, undef, undef, undef, undef, undef, undef, undef, undef, undef, undef], defers := [] }) ?assign ?body ?done ?stop
  case assign =>
    intro l i r W K hK
    gi_wp2
    exact hK
  case body =>
    rintro l pre i r W ⟨⟨hv, hbs, hbw, hbr⟩, hle⟩ hB hbx hsz hmem hlt
    have hc := hv.cell
    have hf := hv.frozen
    have hc1 := hbs.cell
    have hc2 := hbw.cell
    have hc3 := hbr.cell
    have hf3 := hbr.frozen
    have h1 := hmx
    have hbd := sumW_bd pre
    have hrl := runes_le s
    have hwb := wideI_bd r
    obtain ⟨hi1, hi2⟩ := runes_ok s hmem
    gi_wp2
    gi_region_with_o (refine ⟨trivial, ?_⟩; gi_at_call 62; refine (CallsIn.inRound l (callsIn_wide.2 (Ytijdlpbkmlplgaa.QC.text_wide.calls 1 r _ _ (wide_eq r)))).mono ?_; rintro e w' ⟨rfl, hdr⟩; obtain ⟨m, rfl⟩ := hdr.out)
    all_goals
      have hw : IntKind.i64.wrap (sumW pre + wideI r) = sumW pre + wideI r := IntWalk.i64_in _ (by omega)
      rw [hw]
      have hT := ((Turned.refl w.heap.size (w.heap.size + 1 + 1 + 1 + 1) W).drewN (1 + m)).trans (Turned.set (boxed_drewN hv (1 + m)) (by omega) (by omega) (.int .i64 (sumW pre + wideI r)))
      have g1 := Boxed.set (.int .i64 (sumW pre + wideI r)) (boxed_drewN hv (1 + m))
      have g2 := boxed_setCell (boxed_drewN hbs (1 + m)) (b := w.heap.size + 1 + 1 + 1) (by omega) (.int .i64 (sumW pre + wideI r))
      have g3 := boxed_setCell (boxed_drewN hbw (1 + m)) (b := w.heap.size + 1 + 1 + 1) (by omega) (.int .i64 (sumW pre + wideI r))
      have g4 := boxed_setCell (boxed_drewN hbr (1 + m)) (b := w.heap.size + 1 + 1 + 1) (by omega) (.int .i64 (sumW pre + wideI r))
      generalize ((W.drewN (1 + m)).setCell ⟨w.heap.size + 1 + 1 + 1, 0, none⟩ (.int .i64 (sumW pre + wideI r))) = Wx at hT g1 g2 g3 g4 ⊢
      have q1 := g1.cell
      have q2 := g2.cell
      have q3 := g3.cell
      have q4 := g4.cell
      have q5 := g4.frozen
      clear hc hc1 hc2 hc3 hf hf3 hw
      have hi3 : i ≤ s.size := by omega
      by_cases hgt : sumW pre + wideI r > width
      · gi_wp2
        refine ⟨hT.trans (Turned.set g4 (by omega) (by omega) _), ?_⟩
        exact ⟨by show Boxed _ _ _ (.string (s.extract 0 (lastPos (pre ++ [(i, r)])))); rw [lastPos_snoc]; exact g4.set _, rfl, pre, (i, r), rfl, hle, hgt⟩
      · gi_wp2
        exact ⟨hT, ⟨by rw [sumW_snoc]; exact g1, g2, g3, g4⟩, fun _ => by rw [sumW_snoc]; show sumW pre + wideI r ≤ width; omega⟩
  case done =>
    rintro D W hD ⟨⟨hv, hbs, hbw, hbr⟩, hle⟩ hB hK
    have hc1 := hbs.cell
    have hc3 := hbr.cell
    have hf3 := hbr.frozen
    gi_wp2
    have g := hbr.set (.string s)
    have hK3 : (W.setCell ⟨w.heap.size + 1 + 1, 0, none⟩ (.string s)).heap[D]? = some (.deferred (some [])) := (KeepsOthers.setCell W ⟨w.heap.size + 1 + 1, 0, none⟩ (.string s)).same D _ hK rfl
    refine ⟨by simp, .inl ⟨_, _, rfl, run_takeDeferred hK3, ?_⟩⟩
    have hres : cutB s width = s := by
      unfold cutB
      rw [cutPos_all _ _ _ _ (fun h => by rw [Int.zero_add]; exact hle h), extract_whole]
    have hcell := cell_kept g.cell (grownBy_putObj' _ D (.deferred none)) (fun r e => by cases e; exact ⟨_, hK3, rfl⟩)
    exact ⟨.string s, by simp [results, Try.results45, go_sem, hcell], by rw [hres], (hB.setCell (p := ⟨w.heap.size + 1 + 1, 0, none⟩) (by simp; omega) _).trans (belowK_b (w := w) (Nat.le_refl _) _ D _ _ (Nat.le_trans hB0.size hD) hK3 rfl rfl)⟩
  case stop =>
    rintro D c pre W hD hpre ⟨hbr, rfl, p, x, rfl, hle, hgt⟩ hB hK
    gi_wp2
    refine ⟨by simp, .inl ⟨_, _, rfl, run_takeDeferred hK, ?_⟩⟩
    have hres : cutB s width = s.extract 0 (lastPos (p ++ [x])) := by
      obtain ⟨t, ht⟩ := hpre
      unfold cutB
      rw [← ht, List.append_assoc]
      rw [show p ++ ([x] ++ t) = p ++ x :: t from rfl, cutPos_at _ _ p x t 0 (fun h => by rw [Int.zero_add]; exact hle h) (by omega), lastPos_snoc]
    have hcell := cell_kept hbr.cell (grownBy_putObj' _ D (.deferred none)) (fun r e => by cases e; exact ⟨_, hK, rfl⟩)
    exact ⟨.string (s.extract 0 (lastPos (p ++ [x]))), by simp [results, Try.results45, go_sem, hcell], by rw [hres], hB.trans (belowK_b (w := w) (Nat.le_refl _) _ D _ _ (Nat.le_trans hB0.size hD) hK rfl rfl)⟩
end Go.Proofs.Ytijdlpbkmlplgaa.TR
