/- text.Breaks: the places of the bytes by themselves. -/
import Derived.Test.YtijdlpbkmlplgaaTextShow
import Derived.Maps.AppendAt
set_option linter.unusedVariables false
set_option linter.unusedSimpArgs false
namespace Go.Proofs.Ytijdlpbkmlplgaa.TR
open Go.RowKit Go.Shelf Go.Lib Go.Proofs.Ytijdlpbkmlplgaa.TS Go.Proofs.YtijdlpbkmlplgaaW.PrintWords
attribute [local go_sem] Oper.semAt_some

theorem infoI : (Try.prog.info? 3).map (fun i => (i.zero, i.size, i.bytes)) = some (some (.int .i64 0), 1, 8) := by kernel_rfl
def breaksAll (l : List (Nat × Int)) : List Int := l.flatMap fun x => if x.2 < 0 then [(x.1 : Int)] else []
theorem breaksAll_hit (l : List (Nat × Int)) (i : Nat) (r : Int) (h : r < 0) : breaksAll (l ++ [(i, r)]) = breaksAll l ++ [(i : Int)] := by simp [breaksAll, h]
theorem breaksAll_miss (l : List (Nat × Int)) (i : Nat) (r : Int) (h : ¬ r < 0) : breaksAll (l ++ [(i, r)]) = breaksAll l := by simp [breaksAll, h]
theorem breaksAll_len (l : List (Nat × Int)) : (breaksAll l).length ≤ l.length := by
  induction l with
  | nil => simp [breaksAll]
  | cons x t ih => by_cases h : x.2 < 0 <;> simp [breaksAll, h] at ih ⊢ <;> omega
/-- a box that holds a row of numbers of the call's own -/
def IntBox (B base : Nat) (xs : List Int) (W : World) : Prop := ∃ v, Boxed W B 38 v ∧ Kd.R (Kd.int .i64) 3 W base (fun k => v.ownBlock = some k) v xs
theorem intBox_cells {β : Type} (B base : Nat) (f : β → List Int) : OfCells (fun b W => IntBox B base (f b) W) := by
  rintro b W W' ⟨v, hv, hr⟩ hk
  exact ⟨v, hk _ _ hv rfl, R_cells hr hk⟩
/-- Behind an append to a row of numbers, and the store of what it hands back into its box. -/
theorem app_step {w W W1 : World} {Bn Bb : Nat} {tmp : Obj} {v v' : Value} {xs ys : List Int} {ok : Nat → Prop} {s : ByteArray}
    (hv : Boxed W Bb 38 v) (hR : Kd.R (Kd.int .i64) 3 W w.heap.size ok v xs) (hbx : Boxed W Bn 9 (.string s)) (hB : Below w.heap.size w W)
    (hg : (W.alloc tmp).grownBy W1 v.ownBlock) (hown : W1.ownsRow w.heap.size 3 1 v' ys.length (Go.Proofs.YtijdlpbkmlplgaaW.PrintWords.encs (Value.int .i64) ys)) (hBb : w.heap.size ≤ Bb) (hne : Bb ≠ Bn) :
    Turned w.heap.size Bn W (W1.setCell ⟨Bb, 0, none⟩ v') ∧ IntBox Bb w.heap.size ys (W1.setCell ⟨Bb, 0, none⟩ v') ∧ Boxed W1 Bb 38 v := by
  have hne1 : some Bb ≠ v.ownBlock := Kd.R_ne hR hv (by decide)
  have hv1 : Boxed W1 Bb 38 v := (hg.block Bb (by have := hv.lt; simp; omega) hne1).trans ((Below.heap_alloc W tmp Bb hv.lt).trans hv)
  have hsz : W.heap.size + 1 ≤ W1.heap.size := by have := hg.size; simp at this; omega
  refine ⟨⟨hg.os, hg.tape, hg.output, by have := (KeepsWalks.setCell W1 ⟨Bb, 0, none⟩ v').size; omega, fun k => v.ownBlock = some k ∨ k = Bb, fun k hk hs => ?_, fun k hs => ?_, fun k o hs ho => ?_⟩, ?_, hv1⟩
  · exact (Below.heap_setCell W1 ⟨Bb, 0, none⟩ v' k (fun e => hs (.inr e))).trans ((hg.block k (by simp; omega) (fun e => hs (.inl e.symm))).trans (Below.heap_alloc W tmp k hk))
  · rcases hs with hs | rfl
    · exact ⟨own_base (Kd.own_of_R hR) k hs, fun e => by subst e; exact Kd.R_ne hR hbx (by decide) hs.symm⟩
    · exact ⟨hBb, hne⟩
  · rcases hs with hs | rfl
    · obtain ⟨cells, hc⟩ := own_typed (Kd.own_of_R hR) k hs
      rw [hc] at ho; cases ho; rfl
    · rw [show W.heap[k]? = _ from hv] at ho; cases ho; rfl
  · refine ⟨v', hv1.set v', ?_⟩
    have hne' : some Bb ≠ v'.ownBlock := by
      intro e
      obtain ⟨cells, hc⟩ := own_typed hown Bb e.symm
      rw [show W1.heap[Bb]? = _ from hv1] at hc
      injection hc with hc; injection hc with _ hc; exact absurd hc (by decide)
    exact Kd.R_of_own (own_setCell hown hne' v') (fun k hk => hk)

set_option maxRecDepth 100000 in
set_option maxHeartbeats 4000000 in
theorem breaks_calls (s : ByteArray) (hs : s.size ≤ 1073741824) (w : World) :
    Calls Try.prog 23 #[.string s] w fun e w' => ∃ v0_ : Value, e = .returned v0_ ∧ Kd.R (Kd.int .i64) 3 w' w.heap.size (fun _ => True) v0_ (breaksAll (runes s.data.toList)) ∧ Below w.heap.size w w' := by
  obtain ⟨i0, hi, hz0, hz1, hz2⟩ := info_parts infoI
  refine (callsIn_wide (n := 9)).1 ?_
  refine callsIn_of_wp_marks Try.func23 rfl trivial ?_ rfl
  simp only [Try.ntmps23, List.size_toArray, List.length_cons, List.length_nil, Nat.reduceAdd, Nat.reduceSub, Array.replicate_succ, Array.replicate_zero, List.push_toArray, List.append_toArray, List.nil_append, List.cons_append]
  gi_wp2_with (refine ⟨trivial, ?_⟩; gi_at_call 21; refine (callsIn_wide.2 (runes_in s _)).mono ?_; rintro e w' ⟨rfl, rfl⟩)
  have bb := (Boxed.new w 38 (.slice none 0 0)).alloc (.cells #[.string s] 9)
  have br := Boxed.new (w.alloc (.cells #[.slice none 0 0] 38)) 9 (.string s)
  rw [World.size_alloc] at br
  have hB0 : Below w.heap.size w ((w.alloc (.cells #[.slice none 0 0] 38)).alloc (.cells #[.string s] 9)) := ((Below.refl _ w).alloc (Nat.le_refl _) _).alloc (by simp) _
  refine wp_runes 9 (by omega) w.heap.size (w.heap.size + 1) s rfl rfl br hB0 (Nat.le_refl _)
    (fun pre W => IntBox w.heap.size w.heap.size (breaksAll pre) W) (fun _ _ _ => False)
    (intBox_cells w.heap.size w.heap.size (fun pre => breaksAll pre)) (fun _ => ofCells_pure (fun _ => False)) ⟨_, bb, Kd.R_nil _ _ _ _ _⟩
    (fun i r => { tmps := #[.string s, undef, .slice none 0 0, .pointer (some ⟨w.heap.size, 0, none⟩), .int .i64 i, .int .i32 r, .string s, .func (.func 55) #[] #[.pointer (some ⟨w.heap.size + 1, 0, none⟩)], .int .i64 i, .int .i32 r, undef, undef, undef, undef, undef, undef, undef], defers := [] }) ?assign ?body ?done ?stop
  case assign =>
    intro l i r W K hK
    gi_wp2
    exact hK
  case body =>
    rintro l pre i r W ⟨v, hv, hR⟩ hB hbx hsz hmem hlt
    have hc := hv.cell
    have hrl := runes_le s
    have hbl := breaksAll_len pre
    have hbs := hB.size
    by_cases hr : r < 0
    · gi_wp2_with (gi_at_builtin; refine wpListIn_append_own _ rfl _ _ 38 rfl w.heap.size 3 i0 (.int .i64 0) 1 8 Try.underlying38 hi hz0 hz1 hz2 rfl (by decide) v (breaksAll pre).length _ rfl ((Kd.own_of_R hR).alloc _) ⟨W.heap.size, 0, none⟩ 1 1 [.int .i64 i] rfl rfl (cell_one_new _ _ _) (by simp [Value.oneCell']) (by unfold maxLen; omega) (by omega) (by simp; omega) ?_; intro v' w3 hown' hgrow _; obtain ⟨hT, hIB, hv3⟩ := app_step (ys := breaksAll pre ++ [(i : Int)]) hv hR hbx hB hgrow (by simpa [Go.Proofs.YtijdlpbkmlplgaaW.PrintWords.encs] using hown') (Nat.le_refl _) (by omega); have hc3 := hv3.cell; have hf3 := hv3.frozen; obtain ⟨g', cap', rfl⟩ := ownsRow_succ hown')
      exact ⟨hT, by show IntBox _ _ (breaksAll (pre ++ [(i, r)])) _; rw [breaksAll_hit pre i r hr]; exact hIB⟩
    · gi_wp2
      exact ⟨Turned.refl _ _ _, by show IntBox _ _ (breaksAll (pre ++ [(i, r)])) _; rw [breaksAll_miss pre i r (by omega)]; exact ⟨v, hv, hR⟩⟩
  case done =>
    rintro D W hD ⟨v, hv, hR⟩ hB hK
    have hc := hv.cell
    gi_wp2
    refine ⟨by simp, .inl ⟨_, _, rfl, run_takeDeferred hK, ?_⟩⟩
    exact ⟨_, results_tmp rfl _ _ _, v, rfl, Kd.R_of_own (ownsRow_putObj (Kd.own_of_R hR) _ hK rfl) (fun _ _ => trivial), hB.trans (belowK_b (w := w) (Nat.le_refl _) W D _ _ (Nat.le_trans hB0.size hD) hK rfl rfl)⟩
  case stop =>
    rintro D c pre W _ _ h _ _
    exact h.elim
end Go.Proofs.Ytijdlpbkmlplgaa.TR
