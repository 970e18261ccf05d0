/- The walk of TextBack: one path, with the answers of all that it calls told. -/
import Derived.Test.YtijdlpbkmlplgaaTextCut
set_option linter.unusedVariables false
set_option linter.unusedSimpArgs false
namespace Go.Proofs.Ytijdlpbkmlplgaa.TR
open Go.RowKit Go.Shelf Go.Lib Go.Proofs.Ytijdlpbkmlplgaa.TS Go.Proofs.YtijdlpbkmlplgaaW.PrintWords
attribute [local go_sem] Oper.semAt_some

/-- a world in which the first new cell holds what it held -/
def Held (w : World) (t : TypeId) (v : Value) (W : World) : Prop := Below w.heap.size w W ∧ Boxed W w.heap.size t v
theorem Held.start (w : World) (t : TypeId) (v : Value) : Held w t v (w.alloc (.cells #[v] t)) := ⟨(Below.refl _ w).alloc (Nat.le_refl _) _, Boxed.new w t v⟩
theorem Held.on {w : World} {t : TypeId} {v : Value} {W W' : World} (h : Held w t v W) (b : Below W.heap.size W W') : Held w t v W' := by
  obtain ⟨h1, h2⟩ := h
  exact ⟨h1.trans (b.mono h1.size), (b.block _ h2.lt).trans h2⟩

set_option maxRecDepth 100000 in
set_option maxHeartbeats 1000000 in
theorem back_walk (s t rest q x y : ByteArray) (hst : (x.toList == y.toList) = (s.toList == t.toList)) (hq : (q.size : Int) ≤ 9223372036854775807) (hqr : q.size + rest.size ≤ 9223372036854775807)
    (A1 : ∀ w, Calls Try.prog 50 #[] w fun e w' => e = .returned (.bool true) ∧ Below w.heap.size w w')
    (A2 : ∀ w, Calls Try.prog 39 #[.string s] w fun e w' => e = .returned (.string q) ∧ Below w.heap.size w w')
    (A3 : ∀ w, Calls Try.prog 42 #[.string q] w fun e w' => e = .returned (.tuple #[.string s, .int .i64 0]) ∧ Below w.heap.size w w')
    (A4 : ∀ w, Calls Try.prog 44 #[.string (q ++ rest)] w fun e w' => e = .returned (.tuple #[.string s, .int .i64 q.size, .int .i64 0]) ∧ Below w.heap.size w w')
    (A5 : (∀ w, Calls Try.prog 42 #[.string t] w fun e w' => e = .returned (.tuple #[.string ⟨#[]⟩, .int .i64 4]) ∧ Below w.heap.size w w') ∨ ∃ w0, (∀ w, Calls Try.prog 42 #[.string t] w fun e w' => e = .returned (.tuple #[.string w0, .int .i64 0]) ∧ Below w.heap.size w w') ∧ (∀ w, Calls Try.prog 39 #[.string w0] w fun e w' => e = .returned (.string t) ∧ Below w.heap.size w w'))
    (A7 : ∀ w, Calls Try.prog 35 #[.string s] w fun e w' => e = .returned (.string x) ∧ Below w.heap.size w w')
    (A8 : ∀ w, Calls Try.prog 35 #[.string t] w fun e w' => e = .returned (.string y) ∧ Below w.heap.size w w')
    (A9 : ∀ w, Calls Try.prog 23 #[.string q] w fun e w' => ∃ A c, e = .returned (.slice A 0 c) ∧ Below w.heap.size w w')
    (A10 : ∀ p ∈ runes x.data.toList, 32 ≤ p.2 ∧ p.2 ≠ 127)
    (w : World) :
    Calls Try.prog 9 #[.string s, .string t, .string rest] w fun e w' => e = .returned (.bool true) ∧ Below w.heap.size w w' := by
  refine (callsIn_wide (n := 9)).1 ?_
  refine callsIn_of_wp_marks Try.func9 rfl trivial ?_ rfl
  simp only [Try.ntmps9, List.size_toArray, List.length_cons, List.length_nil, Nat.reduceAdd, Nat.reduceSub, Array.replicate_succ, Array.replicate_zero, List.push_toArray, List.append_toArray, List.nil_append, List.cons_append]
  gi_wp2_with ((with_reducible refine And.intro ?_ ?_); exact trivial; gi_at_call 50; (with_reducible refine (callsIn_wide.2 (A1 _)).mono ?_); rintro e w1 ⟨rfl, B1⟩)
  gi_wp2_with ((with_reducible refine And.intro ?_ ?_); exact trivial; gi_at_call 39; (with_reducible refine (callsIn_wide.2 (A2 _)).mono ?_); rintro e w2 ⟨rfl, B2⟩)
  gi_wp2_with ((with_reducible refine And.intro ?_ ?_); exact trivial; gi_at_call 42; (with_reducible refine (callsIn_wide.2 (A3 _)).mono ?_); rintro e w3 ⟨rfl, B3⟩)
  gi_wp2_with ((with_reducible refine And.intro ?_ ?_); exact trivial; gi_at_call 44; (with_reducible refine (callsIn_wide.2 (A4 _)).mono ?_); rintro e w4 ⟨rfl, B4⟩)
  rcases A5 with A5 | ⟨w0, A5, A6⟩
  · gi_wp2_with ((with_reducible refine And.intro ?_ ?_); exact trivial; gi_at_call 42; (with_reducible refine (callsIn_wide.2 (A5 _)).mono ?_); rintro e w5 ⟨rfl, B5⟩)
    refine ⟨trivial, ?_⟩
    obtain ⟨BB, bx⟩ := (Held.start w 4 (.bool false)).on B1 |>.on B2 |>.on B3 |>.on B4 |>.on B5
    clear B1 B2 B3 B4 B5
    gi_wp2_with ((with_reducible refine And.intro ?_ ?_); exact trivial; gi_at_call 35; (with_reducible refine (callsIn_wide.2 (A7 _)).mono ?_); rintro e w6 ⟨rfl, B6⟩)
    gi_wp2_with ((with_reducible refine And.intro ?_ ?_); exact trivial; gi_at_call 35; (with_reducible refine (callsIn_wide.2 (A8 _)).mono ?_); rintro e w7 ⟨rfl, B7⟩)
    gi_wp2_with ((with_reducible refine And.intro ?_ ?_); exact trivial; gi_at_call 35; (with_reducible refine (callsIn_wide.2 (A7 _)).mono ?_); rintro e w8 ⟨rfl, B8⟩)
    gi_wp2_with ((with_reducible refine And.intro ?_ ?_); exact trivial; gi_at_call 21; (with_reducible refine (callsIn_wide.2 (runes_in x _)).mono ?_); rintro e w' ⟨rfl, rfl⟩)
    obtain ⟨BB2, bx2⟩ := (((Held.on ⟨BB, bx⟩ B6).on B7).on B8).on ((Below.refl _ w8).alloc (Nat.le_refl _) (.cells #[.string x] 9))
    have bs := Boxed.new w8 9 (.string x)
    clear BB bx B6 B7 B8
    generalize (w8.alloc (.cells #[.string x] 9)) = W2 at *
    apply wp_runes 9 (by omega) w.heap.size w8.heap.size x rfl rfl bs BB2 (Nat.le_refl _) (fun _ W => Boxed W w.heap.size 4 (.bool false)) (fun _ _ _ => False) (ofCells_boxed (fun _ => w.heap.size) _ (fun _ => .bool false)) (fun _ => ofCells_pure (fun _ => False)) bx2
    case hassign =>
      intro l i r W K hK
      gi_wp2
      exact hK
    case hbody =>
      rintro l pre i r W hI hB hbx hsz hmem hlt
      have hx := A10 _ hmem
      have h1 : ¬ r < 32 := by have := hx.1; simp only at this; omega
      have h2 : ¬ r = 127 := hx.2
      gi_wp2
      exact ⟨Turned.refl _ _ _, hI⟩
    case hdone =>
      intro D W hD hI hB hK
      have hc1 := hI.cell
      gi_wp2_with ((with_reducible refine And.intro ?_ ?_); exact trivial; gi_at_call 23; (with_reducible refine (callsIn_wide.2 (A9 _)).mono ?_); rintro e w9 ⟨A, c, rfl, B9⟩; have g1 : Boxed w9 w.heap.size 4 (.bool false) := (B9.block _ hI.lt).trans hI; have c9 := g1.cell; have z9 := g1.frozen)
      have g := g1.set (.bool true)
      have hD2 : D < W.heap.size := (Array.getElem?_eq_some_iff.1 hK).1
      have hK2 : w9.heap[D]? = some (.deferred (some [])) := (B9.block _ hD2).trans hK
      have hK3 : (w9.setCell ⟨w.heap.size, 0, none⟩ (.bool true)).heap[D]? = some (.deferred (some [])) := (KeepsOthers.setCell w9 ⟨w.heap.size, 0, none⟩ (.bool true)).same D _ hK2 rfl
      refine ⟨by simp, .inl ⟨_, _, rfl, run_takeDeferred hK3, ?_⟩⟩
      have hcell := cell_kept g.cell (grownBy_putObj' _ D (.deferred none)) (fun r e => by cases e; exact ⟨_, hK3, rfl⟩)
      exact ⟨.bool true, by simp [results, Try.results9, go_sem, hcell], rfl, ((hB.trans (B9.mono hB.size)).setCell (p := ⟨w.heap.size, 0, none⟩) (by simp) _).trans (belowK_b (w := w) (Nat.le_refl _) _ D _ _ (Nat.le_trans BB2.size hD) hK3 rfl rfl)⟩
    case hstop =>
      intro D c pre W hD hp hf
      exact hf.elim
  · gi_wp2_with ((with_reducible refine And.intro ?_ ?_); exact trivial; gi_at_call 42; (with_reducible refine (callsIn_wide.2 (A5 _)).mono ?_); rintro e w5' ⟨rfl, B5'⟩)
    gi_wp2_with ((with_reducible refine And.intro ?_ ?_); exact trivial; gi_at_call 39; (with_reducible refine (callsIn_wide.2 (A6 _)).mono ?_); rintro e w5 ⟨rfl, B5⟩)
    obtain ⟨BB, bx⟩ := (Held.start w 4 (.bool false)).on B1 |>.on B2 |>.on B3 |>.on B4 |>.on B5' |>.on B5
    clear B1 B2 B3 B4 B5' B5
    gi_wp2_with ((with_reducible refine And.intro ?_ ?_); exact trivial; gi_at_call 35; (with_reducible refine (callsIn_wide.2 (A7 _)).mono ?_); rintro e w6 ⟨rfl, B6⟩)
    gi_wp2_with ((with_reducible refine And.intro ?_ ?_); exact trivial; gi_at_call 35; (with_reducible refine (callsIn_wide.2 (A8 _)).mono ?_); rintro e w7 ⟨rfl, B7⟩)
    gi_wp2_with ((with_reducible refine And.intro ?_ ?_); exact trivial; gi_at_call 35; (with_reducible refine (callsIn_wide.2 (A7 _)).mono ?_); rintro e w8 ⟨rfl, B8⟩)
    gi_wp2_with ((with_reducible refine And.intro ?_ ?_); exact trivial; gi_at_call 21; (with_reducible refine (callsIn_wide.2 (runes_in x _)).mono ?_); rintro e w' ⟨rfl, rfl⟩)
    obtain ⟨BB2, bx2⟩ := (((Held.on ⟨BB, bx⟩ B6).on B7).on B8).on ((Below.refl _ w8).alloc (Nat.le_refl _) (.cells #[.string x] 9))
    have bs := Boxed.new w8 9 (.string x)
    clear BB bx B6 B7 B8
    generalize (w8.alloc (.cells #[.string x] 9)) = W2 at *
    apply wp_runes 9 (by omega) w.heap.size w8.heap.size x rfl rfl bs BB2 (Nat.le_refl _) (fun _ W => Boxed W w.heap.size 4 (.bool false)) (fun _ _ _ => False) (ofCells_boxed (fun _ => w.heap.size) _ (fun _ => .bool false)) (fun _ => ofCells_pure (fun _ => False)) bx2
    case hassign =>
      intro l i r W K hK
      gi_wp2
      exact hK
    case hbody =>
      rintro l pre i r W hI hB hbx hsz hmem hlt
      have hx := A10 _ hmem
      have h1 : ¬ r < 32 := by have := hx.1; simp only at this; omega
      have h2 : ¬ r = 127 := hx.2
      gi_wp2
      exact ⟨Turned.refl _ _ _, hI⟩
    case hdone =>
      intro D W hD hI hB hK
      have hc1 := hI.cell
      gi_wp2_with ((with_reducible refine And.intro ?_ ?_); exact trivial; gi_at_call 23; (with_reducible refine (callsIn_wide.2 (A9 _)).mono ?_); rintro e w9 ⟨A, c, rfl, B9⟩; have g1 : Boxed w9 w.heap.size 4 (.bool false) := (B9.block _ hI.lt).trans hI; have c9 := g1.cell; have z9 := g1.frozen)
      have g := g1.set (.bool true)
      have hD2 : D < W.heap.size := (Array.getElem?_eq_some_iff.1 hK).1
      have hK2 : w9.heap[D]? = some (.deferred (some [])) := (B9.block _ hD2).trans hK
      have hK3 : (w9.setCell ⟨w.heap.size, 0, none⟩ (.bool true)).heap[D]? = some (.deferred (some [])) := (KeepsOthers.setCell w9 ⟨w.heap.size, 0, none⟩ (.bool true)).same D _ hK2 rfl
      refine ⟨by simp, .inl ⟨_, _, rfl, run_takeDeferred hK3, ?_⟩⟩
      have hcell := cell_kept g.cell (grownBy_putObj' _ D (.deferred none)) (fun r e => by cases e; exact ⟨_, hK3, rfl⟩)
      exact ⟨.bool true, by simp [results, Try.results9, go_sem, hcell], rfl, ((hB.trans (B9.mono hB.size)).setCell (p := ⟨w.heap.size, 0, none⟩) (by simp) _).trans (belowK_b (w := w) (Nat.le_refl _) _ D _ _ (Nat.le_trans BB2.size hD) hK3 rfl rfl)⟩
    case hstop =>
      intro D c pre W hD hp hf
      exact hf.elim
end Go.Proofs.Ytijdlpbkmlplgaa.TR
