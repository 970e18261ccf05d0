/- lines.Fit at the two closed lists of LinesNone. -/
import Derived.Test.YtifbplmejbnofaaGreatDoorRunesNext
import Derived.Test.YtifbplmejbnofaaGreatDoorBuild
import Derived.LoopNIn
import Derived.Handy
import Derived.Deep.LoopGhost
set_option linter.unusedVariables false
set_option linter.unusedSimpArgs false
namespace Go.Proofs.YtifbplmejbnofaaGreatDoor.TR
open Go.RowKit Go.Shelf Go.Lib Go.Proofs.YtifbplmejbnofaaGreatDoor.TS Go.Proofs.YtifbplmejbnofaaGreatDoorW.PrintWords Go.Proofs.YtifbplmejbnofaaGreatDoorW.PrintMore Go.Proofs.YtifbplmejbnofaaGreatDoor.TB
attribute [local go_sem] Oper.semAt_some

theorem fit_zero (l : Value) (w : World) : Calls Tryz.prog 13 #[l, .int .i64 0] w fun e w' => e = .returned (.tuple #[.slice none 0 0, .int .i64 1]) ∧ Below w.heap.size w w' := by
  go_enter Tryz.func13, Tryz.ntmps13
  go_wp2
  go_ret2
  exact ⟨rfl, by go_grown⟩
theorem infoStr : (Tryz.prog.info? 9).map (fun i => (i.zero, i.size, i.bytes)) = some (some (.string .empty), 1, 16) := by kernel_rfl
/-- the three cells of a round: the width, how many runes, where the cut is -/
def fitI (n : Nat) (pre : List (Nat × Int)) (W : World) : Prop := Boxed W n 3 (.int .i64 1) ∧ Boxed W (n + 1) 3 (.int .i64 pre.length) ∧ Boxed W (n + 1 + 1) 3 (.int .i64 0)
theorem fitI_cells (n : Nat) : OfCells (fitI n) := fun b W W' h hk => ⟨hk _ _ h.1 rfl, hk _ _ h.2.1 rfl, hk _ _ h.2.2 rfl⟩
def badB : ByteArray := ⟨#[255, 254]⟩
theorem bad_runes : runes badB.data.toList = [(0, -1), (1, -1)] := by decide +kernel
set_option maxRecDepth 100000 in
set_option maxHeartbeats 4000000 in
theorem fit_one (g : Nat) (w : World) (h : w.cell? ⟨g, 0, none⟩ = some (.string ⟨#[255, 254]⟩)) :
    Calls Tryz.prog 13 #[.slice (some ⟨g, 0, none⟩) 1 1, .int .i64 1] w fun e w' => ∃ g' cap, e = .returned (.tuple #[.slice (some ⟨g', 0, none⟩) 1 cap, .int .i64 0]) ∧ w'.cell? ⟨g', 0, none⟩ = some (.string ⟨#[126]⟩) ∧ Below w.heap.size w w' := by
  obtain ⟨i0, hi, hz0, hz1, hz2⟩ := info_parts infoStr
  refine (callsIn_wide (n := 9)).1 ?_
  refine callsIn_of_wp_marks Tryz.func13 rfl trivial ?_ rfl
  simp only [Tryz.ntmps13, List.size_toArray, List.length_cons, List.length_nil, Nat.reduceAdd, Nat.reduceSub, Array.replicate_succ, Array.replicate_zero, List.push_toArray, List.append_toArray, List.nil_append, List.cons_append]
  have hgl : g < w.heap.size := World.block_lt_of_cell? w _ h
  have hgne : g ≠ w.heap.size := Nat.ne_of_lt hgl
  gi_wp2
  refine wpIn_loop_rounds 2 ?_
  unfold Code.roundsIn
  gi_wp2_with (refine ⟨trivial, ?_⟩; gi_at_call 39; refine (callsIn_wide.2 (runes_in badB _)).mono ?_; rintro e w' ⟨rfl, rfl⟩)
  obtain ⟨n0, hn0⟩ : ∃ n0, w.heap.size = n0 := ⟨_, rfl⟩
  have b0 := (((Boxed.new w 3 (.int .i64 1)).alloc (.cells #[.int .i64 0] 3)).alloc (.cells #[.int .i64 0] 3)).alloc (.cells #[.string badB] 9)
  have b1 := ((Boxed.new (w.alloc (.cells #[.int .i64 1] 3)) 3 (.int .i64 0)).alloc (.cells #[.int .i64 0] 3)).alloc (.cells #[.string badB] 9)
  have b2 := (Boxed.new ((w.alloc (.cells #[.int .i64 1] 3)).alloc (.cells #[.int .i64 0] 3)) 3 (.int .i64 0)).alloc (.cells #[.string badB] 9)
  have b3 := Boxed.new (((w.alloc (.cells #[.int .i64 1] 3)).alloc (.cells #[.int .i64 0] 3)).alloc (.cells #[.int .i64 0] 3)) 9 (.string badB)
  have hB4 : Below w.heap.size w ((((w.alloc (.cells #[.int .i64 1] 3)).alloc (.cells #[.int .i64 0] 3)).alloc (.cells #[.int .i64 0] 3)).alloc (.cells #[.string badB] 9)) := by go_grown
  simp only [World.size_alloc] at b0 b1 b2 b3
  rw [hn0] at b0 b1 b2 b3
  obtain ⟨V, hV⟩ : ∃ V, (((w.alloc (.cells #[.int .i64 1] 3)).alloc (.cells #[.int .i64 0] 3)).alloc (.cells #[.int .i64 0] 3)).alloc (.cells #[.string badB] 9) = V := ⟨_, rfl⟩
  rw [hV] at b0 b1 b2 b3 hB4 ⊢
  clear hV
  have hI0 : fitI n0 [] V := ⟨b0, b1, b2⟩
  have hnV : n0 + 1 + 1 + 1 < V.heap.size := b3.lt
  rw [hn0]
  have hn0' : n0 ≤ w.heap.size := by omega
  have HB4 := Aside0.mk (show Below n0 w V from by rw [← hn0]; exact hB4)
  clear b0 b1 b2 hB4
  have hfirst : ∀ i r, [] ++ [(i, r)] <+: runes badB.data.toList → i = 0 := fun i r hp => by
    rw [bad_runes] at hp
    obtain ⟨t, ht⟩ := hp
    simp at ht
    exact ht.1.1
  have hlong : ∀ (pre : List (Nat × Int)) x, pre ++ [x] <+: runes badB.data.toList → pre.length < 2 := fun pre x hp => by
    rw [bad_runes] at hp
    have := hp.length_le
    simp at this
    omega
  apply wp_runes_next 9 (by omega) n0 (n0 + 1 + 1 + 1) badB rfl rfl b3 HB4.out hn0' (fitI n0) (fun _ _ _ => False) (fitI_cells n0) (fun _ => ofCells_pure (fun _ => False)) hI0
  case hassign =>
    intro l i r W K hK
    gi_wp2
    exact hK
  case hbody =>
    rintro l pre i r W ⟨q0, q1, q2⟩ hB hbb hsz hnext
    have c0 := q0.cell
    have c1 := q1.cell
    have c2 := q2.cell
    have f1 := q1.frozen
    have f2 := q2.frozen
    have hne1 : n0 + 1 ≠ n0 + 1 + 1 + 1 := by omega
    have hne2 : n0 + 1 + 1 ≠ n0 + 1 + 1 + 1 := by omega
    cases pre with
    | nil =>
      obtain rfl : i = 0 := hfirst i r hnext
      have Q1 := Aside0.mk q1
      have Q2 := Aside0.mk q2
      have Q0 := Aside0.mk q0
      clear q0 q1 q2 hnext
      gi_wp2
      have T1 := Turned.set Q1.out (by omega : n0 ≤ n0 + 1) hne1 (.int .i64 1)
      have Q2' : Boxed (W.setCell ⟨n0 + 1, 0, none⟩ (.int .i64 1)) (n0 + 1 + 1) 3 (.int .i64 0) := (Below.heap_setCell W ⟨n0 + 1, 0, none⟩ _ (n0 + 1 + 1) (by simp)).trans Q2.out
      have T2 := Turned.set Q2' (by omega : n0 ≤ n0 + 1 + 1) hne2 (.int .i64 0)
      refine ⟨T1.trans T2, ?_, ?_, ?_⟩
      · exact (Below.heap_setCell _ ⟨n0 + 1 + 1, 0, none⟩ _ n0 (by simp; omega)).trans ((Below.heap_setCell W ⟨n0 + 1, 0, none⟩ _ n0 (by simp)).trans Q0.out)
      · exact (Below.heap_setCell _ ⟨n0 + 1 + 1, 0, none⟩ _ (n0 + 1) (by simp)).trans (Q1.out.set (.int .i64 1))
      · exact Q2'.set (.int .i64 0)
    | cons x t =>
      have hl := hlong (x :: t) (i, r) hnext
      obtain rfl : t = [] := by cases t with | nil => rfl | cons _ _ => simp at hl; omega
      have Q1 := Aside0.mk q1
      have Q2 := Aside0.mk q2
      have Q0 := Aside0.mk q0
      clear q0 q1 q2 hnext hl
      rw [show ([x] : List (Nat × Int)).length = 1 from rfl] at c1
      gi_wp2
      refine ⟨Turned.set Q1.out (by omega : n0 ≤ n0 + 1) hne1 _, ?_, ?_, ?_⟩
      · exact (Below.heap_setCell W ⟨n0 + 1, 0, none⟩ _ n0 (by simp)).trans Q0.out
      · exact Q1.out.set (.int .i64 2)
      · exact (Below.heap_setCell W ⟨n0 + 1, 0, none⟩ _ (n0 + 1 + 1) (by simp)).trans Q2.out
  case hdone =>
    rintro D W hD hIW hB hO hK
    rw [bad_runes] at hIW
    obtain ⟨q0, q1, q2⟩ := hIW
    have c0 := q0.cell
    have c1 := q1.cell
    have c2 := q2.cell
    rw [show ([(0, -1), (1, -1)] : List (Nat × Int)).length = 2 from rfl] at c1
    have hsz : n0 ≤ W.heap.size := Nat.le_trans hn0' hB.size
    have hOw : W.ownsRow n0 9 1 (.slice none 0 0) 0 [] := World.ownsRow_nil _ _ _ _
    have HB := Aside0.mk hB
    have HK := Aside0.mk hK
    clear q0 q1 q2 hB hO hK
    gi_wp2_with (gi_at_builtin; refine wpListIn_append_own _ rfl _ _ 25 rfl n0 9 i0 (.string .empty) 1 16 Tryz.underlying25 hi hz0 hz1 hz2 rfl (by decide) _ _ _ rfl (hOw.alloc _) ⟨_, 0, none⟩ 1 1 [.string ⟨#[126]⟩] rfl rfl ?c1 ?c2 ?c3 ?c4 ?c5 ?_)
    case c1 =>
      intro j u hj
      match j, hj with
      | 0, hj => simp at hj; subst hj; simp [Addr.add]
    case c2 => intro u hu; simp at hu; subst hu; rfl
    case c3 => unfold maxLen; omega
    case c4 => omega
    case c5 => simp; omega
    intro v' w2 hown hgrow _
    obtain ⟨g', cap, rfl⟩ : ∃ g cap, v' = .slice (some ⟨g, 0, none⟩) 1 cap := by
      rcases hown.2 with ⟨_, h0⟩ | ⟨g, cap, cur, hv, _⟩
      · omega
      · exact ⟨g, cap, hv⟩
    have hg0 : w2.cell? ⟨g', 0, none⟩ = some (.string ⟨#[126]⟩) := hown.cells (g := g') rfl 0 _ rfl
    have hD2 : D < W.heap.size := size_of_heap HK.out
    have hK2 : w2.heap[D]? = some (.deferred (some [])) := ((hgrow.block D (by simp; omega) (fun e => by cases e)).trans (Lib.alloc_old _ _ _ hD2)).trans HK.out
    have hB2 : Below n0 w w2 := (HB.out.alloc hsz _).grown hgrow (by simp; omega) (fun k e => by cases e)
    have HG := Aside0.mk hg0
    have HK2 := Aside0.mk hK2
    have HB2 := Aside0.mk hB2
    clear hown hgrow hg0 hK2 hB2 HB HK c0 c1 c2 hOw
    gi_wp2
    unfold Code.roundsIn
    gi_wp2
    refine ⟨by simp, .inl ⟨_, _, rfl, run_takeDeferred HK2.out, ?_⟩⟩
    refine ⟨_, results_tmp2 rfl _ _ _, ?_⟩
    refine ⟨g', ⟨cap, rfl⟩, ?_, ?_⟩
    · have hlt := World.block_lt_of_cell? w2 _ HG.out
      have hne : some g' ≠ some D := fun e => by
        injection e with e
        subst e
        have := HG.out
        simp [World.cell?, HK2.out] at this
      exact (World.cell?_of_block ((grownBy_putObj' w2 D (.deferred none)).block g' hlt hne)).trans HG.out
    · exact HB2.out.trans (belowK_b (w := w) hn0' w2 D _ _ (by omega) HK2.out rfl rfl)
  case hstop =>
    rintro D c pre W _ _ h _ _ _
    exact h.elim
end Go.Proofs.YtifbplmejbnofaaGreatDoor.TR
