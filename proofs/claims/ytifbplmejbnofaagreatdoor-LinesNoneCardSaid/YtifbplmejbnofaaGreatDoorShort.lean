/- The builder that lies within lines' short: the copy check, WriteString, String. -/
import Derived.Test.YtifbplmejbnofaaGreatDoorBuild
import Derived.Test.YtifbplmejbnofaaGreatDoorWMore
import Derived.RangeFuncRecord
import Derived.Laws.Rows
set_option linter.unusedVariables false
set_option linter.unusedSimpArgs false
namespace Go.Proofs.YtifbplmejbnofaaGreatDoor.TS2
open Go.RowKit Go.Shelf Go.Proofs.YtifbplmejbnofaaGreatDoorW.PrintWords Go.Proofs.YtifbplmejbnofaaGreatDoorW.PrintMore Go.Proofs.YtifbplmejbnofaaGreatDoor.TB

/-- a short at a block: its book, its builder's bytes, how wide, whom it tells -/
def Sh (B q : Nat) (bp sn : Value) (n : Int) (bs : List Value) (w : World) : Prop :=
  ∃ p v, (p = .pointer none ∨ p = .pointer (some ⟨q, 1, none⟩)) ∧ B ≤ q ∧ w.heap[q]? = some (.cells #[bp, p, v, .int .i64 n, sn] 83 (0, 0)) ∧ w.ownsRowF B 5 1 v bs.length bs ∧ v.ownBlock ≠ some q
/-- .. whose builder has been written -/
def ShU (B q : Nat) (bp sn : Value) (n : Int) (bs : List Value) (w : World) : Prop :=
  ∃ v, B ≤ q ∧ w.heap[q]? = some (.cells #[bp, .pointer (some ⟨q, 1, none⟩), v, .int .i64 n, sn] 83 (0, 0)) ∧ w.ownsRowF B 5 1 v bs.length bs ∧ v.ownBlock ≠ some q
theorem ShU.sh {B q : Nat} {bp sn : Value} {n : Int} {bs : List Value} {w : World} (h : ShU B q bp sn n bs w) : Sh B q bp sn n bs w := by
  obtain ⟨v, h1, h2, h3, h4⟩ := h
  exact ⟨_, v, .inr rfl, h1, h2, h3, h4⟩
theorem liesS : liesAt Tryz.prog Tryz.prog.depth 83 (5 / Tryz.prog.cellsOf 83) 1 81 1 = true := by kernel_rfl
theorem set_row {w : World} {g : Nat} {cs : Array Value} {t : TypeId} {fr : Nat × Nat} (h : w.heap[g]? = some (.cells cs t fr)) (i : Nat) (v : Value) : (w.setCell ⟨g, i, none⟩ v).heap[g]? = some (.cells (cs.setIfInBounds i v) t fr) := by
  simp [World.setCell, Array.getElem?_modify, h]
/-- a row of bytes, behind a store into a block of another type -/
theorem ownF_set {w : World} {B n : Nat} {v : Value} {xs : List Value} (h : w.ownsRowF B 5 1 v n xs) {q : Nat} (hq : v.ownBlock ≠ some q) (i : Nat) (u : Value) : (w.setCell ⟨q, i, none⟩ u).ownsRowF B 5 1 v n xs := by
  obtain ⟨h1, h2⟩ := h
  refine ⟨h1, ?_⟩
  rcases h2 with h2 | ⟨g, cap, cur, fz, e1, e2, e3, e4⟩
  · exact .inl h2
  · refine .inr ⟨g, cap, cur, fz, e1, e2, ?_, e4⟩
    rw [Below.heap_setCell w ⟨q, i, none⟩ u g (fun e => hq (by rw [e1]; simp [Value.ownBlock]; exact e))]
    exact e3
set_option maxHeartbeats 1000000 in
set_option maxRecDepth 100000 in
theorem check (B q : Nat) (bp sn : Value) (n : Int) (bs : List Value) (w : World) (h : Sh B q bp sn n bs w) :
    Calls Tryz.prog 124 #[.pointer (some ⟨q, 1, none⟩)] w fun e w' => e = .returned (.tuple #[]) ∧ ShU B q bp sn n bs w' ∧ Below B w w' ∧ Lib.OthersKept 5 (some q) w w' := by
  obtain ⟨j, hj, hjs⟩ := Option.map_eq_some_iff.1 sizeB
  obtain ⟨p, v, hp, hB, hb, hown, hne⟩ := h
  have c1 : w.cell? ⟨q, 1, none⟩ = some p := by rw [Lib.cell_of_heap hb]; rfl
  rcases hp with rfl | rfl
  · have tU := Tryz.underlying321
    have hsh : w.shape? q = some (83, 5) := by simp [World.shape?, hb]
    have f1 := Lib.frozen_of_heap hb 1
    have HBk := Aside0.mk hb
    have HO := Aside0.mk hown
    clear hb hown
    go_enter Tryz.func124, Tryz.ntmps124
    go_wp2
    rw [Lib.run_to_unsafe w ⟨q, 1, none⟩ Tryz.underlying79 tU hj (by rw [hjs]; decide) hsh (by show 1 < 5; omega)]
    simp only [Result.andThen]
    rw [Oper.upon_value]
    go_wp2
    rw [run_callFunc_extern Tryz.func173 (by kernel_rfl) (by kernel_rfl) (by kernel_rfl) (e := Extern.AbiNoEscape.same) (by kernel_rfl)]
    rw [Lib.run_noEscape]
    simp only [Result.andThen]
    rw [Oper.upon_value]
    go_wp2
    rw [Lib.run_from_unsafe w ⟨q, 1, none⟩ tU Tryz.underlying79 hj hsh liesS]
    simp only [Result.andThen]
    rw [Oper.upon_value]
    go_wp2
    go_end0
    exact ⟨rfl, ⟨v, hB, set_row HBk.out 1 _, ownF_set HO.out hne 1 _, hne⟩, (Below.refl B w).setCell (p := ⟨q, 1, none⟩) hB _, (Lib.OthersKept.refl _ _ w).setCell ⟨q, 1, none⟩ rfl _⟩
  · have HBk := Aside0.mk hb
    have HO := Aside0.mk hown
    clear hb hown
    go_enter Tryz.func124, Tryz.ntmps124
    go_wp2
    rw [Lib.run_neq_ptr_same w _ Tryz.underlying79 hj]
    go_wp2
    go_end0
    exact ⟨rfl, ⟨v, hB, HBk.out, HO.out, hne⟩, Below.refl B w, Lib.OthersKept.refl _ _ w⟩
set_option maxHeartbeats 2000000 in
set_option maxRecDepth 100000 in
theorem write_string (B q : Nat) (bp sn : Value) (n : Int) (bs : List Value) (s : ByteArray) (w : World) (h : Sh B q bp sn n bs w) (hlen : bs.length + s.size ≤ 140737488355328) (hBw : B ≤ w.heap.size) :
    Calls Tryz.prog 71 #[.pointer (some ⟨q, 1, none⟩), .string s] w fun e w' => e = .returned (.tuple #[.int .i64 s.size, .nilIface]) ∧
      (ShU B q bp sn n (bs ++ Lib.strCells s) w' ∧ Below B w w' ∧ Lib.OthersKept 5 (some q) w w') := by
  obtain ⟨i0, hi, hz0, hz1, hz2⟩ := info_parts infoByte
  go_enter Tryz.func71, Tryz.ntmps71
  go_wp2_with (go_at_call 124; refine (check B q bp sn n bs _ h).mono ?_)
  rintro e w1 ⟨rfl, h1, hb1, hk1⟩
  obtain ⟨v, hB, hbk, hown, hne⟩ := h1
  have c1 : w1.cell? ⟨q, 2, none⟩ = some v := by rw [Lib.cell_of_heap hbk]; rfl
  go_wp2_with (at_builtin; refine Lib.wpList_append_own_stringF _ rfl _ _ 53 9 rfl B 5 i0 Tryz.underlying53 Tryz.underlying9 hi hz0 hz1 hz2 _ _ _ rfl hown s rfl ?c3 ?c4 ?c5 ?_)
  case c3 => unfold maxLen; omega
  case c4 => omega
  case c5 => have := hb1.size; omega
  intro v' w2 hown' hgrow _
  have hlt := size_of_heap hbk
  have hb2 : w2.heap[q]? = some (.cells #[bp, .pointer (some ⟨q, 1, none⟩), v, .int .i64 n, sn] 83 (0, 0)) := by
    rw [hgrow.block q hlt (fun e => hne e.symm)]
    exact hbk
  have d1 : w2.cell? ⟨q, 2, none⟩ = some v := by rw [Lib.cell_of_heap hb2]; rfl
  have f1 : w2.frozen? ⟨q, 2, none⟩ = false := Lib.frozen_of_heap hb2 2
  have hne' : v'.ownBlock ≠ some q := by
    intro e
    obtain ⟨c, fz, hc⟩ := Lib.ownsRowF_kind hown' q e
    rw [hc] at hb2; cases hb2
  obtain ⟨ao, n', cap, hv'⟩ : ∃ ao n' cap, v' = .slice ao n' cap := by
    rcases hown'.2 with ⟨hv, _⟩ | ⟨g, cap, cur, fz, hv, _⟩
    · exact ⟨_, _, _, hv⟩
    · exact ⟨_, _, _, hv⟩
  subst hv'
  have HB2 := Aside0.mk hb2
  have HO' := Aside0.mk hown'
  clear hb2 hown' c1
  go_wp2
  go_ret2
  refine ⟨rfl, ⟨_, hB, set_row HB2.out 2 _, ?_, hne'⟩, ?_, (hk1.grown hgrow (Lib.ownsRowF_kind hown)).setCell ⟨q, 2, none⟩ rfl _⟩
  · rw [List.length_append, Lib.strCells_length]
    exact ownF_set HO'.out hne' 2 _
  · exact (hb1.grown hgrow (by have := hb1.size; omega) (fun k hk => (hown.lt k hk).1)).setCell (p := ⟨q, 2, none⟩) hB _
set_option maxHeartbeats 1000000 in
set_option maxRecDepth 100000 in
theorem string_calls (B q : Nat) (bp sn : Value) (n : Int) (l : List UInt8) (w : World) (h : Sh B q bp sn n (Lib.byteCells l) w) (h0 : l ≠ []) :
    Calls Tryz.prog 32 #[.pointer (some ⟨q, 1, none⟩)] w fun e w' => e = .returned (.string ⟨l.toArray⟩) ∧ Below B w w' ∧ Lib.OthersKept 5 (some q) w w' := by
  obtain ⟨p, v, hp, hB, hbk, hown, hne⟩ := h
  have hl0 : l.length ≠ 0 := by simpa using h0
  rw [Lib.byteCells_length] at hown
  obtain ⟨g, cap, cur, fz, rfl, hbg, hg, hfz, hnc, hcm, hcs, htake⟩ : ∃ g cap cur fz, v = .slice (some ⟨g, 0, none⟩) l.length cap ∧ B ≤ g ∧ w.heap[g]? = some (.cells cur 5 fz) ∧ fz.2 ≤ l.length * 1 ∧ l.length ≤ cap ∧ cap ≤ maxLen ∧ cur.size = cap * 1 ∧ cur.toList.take (l.length * 1) = Lib.byteCells l := by
    rcases hown.2 with ⟨_, hz⟩ | ⟨g, cap, cur, fz, hv, r⟩
    · exact absurd hz hl0
    · exact ⟨g, cap, cur, fz, hv, r⟩
  have c1 : w.drew.cell? ⟨q, 2, none⟩ = some (.slice (some ⟨g, 0, none⟩) l.length cap) := by
    have : w.drew.heap[q]? = some (.cells #[bp, p, .slice (some ⟨g, 0, none⟩) l.length cap, .int .i64 n, sn] 83 (0, 0)) := hbk
    rw [Lib.cell_of_heap this]; rfl
  have hSD : (Builtin.unsafeSliceData_ #[53] 131 #[.slice (some ⟨g, 0, none⟩) l.length cap]).run Tryz.prog w.drew = .ok (.pointer (some ⟨g, 0, none⟩)) w.drew :=
    Lib.run_unsafeSliceData_row _ _ _ _ _ _ (by omega)
  have hUS : (Builtin.unsafeString_ #[131, 3] 9 #[.pointer (some ⟨g, 0, none⟩), .int .i64 l.length]).run Tryz.prog w.drew = .ok (.string ⟨l.toArray⟩) (w.drew.freeze ⟨g, 0, none⟩ l.length) := by
    refine Lib.run_unsafeString_row w.drew 131 3 9 5 Tryz.underlying131 (by kernel_rfl) g cur.size (by have hg' : w.drew.heap[g]? = some (.cells cur 5 fz) := hg; simp [World.shape?, hg']) l h0 (by omega) (by unfold maxLen at hcm; omega) ?_
    intro j x hx
    have := hown.cells (g := g) rfl j (.int .u8 x.toNat) (by simp [Lib.byteCells, hx])
    exact this
  go_enter Tryz.func32, Tryz.ntmps32
  go_wp2
  go_region
  all_goals (go_wp2; go_ret; exact ⟨rfl, Lib.below_freeze (Below.drew (Below.refl B w)) (p := ⟨g, 0, none⟩) hbg _, ((Lib.OthersKept.refl _ _ w).drew).freeze ⟨g, 0, none⟩ _ ⟨cur, fz, hg⟩⟩)
end Go.Proofs.YtifbplmejbnofaaGreatDoor.TS2
