/- Build Short PutAscii -/
import Derived.Test.YtimmafiodhncgaaGreatDoorProg
import Derived.Shelf.Strings.BuilderK
import Derived.Test.YtimmafiodhncgaaGreatDoorM2
import Derived.RangeFuncRecord
import Derived.Laws.Rows
import Derived.LoopN
import Derived.Deep.LoopGhost
import Derived.Laws.RangeString
import Derived.Lib.BufferKept
import Derived.Handy
section
/- strings.Builder where the translation refuses the copy check's last arm: copyCheck, WriteByte, WriteString, by walks of our own. -/
set_option linter.unusedVariables false
set_option linter.unusedSimpArgs false
namespace Go.Proofs.YtimmafiodhncgaaGreatDoor.TB
open Go.RowKit Go.Shelf

theorem sizeB : (Tryz.prog.info? 110).map (·.size) = some 2 := by kernel_rfl
theorem liesB : liesAt Tryz.prog Tryz.prog.depth 110 (2 / Tryz.prog.cellsOf 110) 0 110 1 = true := by kernel_rfl
theorem infoByte : (Tryz.prog.info? 5).map (fun i => (i.zero, i.size, i.bytes)) = some (some (.int .u8 0), 1, 1) := by kernel_rfl

set_option maxHeartbeats 1000000 in
set_option maxRecDepth 100000 in
theorem check_used (b : Nat) (w : World) (h0 : w.cell? ⟨b, 0, none⟩ = some (.pointer (some ⟨b, 0, none⟩))) :
    Calls Tryz.prog 106 #[.pointer (some ⟨b, 0, none⟩)] w fun e w' => e = .returned (.tuple #[]) ∧ w' = w := by
  obtain ⟨j, hj, _⟩ := Option.map_eq_some_iff.1 sizeB
  go_enter Tryz.func106, Tryz.ntmps106
  go_wp2
  rw [Lib.run_neq_ptr_same w _ Tryz.underlying108 hj]
  go_wp2
  go_end0
  exact ⟨rfl, rfl⟩
set_option maxHeartbeats 1000000 in
set_option maxRecDepth 100000 in
theorem check_fresh (b : Nat) (w : World) (h0 : w.cell? ⟨b, 0, none⟩ = some (.pointer none)) (hsh : w.shape? b = some (110, 2)) (hfz : w.frozen? ⟨b, 0, none⟩ = false) :
    Calls Tryz.prog 106 #[.pointer (some ⟨b, 0, none⟩)] w fun e w' => e = .returned (.tuple #[]) ∧ w' = w.setCell ⟨b, 0, none⟩ (.pointer (some ⟨b, 0, none⟩)) := by
  obtain ⟨j, hj, hjs⟩ := Option.map_eq_some_iff.1 sizeB
  have tU := Tryz.underlying279
  go_enter Tryz.func106, Tryz.ntmps106
  go_wp2
  rw [Lib.run_to_unsafe w ⟨b, 0, none⟩ Tryz.underlying108 tU hj (by rw [hjs]; decide) hsh (Nat.zero_lt_succ 1)]
  simp only [Result.andThen]
  rw [Oper.upon_value]
  go_wp2
  rw [run_callFunc_extern Tryz.func144 (by kernel_rfl) (by kernel_rfl) (by kernel_rfl) (e := Extern.AbiNoEscape.same) (by kernel_rfl)]
  rw [Lib.run_noEscape]
  simp only [Result.andThen]
  rw [Oper.upon_value]
  go_wp2
  rw [Lib.run_from_unsafe w ⟨b, 0, none⟩ tU Tryz.underlying108 hj hsh liesB]
  simp only [Result.andThen]
  rw [Oper.upon_value]
  go_wp2
  go_end0
  exact ⟨rfl, rfl⟩
/-- a builder, and what lies elsewhere, behind the copy check -/
theorem check (B b : Nat) (bs : List Value) (w : World) (h : Lib.IsBuilderF 110 5 B b bs w) :
    Calls Tryz.prog 106 #[.pointer (some ⟨b, 0, none⟩)] w fun e w' => e = .returned (.tuple #[]) ∧
      (Lib.BuilderAtF 110 5 B b (.pointer (some ⟨b, 0, none⟩)) bs w' ∧ Below B w w' ∧ Lib.OthersKept 5 (some b) w w') := by
  rcases h with h | h
  · refine (check_fresh b w h.cell0 h.shape h.frozen0).mono ?_
    rintro e w' ⟨rfl, rfl⟩
    exact ⟨rfl, h.used _, (Below.refl B w).setCell (p := ⟨b, 0, none⟩) h.1 _, (Lib.OthersKept.refl _ _ w).setCell ⟨b, 0, none⟩ rfl _⟩
  · refine (check_used b w h.cell0).mono ?_
    rintro e w' ⟨rfl, rfl⟩
    exact ⟨rfl, h, Below.refl B _, Lib.OthersKept.refl _ _ _⟩
theorem size_of_heap {w : World} {b : Nat} {o : Obj} (h : w.heap[b]? = some o) : b < w.heap.size := (Array.getElem?_eq_some_iff.1 h).1
set_option maxHeartbeats 2000000 in
set_option maxRecDepth 100000 in
theorem write_string (B b : Nat) (bs : List Value) (s : ByteArray) (w : World) (h : Lib.IsBuilderF 110 5 B b bs w) (hlen : bs.length + s.size ≤ 140737488355328) (hBw : B ≤ w.heap.size) :
    Calls Tryz.prog 53 #[.pointer (some ⟨b, 0, none⟩), .string s] w fun e w' => e = .returned (.tuple #[.int .i64 s.size, .nilIface]) ∧
      (Lib.BuilderAtF 110 5 B b (.pointer (some ⟨b, 0, none⟩)) (bs ++ Lib.strCells s) w' ∧ Below B w w' ∧ Lib.OthersKept 5 (some b) w w') := by
  obtain ⟨i0, hi, hz0, hz1, hz2⟩ := info_parts infoByte
  go_enter Tryz.func53, Tryz.ntmps53
  go_wp2_with (go_at_call 106; refine (check B b bs _ h).mono ?_)
  rintro e w1 ⟨rfl, h1, hb1, hk1⟩
  obtain ⟨hB, v, hbk, hown, hne⟩ := h1
  have c0 : w1.cell? ⟨b, 0, none⟩ = some (.pointer (some ⟨b, 0, none⟩)) := by rw [Lib.cell_of_heap hbk]; rfl
  have c1 : w1.cell? ⟨b, 1, none⟩ = some v := by rw [Lib.cell_of_heap hbk]; rfl
  go_wp2_with (at_builtin; refine Lib.wpList_append_own_stringF _ rfl _ _ 59 9 rfl B 5 i0 Tryz.underlying59 Tryz.underlying9 hi hz0 hz1 hz2 _ _ _ rfl hown s rfl ?c3 ?c4 ?c5 ?_)
  case c3 => unfold maxLen; omega
  case c4 => omega
  case c5 => have := hb1.size; omega
  intro v' w2 hown' hgrow _
  have hlt := size_of_heap hbk
  have hb2 : w2.heap[b]? = some (.cells #[.pointer (some ⟨b, 0, none⟩), v] 110 (0, 0)) := by
    rw [hgrow.block b hlt (fun e => hne e.symm)]
    exact hbk
  have d0 : w2.cell? ⟨b, 0, none⟩ = some (.pointer (some ⟨b, 0, none⟩)) := by rw [Lib.cell_of_heap hb2]; rfl
  have d1 : w2.cell? ⟨b, 1, none⟩ = some v := by rw [Lib.cell_of_heap hb2]; rfl
  have f1 : w2.frozen? ⟨b, 1, none⟩ = false := Lib.frozen_of_heap hb2 1
  obtain ⟨ao, n', cap, rfl⟩ : ∃ ao n' cap, v' = .slice ao n' cap := by
    rcases hown'.2 with ⟨hv, _⟩ | ⟨g, cap, cur, fz, hv, _⟩
    · exact ⟨_, _, _, hv⟩
    · exact ⟨_, _, _, hv⟩
  go_wp2
  go_ret2
  refine ⟨rfl, ?_, ?_, (hk1.grown hgrow (Lib.ownsRowF_kind hown)).setCell ⟨b, 1, none⟩ rfl _⟩
  · exact Lib.BuilderAtF.put (T := 110) (e := 5) hB hb2 (bs' := bs ++ Lib.strCells s) (by simpa [Lib.strCells_length] using hown') (by decide)
  · exact (hb1.grown hgrow (by have := hb1.size; omega) (fun k hk => (hown.lt k hk).1)).setCell (p := ⟨b, 1, none⟩) hB _

end Go.Proofs.YtimmafiodhncgaaGreatDoor.TB
end
section
/- The builder that lies within lines' short: the copy check, WriteString, String. -/
set_option linter.unusedVariables false
set_option linter.unusedSimpArgs false
namespace Go.Proofs.YtimmafiodhncgaaGreatDoor.TS2
open Go.RowKit Go.Shelf Go.Proofs.YtimmafiodhncgaaGreatDoorW.PrintWords Go.Proofs.YtimmafiodhncgaaGreatDoorW.PrintMore Go.Proofs.YtimmafiodhncgaaGreatDoor.TB

/-- a short at a block: its book, its builder's bytes, how wide, whom it tells -/
def Sh (B q : Nat) (bp sn : Value) (n : Int) (bs : List Value) (w : World) : Prop :=
  ∃ p v, (p = .pointer none ∨ p = .pointer (some ⟨q, 1, none⟩)) ∧ B ≤ q ∧ w.heap[q]? = some (.cells #[bp, p, v, .int .i64 n, sn] 126 (0, 0)) ∧ w.ownsRowF B 5 1 v bs.length bs ∧ v.ownBlock ≠ some q
/-- .. whose builder has been written -/
def ShU (B q : Nat) (bp sn : Value) (n : Int) (bs : List Value) (w : World) : Prop :=
  ∃ v, B ≤ q ∧ w.heap[q]? = some (.cells #[bp, .pointer (some ⟨q, 1, none⟩), v, .int .i64 n, sn] 126 (0, 0)) ∧ w.ownsRowF B 5 1 v bs.length bs ∧ v.ownBlock ≠ some q
theorem ShU.sh {B q : Nat} {bp sn : Value} {n : Int} {bs : List Value} {w : World} (h : ShU B q bp sn n bs w) : Sh B q bp sn n bs w := by
  obtain ⟨v, h1, h2, h3, h4⟩ := h
  exact ⟨_, v, .inr rfl, h1, h2, h3, h4⟩
theorem liesS : liesAt Tryz.prog Tryz.prog.depth 126 (5 / Tryz.prog.cellsOf 126) 1 110 1 = true := by kernel_rfl
theorem set_row {w : World} {g : Nat} {cs : Array Value} {t : TypeId} {fr : Nat × Nat} (h : w.heap[g]? = some (.cells cs t fr)) (i : Nat) (v : Value) : (w.setCell ⟨g, i, none⟩ v).heap[g]? = some (.cells (cs.setIfInBounds i v) t fr) := by
  simp [World.setCell, Array.getElem?_modify, h]
/-- a row of bytes, behind a store into a block of another type -/
theorem ownF_set {w : World} {B n : Nat} {v : Value} {xs : List Value} (h : w.ownsRowF B 5 1 v n xs) {q : Nat} (hq : v.ownBlock ≠ some q) (i : Nat) (u : Value) : (w.setCell ⟨q, i, none⟩ u).ownsRowF B 5 1 v n xs := by
  obtain ⟨h1, h2⟩ := h
  refine ⟨h1, ?_⟩
  rcases h2 with h2 | ⟨g, cap, cur, fz, e1, e2, e3, e4⟩
  · exact .inl h2
  · refine .inr ⟨g, cap, cur, fz, e1, e2, ?_, e4⟩
    rw [Below.heap_setCell w ⟨q, i, none⟩ u g (fun e => hq (by rw [e1]; simp [Value.ownBlock]; exact e))]
    exact e3
set_option maxHeartbeats 1000000 in
set_option maxRecDepth 100000 in
theorem check (B q : Nat) (bp sn : Value) (n : Int) (bs : List Value) (w : World) (h : Sh B q bp sn n bs w) :
    Calls Tryz.prog 106 #[.pointer (some ⟨q, 1, none⟩)] w fun e w' => e = .returned (.tuple #[]) ∧ ShU B q bp sn n bs w' ∧ Below B w w' ∧ Lib.OthersKept 5 (some q) w w' := by
  obtain ⟨j, hj, hjs⟩ := Option.map_eq_some_iff.1 sizeB
  obtain ⟨p, v, hp, hB, hb, hown, hne⟩ := h
  have c1 : w.cell? ⟨q, 1, none⟩ = some p := by rw [Lib.cell_of_heap hb]; rfl
  rcases hp with rfl | rfl
  · have tU := Tryz.underlying279
    have hsh : w.shape? q = some (126, 5) := by simp [World.shape?, hb]
    have f1 := Lib.frozen_of_heap hb 1
    have HBk := Aside0.mk hb
    have HO := Aside0.mk hown
    clear hb hown
    go_enter Tryz.func106, Tryz.ntmps106
    go_wp2
    rw [Lib.run_to_unsafe w ⟨q, 1, none⟩ Tryz.underlying108 tU hj (by rw [hjs]; decide) hsh (by show 1 < 5; omega)]
    simp only [Result.andThen]
    rw [Oper.upon_value]
    go_wp2
    rw [run_callFunc_extern Tryz.func144 (by kernel_rfl) (by kernel_rfl) (by kernel_rfl) (e := Extern.AbiNoEscape.same) (by kernel_rfl)]
    rw [Lib.run_noEscape]
    simp only [Result.andThen]
    rw [Oper.upon_value]
    go_wp2
    rw [Lib.run_from_unsafe w ⟨q, 1, none⟩ tU Tryz.underlying108 hj hsh liesS]
    simp only [Result.andThen]
    rw [Oper.upon_value]
    go_wp2
    go_end0
    exact ⟨rfl, ⟨v, hB, set_row HBk.out 1 _, ownF_set HO.out hne 1 _, hne⟩, (Below.refl B w).setCell (p := ⟨q, 1, none⟩) hB _, (Lib.OthersKept.refl _ _ w).setCell ⟨q, 1, none⟩ rfl _⟩
  · have HBk := Aside0.mk hb
    have HO := Aside0.mk hown
    clear hb hown
    go_enter Tryz.func106, Tryz.ntmps106
    go_wp2
    rw [Lib.run_neq_ptr_same w _ Tryz.underlying108 hj]
    go_wp2
    go_end0
    exact ⟨rfl, ⟨v, hB, HBk.out, HO.out, hne⟩, Below.refl B w, Lib.OthersKept.refl _ _ w⟩
set_option maxHeartbeats 2000000 in
set_option maxRecDepth 100000 in
theorem write_string (B q : Nat) (bp sn : Value) (n : Int) (bs : List Value) (s : ByteArray) (w : World) (h : Sh B q bp sn n bs w) (hlen : bs.length + s.size ≤ 140737488355328) (hBw : B ≤ w.heap.size) :
    Calls Tryz.prog 53 #[.pointer (some ⟨q, 1, none⟩), .string s] w fun e w' => e = .returned (.tuple #[.int .i64 s.size, .nilIface]) ∧
      (ShU B q bp sn n (bs ++ Lib.strCells s) w' ∧ Below B w w' ∧ Lib.OthersKept 5 (some q) w w') := by
  obtain ⟨i0, hi, hz0, hz1, hz2⟩ := info_parts infoByte
  go_enter Tryz.func53, Tryz.ntmps53
  go_wp2_with (go_at_call 106; refine (check B q bp sn n bs _ h).mono ?_)
  rintro e w1 ⟨rfl, h1, hb1, hk1⟩
  obtain ⟨v, hB, hbk, hown, hne⟩ := h1
  have c1 : w1.cell? ⟨q, 2, none⟩ = some v := by rw [Lib.cell_of_heap hbk]; rfl
  go_wp2_with (at_builtin; refine Lib.wpList_append_own_stringF _ rfl _ _ 59 9 rfl B 5 i0 Tryz.underlying59 Tryz.underlying9 hi hz0 hz1 hz2 _ _ _ rfl hown s rfl ?c3 ?c4 ?c5 ?_)
  case c3 => unfold maxLen; omega
  case c4 => omega
  case c5 => have := hb1.size; omega
  intro v' w2 hown' hgrow _
  have hlt := size_of_heap hbk
  have hb2 : w2.heap[q]? = some (.cells #[bp, .pointer (some ⟨q, 1, none⟩), v, .int .i64 n, sn] 126 (0, 0)) := by
    rw [hgrow.block q hlt (fun e => hne e.symm)]
    exact hbk
  have d1 : w2.cell? ⟨q, 2, none⟩ = some v := by rw [Lib.cell_of_heap hb2]; rfl
  have f1 : w2.frozen? ⟨q, 2, none⟩ = false := Lib.frozen_of_heap hb2 2
  have hne' : v'.ownBlock ≠ some q := by
    intro e
    obtain ⟨c, fz, hc⟩ := Lib.ownsRowF_kind hown' q e
    rw [hc] at hb2; cases hb2
  obtain ⟨ao, n', cap, hv'⟩ : ∃ ao n' cap, v' = .slice ao n' cap := by
    rcases hown'.2 with ⟨hv, _⟩ | ⟨g, cap, cur, fz, hv, _⟩
    · exact ⟨_, _, _, hv⟩
    · exact ⟨_, _, _, hv⟩
  subst hv'
  have HB2 := Aside0.mk hb2
  have HO' := Aside0.mk hown'
  clear hb2 hown' c1
  go_wp2
  go_ret2
  refine ⟨rfl, ⟨_, hB, set_row HB2.out 2 _, ?_, hne'⟩, ?_, (hk1.grown hgrow (Lib.ownsRowF_kind hown)).setCell ⟨q, 2, none⟩ rfl _⟩
  · rw [List.length_append, Lib.strCells_length]
    exact ownF_set HO'.out hne' 2 _
  · exact (hb1.grown hgrow (by have := hb1.size; omega) (fun k hk => (hown.lt k hk).1)).setCell (p := ⟨q, 2, none⟩) hB _
set_option maxHeartbeats 1000000 in
set_option maxRecDepth 100000 in
theorem string_calls (B q : Nat) (bp sn : Value) (n : Int) (l : List UInt8) (w : World) (h : Sh B q bp sn n (Lib.byteCells l) w) (h0 : l ≠ []) :
    Calls Tryz.prog 55 #[.pointer (some ⟨q, 1, none⟩)] w fun e w' => e = .returned (.string ⟨l.toArray⟩) ∧ Below B w w' ∧ Lib.OthersKept 5 (some q) w w' := by
  obtain ⟨p, v, hp, hB, hbk, hown, hne⟩ := h
  have hl0 : l.length ≠ 0 := by simpa using h0
  rw [Lib.byteCells_length] at hown
  obtain ⟨g, cap, cur, fz, rfl, hbg, hg, hfz, hnc, hcm, hcs, htake⟩ : ∃ g cap cur fz, v = .slice (some ⟨g, 0, none⟩) l.length cap ∧ B ≤ g ∧ w.heap[g]? = some (.cells cur 5 fz) ∧ fz.2 ≤ l.length * 1 ∧ l.length ≤ cap ∧ cap ≤ maxLen ∧ cur.size = cap * 1 ∧ cur.toList.take (l.length * 1) = Lib.byteCells l := by
    rcases hown.2 with ⟨_, hz⟩ | ⟨g, cap, cur, fz, hv, r⟩
    · exact absurd hz hl0
    · exact ⟨g, cap, cur, fz, hv, r⟩
  have c1 : w.drew.cell? ⟨q, 2, none⟩ = some (.slice (some ⟨g, 0, none⟩) l.length cap) := by
    have : w.drew.heap[q]? = some (.cells #[bp, p, .slice (some ⟨g, 0, none⟩) l.length cap, .int .i64 n, sn] 126 (0, 0)) := hbk
    rw [Lib.cell_of_heap this]; rfl
  have hSD : (Builtin.unsafeSliceData_ #[59] 190 #[.slice (some ⟨g, 0, none⟩) l.length cap]).run Tryz.prog w.drew = .ok (.pointer (some ⟨g, 0, none⟩)) w.drew :=
    Lib.run_unsafeSliceData_row _ _ _ _ _ _ (by omega)
  have hUS : (Builtin.unsafeString_ #[190, 3] 9 #[.pointer (some ⟨g, 0, none⟩), .int .i64 l.length]).run Tryz.prog w.drew = .ok (.string ⟨l.toArray⟩) (w.drew.freeze ⟨g, 0, none⟩ l.length) := by
    refine Lib.run_unsafeString_row w.drew 190 3 9 5 Tryz.underlying190 (by kernel_rfl) g cur.size (by have hg' : w.drew.heap[g]? = some (.cells cur 5 fz) := hg; simp [World.shape?, hg']) l h0 (by omega) (by unfold maxLen at hcm; omega) ?_
    intro j x hx
    have := hown.cells (g := g) rfl j (.int .u8 x.toNat) (by simp [Lib.byteCells, hx])
    exact this
  go_enter Tryz.func55, Tryz.ntmps55
  go_wp2
  go_region
  all_goals (go_wp2; go_ret; exact ⟨rfl, Lib.below_freeze (Below.drew (Below.refl B w)) (p := ⟨g, 0, none⟩) hbg _, ((Lib.OthersKept.refl _ _ w).drew).freeze ⟨g, 0, none⟩ _ ⟨cur, fz, hg⟩⟩)
end Go.Proofs.YtimmafiodhncgaaGreatDoor.TS2
end
section
/- lines.short.put of any text of ASCII. -/
set_option linter.unusedVariables false
set_option linter.unusedSimpArgs false
namespace Go.Proofs.YtimmafiodhncgaaGreatDoor.TS2
open Go.RowKit Go.Shelf Go.Proofs.YtimmafiodhncgaaGreatDoorW.PrintWords Go.Proofs.YtimmafiodhncgaaGreatDoorW.PrintMore Go.Proofs.YtimmafiodhncgaaGreatDoor.TB

theorem size_set (W : World) (a : Addr) (u : Value) : (W.setCell a u).heap.size = W.heap.size := by simp [World.setCell]
theorem iter_set (W : World) (s : ByteArray) (k q i : Nat) (u : Value) (hq : q < W.heap.size) : (W.iter s k).setCell ⟨q, i, none⟩ u = (W.setCell ⟨q, i, none⟩ u).iter s k := by
  unfold World.iter World.setCell World.alloc
  congr 1
  apply Array.ext_getElem?
  intro j
  simp only [Array.getElem?_modify, Array.getElem?_push, Array.size_modify]
  by_cases hj : q = j
  · subst hj
    simp [Nat.ne_of_lt hq]
  · simp [hj]
set_option maxHeartbeats 2000000 in
set_option maxRecDepth 100000 in
theorem put_ascii (B q : Nat) (bp sn : Value) (n : Nat) (bs : List Value) (s : ByteArray) (w : World) (h : Sh B q bp sn n bs w) (hBw : B ≤ w.heap.size) (hn : n ≤ 1073741824) (hsz : s.size ≤ 1073741824) (hbs : bs.length ≤ 1073741824) (hch : ∀ j, (h : j < s.size) → (s[j]'h).toNat < 128) :
    Calls Tryz.prog 122 #[.pointer (some ⟨q, 0, none⟩), .string s] w fun e w' => e = .returned (.tuple #[]) ∧
      (ShU B q bp sn ((n : Int) + (s.size : Int)) (bs ++ Lib.strCells s) w' ∧ Below B w w' ∧ Lib.OthersKept 5 (some q) w w') := by
  have HC := Aside0.mk hch
  clear hch
  go_enter Tryz.func122, Tryz.ntmps122
  go_wp2_with (go_at_call 53; refine (write_string B q bp sn n bs s _ h (by omega) hBw).mono ?_)
  rintro e w1 ⟨rfl, h1, b1, k1⟩
  obtain ⟨v, hB, hbk, hown, hne⟩ := h1
  have hq : q < w1.heap.size := size_of_heap hbk
  obtain ⟨nx, hnx⟩ : ∃ nx, w1.heap.size = nx := ⟨_, rfl⟩
  have hb0 : B ≤ nx := by rw [← hnx]; exact Nat.le_trans hBw b1.size
  have HK := Aside0.mk hbk
  have HO := Aside0.mk hown
  have HB := Aside0.mk b1
  have HT := Aside0.mk k1
  clear hbk hown h b1 k1 hbs
  go_wp2
  rw [hnx] at hq
  go_loopg [] s.size (fun kq wr => ∃ (k : Nat) (W : World), k + kq = s.size ∧ wr = W.iter s k ∧ Aside0 (W.heap.size = nx) ∧ Aside0 (W.heap[q]? = some (.cells #[bp, .pointer (some ⟨q, 1, none⟩), v, .int .i64 ((n : Int) + (k : Int)), sn] 126 (0, 0))) ∧
    Aside0 (W.ownsRowF B 5 1 v (bs ++ Lib.strCells s).length (bs ++ Lib.strCells s)) ∧ Aside0 (Below B w W) ∧ Aside0 (Lib.OthersKept 5 (some q) w W))
  case atStart => exact ⟨0, w1, by omega, rfl, Aside0.mk hnx, Aside0.mk (by simpa using HK.out), HO, HB, HT⟩
  case round =>
    clear HK HO HB HT
    obtain ⟨k, W, hkq, rfl, hsz, HK, HO, HB, HT⟩ := hrel
    by_cases hk : k < s.size
    · have hch := HC.out
      have hx : ∀ ty, (Instr.next (.pointer (some ⟨nx, 0, none⟩)) true ty).run Tryz.prog (W.iter s k) = .ok (.tuple #[.bool true, .int .i64 k, .int .i32 (s[k]'hk).toNat]) (W.iter s (k + 1)) := fun ty => by
        rw [← hsz.out]; exact run_next_ascii W s k ty hk (hch k _)
      have hkk : (W.iter s (k + 1)).heap[q]? = some (.cells #[bp, .pointer (some ⟨q, 1, none⟩), v, .int .i64 ((n : Int) + (k : Int)), sn] 126 (0, 0)) := by
        unfold World.iter
        rw [Lib.alloc_old _ _ _ (by rw [hsz.out]; exact hq)]
        exact HK.out
      have c3 : (W.iter s (k + 1)).cell? ⟨q, 3, none⟩ = some (.int .i64 ((n : Int) + (k : Int))) := by rw [Lib.cell_of_heap hkk]; rfl
      have f3 : (W.iter s (k + 1)).frozen? ⟨q, 3, none⟩ = false := Lib.frozen_of_heap hkk 3
      have p0 : (0 : Int) ≤ (n : Int) + (k : Int) := by omega
      have p1 : (n : Int) + (k : Int) ≤ 2147483648 := by omega
      clear hkk hch
      go_wp2
      go_roundg (s.size - k - 1)
      case measure => omega
      case rel =>
        refine ⟨k + 1, W.setCell ⟨q, 3, none⟩ (.int .i64 ((n : Int) + (k : Int) + 1)), by omega, ?_, Aside0.mk ?_, Aside0.mk ?_, Aside0.mk ?_, Aside0.mk ?_, Aside0.mk ?_⟩
        · exact iter_set W s (k + 1) q 3 _ (by rw [hsz.out]; exact hq)
        · rw [size_set]; exact hsz.out
        · have := set_row HK.out 3 (.int .i64 ((n : Int) + (k : Int) + 1))
          rw [show (n : Int) + ((k + 1 : Nat) : Int) = (n : Int) + (k : Int) + 1 from by omega]
          simpa using this
        · exact ownF_set HO.out hne 3 _
        · exact HB.out.setCell (p := ⟨q, 3, none⟩) hB _
        · exact HT.out.setCell ⟨q, 3, none⟩ rfl _
    · obtain rfl : k = s.size := by omega
      have hx : ∀ ty, (Instr.next (.pointer (some ⟨nx, 0, none⟩)) true ty).run Tryz.prog (W.iter s s.size) = .ok (.tuple #[.bool false]) (W.iter s s.size) := fun ty => by
        rw [← hsz.out]; exact run_next_end W s s.size ty (by omega)
      go_wp2
      go_end0
      refine ⟨rfl, ⟨v, hB, ?_, ?_, hne⟩, ?_, ?_⟩
      · unfold World.iter
        rw [Lib.alloc_old _ _ _ (by rw [hsz.out]; exact hq)]
        exact HK.out
      · exact HO.out.alloc _
      · exact HB.out.alloc (by rw [hsz.out]; exact hb0) _
      · exact HT.out.alloc _
end Go.Proofs.YtimmafiodhncgaaGreatDoor.TS2
end
