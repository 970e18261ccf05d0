/- PlacedRec TextWide QB -/
import Derived.Test.YtimmafiodhncgaaGreatDoorM22
import Derived.Test.YtimmafiodhncgaaGreatDoorM23
import Derived.LoopN
import Derived.Lib.OwnKind
import Derived.Test.YtimmafiodhncgaaGreatDoorM3
section
/- lines.Placed and Tree of a record without parts, and of one with one part. -/
set_option linter.unusedVariables false
set_option linter.unusedSimpArgs false
namespace Go.Proofs.YtimmafiodhncgaaGreatDoor.TP2
open Go.RowKit Go.Shelf Go.Proofs.YtimmafiodhncgaaGreatDoorW.PrintWords Go.Proofs.YtimmafiodhncgaaGreatDoorW.PrintMore Go.Proofs.YtimmafiodhncgaaGreatDoor.TB Go.Proofs.YtimmafiodhncgaaGreatDoor.TF Go.Proofs.YtimmafiodhncgaaGreatDoor.TS2

theorem infoStr : (Tryz.prog.info? 9).map (fun i => (i.zero, i.size, i.bytes)) = some (some (.string .empty), 1, 16) := by kernel_rfl
theorem look_empty (m : Nat) (x : ByteArray) (W : World) (h : W.heap[m]? = some (.map #[] 0)) : Sem.run Tryz.prog (Instr.lookup 208 (.map (some m)) (.string x) false) W = .ok (.slice none 0 0) W := by
  have hc : Sem.run Tryz.prog (Instr.checkKey true 10000 9 (.string x)) W = .ok () W := by
    rw [show (10000 : Nat) = 9999 + 1 from rfl, Instr.checkKey]
    simp only [Sem.run_bind, run_underlying Tryz.underlying9, Result.andThen_ok]
    rfl
  have hz : Sem.run Tryz.prog (zeroValue 32) W = .ok (.slice none 0 0) W := Tryz.zeroValue32 W
  unfold Instr.lookup
  simp only [Sem.run_bind, run_underlying Tryz.underlying208, Result.andThen_ok, getObj, Sem.run, h, Result.andThen]
  simp only [Sem.run_bind, Array.isEmpty_empty, hc, Result.andThen_ok, Instr.findKey, run_underlying Tryz.underlying9, Instr.findNow, Sem.run_pure, hz, Array.toList_empty]
  rfl
set_option maxRecDepth 100000 in
theorem repeat_zero (s : ByteArray) (w : World) : Calls Tryz.prog 126 #[.string s, .int .i64 0] w fun e w' => e = .returned (.string ⟨#[]⟩) ∧ w' = w := by
  go_enter Tryz.func126, Tryz.ntmps126
  go_wp2
  go_ret
  exact ⟨rfl, rfl⟩
set_option maxRecDepth 100000 in
theorem repeat_one (s : ByteArray) (w : World) : Calls Tryz.prog 126 #[.string s, .int .i64 1] w fun e w' => e = .returned (.string s) ∧ w' = w := by
  go_enter Tryz.func126, Tryz.ntmps126
  go_wp2
  go_ret
  exact ⟨rfl, rfl⟩
/-- what stands ahead of a line -/
def aheadOf (n : Nat) : ByteArray := if n = 0 then ⟨#[]⟩ else ⟨#[32, 32]⟩
theorem repeat_ahead (n : Nat) (h : n ≤ 1) (w : World) : Calls Tryz.prog 126 #[.string ⟨#[32, 32]⟩, .int .i64 n] w fun e w' => e = .returned (.string (aheadOf n)) ∧ w' = w := by
  rcases (show n = 0 ∨ n = 1 by omega) with rfl | rfl
  · exact repeat_zero _ w
  · exact repeat_one _ w
def layer (pb po ps pl : Nat) : Value := .func (.func 125) #[] #[.pointer (some ⟨pb, 0, none⟩), .pointer (some ⟨po, 0, none⟩), .pointer (some ⟨ps, 0, none⟩), .pointer (some ⟨pl, 0, none⟩)]
/-- what Placed has laid -/
structure Lay (B : Nat) (bp : Value) (pb po ps pl m : Nat) (W : World) : Prop where
  h1 : W.heap[pb]? = some (.cells #[bp] 42 (0, 0))
  h3 : W.heap[ps]? = some (.cells #[.map (some m)] 208 (0, 0))
  h4 : W.heap[m]? = some (.map #[] 0)
  h5 : W.heap[pl]? = some (.cells #[layer pb po ps pl] 127 (0, 0))
  hB : B ≤ W.heap.size
/-- the lines so far -/
def Out (B po : Nat) (v : Value) (xs : List ByteArray) (W : World) : Prop := W.heap[po]? = some (.cells #[v] 32 (0, 0)) ∧ W.ownsRow B 9 1 v xs.length (encs Value.string xs)
theorem Lay.next {B : Nat} {bp : Value} {pb po ps pl m : Nat} {W V : World} (h : Lay B bp pb po ps pl m W) (hb : Below W.heap.size W V) : Lay B bp pb po ps pl m V :=
  ⟨(hb.block _ (size_of_heap h.h1)).trans h.h1, (hb.block _ (size_of_heap h.h3)).trans h.h3, (hb.block _ (size_of_heap h.h4)).trans h.h4, (hb.block _ (size_of_heap h.h5)).trans h.h5, Nat.le_trans h.hB hb.size⟩
theorem Out.next {B po : Nat} {v : Value} {xs : List ByteArray} {W V : World} (h : Out B po v xs W) (hb : Below W.heap.size W V) : Out B po v xs V := ⟨(hb.block _ (size_of_heap h.1)).trans h.1, own_next h.2 hb⟩
def LayIs (B pb po ps pl m : Nat) (bp : Value) (h : Int) (ls : Nat → List ByteArray) (top : Nat) (w : World) : Prop :=
  ∀ (path : ByteArray) (v : Value) (xs : List ByteArray) (W : World), Below B w W → path.size ≤ top → xs.length ≤ 1000 + top → Lay B bp pb po ps pl m W → Out B po v xs W →
    Calls Tryz.prog 125 #[.int .i64 h, .string path, .pointer (some ⟨pb, 0, none⟩), .pointer (some ⟨po, 0, none⟩), .pointer (some ⟨ps, 0, none⟩), .pointer (some ⟨pl, 0, none⟩)] W fun e w' =>
      e = .returned (.tuple #[]) ∧ ∃ v', Lay B bp pb po ps pl m w' ∧ Out B po v' (xs ++ ls path.size) w' ∧ Below B W w'
/-- one line more -/
theorem lay_step {B : Nat} {bp : Value} {pb po ps pl m : Nat} {v v' : Value} {xs : List ByteArray} {t : ByteArray} {W w2 : World} (hL : Lay B bp pb po ps pl m W) (hO : Out B po v xs W) (hBo : B ≤ po) (d1 : pb ≠ po) (d3 : ps ≠ po) (d4 : m ≠ po) (d5 : pl ≠ po)
    (ho : w2.ownsRow B 9 1 v' (xs.length + 1) (encs Value.string xs ++ [.string t])) (hg : (W.alloc (.cells #[.string t] 9)).grownBy w2 v.ownBlock) :
    w2.cell? ⟨po, 0, none⟩ = some v ∧ w2.frozen? ⟨po, 0, none⟩ = false ∧ Lay B bp pb po ps pl m (w2.setCell ⟨po, 0, none⟩ v') ∧ Out B po v' (xs ++ [t]) (w2.setCell ⟨po, 0, none⟩ v') ∧ Below B W (w2.setCell ⟨po, 0, none⟩ v') := by
  have hst : ∀ (k : Nat) (o : Obj), W.heap[k]? = some o → (∀ c, o ≠ Obj.cells c 9 (0, 0)) → w2.heap[k]? = some o := fun k o hk hne => by
    have hlt := size_of_heap hk
    refine (hg.block k (by rw [World.size_alloc]; omega) (fun e => ?_)).trans ((Lib.alloc_old _ _ _ hlt).trans hk)
    obtain ⟨c, hc⟩ := own_typed hO.2 e.symm
    rw [hk] at hc
    exact hne c (Option.some.inj hc)
  have k2 := hst po _ hO.1 (fun c e => by injection e with _ e2; exact absurd e2 (by decide))
  have e1 := hst pb _ hL.h1 (fun c e => by injection e with _ e2; exact absurd e2 (by decide))
  have e3 := hst ps _ hL.h3 (fun c e => by injection e with _ e2; exact absurd e2 (by decide))
  have e4 := hst m _ hL.h4 (fun c e => by cases e)
  have e5 := hst pl _ hL.h5 (fun c e => by injection e with _ e2; exact absurd e2 (by decide))
  have hsz : B ≤ w2.heap.size := Nat.le_trans hL.hB (Nat.le_trans (by rw [World.size_alloc]; omega) hg.size)
  have far : ∀ k, k ≠ po → (w2.setCell ⟨po, 0, none⟩ v').heap[k]? = w2.heap[k]? := fun k hk => Below.heap_setCell w2 ⟨po, 0, none⟩ v' k hk
  refine ⟨by rw [Lib.cell_of_heap k2]; rfl, Lib.frozen_of_heap k2 0, ⟨(far _ d1).trans e1, (far _ d3).trans e3, (far _ d4).trans e4, (far _ d5).trans e5, by rw [World.size_setCell]; exact hsz⟩, ⟨?_, ?_⟩, ?_⟩
  · have := set_row k2 0 v'
    simpa using this
  · refine own_fr (S := fun k => k = po) (W := w2) (V := w2.setCell ⟨po, 0, none⟩ v') ?_ ((Fr.refl (fun k => k = po) w2).set (p := ⟨po, 0, none⟩) (.inl rfl) v') (fun k hk e => ?_)
    · have : encs Value.string (xs ++ [t]) = encs Value.string xs ++ [.string t] := by unfold encs; rw [List.map_append]; rfl
      rw [this, List.length_append]
      exact ho
    · subst e
      obtain ⟨c, hc⟩ := own_typed ho hk
      rw [k2] at hc
      injection hc with hc
      injection hc with _ e2
      exact absurd e2 (by decide)
  · refine ((((Below.refl B W).alloc hL.hB (.cells #[.string t] 9)).grown hg (by rw [World.size_alloc]; have := hL.hB; omega) (fun k e => ?_))).setCell (p := ⟨po, 0, none⟩) hBo _
    rcases hO.2.2 with ⟨rfl, _⟩ | ⟨g, cap, cur, rfl, hg', _⟩
    · simp [Value.ownBlock] at e
    · have : g = k := by simpa [Value.ownBlock] using e
      omega
set_option maxHeartbeats 2000000 in
set_option maxRecDepth 100000 in
theorem lay_leaf (B pb po ps pl m : Nat) (bp : Value) (h : Int) (x : ByteArray) (w : World) (hO : OwnIs B bp h x [] w) (hx : x.size ≤ 100000) (hBo : B ≤ po) (d1 : pb ≠ po) (d3 : ps ≠ po) (d4 : m ≠ po) (d5 : pl ≠ po) :
    LayIs B pb po ps pl m bp h (fun n => [aheadOf n ++ x]) 1 w := by
  intro path v xs W hW hp hxs hL hU
  obtain ⟨i0, hi, hz0, hz1, hz2⟩ := info_parts infoStr
  have HO := Aside0.mk (hO W hW)
  have c1 : W.cell? ⟨pb, 0, none⟩ = some bp := by rw [Lib.cell_of_heap hL.h1]; rfl
  have HL := Aside0.mk hL
  have HU := Aside0.mk hU
  have HW := Aside0.mk hW
  clear hL hU hO hW
  go_enter Tryz.func125, Tryz.ntmps125
  go_wp2_with (go_at_call 121; (with_reducible refine HO.out.mono ?_))
  rintro e w1 ⟨B', d', rfl, -, hb⟩
  have hL1 := HL.out.next hb
  have hU1 := HU.out.next hb
  have c2 : w1.cell? ⟨po, 0, none⟩ = some v := by rw [Lib.cell_of_heap hU1.1]; rfl
  have HL1 := Aside0.mk hL1
  have HU1 := Aside0.mk hU1
  have HB1 := Aside0.mk (hb.mono HL.out.hB)
  have hOw := hU1.2
  have hB1 := hL1.hB
  obtain ⟨l, hl⟩ : ∃ l, path.size = l := ⟨_, rfl⟩
  rw [hl] at hp
  have hal : (aheadOf l).size ≤ 2 := by unfold aheadOf; split <;> decide
  clear hL1 hU1 hb HL HU HO c1
  go_wp2_with (first | (go_at_call 126; (with_reducible refine (repeat_ahead l hp _).mono ?_); rintro e w' ⟨rfl, rfl⟩) | (at_builtin; refine wpList_append_own _ rfl _ _ 32 rfl B 9 i0 (.string .empty) 1 16 Tryz.underlying32 hi hz0 hz1 hz2 rfl (by decide) _ _ _ rfl (hOw.alloc _) ⟨_, 0, none⟩ 1 1 [.string (aheadOf l ++ x)] rfl rfl ?c1 ?c2 ?c3 ?c4 ?c5 ?_))
  case c1 =>
    intro j u hj
    match j, hj with
    | 0, hj => simp at hj; subst hj; simp [Addr.add]
  case c2 => intro u hu; simp at hu; subst hu; rfl
  case c3 => unfold maxLen; omega
  case c4 => omega
  case c5 => rw [World.size_alloc]; omega
  intro v' w2 hown hgrow _
  obtain ⟨A', c', rfl⟩ := TF.own_slice hown
  obtain ⟨k2, f2, hL2, hU2, hB2⟩ := lay_step HL1.out HU1.out hBo d1 d3 d4 d5 hown hgrow
  have d3' : (w2.setCell ⟨po, 0, none⟩ (.slice A' (xs.length + 1) c')).cell? ⟨ps, 0, none⟩ = some (.map (some m)) := by rw [Lib.cell_of_heap hL2.h3]; rfl
  have hlk := look_empty m path (w2.setCell ⟨po, 0, none⟩ (.slice A' (xs.length + 1) c')) hL2.h4
  have HL2 := Aside0.mk hL2
  have HU2 := Aside0.mk hU2
  have HB2 := Aside0.mk (HB1.out.trans hB2)
  clear hL2 hU2 hB2 hown hgrow HL1 HU1 HB1 hOw c2 hB1
  go_wp2
  refine wp_loop_rounds 1 ?_
  unfold Code.rounds
  go_wp2
  refine wp_loop_rounds 1 ?_
  unfold Code.rounds
  go_wp2
  go_end0
  exact ⟨rfl, HL2.out, ⟨_, HU2.out⟩, HB2.out⟩
set_option maxHeartbeats 2000000 in
set_option maxRecDepth 100000 in
theorem lay_one (B pb po ps pl m : Nat) (bp : Value) (h p : Int) (x y : ByteArray) (w : World) (hO : OwnIs B bp h x [p] w) (hN : LayIs B pb po ps pl m bp p (fun n => [aheadOf n ++ y]) 1 w) (hx : x.size ≤ 100000) (hBo : B ≤ po) (d1 : pb ≠ po) (d3 : ps ≠ po) (d4 : m ≠ po) (d5 : pl ≠ po) :
    LayIs B pb po ps pl m bp h (fun n => [aheadOf n ++ x, aheadOf (n + 1) ++ y]) 0 w := by
  intro path v xs W hW hp hxs hL hU
  obtain ⟨i0, hi, hz0, hz1, hz2⟩ := info_parts infoStr
  have HO := Aside0.mk (hO W hW)
  have c1 : W.cell? ⟨pb, 0, none⟩ = some bp := by rw [Lib.cell_of_heap hL.h1]; rfl
  have HL := Aside0.mk hL
  have HU := Aside0.mk hU
  have HW := Aside0.mk hW
  have HN := Aside0.mk hN
  clear hL hU hO hW hN
  go_enter Tryz.func125, Tryz.ntmps125
  go_wp2_with (go_at_call 121; (with_reducible refine HO.out.mono ?_))
  rintro e w1 ⟨B', d', rfl, ho, hb⟩
  obtain ⟨g, rfl, hg, cells, hgc⟩ := TS2.own_first (x := .int .i64 p) ho
  have hL1 := HL.out.next hb
  have hU1 := HU.out.next hb
  have c2 : w1.cell? ⟨po, 0, none⟩ = some v := by rw [Lib.cell_of_heap hU1.1]; rfl
  have HL1 := Aside0.mk hL1
  have HU1 := Aside0.mk hU1
  have HB1 := Aside0.mk (hb.mono HL.out.hB)
  have hOw := hU1.2
  have hB1 := hL1.hB
  have hgpo : g ≠ po := by
    rintro rfl
    have := hU1.1
    rw [hgc] at this; cases this
  have hgl : g < w1.heap.size := size_of_heap hgc
  obtain ⟨l, hl⟩ : ∃ l, path.size = l := ⟨_, rfl⟩
  rw [hl] at hp
  obtain rfl : l = 0 := by omega
  have hal : (aheadOf 0).size ≤ 2 := by decide
  have hrp : ∀ W, Calls Tryz.prog 126 #[.string ⟨#[32, 32]⟩, .int .i64 0] W fun e w' => e = .returned (.string (aheadOf 0)) ∧ w' = W := fun W => repeat_ahead 0 (by omega) W
  clear hL1 hU1 hb HL HU HO c1 ho
  go_wp2_with (first | (go_at_call 126; (with_reducible refine (hrp _).mono ?_); rintro e w' ⟨rfl, rfl⟩) | (at_builtin; refine wpList_append_own _ rfl _ _ 32 rfl B 9 i0 (.string .empty) 1 16 Tryz.underlying32 hi hz0 hz1 hz2 rfl (by decide) _ _ _ rfl (hOw.alloc _) ⟨_, 0, none⟩ 1 1 [.string (aheadOf 0 ++ x)] rfl rfl ?c1 ?c2 ?c3 ?c4 ?c5 ?_))
  case c1 =>
    intro j u hj
    match j, hj with
    | 0, hj => simp at hj; subst hj; simp [Addr.add]
  case c2 => intro u hu; simp at hu; subst hu; rfl
  case c3 => unfold maxLen; omega
  case c4 => omega
  case c5 => rw [World.size_alloc]; omega
  intro v' w2 hown hgrow _
  obtain ⟨A', c', rfl⟩ := TF.own_slice hown
  obtain ⟨k2, f2, hL2, hU2, hB2⟩ := lay_step HL1.out HU1.out hBo d1 d3 d4 d5 hown hgrow
  have d3' : (w2.setCell ⟨po, 0, none⟩ (.slice A' (xs.length + 1) c')).cell? ⟨ps, 0, none⟩ = some (.map (some m)) := by rw [Lib.cell_of_heap hL2.h3]; rfl
  have hlk := look_empty m path (w2.setCell ⟨po, 0, none⟩ (.slice A' (xs.length + 1) c')) hL2.h4
  have HL2 := Aside0.mk hL2
  have HU2 := Aside0.mk hU2
  have HB2 := Aside0.mk (HB1.out.trans hB2)
  have g3 : (w2.setCell ⟨po, 0, none⟩ (.slice A' (xs.length + 1) c')).cell? ⟨g, 0, none⟩ = some (.int .i64 p) := by
    refine (World.cell?_of_block ?_).trans hg
    refine (Below.heap_setCell w2 ⟨po, 0, none⟩ _ g hgpo).trans ((hgrow.block g (by rw [World.size_alloc]; omega) (fun e => ?_)).trans (Lib.alloc_old _ _ _ hgl))
    obtain ⟨cc, hc⟩ := own_typed HU1.out.2 e.symm
    rw [hgc] at hc
    cases hc
  have d5' : (w2.setCell ⟨po, 0, none⟩ (.slice A' (xs.length + 1) c')).cell? ⟨pl, 0, none⟩ = some (layer pb po ps pl) := by rw [Lib.cell_of_heap hL2.h5]; rfl
  unfold layer at d5'
  clear hL2 hU2 hB2 hown hgrow hg hgc HL1 HU1 HB1 hOw c2 hB1
  go_wp2
  refine wp_loop_rounds 1 ?_
  unfold Code.rounds
  go_wp2
  refine wp_loop_rounds 2 ?_
  unfold Code.rounds
  obtain ⟨W3, hW3⟩ : ∃ W3, w2.setCell ⟨po, 0, none⟩ (.slice A' (xs.length + 1) c') = W3 := ⟨_, rfl⟩
  rw [hW3] at g3 d5' HL2 HU2 HB2 hlk ⊢
  have hcv := conv_zero W3
  have hba := (Below.refl _ W3).alloc (Nat.le_refl _) (.cells #[.int .u8 0] 5)
  have hz1 : (path ++ ⟨#[0]⟩).size = 1 := by rw [ByteArray.size_append, hl]; rfl
  have hBA := HB2.out.alloc HL2.out.hB (.cells #[.int .u8 0] 5)
  have hc := HN.out (path ++ ⟨#[0]⟩) _ (xs ++ [aheadOf 0 ++ x]) (W3.alloc (.cells #[.int .u8 0] 5)) (HW.out.trans hBA) (by rw [hz1]; exact Nat.le_refl _) (by rw [List.length_append]; show xs.length + 1 ≤ 1001; omega) (HL2.out.next hba) (HU2.out.next hba)
  rw [hz1] at hc
  have HC := Aside0.mk hc
  have HBA := Aside0.mk hBA
  clear hW3 k2 f2 hlk d3' hc hBA hba hz1
  go_wp2_with (go_at_call 125; (with_reducible refine HC.out.mono ?_))
  rintro e w4 rfl h4 v4 u4 b4
  have HL4 := Aside0.mk h4
  have HU4 := Aside0.mk u4
  have HB4 := Aside0.mk (HBA.out.trans b4)
  clear h4 u4 b4 HC HBA hcv g3 d5'
  go_wp2_with (fail)
  unfold Code.rounds
  go_wp2_with (fail)
  go_end0
  exact ⟨rfl, HL4.out, ⟨_, HU4.out⟩, HB4.out⟩
theorem make_map (W : World) : Sem.run Tryz.prog (Instr.makeMap 208 Option.none) W = .ok (.map (some W.heap.size)) (W.alloc (.map #[] 0)) := by
  rfl
theorem run_store_func {P : Program} {w : World} {a : Addr} {m : Mode} (f : Fn) (x y : Array Value) : (store a (.func f x y) m).run P w = stored P w a (.func f x y) m := run_store P w a _ m rfl
attribute [local go_sem] run_store_func
set_option maxHeartbeats 2000000 in
set_option maxRecDepth 100000 in
theorem placed_gen (b : Nat) (h : Int) (ls : Nat → List ByteArray) (top : Nat) (w : World)
    (hk : ∀ W, Below w.heap.size w W → Calls Tryz.prog 64 #[.pointer (some ⟨b, 0, none⟩), .int .i64 h] W fun e w' => e = .returned (.int .i64 0) ∧ w' = W)
    (hN : ∀ pb po ps pl m, w.heap.size ≤ po → pb ≠ po → ps ≠ po → m ≠ po → pl ≠ po → LayIs w.heap.size pb po ps pl m (.pointer (some ⟨b, 0, none⟩)) h ls top w) :
    Calls Tryz.prog 67 #[.pointer (some ⟨b, 0, none⟩), .int .i64 h, .slice none 0 0] w fun e w' => ∃ v, e = .returned (.tuple #[v, .int .i64 0]) ∧ w'.ownsRow w.heap.size 9 1 v (ls 0).length (encs Value.string (ls 0)) ∧ Below w.heap.size w w' := by
  obtain ⟨n0, hn0⟩ : ∃ n0, w.heap.size = n0 := ⟨_, rfl⟩
  have hb0 : Below w.heap.size w (w.alloc (.cells #[.pointer (some ⟨b, 0, none⟩)] 42)) := (Below.refl _ w).alloc (Nat.le_refl _) _
  have HK := Aside0.mk (hk _ hb0)
  have HP := Aside0.mk (show (w.alloc (.cells #[.pointer (some ⟨b, 0, none⟩)] 42)).heap[n0]? = some (.cells #[.pointer (some ⟨b, 0, none⟩)] 42 (0, 0)) from by rw [← hn0]; exact World.alloc_heap_new w _)
  have HS := Aside0.mk (show (w.alloc (.cells #[.pointer (some ⟨b, 0, none⟩)] 42)).heap.size = n0 + 1 from by rw [World.size_alloc, hn0])
  rw [hn0] at hb0 hN
  have HB := Aside0.mk hb0
  have HN := Aside0.mk hN
  clear hk hb0 hN
  go_enter Tryz.func67, Tryz.ntmps67
  go_wp2_with (go_at_call 64; (with_reducible refine HK.out.mono ?_); rintro e w' ⟨rfl, rfl⟩)
  obtain ⟨w1, hw1⟩ : ∃ w1, w.alloc (.cells #[.pointer (some ⟨b, 0, none⟩)] 42) = w1 := ⟨_, rfl⟩
  rw [hw1] at HP HS HB ⊢
  have hs1 := HS.out
  clear HK HS
  rw [make_map]
  simp only [Result.andThen]
  rw [Oper.upon_value]
  obtain ⟨n1, hn1⟩ : ∃ n1, w1.heap.size = n1 := ⟨_, rfl⟩
  have hle : n0 < n1 := by omega
  clear hs1
  go_wp2
  refine wp_loop_rounds 1 ?_
  unfold Code.rounds
  go_wp2_with (fail)
  obtain ⟨VA, hVA⟩ : ∃ VA, w1.alloc (.map #[] 0) = VA := ⟨_, rfl⟩
  obtain ⟨VB, hVB⟩ : ∃ VB, VA.alloc (.cells #[.map (some n1)] 208) = VB := ⟨_, rfl⟩
  obtain ⟨VC, hVC⟩ : ∃ VC, VB.alloc (.cells #[.slice none 0 0] 32) = VC := ⟨_, rfl⟩
  obtain ⟨VD, hVD⟩ : ∃ VD, VC.alloc (.cells #[.func (.func 125) #[] #[.pointer (some ⟨n0, 0, none⟩), .pointer (some ⟨n1 + 1 + 1, 0, none⟩), .pointer (some ⟨n1 + 1, 0, none⟩), .pointer (some ⟨n1 + 1 + 1 + 1, 0, none⟩)]] 127) = VD := ⟨_, rfl⟩
  have sA : VA.heap.size = n1 + 1 := by rw [← hVA, World.size_alloc, hn1]
  have sB : VB.heap.size = n1 + 1 + 1 := by rw [← hVB, World.size_alloc, sA]
  have sC : VC.heap.size = n1 + 1 + 1 + 1 := by rw [← hVC, World.size_alloc, sB]
  have sD : VD.heap.size = n1 + 1 + 1 + 1 + 1 := by rw [← hVD, World.size_alloc, sC]
  have oB : ∀ k, k < n1 + 1 → VB.heap[k]? = VA.heap[k]? := fun k hk => by rw [← hVB]; exact Lib.alloc_old _ _ _ (by rw [sA]; exact hk)
  have oC : ∀ k, k < n1 + 1 + 1 → VC.heap[k]? = VB.heap[k]? := fun k hk => by rw [← hVC]; exact Lib.alloc_old _ _ _ (by rw [sB]; exact hk)
  have oD : ∀ k, k < n1 + 1 + 1 + 1 → VD.heap[k]? = VC.heap[k]? := fun k hk => by rw [← hVD]; exact Lib.alloc_old _ _ _ (by rw [sC]; exact hk)
  have h4 : VD.heap[n1]? = some (.map #[] 0) := by
    rw [oD n1 (by omega), oC n1 (by omega), oB n1 (by omega), ← hVA, ← hn1]
    exact World.alloc_heap_new w1 _
  have h3 : VD.heap[n1 + 1]? = some (.cells #[.map (some n1)] 208 (0, 0)) := by
    rw [oD _ (by omega), oC _ (by omega), ← hVB, ← sA]
    exact World.alloc_heap_new VA _
  have h2 : VD.heap[n1 + 1 + 1]? = some (.cells #[.slice none 0 0] 32 (0, 0)) := by
    rw [oD _ (by omega), ← hVC, ← sB]
    exact World.alloc_heap_new VB _
  have h1 : VD.heap[n0]? = some (.cells #[.pointer (some ⟨b, 0, none⟩)] 42 (0, 0)) := by
    rw [oD _ (by omega), oC _ (by omega), oB _ (by omega), ← hVA, Lib.alloc_old _ _ _ (by rw [hn1]; exact hle)]
    exact HP.out
  have h5 : VD.heap[n1 + 1 + 1 + 1]? = some (.cells #[layer n0 (n1 + 1 + 1) (n1 + 1) (n1 + 1 + 1 + 1)] 127 (0, 0)) := by
    rw [← hVD, ← sC]
    unfold layer
    rw [sC]
    exact sC ▸ World.alloc_heap_new VC _
  have hBD : Below n0 w VD := by
    rw [← hVD, ← hVC, ← hVB, ← hVA]
    exact (((HB.out.alloc (by rw [hn1]; omega) _).alloc (by rw [World.size_alloc, hn1]; omega) _).alloc (by rw [World.size_alloc, World.size_alloc, hn1]; omega) _).alloc (by rw [World.size_alloc, World.size_alloc, World.size_alloc, hn1]; omega) _
  have hcall := HN.out n0 (n1 + 1 + 1) (n1 + 1) (n1 + 1 + 1 + 1) n1 (by omega) (by omega) (by omega) (by omega) (by omega) ⟨#[]⟩ (.slice none 0 0) [] VD hBD (Nat.zero_le _) (Nat.zero_le _) ⟨h1, h3, h4, h5, by rw [sD]; omega⟩ ⟨h2, World.ownsRow_nil _ _ _ _⟩
  rw [hVA, hVB, hVC, hVD]
  have HD := Aside0.mk hBD
  clear hVA hVB hVC hVD sA sB sC oB oC oD hBD HB HP HN h1 h2 h3 h4 h5
  refine hcall.mono ?_
  rintro e w5 ⟨rfl, v, hL5, hU5, hB5⟩
  have c5 : w5.cell? ⟨n1 + 1 + 1, 0, none⟩ = some v := by rw [Lib.cell_of_heap hU5.1]; rfl
  have HU5 := Aside0.mk hU5
  have HB5 := Aside0.mk (HD.out.trans hB5)
  clear hL5 hU5 hB5 HD
  go_wp2
  go_ret2
  refine ⟨v, rfl, ?_, ?_⟩
  · have := HU5.out.2
    rw [List.nil_append] at this
    rw [hn0]
    exact this
  · rw [hn0]
    exact HB5.out
theorem tree_gen (b : Nat) (h : Int) (ls : Nat → List ByteArray) (top : Nat) (w : World)
    (hk : ∀ W, Below w.heap.size w W → Calls Tryz.prog 64 #[.pointer (some ⟨b, 0, none⟩), .int .i64 h] W fun e w' => e = .returned (.int .i64 0) ∧ w' = W)
    (hN : ∀ pb po ps pl m, w.heap.size ≤ po → pb ≠ po → ps ≠ po → m ≠ po → pl ≠ po → LayIs w.heap.size pb po ps pl m (.pointer (some ⟨b, 0, none⟩)) h ls top w) :
    Calls Tryz.prog 37 #[.pointer (some ⟨b, 0, none⟩), .int .i64 h] w fun e w' => ∃ v, e = .returned (.tuple #[v, .int .i64 0]) ∧ w'.ownsRow w.heap.size 9 1 v (ls 0).length (encs Value.string (ls 0)) ∧ Below w.heap.size w w' := by
  have HP := Aside0.mk (placed_gen b h ls top w hk hN)
  clear hk hN
  go_enter Tryz.func37, Tryz.ntmps37
  go_wp2_with (go_at_call 67; (with_reducible refine HP.out.mono ?_))
  rintro e w1 ⟨v, rfl, h1, h2⟩
  have H1 := Aside0.mk h1
  clear h1 HP
  go_wp2
  go_ret2
  exact ⟨_, rfl, H1.out, h2⟩
/-- Tree of a record with one part that has none -/
theorem tree_one (b g c : Nat) (L : List TK.RowD) (j i : Nat) (r s : TK.RowD) (x y : ByteArray) (w : World) (h : TK.Bk b (.slice (some ⟨g, 0, none⟩) L.length c) L w) (hj : L[j]? = some r) (hi : L[i]? = some s) (hl : L.length ≤ 65536) (hp : r.ps = [(i : Int) + 1]) (hs : s.ps = [])
    (h1 : r.its.length ≤ 65536) (h2 : s.its.length ≤ 65536) (htab : TW.Tab w) (hxs : x.size ≤ 100000) (hys : y.size ≤ 100000)
    (hx : ∀ A' c' B' d' W, TW.Tab W → Calls Tryz.prog 151 #[TW.spec r.k r.nl r.t r.n r.sm r.re r.im r.fl r.mask (.slice A' r.its.length c') (.slice B' r.ps.length d')] W fun e w' => e = .returned (.string x) ∧ Below W.heap.size W w')
    (hy : ∀ A' c' B' d' W, TW.Tab W → Calls Tryz.prog 151 #[TW.spec s.k s.nl s.t s.n s.sm s.re s.im s.fl s.mask (.slice A' s.its.length c') (.slice B' s.ps.length d')] W fun e w' => e = .returned (.string y) ∧ Below W.heap.size W w') :
    Calls Tryz.prog 37 #[.pointer (some ⟨b, 0, none⟩), .int .i64 ((j : Int) + 1)] w fun e w' => ∃ v, e = .returned (.tuple #[v, .int .i64 0]) ∧ w'.ownsRow w.heap.size 9 1 v 2 (encs Value.string [aheadOf 0 ++ x, aheadOf 1 ++ y]) ∧ Below w.heap.size w w' := by
  have o1 := ownIs b g c L j r x w h hj hl h1 (by rw [hp]; simp) htab hx
  have o2 := ownIs b g c L i s y w h hi hl h2 (by rw [hs]; simp) htab hy
  rw [hp] at o1
  rw [hs] at o2
  exact tree_gen b ((j : Int) + 1) (fun n => [aheadOf n ++ x, aheadOf (n + 1) ++ y]) 0 w (fun W hW => known_ok b g c L j r W (h.next hW) hj hl) fun pb po ps pl m hBo d1 d3 d4 d5 =>
    lay_one _ pb po ps pl m _ _ _ x y w o1 (lay_leaf _ pb po ps pl m _ _ y w o2 hys hBo d1 d3 d4 d5) hxs hBo d1 d3 d4 d5
end Go.Proofs.YtimmafiodhncgaaGreatDoor.TP2
end
section
/- Small words on runes: without text.Width, where that is not in the program's cut. -/
set_option linter.unusedVariables false
set_option linter.unusedSimpArgs false
namespace Go.Proofs.YtimmafiodhncgaaGreatDoor.TR
open Go.RowKit Go.Shelf Go.Lib Go.Proofs.YtimmafiodhncgaaGreatDoor.TS Go.Proofs.YtimmafiodhncgaaGreatDoorW.PrintWords
attribute [local go_sem] Oper.semAt_some

def wideI (r : Int) : Int := if r < 32 ∨ r = 127 then 4 else if r = 92 then 2 else 1
/-- the width of what has come -/
def sumW (l : List (Nat × Int)) : Int := (l.map fun x => wideI x.2).sum
theorem runes_le (s : ByteArray) : (runes s.data.toList).length ≤ s.size := by
  unfold runes; rw [runesFrom_length]; exact Nat.le_trans (pieces_length _) (by rw [bytes_length]; exact Nat.le_refl _)
theorem hmx : Tryz.prog.follows .mixedOrders = true := by kernel_rfl

end Go.Proofs.YtimmafiodhncgaaGreatDoor.TR
end
section
-- Written by wip/tools/myprint.py of this seat's repo: the kit's print, with contracts of our own for some functions.
namespace Go.Proofs.YtimmafiodhncgaaGreatDoor.QB
open Go.RowKit Go.Proofs.YtimmafiodhncgaaGreatDoorW.PrintWords Go.Proofs.YtimmafiodhncgaaGreatDoorW.PrintLast Go.Proofs.YtimmafiodhncgaaGreatDoorW.PrintMore
attribute [local go_sem] max2_int min2_int max_two min_two max_three min_three max_four min_four   -- for this text's walks alone
set_option linter.unusedVariables false
set_option linter.unusedSimpArgs false

end Go.Proofs.YtimmafiodhncgaaGreatDoor.QB
end
