/- The statement 'for i, r := range text.Runes(s)' once more: the body is told that its rune is the next one. -/
import Derived.Test.YtifbplmejbnofaaGreatDoorRunesLaw
set_option linter.unusedVariables false
set_option linter.unusedSimpArgs false
namespace Go.Proofs.YtifbplmejbnofaaGreatDoor.TR
open Go.RowKit Go.Shelf Go.Lib Go.Proofs.YtifbplmejbnofaaGreatDoor.TS Go.Proofs.YtifbplmejbnofaaGreatDoorW.PrintWords

set_option maxRecDepth 100000 in
set_option maxHeartbeats 2000000 in
theorem runes1_next (n : Nat) (hn : 1 ≤ n) (l Bn : Nat) (s : ByteArray) (J Jx : List (Nat × Int) → World → Prop)
    (W : World) (hJ : AbidesFrom W.heap.size J)
    (hY : ∀ (pre : List (Nat × Int)) (i : Nat) (r : Int) (W : World), J pre W → pre ++ [(i, r)] <+: runes s.data.toList → YieldAt Fence.wide (n - 1) Tryz.prog l #[.int .i64 i, .int .i32 r] W fun e W' =>
      (e = .returned (.bool true) ∧ J (pre ++ [(i, r)]) W' ∧ KpB Bn s W W') ∨ (e = .returned (.bool false) ∧ Jx (pre ++ [(i, r)]) W'))
    (hBn : W.cell? ⟨Bn, 0, none⟩ = some (.string s)) (h0 : J [] W) :
    CallsIn Fence.wide n Tryz.prog 73 #[.func (.yield l) #[] #[], .pointer (some ⟨Bn, 0, none⟩)] W fun e W' => (∃ v, e = .returned v) ∧
      (J (runes s.data.toList) W' ∨ (∃ pre, pre <+: runes s.data.toList ∧ Jx pre W')) := by
  refine callsIn_of_wp Tryz.func73 rfl trivial ?_ rfl
  simp only [Tryz.ntmps73, List.size_toArray, List.length_cons, List.length_nil, Nat.reduceAdd, Nat.reduceSub, Array.replicate_succ, Array.replicate_zero, List.push_toArray, List.append_toArray, List.nil_append, List.cons_append]
  gi_wp2
  have hBlt : Bn < W.heap.size := World.block_lt_of_cell? W _ hBn
  have hcall : ∀ (i : Nat) (w : World), i < s.size → CallsIn Fence.wide (n - 1) Tryz.prog 74 #[.string s, .int .i64 i, .int .i32 (Utf8.decode s i).1] w fun e w' => e = .returned (.bool (take1 (s.data.toList.drop i)).1.isNone) ∧ ∃ m, w' = w.drewN m := by
    intro i w hi
    refine callsIn_wide.2 ((YtifbplmejbnofaaGreatDoor.QB.text_broken.calls s i _ _ w (broken_eq s i hi)).mono ?_)
    rintro e w' ⟨he, hd⟩
    exact ⟨he, hd.out⟩
  gi_loopw [3] (fun _ wr => ∃ (pre : List (Nat × Int)) (pos : Nat), wr.heap[W.heap.size]? = some (.stringIter s pos) ∧ runes s.data.toList = pre ++ runesFrom pos (pieces (s.data.toList.drop pos)) ∧ J pre wr ∧ wr.cell? ⟨Bn, 0, none⟩ = some (.string s))
    (fun _ wr => s.size - wr.iterPos W.heap.size)
  case atStart =>
    refine ⟨[], 0, World.iter_heap W s 0, by simp [runes], ?_, (((Below.refl W.heap.size W).alloc (Nat.le_refl _) _).cell (p := ⟨Bn, 0, none⟩) hBlt).trans hBn⟩
    exact hJ [] W _ none h0 (World.grownBy_alloc W _ none) (fun r e => by cases e)
  case round =>
    obtain ⟨pre, pos, hit, hx, hJs, hc⟩ := hrel
    have hpos := iterPos_of hit
    by_cases hp : pos < s.size
    · obtain ⟨wn, hwn⟩ : ∃ wn, wr.iterAt W.heap.size s (pos + (Utf8.decode s pos).2) = wn := ⟨_, rfl⟩
      obtain ⟨c, hc0⟩ : ∃ c, (Utf8.decode s pos).1 = c := ⟨_, rfl⟩
      obtain ⟨q, hq⟩ : ∃ q, (take1 (s.data.toList.drop pos)).1 = q := ⟨_, rfl⟩
      have hnx : ∀ ty, (Instr.next (.pointer (some ⟨W.heap.size, 0, none⟩)) true ty).run Tryz.prog wr = .ok (.tuple #[.bool true, .int .i64 pos, .int .i32 c]) wn := fun ty => by
        rw [← hwn, ← hc0]; exact run_next_any_at wr W.heap.size s pos ty hit hp
      rw [runesFrom_step s pos hp, hq] at hx
      have hnext : pre ++ [(pos, rn q)] <+: runes s.data.toList := by rw [hx]; exact ⟨_, by rw [List.append_assoc]; rfl⟩
      have hJ2 : ∀ m, J pre (wn.drewN m) := fun m => by
        rw [← hwn]
        exact hJ pre _ _ none (hJ pre _ _ _ hJs (iterAt_grown wr W.heap.size s _) (fun r e => by cases e; exact ⟨Nat.le_refl _, _, hit, rfl⟩)) (grown_drewN _ m) (fun r e => by cases e)
      have hi2 : ∀ m, (wn.drewN m).heap[W.heap.size]? = some (.stringIter s (pos + (Utf8.decode s pos).2)) := fun m => by rw [← hwn]; exact iterAt_heap wr W.heap.size s pos _ hit
      have hc1 : wn.cell? ⟨Bn, 0, none⟩ = some (.string s) := by rw [← hwn]; exact (World.cell?_of_block (iterAt_other wr W.heap.size Bn s _ (by omega))).trans hc
      have hc2 : ∀ m, (wn.drewN m).cell? ⟨Bn, 0, none⟩ = some (.string s) := fun _ => hc1
      have hw := width_pos s pos
      have hcl := hcall pos wn hp
      rw [hq, hc0] at hcl
      have hd : (c : Int) = ((q.getD 65533 : Nat) : Int) := by rw [← hc0, decode_eq, hq]
      have HX := Lib.hid hx
      have HP := Lib.hid hpos
      have HD := Lib.hid hd
      have HN := Lib.hid hwn
      clear hx hpos hJs hd hwn hq hc0 hc
      cases q with
      | none =>
        gi_wp2_with (refine ⟨trivial, ?_⟩; gi_at_call 74; refine hcl.mono ?_; rintro e w' ⟨rfl, m, rfl⟩)
        obtain ⟨fn, tmps, assign, body, hy, hR⟩ := hY pre pos (rn none) (wn.drewN m) (hJ2 m) hnext
        dsimp only [rn] at hy
        rw [hy]
        gi_wp2
        refine hR.mono ?_
        rintro e W3 (⟨rfl, hJ3, hk3⟩ | ⟨rfl, hJx3⟩)
        · have hi3 := hk3.2.same _ _ (hi2 m) rfl
          have hp3 := iterPos_of hi3
          gi_wp2
          go_roundw
          case rel => exact ⟨_, pos + (Utf8.decode s pos).2, hi3, HX.out.trans (by rw [List.append_assoc]; rfl), hJ3, hk3.1 (hc2 m)⟩
          case measure => rw [HP.out, hp3]; omega
        · gi_wp2
          refine bodyPost_ret (results_none rfl _ _ _) rfl ?_
          exact ⟨⟨_, rfl⟩, .inr ⟨_, hnext, hJx3⟩⟩
      | some r =>
        gi_wp2_with (refine ⟨trivial, ?_⟩; gi_at_call 74; refine hcl.mono ?_; rintro e w' ⟨rfl, m, rfl⟩)
        obtain ⟨fn, tmps, assign, body, hy, hR⟩ := hY pre pos (rn (some r)) (wn.drewN m) (hJ2 m) hnext
        dsimp only [rn] at hy
        obtain rfl : c = r := by have := HD.out; simp at this; omega
        rw [hy]
        gi_wp2
        refine hR.mono ?_
        rintro e W3 (⟨rfl, hJ3, hk3⟩ | ⟨rfl, hJx3⟩)
        · have hi3 := hk3.2.same _ _ (hi2 m) rfl
          have hp3 := iterPos_of hi3
          gi_wp2
          go_roundw
          case rel => exact ⟨_, pos + (Utf8.decode s pos).2, hi3, HX.out.trans (by rw [List.append_assoc]; rfl), hJ3, hk3.1 (hc2 m)⟩
          case measure => rw [HP.out, hp3]; omega
        · gi_wp2
          refine bodyPost_ret (results_none rfl _ _ _) rfl ?_
          exact ⟨⟨_, rfl⟩, .inr ⟨_, hnext, hJx3⟩⟩
    · have hnx : ∀ ty, (Instr.next (.pointer (some ⟨W.heap.size, 0, none⟩)) true ty).run Tryz.prog wr = _ := fun ty => run_next_end_at wr W.heap.size s pos ty hit hp
      rw [runesFrom_end s pos hp, List.append_nil] at hx
      have HX := Lib.hid hx
      clear hx hpos
      gi_wp2
      go_end0
      exact ⟨⟨_, rfl⟩, .inl (by rw [HX.out]; exact hJs)⟩


/-- a loop's record is no cells: what is said of cells alone stands when it is put -/
theorem OfCells.put {β : Type} {I : β → World → Prop} (h : OfCells I) {b : β} {W : World} {l : Nat} {o : Obj} (o' : Obj) (hi : I b W) (ho : W.heap[l]? = some o) (hc : o.isCells = false) : I b (W.putObj l o') :=
  h b W _ hi fun k u hk hu => by
    by_cases e : k = l
    · subst e; rw [ho] at hk; cases hk; rw [hc] at hu; cases hu
    · exact (World.putObj_heap_other e).trans hk
theorem OfCells.abides {β : Type} {I : β → World → Prop} (h : OfCells I) {B : Nat} {b : β} {W W' : World} {row : Option Nat} (hi : I b W) (hg : W.grownBy W' row) (hr : ∀ r, row = some r → B ≤ r ∧ ∃ o : Obj, W.heap[r]? = some o ∧ o.isWalk = true) : I b W' :=
  h b W W' hi fun k o hk ho => (grownBy_keeps_cells hg (fun r e => by obtain ⟨_, u, hu, hw⟩ := hr r e; exact ⟨u, hu, Obj.not_cells_of_walk hw⟩) hk ho).trans hk

set_option maxHeartbeats 1000000 in
/-- THE STATEMENT, where the body is told that its rune is the next one. -/
theorem wp_runes_next (n : Nat) (hn : 4 ≤ n) {g : Operand} {ps : Array Tmp} {assign body : Code} {Q : Exit → Act → World → Prop} {a : Act} {w W0 : World} (n₀ Bn : Nat) (s : ByteArray)
    (hg : a.eval g = .func (.func 73) #[] #[.pointer (some ⟨Bn, 0, none⟩)]) (hps : ps.size = 2) (hbox : Boxed w Bn 9 (.string s)) (hW0 : Below n₀ W0 w) (hn₀ : n₀ ≤ W0.heap.size)
    (I : List (Nat × Int) → World → Prop) (Ix : Code → List (Nat × Int) → World → Prop) (hI : OfCells I) (hIx : ∀ c, OfCells (Ix c)) (h0 : I [] w) (a₁ : Nat → Int → Act)
    (hassign : ∀ (l : Nat) (i : Nat) (r : Int) (W : World) (K : Act → World → Prop), K (a₁ i r) W →
      assign.wpIn (Fence.wide.inRound l) (n - 1 - 1) Tryz.prog (Exit.then K (fun _ _ _ => False)) { tmps := (ps.zip #[.int .i64 i, .int .i32 r]).foldl (fun t (p, v) => t.setIfInBounds p v) a.tmps, defers := [] } W)
    (hbody : ∀ (l : Nat) (pre : List (Nat × Int)) (i : Nat) (r : Int) (W : World), I pre W → Below n₀ W0 W → Boxed W Bn 9 (.string s) → w.heap.size ≤ W.heap.size → pre ++ [(i, r)] <+: runes s.data.toList →
      body.wpIn (Fence.wide.inRound l) (n - 1 - 1) Tryz.prog (rpost n₀ Bn I Ix (pre ++ [(i, r)]) W) (a₁ i r) W)
    (hdone : ∀ (D : Nat) (W : World), w.heap.size ≤ D → I (runes s.data.toList) W → Below n₀ W0 W → (∀ (k : Nat) (o : Obj), w.heap[k]? = some o → o.isCells = false → W.heap[k]? = some o) → W.heap[D]? = some (.deferred (some [])) → Q .normal { a with defers := { target := .collected D, args := #[] } :: a.defers } W)
    (hstop : ∀ (D : Nat) (c : Code) (pre : List (Nat × Int)) (W : World), w.heap.size ≤ D → pre <+: runes s.data.toList → Ix c pre W → Below n₀ W0 W → (∀ (k : Nat) (o : Obj), w.heap[k]? = some o → o.isCells = false → W.heap[k]? = some o) → W.heap[D]? = some (.deferred (some [])) → c.wpIn Fence.wide n Tryz.prog Q { a with defers := { target := .collected D, args := #[] } :: a.defers } W) :
    (Code.rangeFunc g ps assign body).wpIn Fence.wide n Tryz.prog Q a w := by
  have hnw : n₀ ≤ w.heap.size := Nat.le_trans hn₀ hW0.size
  refine wpIn_rangeFunc fun fn hfn => ?_
  rw [show Fence.wide.round = none from rfl]
  obtain ⟨D, hD⟩ : ∃ D, w.heap.size = D := ⟨_, rfl⟩
  obtain ⟨rec, hrec⟩ : ∃ rec : LoopState → Option Code → Loop, rec = fun st pe => { state := st, pending := pe, fn, tmps := a.tmps, params := ps, assign, body, defers := D } := ⟨_, rfl⟩
  obtain ⟨W1, hW1⟩ : ∃ W1, (w.alloc (.deferred (some []))).alloc (.loop (rec .ready none)) = W1 := ⟨_, rfl⟩
  have hL1 : W1.heap[D + 1]? = some (.loop (rec .ready none)) := by
    rw [← hW1, ← hD]; have := World.alloc_heap_new (w.alloc (.deferred (some []))) (.loop (rec .ready none)); rwa [World.size_alloc] at this
  have hK1 : W1.heap[D]? = some (.deferred (some [])) := by
    rw [← hW1, ← hD]; exact (Below.heap_alloc _ _ _ (by simp)).trans (World.alloc_heap_new w _)
  have hsz1 : W1.heap.size = D + 2 := by rw [← hW1, ← hD]; simp
  have hB1 : Below n₀ W0 W1 := by rw [← hW1]; exact (hW0.alloc hnw _).alloc (by simp; omega) _
  have hcells : ∀ (k : Nat) (o : Obj), w.heap[k]? = some o → o.isCells = true → W1.heap[k]? = some o := fun k o hk _ => by
    have hlt := (Array.getElem?_eq_some_iff.1 hk).1
    rw [← hW1]
    exact (Below.heap_alloc _ _ _ (by simp; omega)).trans ((Below.heap_alloc _ _ _ hlt).trans hk)
  have hI1 : I [] W1 := hI _ _ _ h0 hcells
  have hO1 : ∀ (k : Nat) (o : Obj), w.heap[k]? = some o → o.isCells = false → W1.heap[k]? = some o := fun k o hk _ => by
    have hlt := (Array.getElem?_eq_some_iff.1 hk).1
    rw [← hW1]
    exact (Below.heap_alloc _ _ _ (by simp; omega)).trans ((Below.heap_alloc _ _ _ hlt).trans hk)
  have hbox1 : Boxed W1 Bn 9 (.string s) := hcells _ _ hbox rfl
  have hBcells : OfCells (fun (_ : Unit) W => Boxed W Bn 9 (.string s)) := ofCells_boxed (fun _ => Bn) _ (fun _ => .string s)
  -- what lies at a block that is no walk's stands
  have stays : ∀ {A B : World} {row : Option Nat} {k : Nat} {o : Obj}, A.grownBy B row → (∀ r, row = some r → W1.heap.size ≤ r ∧ ∃ o : Obj, A.heap[r]? = some o ∧ o.isWalk = true) → k < W1.heap.size → A.heap[k]? = some o → B.heap[k]? = some o :=
    fun hg hr hk ho => (hg.block _ (Array.getElem?_eq_some_iff.1 ho).1 (fun e => by have := (hr _ e.symm).1; omega)).trans ho
  have below : ∀ {A B : World} {row : Option Nat}, Below n₀ W0 A → D ≤ A.heap.size → A.grownBy B row → (∀ r, row = some r → W1.heap.size ≤ r ∧ ∃ o : Obj, A.heap[r]? = some o ∧ o.isWalk = true) → Below n₀ W0 B :=
    fun hb hz hg hr => hb.grown hg (by omega) (fun k e => by have := (hr k e).1; omega)
  have hJ : AbidesFrom W1.heap.size (fun pre W => (I pre W ∧ Boxed W Bn 9 (.string s) ∧ Below n₀ W0 W ∧ D ≤ W.heap.size ∧ (∀ (k : Nat) (o : Obj), w.heap[k]? = some o → o.isCells = false → W.heap[k]? = some o)) ∧ W.heap[D + 1]? = some (.loop (rec .ready none)) ∧ W.heap[D]? = some (.deferred (some []))) :=
    fun pre A B row hs hg hr => ⟨⟨hI.abides hs.1.1 hg hr, hBcells.abides (b := ()) hs.1.2.1 hg hr, below hs.1.2.2.1 hs.1.2.2.2.1 hg hr, Nat.le_trans hs.1.2.2.2.1 hg.size, fun k o hk ho => stays hg hr (by have := (Array.getElem?_eq_some_iff.1 hk).1; omega) (hs.1.2.2.2.2 k o hk ho)⟩, stays hg hr (by omega) hs.2.1, stays hg hr (by omega) hs.2.2⟩
  refine ⟨D + 1, [{ target := .collected D, args := #[] }], W1, { target := .fn (.func 73) #[.pointer (some ⟨Bn, 0, none⟩)], args := #[.func (.yield (D + 1)) #[] #[]] }, W1, 73,
    #[.func (.yield (D + 1)) #[] #[]] ++ #[.pointer (some ⟨Bn, 0, none⟩)], W1, ?_, ?_, ?_, ?_, fun _ => by omega, ?_⟩
  · rw [← hW1, hrec, ← hD]; exact run_enterLoop_outer _ _ _ _ _
  · simp only [resolve, hg]
    simp [go_sem]
  · intro f' _; exact trivial
  · simp [invoke, go_sem, enters_of Tryz.func73 (by kernel_rfl) rfl]
  refine (runes1_next (n - 1) (by omega) (D + 1) Bn s _
    (fun pre W => ∃ c, (Ix c pre W ∧ Below n₀ W0 W ∧ D ≤ W.heap.size ∧ (∀ (k : Nat) (o : Obj), w.heap[k]? = some o → o.isCells = false → W.heap[k]? = some o)) ∧ W.heap[D + 1]? = some (.loop (rec .done (some c))) ∧ W.heap[D]? = some (.deferred (some []))) W1 hJ ?_ hbox1.cell ⟨⟨hI1, hbox1, hB1, by omega, hO1⟩, hL1, hK1⟩).mono ?_
  · rintro pre i r W ⟨⟨hi, hb, hB, hz, hO⟩, hl, hk⟩ hnext
    have hlt := (Array.getElem?_eq_some_iff.1 hl).1
    have hy := run_yield (P := Tryz.prog) (args := #[.int .i64 i, .int .i32 r]) hl (by rw [hrec]; exact hps.symm)
    rw [hrec] at hy
    refine ⟨fn, _, assign, body, hy, roundIn_of_wpIn hfn (hassign _ i r W _ ⟨_, run_beginRound hl (by rw [hrec]), ?_⟩)⟩
    obtain ⟨V, hV⟩ : ∃ V, W.putObj (D + 1) (.loop { rec .ready none with state := .busy }) = V := ⟨_, rfl⟩
    rw [hV]
    have v1 : V.heap[D + 1]? = some (.loop { rec .ready none with state := .busy }) := by rw [← hV]; exact World.putObj_heap_same hlt
    have v2 : V.heap[D]? = some (.deferred (some [])) := by rw [← hV]; exact (World.putObj_heap_other (by omega)).trans hk
    have v3 : KpB Bn s W V := by rw [← hV]; exact KpB_b W (D + 1) _ _ hl rfl rfl
    have v4 : I pre V := by rw [← hV]; exact hI.put _ hi hl rfl
    have v5 : Boxed V Bn 9 (.string s) := by rw [← hV]; exact hBcells.put (b := ()) _ hb hl rfl
    have vz : D ≤ V.heap.size := by rw [← hV]; simpa [World.putObj] using hz
    have v6 : Below n₀ W0 V := by rw [← hV]; exact hB.grown (grownBy_putObj' W (D + 1) _) (by omega) (fun k e => by cases e; omega)
    refine wpIn_mono (hbody (D + 1) pre i r V v4 v6 v5 (by omega) hnext) ?_
    have fin : ∀ (jump : Option Code) (X : World), Turned n₀ Bn V X → ∃ Y, (Instr.endRound (D + 1) jump).run Tryz.prog X = .ok (.bool jump.isNone) Y ∧ Y = X.putObj (D + 1) (.loop (rec (if jump.isNone then .ready else .done) jump)) ∧
        X.heap[D + 1]? = some (.loop { rec .ready none with state := .busy }) ∧ Y.heap[D + 1]? = some (.loop (rec (if jump.isNone then .ready else .done) jump)) ∧ Y.heap[D]? = some (.deferred (some [])) ∧ Below n₀ W0 Y ∧ D ≤ Y.heap.size ∧ (∀ (k : Nat) (o : Obj), w.heap[k]? = some o → o.isCells = false → Y.heap[k]? = some o) := by
      intro jump X ht
      have x1 := ht.others.same _ _ v1 rfl
      have hlt1 := (Array.getElem?_eq_some_iff.1 x1).1
      have he := run_endRound (P := Tryz.prog) jump x1
      refine ⟨_, he, by rw [hrec], x1, by rw [World.putObj_heap_same hlt1, hrec], (World.putObj_heap_other (by omega)).trans (ht.others.same _ _ v2 rfl), ?_, ?_, ?_⟩
      · exact (v6.trans (ht.below (by omega))).grown (grownBy_putObj' X (D + 1) _) (by omega) (fun k e => by cases e; omega)
      · have := ht.others.size; simp [World.putObj]; omega
      · intro k o hk ho
        have hlt2 := (Array.getElem?_eq_some_iff.1 hk).1
        have e1 : V.heap[k]? = some o := by rw [← hV]; exact (World.putObj_heap_other (by omega)).trans (hO k o hk ho)
        exact (World.putObj_heap_other (by omega)).trans (ht.others.same _ _ e1 ho)
    rintro e a3 X hp
    cases e with
    | normal =>
      obtain ⟨ht, hi3⟩ := hp
      obtain ⟨Y, y1, y2, x1, y3, y4, y5, y6, y7⟩ := fin none X ht
      refine ⟨_, Y, y1, .inl ⟨rfl, ⟨⟨?_, ?_, y5, y6, y7⟩, y3, y4⟩, ?_⟩⟩
      · rw [y2]; exact hI.put _ hi3 x1 rfl
      · rw [y2]; exact hBcells.put (b := ()) _ (ht.box v5) x1 rfl
      · rw [y2]
        exact KpB_t v3 (KpB_t ⟨fun _ => (ht.box v5).cell, ht.others.walks⟩ (KpB_b X (D + 1) _ _ x1 rfl rfl))
    | ret =>
      obtain ⟨ht, hi3⟩ := hp
      obtain ⟨Y, y1, y2, x1, y3, y4, y5, y6, y7⟩ := fin (some .ret) X ht
      exact ⟨_, Y, y1, .inr ⟨rfl, .ret, ⟨by rw [y2]; exact (hIx _).put _ hi3 x1 rfl, y5, y6, y7⟩, y3, y4⟩⟩
    | exit id =>
      obtain ⟨ht, hi3⟩ := hp
      obtain ⟨Y, y1, y2, x1, y3, y4, y5, y6, y7⟩ := fin (some (.exit id)) X ht
      exact ⟨_, Y, y1, .inr ⟨rfl, .exit id, ⟨by rw [y2]; exact (hIx _).put _ hi3 x1 rfl, y5, y6, y7⟩, y3, y4⟩⟩
    | goto t =>
      obtain ⟨ht, hi3⟩ := hp
      obtain ⟨Y, y1, y2, x1, y3, y4, y5, y6, y7⟩ := fin (some (.goto t)) X ht
      exact ⟨_, Y, y1, .inr ⟨rfl, .goto t, ⟨by rw [y2]; exact (hIx _).put _ hi3 x1 rfl, y5, y6, y7⟩, y3, y4⟩⟩
    | panic ch => exact hp.elim
    | outgrown => exact hp.elim
  · rintro e X ⟨⟨v, rfl⟩, (⟨⟨hi, hb, hB, hz, hO⟩, hl, hk⟩ | ⟨pre, hpre, c, ⟨hi, hB, hz, hO⟩, hl, hk⟩)⟩
    · have he := run_endLoop (P := Tryz.prog) hl (by rw [hrec]; simp)
      have hnone : (rec .ready none).pending = none := by rw [hrec]
      rw [hnone] at he
      exact ⟨none, _, he, hdone D _ (by omega) (hI.put _ hi hl rfl) (hB.grown (grownBy_putObj' X (D + 1) _) (by omega) (fun k e => by cases e; omega)) (fun k o h1 h2 => (World.putObj_heap_other (by have := (Array.getElem?_eq_some_iff.1 h1).1; omega)).trans (hO k o h1 h2)) ((World.putObj_heap_other (by omega)).trans hk)⟩
    · have he := run_endLoop (P := Tryz.prog) hl (by rw [hrec]; simp)
      have hsome : (rec .done (some c)).pending = some c := by rw [hrec]
      rw [hsome] at he
      exact ⟨some c, _, he, hstop D c pre _ (by omega) hpre ((hIx c).put _ hi hl rfl) (hB.grown (grownBy_putObj' X (D + 1) _) (by omega) (fun k e => by cases e; omega)) (fun k o h1 h2 => (World.putObj_heap_other (by have := (Array.getElem?_eq_some_iff.1 h1).1; omega)).trans (hO k o h1 h2)) ((World.putObj_heap_other (by omega)).trans hk)⟩
end Go.Proofs.YtifbplmejbnofaaGreatDoor.TR
