/- The statement 'for i, r := range text.Runes(s)' with another one within it: the outer loop tells where its record lies; the inner one stands in a round. -/
import Derived.Test.YtijdlpbkmlplgaaRunesNext
set_option linter.unusedVariables false
set_option linter.unusedSimpArgs false
namespace Go.Proofs.Ytijdlpbkmlplgaa.TR
open Go.RowKit Go.Shelf Go.Lib Go.Proofs.Ytijdlpbkmlplgaa.TS Go.Proofs.YtijdlpbkmlplgaaW.PrintWords

set_option maxHeartbeats 1000000 in
/-- THE STATEMENT, where the body is told that its rune is the next one, and where its loop's record lies (for a loop within it). -/
theorem wp_runes_outer (n : Nat) (hn : 4 ≤ n) {g : Operand} {ps : Array Tmp} {assign body : Code} {Q : Exit → Act → World → Prop} {a : Act} {w W0 : World} (n₀ Bn : Nat) (s : ByteArray)
    (hg : a.eval g = .func (.func 55) #[] #[.pointer (some ⟨Bn, 0, none⟩)]) (hps : ps.size = 2) (hbox : Boxed w Bn 9 (.string s)) (hW0 : Below n₀ W0 w) (hn₀ : n₀ ≤ W0.heap.size)
    (I : List (Nat × Int) → World → Prop) (Ix : Code → List (Nat × Int) → World → Prop) (hI : OfCells I) (hIx : ∀ c, OfCells (Ix c)) (h0 : I [] w) (a₁ : Nat → Int → Act)
    (hassign : ∀ (l : Nat) (i : Nat) (r : Int) (W : World) (K : Act → World → Prop), K (a₁ i r) W →
      assign.wpIn (Fence.wide.inRound l) (n - 1 - 1) Try.prog (Exit.then K (fun _ _ _ => False)) { tmps := (ps.zip #[.int .i64 i, .int .i32 r]).foldl (fun t (p, v) => t.setIfInBounds p v) a.tmps, defers := [] } W)
    (hbody : ∀ (l : Nat) (pre : List (Nat × Int)) (i : Nat) (r : Int) (W : World), I pre W → Below n₀ W0 W → Boxed W Bn 9 (.string s) → w.heap.size ≤ W.heap.size → pre ++ [(i, r)] <+: runes s.data.toList → w.heap.size < l → (∃ rr, W.heap[l]? = some (.loop rr)) →
      body.wpIn (Fence.wide.inRound l) (n - 1 - 1) Try.prog (rpost n₀ Bn I Ix (pre ++ [(i, r)]) W) (a₁ i r) W)
    (hdone : ∀ (D : Nat) (W : World), w.heap.size ≤ D → I (runes s.data.toList) W → Below n₀ W0 W → (∀ (k : Nat) (o : Obj), w.heap[k]? = some o → o.isCells = false → W.heap[k]? = some o) → W.heap[D]? = some (.deferred (some [])) → Q .normal { a with defers := { target := .collected D, args := #[] } :: a.defers } W)
    (hstop : ∀ (D : Nat) (c : Code) (pre : List (Nat × Int)) (W : World), w.heap.size ≤ D → pre <+: runes s.data.toList → Ix c pre W → Below n₀ W0 W → (∀ (k : Nat) (o : Obj), w.heap[k]? = some o → o.isCells = false → W.heap[k]? = some o) → W.heap[D]? = some (.deferred (some [])) → c.wpIn Fence.wide n Try.prog Q { a with defers := { target := .collected D, args := #[] } :: a.defers } W) :
    (Code.rangeFunc g ps assign body).wpIn Fence.wide n Try.prog Q a w := by
  have hnw : n₀ ≤ w.heap.size := Nat.le_trans hn₀ hW0.size
  refine wpIn_rangeFunc fun fn hfn => ?_
  rw [show Fence.wide.round = none from rfl]
  obtain ⟨D, hD⟩ : ∃ D, w.heap.size = D := ⟨_, rfl⟩
  obtain ⟨rec, hrec⟩ : ∃ rec : LoopState → Option Code → Loop, rec = fun st pe => { state := st, pending := pe, fn, tmps := a.tmps, params := ps, assign, body, defers := D } := ⟨_, rfl⟩
  obtain ⟨W1, hW1⟩ : ∃ W1, (w.alloc (.deferred (some []))).alloc (.loop (rec .ready none)) = W1 := ⟨_, rfl⟩
  have hL1 : W1.heap[D + 1]? = some (.loop (rec .ready none)) := by
    rw [← hW1, ← hD]; have := World.alloc_heap_new (w.alloc (.deferred (some []))) (.loop (rec .ready none)); rwa [World.size_alloc] at this
  have hK1 : W1.heap[D]? = some (.deferred (some [])) := by
    rw [← hW1, ← hD]; exact (Below.heap_alloc _ _ _ (by simp)).trans (World.alloc_heap_new w _)
  have hsz1 : W1.heap.size = D + 2 := by rw [← hW1, ← hD]; simp
  have hB1 : Below n₀ W0 W1 := by rw [← hW1]; exact (hW0.alloc hnw _).alloc (by simp; omega) _
  have hcells : ∀ (k : Nat) (o : Obj), w.heap[k]? = some o → o.isCells = true → W1.heap[k]? = some o := fun k o hk _ => by
    have hlt := (Array.getElem?_eq_some_iff.1 hk).1
    rw [← hW1]
    exact (Below.heap_alloc _ _ _ (by simp; omega)).trans ((Below.heap_alloc _ _ _ hlt).trans hk)
  have hI1 : I [] W1 := hI _ _ _ h0 hcells
  have hO1 : ∀ (k : Nat) (o : Obj), w.heap[k]? = some o → o.isCells = false → W1.heap[k]? = some o := fun k o hk _ => by
    have hlt := (Array.getElem?_eq_some_iff.1 hk).1
    rw [← hW1]
    exact (Below.heap_alloc _ _ _ (by simp; omega)).trans ((Below.heap_alloc _ _ _ hlt).trans hk)
  have hbox1 : Boxed W1 Bn 9 (.string s) := hcells _ _ hbox rfl
  have hBcells : OfCells (fun (_ : Unit) W => Boxed W Bn 9 (.string s)) := ofCells_boxed (fun _ => Bn) _ (fun _ => .string s)
  -- what lies at a block that is no walk's stands
  have stays : ∀ {A B : World} {row : Option Nat} {k : Nat} {o : Obj}, A.grownBy B row → (∀ r, row = some r → W1.heap.size ≤ r ∧ ∃ o : Obj, A.heap[r]? = some o ∧ o.isWalk = true) → k < W1.heap.size → A.heap[k]? = some o → B.heap[k]? = some o :=
    fun hg hr hk ho => (hg.block _ (Array.getElem?_eq_some_iff.1 ho).1 (fun e => by have := (hr _ e.symm).1; omega)).trans ho
  have below : ∀ {A B : World} {row : Option Nat}, Below n₀ W0 A → D ≤ A.heap.size → A.grownBy B row → (∀ r, row = some r → W1.heap.size ≤ r ∧ ∃ o : Obj, A.heap[r]? = some o ∧ o.isWalk = true) → Below n₀ W0 B :=
    fun hb hz hg hr => hb.grown hg (by omega) (fun k e => by have := (hr k e).1; omega)
  have hJ : AbidesFrom W1.heap.size (fun pre W => (I pre W ∧ Boxed W Bn 9 (.string s) ∧ Below n₀ W0 W ∧ D ≤ W.heap.size ∧ (∀ (k : Nat) (o : Obj), w.heap[k]? = some o → o.isCells = false → W.heap[k]? = some o)) ∧ W.heap[D + 1]? = some (.loop (rec .ready none)) ∧ W.heap[D]? = some (.deferred (some []))) :=
    fun pre A B row hs hg hr => ⟨⟨hI.abides hs.1.1 hg hr, hBcells.abides (b := ()) hs.1.2.1 hg hr, below hs.1.2.2.1 hs.1.2.2.2.1 hg hr, Nat.le_trans hs.1.2.2.2.1 hg.size, fun k o hk ho => stays hg hr (by have := (Array.getElem?_eq_some_iff.1 hk).1; omega) (hs.1.2.2.2.2 k o hk ho)⟩, stays hg hr (by omega) hs.2.1, stays hg hr (by omega) hs.2.2⟩
  refine ⟨D + 1, [{ target := .collected D, args := #[] }], W1, { target := .fn (.func 55) #[.pointer (some ⟨Bn, 0, none⟩)], args := #[.func (.yield (D + 1)) #[] #[]] }, W1, 55,
    #[.func (.yield (D + 1)) #[] #[]] ++ #[.pointer (some ⟨Bn, 0, none⟩)], W1, ?_, ?_, ?_, ?_, fun _ => by omega, ?_⟩
  · rw [← hW1, hrec, ← hD]; exact run_enterLoop_outer _ _ _ _ _
  · simp only [resolve, hg]
    simp [go_sem]
  · intro f' _; exact trivial
  · simp [invoke, go_sem, enters_of Try.func55 (by kernel_rfl) rfl]
  refine (runes1_next (n - 1) (by omega) (D + 1) Bn s _
    (fun pre W => ∃ c, (Ix c pre W ∧ Below n₀ W0 W ∧ D ≤ W.heap.size ∧ (∀ (k : Nat) (o : Obj), w.heap[k]? = some o → o.isCells = false → W.heap[k]? = some o)) ∧ W.heap[D + 1]? = some (.loop (rec .done (some c))) ∧ W.heap[D]? = some (.deferred (some []))) W1 hJ ?_ hbox1.cell ⟨⟨hI1, hbox1, hB1, by omega, hO1⟩, hL1, hK1⟩).mono ?_
  · rintro pre i r W ⟨⟨hi, hb, hB, hz, hO⟩, hl, hk⟩ hnext
    have hlt := (Array.getElem?_eq_some_iff.1 hl).1
    have hy := run_yield (P := Try.prog) (args := #[.int .i64 i, .int .i32 r]) hl (by rw [hrec]; exact hps.symm)
    rw [hrec] at hy
    refine ⟨fn, _, assign, body, hy, roundIn_of_wpIn hfn (hassign _ i r W _ ⟨_, run_beginRound hl (by rw [hrec]), ?_⟩)⟩
    obtain ⟨V, hV⟩ : ∃ V, W.putObj (D + 1) (.loop { rec .ready none with state := .busy }) = V := ⟨_, rfl⟩
    rw [hV]
    have v1 : V.heap[D + 1]? = some (.loop { rec .ready none with state := .busy }) := by rw [← hV]; exact World.putObj_heap_same hlt
    have v2 : V.heap[D]? = some (.deferred (some [])) := by rw [← hV]; exact (World.putObj_heap_other (by omega)).trans hk
    have v3 : KpB Bn s W V := by rw [← hV]; exact KpB_b W (D + 1) _ _ hl rfl rfl
    have v4 : I pre V := by rw [← hV]; exact hI.put _ hi hl rfl
    have v5 : Boxed V Bn 9 (.string s) := by rw [← hV]; exact hBcells.put (b := ()) _ hb hl rfl
    have vz : D ≤ V.heap.size := by rw [← hV]; simpa [World.putObj] using hz
    have v6 : Below n₀ W0 V := by rw [← hV]; exact hB.grown (grownBy_putObj' W (D + 1) _) (by omega) (fun k e => by cases e; omega)
    refine wpIn_mono (hbody (D + 1) pre i r V v4 v6 v5 (by omega) hnext (by omega) ⟨_, v1⟩) ?_
    have fin : ∀ (jump : Option Code) (X : World), Turned n₀ Bn V X → ∃ Y, (Instr.endRound (D + 1) jump).run Try.prog X = .ok (.bool jump.isNone) Y ∧ Y = X.putObj (D + 1) (.loop (rec (if jump.isNone then .ready else .done) jump)) ∧
        X.heap[D + 1]? = some (.loop { rec .ready none with state := .busy }) ∧ Y.heap[D + 1]? = some (.loop (rec (if jump.isNone then .ready else .done) jump)) ∧ Y.heap[D]? = some (.deferred (some [])) ∧ Below n₀ W0 Y ∧ D ≤ Y.heap.size ∧ (∀ (k : Nat) (o : Obj), w.heap[k]? = some o → o.isCells = false → Y.heap[k]? = some o) := by
      intro jump X ht
      have x1 := ht.others.same _ _ v1 rfl
      have hlt1 := (Array.getElem?_eq_some_iff.1 x1).1
      have he := run_endRound (P := Try.prog) jump x1
      refine ⟨_, he, by rw [hrec], x1, by rw [World.putObj_heap_same hlt1, hrec], (World.putObj_heap_other (by omega)).trans (ht.others.same _ _ v2 rfl), ?_, ?_, ?_⟩
      · exact (v6.trans (ht.below (by omega))).grown (grownBy_putObj' X (D + 1) _) (by omega) (fun k e => by cases e; omega)
      · have := ht.others.size; simp [World.putObj]; omega
      · intro k o hk ho
        have hlt2 := (Array.getElem?_eq_some_iff.1 hk).1
        have e1 : V.heap[k]? = some o := by rw [← hV]; exact (World.putObj_heap_other (by omega)).trans (hO k o hk ho)
        exact (World.putObj_heap_other (by omega)).trans (ht.others.same _ _ e1 ho)
    rintro e a3 X hp
    cases e with
    | normal =>
      obtain ⟨ht, hi3⟩ := hp
      obtain ⟨Y, y1, y2, x1, y3, y4, y5, y6, y7⟩ := fin none X ht
      refine ⟨_, Y, y1, .inl ⟨rfl, ⟨⟨?_, ?_, y5, y6, y7⟩, y3, y4⟩, ?_⟩⟩
      · rw [y2]; exact hI.put _ hi3 x1 rfl
      · rw [y2]; exact hBcells.put (b := ()) _ (ht.box v5) x1 rfl
      · rw [y2]
        exact KpB_t v3 (KpB_t ⟨fun _ => (ht.box v5).cell, ht.others.walks⟩ (KpB_b X (D + 1) _ _ x1 rfl rfl))
    | ret =>
      obtain ⟨ht, hi3⟩ := hp
      obtain ⟨Y, y1, y2, x1, y3, y4, y5, y6, y7⟩ := fin (some .ret) X ht
      exact ⟨_, Y, y1, .inr ⟨rfl, .ret, ⟨by rw [y2]; exact (hIx _).put _ hi3 x1 rfl, y5, y6, y7⟩, y3, y4⟩⟩
    | exit id =>
      obtain ⟨ht, hi3⟩ := hp
      obtain ⟨Y, y1, y2, x1, y3, y4, y5, y6, y7⟩ := fin (some (.exit id)) X ht
      exact ⟨_, Y, y1, .inr ⟨rfl, .exit id, ⟨by rw [y2]; exact (hIx _).put _ hi3 x1 rfl, y5, y6, y7⟩, y3, y4⟩⟩
    | goto t =>
      obtain ⟨ht, hi3⟩ := hp
      obtain ⟨Y, y1, y2, x1, y3, y4, y5, y6, y7⟩ := fin (some (.goto t)) X ht
      exact ⟨_, Y, y1, .inr ⟨rfl, .goto t, ⟨by rw [y2]; exact (hIx _).put _ hi3 x1 rfl, y5, y6, y7⟩, y3, y4⟩⟩
    | panic ch => exact hp.elim
    | outgrown => exact hp.elim
  · rintro e X ⟨⟨v, rfl⟩, (⟨⟨hi, hb, hB, hz, hO⟩, hl, hk⟩ | ⟨pre, hpre, c, ⟨hi, hB, hz, hO⟩, hl, hk⟩)⟩
    · have he := run_endLoop (P := Try.prog) hl (by rw [hrec]; simp)
      have hnone : (rec .ready none).pending = none := by rw [hrec]
      rw [hnone] at he
      exact ⟨none, _, he, hdone D _ (by omega) (hI.put _ hi hl rfl) (hB.grown (grownBy_putObj' X (D + 1) _) (by omega) (fun k e => by cases e; omega)) (fun k o h1 h2 => (World.putObj_heap_other (by have := (Array.getElem?_eq_some_iff.1 h1).1; omega)).trans (hO k o h1 h2)) ((World.putObj_heap_other (by omega)).trans hk)⟩
    · have he := run_endLoop (P := Try.prog) hl (by rw [hrec]; simp)
      have hsome : (rec .done (some c)).pending = some c := by rw [hrec]
      rw [hsome] at he
      exact ⟨some c, _, he, hstop D c pre _ (by omega) hpre ((hIx c).put _ hi hl rfl) (hB.grown (grownBy_putObj' X (D + 1) _) (by omega) (fun k e => by cases e; omega)) (fun k o h1 h2 => (World.putObj_heap_other (by have := (Array.getElem?_eq_some_iff.1 h1).1; omega)).trans (hO k o h1 h2)) ((World.putObj_heap_other (by omega)).trans hk)⟩
set_option maxHeartbeats 1000000 in
/-- THE STATEMENT IN A ROUND OF ANOTHER LOOP (l₀). -/
theorem wp_runes_inner (n : Nat) (hn : 4 ≤ n) {l₀ : Nat} {r₀ : Loop} {g : Operand} {ps : Array Tmp} {assign body : Code} {Q : Exit → Act → World → Prop} {a : Act} {w W0 : World} (n₀ Bn : Nat) (s : ByteArray)
    (hg : a.eval g = .func (.func 55) #[] #[.pointer (some ⟨Bn, 0, none⟩)]) (hps : ps.size = 2) (hl₀ : w.heap[l₀]? = some (.loop r₀)) (hbox : Boxed w Bn 9 (.string s)) (hW0 : Below n₀ W0 w) (hn₀ : n₀ ≤ W0.heap.size)
    (I : List (Nat × Int) → World → Prop) (Ix : Code → List (Nat × Int) → World → Prop) (hI : OfCells I) (hIx : ∀ c, OfCells (Ix c)) (h0 : I [] w) (a₁ : Nat → Int → Act)
    (hassign : ∀ (l : Nat) (i : Nat) (r : Int) (W : World) (K : Act → World → Prop), K (a₁ i r) W →
      assign.wpIn (Fence.wide.inRound l) (n - 1 - 1) Try.prog (Exit.then K (fun _ _ _ => False)) { tmps := (ps.zip #[.int .i64 i, .int .i32 r]).foldl (fun t (p, v) => t.setIfInBounds p v) a.tmps, defers := [] } W)
    (hbody : ∀ (l : Nat) (pre : List (Nat × Int)) (i : Nat) (r : Int) (W : World), I pre W → Below n₀ W0 W → Boxed W Bn 9 (.string s) → w.heap.size ≤ W.heap.size → pre ++ [(i, r)] <+: runes s.data.toList →
      body.wpIn (Fence.wide.inRound l) (n - 1 - 1) Try.prog (rpost n₀ Bn I Ix (pre ++ [(i, r)]) W) (a₁ i r) W)
    (hdone : ∀ (W : World), I (runes s.data.toList) W → Below n₀ W0 W → (∀ (k : Nat) (o : Obj), w.heap[k]? = some o → o.isCells = false → W.heap[k]? = some o) → Q .normal a W)
    (hstop : ∀ (c : Code) (pre : List (Nat × Int)) (W : World), pre <+: runes s.data.toList → Ix c pre W → Below n₀ W0 W → (∀ (k : Nat) (o : Obj), w.heap[k]? = some o → o.isCells = false → W.heap[k]? = some o) → c.wpIn (Fence.wide.inRound l₀) n Try.prog Q a W) :
    (Code.rangeFunc g ps assign body).wpIn (Fence.wide.inRound l₀) n Try.prog Q a w := by
  have hnw : n₀ ≤ w.heap.size := Nat.le_trans hn₀ hW0.size
  refine wpIn_rangeFunc fun fn hfn => ?_
  rw [show (Fence.wide.inRound l₀).round = some l₀ from rfl]
  obtain ⟨D, hD⟩ : ∃ D, w.heap.size = D := ⟨_, rfl⟩
  obtain ⟨rec, hrec⟩ : ∃ rec : LoopState → Option Code → Loop, rec = fun st pe => { state := st, pending := pe, fn, tmps := a.tmps, params := ps, assign, body, defers := r₀.defers } := ⟨_, rfl⟩
  obtain ⟨W1, hW1⟩ : ∃ W1, w.alloc (.loop (rec .ready none)) = W1 := ⟨_, rfl⟩
  have hL1 : W1.heap[D]? = some (.loop (rec .ready none)) := by
    rw [← hW1, ← hD]; exact World.alloc_heap_new w (.loop (rec .ready none))
  have hsz1 : W1.heap.size = D + 1 := by rw [← hW1, ← hD]; simp
  have hB1 : Below n₀ W0 W1 := by rw [← hW1]; exact hW0.alloc hnw _
  have hcells : ∀ (k : Nat) (o : Obj), w.heap[k]? = some o → o.isCells = true → W1.heap[k]? = some o := fun k o hk _ => by
    have hlt := (Array.getElem?_eq_some_iff.1 hk).1
    rw [← hW1]
    exact (Below.heap_alloc _ _ _ hlt).trans hk
  have hI1 : I [] W1 := hI _ _ _ h0 hcells
  have hO1 : ∀ (k : Nat) (o : Obj), w.heap[k]? = some o → o.isCells = false → W1.heap[k]? = some o := fun k o hk _ => by
    have hlt := (Array.getElem?_eq_some_iff.1 hk).1
    rw [← hW1]
    exact (Below.heap_alloc _ _ _ hlt).trans hk
  have hbox1 : Boxed W1 Bn 9 (.string s) := hcells _ _ hbox rfl
  have hBcells : OfCells (fun (_ : Unit) W => Boxed W Bn 9 (.string s)) := ofCells_boxed (fun _ => Bn) _ (fun _ => .string s)
  -- what lies at a block that is no walk's stands
  have stays : ∀ {A B : World} {row : Option Nat} {k : Nat} {o : Obj}, A.grownBy B row → (∀ r, row = some r → W1.heap.size ≤ r ∧ ∃ o : Obj, A.heap[r]? = some o ∧ o.isWalk = true) → k < W1.heap.size → A.heap[k]? = some o → B.heap[k]? = some o :=
    fun hg hr hk ho => (hg.block _ (Array.getElem?_eq_some_iff.1 ho).1 (fun e => by have := (hr _ e.symm).1; omega)).trans ho
  have below : ∀ {A B : World} {row : Option Nat}, Below n₀ W0 A → D ≤ A.heap.size → A.grownBy B row → (∀ r, row = some r → W1.heap.size ≤ r ∧ ∃ o : Obj, A.heap[r]? = some o ∧ o.isWalk = true) → Below n₀ W0 B :=
    fun hb hz hg hr => hb.grown hg (by omega) (fun k e => by have := (hr k e).1; omega)
  have hJ : AbidesFrom W1.heap.size (fun pre W => (I pre W ∧ Boxed W Bn 9 (.string s) ∧ Below n₀ W0 W ∧ D ≤ W.heap.size ∧ (∀ (k : Nat) (o : Obj), w.heap[k]? = some o → o.isCells = false → W.heap[k]? = some o)) ∧ W.heap[D]? = some (.loop (rec .ready none))) :=
    fun pre A B row hs hg hr => ⟨⟨hI.abides hs.1.1 hg hr, hBcells.abides (b := ()) hs.1.2.1 hg hr, below hs.1.2.2.1 hs.1.2.2.2.1 hg hr, Nat.le_trans hs.1.2.2.2.1 hg.size, fun k o hk ho => stays hg hr (by have := (Array.getElem?_eq_some_iff.1 hk).1; omega) (hs.1.2.2.2.2 k o hk ho)⟩, stays hg hr (by omega) hs.2⟩
  refine ⟨D, [], W1, { target := .fn (.func 55) #[.pointer (some ⟨Bn, 0, none⟩)], args := #[.func (.yield D) #[] #[]] }, W1, 55,
    #[.func (.yield D) #[] #[]] ++ #[.pointer (some ⟨Bn, 0, none⟩)], W1, ?_, ?_, ?_, ?_, fun _ => by omega, ?_⟩
  · rw [← hW1, hrec, ← hD]; exact run_enterLoop_inner hl₀ _ _ _ _ _
  · simp only [resolve, hg]
    simp [go_sem]
  · intro f' _; exact trivial
  · simp [invoke, go_sem, enters_of Try.func55 (by kernel_rfl) rfl]
  refine (CallsIn.inRound l₀ (runes1_next (n - 1) (by omega) D Bn s _
    (fun pre W => ∃ c, (Ix c pre W ∧ Below n₀ W0 W ∧ D ≤ W.heap.size ∧ (∀ (k : Nat) (o : Obj), w.heap[k]? = some o → o.isCells = false → W.heap[k]? = some o)) ∧ W.heap[D]? = some (.loop (rec .done (some c)))) W1 hJ ?_ hbox1.cell ⟨⟨hI1, hbox1, hB1, by omega, hO1⟩, hL1⟩)).mono ?_
  · rintro pre i r W ⟨⟨hi, hb, hB, hz, hO⟩, hl⟩ hnext
    have hlt := (Array.getElem?_eq_some_iff.1 hl).1
    have hy := run_yield (P := Try.prog) (args := #[.int .i64 i, .int .i32 r]) hl (by rw [hrec]; exact hps.symm)
    rw [hrec] at hy
    refine ⟨fn, _, assign, body, hy, roundIn_of_wpIn hfn (hassign _ i r W _ ⟨_, run_beginRound hl (by rw [hrec]), ?_⟩)⟩
    obtain ⟨V, hV⟩ : ∃ V, W.putObj D (.loop { rec .ready none with state := .busy }) = V := ⟨_, rfl⟩
    rw [hV]
    have v1 : V.heap[D]? = some (.loop { rec .ready none with state := .busy }) := by rw [← hV]; exact World.putObj_heap_same hlt
    have v3 : KpB Bn s W V := by rw [← hV]; exact KpB_b W D _ _ hl rfl rfl
    have v4 : I pre V := by rw [← hV]; exact hI.put _ hi hl rfl
    have v5 : Boxed V Bn 9 (.string s) := by rw [← hV]; exact hBcells.put (b := ()) _ hb hl rfl
    have vz : D ≤ V.heap.size := by rw [← hV]; simpa [World.putObj] using hz
    have v6 : Below n₀ W0 V := by rw [← hV]; exact hB.grown (grownBy_putObj' W D _) (by omega) (fun k e => by cases e; omega)
    refine wpIn_mono (hbody D pre i r V v4 v6 v5 (by omega) hnext) ?_
    have fin : ∀ (jump : Option Code) (X : World), Turned n₀ Bn V X → ∃ Y, (Instr.endRound D jump).run Try.prog X = .ok (.bool jump.isNone) Y ∧ Y = X.putObj D (.loop (rec (if jump.isNone then .ready else .done) jump)) ∧
        X.heap[D]? = some (.loop { rec .ready none with state := .busy }) ∧ Y.heap[D]? = some (.loop (rec (if jump.isNone then .ready else .done) jump)) ∧ Below n₀ W0 Y ∧ D ≤ Y.heap.size ∧ (∀ (k : Nat) (o : Obj), w.heap[k]? = some o → o.isCells = false → Y.heap[k]? = some o) := by
      intro jump X ht
      have x1 := ht.others.same _ _ v1 rfl
      have hlt1 := (Array.getElem?_eq_some_iff.1 x1).1
      have he := run_endRound (P := Try.prog) jump x1
      refine ⟨_, he, by rw [hrec], x1, by rw [World.putObj_heap_same hlt1, hrec], ?_, ?_, ?_⟩
      · exact (v6.trans (ht.below (by omega))).grown (grownBy_putObj' X D _) (by omega) (fun k e => by cases e; omega)
      · have := ht.others.size; simp [World.putObj]; omega
      · intro k o hk ho
        have hlt2 := (Array.getElem?_eq_some_iff.1 hk).1
        have e1 : V.heap[k]? = some o := by rw [← hV]; exact (World.putObj_heap_other (by omega)).trans (hO k o hk ho)
        exact (World.putObj_heap_other (by omega)).trans (ht.others.same _ _ e1 ho)
    rintro e a3 X hp
    cases e with
    | normal =>
      obtain ⟨ht, hi3⟩ := hp
      obtain ⟨Y, y1, y2, x1, y3, y5, y6, y7⟩ := fin none X ht
      refine ⟨_, Y, y1, .inl ⟨rfl, ⟨⟨?_, ?_, y5, y6, y7⟩, y3⟩, ?_⟩⟩
      · rw [y2]; exact hI.put _ hi3 x1 rfl
      · rw [y2]; exact hBcells.put (b := ()) _ (ht.box v5) x1 rfl
      · rw [y2]
        exact KpB_t v3 (KpB_t ⟨fun _ => (ht.box v5).cell, ht.others.walks⟩ (KpB_b X D _ _ x1 rfl rfl))
    | ret =>
      obtain ⟨ht, hi3⟩ := hp
      obtain ⟨Y, y1, y2, x1, y3, y5, y6, y7⟩ := fin (some .ret) X ht
      exact ⟨_, Y, y1, .inr ⟨rfl, .ret, ⟨by rw [y2]; exact (hIx _).put _ hi3 x1 rfl, y5, y6, y7⟩, y3⟩⟩
    | exit id =>
      obtain ⟨ht, hi3⟩ := hp
      obtain ⟨Y, y1, y2, x1, y3, y5, y6, y7⟩ := fin (some (.exit id)) X ht
      exact ⟨_, Y, y1, .inr ⟨rfl, .exit id, ⟨by rw [y2]; exact (hIx _).put _ hi3 x1 rfl, y5, y6, y7⟩, y3⟩⟩
    | goto t =>
      obtain ⟨ht, hi3⟩ := hp
      obtain ⟨Y, y1, y2, x1, y3, y5, y6, y7⟩ := fin (some (.goto t)) X ht
      exact ⟨_, Y, y1, .inr ⟨rfl, .goto t, ⟨by rw [y2]; exact (hIx _).put _ hi3 x1 rfl, y5, y6, y7⟩, y3⟩⟩
    | panic ch => exact hp.elim
    | outgrown => exact hp.elim
  · rintro e X ⟨⟨v, rfl⟩, (⟨⟨hi, hb, hB, hz, hO⟩, hl⟩ | ⟨pre, hpre, c, ⟨hi, hB, hz, hO⟩, hl⟩)⟩
    · have he := run_endLoop (P := Try.prog) hl (by rw [hrec]; simp)
      have hnone : (rec .ready none).pending = none := by rw [hrec]
      rw [hnone] at he
      exact ⟨none, _, he, hdone _ (hI.put _ hi hl rfl) (hB.grown (grownBy_putObj' X D _) (by omega) (fun k e => by cases e; omega)) (fun k o h1 h2 => (World.putObj_heap_other (by have := (Array.getElem?_eq_some_iff.1 h1).1; omega)).trans (hO k o h1 h2))⟩
    · have he := run_endLoop (P := Try.prog) hl (by rw [hrec]; simp)
      have hsome : (rec .done (some c)).pending = some c := by rw [hrec]
      rw [hsome] at he
      exact ⟨some c, _, he, hstop c pre _ hpre ((hIx c).put _ hi hl rfl) (hB.grown (grownBy_putObj' X D _) (by omega) (fun k e => by cases e; omega)) (fun k o h1 h2 => (World.putObj_heap_other (by have := (Array.getElem?_eq_some_iff.1 h1).1; omega)).trans (hO k o h1 h2))⟩
end Go.Proofs.Ytijdlpbkmlplgaa.TR
