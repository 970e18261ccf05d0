/- The walk of TextRunes. -/
import Derived.Test.YtijdlpbkmlplgaaRunesTwice
import Derived.Test.YtijdlpbkmlplgaaTextExt
import Derived.LoopNIn
import Derived.Test.YtijdlpbkmlplgaaTwicePure
import Derived.Test.YtijdlpbkmlplgaaPartsEnd
set_option linter.unusedVariables false
set_option linter.unusedSimpArgs false
namespace Go.Proofs.Ytijdlpbkmlplgaa.TR
open Go.RowKit Go.Shelf Go.Lib Go.Proofs.Ytijdlpbkmlplgaa.TS Go.Proofs.Ytijdlpbkmlplgaa.TX Go.Proofs.YtijdlpbkmlplgaaW.PrintWords Go.Proofs.YtijdlpbkmlplgaaW.PrintMore Go.Proofs.Ytijdlpbkmlplgaa.QP
attribute [local go_sem] Oper.semAt_some
theorem run_store_func {P : Program} {w : World} {a : Addr} {m : Mode} (f : Fn) (x y : Array Value) : (store a (.func f x y) m).run P w = stored P w a (.func f x y) m := run_store P w a _ m rfl
attribute [local go_sem] run_store_func

/-- a row of pieces, as cells: of each the place and the rune -/
def WantO (A : Option Addr) (R : List (Nat × Int)) (W : World) : Prop := ∀ (j : Nat) (x : Nat × Int), R[j]? = some x → ∃ ad : Addr, A = some ad ∧ W.cell? (ad.add (j * 3)) = some (.int .i64 x.1) ∧ W.cell? ⟨(ad.add (j * 3)).block, (ad.add (j * 3)).off + 2, none⟩ = some (.int .i32 x.2)
theorem cell_cells {W W' : World} (hk : ∀ (k : Nat) (o : Obj), W.heap[k]? = some o → o.isCells = true → W'.heap[k]? = some o) {p : Addr} {v : Value} (h : W.cell? p = some v) : W'.cell? p = some v := by
  have hlt := World.block_lt_of_cell? W _ h
  have ho : W.heap[p.block]? = some W.heap[p.block] := Array.getElem?_eq_getElem hlt
  have hc : (W.heap[p.block]).isCells = true := by
    unfold World.cell? at h
    rw [ho] at h
    cases hO : W.heap[p.block] with
    | cells a b => rfl
    | _ => rw [hO] at h; simp at h
  exact (World.cell?_of_block ((hk _ _ ho hc).trans ho.symm)).trans h
theorem WantO.cells {A : Option Addr} {R : List (Nat × Int)} {W W' : World} (h : WantO A R W) (hk : ∀ (k : Nat) (o : Obj), W.heap[k]? = some o → o.isCells = true → W'.heap[k]? = some o) : WantO A R W' := fun j x hj => by
  obtain ⟨ad, e, h1, h2⟩ := h j x hj
  exact ⟨ad, e, cell_cells hk h1, cell_cells hk h2⟩
/-- what lies in the boxes of TextRunes -/
def RBase (z y : Nat) (s : ByteArray) (stop : Int) (A : Option Addr) (N c : Nat) (W : World) : Prop :=
  (Boxed W z 3 (.int .i64 stop) ∧ Boxed W (z + 1) 4 (.bool false) ∧ Boxed W y 31 (.slice A N c) ∧ Boxed W (y + 1) 9 (.string s) ∧ Boxed W (y + 1 + 1) 34 (.func (.func 55) #[] #[.pointer (some ⟨y + 1, 0, none⟩)])) ∧ WantO A (runes s.data.toList) W
theorem RBase.cells {z y : Nat} {s : ByteArray} {stop : Int} {A : Option Addr} {N c : Nat} {W W' : World} (h : RBase z y s stop A N c W) (hk : ∀ (k : Nat) (o : Obj), W.heap[k]? = some o → o.isCells = true → W'.heap[k]? = some o) : RBase z y s stop A N c W' := by
  obtain ⟨⟨h1, h2, h3, h4, h5⟩, h6⟩ := h
  exact ⟨⟨hk _ _ h1 rfl, hk _ _ h2 rfl, hk _ _ h3 rfl, hk _ _ h4 rfl, hk _ _ h5 rfl⟩, h6.cells hk⟩
theorem RBase.below {z y : Nat} {s : ByteArray} {stop : Int} {A : Option Addr} {N c : Nat} {W W' : World} (h : RBase z y s stop A N c W) (hb : Below W.heap.size W W') : RBase z y s stop A N c W' :=
  h.cells fun k o hk _ => (hb.block k (Array.getElem?_eq_some_iff.1 hk).1).trans hk
abbrev rF (w1 : World) : Value := .func (.func 55) #[] #[.pointer (some ⟨w1.heap.size + 1, 0, none⟩)]
abbrev rW (w1 : World) (s : ByteArray) (A : Option Addr) (N c : Nat) : World := ((w1.alloc (.cells #[.slice A N c] 31)).alloc (.cells #[.string s] 9)).alloc (.cells #[rF w1] 34)
theorem rbase_start (w : World) (s : ByteArray) (stop : Int) (A : Option Addr) (N c : Nat) (w1 : World) (B1 : Below ((w.alloc (.cells #[.int .i64 stop] 3)).alloc (.cells #[.bool false] 4)).heap.size ((w.alloc (.cells #[.int .i64 stop] 3)).alloc (.cells #[.bool false] 4)) w1) (hW : WantO A (runes s.data.toList) w1) :
    w.heap.size + 1 < w1.heap.size ∧ Below w.heap.size w (rW w1 s A N c) ∧ RBase w.heap.size w1.heap.size s stop A N c (rW w1 s A N c) := by
  have b1 := (Boxed.new w 3 (.int .i64 stop)).alloc (.cells #[.bool false] 4)
  have b2 := Boxed.new (w.alloc (.cells #[.int .i64 stop] 3)) 4 (.bool false)
  have hz := B1.size
  simp only [World.size_alloc] at b1 b2 B1 hz
  have hB0 : Below w.heap.size w ((w.alloc (.cells #[.int .i64 stop] 3)).alloc (.cells #[.bool false] 4)) := ((Below.refl _ w).alloc (Nat.le_refl _) _).alloc (by simp) _
  have hB1 := hB0.trans (B1.mono (by omega))
  have c1 : Boxed w1 w.heap.size 3 (.int .i64 stop) := (B1.block _ (by omega)).trans b1
  have c2 : Boxed w1 (w.heap.size + 1) 4 (.bool false) := (B1.block _ (by omega)).trans b2
  have hb : Below w1.heap.size w1 (rW w1 s A N c) :=
    (((Below.refl w1.heap.size w1).alloc (Nat.le_refl _) (.cells #[.slice A N c] 31)).alloc (by simp) (.cells #[.string s] 9)).alloc (by simp; omega) (.cells #[rF w1] 34)
  have y1 := ((Boxed.new w1 31 (.slice A N c)).alloc (.cells #[.string s] 9)).alloc (.cells #[rF w1] 34)
  have y2 := (Boxed.new (w1.alloc (.cells #[.slice A N c] 31)) 9 (.string s)).alloc (.cells #[rF w1] 34)
  have y3 := Boxed.new ((w1.alloc (.cells #[.slice A N c] 31)).alloc (.cells #[.string s] 9)) 34 (rF w1)
  simp only [World.size_alloc] at y1 y2 y3
  exact ⟨by omega, hB1.trans (hb.mono (by omega)), ⟨⟨(hb.block _ c1.lt).trans c1, (hb.block _ c2.lt).trans c2, y1, y2, y3⟩, hW.cells fun k o hk _ => (hb.block k (Array.getElem?_eq_some_iff.1 hk).1).trans hk⟩⟩
theorem WantO.lt {A : Option Addr} {R : List (Nat × Int)} {W : World} (h : WantO A R W) : ∀ (j : Nat) (x : Nat × Int) (ad : Addr), R[j]? = some x → A = some ad → (ad.add (j * 3)).block < W.heap.size := fun j x ad hj e => by
  obtain ⟨ad', e', k1, _⟩ := h j x hj
  rw [e] at e'
  cases e'
  exact World.block_lt_of_cell? W _ k1
theorem RBase.alloc {z y : Nat} {s : ByteArray} {stop : Int} {A : Option Addr} {N c : Nat} {W : World} (h : RBase z y s stop A N c W) (o : Obj) : RBase z y s stop A N c (W.alloc o) := h.below ((Below.refl _ W).alloc (Nat.le_refl _) o)
theorem RBase.reads {z y : Nat} {s : ByteArray} {stop : Int} {A : Option Addr} {N c : Nat} {W : World} (h : RBase z y s stop A N c W) : W.cell? ⟨z, 0, none⟩ = some (.int .i64 stop) ∧ W.cell? ⟨y, 0, none⟩ = some (.slice A N c) ∧ W.cell? ⟨y + 1 + 1, 0, none⟩ = some (.func (.func 55) #[] #[.pointer (some ⟨y + 1, 0, none⟩)]) ∧ y + 1 + 1 < W.heap.size := by
  obtain ⟨⟨h1, h2, h3, h4, h5⟩, h6⟩ := h
  exact ⟨h1.cell, h3.cell, h5.cell, h5.lt⟩
theorem RBase.set {z y : Nat} {s : ByteArray} {stop : Int} {A : Option Addr} {N c : Nat} {W : World} (h : RBase z y s stop A N c W) {b : Nat} {t : TypeId} {v : Value} (hb : Boxed W b t v) (hy : y + 1 + 1 < b) (hz : z + 1 < b) (u : Value) (hw : ∀ (j : Nat) (x : Nat × Int) (ad : Addr), (runes s.data.toList)[j]? = some x → A = some ad → (ad.add (j * 3)).block ≠ b) : RBase z y s stop A N c (W.setCell ⟨b, 0, none⟩ u) := by
  obtain ⟨⟨h1, h2, h3, h4, h5⟩, h6⟩ := h
  refine ⟨⟨boxed_setCell h1 (by omega) _, boxed_setCell h2 (by omega) _, boxed_setCell h3 (by omega) _, boxed_setCell h4 (by omega) _, boxed_setCell h5 (by omega) _⟩, fun j x hj => ?_⟩
  obtain ⟨ad, e, k1, k2⟩ := h6 j x hj
  have hne := hw j x ad hj e
  exact ⟨ad, e, (World.cell?_of_block (Below.heap_setCell W ⟨b, 0, none⟩ u _ (by show (ad.add (j * 3)).block ≠ b; exact hne))).trans k1, (World.cell?_of_block (Below.heap_setCell W ⟨b, 0, none⟩ u _ (by show (ad.add (j * 3)).block ≠ b; exact hne))).trans k2⟩

/-- ahead of round 'pre' of the outer loop -/
def twI (z y nb : Nat) (s : ByteArray) (stop : Int) (A : Option Addr) (N c : Nat) (pre : List (Nat × Int)) (W : World) : Prop := RBase z y s stop A N c W ∧ Boxed W nb 3 (.int .i64 pre.length)
theorem twI_cells (z y nb : Nat) (s : ByteArray) (stop : Int) (A : Option Addr) (N c : Nat) : OfCells (twI z y nb s stop A N c) := fun _ _ _ h hk => ⟨h.1.cells hk, hk _ _ h.2 rfl⟩
/-- ahead of round 'pre' of the inner loop -/
def twJ (z y nb mb : Nat) (s : ByteArray) (stop : Int) (A : Option Addr) (N c : Nat) (c0 : Int) (pre : List (Nat × Int)) (W : World) : Prop := RBase z y s stop A N c W ∧ Boxed W nb 3 (.int .i64 c0) ∧ Boxed W mb 3 (.int .i64 pre.length) ∧ ((pre.length : Int) ≤ stop)
def twX (z y nb mb : Nat) (s : ByteArray) (stop : Int) (A : Option Addr) (N c : Nat) (c0 : Int) (k : Code) (pre : List (Nat × Int)) (W : World) : Prop := RBase z y s stop A N c W ∧ Boxed W nb 3 (.int .i64 c0) ∧ Boxed W mb 3 (.int .i64 (stop + 1)) ∧ k = .exit 4
theorem twJ_cells (z y nb mb : Nat) (s : ByteArray) (stop : Int) (A : Option Addr) (N c : Nat) (c0 : Int) : OfCells (twJ z y nb mb s stop A N c c0) := fun _ _ _ h hk => ⟨h.1.cells hk, hk _ _ h.2.1 rfl, hk _ _ h.2.2.1 rfl, h.2.2.2⟩
theorem twX_cells (z y nb mb : Nat) (s : ByteArray) (stop : Int) (A : Option Addr) (N c : Nat) (c0 : Int) (k : Code) : OfCells (twX z y nb mb s stop A N c c0 k) := fun _ _ _ h hk => ⟨h.1.cells hk, hk _ _ h.2.1 rfl, hk _ _ h.2.2.1 rfl, h.2.2.2⟩
/-- the next rune, and its cells -/
theorem next_at {s : ByteArray} {A : Option Addr} {W : World} (h : WantO A (runes s.data.toList) W) {pre : List (Nat × Int)} {i : Nat} {r : Int} (hnext : pre ++ [(i, r)] <+: runes s.data.toList) {c0 : Int} (hc : (pre.length : Int) = c0) {N : Nat} (hN : (runes s.data.toList).length = N) :
    ∃ ad : Addr, A = some ad ∧ W.cell? (ad.add (c0.toNat * 3)) = some (.int .i64 i) ∧ W.cell? ⟨(ad.add (c0.toNat * 3)).block, (ad.add (c0.toNat * 3)).off + 2, none⟩ = some (.int .i32 r) ∧ (0 ≤ c0) = True ∧ (c0 < (N : Int)) = True ∧ ¬ (N : Int) ≤ c0 := by
  obtain ⟨u, hu⟩ := hnext
  have hj : (runes s.data.toList)[pre.length]? = some (i, r) := by rw [← hu]; simp
  obtain ⟨ad, e, k1, k2⟩ := h _ _ hj
  have hl : (pre ++ [(i, r)] ++ u).length = N := by rw [hu, hN]
  simp only [List.length_append, List.length_cons, List.length_nil] at hl
  rw [show c0.toNat = pre.length from by omega]
  exact ⟨ad, e, k1, k2, eq_true (by omega), eq_true (by omega), by omega⟩

theorem gate28 {n : Nat} {P : Program} {o : Array Oper} {b : Bool} {c : Code} {Q : Exit → Act → World → Prop} {a : Act} {w : World} (h : ((Code.region 28 o b).seq c).wp P Q a w) : ((Code.region 28 o b).seq c).wpIn Fence.wide n P Q a w := wpIn_wide.2 h

set_option maxRecDepth 100000 in
set_option maxHeartbeats 40000000 in
theorem twice_walk (s : ByteArray) (stop : Int) (hs : s.size ≤ 1048576) (hst : -9223372036854775808 ≤ stop ∧ stop ≤ 9223372036854775807)
    (P1 : ∀ w, Calls Try.prog 20 #[.string s] w fun e w' => ∃ A c, e = .returned (.slice A (runes s.data.toList).length c) ∧ WantO A (runes s.data.toList) w' ∧ Below w.heap.size w w')
    (k : Nat) (htail : erratalaw01_TextRunes.f k s stop = some true)
    (ow : World) :
    Calls Try.prog 5 #[.string s, .int .i64 stop] ow fun e w' => e = .returned (.bool true) ∧ Below ow.heap.size ow w' := by
  have hnf : ∀ (W : World) (A : Array Value), Sem.run Try.prog (binOp BinOp.eql 34 (Value.func (Fn.func 55) #[] A) Value.nilFunc) W = Result.ok (Value.bool false) W := fun _ _ => rfl
  refine (callsIn_wide (n := 12)).1 ?_
  refine callsIn_of_wp_marks Try.func5 rfl trivial ?_ rfl
  simp only [Try.ntmps5, List.size_toArray, List.length_cons, List.length_nil, Nat.reduceAdd, Nat.reduceSub, Array.replicate_succ, Array.replicate_zero, List.push_toArray, List.append_toArray, List.nil_append, List.cons_append]
  gi_wp2_with ((with_reducible refine And.intro ?_ ?_); exact trivial; gi_at_call 20; (with_reducible refine (callsIn_wide.2 (P1 _)).mono ?_); rintro e w1 ⟨A, c, rfl, hW1, B1⟩)
  obtain ⟨N, hN⟩ : ∃ N, (runes s.data.toList).length = N := ⟨_, rfl⟩
  rw [hN]
  obtain ⟨hzy, HB, hR⟩ := rbase_start ow s stop A N c w1 B1 hW1
  have c1 := hR.1.2.2.2.2.cell
  gi_wp2_with ((with_reducible refine And.intro ?_ ?_); exact trivial; gi_at_call 21; (with_reducible refine (callsIn_wide.2 (runes_in s _)).mono ?_); rintro e w' ⟨rfl, rfl⟩)
  obtain ⟨W0, hW0⟩ : ∃ W0, ((w1.alloc (.cells #[.slice A N c] 31)).alloc (.cells #[.string s] 9)).alloc (.cells #[.func (.func 55) #[] #[.pointer (some ⟨w1.heap.size + 1, 0, none⟩)]] 34) = W0 := ⟨_, rfl⟩
  rw [show rW w1 s A N c = W0 from hW0] at HB hR
  rw [hW0]
  obtain ⟨y, hy⟩ : ∃ y, w1.heap.size = y := ⟨_, rfl⟩
  rw [hy] at hR hzy ⊢
  refine wpIn_loop_rounds 3 ?_
  rw [roundsIn_succ]
  have cb := hR.reads
  obtain ⟨d1, d2, d3, d4⟩ := (hR.alloc (.cells #[.int .i64 0] 3)).reads
  gi_wp2
  have hwl := hR.2.lt
  have rV := hR.alloc (.cells #[.int .i64 0] 3)
  have bV := Boxed.new W0 3 (.int .i64 0)
  have hBV := HB.alloc HB.size (.cells #[.int .i64 0] 3)
  obtain ⟨nb, hnb⟩ : ∃ nb, W0.heap.size = nb := ⟨_, rfl⟩
  obtain ⟨V, hV⟩ : ∃ V, W0.alloc (.cells #[.int .i64 0] 3) = V := ⟨_, rfl⟩
  have d5 : y + 1 + 1 < nb := by rw [← hnb]; exact cb.2.2.2
  rw [hV] at rV bV hBV ⊢
  rw [hnb] at bV hwl ⊢
  clear d1 d2 d3 d4 cb c1
  apply wp_runes_outer 12 (by omega) ow.heap.size (y + 1) s rfl rfl rV.1.2.2.2.1 hBV (Nat.le_refl _) (twI ow.heap.size y nb s stop A N c) (fun _ _ _ => False) (twI_cells _ _ _ _ _ _ _ _) (fun _ => ofCells_pure (fun _ => False)) ⟨rV, bV⟩
  case hassign =>
    intro l i r W K hK
    gi_wp2
    exact hK
  case hbody =>
    rintro l pre i r W ⟨hR1, hn1⟩ hB hbb hsz hnext hl ⟨rr, hrr⟩
    obtain ⟨c0, hc0⟩ : ∃ c0 : Int, (pre.length : Int) = c0 := ⟨_, rfl⟩
    rw [hc0] at hn1
    obtain ⟨ad, rfl, x0, x2, p0, p1, p2⟩ := next_at hR1.2 hnext hc0 hN
    obtain ⟨d1, d2, d3, d4⟩ := hR1.reads
    have cn := hn1.cell
    have fn := hn1.frozen
    have hpl : pre.length + 1 ≤ s.size := by have h1 := hnext.length_le; have h2 := runes_le s; simp only [List.length_append, List.length_cons, List.length_nil] at h1; omega
    have hlen : (((pre ++ [(i, r)]).length : Nat) : Int) = c0 + 1 := by rw [← hc0]; simp
    have hc1 : 0 ≤ c0 ∧ c0 < 4611686018427387904 := by omega
    have hwn : ∀ (j : Nat) (x : Nat × Int) (ad' : Addr), (runes s.data.toList)[j]? = some x → some ad = some ad' → (ad'.add (j * 3)).block ≠ nb := fun j x ad' hj e => by have := hwl j x ad' hj e; omega
    by_cases hcs : c0 = stop
    · subst hcs
      gi_wp2_with fail
      have hnlt := hn1.lt
      have rW' := hR1.alloc (.cells #[.int .i64 0] 3)
      have nW' := hn1.alloc (.cells #[.int .i64 0] 3)
      have mW' := Boxed.new W 3 (.int .i64 0)
      have bW' := (Below.refl W.heap.size W).alloc (Nat.le_refl _) (.cells #[.int .i64 0] 3)
      have lW' := (Below.heap_alloc W (.cells #[.int .i64 0] 3) _ (Array.getElem?_eq_some_iff.1 hrr).1).trans hrr
      have hwm : ∀ (j : Nat) (x : Nat × Int) (ad' : Addr), (runes s.data.toList)[j]? = some x → some ad = some ad' → (ad'.add (j * 3)).block ≠ W.heap.size := fun j x ad' hj e => by have := hwl j x ad' hj e; omega
      obtain ⟨X0, hX0⟩ : ∃ X0, W.alloc (.cells #[.int .i64 0] 3) = X0 := ⟨_, rfl⟩
      rw [hX0] at rW' nW' mW' bW' lW' ⊢
      clear d1 d2 d3 d4 cn fn x0 x2
      apply wp_runes_inner 10 (by omega) W.heap.size (y + 1) s rfl rfl lW' rW'.1.2.2.2.1 bW' (Nat.le_refl _) (twJ ow.heap.size y nb W.heap.size s c0 (some ad) N c c0) (twX ow.heap.size y nb W.heap.size s c0 (some ad) N c c0) (twJ_cells _ _ _ _ _ _ _ _ _ _) (twX_cells _ _ _ _ _ _ _ _ _ _) ⟨rW', nW', mW', hc1.1⟩
      case hassign =>
        intro l2 i2 r2 W2 K hK
        gi_wp2
        exact hK
      case hbody =>
        rintro l2 pre2 i2 q2 W2 ⟨hR2, hn2, hm2, hle⟩ hB2 hbb2 hsz2 hnext2
        obtain ⟨c2, hc2⟩ : ∃ c2 : Int, (pre2.length : Int) = c2 := ⟨_, rfl⟩
        rw [hc2] at hm2 hle
        obtain ⟨ad2, e2, x0, x2, p0', p1', p2'⟩ := next_at hR2.2 hnext2 hc2 hN
        cases e2
        obtain ⟨d1, d2, d3, d4⟩ := hR2.reads
        have cm := hm2.cell
        have fm := hm2.frozen
        have hlen2 : (((pre2 ++ [(i2, q2)]).length : Nat) : Int) = c2 + 1 := by rw [← hc2]; simp
        have hc3 : 0 ≤ c2 ∧ c2 < 4611686018427387904 := by omega
        have eR := hR2.set hm2 (by omega) (by omega) (.int .i64 (c2 + 1)) hwm
        have eT := Turned.set (n₀ := W.heap.size) (Bn := y + 1) hm2 (Nat.le_refl _) (by omega) (.int .i64 (c2 + 1))
        have eN := boxed_setCell hn2 (b := W.heap.size) (by omega) (.int .i64 (c2 + 1))
        have eM := hm2.set (.int .i64 (c2 + 1))
        have cm2 := eM.cell
        obtain ⟨d5', d6, d7, d8⟩ := eR.reads
        by_cases hgt : c0 < c2 + 1
        · gi_wp2
          obtain rfl : c2 = c0 := by omega
          exact ⟨eT, eR, eN, eM, rfl⟩
        · gi_wp2
          exact ⟨eT, eR, eN, by rw [hlen2]; exact eM, by rw [hlen2]; omega⟩
      case hdone =>
        rintro W2 ⟨hR2, hn2, hm2, hle⟩ hB2 hO2
        exact absurd hle (by rw [hN]; omega)
      case hstop =>
        rintro k pre2 W2 hpre2 ⟨hR2, hn2, hm2, rfl⟩ hB2 hO2
        obtain ⟨d1, d2, d3, d4⟩ := hR2.reads
        have cn := hn2.cell
        have fn := hn2.frozen
        have cm := hm2.cell
        gi_wp2
        exact ⟨(Turned.of_below hB2 (Nat.le_refl _)).trans (Turned.set hn2 (by omega) (by omega) _), hR2.set hn2 (by omega) (by omega) _ hwn, by rw [hlen]; exact hn2.set _⟩
    · gi_wp2
      exact ⟨Turned.set hn1 (by omega) (by omega) _, hR1.set hn1 (by omega) (by omega) _ hwn, by rw [hlen]; exact hn1.set _⟩
  case hdone =>
    rintro D W hD ⟨hR1, hn1⟩ hB hO hK
    have hzD : ow.heap.size ≤ D := by have h1 := hBV.size; omega
    rw [hN] at hn1
    have hwl := hR1.2.lt
    obtain ⟨d1, d2, d3, d4⟩ := hR1.reads
    have cn := hn1.cell
    have hne : ¬ ((N : Int) = N) = False := by simp
    gi_wp2
    rw [roundsIn_succ]
    have rV := hR1.alloc (.cells #[.int .i64 0] 3)
    have bV := Boxed.new W 3 (.int .i64 0)
    have hBV := hB.alloc hB.size (.cells #[.int .i64 0] 3)
    have kV := (Below.heap_alloc W (.cells #[.int .i64 0] 3) _ (Array.getElem?_eq_some_iff.1 hK).1).trans hK
    clear d1 d2 d3 cn
    obtain ⟨d1, d2, d3, _⟩ := rV.reads
    gi_wp2
    obtain ⟨nb, hnb⟩ : ∃ nb, W.heap.size = nb := ⟨_, rfl⟩
    obtain ⟨V, hV⟩ : ∃ V, W.alloc (.cells #[.int .i64 0] 3) = V := ⟨_, rfl⟩
    have d5 : y + 1 + 1 < nb := by rw [← hnb]; exact d4
    rw [hV] at rV bV hBV kV ⊢
    rw [hnb] at bV hwl ⊢
    clear d1 d2 d3 d4
    apply wp_runes_outer 12 (by omega) ow.heap.size (y + 1) s rfl rfl rV.1.2.2.2.1 hBV (Nat.le_refl _) (twI ow.heap.size y nb s stop A N c) (fun _ _ _ => False) (twI_cells _ _ _ _ _ _ _ _) (fun _ => ofCells_pure (fun _ => False)) ⟨rV, bV⟩
    case hassign =>
      intro l i r W K hK
      gi_wp2
      exact hK
    case hbody =>
      rintro l pre i r W ⟨hR1, hn1⟩ hB hbb hsz hnext hl ⟨rr, hrr⟩
      obtain ⟨c0, hc0⟩ : ∃ c0 : Int, (pre.length : Int) = c0 := ⟨_, rfl⟩
      rw [hc0] at hn1
      obtain ⟨ad, rfl, x0, x2, p0, p1, p2⟩ := next_at hR1.2 hnext hc0 hN
      obtain ⟨d1, d2, d3, d4⟩ := hR1.reads
      have cn := hn1.cell
      have fn := hn1.frozen
      have hpl : pre.length + 1 ≤ s.size := by have h1 := hnext.length_le; have h2 := runes_le s; simp only [List.length_append, List.length_cons, List.length_nil] at h1; omega
      have hlen : (((pre ++ [(i, r)]).length : Nat) : Int) = c0 + 1 := by rw [← hc0]; simp
      have hc1 : 0 ≤ c0 ∧ c0 < 4611686018427387904 := by omega
      have hwn : ∀ (j : Nat) (x : Nat × Int) (ad' : Addr), (runes s.data.toList)[j]? = some x → some ad = some ad' → (ad'.add (j * 3)).block ≠ nb := fun j x ad' hj e => by have := hwl j x ad' hj e; omega
      by_cases hcs : c0 = stop
      · subst hcs
        gi_wp2_with fail
        have hnlt := hn1.lt
        have rW' := hR1.alloc (.cells #[.int .i64 0] 3)
        have nW' := hn1.alloc (.cells #[.int .i64 0] 3)
        have mW' := Boxed.new W 3 (.int .i64 0)
        have bW' := (Below.refl W.heap.size W).alloc (Nat.le_refl _) (.cells #[.int .i64 0] 3)
        have lW' := (Below.heap_alloc W (.cells #[.int .i64 0] 3) _ (Array.getElem?_eq_some_iff.1 hrr).1).trans hrr
        have hwm : ∀ (j : Nat) (x : Nat × Int) (ad' : Addr), (runes s.data.toList)[j]? = some x → some ad = some ad' → (ad'.add (j * 3)).block ≠ W.heap.size := fun j x ad' hj e => by have := hwl j x ad' hj e; omega
        obtain ⟨X0, hX0⟩ : ∃ X0, W.alloc (.cells #[.int .i64 0] 3) = X0 := ⟨_, rfl⟩
        rw [hX0] at rW' nW' mW' bW' lW' ⊢
        clear d1 d2 d3 d4 cn fn x0 x2
        apply wp_runes_inner 10 (by omega) W.heap.size (y + 1) s rfl rfl lW' rW'.1.2.2.2.1 bW' (Nat.le_refl _) (twJ ow.heap.size y nb W.heap.size s c0 (some ad) N c c0) (twX ow.heap.size y nb W.heap.size s c0 (some ad) N c c0) (twJ_cells _ _ _ _ _ _ _ _ _ _) (twX_cells _ _ _ _ _ _ _ _ _ _) ⟨rW', nW', mW', hc1.1⟩
        case hassign =>
          intro l2 i2 r2 W2 K hK
          gi_wp2
          exact hK
        case hbody =>
          rintro l2 pre2 i2 q2 W2 ⟨hR2, hn2, hm2, hle⟩ hB2 hbb2 hsz2 hnext2
          obtain ⟨c2, hc2⟩ : ∃ c2 : Int, (pre2.length : Int) = c2 := ⟨_, rfl⟩
          rw [hc2] at hm2 hle
          obtain ⟨ad2, e2, x0, x2, p0', p1', p2'⟩ := next_at hR2.2 hnext2 hc2 hN
          cases e2
          obtain ⟨d1, d2, d3, d4⟩ := hR2.reads
          have cm := hm2.cell
          have fm := hm2.frozen
          have hlen2 : (((pre2 ++ [(i2, q2)]).length : Nat) : Int) = c2 + 1 := by rw [← hc2]; simp
          have hc3 : 0 ≤ c2 ∧ c2 < 4611686018427387904 := by omega
          have eR := hR2.set hm2 (by omega) (by omega) (.int .i64 (c2 + 1)) hwm
          have eT := Turned.set (n₀ := W.heap.size) (Bn := y + 1) hm2 (Nat.le_refl _) (by omega) (.int .i64 (c2 + 1))
          have eN := boxed_setCell hn2 (b := W.heap.size) (by omega) (.int .i64 (c2 + 1))
          have eM := hm2.set (.int .i64 (c2 + 1))
          have cm2 := eM.cell
          obtain ⟨d5', d6, d7, d8⟩ := eR.reads
          by_cases hgt : c0 < c2 + 1
          · gi_wp2
            obtain rfl : c2 = c0 := by omega
            exact ⟨eT, eR, eN, eM, rfl⟩
          · gi_wp2
            exact ⟨eT, eR, eN, by rw [hlen2]; exact eM, by rw [hlen2]; omega⟩
        case hdone =>
          rintro W2 ⟨hR2, hn2, hm2, hle⟩ hB2 hO2
          exact absurd hle (by rw [hN]; omega)
        case hstop =>
          rintro k pre2 W2 hpre2 ⟨hR2, hn2, hm2, rfl⟩ hB2 hO2
          obtain ⟨d1, d2, d3, d4⟩ := hR2.reads
          have cn := hn2.cell
          have fn := hn2.frozen
          have cm := hm2.cell
          gi_wp2
          exact ⟨(Turned.of_below hB2 (Nat.le_refl _)).trans (Turned.set hn2 (by omega) (by omega) _), hR2.set hn2 (by omega) (by omega) _ hwn, by rw [hlen]; exact hn2.set _⟩
      · gi_wp2
        exact ⟨Turned.set hn1 (by omega) (by omega) _, hR1.set hn1 (by omega) (by omega) _ hwn, by rw [hlen]; exact hn1.set _⟩
    case hdone =>
      rintro D2 w hD2 ⟨hR2, hn2⟩ hB2 hO2 hK2
      have hK1 := hO2 D _ kV rfl
      rw [hN] at hn2
      obtain ⟨d1, d2, d3, d4⟩ := hR2.reads
      have cn := hn2.cell
      gi_wp2
      rw [roundsIn_succ]
      repeat (first | (with_reducible refine gate28 ?_) | gi_step | gi_upon)
      have hDl : D < w.heap.size := (Array.getElem?_eq_some_iff.1 hK1).1
      have hDl2 : D2 < w.heap.size := (Array.getElem?_eq_some_iff.1 hK2).1
      have hrb := hR2.1.2.1
      have hres : ∀ W', Below w.heap.size w W' → W'.cell? ⟨ow.heap.size + 1, 0, none⟩ = some (.bool false) ∧ W'.frozen? ⟨ow.heap.size + 1, 0, none⟩ = false := fun W' hb => by
        have h9 : Boxed W' (ow.heap.size + 1) 4 (.bool false) := (hb.block _ hrb.lt).trans hrb
        exact ⟨h9.cell, h9.frozen⟩
      have hDD : D < D2 := by have := (Array.getElem?_eq_some_iff.1 kV).1; omega
      have hz1 : ow.heap.size ≤ D ∧ ow.heap.size ≤ D2 := by have h1 := hBV.size; exact ⟨hzD, by omega⟩
      clear d1 d2 d3 cn
      have HB := Aside0.mk (Below.refl w.heap.size w)
      have h := htail
      -- TAIL BEGINS
      have H : ((errataref01_Breaks.f k s).bind fun t123 => ((text_Breaks.f s).bind fun t126 => ((text_Breaks.f s).bind fun t129 => ((erratalaw01_sameInts.f k t126 t123).bind fun t132 => (if t132 = true then ((erratalaw01_sameInts.f k t129 t123).bind fun t133 => (erratalaw01_TextRunes.j0 k t123 t126 t129 (!t133))) else (erratalaw01_TextRunes.j0 k t123 t126 t129 true)))))) = some true := h
      clear h
      replace H := Option.bind_eq_some_iff.mp H
      obtain ⟨t123, A30, H⟩ := H
      replace H : ((text_Breaks.f s).bind fun t126 => ((text_Breaks.f s).bind fun t129 => ((erratalaw01_sameInts.f k t126 t123).bind fun t132 => (if t132 = true then ((erratalaw01_sameInts.f k t129 t123).bind fun t133 => (erratalaw01_TextRunes.j0 k t123 t126 t129 (!t133))) else (erratalaw01_TextRunes.j0 k t123 t126 t129 true))))) = some true := H
      have A3 := Aside0.mk A30
      clear A30
      replace H := Option.bind_eq_some_iff.mp H
      obtain ⟨t126, A40, H⟩ := H
      replace H : ((text_Breaks.f s).bind fun t129 => ((erratalaw01_sameInts.f k t126 t123).bind fun t132 => (if t132 = true then ((erratalaw01_sameInts.f k t129 t123).bind fun t133 => (erratalaw01_TextRunes.j0 k t123 t126 t129 (!t133))) else (erratalaw01_TextRunes.j0 k t123 t126 t129 true)))) = some true := H
      have A4 := Aside0.mk A40
      clear A40
      replace H := Option.bind_eq_some_iff.mp H
      obtain ⟨t129, A50, H⟩ := H
      replace H : ((erratalaw01_sameInts.f k t126 t123).bind fun t132 => (if t132 = true then ((erratalaw01_sameInts.f k t129 t123).bind fun t133 => (erratalaw01_TextRunes.j0 k t123 t126 t129 (!t133))) else (erratalaw01_TextRunes.j0 k t123 t126 t129 true))) = some true := H
      have A5 := Aside0.mk A50
      clear A50
      have HC6 := Aside0.mk H
      clear H
      go_upto_region 31 with (first | (go_at_call 22; (with_reducible refine (errataref01_Breaks.calls k s t123 _ A3.out).mono ?_); clear A3; rintro e w7 ⟨v124, rfl, ho0, hb⟩;  have n0_ := Aside0.mk (Kd.R_lower ho0 (below_size (by repeat (first | (with_reducible first | exact HB.out | apply below_alloc | apply pw_below_drewN | apply below_drew1) | exact HB.out)))); have n1_ := Aside0.mk (below_step (by repeat (first | (with_reducible first | exact HB.out | apply below_alloc | apply pw_below_drewN | apply below_drew1) | exact HB.out)) hb); clear HB; have HO125 := n0_; have HB := n1_; clear n0_ n1_; (try clear hb); (try clear hb2); (try clear hk); (try clear hi); (try clear ho0)) | (go_at_call 23; (with_reducible refine (text_Breaks.calls s t126 _ A4.out).mono ?_); clear A4; rintro e w8 ⟨v127, rfl, ho0, hb⟩;  have n0_ := Aside0.mk (Kd.R_elder' (by (with_reducible repeat (first | apply Kd.R_alloc | apply Kd.R_drewN | apply Kd.R_drew)); exact HO125.out) (Kd.R_base ho0) hb); have n1_ := Aside0.mk (Kd.R_lower (Kd.R_new' ho0 (Kd.R_lt (by (with_reducible repeat (first | apply Kd.R_alloc | apply Kd.R_drewN | apply Kd.R_drew)); exact HO125.out))) (below_size (by repeat (first | (with_reducible first | exact HB.out | apply below_alloc | apply pw_below_drewN | apply below_drew1) | exact HB.out)))); have n2_ := Aside0.mk (below_step (by repeat (first | (with_reducible first | exact HB.out | apply below_alloc | apply pw_below_drewN | apply below_drew1) | exact HB.out)) hb); clear HO125; clear HB; have HO125 := n0_; have HO128 := n1_; have HB := n2_; clear n0_ n1_ n2_; (try clear hb); (try clear hb2); (try clear hk); (try clear hi); (try clear ho0)) | (go_at_call 23; (with_reducible refine (text_Breaks.calls s t129 _ A5.out).mono ?_); clear A5; rintro e w9 ⟨v130, rfl, ho0, hb⟩;  have n0_ := Aside0.mk (Kd.R_elder' (by (with_reducible repeat (first | apply Kd.R_alloc | apply Kd.R_drewN | apply Kd.R_drew)); exact HO125.out) (Kd.R_base ho0) hb); have n1_ := Aside0.mk (Kd.R_elder' (by (with_reducible repeat (first | apply Kd.R_alloc | apply Kd.R_drewN | apply Kd.R_drew)); exact HO128.out) (Kd.R_base ho0) hb); have n2_ := Aside0.mk (Kd.R_lower (Kd.R_new' (Kd.R_new' ho0 (Kd.R_lt (by (with_reducible repeat (first | apply Kd.R_alloc | apply Kd.R_drewN | apply Kd.R_drew)); exact HO125.out))) (Kd.R_lt (by (with_reducible repeat (first | apply Kd.R_alloc | apply Kd.R_drewN | apply Kd.R_drew)); exact HO128.out))) (below_size (by repeat (first | (with_reducible first | exact HB.out | apply below_alloc | apply pw_below_drewN | apply below_drew1) | exact HB.out)))); have n3_ := Aside0.mk (below_step (by repeat (first | (with_reducible first | exact HB.out | apply below_alloc | apply pw_below_drewN | apply below_drew1) | exact HB.out)) hb); clear HO125; clear HO128; clear HB; have HO125 := n0_; have HO128 := n1_; have HO131 := n2_; have HB := n3_; clear n0_ n1_ n2_ n3_; (try clear hb); (try clear hb2); (try clear hk); (try clear hi); (try clear ho0)))
      (try simp only [Act.put, List.setIfInBounds_toArray, List.set_cons_zero, List.set_cons_succ])
      go_cut [112] from 103 to 112 (fun v112 wc => ∃ (kq : Nat) (x112_5 : Bool), v112 = .bool x112_5 ∧ Aside0 (erratalaw01_TextRunes.j0 kq t123 t126 t129 x112_5 = some true) ∧ Aside0 (kq ≤ k) ∧ Aside0 (Kd.R (Kd.int .i64) 3 wc w.heap.size (fun k_ => some k_ ≠ (v127 : Value).ownBlock ∧ some k_ ≠ (v130 : Value).ownBlock) v124 t123) ∧ Aside0 (Kd.R (Kd.int .i64) 3 wc w.heap.size (fun k_ => some k_ ≠ (v124 : Value).ownBlock ∧ some k_ ≠ (v130 : Value).ownBlock) v127 t126) ∧ Aside0 (Kd.R (Kd.int .i64) 3 wc w.heap.size (fun k_ => some k_ ≠ (v124 : Value).ownBlock ∧ some k_ ≠ (v127 : Value).ownBlock) v130 t129) ∧ Aside0 (Below w.heap.size w wc))
      case first =>
        have H := HC6.out
        clear HC6
        replace H := Option.bind_eq_some_iff.mp H
        obtain ⟨t132, A100, H⟩ := H
        replace H : (if t132 = true then ((erratalaw01_sameInts.f k t129 t123).bind fun t133 => (erratalaw01_TextRunes.j0 k t123 t126 t129 (!t133))) else (erratalaw01_TextRunes.j0 k t123 t126 t129 true)) = some true := H
        have A10 := Aside0.mk A100
        clear A100
        by_cases c11 : t132 = true
        · subst c11
          have H1 : ((erratalaw01_sameInts.f k t129 t123).bind fun t133 => (erratalaw01_TextRunes.j0 k t123 t126 t129 (!t133))) = some true := by rw [if_pos rfl] at H; exact H
          clear H
          have H := H1
          clear H1
          replace H := Option.bind_eq_some_iff.mp H
          obtain ⟨t133, A120, H⟩ := H
          replace H : (erratalaw01_TextRunes.j0 k t123 t126 t129 (!t133)) = some true := H
          have A12 := Aside0.mk A120
          clear A120
          have H' := Aside0.mk H
          clear H
          obtain ⟨Ao13, co13, eo13⟩ := Kd.R_slice HO128.out
          subst eo13
          obtain ⟨Ao14, co14, eo14⟩ := Kd.R_slice HO125.out
          subst eo14
          go_wp2_with (first | (go_at_call 24; (with_reducible refine (erratalaw01_sameInts.calls k _ _ t126 _ _ t123 true _ ?side1 ?side2 ?side3 ?side4 A10.out).mono ?_); (case side1 => repeat (first | exact (Kd.R_reads' HO128.out).2.2 | (with_reducible refine Kd.C_alloc ?_ _) | (with_reducible refine Kd.C_drewN ?_ _) | (with_reducible refine Kd.C_drew ?_))); (case side2 => exact (Kd.R_reads' HO128.out).2.1); (case side3 => repeat (first | exact (Kd.R_reads' HO125.out).2.2 | (with_reducible refine Kd.C_alloc ?_ _) | (with_reducible refine Kd.C_drewN ?_ _) | (with_reducible refine Kd.C_drew ?_))); (case side4 => exact (Kd.R_reads' HO125.out).2.1); rintro e w' ⟨rfl, ⟨nd, rfl⟩⟩;  obtain ⟨Ao15, co15, eo15⟩ := Kd.R_slice HO131.out; subst eo15) | (go_at_call 24; (with_reducible refine (erratalaw01_sameInts.calls k _ _ t129 _ _ t123 t133 _ ?side1 ?side2 ?side3 ?side4 A12.out).mono ?_); (case side1 => repeat (first | exact (Kd.R_reads' HO131.out).2.2 | (with_reducible refine Kd.C_alloc ?_ _) | (with_reducible refine Kd.C_drewN ?_ _) | (with_reducible refine Kd.C_drew ?_))); (case side2 => exact (Kd.R_reads' HO131.out).2.1); (case side3 => repeat (first | exact (Kd.R_reads' HO125.out).2.2 | (with_reducible refine Kd.C_alloc ?_ _) | (with_reducible refine Kd.C_drewN ?_ _) | (with_reducible refine Kd.C_drew ?_))); (case side4 => exact (Kd.R_reads' HO125.out).2.1); rintro e w' ⟨rfl, ⟨nd, rfl⟩⟩))
          go_meet
          case rel => exact ⟨_, (!t133), (by first | rfl | (simp; done) | (simp [*]; done)), H', ⟨by first | omega | exact Nat.le_refl _⟩, ⟨by (with_reducible repeat (first | apply Kd.R_alloc | apply Kd.R_drewN | apply Kd.R_drew)); exact Kd.R_mono HO125.out (fun _ hk => ⟨hk.1.2, hk.2⟩)⟩, ⟨by (with_reducible repeat (first | apply Kd.R_alloc | apply Kd.R_drewN | apply Kd.R_drew)); exact Kd.R_mono HO128.out (fun _ hk => ⟨hk.1.2, hk.2⟩)⟩, ⟨by (with_reducible repeat (first | apply Kd.R_alloc | apply Kd.R_drewN | apply Kd.R_drew)); exact Kd.R_mono HO131.out (fun _ hk => ⟨hk.1.2, hk.2⟩)⟩, ⟨by repeat (first | (with_reducible first | exact HB.out | apply below_alloc | apply pw_below_drewN | apply below_drew1) | exact HB.out)⟩⟩
        · replace c11 := Bool.eq_false_iff.mpr c11
          subst c11
          have H1 : (erratalaw01_TextRunes.j0 k t123 t126 t129 true) = some true := by rw [if_neg (show ¬ (false = true) by decide)] at H; exact H
          exact absurd H1 (by cases k <;> simp [erratalaw01_TextRunes.j0])
      case rest =>
        clear HC6
        try clear c1
        try clear c2
        try clear p2
        try clear c5
        try clear c11
        obtain ⟨kq, x112_5, rfl, HA, HJ5, HO_14, HO_15, HO_16, HB⟩ := hcut
        cases kq with
        | zero => exact absurd HA.out (by simp [erratalaw01_TextRunes.j0])
        | succ kj5 =>
          have H := HA.out
          clear HA
          simp only [erratalaw01_TextRunes.j0] at H
          by_cases c18 : x112_5 = true
          · subst c18
            have H1 : (some false) = some true := by rw [if_pos rfl] at H; exact H
            clear H
            have H := H1
            clear H1
            exact absurd (Option.some.inj H) (by decide)
          · replace c18 := Bool.eq_false_iff.mpr c18
            subst c18
            have H1 : (erratalaw01_TextRunes.l0 kj5 t123 t126 t129 0) = some true := by rw [if_neg (show ¬ (false = true) by decide)] at H; exact H
            clear H
            have H := H1
            clear H1
            have H' := Aside0.mk H
            clear H
            go_wp2
            go_loopg [17] kj5 (fun kq v17 w' => ∃ (x15_2 : List Int) (x17_2 : Int), v17 = .int .i64 x17_2 ∧ Aside0 (erratalaw01_TextRunes.l0 kq t123 x15_2 t129 x17_2 = some true) ∧ Aside0 (kq ≤ kj5) ∧ Aside0 (Kd.R (Kd.int .i64) 3 w' w.heap.size (fun k_ => some k_ ≠ (v127 : Value).ownBlock ∧ some k_ ≠ (v130 : Value).ownBlock) v124 t123) ∧ Aside0 (Kd.R (Kd.int .i64) 3 w' w.heap.size (fun k_ => some k_ ≠ (v124 : Value).ownBlock ∧ some k_ ≠ (v130 : Value).ownBlock) v127 x15_2) ∧ Aside0 (Kd.R (Kd.int .i64) 3 w' w.heap.size (fun k_ => some k_ ≠ (v124 : Value).ownBlock ∧ some k_ ≠ (v127 : Value).ownBlock) v130 t129) ∧ Aside0 (Below w.heap.size w w'))
            case atStart => exact ⟨(t126), (0), (by first | rfl | (simp; done) | (simp [*]; done)), H', ⟨Nat.le_refl _⟩, ⟨by (with_reducible repeat (first | apply Kd.R_alloc | apply Kd.R_drewN | apply Kd.R_drew)); exact HO_14.out⟩, ⟨by (with_reducible repeat (first | apply Kd.R_alloc | apply Kd.R_drewN | apply Kd.R_drew)); exact HO_15.out⟩, ⟨by (with_reducible repeat (first | apply Kd.R_alloc | apply Kd.R_drewN | apply Kd.R_drew)); exact HO_16.out⟩, ⟨by repeat (first | (with_reducible first | exact HB.out | apply below_alloc | apply pw_below_drewN | apply below_drew1) | exact HB.out)⟩⟩
            case round =>
              clear H'
              try clear c1
              try clear c2
              try clear p2
              try clear c5
              try clear c11
              try clear c18
              try clear p2
              obtain ⟨x15_2, x17_2, rfl, HA, HK2, HO_14, HO_15, HO_16, HB⟩ := hrel
              cases gk with
              | zero => exact absurd HA.out (by simp [erratalaw01_TextRunes.l0])
              | succ k2 =>
                have H := HA.out
                clear HA
                simp only [erratalaw01_TextRunes.l0] at H
                by_cases c19 : x17_2 < (x15_2.length : Int)
                · rw [if_pos c19] at H
                  have c19b0 : decide (x17_2 < (x15_2.length : Int)) = true := decide_eq_true c19
                  clear c19
                  by_cases c20 : 0 ≤ x17_2
                  · rw [if_pos c20] at H
                    have c20b0 : decide (0 ≤ x17_2) = true := decide_eq_true c20
                    clear c20
                    obtain ⟨y134, hy134⟩ : ∃ y_ : List Int, y_ = (x15_2.set (x17_2 : Int).toNat (-9)) := ⟨_, rfl⟩
                    replace H : (erratalaw01_TextRunes.l0 k2 t123 y134 t129 (wrap64 (x17_2 + 1))) = some true := by first | (rw [hy134]; with_reducible exact H) | (have H2_ := (Option.bind_some _ _).symm.trans H; rw [hy134]; with_reducible exact H2_) | (have H2_ := (Option.bind_some _ _).symm.trans H; with_reducible exact H2_) | with_reducible exact H | (rw [hy134]; exact H) | exact H
                    have Ny134 := Aside0.mk hy134
                    clear hy134
                    have H' := Aside0.mk H
                    clear H
                    obtain ⟨Ao22, co22, eo22⟩ := Kd.R_slice HO_15.out
                    subst eo22
                    have p21 : 0 ≤ (x17_2 : Int) := of_decide_eq_true (by first | (with_reducible assumption) | assumption)
                    have q21 : (x17_2 : Int) < ((x15_2.length : Int) : Int) := of_decide_eq_true (by first | (with_reducible assumption) | assumption)
                    obtain ⟨go21, co21, eo21, gb21, gl21, cl21, HG21⟩ := Kd.R_form HO_15.out (by omega)
                    (first | cases eo21 | (injection eo21 with ea_ en_ ec_; (first | subst ea_ | (injection ea_ with ea_; subst ea_)); subst ec_; clear en_))
                    have GB21 := Aside0.mk gb21
                    have GG21 := Aside0.mk HG21
                    clear gb21 gl21 HG21
                    obtain ⟨hx21_0, hf21_0⟩ := Kd.R_celln 0 HO_15.out (x17_2 : Int) p21 q21
                    replace p21 := eq_true p21
                    replace q21 := eq_true q21
                    have HP23 := Kd.R_putg HO_15.out (x17_2 : Int) (-9)
                    go_wp2_with (first | ((with_reducible refine gate_store (t := 3) (p := 121) rfl ?_); refine store_event (t := 3) (p := 121) (v := ?vo_w24) (w1 := (wr.setCell ⟨go21, (x17_2 : Int).toNat, none⟩ (.int .i64 (-9)))) ?hg ?ho ?hn ?hr ?_; (case ho => rfl); (case hg => rfl); (case hn => rfl); (case hr => first | (go_simp; done) | (go_simp; rfl)); intro w24 hw; have hg : wr.grownBy w24 (some go21) := (by rw [hw]; exact HP23.2); have hp_ : Kd.R (Kd.int .i64) 3 w24 w.heap.size (fun k_ => some k_ ≠ (v124 : Value).ownBlock ∧ some k_ ≠ (v130 : Value).ownBlock) (.slice (some ⟨go21, 0, none⟩) x15_2.length co22) y134 := (by rw [hw, Ny134.out]; exact HP23.1); clear HP23; have n0_ := Aside0.mk (Kd.R_after (v := (.slice (some ⟨go21, 0, none⟩) x15_2.length co22)) (v1 := (.slice (some ⟨go21, 0, none⟩) x15_2.length co22)) (ok := (fun k_ => some k_ ≠ (v130 : Value).ownBlock)) (by (with_reducible repeat (first | apply Kd.R_alloc | apply Kd.R_drewN | apply Kd.R_drew)); exact Kd.R_mono HO_14.out (fun _ hk => ⟨hk.2, hk.1⟩)) hg (.inl rfl)); have n1_ := Aside0.mk (hp_); have n2_ := Aside0.mk (Kd.R_after (v := (.slice (some ⟨go21, 0, none⟩) x15_2.length co22)) (v1 := (.slice (some ⟨go21, 0, none⟩) x15_2.length co22)) (ok := (fun k_ => some k_ ≠ (v124 : Value).ownBlock)) (by (with_reducible repeat (first | apply Kd.R_alloc | apply Kd.R_drewN | apply Kd.R_drew)); exact HO_16.out) hg (.inl rfl)); have n3_ := Aside0.mk ((by rw [hw]; exact below_set (HB.out) GB21.out : Below w.heap.size w w24)); clear HO_14; clear HO_15; clear HO_16; clear HB; have HO_14 := n0_; have HO_15 := n1_; have HO_16 := n2_; have HB := n3_; clear n0_ n1_ n2_ n3_; clear hg hw hp_))
                    go_roundg k2
                    case measure => have := HJ5.out; have := HK2.out; omega
                    case rel => exact ⟨(y134), (wrap64 (x17_2 + 1)), (by first | rfl | (simp; done) | (simp [*]; done)), H', ⟨by have := HJ5.out; have := HK2.out; omega⟩, ⟨by (with_reducible repeat (first | apply Kd.R_alloc | apply Kd.R_drewN | apply Kd.R_drew)); exact Kd.R_mono HO_14.out (fun _ hk => ⟨hk.2, hk.1⟩)⟩, ⟨by (with_reducible repeat (first | apply Kd.R_alloc | apply Kd.R_drewN | apply Kd.R_drew)); exact HO_15.out⟩, ⟨by (with_reducible repeat (first | apply Kd.R_alloc | apply Kd.R_drewN | apply Kd.R_drew)); exact HO_16.out⟩, ⟨by repeat (first | (with_reducible first | exact HB.out | apply below_alloc | apply pw_below_drewN | apply below_drew1) | exact HB.out)⟩⟩
                  · rw [if_neg c20] at H
                    exact absurd H (by simp)
                · rw [if_neg c19] at H
                  have c19b0 : decide (x17_2 < (x15_2.length : Int)) = false := decide_eq_false c19
                  clear c19
                  have H' := Aside0.mk H
                  clear H
                  obtain ⟨Ao25, co25, eo25⟩ := Kd.R_slice HO_15.out
                  subst eo25
                  go_wp2
                  go_loopg [15, 18] k2 (fun kq v15 v18 w' => ∃ (x15_3 : List Int) (x18_3 : Int), v18 = .int .i64 x18_3 ∧ Aside0 (erratalaw01_TextRunes.l1 kq t123 x15_3 t129 x18_3 = some true) ∧ Aside0 (kq ≤ k2) ∧ Aside0 (Kd.R (Kd.int .i64) 3 w' w.heap.size (fun k_ => some k_ ≠ (v15 : Value).ownBlock ∧ some k_ ≠ (v130 : Value).ownBlock) v124 t123) ∧ Aside0 (Kd.R (Kd.int .i64) 3 w' w.heap.size (fun k_ => some k_ ≠ (v124 : Value).ownBlock ∧ some k_ ≠ (v130 : Value).ownBlock) v15 x15_3) ∧ Aside0 (Kd.R (Kd.int .i64) 3 w' w.heap.size (fun k_ => some k_ ≠ (v124 : Value).ownBlock ∧ some k_ ≠ (v15 : Value).ownBlock) v130 t129) ∧ Aside0 (Below w.heap.size w w'))
                  case atStart => exact ⟨(x15_2), (0), (by first | rfl | (simp; done) | (simp [*]; done)), H', ⟨Nat.le_refl _⟩, ⟨by (with_reducible repeat (first | apply Kd.R_alloc | apply Kd.R_drewN | apply Kd.R_drew)); exact HO_14.out⟩, ⟨by (with_reducible repeat (first | apply Kd.R_alloc | apply Kd.R_drewN | apply Kd.R_drew)); exact HO_15.out⟩, ⟨by (with_reducible repeat (first | apply Kd.R_alloc | apply Kd.R_drewN | apply Kd.R_drew)); exact HO_16.out⟩, ⟨by repeat (first | (with_reducible first | exact HB.out | apply below_alloc | apply pw_below_drewN | apply below_drew1) | exact HB.out)⟩⟩
                  case round =>
                    clear H'
                    try clear c1
                    try clear c2
                    try clear p2
                    try clear q2
                    try clear hx2
                    try clear hf2
                    try clear c5
                    try clear p6
                    try clear c11
                    try clear c18
                    try clear c19
                    try clear c19b0
                    try clear c20
                    try clear c20b0
                    try clear p21
                    try clear q21
                    try clear hx21
                    try clear hf21
                    try clear c22
                    try clear c23
                    try clear c24
                    try clear hx21_0
                    try clear p2
                    try clear p21
                    try clear q21
                    obtain ⟨x15_3, x18_3, rfl, HA, HK3, HO_14, HO_15, HO_16, HB⟩ := hrel
                    cases gk with
                    | zero => exact absurd HA.out (by simp [erratalaw01_TextRunes.l1])
                    | succ k3 =>
                      have H := HA.out
                      clear HA
                      simp only [erratalaw01_TextRunes.l1] at H
                      by_cases c26 : x18_3 < 20
                      · rw [if_pos c26] at H
                        have c26b0 : decide (x18_3 < 20) = true := decide_eq_true c26
                        clear c26
                        by_cases c27 : x15_3.length < 17592186044416
                        · rw [if_pos c27] at H
                          have LMc27 := Aside0.mk c27
                          clear c27
                          obtain ⟨y135, hy135⟩ : ∃ y_ : List Int, y_ = (x15_3 ++ [(-9)]) := ⟨_, rfl⟩
                          replace H : (erratalaw01_TextRunes.l1 k3 t123 y135 t129 (wrap64 (x18_3 + 1))) = some true := by first | (rw [hy135]; with_reducible exact H) | (have H2_ := (Option.bind_some _ _).symm.trans H; rw [hy135]; with_reducible exact H2_) | (have H2_ := (Option.bind_some _ _).symm.trans H; with_reducible exact H2_) | with_reducible exact H | (rw [hy135]; exact H) | exact H
                          have Ny135 := Aside0.mk hy135
                          clear hy135
                          have H' := Aside0.mk H
                          clear H
                          go_wp2_with (first | ((with_reducible refine gate_builtin (b := .append) (xs := #[.tmp 126, .tmp 127]) rfl ?_); at_builtin; refine Kd.R_append (Kd.int .i64) (w0 := w) w.heap.size rfl (.tmp 126) (.tmp 127) 38 3 (.int .i64 0) 8 rfl Try.underlying38 info3 rfl (by decide) (by omega) u15 x15_3 (-9) [.int .i64 (-9)] (fun k_ => some k_ ≠ (v124 : Value).ownBlock ∧ some k_ ≠ (v130 : Value).ownBlock) (fun _ => False) rfl rfl ?aP (fun _ hk => hk.elim) ?aF ?aO ?aB ?aS ?aL ?_; (case aP => exact rfl); (case aB => exact (by repeat (first | (with_reducible first | exact HB.out | apply below_alloc | apply pw_below_drewN | apply below_drew1) | exact HB.out))); (case aF => exact (fun k_ hk => ⟨Kd.fresh' (Kd.R_lt (by (with_reducible repeat (first | apply Kd.R_alloc | apply Kd.R_drewN | apply Kd.R_drew)); exact HO_14.out)) k_ hk, Kd.fresh' (Kd.R_lt (by (with_reducible repeat (first | apply Kd.R_alloc | apply Kd.R_drewN | apply Kd.R_drew)); exact HO_16.out)) k_ hk⟩)); (case aO => exact (by (with_reducible repeat (first | apply Kd.R_alloc | apply Kd.R_drewN | apply Kd.R_drew)); exact HO_15.out)); (case aS => exact (below_size (by repeat (first | (with_reducible first | exact HB.out | apply below_alloc | apply pw_below_drewN | apply below_drew1) | exact HB.out)))); (case aL => have := LMc27.out; omega); intro v136 w28 ho hb hg hat; rw [← Ny135.out] at ho; have n0_ := Aside0.mk (Kd.R_after (ok := (fun k_ => some k_ ≠ (v130 : Value).ownBlock)) (by (with_reducible repeat (first | apply Kd.R_alloc | apply Kd.R_drewN | apply Kd.R_drew)); exact Kd.R_mono HO_14.out (fun _ hk => ⟨hk.2, hk.1⟩)) hg hat); have n1_ := Aside0.mk (Kd.R_after (ok := (fun k_ => some k_ ≠ (v124 : Value).ownBlock)) (by (with_reducible repeat (first | apply Kd.R_alloc | apply Kd.R_drewN | apply Kd.R_drew)); exact HO_16.out) hg hat); have n2_ := Aside0.mk (hb); have n3_ := Aside0.mk (ho); clear HO_14; clear HO_16; clear HB; clear HO_15; have HO_14 := n0_; have HO_16 := n1_; have HB := n2_; have HO137 := n3_; clear n0_ n1_ n2_ n3_; clear ho hb hg hat))
                          go_roundg k3
                          case measure => have := HJ5.out; have := HK2.out; have := HK3.out; omega
                          case rel => exact ⟨(y135), (wrap64 (x18_3 + 1)), (by first | rfl | (simp; done) | (simp [*]; done)), H', ⟨by have := HJ5.out; have := HK2.out; have := HK3.out; omega⟩, ⟨by (with_reducible repeat (first | apply Kd.R_alloc | apply Kd.R_drewN | apply Kd.R_drew)); exact Kd.R_mono HO_14.out (fun _ hk => ⟨hk.2, hk.1⟩)⟩, ⟨by (with_reducible repeat (first | apply Kd.R_alloc | apply Kd.R_drewN | apply Kd.R_drew)); exact HO137.out⟩, ⟨by (with_reducible repeat (first | apply Kd.R_alloc | apply Kd.R_drewN | apply Kd.R_drew)); exact HO_16.out⟩, ⟨by repeat (first | (with_reducible first | exact HB.out | apply below_alloc | apply pw_below_drewN | apply below_drew1) | exact HB.out)⟩⟩
                        · rw [if_neg c27] at H
                          exact absurd H (by simp)
                      · rw [if_neg c26] at H
                        have c26b0 : decide (x18_3 < 20) = false := decide_eq_false c26
                        clear c26
                        by_cases c29 : (x15_3.length : Int) = (wrap64 ((t123.length : Int) + 20))
                        · rw [if_pos c29] at H
                          have c29b0 : ((x15_3.length : Int) == (wrap64 ((t123.length : Int) + 20))) = true := beq_iff_eq.mpr c29
                          have c29b1 : ((x15_3.length : Int) != (wrap64 ((t123.length : Int) + 20))) = false := bne_eq_false_iff_eq.mpr c29
                          clear c29
                          replace H := Option.bind_eq_some_iff.mp H
                          obtain ⟨t138, A300, H⟩ := H
                          replace H : (some t138) = some true := H
                          have A30 := Aside0.mk A300
                          clear A300
                          obtain rfl := Option.some.inj H
                          obtain ⟨Ao31, co31, eo31⟩ := Kd.R_slice HO_15.out
                          subst eo31
                          obtain ⟨Ao32, co32, eo32⟩ := Kd.R_slice HO_14.out
                          subst eo32
                          obtain ⟨Ao33, co33, eo33⟩ := Kd.R_slice HO_16.out
                          subst eo33
                          go_wp2_with (first | (go_at_call 24; (with_reducible refine (erratalaw01_sameInts.calls k3 _ _ t129 _ _ t123 true _ ?side1 ?side2 ?side3 ?side4 A30.out).mono ?_); (case side1 => repeat (first | exact (Kd.R_reads' HO_16.out).2.2 | (with_reducible refine Kd.C_alloc ?_ _) | (with_reducible refine Kd.C_drewN ?_ _) | (with_reducible refine Kd.C_drew ?_))); (case side2 => exact (Kd.R_reads' HO_16.out).2.1); (case side3 => repeat (first | exact (Kd.R_reads' HO_14.out).2.2 | (with_reducible refine Kd.C_alloc ?_ _) | (with_reducible refine Kd.C_drewN ?_ _) | (with_reducible refine Kd.C_drew ?_))); (case side4 => exact (Kd.R_reads' HO_14.out).2.1); rintro e w' ⟨rfl, ⟨nd, rfl⟩⟩; obtain ⟨q1, q2⟩ := hres _ (pw_below_drewN HB.out nd)))
                          have hb9 := pw_below_drewN HB.out nd
                          have hbx := (hb9.block _ hrb.lt).trans hrb
                          have hb8 := (hB2.trans (hb9.mono hB2.size)).setCell (p := ⟨ow.heap.size + 1, 0, none⟩) (by show ow.heap.size ≤ ow.heap.size + 1; omega) (.bool true)
                          have x2 := (KeepsOthers.setCell _ ⟨ow.heap.size + 1, 0, none⟩ (.bool true)).same D2 _ ((hb9.block _ hDl2).trans hK2) rfl
                          have x1 := (KeepsOthers.setCell _ ⟨ow.heap.size + 1, 0, none⟩ (.bool true)).same D _ ((hb9.block _ hDl).trans hK1) rfl
                          obtain ⟨m1, m2, m3⟩ := two_marks (Boxed.set (.bool true) hbx) hb8 x2 x1 (by omega) (by omega) (by omega)
                          refine ⟨by simp, .inl ⟨D2, _, rfl, run_takeDeferred x2, ?_⟩⟩
                          refine ⟨by simp, .inl ⟨D, _, rfl, run_takeDeferred m1, ?_⟩⟩
                          exact ⟨.bool true, by simp [results, Try.results5, go_sem, m2], rfl, m3⟩
                        · rw [if_neg c29] at H
                          have c29b0 : ((x15_3.length : Int) == (wrap64 ((t123.length : Int) + 20))) = false := beq_eq_false_iff_ne.mpr c29
                          have c29b1 : ((x15_3.length : Int) != (wrap64 ((t123.length : Int) + 20))) = true := bne_iff_ne.mpr c29
                          exact absurd (Option.some.inj H) (by decide)
      -- TAIL ENDS
    case hstop =>
      intro D c pre W hD hp hf
      exact hf.elim
  case hstop =>
    intro D c pre W hD hp hf
    exact hf.elim
end Go.Proofs.Ytijdlpbkmlplgaa.TR
