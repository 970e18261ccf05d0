/- The walk of TextParts. -/
import Derived.Test.YtijdlpbkmlplgaaRunesNext
import Derived.Test.YtijdlpbkmlplgaaPartsEnd
import Derived.Test.YtijdlpbkmlplgaaCutWide
import Derived.Deep.RegionHeld3
set_option linter.unusedVariables false
set_option linter.unusedSimpArgs false
namespace Go.Proofs.Ytijdlpbkmlplgaa.TR
open Go.RowKit Go.Shelf Go.Lib Go.Proofs.Ytijdlpbkmlplgaa.TS Go.Proofs.Ytijdlpbkmlplgaa.TX Go.Proofs.YtijdlpbkmlplgaaW.PrintWords
attribute [local go_sem] Oper.semAt_some

def lastRune (l : List (Nat × Int)) : Int := (l.getLast?.getD (0, 0)).2
def sumB (l : List (Nat × Int)) : Int := sumW l.dropLast
/-- string([]rune{r}) -/
theorem conv_rune (r : Int) (W : World) (b : Nat) (h : W.cell? ⟨b, 0, none⟩ = some (.int .i32 r)) : Sem.run Try.prog (convert 68 9 (.slice (some ⟨b, 0, none⟩) 1 1)) W = .ok (.string (Utf8.encode r)) W := by
  have hl : Sem.run Try.prog (loadCells ⟨b, 0, none⟩ 1) W = .ok #[.int .i32 r] W := by
    simp [loadCells, loadCellsFrom, go_sem, Addr.add, h]
  have e1 := Try.underlying68
  have e2 := Try.underlying9
  have e3 := Try.underlying21
  simp [convert, go_sem, e1, e2, e3, Conv.runesToString, hl, h]
theorem conv_made (r : Int) (W : World) : Sem.run Try.prog (convert 68 9 (.slice (some ⟨W.heap.size, 0, none⟩) 1 1)) (W.alloc (.cells #[.int .i32 r] 21)) = .ok (.string (Utf8.encode r)) (W.alloc (.cells #[.int .i32 r] 21)) :=
  conv_rune r _ _ (Boxed.new W 21 (.int .i32 r)).cell
/-- what lies in the boxes -/
def Eight (z y : Nat) (s : ByteArray) (one two : Int) (a b c d : Int) (W : World) : Prop :=
  (Boxed W z 9 (.string s) ∧ Boxed W (z + 1) 3 (.int .i64 one) ∧ Boxed W (z + 1 + 1) 3 (.int .i64 two) ∧ Boxed W (z + 1 + 1 + 1) 4 (.bool false)) ∧
  (Boxed W y 3 (.int .i64 a) ∧ Boxed W (y + 1) 3 (.int .i64 b) ∧ Boxed W (y + 1 + 1) 21 (.int .i32 c) ∧ Boxed W (y + 1 + 1 + 1) 3 (.int .i64 d))
section
variable {z y : Nat} {s : ByteArray} {one two a b c d : Int} {W : World}
theorem Eight.setA (h : Eight z y s one two a b c d W) (hzy : z + 1 + 1 + 1 < y) (u : Int) : Eight z y s one two u b c d (W.setCell ⟨y, 0, none⟩ (.int .i64 u)) ∧ Turned z (y + 1 + 1 + 1 + 1) W (W.setCell ⟨y, 0, none⟩ (.int .i64 u)) := by
  obtain ⟨⟨h1, h2, h3, h4⟩, h5, h6, h7, h8⟩ := h
  exact ⟨⟨⟨boxed_setCell h1 (by omega) _, boxed_setCell h2 (by omega) _, boxed_setCell h3 (by omega) _, boxed_setCell h4 (by omega) _⟩, h5.set _, boxed_setCell h6 (by omega) _, boxed_setCell h7 (by omega) _, boxed_setCell h8 (by omega) _⟩, Turned.set h5 (by omega) (by omega) _⟩
theorem Eight.setB (h : Eight z y s one two a b c d W) (hzy : z + 1 + 1 + 1 < y) (u : Int) : Eight z y s one two a u c d (W.setCell ⟨y + 1, 0, none⟩ (.int .i64 u)) ∧ Turned z (y + 1 + 1 + 1 + 1) W (W.setCell ⟨y + 1, 0, none⟩ (.int .i64 u)) := by
  obtain ⟨⟨h1, h2, h3, h4⟩, h5, h6, h7, h8⟩ := h
  exact ⟨⟨⟨boxed_setCell h1 (by omega) _, boxed_setCell h2 (by omega) _, boxed_setCell h3 (by omega) _, boxed_setCell h4 (by omega) _⟩, boxed_setCell h5 (by omega) _, h6.set _, boxed_setCell h7 (by omega) _, boxed_setCell h8 (by omega) _⟩, Turned.set h6 (by omega) (by omega) _⟩
theorem Eight.setC (h : Eight z y s one two a b c d W) (hzy : z + 1 + 1 + 1 < y) (u : Int) : Eight z y s one two a b u d (W.setCell ⟨y + 1 + 1, 0, none⟩ (.int .i32 u)) ∧ Turned z (y + 1 + 1 + 1 + 1) W (W.setCell ⟨y + 1 + 1, 0, none⟩ (.int .i32 u)) := by
  obtain ⟨⟨h1, h2, h3, h4⟩, h5, h6, h7, h8⟩ := h
  exact ⟨⟨⟨boxed_setCell h1 (by omega) _, boxed_setCell h2 (by omega) _, boxed_setCell h3 (by omega) _, boxed_setCell h4 (by omega) _⟩, boxed_setCell h5 (by omega) _, boxed_setCell h6 (by omega) _, h7.set _, boxed_setCell h8 (by omega) _⟩, Turned.set h7 (by omega) (by omega) _⟩
theorem Eight.setD (h : Eight z y s one two a b c d W) (hzy : z + 1 + 1 + 1 < y) (u : Int) : Eight z y s one two a b c u (W.setCell ⟨y + 1 + 1 + 1, 0, none⟩ (.int .i64 u)) ∧ Turned z (y + 1 + 1 + 1 + 1) W (W.setCell ⟨y + 1 + 1 + 1, 0, none⟩ (.int .i64 u)) := by
  obtain ⟨⟨h1, h2, h3, h4⟩, h5, h6, h7, h8⟩ := h
  exact ⟨⟨⟨boxed_setCell h1 (by omega) _, boxed_setCell h2 (by omega) _, boxed_setCell h3 (by omega) _, boxed_setCell h4 (by omega) _⟩, boxed_setCell h5 (by omega) _, boxed_setCell h6 (by omega) _, boxed_setCell h7 (by omega) _, h8.set _⟩, Turned.set h8 (by omega) (by omega) _⟩
/-- the three stores at a round's end -/
theorem Eight.round (h : Eight z y s one two a b c d W) (hzy : z + 1 + 1 + 1 < y) (i r n : Int) :
    Eight z y s one two i b r n (((W.setCell ⟨y, 0, none⟩ (.int .i64 i)).setCell ⟨y + 1 + 1, 0, none⟩ (.int .i32 r)).setCell ⟨y + 1 + 1 + 1, 0, none⟩ (.int .i64 n)) ∧
      Turned z (y + 1 + 1 + 1 + 1) W (((W.setCell ⟨y, 0, none⟩ (.int .i64 i)).setCell ⟨y + 1 + 1, 0, none⟩ (.int .i32 r)).setCell ⟨y + 1 + 1 + 1, 0, none⟩ (.int .i64 n)) := by
  obtain ⟨e1, t1⟩ := h.setA hzy i
  obtain ⟨e2, t2⟩ := e1.setC hzy r
  obtain ⟨e3, t3⟩ := e2.setD hzy n
  exact ⟨e3, (t1.trans t2).trans t3⟩
theorem Eight.cells (z y : Nat) (s : ByteArray) (one two : Int) {β : Type} (a b c d : β → Int) : OfCells (fun (x : β) => Eight z y s one two (a x) (b x) (c x) (d x)) := by
  rintro x W W' ⟨⟨h1, h2, h3, h4⟩, h5, h6, h7, h8⟩ hk
  exact ⟨⟨hk _ _ h1 rfl, hk _ _ h2 rfl, hk _ _ h3 rfl, hk _ _ h4 rfl⟩, hk _ _ h5 rfl, hk _ _ h6 rfl, hk _ _ h7 rfl, hk _ _ h8 rfl⟩
theorem Eight.below {z y : Nat} {s : ByteArray} {one two a b c d : Int} {W W' : World} (h : Eight z y s one two a b c d W) (hb : Below W.heap.size W W') : Eight z y s one two a b c d W' := by
  obtain ⟨⟨h1, h2, h3, h4⟩, h5, h6, h7, h8⟩ := h
  exact ⟨⟨(hb.block _ h1.lt).trans h1, (hb.block _ h2.lt).trans h2, (hb.block _ h3.lt).trans h3, (hb.block _ h4.lt).trans h4⟩, (hb.block _ h5.lt).trans h5, (hb.block _ h6.lt).trans h6, (hb.block _ h7.lt).trans h7, (hb.block _ h8.lt).trans h8⟩
end
/-- what lies in the boxes ahead of round 'pre' -/
def partsI (z y : Nat) (s : ByteArray) (one two : Int) (pre : List (Nat × Int)) (W : World) : Prop := Eight z y s one two (lastPos pre) (sumB pre) (lastRune pre) pre.length W
theorem partsI_cells (z y : Nat) (s : ByteArray) (one two : Int) : OfCells (partsI z y s one two) := Eight.cells z y s one two _ _ _ _
theorem parts_next {z y : Nat} {s : ByteArray} {one two : Int} {p : List (Nat × Int)} {l0 i : Nat} {r0 r : Int} {V : World} (h : Eight z y s one two i (sumW p + wideI r0) r (p.length + 1 + 1) V) : partsI z y s one two (p ++ [(l0, r0)] ++ [(i, r)]) V := by
  unfold partsI
  rw [lastPos_snoc, show lastRune (p ++ [(l0, r0)] ++ [(i, r)]) = r from by simp [lastRune], show sumB (p ++ [(l0, r0)] ++ [(i, r)]) = sumW p + wideI r0 from by simp only [sumB, List.dropLast_concat]; rw [sumW_snoc], show ((p ++ [(l0, r0)] ++ [(i, r)]).length : Int) = p.length + 1 + 1 from by simp only [List.length_append, List.length_cons, List.length_nil]; omega]
  exact h
/-- what the rest of the law leans on: the boxes (S: the sum), the block of the rounds' deferred calls -/
def TailI (z y : Nat) (s : ByteArray) (one two S : Int) (D : Nat) (w V : World) : Prop := (∃ a c d, Eight z y s one two a S c d V) ∧ Below z w V ∧ V.heap[D]? = some (.deferred (some []))
theorem TailI.on {z y : Nat} {s : ByteArray} {one two S : Int} {D : Nat} {w V V' : World} (h : TailI z y s one two S D w V) (b : Below V.heap.size V V') (hz : z ≤ V.heap.size) : TailI z y s one two S D w V' := by
  obtain ⟨⟨a, c, d, hE⟩, hB, hD⟩ := h
  exact ⟨⟨a, c, d, hE.below b⟩, hB.trans (b.mono hz), (b.block _ (Array.getElem?_eq_some_iff.1 hD).1).trans hD⟩
theorem TailI.drew {z y : Nat} {s : ByteArray} {one two S : Int} {D : Nat} {w V : World} (h : TailI z y s one two S D w V) : TailI z y s one two S D w V.drew := by
  obtain ⟨⟨a, c, d, hE⟩, hB, hD⟩ := h
  exact ⟨⟨a, c, d, hE⟩, hB.drew, hD⟩
theorem TailI.last {z y : Nat} {s : ByteArray} {one two S ww : Int} {D y2 : Nat} {w V : World} (h : TailI z y s one two S D w V) (hb : Boxed V y2 3 (.int .i64 ww)) : lastI z y2 s one two ww [] V := by
  obtain ⟨⟨a, c, d, ⟨h1, h2, h3, h4⟩, _⟩, _⟩ := h
  exact ⟨rfl, h1, h2, h3, h4, hb⟩
theorem TailI.lt {z y : Nat} {s : ByteArray} {one two S : Int} {D : Nat} {w V : World} (h : TailI z y s one two S D w V) : z + 1 + 1 + 1 < V.heap.size := by
  obtain ⟨⟨a, c, d, ⟨h1, h2, h3, h4⟩, _⟩, _⟩ := h
  exact h4.lt
theorem TailI.size {z y : Nat} {s : ByteArray} {one two S : Int} {D : Nat} {w V : World} (h : TailI z y s one two S D w V) : z ≤ V.heap.size := by
  obtain ⟨⟨a, c, d, ⟨h1, _⟩, _⟩, _⟩ := h
  exact Nat.le_of_lt h1.lt
/-- what is read of the boxes -/
theorem TailI.reads {z y : Nat} {s : ByteArray} {one two S : Int} {D : Nat} {w V : World} (h : TailI z y s one two S D w V) :
    V.cell? ⟨z, 0, none⟩ = some (.string s) ∧ V.cell? ⟨z + 1, 0, none⟩ = some (.int .i64 one) ∧ V.cell? ⟨z + 1 + 1, 0, none⟩ = some (.int .i64 two) ∧ V.cell? ⟨y + 1, 0, none⟩ = some (.int .i64 S) ∧ V.frozen? ⟨z + 1 + 1 + 1, 0, none⟩ = false := by
  obtain ⟨⟨a, c, d, ⟨h1, h2, h3, h4⟩, h5, h6, h7, h8⟩, _⟩ := h
  exact ⟨h1.cell, h2.cell, h3.cell, h6.cell, h4.frozen⟩
theorem parts_start (w : World) (s : ByteArray) (one two : Int) (w1 : World) (B1 : Below ((((w.alloc (.cells #[.string s] 9)).alloc (.cells #[.int .i64 one] 3)).alloc (.cells #[.int .i64 two] 3)).alloc (.cells #[.bool false] 4)).heap.size ((((w.alloc (.cells #[.string s] 9)).alloc (.cells #[.int .i64 one] 3)).alloc (.cells #[.int .i64 two] 3)).alloc (.cells #[.bool false] 4)) w1) :
    w.heap.size + 1 + 1 + 1 < w1.heap.size ∧ Below w.heap.size w w1 ∧ Boxed w1 w.heap.size 9 (.string s) ∧ Boxed w1 (w.heap.size + 1) 3 (.int .i64 one) ∧ Boxed w1 (w.heap.size + 1 + 1) 3 (.int .i64 two) ∧ Boxed w1 (w.heap.size + 1 + 1 + 1) 4 (.bool false) := by
  have b1 := ((((Boxed.new w 9 (.string s)).alloc (.cells #[.int .i64 one] 3)).alloc (.cells #[.int .i64 two] 3)).alloc (.cells #[.bool false] 4))
  have b2 := (((Boxed.new (w.alloc (.cells #[.string s] 9)) 3 (.int .i64 one)).alloc (.cells #[.int .i64 two] 3)).alloc (.cells #[.bool false] 4))
  have b3 := ((Boxed.new ((w.alloc (.cells #[.string s] 9)).alloc (.cells #[.int .i64 one] 3)) 3 (.int .i64 two)).alloc (.cells #[.bool false] 4))
  have b4 := (Boxed.new (((w.alloc (.cells #[.string s] 9)).alloc (.cells #[.int .i64 one] 3)).alloc (.cells #[.int .i64 two] 3)) 4 (.bool false))
  simp only [World.size_alloc] at b1 b2 b3 b4 B1
  have hB0 : Below w.heap.size w ((((w.alloc (.cells #[.string s] 9)).alloc (.cells #[.int .i64 one] 3)).alloc (.cells #[.int .i64 two] 3)).alloc (.cells #[.bool false] 4)) := ((((Below.refl _ w).alloc (Nat.le_refl _) _).alloc (by simp) _).alloc (by simp; omega) _).alloc (by simp; omega) _
  have hz := B1.size
  simp only [World.size_alloc] at hz
  exact ⟨by omega, hB0.trans (B1.mono (by omega)), (B1.block _ (by omega)).trans b1, (B1.block _ (by omega)).trans b2, (B1.block _ (by omega)).trans b3, (B1.block _ (by omega)).trans b4⟩
theorem parts_boxes (w w1 : World) (s : ByteArray) (one two : Int) (HB : Below w.heap.size w w1) (g1 : Boxed w1 w.heap.size 9 (.string s)) (g2 : Boxed w1 (w.heap.size + 1) 3 (.int .i64 one)) (g3 : Boxed w1 (w.heap.size + 1 + 1) 3 (.int .i64 two)) (g4 : Boxed w1 (w.heap.size + 1 + 1 + 1) 4 (.bool false)) :
    Below w.heap.size w (((((w1.alloc (.cells #[.int .i64 0] 3)).alloc (.cells #[.int .i64 0] 3)).alloc (.cells #[.int .i32 0] 21)).alloc (.cells #[.int .i64 0] 3)).alloc (.cells #[.string s] 9)) ∧
    partsI w.heap.size w1.heap.size s one two [] (((((w1.alloc (.cells #[.int .i64 0] 3)).alloc (.cells #[.int .i64 0] 3)).alloc (.cells #[.int .i32 0] 21)).alloc (.cells #[.int .i64 0] 3)).alloc (.cells #[.string s] 9)) ∧
    Boxed (((((w1.alloc (.cells #[.int .i64 0] 3)).alloc (.cells #[.int .i64 0] 3)).alloc (.cells #[.int .i32 0] 21)).alloc (.cells #[.int .i64 0] 3)).alloc (.cells #[.string s] 9)) (w1.heap.size + 1 + 1 + 1 + 1) 9 (.string s) := by
  have al : ∀ {k : Nat} {t : TypeId} {v : Value}, Boxed w1 k t v → Boxed (((((w1.alloc (.cells #[.int .i64 0] 3)).alloc (.cells #[.int .i64 0] 3)).alloc (.cells #[.int .i32 0] 21)).alloc (.cells #[.int .i64 0] 3)).alloc (.cells #[.string s] 9)) k t v := fun h => ((((h.alloc _).alloc _).alloc _).alloc _).alloc _
  have y1 := ((((Boxed.new w1 3 (.int .i64 0)).alloc (.cells #[.int .i64 0] 3)).alloc (.cells #[.int .i32 0] 21)).alloc (.cells #[.int .i64 0] 3)).alloc (.cells #[.string s] 9)
  have y2 := (((Boxed.new (w1.alloc (.cells #[.int .i64 0] 3)) 3 (.int .i64 0)).alloc (.cells #[.int .i32 0] 21)).alloc (.cells #[.int .i64 0] 3)).alloc (.cells #[.string s] 9)
  have y3 := ((Boxed.new ((w1.alloc (.cells #[.int .i64 0] 3)).alloc (.cells #[.int .i64 0] 3)) 21 (.int .i32 0)).alloc (.cells #[.int .i64 0] 3)).alloc (.cells #[.string s] 9)
  have y4 := (Boxed.new (((w1.alloc (.cells #[.int .i64 0] 3)).alloc (.cells #[.int .i64 0] 3)).alloc (.cells #[.int .i32 0] 21)) 3 (.int .i64 0)).alloc (.cells #[.string s] 9)
  have y5 := Boxed.new ((((w1.alloc (.cells #[.int .i64 0] 3)).alloc (.cells #[.int .i64 0] 3)).alloc (.cells #[.int .i32 0] 21)).alloc (.cells #[.int .i64 0] 3)) 9 (.string s)
  simp only [World.size_alloc] at y1 y2 y3 y4 y5
  have z := HB.size
  exact ⟨((((HB.alloc z _).alloc (by simp; omega) _).alloc (by simp; omega) _).alloc (by simp; omega) _).alloc (by simp; omega) _, ⟨⟨al g1, al g2, al g3, al g4⟩, y1, y2, y3, y4⟩, y5⟩

theorem parts_first (s : ByteArray) (i : Nat) (r : Int) (h : [] ++ [(i, r)] <+: runes s.data.toList) : i = 0 := by
  obtain ⟨t, ht⟩ := h
  unfold runes at ht
  cases hp : pieces s.data.toList with
  | nil => rw [hp] at ht; cases ht
  | cons p ps =>
    rw [hp] at ht
    have : runesFrom 0 (p :: ps) = (0, rn p.1) :: runesFrom (0 + p.2.length) ps := rfl
    rw [this] at ht
    simp at ht
    exact ht.1.1
set_option maxRecDepth 100000 in
set_option maxHeartbeats 16000000 in
theorem parts_walk (s : ByteArray) (one two : Int) (hs : s.size ≤ 140737488351232)
    (A2 : ∀ p l0 r0 i r, (p ++ [(l0, r0)]) ++ [(i, r)] <+: runes s.data.toList → PieceAt s l0 i r0)
    (A3 : (runes s.data.toList = [] ∧ s.toList = ([] : List UInt8)) ∨ ∃ p l0 r0, runes s.data.toList = p ++ [(l0, r0)] ∧ s.toList ≠ ([] : List UInt8) ∧ PieceAt s l0 s.size r0)
    (nr wd : ByteArray) (ww S : Int) (hSs : S = sumW (runes s.data.toList)) (hn : nr.size ≤ wd.size) (hw : wd.size ≤ s.size) (he1 : s.extract 0 wd.size = wd) (he2 : wd.extract 0 nr.size = nr) (ho1 : -9223372036854775808 ≤ one ∧ one ≤ 9223372036854775807) (ho2 : -9223372036854775808 ≤ two ∧ two ≤ 9223372036854775807) (hww : ww ≤ max (max one two) 0) (hw0 : 0 ≤ ww)
    (B1 : ∀ w, Calls Try.prog 45 #[.string s, .int .i64 (min one two)] w fun e w' => e = .returned (.string nr) ∧ Below w.heap.size w w')
    (B2 : ∀ w, Calls Try.prog 45 #[.string s, .int .i64 (max one two)] w fun e w' => e = .returned (.string wd) ∧ Below w.heap.size w w')
    (B3 : ∀ w, Calls Try.prog 37 #[.string s] w fun e w' => e = .returned (.int .i64 S) ∧ Below w.heap.size w w')
    (B4 : ∀ w, Calls Try.prog 45 #[.string s, .int .i64 S] w fun e w' => e = .returned (.string s) ∧ Below w.heap.size w w')
    (B5 : ∀ w, Calls Try.prog 37 #[.string wd] w fun e w' => e = .returned (.int .i64 ww) ∧ Below w.heap.size w w')
    (B6 : ∀ i r, [] ++ [(i, r)] <+: runes (s.extract wd.size s.size).data.toList → wideI r > max one two - ww)
    (B7 : runes (s.extract wd.size s.size).data.toList = [] → wd = s)
    (A1 : ∀ w, Calls Try.prog 50 #[] w fun e w' => e = .returned (.bool true) ∧ Below w.heap.size w w')
    (w : World) :
    Calls Try.prog 10 #[.string s, .int .i64 one, .int .i64 two] w fun e w' => e = .returned (.bool true) ∧ Below w.heap.size w w' := by
  refine (callsIn_wide (n := 9)).1 ?_
  refine callsIn_of_wp_marks Try.func10 rfl trivial ?_ rfl
  simp only [Try.ntmps10, List.size_toArray, List.length_cons, List.length_nil, Nat.reduceAdd, Nat.reduceSub, Array.replicate_succ, Array.replicate_zero, List.push_toArray, List.append_toArray, List.nil_append, List.cons_append]
  gi_wp2_with ((with_reducible refine And.intro ?_ ?_); exact trivial; gi_at_call 50; (with_reducible refine (callsIn_wide.2 (A1 _)).mono ?_); rintro e w1 ⟨rfl, B1⟩; obtain ⟨hzy, HB, g1, g2, g3, g4⟩ := parts_start w s one two w1 B1; have c1 := ((((g1.alloc (.cells #[.int .i64 0] 3)).alloc (.cells #[.int .i64 0] 3)).alloc (.cells #[.int .i32 0] 21)).alloc (.cells #[.int .i64 0] 3)).cell)
  clear c1
  gi_wp2_with ((with_reducible refine And.intro ?_ ?_); exact trivial; gi_at_call 21; (with_reducible refine (callsIn_wide.2 (runes_in s _)).mono ?_); rintro e w' ⟨rfl, rfl⟩)
  obtain ⟨HB2, hI0, hbx⟩ := parts_boxes w w1 s one two HB g1 g2 g3 g4
  clear B1 g1 g2 g3 g4 HB
  obtain ⟨W2, hW2⟩ : ∃ W2, (((((w1.alloc (.cells #[.int .i64 0] 3)).alloc (.cells #[.int .i64 0] 3)).alloc (.cells #[.int .i32 0] 21)).alloc (.cells #[.int .i64 0] 3)).alloc (.cells #[.string s] 9)) = W2 := ⟨_, rfl⟩
  rw [hW2] at HB2 hI0 hbx ⊢
  obtain ⟨y, hy⟩ : ∃ y, w1.heap.size = y := ⟨_, rfl⟩
  rw [hy] at hI0 hbx hzy ⊢
  apply wp_runes_next 9 (by omega) w.heap.size (y + 1 + 1 + 1 + 1) s rfl rfl hbx HB2 (Nat.le_refl _) (partsI w.heap.size y s one two) (fun _ _ _ => False) (partsI_cells _ _ _ _ _) (fun _ => ofCells_pure (fun _ => False)) hI0
  case hassign =>
    intro l i r W K hK
    gi_wp2
    exact hK
  case hbody =>
    rintro l pre i r W hI hB hbb hsz hnext
    obtain ⟨⟨k1, k2, k3, k4⟩, k5, k6, k7, k8⟩ := id hI
    have c1 := k1.cell
    have c5 := k5.cell
    have c6 := k6.cell
    have c7 := k7.cell
    have c8 := k8.cell
    have f5 := k5.frozen
    have f6 := k6.frozen
    have f7 := k7.frozen
    have f8 := k8.frozen
    rcases List.eq_nil_or_concat pre with rfl | ⟨p, ⟨l0, r0⟩, hpx⟩
    · obtain rfl : i = 0 := parts_first s i r hnext
      gi_wp2
      obtain ⟨e1, t1⟩ := Eight.round hI hzy 0 r 1
      exact ⟨t1, e1⟩
    · rw [List.concat_eq_append] at hpx
      subst hpx
      have hp := A2 p l0 r0 i r hnext
      have hlast : lastPos (p ++ [(l0, r0)]) = l0 := lastPos_snoc _ _
      have hrune : lastRune (p ++ [(l0, r0)]) = r0 := by simp [lastRune]
      have hsum : sumB (p ++ [(l0, r0)]) = sumW p := by simp [sumB]
      have hlen : (p ++ [(l0, r0)]).length = p.length + 1 := by simp
      rw [hlast] at c5
      rw [hrune] at c7
      rw [hsum] at c6
      rw [hlen] at c8
      have hpl : p.length + 2 ≤ s.size := by have h1 := hnext.length_le; have h2 := runes_le s; simp only [List.length_append, List.length_cons, List.length_nil] at h1; omega
      have hbd := sumW_bd p
      have hwb := wideI_bd r0
      have o1 := hp.lt
      have o2 := hp.le
      have hE : Eight w.heap.size y s one two l0 (sumW p) r0 (p.length + 1) W := by
        have := hI
        unfold partsI at this
        rw [hlast, hrune, hsum, hlen] at this
        exact_mod_cast this
      by_cases hneg : r0 < 0
      · have o3 := hp.neg hneg
        gi_wp2
        have h1 := hmx
        have hwd := fun w => width_of (s.extract l0 i) (wideI r0) (by rw [ByteArray.size_extract]; omega) hp.wid w
        gi_region_with_o ((with_reducible refine And.intro ?_ ?_); exact trivial; gi_at_call 37; (with_reducible refine (CallsIn.inRound l (callsIn_wide.2 (hwd _))).mono ?_); rintro e w' ⟨rfl, hb9⟩; have e9 := Eight.below (W := W.drew) hE hb9; obtain ⟨⟨m1, m2, m3, m4⟩, m5, m6, m7, m8⟩ := id e9; have d5 := m5.cell; have d6 := m6.cell; have d7 := m7.cell; have d8 := m8.cell; have n5 := m5.frozen; have n6 := m6.frozen; have n7 := m7.frozen; have n8 := m8.frozen)
        all_goals
          have hw : IntKind.i64.wrap (sumW p + wideI r0) = sumW p + wideI r0 := IntWalk.i64_in _ (by omega)
          rw [hw]
          obtain ⟨eB, tB⟩ := e9.setB hzy (sumW p + wideI r0)
          have T := (Turned.of_below (n₀ := w.heap.size) (Bn := y + 1 + 1 + 1 + 1) hb9 (Nat.le_refl _)).trans tB
          generalize (w'.setCell ⟨y + 1, 0, none⟩ (.int .i64 (sumW p + wideI r0))) = V at eB T ⊢
          clear c1 c5 c6 c7 c8 f5 f6 f7 f8 d5 d6 d7 d8 n5 n6 n7 n8 e9 hb9 tB
          obtain ⟨_, j5, j6, j7, j8⟩ := id eB
          have c5 := j5.cell
          have c7 := j7.cell
          have c8 := j8.cell
          have f5 := j5.frozen
          have f7 := j7.frozen
          have f8 := j8.frozen
          gi_wp2
          obtain ⟨eR, tR⟩ := eB.round hzy i r (p.length + 1 + 1)
          exact ⟨T.trans tR, parts_next eR⟩
      · have o3 := hp.pos (by omega)
        have o4 : ¬ i ≤ l0 := by omega
        have hcv := conv_made r0 W
        gi_wp2
        have hE2 := hE.below ((Below.refl _ W).alloc (Nat.le_refl _) (.cells #[.int .i32 r0] 21))
        have T0 := Turned.of_below (n₀ := w.heap.size) (Bn := y + 1 + 1 + 1 + 1) ((Below.refl _ W).alloc (Nat.le_refl _) (.cells #[.int .i32 r0] 21)) (Nat.le_refl _)
        generalize (W.alloc (.cells #[.int .i32 r0] 21)) = V0 at hE2 T0 ⊢
        clear c1 c5 c6 c7 c8 f5 f6 f7 f8 hcv
        obtain ⟨⟨_, _, _, _⟩, u5, u6, u7, u8⟩ := id hE2
        have c5 := u5.cell
        have c6 := u6.cell
        have c7 := u7.cell
        have c8 := u8.cell
        have f5 := u5.frozen
        have f6 := u6.frozen
        have f7 := u7.frozen
        have f8 := u8.frozen
        have h1 := hmx
        have hwd := fun w => width_of (s.extract l0 i) (wideI r0) (by rw [ByteArray.size_extract]; omega) hp.wid w
        simp only [o3] at hwd
        gi_region_with_o ((with_reducible refine And.intro ?_ ?_); exact trivial; gi_at_call 37; (with_reducible refine (CallsIn.inRound l (callsIn_wide.2 (hwd _))).mono ?_); rintro e w' ⟨rfl, hb9⟩; have e9 := Eight.below (W := V0.drew) hE2 hb9; obtain ⟨⟨m1, m2, m3, m4⟩, m5, m6, m7, m8⟩ := id e9; have d5 := m5.cell; have d6 := m6.cell; have d7 := m7.cell; have d8 := m8.cell; have n5 := m5.frozen; have n6 := m6.frozen; have n7 := m7.frozen; have n8 := m8.frozen)
        all_goals
          have hw : IntKind.i64.wrap (sumW p + wideI r0) = sumW p + wideI r0 := IntWalk.i64_in _ (by omega)
          rw [hw]
          obtain ⟨eB, tB⟩ := e9.setB hzy (sumW p + wideI r0)
          have T := (T0.trans (Turned.of_below (W := V0.drew) (n₀ := w.heap.size) (Bn := y + 1 + 1 + 1 + 1) hb9 (Nat.le_refl _))).trans tB
          generalize (w'.setCell ⟨y + 1, 0, none⟩ (.int .i64 (sumW p + wideI r0))) = V at eB T ⊢
          clear c5 c6 c7 c8 f5 f6 f7 f8 d5 d6 d7 d8 n5 n6 n7 n8 e9 hb9 tB
          obtain ⟨_, j5, j6, j7, j8⟩ := id eB
          have c5 := j5.cell
          have c7 := j7.cell
          have c8 := j8.cell
          have f5 := j5.frozen
          have f7 := j7.frozen
          have f8 := j8.frozen
          gi_wp2
          obtain ⟨eR, tR⟩ := eB.round hzy i r (p.length + 1 + 1)
          exact ⟨T.trans tR, parts_next eR⟩
  case hdone =>
    intro D W hD hI hB hO hK
    obtain ⟨⟨k1, k2, k3, k4⟩, k5, k6, k7, k8⟩ := id hI
    have c1 := k1.cell
    have c2 := k2.cell
    have c3 := k3.cell
    have c5 := k5.cell
    have c6 := k6.cell
    have c7 := k7.cell
    have c8 := k8.cell
    have f4 := k4.frozen
    have f6 := k6.frozen
    rcases A3 with ⟨hR, hse⟩ | ⟨p, l0, r0, hR, hse, hp⟩
    · rw [hR] at hI c5 c6 c7 c8
      have hsum : sumB [] = 0 := rfl
      rw [hsum] at c6
      obtain rfl : S = 0 := by rw [hSs, hR]; rfl
      clear hSs hsum
      gi_wp2
      have E0 : TailI w.heap.size y s one two 0 D w W := ⟨⟨_, _, _, hI⟩, hB, hK⟩
      clear c1 c2 c3 c5 c6 c7 c8 f4 f6 k1 k2 k3 k4 k5 k6 k7 k8
      gi_wp2_with ((with_reducible refine And.intro ?_ ?_); exact trivial; gi_at_call 45; (with_reducible refine (callsIn_wide.2 (B1 _)).mono ?_); rintro e v1 ⟨rfl, b1⟩; have E1 := E0.on b1 E0.size; obtain ⟨d1, d2, d3, d4, d5⟩ := E1.reads)
      gi_wp2_with ((with_reducible refine And.intro ?_ ?_); exact trivial; gi_at_call 45; (with_reducible refine (callsIn_wide.2 (B2 _)).mono ?_); rintro e v2 ⟨rfl, b2⟩; have E2 := E1.on b2 E1.size; clear d1 d2 d3 d4 d5; obtain ⟨d1, d2, d3, d4, d5⟩ := E2.reads)
      have h1 := hmx
      have hwr : IntKind.i64.wrap (max one two - ww) = max one two - ww := IntWalk.i64_in _ (by omega)
      have hn1 : ¬ wd.size < nr.size := by omega
      have hn2 : ¬ s.size < wd.size := by omega
      have hi1 : (0 : Int) ≤ (wd.size : Int) := by omega
      have hi2 : (wd.size : Int) ≤ (s.size : Int) := by omega
      have hi3 : (0 : Int) ≤ (nr.size : Int) := by omega
      have hi4 : (nr.size : Int) ≤ (wd.size : Int) := by omega
      refine wpIn_wide.2 ?_
      go_region_held3 (fun V => V.cell? ⟨w.heap.size, 0, none⟩ = some (.string s) ∧ V.cell? ⟨y + 1, 0, none⟩ = some (.int .i64 0)) (first | exact ⟨d1, d4⟩ | exact ⟨g1, g4⟩ | exact ⟨g6, g9⟩) (first | (go_at_call 37; refine (B3 _).mono ?_; rintro e v3 ⟨rfl, b3⟩; have E3 := E2.drew.on b3 E2.drew.size; obtain ⟨g1, g2, g3, g4, g5⟩ := E3.reads) | (go_at_call 45; refine (B4 _).mono ?_; rintro e v4 ⟨rfl, b4⟩; have E4 := E3.on b4 E3.size; obtain ⟨g6, g7, g8, g9, g10⟩ := E4.reads))
      gi_wp2_with ((with_reducible refine And.intro ?_ ?_); exact trivial; gi_at_call 37; (with_reducible refine (callsIn_wide.2 (B5 _)).mono ?_); rintro e v5 ⟨rfl, b5⟩; have E5 := E4.on b5 E4.size; have E6 := E5.on ((Below.refl _ v5).alloc (Nat.le_refl _) (.cells #[.int .i64 ww] 3)) E5.size; clear d1 d2 d3 d4 d5 g1 g2 g3 g4 g5 g6 g7 g8 g9 g10; obtain ⟨d1, d2, d3, d4, d5⟩ := E6.reads; have hw2 : ¬ max (max one two) 0 < ww := by omega)
      rw [max3 one two]
      gi_wp2_with ((with_reducible refine And.intro ?_ ?_); exact trivial; gi_at_call 21; (with_reducible refine (callsIn_wide.2 (runes_in (s.extract wd.size s.size) _)).mono ?_); rintro e w' ⟨rfl, rfl⟩)
      obtain ⟨rest, hrest⟩ : ∃ rest, s.extract wd.size s.size = rest := ⟨_, rfl⟩
      rw [hrest] at B6 B7 ⊢
      have E7 := E6.on ((Below.refl _ _).alloc (Nat.le_refl _) (.cells #[.string rest] 9)) E6.size
      have bw := (Boxed.new v5 3 (.int .i64 ww)).alloc (.cells #[.string rest] 9)
      have bs := Boxed.new (v5.alloc (.cells #[.int .i64 ww] 3)) 9 (.string rest)
      rw [World.size_alloc] at bs
      have hlt5 := E5.lt
      obtain ⟨y2, hy2⟩ : ∃ y2, v5.heap.size = y2 := ⟨_, rfl⟩
      obtain ⟨W3, hW3⟩ : ∃ W3, ((v5.alloc (.cells #[.int .i64 ww] 3)).alloc (.cells #[.string rest] 9)) = W3 := ⟨_, rfl⟩
      rw [hW3] at E7 bw bs ⊢
      rw [hy2] at bw bs hlt5 ⊢
      clear E0 E1 E2 E3 E4 E5 E6 b1 b2 b3 b4 b5 d1 d2 d3 d4 d5
      apply wp_runes_next 9 (by omega) w.heap.size (y2 + 1) rest rfl rfl bs E7.2.1 (Nat.le_refl _) (lastI w.heap.size y2 s one two ww) (lastX w.heap.size) (lastI_cells _ _ _ _ _ _) (lastX_cells _) (E7.last bw)
      case hassign =>
        intro l i r W K hK
        gi_wp2
        exact hK
      case hbody =>
        rintro l pre i r W ⟨rfl, q1, q2, q3, q4, q5⟩ hB hbb hsz hnext
        have hgt := B6 i r hnext
        have c1 := q1.cell
        have c2 := q2.cell
        have c3 := q3.cell
        have c5 := q5.cell
        have c4 := q4.cell
        have f4 := q4.frozen
        have hfin : ∀ V, V = W.setCell ⟨w.heap.size + 1 + 1 + 1, 0, none⟩ (.bool true) → Turned w.heap.size (y2 + 1) W V ∧ lastX w.heap.size .ret ([] ++ [(i, r)]) V := fun V e => by subst e; exact ⟨Turned.set q4 (by omega) (by omega) _, rfl, q4.set _⟩
        by_cases r1 : r < 32
        · have hg : max one two - ww < 4 := by unfold wideI at hgt; rw [if_pos (Or.inl r1)] at hgt; omega
          have hne : ¬ r = 92 := by omega
          clear hgt
          gi_wp2
          exact hfin _ rfl
        · by_cases r2 : r = 127
          · have hg : max one two - ww < 4 := by unfold wideI at hgt; rw [if_pos (Or.inr r2)] at hgt; omega
            subst r2
            clear hgt
            gi_wp2
            exact hfin _ rfl
          · by_cases r3 : r = 92
            · have hg : max one two - ww < 2 := by unfold wideI at hgt; rw [if_neg (by omega), if_pos r3] at hgt; omega
              subst r3
              clear hgt
              gi_wp2
              exact hfin _ rfl
            · have hg : max one two - ww < 1 := by unfold wideI at hgt; rw [if_neg (by omega), if_neg r3] at hgt; omega
              clear hgt
              gi_wp2
              exact hfin _ rfl
      case hdone =>
        rintro D2 W hD2 ⟨hnil, q1, q2, q3, q4, q5⟩ hB hO2 hK2
        have hwd := B7 hnil
        have c1 := q1.cell
        have c4 := q4.cell
        have f4 := q4.frozen
        subst hwd
        gi_wp2
        have hDl : D < W3.heap.size := (Array.getElem?_eq_some_iff.1 E7.2.2).1
        have x2 := (KeepsOthers.setCell W ⟨w.heap.size + 1 + 1 + 1, 0, none⟩ (.bool true)).same D2 _ hK2 rfl
        have x1 := (KeepsOthers.setCell W ⟨w.heap.size + 1 + 1 + 1, 0, none⟩ (.bool true)).same D _ (hO2 D _ E7.2.2 rfl) rfl
        obtain ⟨m1, m2, m3⟩ := two_marks (q4.set (.bool true)) (hB.setCell (p := ⟨w.heap.size + 1 + 1 + 1, 0, none⟩) (by simp; omega) _) x2 x1 (by omega) (by have := HB2.size; omega) (by have := E7.size; omega)
        refine ⟨by simp, .inl ⟨D2, _, rfl, run_takeDeferred x2, ?_⟩⟩
        refine ⟨by simp, .inl ⟨D, _, rfl, run_takeDeferred m1, ?_⟩⟩
        exact ⟨.bool true, by simp [results, Try.results10, go_sem, m2], rfl, m3⟩
      case hstop =>
        rintro D2 c pre W hD2 hpre ⟨rfl, q4⟩ hB hO2 hK2
        gi_wp2
        have hDl : D < W3.heap.size := (Array.getElem?_eq_some_iff.1 E7.2.2).1
        obtain ⟨m1, m2, m3⟩ := two_marks q4 hB hK2 (hO2 D _ E7.2.2 rfl) (by omega) (by have := HB2.size; omega) (by have := E7.size; omega)
        refine ⟨by simp, .inl ⟨D2, _, rfl, run_takeDeferred hK2, ?_⟩⟩
        refine ⟨by simp, .inl ⟨D, _, rfl, run_takeDeferred m1, ?_⟩⟩
        exact ⟨.bool true, by simp [results, Try.results10, go_sem, m2], rfl, m3⟩
    · have hlast : lastPos (p ++ [(l0, r0)]) = l0 := lastPos_snoc _ _
      have hrune : lastRune (p ++ [(l0, r0)]) = r0 := by simp [lastRune]
      have hsum : sumB (p ++ [(l0, r0)]) = sumW p := by simp [sumB]
      have hlen : (p ++ [(l0, r0)]).length = p.length + 1 := by simp
      have hS : S = sumW p + wideI r0 := by rw [hSs, hR, sumW_snoc]
      have hE : Eight w.heap.size y s one two l0 (sumW p) r0 (p.length + 1) W := by
        have := hI
        unfold partsI at this
        rw [hR, hlast, hrune, hsum, hlen] at this
        exact_mod_cast this
      have hpl : p.length + 1 ≤ s.size := by have h2 := runes_le s; rw [hR, hlen] at h2; exact h2
      rw [hR, hlast] at c5
      rw [hR, hrune] at c7
      rw [hR, hsum] at c6
      rw [hR, hlen] at c8
      have hbd := sumW_bd p
      have hwb := wideI_bd r0
      have o1 := hp.lt
      have o2 : l0 ≤ s.size := by omega
      have hw : IntKind.i64.wrap (sumW p + wideI r0) = S := (IntWalk.i64_in _ (by omega)).trans hS.symm
      have hwd := fun w => width_of (s.extract l0 s.size) (wideI r0) (by rw [ByteArray.size_extract]; omega) hp.wid w
      clear hSs hS
      have hse2 : (s.toList == ([] : List UInt8)) = false := by simpa using hse
      by_cases hneg : r0 < 0
      · have o3 := hp.neg hneg
        gi_wp2
        have h1 := hmx
        clear c1 c2 c3 c5 c7 c8 f4 f6 k1 k2 k3 k4 k5 k6 k7 k8
        apply merge (TailI w.heap.size y s one two S D w)
        · gi_region_with_o ((with_reducible refine And.intro ?_ ?_); exact trivial; gi_at_call 37; (with_reducible refine (callsIn_wide.2 (hwd _)).mono ?_); rintro e v0 ⟨rfl, b0⟩; have e0 := Eight.below (W := W.drew) hE b0; obtain ⟨⟨_, _, _, _⟩, _, u6b, _, _⟩ := id e0; have u6 := u6b.cell; have z6 := u6b.frozen)
          all_goals
            have eB := (e0.setB hzy S).1
            have hB0 := ((hB).drew.trans (b0.mono (hB).drew.size)).setCell (p := ⟨y + 1, 0, none⟩) (by show w.heap.size ≤ y + 1; omega) (.int .i64 S)
            have hK0 := (KeepsOthers.setCell v0 ⟨y + 1, 0, none⟩ (.int .i64 S)).same D _ ((b0.block _ (Array.getElem?_eq_some_iff.1 hK).1).trans hK) rfl
            exact ⟨rfl, ⟨⟨_, _, _, eB⟩, hB0, hK0⟩⟩
        intro VV E0
        obtain ⟨d1, d2, d3, d4, d5⟩ := E0.reads
        gi_wp2_with ((with_reducible refine And.intro ?_ ?_); exact trivial; gi_at_call 45; (with_reducible refine (callsIn_wide.2 (B1 _)).mono ?_); rintro e v1 ⟨rfl, b1⟩; have E1 := E0.on b1 E0.size; obtain ⟨d1, d2, d3, d4, d5⟩ := E1.reads)
        gi_wp2_with ((with_reducible refine And.intro ?_ ?_); exact trivial; gi_at_call 45; (with_reducible refine (callsIn_wide.2 (B2 _)).mono ?_); rintro e v2 ⟨rfl, b2⟩; have E2 := E1.on b2 E1.size; clear d1 d2 d3 d4 d5; obtain ⟨d1, d2, d3, d4, d5⟩ := E2.reads)
        have h1 := hmx
        have hwr : IntKind.i64.wrap (max one two - ww) = max one two - ww := IntWalk.i64_in _ (by omega)
        have hn1 : ¬ wd.size < nr.size := by omega
        have hn2 : ¬ s.size < wd.size := by omega
        have hi1 : (0 : Int) ≤ (wd.size : Int) := by omega
        have hi2 : (wd.size : Int) ≤ (s.size : Int) := by omega
        have hi3 : (0 : Int) ≤ (nr.size : Int) := by omega
        have hi4 : (nr.size : Int) ≤ (wd.size : Int) := by omega
        refine wpIn_wide.2 ?_
        go_region_held3 (fun V => V.cell? ⟨w.heap.size, 0, none⟩ = some (.string s) ∧ V.cell? ⟨y + 1, 0, none⟩ = some (.int .i64 S)) (first | exact ⟨d1, d4⟩ | exact ⟨g1, g4⟩ | exact ⟨g6, g9⟩) (first | (go_at_call 37; refine (B3 _).mono ?_; rintro e v3 ⟨rfl, b3⟩; have E3 := E2.drew.on b3 E2.drew.size; obtain ⟨g1, g2, g3, g4, g5⟩ := E3.reads) | (go_at_call 45; refine (B4 _).mono ?_; rintro e v4 ⟨rfl, b4⟩; have E4 := E3.on b4 E3.size; obtain ⟨g6, g7, g8, g9, g10⟩ := E4.reads))
        gi_wp2_with ((with_reducible refine And.intro ?_ ?_); exact trivial; gi_at_call 37; (with_reducible refine (callsIn_wide.2 (B5 _)).mono ?_); rintro e v5 ⟨rfl, b5⟩; have E5 := E4.on b5 E4.size; have E6 := E5.on ((Below.refl _ v5).alloc (Nat.le_refl _) (.cells #[.int .i64 ww] 3)) E5.size; clear d1 d2 d3 d4 d5 g1 g2 g3 g4 g5 g6 g7 g8 g9 g10; obtain ⟨d1, d2, d3, d4, d5⟩ := E6.reads; have hw2 : ¬ max (max one two) 0 < ww := by omega)
        rw [max3 one two]
        gi_wp2_with ((with_reducible refine And.intro ?_ ?_); exact trivial; gi_at_call 21; (with_reducible refine (callsIn_wide.2 (runes_in (s.extract wd.size s.size) _)).mono ?_); rintro e w' ⟨rfl, rfl⟩)
        obtain ⟨rest, hrest⟩ : ∃ rest, s.extract wd.size s.size = rest := ⟨_, rfl⟩
        rw [hrest] at B6 B7 ⊢
        have E7 := E6.on ((Below.refl _ _).alloc (Nat.le_refl _) (.cells #[.string rest] 9)) E6.size
        have bw := (Boxed.new v5 3 (.int .i64 ww)).alloc (.cells #[.string rest] 9)
        have bs := Boxed.new (v5.alloc (.cells #[.int .i64 ww] 3)) 9 (.string rest)
        rw [World.size_alloc] at bs
        have hlt5 := E5.lt
        obtain ⟨y2, hy2⟩ : ∃ y2, v5.heap.size = y2 := ⟨_, rfl⟩
        obtain ⟨W3, hW3⟩ : ∃ W3, ((v5.alloc (.cells #[.int .i64 ww] 3)).alloc (.cells #[.string rest] 9)) = W3 := ⟨_, rfl⟩
        rw [hW3] at E7 bw bs ⊢
        rw [hy2] at bw bs hlt5 ⊢
        clear E0 E1 E2 E3 E4 E5 E6 b1 b2 b3 b4 b5 d1 d2 d3 d4 d5
        apply wp_runes_next 9 (by omega) w.heap.size (y2 + 1) rest rfl rfl bs E7.2.1 (Nat.le_refl _) (lastI w.heap.size y2 s one two ww) (lastX w.heap.size) (lastI_cells _ _ _ _ _ _) (lastX_cells _) (E7.last bw)
        case hassign =>
          intro l i r W K hK
          gi_wp2
          exact hK
        case hbody =>
          rintro l pre i r W ⟨rfl, q1, q2, q3, q4, q5⟩ hB hbb hsz hnext
          have hgt := B6 i r hnext
          have c1 := q1.cell
          have c2 := q2.cell
          have c3 := q3.cell
          have c5 := q5.cell
          have c4 := q4.cell
          have f4 := q4.frozen
          have hfin : ∀ V, V = W.setCell ⟨w.heap.size + 1 + 1 + 1, 0, none⟩ (.bool true) → Turned w.heap.size (y2 + 1) W V ∧ lastX w.heap.size .ret ([] ++ [(i, r)]) V := fun V e => by subst e; exact ⟨Turned.set q4 (by omega) (by omega) _, rfl, q4.set _⟩
          by_cases r1 : r < 32
          · have hg : max one two - ww < 4 := by unfold wideI at hgt; rw [if_pos (Or.inl r1)] at hgt; omega
            have hne : ¬ r = 92 := by omega
            clear hgt
            gi_wp2
            exact hfin _ rfl
          · by_cases r2 : r = 127
            · have hg : max one two - ww < 4 := by unfold wideI at hgt; rw [if_pos (Or.inr r2)] at hgt; omega
              subst r2
              clear hgt
              gi_wp2
              exact hfin _ rfl
            · by_cases r3 : r = 92
              · have hg : max one two - ww < 2 := by unfold wideI at hgt; rw [if_neg (by omega), if_pos r3] at hgt; omega
                subst r3
                clear hgt
                gi_wp2
                exact hfin _ rfl
              · have hg : max one two - ww < 1 := by unfold wideI at hgt; rw [if_neg (by omega), if_neg r3] at hgt; omega
                clear hgt
                gi_wp2
                exact hfin _ rfl
        case hdone =>
          rintro D2 W hD2 ⟨hnil, q1, q2, q3, q4, q5⟩ hB hO2 hK2
          have hwd := B7 hnil
          have c1 := q1.cell
          have c4 := q4.cell
          have f4 := q4.frozen
          subst hwd
          gi_wp2
          have hDl : D < W3.heap.size := (Array.getElem?_eq_some_iff.1 E7.2.2).1
          have x2 := (KeepsOthers.setCell W ⟨w.heap.size + 1 + 1 + 1, 0, none⟩ (.bool true)).same D2 _ hK2 rfl
          have x1 := (KeepsOthers.setCell W ⟨w.heap.size + 1 + 1 + 1, 0, none⟩ (.bool true)).same D _ (hO2 D _ E7.2.2 rfl) rfl
          obtain ⟨m1, m2, m3⟩ := two_marks (q4.set (.bool true)) (hB.setCell (p := ⟨w.heap.size + 1 + 1 + 1, 0, none⟩) (by simp; omega) _) x2 x1 (by omega) (by have := HB2.size; omega) (by have := E7.size; omega)
          refine ⟨by simp, .inl ⟨D2, _, rfl, run_takeDeferred x2, ?_⟩⟩
          refine ⟨by simp, .inl ⟨D, _, rfl, run_takeDeferred m1, ?_⟩⟩
          exact ⟨.bool true, by simp [results, Try.results10, go_sem, m2], rfl, m3⟩
        case hstop =>
          rintro D2 c pre W hD2 hpre ⟨rfl, q4⟩ hB hO2 hK2
          gi_wp2
          have hDl : D < W3.heap.size := (Array.getElem?_eq_some_iff.1 E7.2.2).1
          obtain ⟨m1, m2, m3⟩ := two_marks q4 hB hK2 (hO2 D _ E7.2.2 rfl) (by omega) (by have := HB2.size; omega) (by have := E7.size; omega)
          refine ⟨by simp, .inl ⟨D2, _, rfl, run_takeDeferred hK2, ?_⟩⟩
          refine ⟨by simp, .inl ⟨D, _, rfl, run_takeDeferred m1, ?_⟩⟩
          exact ⟨.bool true, by simp [results, Try.results10, go_sem, m2], rfl, m3⟩
      · have o3 := hp.pos (by omega)
        have hcv := conv_made r0 W
        gi_wp2
        have h1 := hmx
        have hE2 := hE.below ((Below.refl _ W).alloc (Nat.le_refl _) (.cells #[.int .i32 r0] 21))
        have hB2 := hB.alloc hB.size (.cells #[.int .i32 r0] 21)
        have hK3 := (Below.heap_alloc W (.cells #[.int .i32 r0] 21) _ (Array.getElem?_eq_some_iff.1 hK).1).trans hK
        generalize (W.alloc (.cells #[.int .i32 r0] 21)) = V0 at hE2 hB2 hK3 ⊢
        clear c1 c2 c3 c5 c6 c7 c8 f4 f6 k1 k2 k3 k4 k5 k6 k7 k8 hcv
        obtain ⟨⟨_, _, _, _⟩, _, n6, _, _⟩ := id hE2
        have c6 := n6.cell
        simp only [o3] at hwd
        clear n6
        apply merge (TailI w.heap.size y s one two S D w)
        · gi_region_with_o ((with_reducible refine And.intro ?_ ?_); exact trivial; gi_at_call 37; (with_reducible refine (callsIn_wide.2 (hwd _)).mono ?_); rintro e v0 ⟨rfl, b0⟩; have e0 := Eight.below (W := V0.drew) hE2 b0; obtain ⟨⟨_, _, _, _⟩, _, u6b, _, _⟩ := id e0; have u6 := u6b.cell; have z6 := u6b.frozen)
          all_goals
            have eB := (e0.setB hzy S).1
            have hB0 := ((hB2).drew.trans (b0.mono (hB2).drew.size)).setCell (p := ⟨y + 1, 0, none⟩) (by show w.heap.size ≤ y + 1; omega) (.int .i64 S)
            have hK0 := (KeepsOthers.setCell v0 ⟨y + 1, 0, none⟩ (.int .i64 S)).same D _ ((b0.block _ (Array.getElem?_eq_some_iff.1 hK3).1).trans hK3) rfl
            exact ⟨rfl, ⟨⟨_, _, _, eB⟩, hB0, hK0⟩⟩
        intro VV E0
        obtain ⟨d1, d2, d3, d4, d5⟩ := E0.reads
        gi_wp2_with ((with_reducible refine And.intro ?_ ?_); exact trivial; gi_at_call 45; (with_reducible refine (callsIn_wide.2 (B1 _)).mono ?_); rintro e v1 ⟨rfl, b1⟩; have E1 := E0.on b1 E0.size; obtain ⟨d1, d2, d3, d4, d5⟩ := E1.reads)
        gi_wp2_with ((with_reducible refine And.intro ?_ ?_); exact trivial; gi_at_call 45; (with_reducible refine (callsIn_wide.2 (B2 _)).mono ?_); rintro e v2 ⟨rfl, b2⟩; have E2 := E1.on b2 E1.size; clear d1 d2 d3 d4 d5; obtain ⟨d1, d2, d3, d4, d5⟩ := E2.reads)
        have h1 := hmx
        have hwr : IntKind.i64.wrap (max one two - ww) = max one two - ww := IntWalk.i64_in _ (by omega)
        have hn1 : ¬ wd.size < nr.size := by omega
        have hn2 : ¬ s.size < wd.size := by omega
        have hi1 : (0 : Int) ≤ (wd.size : Int) := by omega
        have hi2 : (wd.size : Int) ≤ (s.size : Int) := by omega
        have hi3 : (0 : Int) ≤ (nr.size : Int) := by omega
        have hi4 : (nr.size : Int) ≤ (wd.size : Int) := by omega
        refine wpIn_wide.2 ?_
        go_region_held3 (fun V => V.cell? ⟨w.heap.size, 0, none⟩ = some (.string s) ∧ V.cell? ⟨y + 1, 0, none⟩ = some (.int .i64 S)) (first | exact ⟨d1, d4⟩ | exact ⟨g1, g4⟩ | exact ⟨g6, g9⟩) (first | (go_at_call 37; refine (B3 _).mono ?_; rintro e v3 ⟨rfl, b3⟩; have E3 := E2.drew.on b3 E2.drew.size; obtain ⟨g1, g2, g3, g4, g5⟩ := E3.reads) | (go_at_call 45; refine (B4 _).mono ?_; rintro e v4 ⟨rfl, b4⟩; have E4 := E3.on b4 E3.size; obtain ⟨g6, g7, g8, g9, g10⟩ := E4.reads))
        gi_wp2_with ((with_reducible refine And.intro ?_ ?_); exact trivial; gi_at_call 37; (with_reducible refine (callsIn_wide.2 (B5 _)).mono ?_); rintro e v5 ⟨rfl, b5⟩; have E5 := E4.on b5 E4.size; have E6 := E5.on ((Below.refl _ v5).alloc (Nat.le_refl _) (.cells #[.int .i64 ww] 3)) E5.size; clear d1 d2 d3 d4 d5 g1 g2 g3 g4 g5 g6 g7 g8 g9 g10; obtain ⟨d1, d2, d3, d4, d5⟩ := E6.reads; have hw2 : ¬ max (max one two) 0 < ww := by omega)
        rw [max3 one two]
        gi_wp2_with ((with_reducible refine And.intro ?_ ?_); exact trivial; gi_at_call 21; (with_reducible refine (callsIn_wide.2 (runes_in (s.extract wd.size s.size) _)).mono ?_); rintro e w' ⟨rfl, rfl⟩)
        obtain ⟨rest, hrest⟩ : ∃ rest, s.extract wd.size s.size = rest := ⟨_, rfl⟩
        rw [hrest] at B6 B7 ⊢
        have E7 := E6.on ((Below.refl _ _).alloc (Nat.le_refl _) (.cells #[.string rest] 9)) E6.size
        have bw := (Boxed.new v5 3 (.int .i64 ww)).alloc (.cells #[.string rest] 9)
        have bs := Boxed.new (v5.alloc (.cells #[.int .i64 ww] 3)) 9 (.string rest)
        rw [World.size_alloc] at bs
        have hlt5 := E5.lt
        obtain ⟨y2, hy2⟩ : ∃ y2, v5.heap.size = y2 := ⟨_, rfl⟩
        obtain ⟨W3, hW3⟩ : ∃ W3, ((v5.alloc (.cells #[.int .i64 ww] 3)).alloc (.cells #[.string rest] 9)) = W3 := ⟨_, rfl⟩
        rw [hW3] at E7 bw bs ⊢
        rw [hy2] at bw bs hlt5 ⊢
        clear E0 E1 E2 E3 E4 E5 E6 b1 b2 b3 b4 b5 d1 d2 d3 d4 d5
        apply wp_runes_next 9 (by omega) w.heap.size (y2 + 1) rest rfl rfl bs E7.2.1 (Nat.le_refl _) (lastI w.heap.size y2 s one two ww) (lastX w.heap.size) (lastI_cells _ _ _ _ _ _) (lastX_cells _) (E7.last bw)
        case hassign =>
          intro l i r W K hK
          gi_wp2
          exact hK
        case hbody =>
          rintro l pre i r W ⟨rfl, q1, q2, q3, q4, q5⟩ hB hbb hsz hnext
          have hgt := B6 i r hnext
          have c1 := q1.cell
          have c2 := q2.cell
          have c3 := q3.cell
          have c5 := q5.cell
          have c4 := q4.cell
          have f4 := q4.frozen
          have hfin : ∀ V, V = W.setCell ⟨w.heap.size + 1 + 1 + 1, 0, none⟩ (.bool true) → Turned w.heap.size (y2 + 1) W V ∧ lastX w.heap.size .ret ([] ++ [(i, r)]) V := fun V e => by subst e; exact ⟨Turned.set q4 (by omega) (by omega) _, rfl, q4.set _⟩
          by_cases r1 : r < 32
          · have hg : max one two - ww < 4 := by unfold wideI at hgt; rw [if_pos (Or.inl r1)] at hgt; omega
            have hne : ¬ r = 92 := by omega
            clear hgt
            gi_wp2
            exact hfin _ rfl
          · by_cases r2 : r = 127
            · have hg : max one two - ww < 4 := by unfold wideI at hgt; rw [if_pos (Or.inr r2)] at hgt; omega
              subst r2
              clear hgt
              gi_wp2
              exact hfin _ rfl
            · by_cases r3 : r = 92
              · have hg : max one two - ww < 2 := by unfold wideI at hgt; rw [if_neg (by omega), if_pos r3] at hgt; omega
                subst r3
                clear hgt
                gi_wp2
                exact hfin _ rfl
              · have hg : max one two - ww < 1 := by unfold wideI at hgt; rw [if_neg (by omega), if_neg r3] at hgt; omega
                clear hgt
                gi_wp2
                exact hfin _ rfl
        case hdone =>
          rintro D2 W hD2 ⟨hnil, q1, q2, q3, q4, q5⟩ hB hO2 hK2
          have hwd := B7 hnil
          have c1 := q1.cell
          have c4 := q4.cell
          have f4 := q4.frozen
          subst hwd
          gi_wp2
          have hDl : D < W3.heap.size := (Array.getElem?_eq_some_iff.1 E7.2.2).1
          have x2 := (KeepsOthers.setCell W ⟨w.heap.size + 1 + 1 + 1, 0, none⟩ (.bool true)).same D2 _ hK2 rfl
          have x1 := (KeepsOthers.setCell W ⟨w.heap.size + 1 + 1 + 1, 0, none⟩ (.bool true)).same D _ (hO2 D _ E7.2.2 rfl) rfl
          obtain ⟨m1, m2, m3⟩ := two_marks (q4.set (.bool true)) (hB.setCell (p := ⟨w.heap.size + 1 + 1 + 1, 0, none⟩) (by simp; omega) _) x2 x1 (by omega) (by have := HB2.size; omega) (by have := E7.size; omega)
          refine ⟨by simp, .inl ⟨D2, _, rfl, run_takeDeferred x2, ?_⟩⟩
          refine ⟨by simp, .inl ⟨D, _, rfl, run_takeDeferred m1, ?_⟩⟩
          exact ⟨.bool true, by simp [results, Try.results10, go_sem, m2], rfl, m3⟩
        case hstop =>
          rintro D2 c pre W hD2 hpre ⟨rfl, q4⟩ hB hO2 hK2
          gi_wp2
          have hDl : D < W3.heap.size := (Array.getElem?_eq_some_iff.1 E7.2.2).1
          obtain ⟨m1, m2, m3⟩ := two_marks q4 hB hK2 (hO2 D _ E7.2.2 rfl) (by omega) (by have := HB2.size; omega) (by have := E7.size; omega)
          refine ⟨by simp, .inl ⟨D2, _, rfl, run_takeDeferred hK2, ?_⟩⟩
          refine ⟨by simp, .inl ⟨D, _, rfl, run_takeDeferred m1, ?_⟩⟩
          exact ⟨.bool true, by simp [results, Try.results10, go_sem, m2], rfl, m3⟩
  case hstop =>
    intro D c pre W hD hp hf
    exact hf.elim
end Go.Proofs.Ytijdlpbkmlplgaa.TR
