/- Twin BookSpec -/
import Derived.Test.YtimmafiodhncgaaGreatDoorM7
import Derived.Laws.AppendOwn
import Derived.Test.YtimmafiodhncgaaGreatDoorM4
section
/- errataref05.Twin: a copy of its own. -/
set_option linter.unusedVariables false
set_option linter.unusedSimpArgs false
namespace Go.Proofs.YtimmafiodhncgaaGreatDoor.TW
open Go.RowKit Go.Shelf Go.Proofs.YtimmafiodhncgaaGreatDoorW.PrintWords Go.Proofs.YtimmafiodhncgaaGreatDoorW.PrintMore

theorem SpecAt.under {b : Nat} {k : Int} {nl : Bool} {t : ByteArray} {n sm : Int} {re im : Nat} {fl : Bool} {mk : Int} {it pa : Value} {W V : World} {m : Nat} (h : SpecAt b k nl t n sm re im fl mk it pa W) (hb : Below m W V) (hm : b < m) : SpecAt b k nl t n sm re im fl mk it pa V :=
  (hb.block b hm).trans h
theorem own_empty (w : World) (e : TypeId) : (w.alloc (.cells #[] e)).ownsRow w.heap.size e 1 (.slice (some ⟨w.heap.size, 0, none⟩) 0 0) 0 [] :=
  ⟨rfl, .inr ⟨w.heap.size, 0, #[], rfl, Nat.le_refl _, World.alloc_heap_new w _, Nat.le_refl _, Nat.zero_le _, rfl, rfl⟩⟩
theorem own_slice {w : World} {base : Nat} {e : TypeId} {size n : Nat} {v : Value} {xs : List Value} (h : w.ownsRow base e size v n xs) : ∃ A c, v = .slice A n c := by
  rcases h with ⟨_, ⟨rfl, rfl⟩ | ⟨g, cap, cur, rfl, _⟩⟩
  · exact ⟨_, _, rfl⟩
  · exact ⟨_, _, rfl⟩
theorem own_next {w V : World} {base : Nat} {e : TypeId} {size n : Nat} {v : Value} {xs : List Value} (h : w.ownsRow base e size v n xs) (hb : Below w.heap.size w V) : V.ownsRow base e size v n xs := by
  obtain ⟨h0, h1 | ⟨g, cap, cur, h1, h2, h3, h4⟩⟩ := h
  · exact ⟨h0, .inl h1⟩
  · exact ⟨h0, .inr ⟨g, cap, cur, h1, h2, (hb.block g (Array.getElem?_eq_some_iff.1 h3).1).trans h3, h4⟩⟩
theorem own_base {w : World} {base base' : Nat} {e : TypeId} {size n : Nat} {v : Value} {xs : List Value} (h : w.ownsRow base e size v n xs) (hb : base' ≤ base) : w.ownsRow base' e size v n xs := by
  obtain ⟨h0, h1 | ⟨g, cap, cur, h1, h2, h3⟩⟩ := h
  · exact ⟨h0, .inl h1⟩
  · exact ⟨h0, .inr ⟨g, cap, cur, h1, Nat.le_trans hb h2, h3⟩⟩
theorem own_setRow {w : World} {base : Nat} {e : TypeId} {size n : Nat} {v : Value} {xs : List Value} {g : Nat} {R : Array Value} (h : w.ownsRow base e size v n xs) (hg : g < base) : (w.setRow g R).ownsRow base e size v n xs := by
  obtain ⟨h0, h1 | ⟨b, cap, cur, h1, h2, h3, h4⟩⟩ := h
  · exact ⟨h0, .inl h1⟩
  · exact ⟨h0, .inr ⟨b, cap, cur, h1, h2, (setRow_other w g b R (by omega)).trans h3, h4⟩⟩
section
variable {b : Nat} {k : Int} {nl : Bool} {t : ByteArray} {n sm : Int} {re im : Nat} {fl : Bool} {mk : Int} {it pa : Value} {W : World}
theorem heap_setCell {W : World} {g : Nat} {c : Array Value} {e : TypeId} {f : Nat × Nat} (h : W.heap[g]? = some (.cells c e f)) (i : Nat) (v : Value) : (W.setCell ⟨g, i, none⟩ v).heap[g]? = some (.cells (c.setIfInBounds i v) e f) := by
  obtain ⟨hl, he⟩ := Array.getElem?_eq_some_iff.1 h
  show (W.heap.modify g _)[g]? = _
  rw [Array.getElem?_modify]
  simp [h]
theorem SpecAt.put9 (h : SpecAt b k nl t n sm re im fl mk it pa W) (v : Value) : SpecAt b k nl t n sm re im fl mk v pa (W.setCell ⟨b, 9, none⟩ v) := heap_setCell h 9 v
theorem SpecAt.put10 (h : SpecAt b k nl t n sm re im fl mk it pa W) (v : Value) : SpecAt b k nl t n sm re im fl mk it v (W.setCell ⟨b, 10, none⟩ v) := heap_setCell h 10 v
theorem SpecAt.other (h : SpecAt b k nl t n sm re im fl mk it pa W) {a : Addr} (hne : a.block ≠ b) (v : Value) : SpecAt b k nl t n sm re im fl mk it pa (W.setCell a v) := by
  show (W.heap.modify a.block _)[b]? = _
  rw [Array.getElem?_modify, if_neg hne]
  exact h
theorem SpecAt.free (h : SpecAt b k nl t n sm re im fl mk it pa W) (i : Nat) : W.frozen? ⟨b, i, none⟩ = false := by
  unfold World.frozen?
  rw [h]
  simp
end
set_option maxHeartbeats 4000000 in
set_option maxRecDepth 100000 in
theorem twin_calls (k : Int) (nl : Bool) (t : ByteArray) (n sm : Int) (re im : Nat) (fl : Bool) (mk : Int) (A B : Option Addr) (l c l2 c2 : Nat) (its : List ByteArray) (ps : List Int) (w : World) (hl : its.length = l) (hC : Kd.string.C w A l its) (hl2 : ps.length = l2) (hP : (Kd.int .i64).C w B l2 ps)
    (hb1 : l ≤ 4398046511104) (hb2 : l2 ≤ 4398046511104) :
    Calls Tryz.prog 62 #[spec k nl t n sm re im fl mk (.slice A l c) (.slice B l2 c2)] w fun e w' => ∃ v10 v11, e = .returned (spec k nl t n sm re im fl mk v10 v11) ∧
      w'.ownsRow (w.heap.size + 2) 9 1 v10 l (encs Value.string its) ∧ w'.ownsRow (w.heap.size + 2) 3 1 v11 l2 (encs (Value.int .i64) ps) ∧ Below w.heap.size w w' := by
  unfold spec
  have hn := SpecAt.new w k nl t n sm re im fl mk (.slice A l c) (.slice B l2 c2)
  obtain ⟨W1, hW1⟩ : ∃ W1, w.alloc (.cells #[.int .u8 k, .bool nl, .string t, .int .i16 n, .int .i8 sm, .float .f64 re, .float .f64 im, .bool fl, .int .u32 mk, .slice A l c, .slice B l2 c2] 52) = W1 := ⟨_, rfl⟩
  have hs1 : W1.heap.size = w.heap.size + 1 := by rw [← hW1, World.size_alloc]
  have b1 : Below w.heap.size w W1 := by rw [← hW1]; exact (Below.refl _ w).alloc (Nat.le_refl _) _
  rw [hW1] at hn
  have hr := SpecAt.new W1 0 false ⟨#[]⟩ 0 0 0 0 false 0 (.slice none 0 0) (.slice none 0 0)
  obtain ⟨W2, hW2⟩ : ∃ W2, W1.alloc (.cells #[.int .u8 0, .bool false, .string ⟨#[]⟩, .int .i16 0, .int .i8 0, .float .f64 0, .float .f64 0, .bool false, .int .u32 0, .slice none 0 0, .slice none 0 0] 52) = W2 := ⟨_, rfl⟩
  have hs2 : W2.heap.size = w.heap.size + 1 + 1 := by rw [← hW2, World.size_alloc, hs1]
  have b12 : Below W1.heap.size W1 W2 := by rw [← hW2]; exact (Below.refl _ W1).alloc (Nat.le_refl _) _
  have hn2 := hn.next b12
  rw [hW2, hs1] at hr
  have hB2 : Below w.heap.size w W2 := b1.trans (b12.mono b1.size)
  have C2 := Kd.C_below hC hB2
  have P2 := Kd.C_below hP hB2
  have hE := own_empty W2 9
  have b23 : Below W2.heap.size W2 (W2.alloc (.cells #[] 9)) := (Below.refl _ W2).alloc (Nat.le_refl _) _
  have CC := Kd.C_below C2 b23
  have hn3 := hn2.next b23
  have hr3 := hr.next b23
  rw [hs2] at hE
  go_enter Tryz.func62, Tryz.ntmps62
  go_upto_region 1 with (fail)
  clear hW1 hW2 b12 hn hn2 hr
  have c9 := hn3.cells.2.2.2.2.2.2.2.2.2.1
  have HN3 := Aside0.mk hn3
  have HR3 := Aside0.mk hr3
  have HE := Aside0.mk hE
  clear hn3 hr3 hE
  go_upto_region 2 with (at_builtin; refine print_append_row_of (w0 := W2.alloc (.cells #[] 9)) Value.string ByteArray.empty (w.heap.size + 1 + 1) rfl _ _ 32 9 (.string .empty) 16 rfl rfl ?hinfo rfl (by decide) (fun _ => rfl) _ [] its A l c rfl rfl HE.out (Kd.reads_of_C (d := ByteArray.empty) CC) (Below.refl _ _) ?hba ?hbd ?_; (case hinfo => rfl); (case hba => rw [World.size_alloc, hs2]; omega); (case hbd => simp; omega); intro v1 w4 ho4 bb4 hg4 hat4; obtain ⟨A4, c4, rfl⟩ := own_slice ho4; have hn4 := HN3.out.under bb4 (by omega); have hr4 := HR3.out.under bb4 (by omega); have c9' := hn4.cells.2.2.2.2.2.2.2.2.2.1; have f9' := hn4.free 9; have HN4 := Aside0.mk hn4; have HR4 := Aside0.mk hr4; have HO4 := Aside0.mk ho4; have HG4 := Aside0.mk hg4; have HA4 := Aside0.mk hat4; have HB4 := Aside0.mk bb4; clear hn4 hr4 ho4 hg4 hat4 bb4)
  have s5 := HN4.out.put9 (.slice A4 l c4)
  have r5 := HR4.out.other (a := ⟨w.heap.size, 9, none⟩) (by simp) (.slice A4 l c4)
  have o5 : (w4.setCell ⟨w.heap.size, 9, none⟩ (.slice A4 l c4)).ownsRow (w.heap.size + 1 + 1) 9 1 (.slice A4 l c4) l (encs Value.string its) := by
    have := ownsRow_setCell_below (a := ⟨w.heap.size, 9, none⟩) HO4.out (by simp; omega) (.slice A4 l c4)
    simpa [hl] using this
  have hs4 : w.heap.size + 1 + 1 + 1 ≤ w4.heap.size := by have := HB4.out.size; rw [World.size_alloc, hs2] at this; omega
  have bb5 : Below w.heap.size w (w4.setCell ⟨w.heap.size, 9, none⟩ (.slice A4 l c4)) := (hB2.trans ((b23.mono (by omega)).trans (HB4.out.mono (by omega)))).setCell (Nat.le_refl _) _
  have hs5 : (w4.setCell ⟨w.heap.size, 9, none⟩ (.slice A4 l c4)).heap.size = w4.heap.size := World.size_setCell _ _ _
  obtain ⟨W5, hW5⟩ : ∃ W5, w4.setCell ⟨w.heap.size, 9, none⟩ (.slice A4 l c4) = W5 := ⟨_, rfl⟩
  rw [hW5] at s5 r5 o5 bb5 hs5 ⊢
  rw [← hs5] at hs4
  clear hs5
  clear hW5 HN3 HR3 HE HN4 HR4 HO4 HG4 HA4 HB4 c9 C2 P2 CC b23 hB2 b1
  have P5 := Kd.C_below hP bb5
  have hE := own_empty W5 3
  have b56 : Below W5.heap.size W5 (W5.alloc (.cells #[] 3)) := (Below.refl _ W5).alloc (Nat.le_refl _) _
  have P6 := Kd.C_below P5 b56
  have s6 := s5.next b56
  have r6 := r5.next b56
  have bb6 := bb5.trans (b56.mono (by omega))
  have c10 := s6.cells.2.2.2.2.2.2.2.2.2.2
  have HS6 := Aside0.mk s6
  have HR6 := Aside0.mk r6
  have HO5 := Aside0.mk o5
  have HB6 := Aside0.mk bb6
  have HE := Aside0.mk hE
  clear s5 r5 o5 bb5 s6 r6 bb6 hE
  go_upto_region 3 with (at_builtin; refine print_append_row_of (w0 := W5.alloc (.cells #[] 3)) (Value.int .i64) 0 W5.heap.size rfl _ _ 50 3 (.int .i64 0) 8 rfl rfl ?hinfo rfl (by decide) (fun _ => rfl) _ [] ps B l2 c2 rfl rfl HE.out (Kd.reads_of_C (d := 0) P6) (Below.refl _ _) ?hba ?hbd ?_; (case hinfo => rfl); (case hba => rw [World.size_alloc]; omega); (case hbd => simp; omega); intro v1 w7 ho7 bb7 hg7 hat7; obtain ⟨A7, c7, rfl⟩ := own_slice ho7; have hn7 := HS6.out.under bb7 (by omega); have hr7 := HR6.out.under bb7 (by omega); have c10' := hn7.cells.2.2.2.2.2.2.2.2.2.2; have f10' := hn7.free 10; have HN7 := Aside0.mk hn7; have HR7 := Aside0.mk hr7; have HO7 := Aside0.mk ho7; have HG7 := Aside0.mk hg7; have HA7 := Aside0.mk hat7; have HB7 := Aside0.mk bb7; clear hn7 hr7 ho7 hg7 hat7 bb7)
  have s8 := HN7.out.put10 (.slice A7 l2 c7)
  have r8 := HR7.out.other (a := ⟨w.heap.size, 10, none⟩) (by simp) (.slice A7 l2 c7)
  have q7 : w7.ownsRow (w.heap.size + 2) 9 1 (.slice A4 l c4) l (encs Value.string its) := own_next HO5.out (b56.trans HB7.out)
  have q8 := ownsRow_setCell_below (a := ⟨w.heap.size, 10, none⟩) q7 (by simp) (.slice A7 l2 c7)
  have o8 : (w7.setCell ⟨w.heap.size, 10, none⟩ (.slice A7 l2 c7)).ownsRow W5.heap.size 3 1 (.slice A7 l2 c7) l2 (encs (Value.int .i64) ps) := by
    have := ownsRow_setCell_below (a := ⟨w.heap.size, 10, none⟩) HO7.out (by simp; omega) (.slice A7 l2 c7)
    simpa [hl2] using this
  have bb8 : Below w.heap.size w (w7.setCell ⟨w.heap.size, 10, none⟩ (.slice A7 l2 c7)) := (HB6.out.trans (HB7.out.mono (by omega))).setCell (Nat.le_refl _) _
  obtain ⟨W8, hW8⟩ : ∃ W8, w7.setCell ⟨w.heap.size, 10, none⟩ (.slice A7 l2 c7) = W8 := ⟨_, rfl⟩
  rw [hW8] at s8 r8 q8 o8 bb8 ⊢
  clear hW8 HS6 HR6 HO5 HB6 HE HN7 HR7 HO7 HG7 HA7 HB7 c10 P5 P6 b56 q7
  obtain ⟨R, hR⟩ : ∃ R : Array Value, #[.int .u8 k, .bool nl, .string t, .int .i16 n, .int .i8 sm, .float .f64 re, .float .f64 im, .bool fl, .int .u32 mk, .slice A4 l c4, .slice A7 l2 c7] = R := ⟨_, rfl⟩
  obtain ⟨Z, hZ⟩ : ∃ Z : Array Value, #[.int .u8 0, .bool false, .string ⟨#[]⟩, .int .i16 0, .int .i8 0, .float .f64 0, .float .f64 0, .bool false, .int .u32 0, .slice none 0 0, .slice none 0 0] = Z := ⟨_, rfl⟩
  have hone : R.all (·.oneCell') = true := by rw [← hR]; simp [Value.oneCell', Value.cells]
  have hls : R.size = 11 := by rw [← hR]; rfl
  have hZs : Z.size = 11 := by rw [← hZ]; rfl
  have hinf : (Tryz.prog.info? 52).map (·.size) = some 11 := by kernel_rfl
  unfold SpecAt at s8 r8
  rw [hR] at s8
  rw [hZ] at r8
  refine wp_region_list ?_
  refine wpList_load_row rfl 52 _ rfl _ rfl 52 R (0, 0) _ s8 Tryz.underlying52 rfl (by rw [hls]; exact hinf) ?_
  refine wpList_store_row rfl 52 _ _ rfl _ R rfl rfl 52 Z r8 (by rw [hls]; exact hinf) (by rw [hZs, hls]) hone ?_
  have hg2 := setRow_heap W8 (w.heap.size + 1) Z R 52 (0, 0) r8
  have q9 : (W8.setRow (w.heap.size + 1) R).ownsRow (w.heap.size + 2) 9 1 (.slice A4 l c4) l (encs Value.string its) := own_setRow q8 (by omega)
  have o9 : (W8.setRow (w.heap.size + 1) R).ownsRow W5.heap.size 3 1 (.slice A7 l2 c7) l2 (encs (Value.int .i64) ps) := own_setRow o8 (by omega)
  have bb9 : Below w.heap.size w (W8.setRow (w.heap.size + 1) R) := bb8.trans ⟨rfl, rfl, rfl, by rw [setRow_size]; exact Nat.le_refl _, fun i hi => setRow_other _ _ _ _ (by omega)⟩
  obtain ⟨W9, hW9⟩ : ∃ W9, W8.setRow (w.heap.size + 1) R = W9 := ⟨_, rfl⟩
  rw [hW9] at hg2 q9 o9 bb9 ⊢
  have HG := Aside0.mk hg2
  have HI := Aside0.mk (show (Tryz.prog.info? 52).map (·.size) = some R.size by rw [hls]; exact hinf)
  have HQ := Aside0.mk q9
  have HO := Aside0.mk (own_base o9 (by omega : w.heap.size + 2 ≤ W5.heap.size))
  have HB := Aside0.mk bb9
  have HR := Aside0.mk hR
  clear hg2 q9 o9 bb9 hW9 s8 r8 q8 o8 bb8 hinf hone hls hZs hZ hR
  go_wp2
  refine bodyPost_ret (results_cell_row rfl _ W9 (w.heap.size + 1) 52 R (0, 0) _ rfl HG.out Tryz.underlying52 rfl HI.out) rfl ?_
  exact ⟨.slice A4 l c4, .slice A7 l2 c7, by rw [HR.out], HQ.out, HO.out, HB.out⟩
end Go.Proofs.YtimmafiodhncgaaGreatDoor.TW
end
section
/- book.twin, Spec, Copy. -/
set_option linter.unusedVariables false
set_option linter.unusedSimpArgs false
namespace Go.Proofs.YtimmafiodhncgaaGreatDoor.TK
open Go.RowKit Go.Shelf Go.Proofs.YtimmafiodhncgaaGreatDoorW.PrintWords Go.Proofs.YtimmafiodhncgaaGreatDoorW.PrintMore Go.Proofs.YtimmafiodhncgaaGreatDoor.TF Go.Proofs.YtimmafiodhncgaaGreatDoor.TW

def specCells (k : Int) (nl : Bool) (t : ByteArray) (n sm : Int) (re im : Nat) (fl : Bool) (mk : Int) (x y : Value) : Array Value := #[.int .u8 k, .bool nl, .string t, .int .i16 n, .int .i8 sm, .float .f64 re, .float .f64 im, .bool fl, .int .u32 mk, x, y]
theorem results_ct {fn : Func} {p q : Tmp} (h : fn.results = #[.cell p 52, .tmp q]) (tmps : Array Value) (w : World) (g : Nat) (cs : Array Value) (hp : tmps.getD p undef = .pointer (some ⟨g, 0, none⟩)) (hg : w.heap[g]? = some (.cells cs 52 (0, 0)))
    (hi : (Tryz.prog.info? 52).map (·.size) = some cs.size) :
    (results fn tmps).run Tryz.prog w = .ok (.tuple #[.agg cs, tmps.getD q undef]) w := by
  have hp' : tmps[p]?.getD undef = .pointer (some ⟨g, 0, none⟩) := by simpa using hp
  have := run_loadVar_row (P := Tryz.prog) w g 52 52 cs (0, 0) _ hg Tryz.underlying52 rfl hi
  simp [results, h, hp', asAddr, this]
theorem infoSpec : (Tryz.prog.info? 52).map (·.size) = some 11 := by kernel_rfl
set_option maxHeartbeats 4000000 in
set_option maxRecDepth 100000 in
theorem twin_ok (k : Int) (nl : Bool) (t : ByteArray) (n sm : Int) (re im : Nat) (fl : Bool) (mk : Int) (A B : Option Addr) (c d base : Nat) (its : List ByteArray) (ps : List Int) (w : World)
    (hI : w.ownsRow base 9 1 (.slice A its.length c) its.length (encs Value.string its)) (hP : w.ownsRow base 3 1 (.slice B ps.length d) ps.length (encs (Value.int .i64) ps)) (h1 : its.length ≤ 65536) (h2 : ps.length ≤ 65536) :
    Calls Tryz.prog 40 #[spec k nl t n sm re im fl mk (.slice A its.length c) (.slice B ps.length d)] w fun e w' => ∃ A' c' B' d', e = .returned (spec k nl t n sm re im fl mk (.slice A' its.length c') (.slice B' ps.length d')) ∧
      w'.ownsRow w.heap.size 9 1 (.slice A' its.length c') its.length (encs Value.string its) ∧ w'.ownsRow w.heap.size 3 1 (.slice B' ps.length d') ps.length (encs (Value.int .i64) ps) ∧ Below w.heap.size w w' := by
  unfold spec
  have hn := Blk.new w 52 #[.int .u8 k, .bool nl, .string t, .int .i16 n, .int .i8 sm, .float .f64 re, .float .f64 im, .bool fl, .int .u32 mk, .slice A its.length c, .slice B ps.length d]
  obtain ⟨W1, hW1⟩ : ∃ W1, w.alloc (.cells #[.int .u8 k, .bool nl, .string t, .int .i16 n, .int .i8 sm, .float .f64 re, .float .f64 im, .bool fl, .int .u32 mk, .slice A its.length c, .slice B ps.length d] 52) = W1 := ⟨_, rfl⟩
  have b1 : Below w.heap.size w W1 := by rw [← hW1]; exact (Below.refl _ w).alloc (Nat.le_refl _) _
  have hs1 : W1.heap.size = w.heap.size + 1 := by rw [← hW1, World.size_alloc]
  rw [hW1] at hn
  have hr := Blk.new W1 52 #[.int .u8 0, .bool false, .string ⟨#[]⟩, .int .i16 0, .int .i8 0, .float .f64 0, .float .f64 0, .bool false, .int .u32 0, .slice none 0 0, .slice none 0 0]
  obtain ⟨W2, hW2⟩ : ∃ W2, W1.alloc (.cells #[.int .u8 0, .bool false, .string ⟨#[]⟩, .int .i16 0, .int .i8 0, .float .f64 0, .float .f64 0, .bool false, .int .u32 0, .slice none 0 0, .slice none 0 0] 52) = W2 := ⟨_, rfl⟩
  have b12 : Below W1.heap.size W1 W2 := by rw [← hW2]; exact (Below.refl _ W1).alloc (Nat.le_refl _) _
  have hs2 : W2.heap.size = w.heap.size + 1 + 1 := by rw [← hW2, World.size_alloc, hs1]
  rw [hW2, hs1] at hr
  have b2 : Below w.heap.size w W2 := b1.trans (b12.mono b1.size)
  have hn2 := hn.next b12
  have c9 : W2.cell? ⟨w.heap.size, 9, none⟩ = some (.slice A its.length c) := (hn2.cell 9).trans rfl
  have c10 : W2.cell? ⟨w.heap.size, 10, none⟩ = some (.slice B ps.length d) := (hn2.cell 10).trans rfl
  have HN := Aside0.mk hn2
  have HR := Aside0.mk hr
  have HB := Aside0.mk b2
  have HI := Aside0.mk (TF.own_next hI b2)
  have HP := Aside0.mk (TF.own_next hP b2)
  clear hn hn2 hr b1 b2 b12 hI hP
  go_enter Tryz.func40, Tryz.ntmps40
  go_upto_region 1 with (fail)
  clear hW1 hW2
  go_cut [] (fun wc => ∃ (A' : Option Addr) (c' : Nat) (B' : Option Addr) (d' : Nat), Aside0 (Blk wc w.heap.size 52 #[.int .u8 k, .bool nl, .string t, .int .i16 n, .int .i8 sm, .float .f64 re, .float .f64 im, .bool fl, .int .u32 mk, .slice A' its.length c', .slice B' ps.length d']) ∧
    Aside0 (wc.ownsRow W2.heap.size 9 1 (.slice A' its.length c') its.length (encs Value.string its)) ∧ Aside0 (wc.ownsRow W2.heap.size 3 1 (.slice B' ps.length d') ps.length (encs (Value.int .i64) ps)) ∧ Aside0 (Fr (fun k => k = w.heap.size) W2 wc))
  case first =>
    have hfl := fun (W : World) (a : Addr) (x : Nat) => run_store Tryz.prog W a (.float .f64 x) .plain rfl
    have n2 := HN.out.next (Below.refl W2.heap.size W2).drew
    have i2 := own_drew HI.out
    have p2 := own_drew HP.out
    go_region_with (first | (go_at_call 72; (with_reducible refine (clone_strs i2 (by omega)).mono ?_); rintro e w3 ⟨v', rfl, ho3, hb3⟩; obtain ⟨A', c', rfl⟩ := TF.own_slice ho3; have n3 := n2.next hb3; have p3 := TF.own_next p2 hb3; have e9 := (n3.cell 9).trans rfl; have e10 := (n3.cell 10).trans rfl) | (go_at_call 73; (with_reducible refine (clone_ints p3 (by omega)).mono ?_); rintro e w4 ⟨v', rfl, ho4, hb4⟩; obtain ⟨B', d', rfl⟩ := TF.own_slice ho4; have n4 := n3.next hb4; have q3 := TF.own_next ho3 hb4; have g9 := (n4.cell 9).trans rfl; have g10 := (n4.cell 10).trans rfl; have f9 := n4.frozen 9; have f10 := n4.frozen 10))
    all_goals
      have s1 := n4.set_ 9 (.slice A' its.length c')
      have s2 := s1.set_ 10 (.slice B' ps.length d')
      have z4 : W2.heap.size ≤ w3.heap.size := hb3.size
      have bw : Fr (fun k => k = w.heap.size) W2 w4 := Fr.of ((Below.refl W2.heap.size W2).drew.trans (hb3.trans (hb4.mono hb3.size)))
      have f1 := bw.set (p := ⟨w.heap.size, 9, none⟩) (.inl rfl) (.slice A' its.length c')
      have f2 := f1.set (p := ⟨w.heap.size, 10, none⟩) (.inl rfl) (.slice B' ps.length d')
      have hlt : w.heap.size < W2.heap.size := by omega
      have o1 := ownsRow_setCell_below (a := ⟨w.heap.size, 9, none⟩) q3 hlt (.slice A' its.length c')
      have o2 := ownsRow_setCell_below (a := ⟨w.heap.size, 10, none⟩) o1 hlt (.slice B' ps.length d')
      have o3 := ownsRow_setCell_below (a := ⟨w.heap.size, 9, none⟩) ho4 (Nat.lt_of_lt_of_le hlt z4) (.slice A' its.length c')
      have o4 := ownsRow_setCell_below (a := ⟨w.heap.size, 10, none⟩) o3 (Nat.lt_of_lt_of_le hlt z4) (.slice B' ps.length d')
      have S2 := Aside0.mk s2
      have O2 := Aside0.mk o2
      have O4 := Aside0.mk (TF.own_lower o4 z4)
      have F2 := Aside0.mk f2
      clear s1 s2 bw f1 f2 o1 o2 o3 o4 n2 n3 n4 p2 p3 q3 ho3 ho4 hb3 hb4 i2 e9 e10 g9 g10 c9 c10
      go_wp2_with (fail)
      go_meet
      exact ⟨A', c', B', d', S2, O2, O4, F2⟩
  case rest =>
    obtain ⟨A', c', B', d', HS, HI2, HP2, HF⟩ := hcut
    have s8 := HS.out
    have r8 := HR.out.fr HF.out (show ¬ (w.heap.size + 1 = w.heap.size) by omega)
    have hz : w.heap.size + 1 < wc.heap.size := r8.lt
    have bb8 : Below w.heap.size w wc := HB.out.trans (HF.out.below (by omega) (fun k hk => by omega))
    obtain ⟨R, hR⟩ : ∃ R : Array Value, #[.int .u8 k, .bool nl, .string t, .int .i16 n, .int .i8 sm, .float .f64 re, .float .f64 im, .bool fl, .int .u32 mk, .slice A' its.length c', .slice B' ps.length d'] = R := ⟨_, rfl⟩
    obtain ⟨Z, hZ⟩ : ∃ Z : Array Value, #[.int .u8 0, .bool false, .string ⟨#[]⟩, .int .i16 0, .int .i8 0, .float .f64 0, .float .f64 0, .bool false, .int .u32 0, .slice none 0 0, .slice none 0 0] = Z := ⟨_, rfl⟩
    have hone : R.all (·.oneCell') = true := by rw [← hR]; simp [Value.oneCell', Value.cells]
    have hls : R.size = 11 := by rw [← hR]; rfl
    have hZs : Z.size = 11 := by rw [← hZ]; rfl
    have hinf := infoSpec
    unfold Blk at s8 r8
    rw [hR] at s8
    rw [hZ] at r8
    clear c9 c10
    go_upto_region 2 with (fail)
    refine wp_region_list ?_
    refine wpList_load_row rfl 52 _ rfl _ rfl 52 R (0, 0) _ s8 Tryz.underlying52 rfl (by rw [hls]; exact hinf) ?_
    refine wpList_store_row rfl 52 _ _ rfl _ R rfl rfl 52 Z r8 (by rw [hls]; exact hinf) (by rw [hZs, hls]) hone ?_
    have hg2 := setRow_heap wc (w.heap.size + 1) Z R 52 (0, 0) r8
    have q9 := own_setRow (R := R) (TF.own_lower HI2.out (show w.heap.size + 2 ≤ W2.heap.size by omega)) (show w.heap.size + 1 < w.heap.size + 2 by omega)
    have o9 := own_setRow (R := R) (TF.own_lower HP2.out (show w.heap.size + 2 ≤ W2.heap.size by omega)) (show w.heap.size + 1 < w.heap.size + 2 by omega)
    have bb9 : Below w.heap.size w (wc.setRow (w.heap.size + 1) R) := bb8.trans ⟨rfl, rfl, rfl, by rw [setRow_size]; exact Nat.le_refl _, fun i hi => setRow_other _ _ _ _ (by omega)⟩
    obtain ⟨W9, hW9⟩ : ∃ W9, wc.setRow (w.heap.size + 1) R = W9 := ⟨_, rfl⟩
    rw [hW9] at hg2 q9 o9 bb9 ⊢
    have HG2 := Aside0.mk hg2
    have HInf := Aside0.mk (show (Tryz.prog.info? 52).map (·.size) = some R.size by rw [hls]; exact hinf)
    have HQ := Aside0.mk (TF.own_lower q9 (show w.heap.size ≤ w.heap.size + 2 by omega))
    have HO2 := Aside0.mk (TF.own_lower o9 (show w.heap.size ≤ w.heap.size + 2 by omega))
    have HB2 := Aside0.mk bb9
    have HR2 := Aside0.mk hR
    clear hg2 q9 o9 bb9 hW9 s8 r8 bb8 hinf hone hls hZs hZ hR HS HI2 HP2 HF HR HB HN HI HP
    go_wp2
    refine bodyPost_ret (results_cell_row rfl _ W9 (w.heap.size + 1) 52 R (0, 0) _ rfl HG2.out Tryz.underlying52 rfl HInf.out) rfl ?_
    exact ⟨A', c', B', d', by rw [HR2.out], HQ.out, HO2.out, HB2.out⟩
end Go.Proofs.YtimmafiodhncgaaGreatDoor.TK
end
