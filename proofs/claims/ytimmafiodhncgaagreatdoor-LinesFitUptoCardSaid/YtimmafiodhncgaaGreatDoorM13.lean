/- RefMake -/
import Derived.Test.YtimmafiodhncgaaGreatDoorM12
/- errataref04.Make of a Code and of a Wrap: a node in new memory. -/
set_option linter.unusedVariables false
set_option linter.unusedSimpArgs false
namespace Go.Proofs.YtimmafiodhncgaaGreatDoor.TK
open Go.RowKit Go.Shelf Go.Proofs.YtimmafiodhncgaaGreatDoorW.PrintWords Go.Proofs.YtimmafiodhncgaaGreatDoorW.PrintMore Go.Proofs.YtimmafiodhncgaaGreatDoor.TF Go.Proofs.YtimmafiodhncgaaGreatDoor.TW
theorem own_first1 {W : World} {base c : Nat} {e : TypeId} {A : Option Addr} {x : Value} (h : W.ownsRow base e 1 (.slice A 1 c) 1 [x]) : ∃ g, A = some ⟨g, 0, none⟩ ∧ W.cell? ⟨g, 0, none⟩ = some x ∧ g < W.heap.size := by
  obtain ⟨g, rfl⟩ := TF.own_some h (by omega)
  have := h.cells (g := g) rfl 0 x rfl
  rw [add_plain'] at this
  exact ⟨g, rfl, this, (h.lt g rfl).2⟩
set_option maxHeartbeats 2000000 in
set_option maxRecDepth 100000 in
theorem refmake_code (t : ByteArray) (n sm : Int) (re im : Nat) (fl : Bool) (mk : Int) (A B E : Option Addr) (c d ec base : Nat) (its : List ByteArray) (w : World)
    (hI : w.ownsRow base 9 1 (.slice A its.length c) its.length (encs Value.string its)) (hP : w.ownsRow base 3 1 (.slice B 0 d) 0 (encs (Value.int .i64) [])) (hE : w.ownsRow 0 196 1 (.slice E 0 ec) 0 []) (hi : its.length ≤ 65536) (hchk : chk 1 false t n sm re im fl mk its 0 = 0) :
    Calls Tryz.prog 117 #[spec 1 false t n sm re im fl mk (.slice A its.length c) (.slice B 0 d), .slice E 0 ec] w fun e w' => ∃ g, e = .returned (.tuple #[.pointer (some ⟨g, 0, none⟩), .int .i64 0]) ∧ w.heap.size ≤ g ∧ Below w.heap.size w w' := by
  have hCI : Kd.string.C w A its.length its := Kd.C_of_reads (own_reads_of' (d := ByteArray.empty) hI)
  have hCP : (Kd.int .i64).C w B 0 [] := Kd.C_of_reads (own_reads_of' (enc := Value.int .i64) (xs := []) (d := 0) hP)
  have hcheck := fun W (hW : Below w.heap.size w W) => refcheck_calls 1 false t n sm re im fl mk A B its.length c 0 d its W rfl (Kd.C_below hCI hW) (by omega)
  rw [hchk] at hcheck
  have HCh := Aside0.mk hcheck
  unfold spec at hcheck HCh ⊢
  clear hcheck
  have hx := Blk.new w 52 #[.int .u8 1, .bool false, .string t, .int .i16 n, .int .i8 sm, .float .f64 re, .float .f64 im, .bool fl, .int .u32 mk, .slice A its.length c, .slice B 0 d]
  have b0 : Below w.heap.size w (w.alloc (.cells #[.int .u8 1, .bool false, .string t, .int .i16 n, .int .i8 sm, .float .f64 re, .float .f64 im, .bool fl, .int .u32 mk, .slice A its.length c, .slice B 0 d] 52)) := (Below.refl _ w).alloc (Nat.le_refl _) _
  obtain ⟨V0, hV0⟩ : ∃ V, w.alloc (.cells #[.int .u8 1, .bool false, .string t, .int .i16 n, .int .i8 sm, .float .f64 re, .float .f64 im, .bool fl, .int .u32 mk, .slice A its.length c, .slice B 0 d] 52) = V := ⟨_, rfl⟩
  rw [hV0] at hx b0
  obtain ⟨c0, c1, c2, c3, c4, c5, c6, c7, c8, c9, c10⟩ : V0.cell? ⟨w.heap.size, 0, none⟩ = some (.int .u8 1) ∧ V0.cell? ⟨w.heap.size, 1, none⟩ = some (.bool false) ∧ V0.cell? ⟨w.heap.size, 2, none⟩ = some (.string t) ∧ V0.cell? ⟨w.heap.size, 3, none⟩ = some (.int .i16 n) ∧ V0.cell? ⟨w.heap.size, 4, none⟩ = some (.int .i8 sm) ∧ V0.cell? ⟨w.heap.size, 5, none⟩ = some (.float .f64 re) ∧ V0.cell? ⟨w.heap.size, 6, none⟩ = some (.float .f64 im) ∧ V0.cell? ⟨w.heap.size, 7, none⟩ = some (.bool fl) ∧ V0.cell? ⟨w.heap.size, 8, none⟩ = some (.int .u32 mk) ∧ V0.cell? ⟨w.heap.size, 9, none⟩ = some (.slice A its.length c) ∧ V0.cell? ⟨w.heap.size, 10, none⟩ = some (.slice B 0 d) := ⟨(hx.cell 0).trans rfl, (hx.cell 1).trans rfl, (hx.cell 2).trans rfl, (hx.cell 3).trans rfl, (hx.cell 4).trans rfl, (hx.cell 5).trans rfl, (hx.cell 6).trans rfl, (hx.cell 7).trans rfl, (hx.cell 8).trans rfl, (hx.cell 9).trans rfl, (hx.cell 10).trans rfl⟩
  have HX := Aside0.mk hx
  have HB := Aside0.mk b0
  have HCI := Aside0.mk hCI
  have HCP := Aside0.mk hCP
  have HE := Aside0.mk hE
  clear hx b0 hI hchk hCI hCP hP hE
  go_enter Tryz.func117, Tryz.ntmps117
  go_wp2_with (go_at_call 148; (with_reducible refine (HCh.out _ HB.out).mono ?_))
  rintro e W1 ⟨rfl, h1⟩
  clear c0 c1 c2 c3 c4 c5 c6 c7 c8 c9 c10
  have hx1 := HX.out.next h1
  obtain ⟨c0, c1, c2, c3, c4, c5, c6, c7, c8, c9, c10⟩ : W1.cell? ⟨w.heap.size, 0, none⟩ = some (.int .u8 1) ∧ W1.cell? ⟨w.heap.size, 1, none⟩ = some (.bool false) ∧ W1.cell? ⟨w.heap.size, 2, none⟩ = some (.string t) ∧ W1.cell? ⟨w.heap.size, 3, none⟩ = some (.int .i16 n) ∧ W1.cell? ⟨w.heap.size, 4, none⟩ = some (.int .i8 sm) ∧ W1.cell? ⟨w.heap.size, 5, none⟩ = some (.float .f64 re) ∧ W1.cell? ⟨w.heap.size, 6, none⟩ = some (.float .f64 im) ∧ W1.cell? ⟨w.heap.size, 7, none⟩ = some (.bool fl) ∧ W1.cell? ⟨w.heap.size, 8, none⟩ = some (.int .u32 mk) ∧ W1.cell? ⟨w.heap.size, 9, none⟩ = some (.slice A its.length c) ∧ W1.cell? ⟨w.heap.size, 10, none⟩ = some (.slice B 0 d) := ⟨(hx1.cell 0).trans rfl, (hx1.cell 1).trans rfl, (hx1.cell 2).trans rfl, (hx1.cell 3).trans rfl, (hx1.cell 4).trans rfl, (hx1.cell 5).trans rfl, (hx1.cell 6).trans rfl, (hx1.cell 7).trans rfl, (hx1.cell 8).trans rfl, (hx1.cell 9).trans rfl, (hx1.cell 10).trans rfl⟩
  have HX1 := Aside0.mk hx1
  have HB1 := Aside0.mk (HB.out.trans (h1.mono HB.out.size))
  clear hx1 h1 HX HB HCh
  go_upto_region 9 with (fail)
  obtain ⟨a, ha⟩ : ∃ a, W1.heap.size = a := ⟨_, rfl⟩
  have hwa : w.heap.size < a := by rw [← ha]; exact HX1.out.lt
  have hN := Blk.new W1 289 #[.int .u8 1, .bool false, .string t, .int .i16 n, .int .i8 sm, .float .f64 re, .float .f64 im, .bool fl, .int .u32 mk, .slice A its.length c, .slice B 0 d, .slice none 0 0, .bool false]
  have hB2 := HB1.out.alloc (show w.heap.size ≤ W1.heap.size by omega) (.cells #[.int .u8 1, .bool false, .string t, .int .i16 n, .int .i8 sm, .float .f64 re, .float .f64 im, .bool fl, .int .u32 mk, .slice A its.length c, .slice B 0 d, .slice none 0 0, .bool false] 289)
  have hX2 := HX1.out.next ((Below.refl _ W1).alloc (Nat.le_refl _) (.cells #[.int .u8 1, .bool false, .string t, .int .i16 n, .int .i8 sm, .float .f64 re, .float .f64 im, .bool fl, .int .u32 mk, .slice A its.length c, .slice B 0 d, .slice none 0 0, .bool false] 289))
  obtain ⟨W2, hW2⟩ : ∃ W2, W1.alloc (.cells #[.int .u8 1, .bool false, .string t, .int .i16 n, .int .i8 sm, .float .f64 re, .float .f64 im, .bool fl, .int .u32 mk, .slice A its.length c, .slice B 0 d, .slice none 0 0, .bool false] 289) = W2 := ⟨_, rfl⟩
  have hs2 : W2.heap.size = a + 1 := by rw [← hW2, World.size_alloc, ha]
  rw [hW2] at hN hB2 hX2 ⊢
  rw [ha] at hN ⊢
  clear c0 c1 c2 c3 c4 c5 c6 c7 c8 c9 c10 hW2
  have bE : Below W2.heap.size W2 (W2.alloc (.cells #[] 9)) := (Below.refl _ W2).alloc (Nat.le_refl _) _
  have e9 : (W2.alloc (.cells #[] 9)).cell? ⟨w.heap.size, 9, none⟩ = some (.slice A its.length c) := ((hX2.next bE).cell 9).trans rfl
  have CC := Kd.C_below HCI.out (hB2.trans (bE.mono (by rw [hs2]; omega)))
  have hEm := own_empty W2 9
  rw [hs2] at hEm
  have HEm := Aside0.mk hEm
  have HCC := Aside0.mk CC
  have HN := Aside0.mk (hN.next bE)
  have HX2 := Aside0.mk (hX2.next bE)
  have HB2 := Aside0.mk (hB2.trans (bE.mono (by rw [hs2]; omega)))
  clear hEm CC hN hX2 hB2 bE HX1 HB1
  go_upto_region 10 with (at_builtin; refine print_append_row_of (w0 := W2.alloc (.cells #[] 9)) Value.string ByteArray.empty (a + 1) rfl _ _ 32 9 (.string .empty) 16 rfl rfl ?hinfo rfl (by decide) (fun _ => rfl) _ [] its A its.length c rfl rfl HEm.out (Kd.reads_of_C (d := ByteArray.empty) HCC.out) (Below.refl _ _) ?hba ?hbd ?_; (case hinfo => rfl); (case hba => rw [World.size_alloc, hs2]; omega); (case hbd => simp; omega); intro v1 w4 ho4 bb4 hg4 hat4; obtain ⟨A4, c4, rfl⟩ := TW.own_slice ho4; have hn4 := HN.out.under bb4 (by omega); have hx4 := HX2.out.under bb4 (by omega); have f9 := hn4.frozen 9; have g9 : w4.cell? ⟨a, 9, none⟩ = some (.slice A its.length c) := (hn4.cell 9).trans rfl; have HN4 := Aside0.mk hn4; have HX4 := Aside0.mk hx4; have HB4 := Aside0.mk (HB2.out.trans (bb4.mono (by omega))); clear hn4 hx4 ho4 hg4 hat4 bb4)
  have s5 := HN4.out.set_ 9 (.slice A4 its.length c4)
  have x5 := HX4.out.far (p := ⟨a, 9, none⟩) (by simp; omega) (.slice A4 its.length c4)
  have b5 : Below w.heap.size w (w4.setCell ⟨a, 9, none⟩ (.slice A4 its.length c4)) := HB4.out.setCell (p := ⟨a, 9, none⟩) (by simp; omega) _
  have hs4 : a + 1 ≤ w4.heap.size := HN4.out.lt
  obtain ⟨W5, hW5⟩ : ∃ W5, w4.setCell ⟨a, 9, none⟩ (.slice A4 its.length c4) = W5 := ⟨_, rfl⟩
  have hs5 : a + 1 ≤ W5.heap.size := by rw [← hW5, World.size_setCell]; exact hs4
  rw [hW5] at s5 x5 b5 ⊢
  have bE : Below W5.heap.size W5 (W5.alloc (.cells #[] 3)) := (Below.refl _ W5).alloc (Nat.le_refl _) _
  have e10 : (W5.alloc (.cells #[] 3)).cell? ⟨w.heap.size, 10, none⟩ = some (.slice B 0 d) := ((x5.next bE).cell 10).trans rfl
  have hEm := own_empty W5 3
  have HEm5 := Aside0.mk hEm
  have HCC5 := Aside0.mk (Kd.C_below HCP.out (b5.trans (bE.mono (by omega))))
  have HN5 := Aside0.mk (s5.next bE)
  have HX5 := Aside0.mk (x5.next bE)
  have HB5 := Aside0.mk (b5.trans (bE.mono (by omega)))
  clear hEm s5 x5 b5 bE HN4 HX4 HB4 HN HX2 HB2 f9 g9 hW5 hs4 HEm HCC HCI HCP e9 hs2
  go_upto_region 11 with (at_builtin; refine print_append_row_of (w0 := W5.alloc (.cells #[] 3)) (Value.int .i64) 0 W5.heap.size rfl _ _ 50 3 (.int .i64 0) 8 rfl rfl ?hinfo rfl (by decide) (fun _ => rfl) _ [] [] B 0 d rfl rfl HEm5.out (Kd.reads_of_C (d := 0) HCC5.out) (Below.refl _ _) ?hba ?hbd ?_; (case hinfo => rfl); (case hba => rw [World.size_alloc]; omega); (case hbd => simp); intro v1 w7 ho7 bb7 hg7 hat7; obtain ⟨A7, c7, rfl⟩ := TW.own_slice ho7; have hn7 := HN5.out.under bb7 (by omega); have hx7 := HX5.out.under bb7 (by omega); have f10 := hn7.frozen 10; have g10 : w7.cell? ⟨a, 10, none⟩ = some (.slice B 0 d) := (hn7.cell 10).trans rfl; have HN7 := Aside0.mk hn7; have HX7 := Aside0.mk hx7; have HB7 := Aside0.mk (HB5.out.trans (bb7.mono (by omega))); clear hn7 hx7 ho7 hg7 hat7 bb7)
  have s8 := HN7.out.set_ 10 (.slice A7 0 c7)
  have b8 : Below w.heap.size w (w7.setCell ⟨a, 10, none⟩ (.slice A7 0 c7)) := HB7.out.setCell (p := ⟨a, 10, none⟩) (by simp; omega) _
  obtain ⟨W8, hW8⟩ : ∃ W8, w7.setCell ⟨a, 10, none⟩ (.slice A7 0 c7) = W8 := ⟨_, rfl⟩
  rw [hW8] at s8 b8 ⊢
  have g11 : W8.cell? ⟨a, 11, none⟩ = some (.slice none 0 0) := (s8.cell 11).trans rfl
  have HN8 := Aside0.mk s8
  have HB8 := Aside0.mk b8
  have HE8 := Aside0.mk (TF.own_next HE.out b8)
  have hs8 : a + 1 ≤ W8.heap.size := s8.lt
  clear s8 b8 HN7 HX7 HB7 f10 g10 hW8 HEm5 HCC5 e10 HN5 HX5 HB5 hs5
  go_upto_region 12 with (at_builtin; refine print_append_row_of (w0 := W8) (α := Option Addr) (fun x => Value.pointer x) none W8.heap.size rfl _ _ 195 196 (.pointer none) 8 rfl rfl ?hinfo rfl (by decide) (fun _ => rfl) _ [] ([] : List (Option Addr)) E 0 ec rfl rfl (World.ownsRow_nil _ _ _ _) (own_reads_of' (enc := fun x => Value.pointer x) (xs := []) (d := none) HE8.out) (Below.refl _ _) ?hba ?hbd ?_; (case hinfo => rfl); (case hba => exact Nat.le_refl _); (case hbd => simp); intro v1 w10 ho10 bb10 hg10 hat10; obtain ⟨A10, c10, rfl⟩ := TW.own_slice ho10; have hn10 := HN8.out.under bb10 (by omega); have f11 := hn10.frozen 11; have g11' : w10.cell? ⟨a, 11, none⟩ = some (.slice none 0 0) := (hn10.cell 11).trans rfl; have HB10 := Aside0.mk (HB8.out.trans (bb10.mono (by omega))); clear hn10 ho10 hg10 hat10 bb10)
  have b11 : Below w.heap.size w (w10.setCell ⟨a, 11, none⟩ (.slice A10 0 c10)) := HB10.out.setCell (p := ⟨a, 11, none⟩) (by simp; omega) _
  have HB11 := Aside0.mk b11
  clear b11 HB10 HN8 HB8 HE8 g11 g11' f11
  go_wp2_with (fail)
  go_ret2
  exact ⟨a, by kernel_rfl, by omega, HB11.out⟩
set_option maxHeartbeats 2000000 in
set_option maxRecDepth 100000 in
theorem refmake_wrap (t : ByteArray) (n sm : Int) (re im : Nat) (fl : Bool) (mk : Int) (A B E : Option Addr) (c d ec base : Nat) (its : List ByteArray) (p : Int) (pn : Addr) (w : World)
    (hI : w.ownsRow base 9 1 (.slice A its.length c) its.length (encs Value.string its)) (hP : w.ownsRow base 3 1 (.slice B 1 d) 1 (encs (Value.int .i64) [p])) (hE : w.ownsRow 0 196 1 (.slice E 1 ec) 1 [.pointer (some pn)]) (hi : its.length ≤ 65536) (hchk : chk 14 false t n sm re im fl mk its 1 = 0) :
    Calls Tryz.prog 117 #[spec 14 false t n sm re im fl mk (.slice A its.length c) (.slice B 1 d), .slice E 1 ec] w fun e w' => ∃ g, e = .returned (.tuple #[.pointer (some ⟨g, 0, none⟩), .int .i64 0]) ∧ w.heap.size ≤ g ∧ Below w.heap.size w w' := by
  have hCI : Kd.string.C w A its.length its := Kd.C_of_reads (own_reads_of' (d := ByteArray.empty) hI)
  have hCP : (Kd.int .i64).C w B 1 [p] := Kd.C_of_reads (own_reads_of' (enc := Value.int .i64) (xs := [p]) (d := 0) hP)
  have hcheck := fun W (hW : Below w.heap.size w W) => refcheck_calls 14 false t n sm re im fl mk A B its.length c 1 d its W rfl (Kd.C_below hCI hW) (by omega)
  rw [hchk] at hcheck
  have HCh := Aside0.mk hcheck
  unfold spec at hcheck HCh ⊢
  clear hcheck
  have hx := Blk.new w 52 #[.int .u8 14, .bool false, .string t, .int .i16 n, .int .i8 sm, .float .f64 re, .float .f64 im, .bool fl, .int .u32 mk, .slice A its.length c, .slice B 1 d]
  have b0 : Below w.heap.size w (w.alloc (.cells #[.int .u8 14, .bool false, .string t, .int .i16 n, .int .i8 sm, .float .f64 re, .float .f64 im, .bool fl, .int .u32 mk, .slice A its.length c, .slice B 1 d] 52)) := (Below.refl _ w).alloc (Nat.le_refl _) _
  obtain ⟨V0, hV0⟩ : ∃ V, w.alloc (.cells #[.int .u8 14, .bool false, .string t, .int .i16 n, .int .i8 sm, .float .f64 re, .float .f64 im, .bool fl, .int .u32 mk, .slice A its.length c, .slice B 1 d] 52) = V := ⟨_, rfl⟩
  rw [hV0] at hx b0
  obtain ⟨c0, c1, c2, c3, c4, c5, c6, c7, c8, c9, c10⟩ : V0.cell? ⟨w.heap.size, 0, none⟩ = some (.int .u8 14) ∧ V0.cell? ⟨w.heap.size, 1, none⟩ = some (.bool false) ∧ V0.cell? ⟨w.heap.size, 2, none⟩ = some (.string t) ∧ V0.cell? ⟨w.heap.size, 3, none⟩ = some (.int .i16 n) ∧ V0.cell? ⟨w.heap.size, 4, none⟩ = some (.int .i8 sm) ∧ V0.cell? ⟨w.heap.size, 5, none⟩ = some (.float .f64 re) ∧ V0.cell? ⟨w.heap.size, 6, none⟩ = some (.float .f64 im) ∧ V0.cell? ⟨w.heap.size, 7, none⟩ = some (.bool fl) ∧ V0.cell? ⟨w.heap.size, 8, none⟩ = some (.int .u32 mk) ∧ V0.cell? ⟨w.heap.size, 9, none⟩ = some (.slice A its.length c) ∧ V0.cell? ⟨w.heap.size, 10, none⟩ = some (.slice B 1 d) := ⟨(hx.cell 0).trans rfl, (hx.cell 1).trans rfl, (hx.cell 2).trans rfl, (hx.cell 3).trans rfl, (hx.cell 4).trans rfl, (hx.cell 5).trans rfl, (hx.cell 6).trans rfl, (hx.cell 7).trans rfl, (hx.cell 8).trans rfl, (hx.cell 9).trans rfl, (hx.cell 10).trans rfl⟩
  have HX := Aside0.mk hx
  have HB := Aside0.mk b0
  have HCI := Aside0.mk hCI
  have HCP := Aside0.mk hCP
  have HE := Aside0.mk hE
  obtain ⟨ge, rfl, hec, hel⟩ := own_first1 hE
  clear hx b0 hI hchk hCI hCP hP hE
  go_enter Tryz.func117, Tryz.ntmps117
  go_wp2_with (go_at_call 148; (with_reducible refine (HCh.out _ HB.out).mono ?_))
  rintro e W1 ⟨rfl, h1⟩
  clear c0 c1 c2 c3 c4 c5 c6 c7 c8 c9 c10
  have hx1 := HX.out.next h1
  obtain ⟨c0, c1, c2, c3, c4, c5, c6, c7, c8, c9, c10⟩ : W1.cell? ⟨w.heap.size, 0, none⟩ = some (.int .u8 14) ∧ W1.cell? ⟨w.heap.size, 1, none⟩ = some (.bool false) ∧ W1.cell? ⟨w.heap.size, 2, none⟩ = some (.string t) ∧ W1.cell? ⟨w.heap.size, 3, none⟩ = some (.int .i16 n) ∧ W1.cell? ⟨w.heap.size, 4, none⟩ = some (.int .i8 sm) ∧ W1.cell? ⟨w.heap.size, 5, none⟩ = some (.float .f64 re) ∧ W1.cell? ⟨w.heap.size, 6, none⟩ = some (.float .f64 im) ∧ W1.cell? ⟨w.heap.size, 7, none⟩ = some (.bool fl) ∧ W1.cell? ⟨w.heap.size, 8, none⟩ = some (.int .u32 mk) ∧ W1.cell? ⟨w.heap.size, 9, none⟩ = some (.slice A its.length c) ∧ W1.cell? ⟨w.heap.size, 10, none⟩ = some (.slice B 1 d) := ⟨(hx1.cell 0).trans rfl, (hx1.cell 1).trans rfl, (hx1.cell 2).trans rfl, (hx1.cell 3).trans rfl, (hx1.cell 4).trans rfl, (hx1.cell 5).trans rfl, (hx1.cell 6).trans rfl, (hx1.cell 7).trans rfl, (hx1.cell 8).trans rfl, (hx1.cell 9).trans rfl, (hx1.cell 10).trans rfl⟩
  have HX1 := Aside0.mk hx1
  have HB1 := Aside0.mk (HB.out.trans (h1.mono HB.out.size))
  have hec1 : W1.cell? ⟨ge, 0, none⟩ = some (.pointer (some pn)) := (World.cell?_of_block (HB1.out.block ge hel)).trans hec
  clear hec
  clear hx1 h1 HX HB HCh
  go_upto_region 9 with (fail)
  obtain ⟨a, ha⟩ : ∃ a, W1.heap.size = a := ⟨_, rfl⟩
  have hwa : w.heap.size < a := by rw [← ha]; exact HX1.out.lt
  have hN := Blk.new W1 289 #[.int .u8 14, .bool false, .string t, .int .i16 n, .int .i8 sm, .float .f64 re, .float .f64 im, .bool fl, .int .u32 mk, .slice A its.length c, .slice B 1 d, .slice none 0 0, .bool false]
  have hB2 := HB1.out.alloc (show w.heap.size ≤ W1.heap.size by omega) (.cells #[.int .u8 14, .bool false, .string t, .int .i16 n, .int .i8 sm, .float .f64 re, .float .f64 im, .bool fl, .int .u32 mk, .slice A its.length c, .slice B 1 d, .slice none 0 0, .bool false] 289)
  have hX2 := HX1.out.next ((Below.refl _ W1).alloc (Nat.le_refl _) (.cells #[.int .u8 14, .bool false, .string t, .int .i16 n, .int .i8 sm, .float .f64 re, .float .f64 im, .bool fl, .int .u32 mk, .slice A its.length c, .slice B 1 d, .slice none 0 0, .bool false] 289))
  obtain ⟨W2, hW2⟩ : ∃ W2, W1.alloc (.cells #[.int .u8 14, .bool false, .string t, .int .i16 n, .int .i8 sm, .float .f64 re, .float .f64 im, .bool fl, .int .u32 mk, .slice A its.length c, .slice B 1 d, .slice none 0 0, .bool false] 289) = W2 := ⟨_, rfl⟩
  have hs2 : W2.heap.size = a + 1 := by rw [← hW2, World.size_alloc, ha]
  rw [hW2] at hN hB2 hX2 ⊢
  rw [ha] at hN ⊢
  clear c0 c1 c2 c3 c4 c5 c6 c7 c8 c9 c10 hW2
  have bE : Below W2.heap.size W2 (W2.alloc (.cells #[] 9)) := (Below.refl _ W2).alloc (Nat.le_refl _) _
  have e9 : (W2.alloc (.cells #[] 9)).cell? ⟨w.heap.size, 9, none⟩ = some (.slice A its.length c) := ((hX2.next bE).cell 9).trans rfl
  have CC := Kd.C_below HCI.out (hB2.trans (bE.mono (by rw [hs2]; omega)))
  have hEm := own_empty W2 9
  rw [hs2] at hEm
  have HEm := Aside0.mk hEm
  have HCC := Aside0.mk CC
  have HN := Aside0.mk (hN.next bE)
  have HX2 := Aside0.mk (hX2.next bE)
  have HB2 := Aside0.mk (hB2.trans (bE.mono (by rw [hs2]; omega)))
  clear hEm CC hN hX2 hB2 bE HX1 HB1
  go_upto_region 10 with (at_builtin; refine print_append_row_of (w0 := W2.alloc (.cells #[] 9)) Value.string ByteArray.empty (a + 1) rfl _ _ 32 9 (.string .empty) 16 rfl rfl ?hinfo rfl (by decide) (fun _ => rfl) _ [] its A its.length c rfl rfl HEm.out (Kd.reads_of_C (d := ByteArray.empty) HCC.out) (Below.refl _ _) ?hba ?hbd ?_; (case hinfo => rfl); (case hba => rw [World.size_alloc, hs2]; omega); (case hbd => simp; omega); intro v1 w4 ho4 bb4 hg4 hat4; obtain ⟨A4, c4, rfl⟩ := TW.own_slice ho4; have hn4 := HN.out.under bb4 (by omega); have hx4 := HX2.out.under bb4 (by omega); have f9 := hn4.frozen 9; have g9 : w4.cell? ⟨a, 9, none⟩ = some (.slice A its.length c) := (hn4.cell 9).trans rfl; have HN4 := Aside0.mk hn4; have HX4 := Aside0.mk hx4; have HB4 := Aside0.mk (HB2.out.trans (bb4.mono (by omega))); clear hn4 hx4 ho4 hg4 hat4 bb4)
  have s5 := HN4.out.set_ 9 (.slice A4 its.length c4)
  have x5 := HX4.out.far (p := ⟨a, 9, none⟩) (by simp; omega) (.slice A4 its.length c4)
  have b5 : Below w.heap.size w (w4.setCell ⟨a, 9, none⟩ (.slice A4 its.length c4)) := HB4.out.setCell (p := ⟨a, 9, none⟩) (by simp; omega) _
  have hs4 : a + 1 ≤ w4.heap.size := HN4.out.lt
  obtain ⟨W5, hW5⟩ : ∃ W5, w4.setCell ⟨a, 9, none⟩ (.slice A4 its.length c4) = W5 := ⟨_, rfl⟩
  have hs5 : a + 1 ≤ W5.heap.size := by rw [← hW5, World.size_setCell]; exact hs4
  rw [hW5] at s5 x5 b5 ⊢
  have bE : Below W5.heap.size W5 (W5.alloc (.cells #[] 3)) := (Below.refl _ W5).alloc (Nat.le_refl _) _
  have e10 : (W5.alloc (.cells #[] 3)).cell? ⟨w.heap.size, 10, none⟩ = some (.slice B 1 d) := ((x5.next bE).cell 10).trans rfl
  have hEm := own_empty W5 3
  have HEm5 := Aside0.mk hEm
  have HCC5 := Aside0.mk (Kd.C_below HCP.out (b5.trans (bE.mono (by omega))))
  have HN5 := Aside0.mk (s5.next bE)
  have HX5 := Aside0.mk (x5.next bE)
  have HB5 := Aside0.mk (b5.trans (bE.mono (by omega)))
  clear hEm s5 x5 b5 bE HN4 HX4 HB4 HN HX2 HB2 f9 g9 hW5 hs4 HEm HCC HCI HCP e9 hs2
  go_upto_region 11 with (at_builtin; refine print_append_row_of (w0 := W5.alloc (.cells #[] 3)) (Value.int .i64) 0 W5.heap.size rfl _ _ 50 3 (.int .i64 0) 8 rfl rfl ?hinfo rfl (by decide) (fun _ => rfl) _ [] [p] B 1 d rfl rfl HEm5.out (Kd.reads_of_C (d := 0) HCC5.out) (Below.refl _ _) ?hba ?hbd ?_; (case hinfo => rfl); (case hba => rw [World.size_alloc]; omega); (case hbd => simp); intro v1 w7 ho7 bb7 hg7 hat7; obtain ⟨A7, c7, rfl⟩ := TW.own_slice ho7; have hn7 := HN5.out.under bb7 (by omega); have hx7 := HX5.out.under bb7 (by omega); have f10 := hn7.frozen 10; have g10 : w7.cell? ⟨a, 10, none⟩ = some (.slice B 1 d) := (hn7.cell 10).trans rfl; have HN7 := Aside0.mk hn7; have HX7 := Aside0.mk hx7; have HB7 := Aside0.mk (HB5.out.trans (bb7.mono (by omega))); clear hn7 hx7 ho7 hg7 hat7 bb7)
  have s8 := HN7.out.set_ 10 (.slice A7 1 c7)
  have b8 : Below w.heap.size w (w7.setCell ⟨a, 10, none⟩ (.slice A7 1 c7)) := HB7.out.setCell (p := ⟨a, 10, none⟩) (by simp; omega) _
  obtain ⟨W8, hW8⟩ : ∃ W8, w7.setCell ⟨a, 10, none⟩ (.slice A7 1 c7) = W8 := ⟨_, rfl⟩
  rw [hW8] at s8 b8 ⊢
  have g11 : W8.cell? ⟨a, 11, none⟩ = some (.slice none 0 0) := (s8.cell 11).trans rfl
  have HN8 := Aside0.mk s8
  have HB8 := Aside0.mk b8
  have HE8 := Aside0.mk (TF.own_next HE.out b8)
  have hs8 : a + 1 ≤ W8.heap.size := s8.lt
  clear s8 b8 HN7 HX7 HB7 f10 g10 hW8 HEm5 HCC5 e10 HN5 HX5 HB5 hs5
  go_upto_region 12 with (at_builtin; refine print_append_row_of (w0 := W8) (α := Option Addr) (fun x => Value.pointer x) none W8.heap.size rfl _ _ 195 196 (.pointer none) 8 rfl rfl ?hinfo rfl (by decide) (fun _ => rfl) _ [] [some pn] (some ⟨ge, 0, none⟩) 1 ec rfl rfl (World.ownsRow_nil _ _ _ _) (own_reads_of' (enc := fun x => Value.pointer x) (xs := [some pn]) (d := none) HE8.out) (Below.refl _ _) ?hba ?hbd ?_; (case hinfo => rfl); (case hba => exact Nat.le_refl _); (case hbd => simp); intro v1 w10 ho10 bb10 hg10 hat10; obtain ⟨A10, c10, rfl⟩ := TW.own_slice ho10; have hn10 := HN8.out.under bb10 (by omega); have f11 := hn10.frozen 11; have g11' : w10.cell? ⟨a, 11, none⟩ = some (.slice none 0 0) := (hn10.cell 11).trans rfl; have HB10 := Aside0.mk (HB8.out.trans (bb10.mono (by omega))); clear hn10 ho10 hg10 hat10 bb10)
  have b11 : Below w.heap.size w (w10.setCell ⟨a, 11, none⟩ (.slice A10 1 c10)) := HB10.out.setCell (p := ⟨a, 11, none⟩) (by simp; omega) _
  have HB11 := Aside0.mk b11
  clear b11 HB10 HN8 HB8 HE8 g11 g11' f11
  go_wp2_with (fail)
  go_ret2
  exact ⟨a, by kernel_rfl, by omega, HB11.out⟩
end Go.Proofs.YtimmafiodhncgaaGreatDoor.TK
