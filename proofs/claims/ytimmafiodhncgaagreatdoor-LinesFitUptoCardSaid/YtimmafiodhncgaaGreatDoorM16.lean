/- RefBook -/
import Derived.Test.YtimmafiodhncgaaGreatDoorM14
import Derived.Test.YtimmafiodhncgaaGreatDoorM15
/- (*errataref05.Book).Make of Code 7 into a book without rows. -/
set_option linter.unusedVariables false
set_option linter.unusedSimpArgs false
namespace Go.Proofs.YtimmafiodhncgaaGreatDoor.TK
open Go.RowKit Go.Shelf Go.Proofs.YtimmafiodhncgaaGreatDoorW.PrintWords Go.Proofs.YtimmafiodhncgaaGreatDoorW.PrintMore Go.Proofs.YtimmafiodhncgaaGreatDoor.TF Go.Proofs.YtimmafiodhncgaaGreatDoor.TW

theorem rchk_seven : chk 1 false ⟨#[]⟩ 7 0 0 0 false 0 [] 0 = 0 := by kernel_rfl
theorem infoRRow2 : (Tryz.prog.info? 201).map (fun i => (i.zero.map (fun z => z.cells.size), i.size, i.bytes)) = some (some 16, 16, 144) := by kernel_rfl
set_option maxHeartbeats 8000000 in
set_option maxRecDepth 100000 in
theorem refbook_code (b : Nat) (w : World) (h : Blk w b 121 #[.slice none 0 0]) :
    Calls Tryz.prog 63 #[.pointer (some ⟨b, 0, none⟩), spec 1 false ⟨#[]⟩ 7 0 0 0 false 0 (.slice none 0 0) (.slice none 0 0)] w fun e w' => ∃ g c pn A ca B cb, e = .returned (.tuple #[.int .i64 1, .int .i64 0]) ∧ RBk b g c (rrow pn 1 false ⟨#[]⟩ 7 0 0 0 false 0 A 0 ca B 0 cb 1 1 6 0) w' ∧ Fr (fun q => q = b) w w' ∧ w.heap.size ≤ g := by
  have nI : ∀ (W : World) (m : Nat), W.ownsRow m 9 1 (.slice none 0 0) 0 (encs Value.string []) := fun W m => World.ownsRow_nil _ _ _ _
  have nP : ∀ (W : World) (m : Nat), W.ownsRow m 3 1 (.slice none 0 0) 0 (encs (Value.int .i64) []) := fun W m => World.ownsRow_nil _ _ _ _
  have HTw := Aside0.mk (fun W => twin_calls 1 false ⟨#[]⟩ 7 0 0 0 false 0 none none 0 0 0 0 [] [] W rfl (Kd.C_of_reads (own_reads_of' (enc := Value.string) (xs := []) (d := ByteArray.empty) (nI W 0))) rfl (Kd.C_of_reads (own_reads_of' (enc := Value.int .i64) (xs := []) (d := 0) (nP W 0))) (by decide) (by decide))
  unfold spec at HTw ⊢
  have hx := Blk.new w 52 #[.int .u8 1, .bool false, .string ⟨#[]⟩, .int .i16 7, .int .i8 0, .float .f64 0, .float .f64 0, .bool false, .int .u32 0, .slice none 0 0, .slice none 0 0]
  have b0 : Below w.heap.size w (w.alloc (.cells #[.int .u8 1, .bool false, .string ⟨#[]⟩, .int .i16 7, .int .i8 0, .float .f64 0, .float .f64 0, .bool false, .int .u32 0, .slice none 0 0, .slice none 0 0] 52)) := (Below.refl _ w).alloc (Nat.le_refl _) _
  have hk0 := h.next b0
  obtain ⟨V0, hV0⟩ : ∃ V, w.alloc (.cells #[.int .u8 1, .bool false, .string ⟨#[]⟩, .int .i16 7, .int .i8 0, .float .f64 0, .float .f64 0, .bool false, .int .u32 0, .slice none 0 0, .slice none 0 0] 52) = V := ⟨_, rfl⟩
  rw [hV0] at hx b0 hk0
  obtain ⟨c0, c1, c2, c3, c4, c5, c6, c7, c8, c9, c10⟩ : V0.cell? ⟨w.heap.size, 0, none⟩ = some (.int .u8 1) ∧ V0.cell? ⟨w.heap.size, 1, none⟩ = some (.bool false) ∧ V0.cell? ⟨w.heap.size, 2, none⟩ = some (.string ⟨#[]⟩) ∧ V0.cell? ⟨w.heap.size, 3, none⟩ = some (.int .i16 7) ∧ V0.cell? ⟨w.heap.size, 4, none⟩ = some (.int .i8 0) ∧ V0.cell? ⟨w.heap.size, 5, none⟩ = some (.float .f64 0) ∧ V0.cell? ⟨w.heap.size, 6, none⟩ = some (.float .f64 0) ∧ V0.cell? ⟨w.heap.size, 7, none⟩ = some (.bool false) ∧ V0.cell? ⟨w.heap.size, 8, none⟩ = some (.int .u32 0) ∧ V0.cell? ⟨w.heap.size, 9, none⟩ = some (.slice none 0 0) ∧ V0.cell? ⟨w.heap.size, 10, none⟩ = some (.slice none 0 0) := ⟨(hx.cell 0).trans rfl, (hx.cell 1).trans rfl, (hx.cell 2).trans rfl, (hx.cell 3).trans rfl, (hx.cell 4).trans rfl, (hx.cell 5).trans rfl, (hx.cell 6).trans rfl, (hx.cell 7).trans rfl, (hx.cell 8).trans rfl, (hx.cell 9).trans rfl, (hx.cell 10).trans rfl⟩
  have hxb : w.heap.size ≠ b := fun e => by have := h.lt; omega
  have hbw := h.lt
  have HX := Aside0.mk hx
  have HK := Aside0.mk hk0
  have HB := Aside0.mk b0
  clear hx b0 hk0 h nI nP
  go_enter Tryz.func63, Tryz.ntmps63
  go_wp2_with (fail)
  refine wp_loop_rounds 1 ?_
  unfold Code.rounds
  go_wp2_with (fail)
  refine wp_loop_rounds 1 ?_
  unfold Code.rounds
  go_wp2_with (go_at_call 62; (with_reducible refine (HTw.out _).mono ?_))
  rintro e W1 v10 v11 rfl hi1 hp1 h1
  obtain ⟨A1, a1, rfl⟩ := TF.own_slice hi1
  obtain ⟨B1, e1, rfl⟩ := TF.own_slice hp1
  have hx1 := HX.out.next h1
  clear c0 c1 c2 c3 c4 c5 c6 c7 c8 c9 c10
  obtain ⟨c0, c1, c2, c3, c4, c5, c6, c7, c8, c9, c10⟩ : W1.cell? ⟨w.heap.size, 0, none⟩ = some (.int .u8 1) ∧ W1.cell? ⟨w.heap.size, 1, none⟩ = some (.bool false) ∧ W1.cell? ⟨w.heap.size, 2, none⟩ = some (.string ⟨#[]⟩) ∧ W1.cell? ⟨w.heap.size, 3, none⟩ = some (.int .i16 7) ∧ W1.cell? ⟨w.heap.size, 4, none⟩ = some (.int .i8 0) ∧ W1.cell? ⟨w.heap.size, 5, none⟩ = some (.float .f64 0) ∧ W1.cell? ⟨w.heap.size, 6, none⟩ = some (.float .f64 0) ∧ W1.cell? ⟨w.heap.size, 7, none⟩ = some (.bool false) ∧ W1.cell? ⟨w.heap.size, 8, none⟩ = some (.int .u32 0) ∧ W1.cell? ⟨w.heap.size, 9, none⟩ = some (.slice none 0 0) ∧ W1.cell? ⟨w.heap.size, 10, none⟩ = some (.slice none 0 0) := ⟨(hx1.cell 0).trans rfl, (hx1.cell 1).trans rfl, (hx1.cell 2).trans rfl, (hx1.cell 3).trans rfl, (hx1.cell 4).trans rfl, (hx1.cell 5).trans rfl, (hx1.cell 6).trans rfl, (hx1.cell 7).trans rfl, (hx1.cell 8).trans rfl, (hx1.cell 9).trans rfl, (hx1.cell 10).trans rfl⟩
  have HX1 := Aside0.mk hx1
  have HK1 := Aside0.mk (HK.out.next h1)
  have HB1 := Aside0.mk (HB.out.trans (h1.mono HB.out.size))
  have hmk := refmake_code ⟨#[]⟩ 7 0 0 0 false 0 A1 B1 none a1 e1 0 _ [] W1 hi1 (TF.own_lower hp1 (Nat.le_refl _)) (World.ownsRow_nil _ _ _ _) (by decide) rchk_seven
  unfold spec at hmk
  simp only [List.length_nil] at hmk
  have HMk := Aside0.mk hmk
  clear hx1 h1 HX HK HB hi1 hp1 hmk
  go_wp2_with (go_at_call 117; (with_reducible refine HMk.out.mono ?_))
  rintro e W2 ⟨pg, rfl, -, h2⟩
  have hx2 := HX1.out.next h2
  clear c0 c1 c2 c3 c4 c5 c6 c7 c8 c9 c10
  obtain ⟨c0, c1, c2, c3, c4, c5, c6, c7, c8, c9, c10⟩ : W2.cell? ⟨w.heap.size, 0, none⟩ = some (.int .u8 1) ∧ W2.cell? ⟨w.heap.size, 1, none⟩ = some (.bool false) ∧ W2.cell? ⟨w.heap.size, 2, none⟩ = some (.string ⟨#[]⟩) ∧ W2.cell? ⟨w.heap.size, 3, none⟩ = some (.int .i16 7) ∧ W2.cell? ⟨w.heap.size, 4, none⟩ = some (.int .i8 0) ∧ W2.cell? ⟨w.heap.size, 5, none⟩ = some (.float .f64 0) ∧ W2.cell? ⟨w.heap.size, 6, none⟩ = some (.float .f64 0) ∧ W2.cell? ⟨w.heap.size, 7, none⟩ = some (.bool false) ∧ W2.cell? ⟨w.heap.size, 8, none⟩ = some (.int .u32 0) ∧ W2.cell? ⟨w.heap.size, 9, none⟩ = some (.slice none 0 0) ∧ W2.cell? ⟨w.heap.size, 10, none⟩ = some (.slice none 0 0) := ⟨(hx2.cell 0).trans rfl, (hx2.cell 1).trans rfl, (hx2.cell 2).trans rfl, (hx2.cell 3).trans rfl, (hx2.cell 4).trans rfl, (hx2.cell 5).trans rfl, (hx2.cell 6).trans rfl, (hx2.cell 7).trans rfl, (hx2.cell 8).trans rfl, (hx2.cell 9).trans rfl, (hx2.cell 10).trans rfl⟩
  have HX2 := Aside0.mk hx2
  have HK2 := Aside0.mk (HK1.out.next h2)
  have HB2 := Aside0.mk (HB1.out.trans (h2.mono HB1.out.size))
  clear hx2 h2 HX1 HK1 HB1 HMk
  go_upto_region 14 with (fail)
  go_cut [11] from 6 (fun v11 wc => ∃ (gN : Nat) (A' : Option Addr) (c' : Nat) (B' : Option Addr) (d' : Nat), v11 = .pointer (some ⟨gN, 0, none⟩) ∧ Aside0 (W2.heap.size ≤ gN) ∧ Aside0 (Blk wc gN 201 #[.pointer (some ⟨pg, 0, none⟩), .int .u8 1, .bool false, .string ⟨#[]⟩, .int .i16 7, .int .i8 0, .float .f64 0, .float .f64 0, .bool false, .int .u32 0, .slice A' 0 c', .slice B' 0 d', .int .i64 1, .int .i64 1, .int .i64 0, .int .i64 0]) ∧ Aside0 (Below W2.heap.size W2 wc))
  case first =>
    have hfl := fun (W : World) (a : Addr) (x : Nat) => run_store Tryz.prog W a (.float .f64 x) .plain rfl
    have bz : Below W2.heap.size W2 (W2.alloc (.cells #[.pointer none, .int .u8 0, .bool false, .string ⟨#[]⟩, .int .i16 0, .int .i8 0, .float .f64 0, .float .f64 0, .bool false, .int .u32 0, .slice none 0 0, .slice none 0 0, .int .i64 0, .int .i64 0, .int .i64 0, .int .i64 0] 201)).drew := ((Below.refl _ W2).alloc (Nat.le_refl _) _).drew
    have bd : Below W2.heap.size W2 W2.drew := (Below.refl _ W2).drew
    have xd := HX2.out.next bd
    have xz := HX2.out.next bz
    have nz : Blk (W2.alloc (.cells #[.pointer none, .int .u8 0, .bool false, .string ⟨#[]⟩, .int .i16 0, .int .i8 0, .float .f64 0, .float .f64 0, .bool false, .int .u32 0, .slice none 0 0, .slice none 0 0, .int .i64 0, .int .i64 0, .int .i64 0, .int .i64 0] 201)).drew W2.heap.size 201 #[.pointer none, .int .u8 0, .bool false, .string ⟨#[]⟩, .int .i16 0, .int .i8 0, .float .f64 0, .float .f64 0, .bool false, .int .u32 0, .slice none 0 0, .slice none 0 0, .int .i64 0, .int .i64 0, .int .i64 0, .int .i64 0] := Blk.new W2 _ _
    obtain ⟨a0, a1, a2, a3, a4, a5, a6, a7, a8, a9, a10⟩ : (W2.alloc (.cells #[.pointer none, .int .u8 0, .bool false, .string ⟨#[]⟩, .int .i16 0, .int .i8 0, .float .f64 0, .float .f64 0, .bool false, .int .u32 0, .slice none 0 0, .slice none 0 0, .int .i64 0, .int .i64 0, .int .i64 0, .int .i64 0] 201)).drew.cell? ⟨w.heap.size, 0, none⟩ = some (.int .u8 1) ∧ (W2.alloc (.cells #[.pointer none, .int .u8 0, .bool false, .string ⟨#[]⟩, .int .i16 0, .int .i8 0, .float .f64 0, .float .f64 0, .bool false, .int .u32 0, .slice none 0 0, .slice none 0 0, .int .i64 0, .int .i64 0, .int .i64 0, .int .i64 0] 201)).drew.cell? ⟨w.heap.size, 1, none⟩ = some (.bool false) ∧ (W2.alloc (.cells #[.pointer none, .int .u8 0, .bool false, .string ⟨#[]⟩, .int .i16 0, .int .i8 0, .float .f64 0, .float .f64 0, .bool false, .int .u32 0, .slice none 0 0, .slice none 0 0, .int .i64 0, .int .i64 0, .int .i64 0, .int .i64 0] 201)).drew.cell? ⟨w.heap.size, 2, none⟩ = some (.string ⟨#[]⟩) ∧ (W2.alloc (.cells #[.pointer none, .int .u8 0, .bool false, .string ⟨#[]⟩, .int .i16 0, .int .i8 0, .float .f64 0, .float .f64 0, .bool false, .int .u32 0, .slice none 0 0, .slice none 0 0, .int .i64 0, .int .i64 0, .int .i64 0, .int .i64 0] 201)).drew.cell? ⟨w.heap.size, 3, none⟩ = some (.int .i16 7) ∧ (W2.alloc (.cells #[.pointer none, .int .u8 0, .bool false, .string ⟨#[]⟩, .int .i16 0, .int .i8 0, .float .f64 0, .float .f64 0, .bool false, .int .u32 0, .slice none 0 0, .slice none 0 0, .int .i64 0, .int .i64 0, .int .i64 0, .int .i64 0] 201)).drew.cell? ⟨w.heap.size, 4, none⟩ = some (.int .i8 0) ∧ (W2.alloc (.cells #[.pointer none, .int .u8 0, .bool false, .string ⟨#[]⟩, .int .i16 0, .int .i8 0, .float .f64 0, .float .f64 0, .bool false, .int .u32 0, .slice none 0 0, .slice none 0 0, .int .i64 0, .int .i64 0, .int .i64 0, .int .i64 0] 201)).drew.cell? ⟨w.heap.size, 5, none⟩ = some (.float .f64 0) ∧ (W2.alloc (.cells #[.pointer none, .int .u8 0, .bool false, .string ⟨#[]⟩, .int .i16 0, .int .i8 0, .float .f64 0, .float .f64 0, .bool false, .int .u32 0, .slice none 0 0, .slice none 0 0, .int .i64 0, .int .i64 0, .int .i64 0, .int .i64 0] 201)).drew.cell? ⟨w.heap.size, 6, none⟩ = some (.float .f64 0) ∧ (W2.alloc (.cells #[.pointer none, .int .u8 0, .bool false, .string ⟨#[]⟩, .int .i16 0, .int .i8 0, .float .f64 0, .float .f64 0, .bool false, .int .u32 0, .slice none 0 0, .slice none 0 0, .int .i64 0, .int .i64 0, .int .i64 0, .int .i64 0] 201)).drew.cell? ⟨w.heap.size, 7, none⟩ = some (.bool false) ∧ (W2.alloc (.cells #[.pointer none, .int .u8 0, .bool false, .string ⟨#[]⟩, .int .i16 0, .int .i8 0, .float .f64 0, .float .f64 0, .bool false, .int .u32 0, .slice none 0 0, .slice none 0 0, .int .i64 0, .int .i64 0, .int .i64 0, .int .i64 0] 201)).drew.cell? ⟨w.heap.size, 8, none⟩ = some (.int .u32 0) ∧ (W2.alloc (.cells #[.pointer none, .int .u8 0, .bool false, .string ⟨#[]⟩, .int .i16 0, .int .i8 0, .float .f64 0, .float .f64 0, .bool false, .int .u32 0, .slice none 0 0, .slice none 0 0, .int .i64 0, .int .i64 0, .int .i64 0, .int .i64 0] 201)).drew.cell? ⟨w.heap.size, 9, none⟩ = some (.slice none 0 0) ∧ (W2.alloc (.cells #[.pointer none, .int .u8 0, .bool false, .string ⟨#[]⟩, .int .i16 0, .int .i8 0, .float .f64 0, .float .f64 0, .bool false, .int .u32 0, .slice none 0 0, .slice none 0 0, .int .i64 0, .int .i64 0, .int .i64 0, .int .i64 0] 201)).drew.cell? ⟨w.heap.size, 10, none⟩ = some (.slice none 0 0) := ⟨(xz.cell 0).trans rfl, (xz.cell 1).trans rfl, (xz.cell 2).trans rfl, (xz.cell 3).trans rfl, (xz.cell 4).trans rfl, (xz.cell 5).trans rfl, (xz.cell 6).trans rfl, (xz.cell 7).trans rfl, (xz.cell 8).trans rfl, (xz.cell 9).trans rfl, (xz.cell 10).trans rfl⟩
    obtain ⟨d0, d1, d2, d3, d4, d5, d6, d7, d8, d9, d10⟩ : W2.drew.cell? ⟨w.heap.size, 0, none⟩ = some (.int .u8 1) ∧ W2.drew.cell? ⟨w.heap.size, 1, none⟩ = some (.bool false) ∧ W2.drew.cell? ⟨w.heap.size, 2, none⟩ = some (.string ⟨#[]⟩) ∧ W2.drew.cell? ⟨w.heap.size, 3, none⟩ = some (.int .i16 7) ∧ W2.drew.cell? ⟨w.heap.size, 4, none⟩ = some (.int .i8 0) ∧ W2.drew.cell? ⟨w.heap.size, 5, none⟩ = some (.float .f64 0) ∧ W2.drew.cell? ⟨w.heap.size, 6, none⟩ = some (.float .f64 0) ∧ W2.drew.cell? ⟨w.heap.size, 7, none⟩ = some (.bool false) ∧ W2.drew.cell? ⟨w.heap.size, 8, none⟩ = some (.int .u32 0) ∧ W2.drew.cell? ⟨w.heap.size, 9, none⟩ = some (.slice none 0 0) ∧ W2.drew.cell? ⟨w.heap.size, 10, none⟩ = some (.slice none 0 0) := ⟨(xd.cell 0).trans rfl, (xd.cell 1).trans rfl, (xd.cell 2).trans rfl, (xd.cell 3).trans rfl, (xd.cell 4).trans rfl, (xd.cell 5).trans rfl, (xd.cell 6).trans rfl, (xd.cell 7).trans rfl, (xd.cell 8).trans rfl, (xd.cell 9).trans rfl, (xd.cell 10).trans rfl⟩
    have HTd := Aside0.mk (HTw.out W2.drew)
    have HTz := Aside0.mk (HTw.out ((W2.alloc (.cells #[.pointer none, .int .u8 0, .bool false, .string ⟨#[]⟩, .int .i16 0, .int .i8 0, .float .f64 0, .float .f64 0, .bool false, .int .u32 0, .slice none 0 0, .slice none 0 0, .int .i64 0, .int .i64 0, .int .i64 0, .int .i64 0] 201)).drew))
    have XD := Aside0.mk xd
    have XZ := Aside0.mk xz
    have NZ := Aside0.mk nz
    have BZ := Aside0.mk bz
    have BD := Aside0.mk bd
    have hxs : w.heap.size < W2.heap.size := HX2.out.lt
    clear bz bd xd xz nz
    go_region_held3 (fun V => V.cell? ⟨w.heap.size, 0, none⟩ = some (.int .u8 1) ∧ V.cell? ⟨w.heap.size, 1, none⟩ = some (.bool false) ∧ V.cell? ⟨w.heap.size, 2, none⟩ = some (.string ⟨#[]⟩) ∧ V.cell? ⟨w.heap.size, 3, none⟩ = some (.int .i16 7) ∧ V.cell? ⟨w.heap.size, 4, none⟩ = some (.int .i8 0) ∧ V.cell? ⟨w.heap.size, 5, none⟩ = some (.float .f64 0) ∧ V.cell? ⟨w.heap.size, 6, none⟩ = some (.float .f64 0) ∧ V.cell? ⟨w.heap.size, 7, none⟩ = some (.bool false) ∧ V.cell? ⟨w.heap.size, 8, none⟩ = some (.int .u32 0) ∧ V.cell? ⟨w.heap.size, 9, none⟩ = some (.slice none 0 0) ∧ V.cell? ⟨w.heap.size, 10, none⟩ = some (.slice none 0 0)) (first | exact ⟨c0, c1, c2, c3, c4, c5, c6, c7, c8, c9, c10⟩ | exact ⟨d0, d1, d2, d3, d4, d5, d6, d7, d8, d9, d10⟩ | exact ⟨a0, a1, a2, a3, a4, a5, a6, a7, a8, a9, a10⟩ | exact ⟨e0, e1, e2, e3, e4, e5, e6, e7, e8, e9, e10⟩ | exact ⟨k0, k1, k2, k3, k4, k5, k6, k7, k8, k9, k10⟩ | go_keep) (first | (go_at_call 62; refine HTd.out.mono ?_; rintro e w3 ⟨v10, v11, rfl, oi, op, hb3⟩; obtain ⟨A', c', rfl⟩ := TF.own_slice oi; obtain ⟨B', d', rfl⟩ := TF.own_slice op; have x3 := XD.out.next hb3; obtain ⟨e0, e1, e2, e3, e4, e5, e6, e7, e8, e9, e10⟩ : w3.cell? ⟨w.heap.size, 0, none⟩ = some (.int .u8 1) ∧ w3.cell? ⟨w.heap.size, 1, none⟩ = some (.bool false) ∧ w3.cell? ⟨w.heap.size, 2, none⟩ = some (.string ⟨#[]⟩) ∧ w3.cell? ⟨w.heap.size, 3, none⟩ = some (.int .i16 7) ∧ w3.cell? ⟨w.heap.size, 4, none⟩ = some (.int .i8 0) ∧ w3.cell? ⟨w.heap.size, 5, none⟩ = some (.float .f64 0) ∧ w3.cell? ⟨w.heap.size, 6, none⟩ = some (.float .f64 0) ∧ w3.cell? ⟨w.heap.size, 7, none⟩ = some (.bool false) ∧ w3.cell? ⟨w.heap.size, 8, none⟩ = some (.int .u32 0) ∧ w3.cell? ⟨w.heap.size, 9, none⟩ = some (.slice none 0 0) ∧ w3.cell? ⟨w.heap.size, 10, none⟩ = some (.slice none 0 0) := ⟨(x3.cell 0).trans rfl, (x3.cell 1).trans rfl, (x3.cell 2).trans rfl, (x3.cell 3).trans rfl, (x3.cell 4).trans rfl, (x3.cell 5).trans rfl, (x3.cell 6).trans rfl, (x3.cell 7).trans rfl, (x3.cell 8).trans rfl, (x3.cell 9).trans rfl, (x3.cell 10).trans rfl⟩) | (go_at_call 62; refine HTz.out.mono ?_; rintro e w3 ⟨v10, v11, rfl, oi, op, hb3⟩; obtain ⟨A', c', rfl⟩ := TF.own_slice oi; obtain ⟨B', d', rfl⟩ := TF.own_slice op; have x3 := XZ.out.next hb3; have z3 := NZ.out.next hb3; obtain ⟨e0, e1, e2, e3, e4, e5, e6, e7, e8, e9, e10⟩ : w3.cell? ⟨w.heap.size, 0, none⟩ = some (.int .u8 1) ∧ w3.cell? ⟨w.heap.size, 1, none⟩ = some (.bool false) ∧ w3.cell? ⟨w.heap.size, 2, none⟩ = some (.string ⟨#[]⟩) ∧ w3.cell? ⟨w.heap.size, 3, none⟩ = some (.int .i16 7) ∧ w3.cell? ⟨w.heap.size, 4, none⟩ = some (.int .i8 0) ∧ w3.cell? ⟨w.heap.size, 5, none⟩ = some (.float .f64 0) ∧ w3.cell? ⟨w.heap.size, 6, none⟩ = some (.float .f64 0) ∧ w3.cell? ⟨w.heap.size, 7, none⟩ = some (.bool false) ∧ w3.cell? ⟨w.heap.size, 8, none⟩ = some (.int .u32 0) ∧ w3.cell? ⟨w.heap.size, 9, none⟩ = some (.slice none 0 0) ∧ w3.cell? ⟨w.heap.size, 10, none⟩ = some (.slice none 0 0) := ⟨(x3.cell 0).trans rfl, (x3.cell 1).trans rfl, (x3.cell 2).trans rfl, (x3.cell 3).trans rfl, (x3.cell 4).trans rfl, (x3.cell 5).trans rfl, (x3.cell 6).trans rfl, (x3.cell 7).trans rfl, (x3.cell 8).trans rfl, (x3.cell 9).trans rfl, (x3.cell 10).trans rfl⟩; obtain ⟨R, hR⟩ : ∃ R : Array Value, #[.pointer (some ⟨pg, 0, none⟩), .int .u8 1, .bool false, .string ⟨#[]⟩, .int .i16 7, .int .i8 0, .float .f64 0, .float .f64 0, .bool false, .int .u32 0, .slice A' 0 c', .slice B' 0 d', .int .i64 1, .int .i64 1, .int .i64 0, .int .i64 0] = R := ⟨_, rfl⟩; have hls : R.size = 16 := (by rw [← hR]; rfl); have hse : R.toList.set 15 (.int .i64 0) = R.toList := (by rw [← hR]; rfl); have hst : Sem.run Tryz.prog (storeCells ⟨W2.heap.size, 0, none⟩ R.toList 0) w3 = .ok () (w3.setRow W2.heap.size R) := run_storeCells_from W2.heap.size 201 R.toList 0 _ w3 z3 (by simp [hls]) (fun v hv => by rw [← hR] at hv; revert v; simp [Value.oneCell']); have m3 := x3.setRow (g' := W2.heap.size) (by omega) R; obtain ⟨k0, k1, k2, k3, k4, k5, k6, k7, k8, k9, k10⟩ : (w3.setRow W2.heap.size R).cell? ⟨w.heap.size, 0, none⟩ = some (.int .u8 1) ∧ (w3.setRow W2.heap.size R).cell? ⟨w.heap.size, 1, none⟩ = some (.bool false) ∧ (w3.setRow W2.heap.size R).cell? ⟨w.heap.size, 2, none⟩ = some (.string ⟨#[]⟩) ∧ (w3.setRow W2.heap.size R).cell? ⟨w.heap.size, 3, none⟩ = some (.int .i16 7) ∧ (w3.setRow W2.heap.size R).cell? ⟨w.heap.size, 4, none⟩ = some (.int .i8 0) ∧ (w3.setRow W2.heap.size R).cell? ⟨w.heap.size, 5, none⟩ = some (.float .f64 0) ∧ (w3.setRow W2.heap.size R).cell? ⟨w.heap.size, 6, none⟩ = some (.float .f64 0) ∧ (w3.setRow W2.heap.size R).cell? ⟨w.heap.size, 7, none⟩ = some (.bool false) ∧ (w3.setRow W2.heap.size R).cell? ⟨w.heap.size, 8, none⟩ = some (.int .u32 0) ∧ (w3.setRow W2.heap.size R).cell? ⟨w.heap.size, 9, none⟩ = some (.slice none 0 0) ∧ (w3.setRow W2.heap.size R).cell? ⟨w.heap.size, 10, none⟩ = some (.slice none 0 0) := ⟨(m3.cell 0).trans rfl, (m3.cell 1).trans rfl, (m3.cell 2).trans rfl, (m3.cell 3).trans rfl, (m3.cell 4).trans rfl, (m3.cell 5).trans rfl, (m3.cell 6).trans rfl, (m3.cell 7).trans rfl, (m3.cell 8).trans rfl, (m3.cell 9).trans rfl, (m3.cell 10).trans rfl⟩; have RR := Aside0.mk hR; have Z3 := Aside0.mk z3; clear z3 m3))
    · have hb3' := BD.out.trans (hb3.mono (show W2.heap.size ≤ W2.drew.heap.size from Nat.le_refl _))
      have hz3 : W2.heap.size ≤ w3.heap.size := hb3'.size
      have N3 := Aside0.mk (Blk.new w3 201 #[.pointer (some ⟨pg, 0, none⟩), .int .u8 1, .bool false, .string ⟨#[]⟩, .int .i16 7, .int .i8 0, .float .f64 0, .float .f64 0, .bool false, .int .u32 0, .slice A' 0 c', .slice B' 0 d', .int .i64 1, .int .i64 1, .int .i64 0, .int .i64 0])
      have B3 := Aside0.mk (hb3'.alloc hz3 (.cells #[.pointer (some ⟨pg, 0, none⟩), .int .u8 1, .bool false, .string ⟨#[]⟩, .int .i16 7, .int .i8 0, .float .f64 0, .float .f64 0, .bool false, .int .u32 0, .slice A' 0 c', .slice B' 0 d', .int .i64 1, .int .i64 1, .int .i64 0, .int .i64 0] 201))
      clear oi op hb3 hb3' x3
      go_wp2_with (fail)
      go_meet
      exact ⟨_, A', c', B', d', rfl, Aside0.mk hz3, N3, B3⟩
    · have hg2 := setRow_heap w3 W2.heap.size _ R 201 (0, 0) Z3.out
      have hzz : W2.heap.size + 1 ≤ ((W2.alloc (.cells #[.pointer none, .int .u8 0, .bool false, .string ⟨#[]⟩, .int .i16 0, .int .i8 0, .float .f64 0, .float .f64 0, .bool false, .int .u32 0, .slice none 0 0, .slice none 0 0, .int .i64 0, .int .i64 0, .int .i64 0, .int .i64 0] 201)).drew).heap.size := by show _ ≤ (W2.alloc _).heap.size; rw [World.size_alloc]; exact Nat.le_refl _
      have N3 := Aside0.mk (show Blk (w3.setRow W2.heap.size R) W2.heap.size 201 #[.pointer (some ⟨pg, 0, none⟩), .int .u8 1, .bool false, .string ⟨#[]⟩, .int .i16 7, .int .i8 0, .float .f64 0, .float .f64 0, .bool false, .int .u32 0, .slice A' 0 c', .slice B' 0 d', .int .i64 1, .int .i64 1, .int .i64 0, .int .i64 0] by unfold Blk; rw [RR.out]; exact hg2)
      have B3 := Aside0.mk ((BZ.out.trans (hb3.mono (by omega))).trans (below_setRow w3 (Nat.le_refl _) R))
      clear oi op hb3 hg2
      go_wp2_with (fail)
      go_meet
      exact ⟨_, A', c', B', d', rfl, Aside0.mk (Nat.le_refl _), N3, B3⟩
  case rest =>
    clear c0 c1 c2 c3 c4 c5 c6 c7 c8 c9 c10
    obtain ⟨gN, A', c', B', d', rfl, HgN, HN, HB3⟩ := hcut
    obtain ⟨W3, rfl⟩ : ∃ W3 : World, W3 = wc := ⟨_, rfl⟩
    have hxs : w.heap.size < W2.heap.size := HX2.out.lt
    have hx3 := HX2.out.next HB3.out
    have HX3 := Aside0.mk hx3
    have HK3 := Aside0.mk (HK2.out.next HB3.out)
    have HBw3 := Aside0.mk (HB2.out.trans (HB3.out.mono HB2.out.size))
    obtain ⟨c0, c1, c2, c3, c4, c5, c6, c7, c8, c9, c10⟩ : W3.cell? ⟨w.heap.size, 0, none⟩ = some (.int .u8 1) ∧ W3.cell? ⟨w.heap.size, 1, none⟩ = some (.bool false) ∧ W3.cell? ⟨w.heap.size, 2, none⟩ = some (.string ⟨#[]⟩) ∧ W3.cell? ⟨w.heap.size, 3, none⟩ = some (.int .i16 7) ∧ W3.cell? ⟨w.heap.size, 4, none⟩ = some (.int .i8 0) ∧ W3.cell? ⟨w.heap.size, 5, none⟩ = some (.float .f64 0) ∧ W3.cell? ⟨w.heap.size, 6, none⟩ = some (.float .f64 0) ∧ W3.cell? ⟨w.heap.size, 7, none⟩ = some (.bool false) ∧ W3.cell? ⟨w.heap.size, 8, none⟩ = some (.int .u32 0) ∧ W3.cell? ⟨w.heap.size, 9, none⟩ = some (.slice none 0 0) ∧ W3.cell? ⟨w.heap.size, 10, none⟩ = some (.slice none 0 0) := ⟨(hx3.cell 0).trans rfl, (hx3.cell 1).trans rfl, (hx3.cell 2).trans rfl, (hx3.cell 3).trans rfl, (hx3.cell 4).trans rfl, (hx3.cell 5).trans rfl, (hx3.cell 6).trans rfl, (hx3.cell 7).trans rfl, (hx3.cell 8).trans rfl, (hx3.cell 9).trans rfl, (hx3.cell 10).trans rfl⟩
    have hlg := reflong_code ⟨#[]⟩ 0 0 0 false 0 none none none 0 0 0 0 [] W3 (World.ownsRow_nil _ _ _ _) (by decide) rchk_seven
    unfold spec at hlg
    simp only [List.length_nil] at hlg
    have HLg := Aside0.mk hlg
    clear hx3 hlg
    go_wp2_with (fail)
    refine wp_loop_rounds 1 ?_
    unfold Code.rounds
    go_wp2_with (fail)
    refine wp_loop_rounds 1 ?_
    unfold Code.rounds
    go_wp2_with (go_at_call 119; (with_reducible refine HLg.out.mono ?_))
    rintro e W4 rfl h4
    clear c0 c1 c2 c3 c4 c5 c6 c7 c8 c9 c10
    have hN4 := HN.out.next h4
    have e14 : W4.cell? ⟨gN, 14, none⟩ = some (.int .i64 0) := (hN4.cell 14).trans rfl
    have f14 := hN4.frozen 14
    have e12 : (W4.setCell ⟨gN, 14, none⟩ (.int .i64 6)).cell? ⟨gN, 12, none⟩ = some (.int .i64 1) := ((hN4.set_ 14 (.int .i64 6)).cell 12).trans rfl
    have hK4 := HK3.out.next h4
    have hgb : gN ≠ b := fun e => by have := HgN.out; omega
    have hkb := (hK4.far (p := ⟨gN, 14, none⟩) (fun e => hgb e.symm) (.int .i64 6))
    have hN5 : Blk (W4.setCell ⟨gN, 14, none⟩ (.int .i64 6)) gN 201 #[.pointer (some ⟨pg, 0, none⟩), .int .u8 1, .bool false, .string ⟨#[]⟩, .int .i16 7, .int .i8 0, .float .f64 0, .float .f64 0, .bool false, .int .u32 0, .slice A' 0 c', .slice B' 0 d', .int .i64 1, .int .i64 1, .int .i64 6, .int .i64 0] := hN4.set_ 14 (.int .i64 6)
    have hB5 : Below w.heap.size w (W4.setCell ⟨gN, 14, none⟩ (.int .i64 6)) := (HBw3.out.trans (h4.mono HBw3.out.size)).setCell (p := ⟨gN, 14, none⟩) (by show w.heap.size ≤ gN; have := HgN.out; omega) _
    have HN5 := Aside0.mk hN5
    have HK5 := Aside0.mk hkb
    have HB5 := Aside0.mk hB5
    clear h4 hN4 hK4 hkb hN5 hB5 HN HK3 HBw3 HX3 HX2 HB3 HB2 HK2 HLg e12
    go_upto_region 29 with (fail)
    obtain ⟨U, hU⟩ : ∃ U, W4.setCell ⟨gN, 14, none⟩ (.int .i64 6) = U := ⟨_, rfl⟩
    rw [hU] at HN5 HK5 HB5 ⊢
    have cb : U.cell? ⟨b, 0, none⟩ = some (.slice none 0 0) := (HK5.out.cell 0).trans rfl
    have c2 : U.cell? ⟨gN, 12, none⟩ = some (.int .i64 1) := (HN5.out.cell 12).trans rfl
    have c3 : U.cell? ⟨gN, 13, none⟩ = some (.int .i64 1) := (HN5.out.cell 13).trans rfl
    have c4 : U.cell? ⟨gN, 14, none⟩ = some (.int .i64 6) := (HN5.out.cell 14).trans rfl
    have c5 : U.cell? ⟨gN, 15, none⟩ = some (.int .i64 0) := (HN5.out.cell 15).trans rfl
    clear hU e14 f14
    go_upto_region 37 with (fail)
    clear cb c2 c3 c4 c5
    obtain ⟨i0, hi0, hz⟩ := Option.map_eq_some_iff.1 infoRRow2
    simp only [Prod.mk.injEq] at hz
    obtain ⟨hz0, hz1, hz2⟩ := hz
    obtain ⟨z, hz3, hz4⟩ := Option.map_eq_some_iff.1 hz0
    have hinf : (Tryz.prog.info? 201).map (fun i => (i.zero, i.size, i.bytes)) = some (some z, 16, 144) := by rw [hi0, Option.map_some, hz3, hz1, hz2]
    have HINF := Aside0.mk (And.intro hinf hz4)
    have bd : Below U.heap.size U U.drew := (Below.refl _ U).drew
    have ba : Below U.heap.size U (U.alloc (.cells #[.pointer (some ⟨pg, 0, none⟩), .int .u8 1, .bool false, .string ⟨#[]⟩, .int .i16 7, .int .i8 0, .float .f64 0, .float .f64 0, .bool false, .int .u32 0, .slice A' 0 c', .slice B' 0 d', .int .i64 1, .int .i64 1, .int .i64 6, .int .i64 0] 201)).drew := ((Below.refl _ U).alloc (Nat.le_refl _) _).drew
    have nd := HN5.out.next bd
    have na := HN5.out.next ba
    have hd := HK5.out.next bd
    have ha := HK5.out.next ba
    have hC : U.drew.cell? ⟨gN, 0, none⟩ = some (.pointer (some ⟨pg, 0, none⟩)) ∧ U.drew.cell? ⟨gN, 1, none⟩ = some (.int .u8 1) ∧ U.drew.cell? ⟨gN, 2, none⟩ = some (.bool false) ∧ U.drew.cell? ⟨gN, 3, none⟩ = some (.string ⟨#[]⟩) ∧ U.drew.cell? ⟨gN, 4, none⟩ = some (.int .i16 7) ∧ U.drew.cell? ⟨gN, 5, none⟩ = some (.int .i8 0) ∧ U.drew.cell? ⟨gN, 6, none⟩ = some (.float .f64 0) ∧ U.drew.cell? ⟨gN, 7, none⟩ = some (.float .f64 0) ∧ U.drew.cell? ⟨gN, 8, none⟩ = some (.bool false) ∧ U.drew.cell? ⟨gN, 9, none⟩ = some (.int .u32 0) ∧ U.drew.cell? ⟨gN, 10, none⟩ = some (.slice A' 0 c') ∧ U.drew.cell? ⟨gN, 11, none⟩ = some (.slice B' 0 d') ∧ U.drew.cell? ⟨gN, 12, none⟩ = some (.int .i64 1) ∧ U.drew.cell? ⟨gN, 13, none⟩ = some (.int .i64 1) ∧ U.drew.cell? ⟨gN, 14, none⟩ = some (.int .i64 6) ∧ U.drew.cell? ⟨gN, 15, none⟩ = some (.int .i64 0) ∧ U.drew.cell? ⟨b, 0, none⟩ = some (.slice none 0 0) := ⟨(nd.cell 0).trans rfl, (nd.cell 1).trans rfl, (nd.cell 2).trans rfl, (nd.cell 3).trans rfl, (nd.cell 4).trans rfl, (nd.cell 5).trans rfl, (nd.cell 6).trans rfl, (nd.cell 7).trans rfl, (nd.cell 8).trans rfl, (nd.cell 9).trans rfl, (nd.cell 10).trans rfl, (nd.cell 11).trans rfl, (nd.cell 12).trans rfl, (nd.cell 13).trans rfl, (nd.cell 14).trans rfl, (nd.cell 15).trans rfl, (hd.cell 0).trans rfl⟩
    have hA : (U.alloc (.cells #[.pointer (some ⟨pg, 0, none⟩), .int .u8 1, .bool false, .string ⟨#[]⟩, .int .i16 7, .int .i8 0, .float .f64 0, .float .f64 0, .bool false, .int .u32 0, .slice A' 0 c', .slice B' 0 d', .int .i64 1, .int .i64 1, .int .i64 6, .int .i64 0] 201)).drew.cell? ⟨gN, 0, none⟩ = some (.pointer (some ⟨pg, 0, none⟩)) ∧ (U.alloc (.cells #[.pointer (some ⟨pg, 0, none⟩), .int .u8 1, .bool false, .string ⟨#[]⟩, .int .i16 7, .int .i8 0, .float .f64 0, .float .f64 0, .bool false, .int .u32 0, .slice A' 0 c', .slice B' 0 d', .int .i64 1, .int .i64 1, .int .i64 6, .int .i64 0] 201)).drew.cell? ⟨gN, 1, none⟩ = some (.int .u8 1) ∧ (U.alloc (.cells #[.pointer (some ⟨pg, 0, none⟩), .int .u8 1, .bool false, .string ⟨#[]⟩, .int .i16 7, .int .i8 0, .float .f64 0, .float .f64 0, .bool false, .int .u32 0, .slice A' 0 c', .slice B' 0 d', .int .i64 1, .int .i64 1, .int .i64 6, .int .i64 0] 201)).drew.cell? ⟨gN, 2, none⟩ = some (.bool false) ∧ (U.alloc (.cells #[.pointer (some ⟨pg, 0, none⟩), .int .u8 1, .bool false, .string ⟨#[]⟩, .int .i16 7, .int .i8 0, .float .f64 0, .float .f64 0, .bool false, .int .u32 0, .slice A' 0 c', .slice B' 0 d', .int .i64 1, .int .i64 1, .int .i64 6, .int .i64 0] 201)).drew.cell? ⟨gN, 3, none⟩ = some (.string ⟨#[]⟩) ∧ (U.alloc (.cells #[.pointer (some ⟨pg, 0, none⟩), .int .u8 1, .bool false, .string ⟨#[]⟩, .int .i16 7, .int .i8 0, .float .f64 0, .float .f64 0, .bool false, .int .u32 0, .slice A' 0 c', .slice B' 0 d', .int .i64 1, .int .i64 1, .int .i64 6, .int .i64 0] 201)).drew.cell? ⟨gN, 4, none⟩ = some (.int .i16 7) ∧ (U.alloc (.cells #[.pointer (some ⟨pg, 0, none⟩), .int .u8 1, .bool false, .string ⟨#[]⟩, .int .i16 7, .int .i8 0, .float .f64 0, .float .f64 0, .bool false, .int .u32 0, .slice A' 0 c', .slice B' 0 d', .int .i64 1, .int .i64 1, .int .i64 6, .int .i64 0] 201)).drew.cell? ⟨gN, 5, none⟩ = some (.int .i8 0) ∧ (U.alloc (.cells #[.pointer (some ⟨pg, 0, none⟩), .int .u8 1, .bool false, .string ⟨#[]⟩, .int .i16 7, .int .i8 0, .float .f64 0, .float .f64 0, .bool false, .int .u32 0, .slice A' 0 c', .slice B' 0 d', .int .i64 1, .int .i64 1, .int .i64 6, .int .i64 0] 201)).drew.cell? ⟨gN, 6, none⟩ = some (.float .f64 0) ∧ (U.alloc (.cells #[.pointer (some ⟨pg, 0, none⟩), .int .u8 1, .bool false, .string ⟨#[]⟩, .int .i16 7, .int .i8 0, .float .f64 0, .float .f64 0, .bool false, .int .u32 0, .slice A' 0 c', .slice B' 0 d', .int .i64 1, .int .i64 1, .int .i64 6, .int .i64 0] 201)).drew.cell? ⟨gN, 7, none⟩ = some (.float .f64 0) ∧ (U.alloc (.cells #[.pointer (some ⟨pg, 0, none⟩), .int .u8 1, .bool false, .string ⟨#[]⟩, .int .i16 7, .int .i8 0, .float .f64 0, .float .f64 0, .bool false, .int .u32 0, .slice A' 0 c', .slice B' 0 d', .int .i64 1, .int .i64 1, .int .i64 6, .int .i64 0] 201)).drew.cell? ⟨gN, 8, none⟩ = some (.bool false) ∧ (U.alloc (.cells #[.pointer (some ⟨pg, 0, none⟩), .int .u8 1, .bool false, .string ⟨#[]⟩, .int .i16 7, .int .i8 0, .float .f64 0, .float .f64 0, .bool false, .int .u32 0, .slice A' 0 c', .slice B' 0 d', .int .i64 1, .int .i64 1, .int .i64 6, .int .i64 0] 201)).drew.cell? ⟨gN, 9, none⟩ = some (.int .u32 0) ∧ (U.alloc (.cells #[.pointer (some ⟨pg, 0, none⟩), .int .u8 1, .bool false, .string ⟨#[]⟩, .int .i16 7, .int .i8 0, .float .f64 0, .float .f64 0, .bool false, .int .u32 0, .slice A' 0 c', .slice B' 0 d', .int .i64 1, .int .i64 1, .int .i64 6, .int .i64 0] 201)).drew.cell? ⟨gN, 10, none⟩ = some (.slice A' 0 c') ∧ (U.alloc (.cells #[.pointer (some ⟨pg, 0, none⟩), .int .u8 1, .bool false, .string ⟨#[]⟩, .int .i16 7, .int .i8 0, .float .f64 0, .float .f64 0, .bool false, .int .u32 0, .slice A' 0 c', .slice B' 0 d', .int .i64 1, .int .i64 1, .int .i64 6, .int .i64 0] 201)).drew.cell? ⟨gN, 11, none⟩ = some (.slice B' 0 d') ∧ (U.alloc (.cells #[.pointer (some ⟨pg, 0, none⟩), .int .u8 1, .bool false, .string ⟨#[]⟩, .int .i16 7, .int .i8 0, .float .f64 0, .float .f64 0, .bool false, .int .u32 0, .slice A' 0 c', .slice B' 0 d', .int .i64 1, .int .i64 1, .int .i64 6, .int .i64 0] 201)).drew.cell? ⟨gN, 12, none⟩ = some (.int .i64 1) ∧ (U.alloc (.cells #[.pointer (some ⟨pg, 0, none⟩), .int .u8 1, .bool false, .string ⟨#[]⟩, .int .i16 7, .int .i8 0, .float .f64 0, .float .f64 0, .bool false, .int .u32 0, .slice A' 0 c', .slice B' 0 d', .int .i64 1, .int .i64 1, .int .i64 6, .int .i64 0] 201)).drew.cell? ⟨gN, 13, none⟩ = some (.int .i64 1) ∧ (U.alloc (.cells #[.pointer (some ⟨pg, 0, none⟩), .int .u8 1, .bool false, .string ⟨#[]⟩, .int .i16 7, .int .i8 0, .float .f64 0, .float .f64 0, .bool false, .int .u32 0, .slice A' 0 c', .slice B' 0 d', .int .i64 1, .int .i64 1, .int .i64 6, .int .i64 0] 201)).drew.cell? ⟨gN, 14, none⟩ = some (.int .i64 6) ∧ (U.alloc (.cells #[.pointer (some ⟨pg, 0, none⟩), .int .u8 1, .bool false, .string ⟨#[]⟩, .int .i16 7, .int .i8 0, .float .f64 0, .float .f64 0, .bool false, .int .u32 0, .slice A' 0 c', .slice B' 0 d', .int .i64 1, .int .i64 1, .int .i64 6, .int .i64 0] 201)).drew.cell? ⟨gN, 15, none⟩ = some (.int .i64 0) ∧ (U.alloc (.cells #[.pointer (some ⟨pg, 0, none⟩), .int .u8 1, .bool false, .string ⟨#[]⟩, .int .i16 7, .int .i8 0, .float .f64 0, .float .f64 0, .bool false, .int .u32 0, .slice A' 0 c', .slice B' 0 d', .int .i64 1, .int .i64 1, .int .i64 6, .int .i64 0] 201)).drew.cell? ⟨b, 0, none⟩ = some (.slice none 0 0) := ⟨(na.cell 0).trans rfl, (na.cell 1).trans rfl, (na.cell 2).trans rfl, (na.cell 3).trans rfl, (na.cell 4).trans rfl, (na.cell 5).trans rfl, (na.cell 6).trans rfl, (na.cell 7).trans rfl, (na.cell 8).trans rfl, (na.cell 9).trans rfl, (na.cell 10).trans rfl, (na.cell 11).trans rfl, (na.cell 12).trans rfl, (na.cell 13).trans rfl, (na.cell 14).trans rfl, (na.cell 15).trans rfl, (ha.cell 0).trans rfl⟩
    obtain ⟨c0, c1, c2, c3, c4, c5, c6, c7, c8, c9, c10, c11, c12, c13, c14, c15, c16⟩ := hC
    obtain ⟨a0, a1, a2, a3, a4, a5, a6, a7, a8, a9, a10, a11, a12, a13, a14, a15, a16⟩ := hA
    have hone1 : ∀ u ∈ ([.pointer (some ⟨pg, 0, none⟩), .int .u8 1, .bool false, .string ⟨#[]⟩, .int .i16 7, .int .i8 0, .float .f64 0, .float .f64 0, .bool false, .int .u32 0, .slice A' 0 c', .slice B' 0 d', .int .i64 1, .int .i64 1, .int .i64 6, .int .i64 0] : List Value), u.oneCell' = true := by
      intro u hu
      simp only [List.mem_cons, List.not_mem_nil, or_false] at hu
      rcases hu with rfl | rfl | rfl | rfl | rfl | rfl | rfl | rfl | rfl | rfl | rfl | rfl | rfl | rfl | rfl | rfl <;> rfl
    have HON := Aside0.mk hone1
    clear hi0 hz0 hz1 hz2 hz3 hz4 hinf bd ba nd na hd ha hone1
    go_region_law (first | (refine step_append_cells (w0 := U.drew) (W := U.drew) 0 (by rfl) (.tmp 160) (.tmp 162) 119 201 z 16 144 (by rfl) Tryz.underlying119 HINF.out.1 HINF.out.2 (by decide) (by decide) (.slice none 0 0) 0 [] ([.pointer (some ⟨pg, 0, none⟩), .int .u8 1, .bool false, .string ⟨#[]⟩, .int .i16 7, .int .i8 0, .float .f64 0, .float .f64 0, .bool false, .int .u32 0, .slice A' 0 c', .slice B' 0 d', .int .i64 1, .int .i64 1, .int .i64 6, .int .i64 0] : List Value) (by rfl) (by rfl) rfl HON.out (World.ownsRow_nil _ _ _ _) (Below.refl _ _) (Nat.zero_le _) (by decide) ?_; intro v1 w1 ho1 hb1 hg1 hat1; obtain ⟨A1, c1', rfl⟩ := TF.own_slice ho1; have fr1 := ((Fr.refl (fun q => False) U).drew).grown hg1 (fun q hq => by cases hq); have n1 := HN5.out.fr fr1 (fun he => he); have b1 := HK5.out.fr fr1 (fun he => he); have kb : w1.cell? ⟨b, 0, none⟩ = some (.slice none 0 0) := (b1.cell 0).trans rfl; have fk := b1.frozen 0; have B1 := Aside0.mk b1; have N1 := Aside0.mk n1; have F1 := Aside0.mk fr1; clear b1 n1 fr1))
    all_goals (
      obtain ⟨g, rfl⟩ := TF.own_some ho1 (by omega)
      have hgb' : (Value.slice (some ⟨g, 0, none⟩) 1 c1').ownBlock ≠ some b := TF.own_blk_ne ho1 B1.out (by decide)
      have hgn : w.heap.size ≤ g := by
        rcases hat1 with e9 | ⟨q9, e9, hq9⟩
        · simp [Value.ownBlock] at e9
        · have e8 : g = q9 := by simpa [Value.ownBlock] using e9
          have e7 : w.heap.size ≤ U.heap.size := HB5.out.size
          have e6 : U.drew.heap.size = U.heap.size := rfl
          omega
      have HGN := Aside0.mk hgn
      clear hgn
      have hgne : g ≠ b := fun e => hgb' (by simp [Value.ownBlock, e])
      have hfin : RBk b g c1' #[.pointer (some ⟨pg, 0, none⟩), .int .u8 1, .bool false, .string ⟨#[]⟩, .int .i16 7, .int .i8 0, .float .f64 0, .float .f64 0, .bool false, .int .u32 0, .slice A' 0 c', .slice B' 0 d', .int .i64 1, .int .i64 1, .int .i64 6, .int .i64 0] (w1.setCell ⟨b, 0, none⟩ (.slice (some ⟨g, 0, none⟩) 1 c1')) := ⟨B1.out.set_ 0 _, (by rw [List.nil_append] at ho1; exact TF.own_fr (S := fun q => q = b) ho1 (Fr.set (S := fun q => q = b) (Fr.refl _ w1) (p := ⟨b, 0, none⟩) (.inl rfl) _) (fun q hq he => by subst he; exact hgb' hq)), fun i hi => by
        rw [World.cell?_of_block (Below.heap_setCell w1 ⟨b, 0, none⟩ _ g hgne)]
        have h2 : (([.pointer (some ⟨pg, 0, none⟩), .int .u8 1, .bool false, .string ⟨#[]⟩, .int .i16 7, .int .i8 0, .float .f64 0, .float .f64 0, .bool false, .int .u32 0, .slice A' 0 c', .slice B' 0 d', .int .i64 1, .int .i64 1, .int .i64 6, .int .i64 0] : List Value))[i]? = some ((([.pointer (some ⟨pg, 0, none⟩), .int .u8 1, .bool false, .string ⟨#[]⟩, .int .i16 7, .int .i8 0, .float .f64 0, .float .f64 0, .bool false, .int .u32 0, .slice A' 0 c', .slice B' 0 d', .int .i64 1, .int .i64 1, .int .i64 6, .int .i64 0] : List Value))[i]'(by simpa using hi)) := List.getElem?_eq_getElem _
        have h3 := ho1.cells (g := g) rfl i _ (by rw [List.nil_append]; exact h2)
        rw [add_plain'] at h3
        rw [h3, List.getElem?_toArray, h2], rfl⟩
      have cf : (w1.setCell ⟨b, 0, none⟩ (.slice (some ⟨g, 0, none⟩) 1 c1')).cell? ⟨b, 0, none⟩ = some (.slice (some ⟨g, 0, none⟩) 1 c1') := (hfin.head.cell 0).trans rfl
      have hfr : Fr (fun q => q = b) w (w1.setCell ⟨b, 0, none⟩ (.slice (some ⟨g, 0, none⟩) 1 c1')) := Fr.set (S := fun q => q = b) ((Fr.of HB5.out).trans F1.out (fun q hq => hq.elim)) (p := ⟨b, 0, none⟩) (.inl rfl) _
      have HFin := Aside0.mk (And.intro hfin hfr)
      clear hfin hfr ho1 hg1 hat1 hb1 kb fk c0 c1 c2 c3 c4 c5 c6 c7 c8 c9 c10 c11 c12 c13 c14 c15 c16 a0 a1 a2 a3 a4 a5 a6 a7 a8 a9 a10 a11 a12 a13 a14 a15 a16
      go_wp2_with (fail)
      go_ret2
      refine ⟨g, c1', ⟨pg, 0, none⟩, A', c', B', d', by kernel_rfl, ?_, HFin.out.2, HGN.out⟩
      unfold rrow
      exact HFin.out.1)
end Go.Proofs.YtimmafiodhncgaaGreatDoor.TK
