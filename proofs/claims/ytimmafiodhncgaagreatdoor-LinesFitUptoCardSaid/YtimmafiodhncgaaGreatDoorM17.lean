/- RefBook2 -/
import Derived.Test.YtimmafiodhncgaaGreatDoorM16
/- (*errataref05.Book).Make of a Wrap "w" about the one row of a book. -/
set_option linter.unusedVariables false
set_option linter.unusedSimpArgs false
namespace Go.Proofs.YtimmafiodhncgaaGreatDoor.TK
open Go.RowKit Go.Shelf Go.Proofs.YtimmafiodhncgaaGreatDoorW.PrintWords Go.Proofs.YtimmafiodhncgaaGreatDoorW.PrintMore Go.Proofs.YtimmafiodhncgaaGreatDoor.TF Go.Proofs.YtimmafiodhncgaaGreatDoor.TW

theorem rchk_about : chk 14 false ⟨#[119]⟩ 0 0 0 0 false 0 [] 1 = 0 := by kernel_rfl
theorem infoIntR : (Tryz.prog.info? 3).map (fun i => (i.zero, i.size, i.bytes)) = some (some (.int .i64 0), 1, 8) := by kernel_rfl
theorem infoNodeP : (Tryz.prog.info? 196).map (fun i => (i.zero, i.size, i.bytes)) = some (some (.pointer none), 1, 8) := by kernel_rfl
set_option maxHeartbeats 8000000 in
set_option maxRecDepth 100000 in
theorem refbook_wrap (b g c : Nat) (pn : Addr) (A : Option Addr) (ca : Nat) (B : Option Addr) (cb gp dp : Nat) (w : World) (h : RBk b g c (rrow pn 1 false ⟨#[]⟩ 7 0 0 0 false 0 A 0 ca B 0 cb 1 1 6 0) w) (hpo : w.ownsRow 0 3 1 (.slice (some ⟨gp, 0, none⟩) 1 dp) 1 [.int .i64 1]) :
    Calls Tryz.prog 63 #[.pointer (some ⟨b, 0, none⟩), spec 14 false ⟨#[119]⟩ 0 0 0 0 false 0 (.slice none 0 0) (.slice (some ⟨gp, 0, none⟩) 1 dp)] w fun e w' => e = .returned (.tuple #[.int .i64 2, .int .i64 0]) ∧ Fr (fun q => q = b ∨ q = g) w w' := by
  have nI : ∀ (W : World) (m : Nat), W.ownsRow m 9 1 (.slice none 0 0) 0 (encs Value.string []) := fun W m => World.ownsRow_nil _ _ _ _
  have HTw := Aside0.mk (fun W (hW : Below w.heap.size w W) => twin_calls 14 false ⟨#[119]⟩ 0 0 0 0 false 0 none (some ⟨gp, 0, none⟩) 0 0 1 dp [] [1] W rfl (Kd.C_of_reads (own_reads_of' (enc := Value.string) (xs := []) (d := ByteArray.empty) (nI W 0))) rfl (Kd.C_of_reads (own_reads_of' (enc := Value.int .i64) (xs := [1]) (d := 0) (TF.own_next hpo hW))) (by decide) (by decide))
  have HAt := Aside0.mk (fun W (hW : Below w.heap.size w W) => refat_one b g c pn 1 false ⟨#[]⟩ 7 0 0 0 false 0 A 0 ca B 0 cb 1 1 6 0 W (h.next hW (by rw [h.cells 0 (by decide)]; rfl)))
  have HNo := Aside0.mk (fun W (hW : Below w.heap.size w W) => refnode_one b g c pn 1 false ⟨#[]⟩ 7 0 0 0 false 0 A 0 ca B 0 cb 1 1 6 0 W (h.next hW (by rw [h.cells 0 (by decide)]; rfl)))
  have HHa := Aside0.mk (fun W (hW : Below w.heap.size w W) => refhas_one b g c _ W (h.next hW (by rw [h.cells 0 (by decide)]; rfl)))
  obtain ⟨q0, hq0, hpc, hpl⟩ := own_first1 hpo
  have hq1 : q0 = gp := by injection hq0 with e; injection e with e1; exact e1.symm
  rw [hq1] at hpc hpl
  unfold rrow at HAt
  unfold spec at HTw ⊢
  have hx := Blk.new w 52 #[.int .u8 14, .bool false, .string ⟨#[119]⟩, .int .i16 0, .int .i8 0, .float .f64 0, .float .f64 0, .bool false, .int .u32 0, .slice none 0 0, .slice (some ⟨gp, 0, none⟩) 1 dp]
  have b0 : Below w.heap.size w (w.alloc (.cells #[.int .u8 14, .bool false, .string ⟨#[119]⟩, .int .i16 0, .int .i8 0, .float .f64 0, .float .f64 0, .bool false, .int .u32 0, .slice none 0 0, .slice (some ⟨gp, 0, none⟩) 1 dp] 52)) := (Below.refl _ w).alloc (Nat.le_refl _) _
  have hk0 := h.head.next b0
  have hp0 : (w.alloc (.cells #[.int .u8 14, .bool false, .string ⟨#[119]⟩, .int .i16 0, .int .i8 0, .float .f64 0, .float .f64 0, .bool false, .int .u32 0, .slice none 0 0, .slice (some ⟨gp, 0, none⟩) 1 dp] 52)).cell? ⟨gp, 0, none⟩ = some (.int .i64 1) := (World.cell?_of_block (b0.block gp hpl)).trans hpc
  obtain ⟨V0, hV0⟩ : ∃ V, w.alloc (.cells #[.int .u8 14, .bool false, .string ⟨#[119]⟩, .int .i16 0, .int .i8 0, .float .f64 0, .float .f64 0, .bool false, .int .u32 0, .slice none 0 0, .slice (some ⟨gp, 0, none⟩) 1 dp] 52) = V := ⟨_, rfl⟩
  rw [hV0] at hx b0 hk0 hp0
  obtain ⟨c0, c1, c2, c3, c4, c5, c6, c7, c8, c9, c10⟩ : V0.cell? ⟨w.heap.size, 0, none⟩ = some (.int .u8 14) ∧ V0.cell? ⟨w.heap.size, 1, none⟩ = some (.bool false) ∧ V0.cell? ⟨w.heap.size, 2, none⟩ = some (.string ⟨#[119]⟩) ∧ V0.cell? ⟨w.heap.size, 3, none⟩ = some (.int .i16 0) ∧ V0.cell? ⟨w.heap.size, 4, none⟩ = some (.int .i8 0) ∧ V0.cell? ⟨w.heap.size, 5, none⟩ = some (.float .f64 0) ∧ V0.cell? ⟨w.heap.size, 6, none⟩ = some (.float .f64 0) ∧ V0.cell? ⟨w.heap.size, 7, none⟩ = some (.bool false) ∧ V0.cell? ⟨w.heap.size, 8, none⟩ = some (.int .u32 0) ∧ V0.cell? ⟨w.heap.size, 9, none⟩ = some (.slice none 0 0) ∧ V0.cell? ⟨w.heap.size, 10, none⟩ = some (.slice (some ⟨gp, 0, none⟩) 1 dp) := ⟨(hx.cell 0).trans rfl, (hx.cell 1).trans rfl, (hx.cell 2).trans rfl, (hx.cell 3).trans rfl, (hx.cell 4).trans rfl, (hx.cell 5).trans rfl, (hx.cell 6).trans rfl, (hx.cell 7).trans rfl, (hx.cell 8).trans rfl, (hx.cell 9).trans rfl, (hx.cell 10).trans rfl⟩
  have hxb : w.heap.size ≠ b := fun e => by have := h.head.lt; omega
  have hbw := h.head.lt
  have hc0 : V0.cell? ⟨b, 0, none⟩ = some (.slice (some ⟨g, 0, none⟩) 1 c) := (hk0.cell 0).trans rfl
  have HH0 := Aside0.mk (HHa.out V0 b0)
  have HN0 := Aside0.mk (HNo.out V0 b0)
  have HX := Aside0.mk hx
  have HK := Aside0.mk hk0
  have HB := Aside0.mk b0
  have HRows := Aside0.mk h
  have HPo := Aside0.mk hpo
  have HPc := Aside0.mk (And.intro hpc hpl)
  clear hx b0 hk0 h nI hpo hpc hpl hq0 hq1
  obtain ⟨i0, hi, hz0, hz1, hz2⟩ := info_parts infoNodeP
  go_enter Tryz.func63, Tryz.ntmps63
  go_wp2_with (fail)
  refine wp_loop_rounds 2 ?_
  unfold Code.rounds
  go_wp2_with (go_at_call 115; (with_reducible refine HH0.out.mono ?_); rintro e w' ⟨rfl, rfl⟩)
  unfold Code.rounds
  go_wp2_with (fail)
  refine wp_loop_rounds 2 ?_
  unfold Code.rounds
  go_wp2_with (go_at_call 116; (with_reducible refine HN0.out.mono ?_))
  rintro e W1 rfl h1
  have hx1 := HX.out.next h1
  clear c0 c1 c2 c3 c4 c5 c6 c7 c8 c9 c10
  obtain ⟨c0, c1, c2, c3, c4, c5, c6, c7, c8, c9, c10⟩ : W1.cell? ⟨w.heap.size, 0, none⟩ = some (.int .u8 14) ∧ W1.cell? ⟨w.heap.size, 1, none⟩ = some (.bool false) ∧ W1.cell? ⟨w.heap.size, 2, none⟩ = some (.string ⟨#[119]⟩) ∧ W1.cell? ⟨w.heap.size, 3, none⟩ = some (.int .i16 0) ∧ W1.cell? ⟨w.heap.size, 4, none⟩ = some (.int .i8 0) ∧ W1.cell? ⟨w.heap.size, 5, none⟩ = some (.float .f64 0) ∧ W1.cell? ⟨w.heap.size, 6, none⟩ = some (.float .f64 0) ∧ W1.cell? ⟨w.heap.size, 7, none⟩ = some (.bool false) ∧ W1.cell? ⟨w.heap.size, 8, none⟩ = some (.int .u32 0) ∧ W1.cell? ⟨w.heap.size, 9, none⟩ = some (.slice none 0 0) ∧ W1.cell? ⟨w.heap.size, 10, none⟩ = some (.slice (some ⟨gp, 0, none⟩) 1 dp) := ⟨(hx1.cell 0).trans rfl, (hx1.cell 1).trans rfl, (hx1.cell 2).trans rfl, (hx1.cell 3).trans rfl, (hx1.cell 4).trans rfl, (hx1.cell 5).trans rfl, (hx1.cell 6).trans rfl, (hx1.cell 7).trans rfl, (hx1.cell 8).trans rfl, (hx1.cell 9).trans rfl, (hx1.cell 10).trans rfl⟩
  have HX1 := Aside0.mk hx1
  have HK1 := Aside0.mk (HK.out.next h1)
  have HB1 := Aside0.mk (HB.out.trans (h1.mono HB.out.size))
  have hp1 : W1.cell? ⟨gp, 0, none⟩ = some (.int .i64 1) := (World.cell?_of_block (HB1.out.block gp HPc.out.2)).trans HPc.out.1
  have hnil : W1.ownsRow w.heap.size 196 1 (.slice none 0 0) 0 [] := World.ownsRow_nil _ _ _ _
  have hws1 : w.heap.size ≤ W1.heap.size := HB1.out.size
  clear hx1 h1 HX HK HB hc0 hp0
  go_wp2_with (at_builtin; refine wpList_append_own _ rfl _ _ 195 rfl w.heap.size 196 i0 (.pointer none) 1 8 Tryz.underlying195 hi hz0 hz1 hz2 rfl (by decide) _ _ _ rfl (hnil.alloc _) ⟨_, 0, none⟩ 1 1 [.pointer (some pn)] rfl rfl ?c1 ?c2 ?c3 ?c4 ?c5 ?_)
  case c1 =>
    intro j u hj
    match j, hj with
    | 0, hj => simp at hj; subst hj; simp [Addr.add]
  case c2 => intro u hu; simp at hu; subst hu; rfl
  case c3 => unfold maxLen; omega
  case c4 => omega
  case c5 => rw [World.size_alloc]; omega
  intro v5 W2 ho2 hg2 _
  obtain ⟨A5, c5', rfl⟩ := TF.own_slice ho2
  have hb2 : Below W1.heap.size W1 W2 := ((Below.refl _ W1).alloc (Nat.le_refl _) _).grown hg2 (by rw [World.size_alloc]; omega) (fun k e => by cases e)
  have hx2 := HX1.out.next hb2
  clear c0 c1 c2 c3 c4 c5 c6 c7 c8 c9 c10
  obtain ⟨c0, c1, c2, c3, c4, c5, c6, c7, c8, c9, c10⟩ : W2.cell? ⟨w.heap.size, 0, none⟩ = some (.int .u8 14) ∧ W2.cell? ⟨w.heap.size, 1, none⟩ = some (.bool false) ∧ W2.cell? ⟨w.heap.size, 2, none⟩ = some (.string ⟨#[119]⟩) ∧ W2.cell? ⟨w.heap.size, 3, none⟩ = some (.int .i16 0) ∧ W2.cell? ⟨w.heap.size, 4, none⟩ = some (.int .i8 0) ∧ W2.cell? ⟨w.heap.size, 5, none⟩ = some (.float .f64 0) ∧ W2.cell? ⟨w.heap.size, 6, none⟩ = some (.float .f64 0) ∧ W2.cell? ⟨w.heap.size, 7, none⟩ = some (.bool false) ∧ W2.cell? ⟨w.heap.size, 8, none⟩ = some (.int .u32 0) ∧ W2.cell? ⟨w.heap.size, 9, none⟩ = some (.slice none 0 0) ∧ W2.cell? ⟨w.heap.size, 10, none⟩ = some (.slice (some ⟨gp, 0, none⟩) 1 dp) := ⟨(hx2.cell 0).trans rfl, (hx2.cell 1).trans rfl, (hx2.cell 2).trans rfl, (hx2.cell 3).trans rfl, (hx2.cell 4).trans rfl, (hx2.cell 5).trans rfl, (hx2.cell 6).trans rfl, (hx2.cell 7).trans rfl, (hx2.cell 8).trans rfl, (hx2.cell 9).trans rfl, (hx2.cell 10).trans rfl⟩
  have HX2 := Aside0.mk hx2
  have HK2 := Aside0.mk (HK1.out.next hb2)
  have HB2 := Aside0.mk (HB1.out.trans (hb2.mono hws1))
  have HO2 := Aside0.mk (TF.own_lower (base' := 0) ho2 (Nat.zero_le _))
  have HTw2 := Aside0.mk (HTw.out W2 HB2.out)
  clear hx2 hb2 ho2 hg2 HX1 HK1 HB1 hp1 hnil hws1
  go_wp2_with (fail)
  unfold Code.rounds
  go_wp2_with (go_at_call 62; (with_reducible refine HTw2.out.mono ?_))
  rintro e W3 v10 v11 rfl hi3 hp3 h3
  obtain ⟨A3, a3, rfl⟩ := TF.own_slice hi3
  obtain ⟨B3, e3, rfl⟩ := TF.own_slice hp3
  have hx3 := HX2.out.next h3
  clear c0 c1 c2 c3 c4 c5 c6 c7 c8 c9 c10
  obtain ⟨c0, c1, c2, c3, c4, c5, c6, c7, c8, c9, c10⟩ : W3.cell? ⟨w.heap.size, 0, none⟩ = some (.int .u8 14) ∧ W3.cell? ⟨w.heap.size, 1, none⟩ = some (.bool false) ∧ W3.cell? ⟨w.heap.size, 2, none⟩ = some (.string ⟨#[119]⟩) ∧ W3.cell? ⟨w.heap.size, 3, none⟩ = some (.int .i16 0) ∧ W3.cell? ⟨w.heap.size, 4, none⟩ = some (.int .i8 0) ∧ W3.cell? ⟨w.heap.size, 5, none⟩ = some (.float .f64 0) ∧ W3.cell? ⟨w.heap.size, 6, none⟩ = some (.float .f64 0) ∧ W3.cell? ⟨w.heap.size, 7, none⟩ = some (.bool false) ∧ W3.cell? ⟨w.heap.size, 8, none⟩ = some (.int .u32 0) ∧ W3.cell? ⟨w.heap.size, 9, none⟩ = some (.slice none 0 0) ∧ W3.cell? ⟨w.heap.size, 10, none⟩ = some (.slice (some ⟨gp, 0, none⟩) 1 dp) := ⟨(hx3.cell 0).trans rfl, (hx3.cell 1).trans rfl, (hx3.cell 2).trans rfl, (hx3.cell 3).trans rfl, (hx3.cell 4).trans rfl, (hx3.cell 5).trans rfl, (hx3.cell 6).trans rfl, (hx3.cell 7).trans rfl, (hx3.cell 8).trans rfl, (hx3.cell 9).trans rfl, (hx3.cell 10).trans rfl⟩
  have HX3 := Aside0.mk hx3
  have HK3 := Aside0.mk (HK2.out.next h3)
  have HB3 := Aside0.mk (HB2.out.trans (h3.mono HB2.out.size))
  have hmk := refmake_wrap ⟨#[119]⟩ 0 0 0 0 false 0 A3 B3 A5 a3 e3 c5' _ [] 1 pn W3 hi3 hp3 (TF.own_next HO2.out h3) (by decide) rchk_about
  unfold spec at hmk
  simp only [List.length_nil] at hmk
  have HMk := Aside0.mk hmk
  clear hx3 h3 HX2 HK2 HB2 hi3 hp3 hmk HO2 HTw2
  go_wp2_with (go_at_call 117; (with_reducible refine HMk.out.mono ?_))
  rintro e W6 ⟨pg, rfl, -, h6⟩
  have hx6 := HX3.out.next h6
  clear c0 c1 c2 c3 c4 c5 c6 c7 c8 c9 c10
  obtain ⟨c0, c1, c2, c3, c4, c5, c6, c7, c8, c9, c10⟩ : W6.cell? ⟨w.heap.size, 0, none⟩ = some (.int .u8 14) ∧ W6.cell? ⟨w.heap.size, 1, none⟩ = some (.bool false) ∧ W6.cell? ⟨w.heap.size, 2, none⟩ = some (.string ⟨#[119]⟩) ∧ W6.cell? ⟨w.heap.size, 3, none⟩ = some (.int .i16 0) ∧ W6.cell? ⟨w.heap.size, 4, none⟩ = some (.int .i8 0) ∧ W6.cell? ⟨w.heap.size, 5, none⟩ = some (.float .f64 0) ∧ W6.cell? ⟨w.heap.size, 6, none⟩ = some (.float .f64 0) ∧ W6.cell? ⟨w.heap.size, 7, none⟩ = some (.bool false) ∧ W6.cell? ⟨w.heap.size, 8, none⟩ = some (.int .u32 0) ∧ W6.cell? ⟨w.heap.size, 9, none⟩ = some (.slice none 0 0) ∧ W6.cell? ⟨w.heap.size, 10, none⟩ = some (.slice (some ⟨gp, 0, none⟩) 1 dp) := ⟨(hx6.cell 0).trans rfl, (hx6.cell 1).trans rfl, (hx6.cell 2).trans rfl, (hx6.cell 3).trans rfl, (hx6.cell 4).trans rfl, (hx6.cell 5).trans rfl, (hx6.cell 6).trans rfl, (hx6.cell 7).trans rfl, (hx6.cell 8).trans rfl, (hx6.cell 9).trans rfl, (hx6.cell 10).trans rfl⟩
  have HX6 := Aside0.mk hx6
  have HK6 := Aside0.mk (HK3.out.next h6)
  have HB6 := Aside0.mk (HB3.out.trans (h6.mono HB3.out.size))
  clear hx6 h6 HX3 HK3 HB3 HMk
  go_upto_region 14 with (fail)
  go_cut [11] from 6 (fun v11 wc => ∃ (gN : Nat) (A' : Option Addr) (c' : Nat) (B' : Option Addr) (d' : Nat), v11 = .pointer (some ⟨gN, 0, none⟩) ∧ Aside0 (W6.heap.size ≤ gN) ∧ Aside0 (Blk wc gN 201 #[.pointer (some ⟨pg, 0, none⟩), .int .u8 14, .bool false, .string ⟨#[119]⟩, .int .i16 0, .int .i8 0, .float .f64 0, .float .f64 0, .bool false, .int .u32 0, .slice A' 0 c', .slice B' 1 d', .int .i64 1, .int .i64 1, .int .i64 0, .int .i64 1]) ∧ Aside0 (Below W6.heap.size W6 wc))
  case first =>
    have hfl := fun (W : World) (a : Addr) (x : Nat) => run_store Tryz.prog W a (.float .f64 x) .plain rfl
    have bz : Below W6.heap.size W6 (W6.alloc (.cells #[.pointer none, .int .u8 0, .bool false, .string ⟨#[]⟩, .int .i16 0, .int .i8 0, .float .f64 0, .float .f64 0, .bool false, .int .u32 0, .slice none 0 0, .slice none 0 0, .int .i64 0, .int .i64 0, .int .i64 0, .int .i64 0] 201)).drew := ((Below.refl _ W6).alloc (Nat.le_refl _) _).drew
    have bd : Below W6.heap.size W6 W6.drew := (Below.refl _ W6).drew
    have xd := HX6.out.next bd
    have xz := HX6.out.next bz
    have nz : Blk (W6.alloc (.cells #[.pointer none, .int .u8 0, .bool false, .string ⟨#[]⟩, .int .i16 0, .int .i8 0, .float .f64 0, .float .f64 0, .bool false, .int .u32 0, .slice none 0 0, .slice none 0 0, .int .i64 0, .int .i64 0, .int .i64 0, .int .i64 0] 201)).drew W6.heap.size 201 #[.pointer none, .int .u8 0, .bool false, .string ⟨#[]⟩, .int .i16 0, .int .i8 0, .float .f64 0, .float .f64 0, .bool false, .int .u32 0, .slice none 0 0, .slice none 0 0, .int .i64 0, .int .i64 0, .int .i64 0, .int .i64 0] := Blk.new W6 _ _
    obtain ⟨a0, a1, a2, a3, a4, a5, a6, a7, a8, a9, a10⟩ : (W6.alloc (.cells #[.pointer none, .int .u8 0, .bool false, .string ⟨#[]⟩, .int .i16 0, .int .i8 0, .float .f64 0, .float .f64 0, .bool false, .int .u32 0, .slice none 0 0, .slice none 0 0, .int .i64 0, .int .i64 0, .int .i64 0, .int .i64 0] 201)).drew.cell? ⟨w.heap.size, 0, none⟩ = some (.int .u8 14) ∧ (W6.alloc (.cells #[.pointer none, .int .u8 0, .bool false, .string ⟨#[]⟩, .int .i16 0, .int .i8 0, .float .f64 0, .float .f64 0, .bool false, .int .u32 0, .slice none 0 0, .slice none 0 0, .int .i64 0, .int .i64 0, .int .i64 0, .int .i64 0] 201)).drew.cell? ⟨w.heap.size, 1, none⟩ = some (.bool false) ∧ (W6.alloc (.cells #[.pointer none, .int .u8 0, .bool false, .string ⟨#[]⟩, .int .i16 0, .int .i8 0, .float .f64 0, .float .f64 0, .bool false, .int .u32 0, .slice none 0 0, .slice none 0 0, .int .i64 0, .int .i64 0, .int .i64 0, .int .i64 0] 201)).drew.cell? ⟨w.heap.size, 2, none⟩ = some (.string ⟨#[119]⟩) ∧ (W6.alloc (.cells #[.pointer none, .int .u8 0, .bool false, .string ⟨#[]⟩, .int .i16 0, .int .i8 0, .float .f64 0, .float .f64 0, .bool false, .int .u32 0, .slice none 0 0, .slice none 0 0, .int .i64 0, .int .i64 0, .int .i64 0, .int .i64 0] 201)).drew.cell? ⟨w.heap.size, 3, none⟩ = some (.int .i16 0) ∧ (W6.alloc (.cells #[.pointer none, .int .u8 0, .bool false, .string ⟨#[]⟩, .int .i16 0, .int .i8 0, .float .f64 0, .float .f64 0, .bool false, .int .u32 0, .slice none 0 0, .slice none 0 0, .int .i64 0, .int .i64 0, .int .i64 0, .int .i64 0] 201)).drew.cell? ⟨w.heap.size, 4, none⟩ = some (.int .i8 0) ∧ (W6.alloc (.cells #[.pointer none, .int .u8 0, .bool false, .string ⟨#[]⟩, .int .i16 0, .int .i8 0, .float .f64 0, .float .f64 0, .bool false, .int .u32 0, .slice none 0 0, .slice none 0 0, .int .i64 0, .int .i64 0, .int .i64 0, .int .i64 0] 201)).drew.cell? ⟨w.heap.size, 5, none⟩ = some (.float .f64 0) ∧ (W6.alloc (.cells #[.pointer none, .int .u8 0, .bool false, .string ⟨#[]⟩, .int .i16 0, .int .i8 0, .float .f64 0, .float .f64 0, .bool false, .int .u32 0, .slice none 0 0, .slice none 0 0, .int .i64 0, .int .i64 0, .int .i64 0, .int .i64 0] 201)).drew.cell? ⟨w.heap.size, 6, none⟩ = some (.float .f64 0) ∧ (W6.alloc (.cells #[.pointer none, .int .u8 0, .bool false, .string ⟨#[]⟩, .int .i16 0, .int .i8 0, .float .f64 0, .float .f64 0, .bool false, .int .u32 0, .slice none 0 0, .slice none 0 0, .int .i64 0, .int .i64 0, .int .i64 0, .int .i64 0] 201)).drew.cell? ⟨w.heap.size, 7, none⟩ = some (.bool false) ∧ (W6.alloc (.cells #[.pointer none, .int .u8 0, .bool false, .string ⟨#[]⟩, .int .i16 0, .int .i8 0, .float .f64 0, .float .f64 0, .bool false, .int .u32 0, .slice none 0 0, .slice none 0 0, .int .i64 0, .int .i64 0, .int .i64 0, .int .i64 0] 201)).drew.cell? ⟨w.heap.size, 8, none⟩ = some (.int .u32 0) ∧ (W6.alloc (.cells #[.pointer none, .int .u8 0, .bool false, .string ⟨#[]⟩, .int .i16 0, .int .i8 0, .float .f64 0, .float .f64 0, .bool false, .int .u32 0, .slice none 0 0, .slice none 0 0, .int .i64 0, .int .i64 0, .int .i64 0, .int .i64 0] 201)).drew.cell? ⟨w.heap.size, 9, none⟩ = some (.slice none 0 0) ∧ (W6.alloc (.cells #[.pointer none, .int .u8 0, .bool false, .string ⟨#[]⟩, .int .i16 0, .int .i8 0, .float .f64 0, .float .f64 0, .bool false, .int .u32 0, .slice none 0 0, .slice none 0 0, .int .i64 0, .int .i64 0, .int .i64 0, .int .i64 0] 201)).drew.cell? ⟨w.heap.size, 10, none⟩ = some (.slice (some ⟨gp, 0, none⟩) 1 dp) := ⟨(xz.cell 0).trans rfl, (xz.cell 1).trans rfl, (xz.cell 2).trans rfl, (xz.cell 3).trans rfl, (xz.cell 4).trans rfl, (xz.cell 5).trans rfl, (xz.cell 6).trans rfl, (xz.cell 7).trans rfl, (xz.cell 8).trans rfl, (xz.cell 9).trans rfl, (xz.cell 10).trans rfl⟩
    obtain ⟨d0, d1, d2, d3, d4, d5, d6, d7, d8, d9, d10⟩ : W6.drew.cell? ⟨w.heap.size, 0, none⟩ = some (.int .u8 14) ∧ W6.drew.cell? ⟨w.heap.size, 1, none⟩ = some (.bool false) ∧ W6.drew.cell? ⟨w.heap.size, 2, none⟩ = some (.string ⟨#[119]⟩) ∧ W6.drew.cell? ⟨w.heap.size, 3, none⟩ = some (.int .i16 0) ∧ W6.drew.cell? ⟨w.heap.size, 4, none⟩ = some (.int .i8 0) ∧ W6.drew.cell? ⟨w.heap.size, 5, none⟩ = some (.float .f64 0) ∧ W6.drew.cell? ⟨w.heap.size, 6, none⟩ = some (.float .f64 0) ∧ W6.drew.cell? ⟨w.heap.size, 7, none⟩ = some (.bool false) ∧ W6.drew.cell? ⟨w.heap.size, 8, none⟩ = some (.int .u32 0) ∧ W6.drew.cell? ⟨w.heap.size, 9, none⟩ = some (.slice none 0 0) ∧ W6.drew.cell? ⟨w.heap.size, 10, none⟩ = some (.slice (some ⟨gp, 0, none⟩) 1 dp) := ⟨(xd.cell 0).trans rfl, (xd.cell 1).trans rfl, (xd.cell 2).trans rfl, (xd.cell 3).trans rfl, (xd.cell 4).trans rfl, (xd.cell 5).trans rfl, (xd.cell 6).trans rfl, (xd.cell 7).trans rfl, (xd.cell 8).trans rfl, (xd.cell 9).trans rfl, (xd.cell 10).trans rfl⟩
    have HTd := Aside0.mk (HTw.out W6.drew (HB6.out.trans (bd.mono HB6.out.size)))
    have HTz := Aside0.mk (HTw.out ((W6.alloc (.cells #[.pointer none, .int .u8 0, .bool false, .string ⟨#[]⟩, .int .i16 0, .int .i8 0, .float .f64 0, .float .f64 0, .bool false, .int .u32 0, .slice none 0 0, .slice none 0 0, .int .i64 0, .int .i64 0, .int .i64 0, .int .i64 0] 201)).drew) (HB6.out.trans (bz.mono HB6.out.size)))
    have XD := Aside0.mk xd
    have XZ := Aside0.mk xz
    have NZ := Aside0.mk nz
    have BZ := Aside0.mk bz
    have BD := Aside0.mk bd
    have hxs : w.heap.size < W6.heap.size := HX6.out.lt
    clear bz bd xd xz nz
    go_region_held3 (fun V => V.cell? ⟨w.heap.size, 0, none⟩ = some (.int .u8 14) ∧ V.cell? ⟨w.heap.size, 1, none⟩ = some (.bool false) ∧ V.cell? ⟨w.heap.size, 2, none⟩ = some (.string ⟨#[119]⟩) ∧ V.cell? ⟨w.heap.size, 3, none⟩ = some (.int .i16 0) ∧ V.cell? ⟨w.heap.size, 4, none⟩ = some (.int .i8 0) ∧ V.cell? ⟨w.heap.size, 5, none⟩ = some (.float .f64 0) ∧ V.cell? ⟨w.heap.size, 6, none⟩ = some (.float .f64 0) ∧ V.cell? ⟨w.heap.size, 7, none⟩ = some (.bool false) ∧ V.cell? ⟨w.heap.size, 8, none⟩ = some (.int .u32 0) ∧ V.cell? ⟨w.heap.size, 9, none⟩ = some (.slice none 0 0) ∧ V.cell? ⟨w.heap.size, 10, none⟩ = some (.slice (some ⟨gp, 0, none⟩) 1 dp)) (first | exact ⟨c0, c1, c2, c3, c4, c5, c6, c7, c8, c9, c10⟩ | exact ⟨d0, d1, d2, d3, d4, d5, d6, d7, d8, d9, d10⟩ | exact ⟨a0, a1, a2, a3, a4, a5, a6, a7, a8, a9, a10⟩ | exact ⟨e0, e1, e2, e3, e4, e5, e6, e7, e8, e9, e10⟩ | exact ⟨k0, k1, k2, k3, k4, k5, k6, k7, k8, k9, k10⟩ | go_keep) (first | (go_at_call 62; refine HTd.out.mono ?_; rintro e w3 ⟨v10, v11, rfl, oi, op, hb3⟩; obtain ⟨A', c', rfl⟩ := TF.own_slice oi; obtain ⟨B', d', rfl⟩ := TF.own_slice op; have x3 := XD.out.next hb3; obtain ⟨e0, e1, e2, e3, e4, e5, e6, e7, e8, e9, e10⟩ : w3.cell? ⟨w.heap.size, 0, none⟩ = some (.int .u8 14) ∧ w3.cell? ⟨w.heap.size, 1, none⟩ = some (.bool false) ∧ w3.cell? ⟨w.heap.size, 2, none⟩ = some (.string ⟨#[119]⟩) ∧ w3.cell? ⟨w.heap.size, 3, none⟩ = some (.int .i16 0) ∧ w3.cell? ⟨w.heap.size, 4, none⟩ = some (.int .i8 0) ∧ w3.cell? ⟨w.heap.size, 5, none⟩ = some (.float .f64 0) ∧ w3.cell? ⟨w.heap.size, 6, none⟩ = some (.float .f64 0) ∧ w3.cell? ⟨w.heap.size, 7, none⟩ = some (.bool false) ∧ w3.cell? ⟨w.heap.size, 8, none⟩ = some (.int .u32 0) ∧ w3.cell? ⟨w.heap.size, 9, none⟩ = some (.slice none 0 0) ∧ w3.cell? ⟨w.heap.size, 10, none⟩ = some (.slice (some ⟨gp, 0, none⟩) 1 dp) := ⟨(x3.cell 0).trans rfl, (x3.cell 1).trans rfl, (x3.cell 2).trans rfl, (x3.cell 3).trans rfl, (x3.cell 4).trans rfl, (x3.cell 5).trans rfl, (x3.cell 6).trans rfl, (x3.cell 7).trans rfl, (x3.cell 8).trans rfl, (x3.cell 9).trans rfl, (x3.cell 10).trans rfl⟩) | (go_at_call 62; refine HTz.out.mono ?_; rintro e w3 ⟨v10, v11, rfl, oi, op, hb3⟩; obtain ⟨A', c', rfl⟩ := TF.own_slice oi; obtain ⟨B', d', rfl⟩ := TF.own_slice op; have x3 := XZ.out.next hb3; have z3 := NZ.out.next hb3; obtain ⟨e0, e1, e2, e3, e4, e5, e6, e7, e8, e9, e10⟩ : w3.cell? ⟨w.heap.size, 0, none⟩ = some (.int .u8 14) ∧ w3.cell? ⟨w.heap.size, 1, none⟩ = some (.bool false) ∧ w3.cell? ⟨w.heap.size, 2, none⟩ = some (.string ⟨#[119]⟩) ∧ w3.cell? ⟨w.heap.size, 3, none⟩ = some (.int .i16 0) ∧ w3.cell? ⟨w.heap.size, 4, none⟩ = some (.int .i8 0) ∧ w3.cell? ⟨w.heap.size, 5, none⟩ = some (.float .f64 0) ∧ w3.cell? ⟨w.heap.size, 6, none⟩ = some (.float .f64 0) ∧ w3.cell? ⟨w.heap.size, 7, none⟩ = some (.bool false) ∧ w3.cell? ⟨w.heap.size, 8, none⟩ = some (.int .u32 0) ∧ w3.cell? ⟨w.heap.size, 9, none⟩ = some (.slice none 0 0) ∧ w3.cell? ⟨w.heap.size, 10, none⟩ = some (.slice (some ⟨gp, 0, none⟩) 1 dp) := ⟨(x3.cell 0).trans rfl, (x3.cell 1).trans rfl, (x3.cell 2).trans rfl, (x3.cell 3).trans rfl, (x3.cell 4).trans rfl, (x3.cell 5).trans rfl, (x3.cell 6).trans rfl, (x3.cell 7).trans rfl, (x3.cell 8).trans rfl, (x3.cell 9).trans rfl, (x3.cell 10).trans rfl⟩; obtain ⟨R, hR⟩ : ∃ R : Array Value, #[.pointer (some ⟨pg, 0, none⟩), .int .u8 14, .bool false, .string ⟨#[119]⟩, .int .i16 0, .int .i8 0, .float .f64 0, .float .f64 0, .bool false, .int .u32 0, .slice A' 0 c', .slice B' 1 d', .int .i64 1, .int .i64 1, .int .i64 0, .int .i64 1] = R := ⟨_, rfl⟩; have hls : R.size = 16 := (by rw [← hR]; rfl); have hst : Sem.run Tryz.prog (storeCells ⟨W6.heap.size, 0, none⟩ R.toList 0) w3 = .ok () (w3.setRow W6.heap.size R) := run_storeCells_from W6.heap.size 201 R.toList 0 _ w3 z3 (by simp [hls]) (fun v hv => by rw [← hR] at hv; revert v; simp [Value.oneCell']); have m3 := x3.setRow (g' := W6.heap.size) (by omega) R; obtain ⟨k0, k1, k2, k3, k4, k5, k6, k7, k8, k9, k10⟩ : (w3.setRow W6.heap.size R).cell? ⟨w.heap.size, 0, none⟩ = some (.int .u8 14) ∧ (w3.setRow W6.heap.size R).cell? ⟨w.heap.size, 1, none⟩ = some (.bool false) ∧ (w3.setRow W6.heap.size R).cell? ⟨w.heap.size, 2, none⟩ = some (.string ⟨#[119]⟩) ∧ (w3.setRow W6.heap.size R).cell? ⟨w.heap.size, 3, none⟩ = some (.int .i16 0) ∧ (w3.setRow W6.heap.size R).cell? ⟨w.heap.size, 4, none⟩ = some (.int .i8 0) ∧ (w3.setRow W6.heap.size R).cell? ⟨w.heap.size, 5, none⟩ = some (.float .f64 0) ∧ (w3.setRow W6.heap.size R).cell? ⟨w.heap.size, 6, none⟩ = some (.float .f64 0) ∧ (w3.setRow W6.heap.size R).cell? ⟨w.heap.size, 7, none⟩ = some (.bool false) ∧ (w3.setRow W6.heap.size R).cell? ⟨w.heap.size, 8, none⟩ = some (.int .u32 0) ∧ (w3.setRow W6.heap.size R).cell? ⟨w.heap.size, 9, none⟩ = some (.slice none 0 0) ∧ (w3.setRow W6.heap.size R).cell? ⟨w.heap.size, 10, none⟩ = some (.slice (some ⟨gp, 0, none⟩) 1 dp) := ⟨(m3.cell 0).trans rfl, (m3.cell 1).trans rfl, (m3.cell 2).trans rfl, (m3.cell 3).trans rfl, (m3.cell 4).trans rfl, (m3.cell 5).trans rfl, (m3.cell 6).trans rfl, (m3.cell 7).trans rfl, (m3.cell 8).trans rfl, (m3.cell 9).trans rfl, (m3.cell 10).trans rfl⟩; have RR := Aside0.mk hR; have Z3 := Aside0.mk z3; clear z3 m3))
    · have hb3' := BD.out.trans (hb3.mono (show W6.heap.size ≤ W6.drew.heap.size from Nat.le_refl _))
      have hz3 : W6.heap.size ≤ w3.heap.size := hb3'.size
      have N3 := Aside0.mk (Blk.new w3 201 #[.pointer (some ⟨pg, 0, none⟩), .int .u8 14, .bool false, .string ⟨#[119]⟩, .int .i16 0, .int .i8 0, .float .f64 0, .float .f64 0, .bool false, .int .u32 0, .slice A' 0 c', .slice B' 1 d', .int .i64 1, .int .i64 1, .int .i64 0, .int .i64 1])
      have B3 := Aside0.mk (hb3'.alloc hz3 (.cells #[.pointer (some ⟨pg, 0, none⟩), .int .u8 14, .bool false, .string ⟨#[119]⟩, .int .i16 0, .int .i8 0, .float .f64 0, .float .f64 0, .bool false, .int .u32 0, .slice A' 0 c', .slice B' 1 d', .int .i64 1, .int .i64 1, .int .i64 0, .int .i64 1] 201))
      clear oi op hb3 hb3' x3
      go_wp2_with (fail)
      go_meet
      exact ⟨_, A', c', B', d', rfl, Aside0.mk hz3, N3, B3⟩
    · have hg2 := setRow_heap w3 W6.heap.size _ R 201 (0, 0) Z3.out
      have hzz : W6.heap.size + 1 ≤ ((W6.alloc (.cells #[.pointer none, .int .u8 0, .bool false, .string ⟨#[]⟩, .int .i16 0, .int .i8 0, .float .f64 0, .float .f64 0, .bool false, .int .u32 0, .slice none 0 0, .slice none 0 0, .int .i64 0, .int .i64 0, .int .i64 0, .int .i64 0] 201)).drew).heap.size := by show _ ≤ (W6.alloc _).heap.size; rw [World.size_alloc]; exact Nat.le_refl _
      have N3 := Aside0.mk (show Blk (w3.setRow W6.heap.size R) W6.heap.size 201 #[.pointer (some ⟨pg, 0, none⟩), .int .u8 14, .bool false, .string ⟨#[119]⟩, .int .i16 0, .int .i8 0, .float .f64 0, .float .f64 0, .bool false, .int .u32 0, .slice A' 0 c', .slice B' 1 d', .int .i64 1, .int .i64 1, .int .i64 0, .int .i64 1] by unfold Blk; rw [RR.out]; exact hg2)
      have B3 := Aside0.mk ((BZ.out.trans (hb3.mono (by omega))).trans (below_setRow w3 (Nat.le_refl _) R))
      clear oi op hb3 hg2
      go_wp2_with (fail)
      go_meet
      exact ⟨_, A', c', B', d', rfl, Aside0.mk (Nat.le_refl _), N3, B3⟩
  case rest =>
    clear c0 c1 c2 c3 c4 c5 c6 c7 c8 c9 c10
    obtain ⟨gN, A', c', B', d', rfl, HgN, HN, HB3⟩ := hcut
    obtain ⟨W7, rfl⟩ : ∃ W7 : World, W7 = wc := ⟨_, rfl⟩
    have hxs : w.heap.size < W6.heap.size := HX6.out.lt
    have hx7 := HX6.out.next HB3.out
    have HX7 := Aside0.mk hx7
    have HK7 := Aside0.mk (HK6.out.next HB3.out)
    have HBw7 := Aside0.mk (HB6.out.trans (HB3.out.mono HB6.out.size))
    obtain ⟨c0, c1, c2, c3, c4, c5, c6, c7, c8, c9, c10⟩ : W7.cell? ⟨w.heap.size, 0, none⟩ = some (.int .u8 14) ∧ W7.cell? ⟨w.heap.size, 1, none⟩ = some (.bool false) ∧ W7.cell? ⟨w.heap.size, 2, none⟩ = some (.string ⟨#[119]⟩) ∧ W7.cell? ⟨w.heap.size, 3, none⟩ = some (.int .i16 0) ∧ W7.cell? ⟨w.heap.size, 4, none⟩ = some (.int .i8 0) ∧ W7.cell? ⟨w.heap.size, 5, none⟩ = some (.float .f64 0) ∧ W7.cell? ⟨w.heap.size, 6, none⟩ = some (.float .f64 0) ∧ W7.cell? ⟨w.heap.size, 7, none⟩ = some (.bool false) ∧ W7.cell? ⟨w.heap.size, 8, none⟩ = some (.int .u32 0) ∧ W7.cell? ⟨w.heap.size, 9, none⟩ = some (.slice none 0 0) ∧ W7.cell? ⟨w.heap.size, 10, none⟩ = some (.slice (some ⟨gp, 0, none⟩) 1 dp) := ⟨(hx7.cell 0).trans rfl, (hx7.cell 1).trans rfl, (hx7.cell 2).trans rfl, (hx7.cell 3).trans rfl, (hx7.cell 4).trans rfl, (hx7.cell 5).trans rfl, (hx7.cell 6).trans rfl, (hx7.cell 7).trans rfl, (hx7.cell 8).trans rfl, (hx7.cell 9).trans rfl, (hx7.cell 10).trans rfl⟩
    have hp7 : W7.cell? ⟨gp, 0, none⟩ = some (.int .i64 1) := (World.cell?_of_block (HBw7.out.block gp HPc.out.2)).trans HPc.out.1
    have HAt7 := Aside0.mk (HAt.out W7 HBw7.out)
    clear hx7
    go_wp2_with (fail)
    refine wp_loop_rounds 1 ?_
    unfold Code.rounds
    go_wp2_with (fail)
    refine wp_loop_rounds 2 ?_
    unfold Code.rounds
    go_wp2_with (go_at_call 118; (with_reducible refine HAt7.out.mono ?_))
    rintro e W8 rfl h8
    obtain ⟨R1, hR1⟩ : ∃ R : Array Value, #[.pointer (some pn), .int .u8 1, .bool false, .string ⟨#[]⟩, .int .i16 7, .int .i8 0, .float .f64 0, .float .f64 0, .bool false, .int .u32 0, .slice A 0 ca, .slice B 0 cb, .int .i64 1, .int .i64 1, .int .i64 6, .int .i64 0] = R := ⟨_, rfl⟩
    have hls1 : R1.size = 16 := by rw [← hR1]; rfl
    obtain ⟨p8, hp8⟩ : ∃ p, W8.heap.size = p := ⟨_, rfl⟩
    have hN8 := HN.out.next h8
    have hgp8 : gN < p8 := by rw [← hp8]; exact hN8.lt
    have hZ8 := Blk.new W8 201 #[.pointer none, .int .u8 0, .bool false, .string ⟨#[]⟩, .int .i16 0, .int .i8 0, .float .f64 0, .float .f64 0, .bool false, .int .u32 0, .slice none 0 0, .slice none 0 0, .int .i64 0, .int .i64 0, .int .i64 0, .int .i64 0]
    have bZ : Below W8.heap.size W8 (W8.alloc (.cells #[.pointer none, .int .u8 0, .bool false, .string ⟨#[]⟩, .int .i16 0, .int .i8 0, .float .f64 0, .float .f64 0, .bool false, .int .u32 0, .slice none 0 0, .slice none 0 0, .int .i64 0, .int .i64 0, .int .i64 0, .int .i64 0] 201)) := (Below.refl _ W8).alloc (Nat.le_refl _) _
    have hB8 := HBw7.out.trans (h8.mono HBw7.out.size)
    have hws8 : w.heap.size ≤ W8.heap.size := hB8.size
    rw [hp8] at hZ8
    have hst : Sem.run Tryz.prog (storeCells ⟨p8, 0, none⟩ R1.toList 0) (W8.alloc (.cells #[.pointer none, .int .u8 0, .bool false, .string ⟨#[]⟩, .int .i16 0, .int .i8 0, .float .f64 0, .float .f64 0, .bool false, .int .u32 0, .slice none 0 0, .slice none 0 0, .int .i64 0, .int .i64 0, .int .i64 0, .int .i64 0] 201)) = .ok () ((W8.alloc (.cells #[.pointer none, .int .u8 0, .bool false, .string ⟨#[]⟩, .int .i16 0, .int .i8 0, .float .f64 0, .float .f64 0, .bool false, .int .u32 0, .slice none 0 0, .slice none 0 0, .int .i64 0, .int .i64 0, .int .i64 0, .int .i64 0] 201)).setRow p8 R1) := run_storeCells_from p8 201 R1.toList 0 _ _ hZ8 (by simp [hls1]) (fun v hv => by rw [← hR1] at hv; revert v; simp [Value.oneCell'])
    have hP9 : Blk ((W8.alloc (.cells #[.pointer none, .int .u8 0, .bool false, .string ⟨#[]⟩, .int .i16 0, .int .i8 0, .float .f64 0, .float .f64 0, .bool false, .int .u32 0, .slice none 0 0, .slice none 0 0, .int .i64 0, .int .i64 0, .int .i64 0, .int .i64 0] 201)).setRow p8 R1) p8 201 R1 := setRow_heap _ p8 _ R1 201 (0, 0) hZ8
    have hN9 : Blk ((W8.alloc (.cells #[.pointer none, .int .u8 0, .bool false, .string ⟨#[]⟩, .int .i16 0, .int .i8 0, .float .f64 0, .float .f64 0, .bool false, .int .u32 0, .slice none 0 0, .slice none 0 0, .int .i64 0, .int .i64 0, .int .i64 0, .int .i64 0] 201)).setRow p8 R1) gN 201 #[.pointer (some ⟨pg, 0, none⟩), .int .u8 14, .bool false, .string ⟨#[119]⟩, .int .i16 0, .int .i8 0, .float .f64 0, .float .f64 0, .bool false, .int .u32 0, .slice A' 0 c', .slice B' 1 d', .int .i64 1, .int .i64 1, .int .i64 0, .int .i64 1] := (hN8.next bZ).setRow (by omega) R1
    have hX9 := ((HX7.out.next h8).next bZ).setRow (g' := p8) (by have := HgN.out; omega) R1
    have hK9 := ((HK7.out.next h8).next bZ).setRow (g' := p8) (by have := (HK7.out.next h8).lt; omega) R1
    have hB9 : Below w.heap.size w ((W8.alloc (.cells #[.pointer none, .int .u8 0, .bool false, .string ⟨#[]⟩, .int .i16 0, .int .i8 0, .float .f64 0, .float .f64 0, .bool false, .int .u32 0, .slice none 0 0, .slice none 0 0, .int .i64 0, .int .i64 0, .int .i64 0, .int .i64 0] 201)).setRow p8 R1) := (hB8.trans (bZ.mono hws8)).trans (below_setRow _ (by omega) R1)
    obtain ⟨V9, hV9⟩ : ∃ V, (W8.alloc (.cells #[.pointer none, .int .u8 0, .bool false, .string ⟨#[]⟩, .int .i16 0, .int .i8 0, .float .f64 0, .float .f64 0, .bool false, .int .u32 0, .slice none 0 0, .slice none 0 0, .int .i64 0, .int .i64 0, .int .i64 0, .int .i64 0] 201)).setRow p8 R1 = V := ⟨_, rfl⟩
    rw [hV9] at hst hP9 hN9 hX9 hK9 hB9
    have p12 : V9.cell? ⟨p8, 12, none⟩ = some (.int .i64 1) := (hP9.cell 12).trans (by rw [← hR1]; rfl)
    have p13 : V9.cell? ⟨p8, 13, none⟩ = some (.int .i64 1) := (hP9.cell 13).trans (by rw [← hR1]; rfl)
    have p14 : V9.cell? ⟨p8, 14, none⟩ = some (.int .i64 6) := (hP9.cell 14).trans (by rw [← hR1]; rfl)
    have p15 : V9.cell? ⟨p8, 15, none⟩ = some (.int .i64 0) := (hP9.cell 15).trans (by rw [← hR1]; rfl)
    have n12 : V9.cell? ⟨gN, 12, none⟩ = some (.int .i64 1) := (hN9.cell 12).trans rfl
    have n13 : V9.cell? ⟨gN, 13, none⟩ = some (.int .i64 1) := (hN9.cell 13).trans rfl
    have n15 : V9.cell? ⟨gN, 15, none⟩ = some (.int .i64 1) := (hN9.cell 15).trans rfl
    have f12 := hN9.frozen 12
    have f13 := hN9.frozen 13
    have f15 := hN9.frozen 15
    have hne1 : gN ≠ p8 := by omega
    have hne2 : p8 ≠ gN := by omega
    have hmax : ∀ W, Sem.run Tryz.prog (Builtin.max_ #[3, 3] 3 #[.int .i64 1, .int .i64 2]) W = .ok (.int .i64 2) W := fun W => rfl
    have HN9 := Aside0.mk hN9
    have HX9 := Aside0.mk hX9
    have HK9 := Aside0.mk hK9
    have HB9 := Aside0.mk hB9
    have HZ8 := Aside0.mk hws8
    clear c0 c1 c2 c3 c4 c5 c6 c7 c8 c9 c10
    clear hP9 hN9 hX9 hK9 hB9 hZ8 bZ hB8 hN8 h8 hV9 hp7 HN HX7 HK7 HBw7 HAt7 HX6 HB6 HK6 HB3
    go_upto_region 27 with (fail)
    obtain ⟨X, hX⟩ : ∃ X, ((V9.setCell ⟨gN, 12, none⟩ (.int .i64 2)).setCell ⟨gN, 13, none⟩ (.int .i64 2)).setCell ⟨gN, 15, none⟩ (.int .i64 1) = X := ⟨_, rfl⟩
    have nX : Blk X gN 201 #[.pointer (some ⟨pg, 0, none⟩), .int .u8 14, .bool false, .string ⟨#[119]⟩, .int .i16 0, .int .i8 0, .float .f64 0, .float .f64 0, .bool false, .int .u32 0, .slice A' 0 c', .slice B' 1 d', .int .i64 2, .int .i64 2, .int .i64 0, .int .i64 1] := by rw [← hX]; exact ((HN9.out.set_ 12 (.int .i64 2)).set_ 13 (.int .i64 2)).set_ 15 (.int .i64 1)
    have xX := ((HX9.out.far (p := ⟨gN, 12, none⟩) (by have := HgN.out; show _ ≠ gN; omega) (.int .i64 2)).far (p := ⟨gN, 13, none⟩) (by have := HgN.out; show _ ≠ gN; omega) (.int .i64 2)).far (p := ⟨gN, 15, none⟩) (by have := HgN.out; show _ ≠ gN; omega) (.int .i64 1)
    have hgb : gN ≠ b := fun e => by have := HgN.out; omega
    have kX := ((HK9.out.far (p := ⟨gN, 12, none⟩) (fun e => hgb e.symm) (.int .i64 2)).far (p := ⟨gN, 13, none⟩) (fun e => hgb e.symm) (.int .i64 2)).far (p := ⟨gN, 15, none⟩) (fun e => hgb e.symm) (.int .i64 1)
    have q14 : X.cell? ⟨p8, 14, none⟩ = some (.int .i64 6) := by
      rw [← hX, World.cell?_of_block (Below.heap_setCell _ ⟨gN, 15, none⟩ _ p8 hne2), World.cell?_of_block (Below.heap_setCell _ ⟨gN, 13, none⟩ _ p8 hne2), World.cell?_of_block (Below.heap_setCell _ ⟨gN, 12, none⟩ _ p8 hne2)]
      exact p14
    have hwg : w.heap.size ≤ gN := by have := HgN.out; omega
    have bX : Below w.heap.size w X := by rw [← hX]; exact ((HB9.out.setCell (p := ⟨gN, 12, none⟩) hwg _).setCell (p := ⟨gN, 13, none⟩) hwg _).setCell (p := ⟨gN, 15, none⟩) hwg _
    rw [hX] at xX kX ⊢
    obtain ⟨c0, c1, c2, c3, c4, c5, c6, c7, c8, c9, c10⟩ : X.cell? ⟨w.heap.size, 0, none⟩ = some (.int .u8 14) ∧ X.cell? ⟨w.heap.size, 1, none⟩ = some (.bool false) ∧ X.cell? ⟨w.heap.size, 2, none⟩ = some (.string ⟨#[119]⟩) ∧ X.cell? ⟨w.heap.size, 3, none⟩ = some (.int .i16 0) ∧ X.cell? ⟨w.heap.size, 4, none⟩ = some (.int .i8 0) ∧ X.cell? ⟨w.heap.size, 5, none⟩ = some (.float .f64 0) ∧ X.cell? ⟨w.heap.size, 6, none⟩ = some (.float .f64 0) ∧ X.cell? ⟨w.heap.size, 7, none⟩ = some (.bool false) ∧ X.cell? ⟨w.heap.size, 8, none⟩ = some (.int .u32 0) ∧ X.cell? ⟨w.heap.size, 9, none⟩ = some (.slice none 0 0) ∧ X.cell? ⟨w.heap.size, 10, none⟩ = some (.slice (some ⟨gp, 0, none⟩) 1 dp) := ⟨(xX.cell 0).trans rfl, (xX.cell 1).trans rfl, (xX.cell 2).trans rfl, (xX.cell 3).trans rfl, (xX.cell 4).trans rfl, (xX.cell 5).trans rfl, (xX.cell 6).trans rfl, (xX.cell 7).trans rfl, (xX.cell 8).trans rfl, (xX.cell 9).trans rfl, (xX.cell 10).trans rfl⟩
    have hxs' : w.heap.size ≤ X.heap.size := bX.size
    have HNX := Aside0.mk nX
    have HXX := Aside0.mk xX
    have HKX := Aside0.mk kX
    have HBX := Aside0.mk bX
    have hnl : X.ownsRow w.heap.size 3 1 (.slice none 0 0) 0 [] := World.ownsRow_nil _ _ _ _
    obtain ⟨j0, ji, jz0, jz1, jz2⟩ := info_parts infoIntR
    clear nX xX kX bX p12 p13 p14 p15 n12 n13 n15 f12 f13 f15 hst hX hmax HN9 HX9 HK9 HB9 hR1 hls1 HZ8
    go_wp2_with (at_builtin; refine wpList_append_own _ rfl _ _ 50 rfl w.heap.size 3 j0 (.int .i64 0) 1 8 Tryz.underlying50 ji jz0 jz1 jz2 rfl (by decide) _ _ _ rfl (hnl.alloc _) ⟨_, 0, none⟩ 1 1 [.int .i64 6] rfl rfl ?c1 ?c2 ?c3 ?c4 ?c5 ?_)
    case c1 =>
      intro j u hj
      match j, hj with
      | 0, hj => simp at hj; subst hj; simp [Addr.add]
    case c2 => intro u hu; simp at hu; subst hu; rfl
    case c3 => unfold maxLen; omega
    case c4 => omega
    case c5 => rw [World.size_alloc]; omega
    intro vl W10 hol hgl _
    obtain ⟨Al, cl, rfl⟩ := TF.own_slice hol
    obtain ⟨gl, rfl, hlc, hll⟩ := own_first1 hol
    have hb10 : Below X.heap.size X W10 := ((Below.refl _ X).alloc (Nat.le_refl _) _).grown hgl (by rw [World.size_alloc]; omega) (fun k e => by cases e)
    have hx10 := HXX.out.next hb10
    clear c0 c1 c2 c3 c4 c5 c6 c7 c8 c9 c10
    obtain ⟨c0, c1, c2, c3, c4, c5, c6, c7, c8, c9, c10⟩ : W10.cell? ⟨w.heap.size, 0, none⟩ = some (.int .u8 14) ∧ W10.cell? ⟨w.heap.size, 1, none⟩ = some (.bool false) ∧ W10.cell? ⟨w.heap.size, 2, none⟩ = some (.string ⟨#[119]⟩) ∧ W10.cell? ⟨w.heap.size, 3, none⟩ = some (.int .i16 0) ∧ W10.cell? ⟨w.heap.size, 4, none⟩ = some (.int .i8 0) ∧ W10.cell? ⟨w.heap.size, 5, none⟩ = some (.float .f64 0) ∧ W10.cell? ⟨w.heap.size, 6, none⟩ = some (.float .f64 0) ∧ W10.cell? ⟨w.heap.size, 7, none⟩ = some (.bool false) ∧ W10.cell? ⟨w.heap.size, 8, none⟩ = some (.int .u32 0) ∧ W10.cell? ⟨w.heap.size, 9, none⟩ = some (.slice none 0 0) ∧ W10.cell? ⟨w.heap.size, 10, none⟩ = some (.slice (some ⟨gp, 0, none⟩) 1 dp) := ⟨(hx10.cell 0).trans rfl, (hx10.cell 1).trans rfl, (hx10.cell 2).trans rfl, (hx10.cell 3).trans rfl, (hx10.cell 4).trans rfl, (hx10.cell 5).trans rfl, (hx10.cell 6).trans rfl, (hx10.cell 7).trans rfl, (hx10.cell 8).trans rfl, (hx10.cell 9).trans rfl, (hx10.cell 10).trans rfl⟩
    have HN10 := Aside0.mk (HNX.out.next hb10)
    have HK10 := Aside0.mk (HKX.out.next hb10)
    have HB10 := Aside0.mk (HBX.out.trans (hb10.mono hxs'))
    have hlg := reflong_wrap ⟨#[119]⟩ 0 0 0 0 false 0 none 0 dp cl gp gl 0 0 [] 1 6 W10 (World.ownsRow_nil _ _ _ _) (by decide) rchk_about (by decide) (by decide) (by decide) (by decide) (Nat.lt_of_lt_of_le HPc.out.2 HB10.out.size) ((World.cell?_of_block (HB10.out.block gp HPc.out.2)).trans HPc.out.1) hll hlc
    unfold spec at hlg
    simp only [List.length_nil] at hlg
    have HLg := Aside0.mk hlg
    clear hx10 hb10 hol hgl hlc hll HNX HXX HKX HBX hnl q14 hxs' hlg
    go_wp2_with (fail)
    unfold Code.rounds
    go_wp2_with (go_at_call 119; (with_reducible refine HLg.out.mono ?_))
    rintro e W4 rfl h4
    clear c0 c1 c2 c3 c4 c5 c6 c7 c8 c9 c10
    have hN4 := HN10.out.next h4
    have e14 : W4.cell? ⟨gN, 14, none⟩ = some (.int .i64 0) := (hN4.cell 14).trans rfl
    have f14 := hN4.frozen 14
    have hkb := ((HK10.out.next h4).far (p := ⟨gN, 14, none⟩) (fun e => hgb e.symm) (.int .i64 9))
    have hN5 : Blk (W4.setCell ⟨gN, 14, none⟩ (.int .i64 9)) gN 201 #[.pointer (some ⟨pg, 0, none⟩), .int .u8 14, .bool false, .string ⟨#[119]⟩, .int .i16 0, .int .i8 0, .float .f64 0, .float .f64 0, .bool false, .int .u32 0, .slice A' 0 c', .slice B' 1 d', .int .i64 2, .int .i64 2, .int .i64 9, .int .i64 1] := hN4.set_ 14 (.int .i64 9)
    have hB5 : Below w.heap.size w (W4.setCell ⟨gN, 14, none⟩ (.int .i64 9)) := (HB10.out.trans (h4.mono HB10.out.size)).setCell (p := ⟨gN, 14, none⟩) hwg _
    have HN5 := Aside0.mk hN5
    have HK5 := Aside0.mk hkb
    have HB5 := Aside0.mk hB5
    clear h4 hN4 hkb hN5 hB5 HN10 HK10 HB10 HLg
    go_upto_region 29 with (fail)
    obtain ⟨U, hU⟩ : ∃ U, W4.setCell ⟨gN, 14, none⟩ (.int .i64 9) = U := ⟨_, rfl⟩
    rw [hU] at HN5 HK5 HB5 ⊢
    have cb : U.cell? ⟨b, 0, none⟩ = some (.slice (some ⟨g, 0, none⟩) 1 c) := (HK5.out.cell 0).trans rfl
    have c2 : U.cell? ⟨gN, 12, none⟩ = some (.int .i64 2) := (HN5.out.cell 12).trans rfl
    have c3 : U.cell? ⟨gN, 13, none⟩ = some (.int .i64 2) := (HN5.out.cell 13).trans rfl
    have c4 : U.cell? ⟨gN, 14, none⟩ = some (.int .i64 9) := (HN5.out.cell 14).trans rfl
    have c5 : U.cell? ⟨gN, 15, none⟩ = some (.int .i64 1) := (HN5.out.cell 15).trans rfl
    clear hU e14 f14
    go_upto_region 37 with (fail)
    clear cb c2 c3 c4 c5
    obtain ⟨k0', hi0, hz⟩ := Option.map_eq_some_iff.1 infoRRow2
    simp only [Prod.mk.injEq] at hz
    obtain ⟨hz0', hz1', hz2'⟩ := hz
    obtain ⟨z, hz3, hz4⟩ := Option.map_eq_some_iff.1 hz0'
    have hinf : (Tryz.prog.info? 201).map (fun i => (i.zero, i.size, i.bytes)) = some (some z, 16, 144) := by rw [hi0, Option.map_some, hz3, hz1', hz2']
    have HINF := Aside0.mk (And.intro hinf hz4)
    have bd : Below U.heap.size U U.drew := (Below.refl _ U).drew
    have ba : Below U.heap.size U (U.alloc (.cells #[.pointer (some ⟨pg, 0, none⟩), .int .u8 14, .bool false, .string ⟨#[119]⟩, .int .i16 0, .int .i8 0, .float .f64 0, .float .f64 0, .bool false, .int .u32 0, .slice A' 0 c', .slice B' 1 d', .int .i64 2, .int .i64 2, .int .i64 9, .int .i64 1] 201)).drew := ((Below.refl _ U).alloc (Nat.le_refl _) _).drew
    have nd := HN5.out.next bd
    have na := HN5.out.next ba
    have hd := HK5.out.next bd
    have ha := HK5.out.next ba
    have hC : U.drew.cell? ⟨gN, 0, none⟩ = some (.pointer (some ⟨pg, 0, none⟩)) ∧ U.drew.cell? ⟨gN, 1, none⟩ = some (.int .u8 14) ∧ U.drew.cell? ⟨gN, 2, none⟩ = some (.bool false) ∧ U.drew.cell? ⟨gN, 3, none⟩ = some (.string ⟨#[119]⟩) ∧ U.drew.cell? ⟨gN, 4, none⟩ = some (.int .i16 0) ∧ U.drew.cell? ⟨gN, 5, none⟩ = some (.int .i8 0) ∧ U.drew.cell? ⟨gN, 6, none⟩ = some (.float .f64 0) ∧ U.drew.cell? ⟨gN, 7, none⟩ = some (.float .f64 0) ∧ U.drew.cell? ⟨gN, 8, none⟩ = some (.bool false) ∧ U.drew.cell? ⟨gN, 9, none⟩ = some (.int .u32 0) ∧ U.drew.cell? ⟨gN, 10, none⟩ = some (.slice A' 0 c') ∧ U.drew.cell? ⟨gN, 11, none⟩ = some (.slice B' 1 d') ∧ U.drew.cell? ⟨gN, 12, none⟩ = some (.int .i64 2) ∧ U.drew.cell? ⟨gN, 13, none⟩ = some (.int .i64 2) ∧ U.drew.cell? ⟨gN, 14, none⟩ = some (.int .i64 9) ∧ U.drew.cell? ⟨gN, 15, none⟩ = some (.int .i64 1) ∧ U.drew.cell? ⟨b, 0, none⟩ = some (.slice (some ⟨g, 0, none⟩) 1 c) := ⟨(nd.cell 0).trans rfl, (nd.cell 1).trans rfl, (nd.cell 2).trans rfl, (nd.cell 3).trans rfl, (nd.cell 4).trans rfl, (nd.cell 5).trans rfl, (nd.cell 6).trans rfl, (nd.cell 7).trans rfl, (nd.cell 8).trans rfl, (nd.cell 9).trans rfl, (nd.cell 10).trans rfl, (nd.cell 11).trans rfl, (nd.cell 12).trans rfl, (nd.cell 13).trans rfl, (nd.cell 14).trans rfl, (nd.cell 15).trans rfl, (hd.cell 0).trans rfl⟩
    have hA : (U.alloc (.cells #[.pointer (some ⟨pg, 0, none⟩), .int .u8 14, .bool false, .string ⟨#[119]⟩, .int .i16 0, .int .i8 0, .float .f64 0, .float .f64 0, .bool false, .int .u32 0, .slice A' 0 c', .slice B' 1 d', .int .i64 2, .int .i64 2, .int .i64 9, .int .i64 1] 201)).drew.cell? ⟨gN, 0, none⟩ = some (.pointer (some ⟨pg, 0, none⟩)) ∧ (U.alloc (.cells #[.pointer (some ⟨pg, 0, none⟩), .int .u8 14, .bool false, .string ⟨#[119]⟩, .int .i16 0, .int .i8 0, .float .f64 0, .float .f64 0, .bool false, .int .u32 0, .slice A' 0 c', .slice B' 1 d', .int .i64 2, .int .i64 2, .int .i64 9, .int .i64 1] 201)).drew.cell? ⟨gN, 1, none⟩ = some (.int .u8 14) ∧ (U.alloc (.cells #[.pointer (some ⟨pg, 0, none⟩), .int .u8 14, .bool false, .string ⟨#[119]⟩, .int .i16 0, .int .i8 0, .float .f64 0, .float .f64 0, .bool false, .int .u32 0, .slice A' 0 c', .slice B' 1 d', .int .i64 2, .int .i64 2, .int .i64 9, .int .i64 1] 201)).drew.cell? ⟨gN, 2, none⟩ = some (.bool false) ∧ (U.alloc (.cells #[.pointer (some ⟨pg, 0, none⟩), .int .u8 14, .bool false, .string ⟨#[119]⟩, .int .i16 0, .int .i8 0, .float .f64 0, .float .f64 0, .bool false, .int .u32 0, .slice A' 0 c', .slice B' 1 d', .int .i64 2, .int .i64 2, .int .i64 9, .int .i64 1] 201)).drew.cell? ⟨gN, 3, none⟩ = some (.string ⟨#[119]⟩) ∧ (U.alloc (.cells #[.pointer (some ⟨pg, 0, none⟩), .int .u8 14, .bool false, .string ⟨#[119]⟩, .int .i16 0, .int .i8 0, .float .f64 0, .float .f64 0, .bool false, .int .u32 0, .slice A' 0 c', .slice B' 1 d', .int .i64 2, .int .i64 2, .int .i64 9, .int .i64 1] 201)).drew.cell? ⟨gN, 4, none⟩ = some (.int .i16 0) ∧ (U.alloc (.cells #[.pointer (some ⟨pg, 0, none⟩), .int .u8 14, .bool false, .string ⟨#[119]⟩, .int .i16 0, .int .i8 0, .float .f64 0, .float .f64 0, .bool false, .int .u32 0, .slice A' 0 c', .slice B' 1 d', .int .i64 2, .int .i64 2, .int .i64 9, .int .i64 1] 201)).drew.cell? ⟨gN, 5, none⟩ = some (.int .i8 0) ∧ (U.alloc (.cells #[.pointer (some ⟨pg, 0, none⟩), .int .u8 14, .bool false, .string ⟨#[119]⟩, .int .i16 0, .int .i8 0, .float .f64 0, .float .f64 0, .bool false, .int .u32 0, .slice A' 0 c', .slice B' 1 d', .int .i64 2, .int .i64 2, .int .i64 9, .int .i64 1] 201)).drew.cell? ⟨gN, 6, none⟩ = some (.float .f64 0) ∧ (U.alloc (.cells #[.pointer (some ⟨pg, 0, none⟩), .int .u8 14, .bool false, .string ⟨#[119]⟩, .int .i16 0, .int .i8 0, .float .f64 0, .float .f64 0, .bool false, .int .u32 0, .slice A' 0 c', .slice B' 1 d', .int .i64 2, .int .i64 2, .int .i64 9, .int .i64 1] 201)).drew.cell? ⟨gN, 7, none⟩ = some (.float .f64 0) ∧ (U.alloc (.cells #[.pointer (some ⟨pg, 0, none⟩), .int .u8 14, .bool false, .string ⟨#[119]⟩, .int .i16 0, .int .i8 0, .float .f64 0, .float .f64 0, .bool false, .int .u32 0, .slice A' 0 c', .slice B' 1 d', .int .i64 2, .int .i64 2, .int .i64 9, .int .i64 1] 201)).drew.cell? ⟨gN, 8, none⟩ = some (.bool false) ∧ (U.alloc (.cells #[.pointer (some ⟨pg, 0, none⟩), .int .u8 14, .bool false, .string ⟨#[119]⟩, .int .i16 0, .int .i8 0, .float .f64 0, .float .f64 0, .bool false, .int .u32 0, .slice A' 0 c', .slice B' 1 d', .int .i64 2, .int .i64 2, .int .i64 9, .int .i64 1] 201)).drew.cell? ⟨gN, 9, none⟩ = some (.int .u32 0) ∧ (U.alloc (.cells #[.pointer (some ⟨pg, 0, none⟩), .int .u8 14, .bool false, .string ⟨#[119]⟩, .int .i16 0, .int .i8 0, .float .f64 0, .float .f64 0, .bool false, .int .u32 0, .slice A' 0 c', .slice B' 1 d', .int .i64 2, .int .i64 2, .int .i64 9, .int .i64 1] 201)).drew.cell? ⟨gN, 10, none⟩ = some (.slice A' 0 c') ∧ (U.alloc (.cells #[.pointer (some ⟨pg, 0, none⟩), .int .u8 14, .bool false, .string ⟨#[119]⟩, .int .i16 0, .int .i8 0, .float .f64 0, .float .f64 0, .bool false, .int .u32 0, .slice A' 0 c', .slice B' 1 d', .int .i64 2, .int .i64 2, .int .i64 9, .int .i64 1] 201)).drew.cell? ⟨gN, 11, none⟩ = some (.slice B' 1 d') ∧ (U.alloc (.cells #[.pointer (some ⟨pg, 0, none⟩), .int .u8 14, .bool false, .string ⟨#[119]⟩, .int .i16 0, .int .i8 0, .float .f64 0, .float .f64 0, .bool false, .int .u32 0, .slice A' 0 c', .slice B' 1 d', .int .i64 2, .int .i64 2, .int .i64 9, .int .i64 1] 201)).drew.cell? ⟨gN, 12, none⟩ = some (.int .i64 2) ∧ (U.alloc (.cells #[.pointer (some ⟨pg, 0, none⟩), .int .u8 14, .bool false, .string ⟨#[119]⟩, .int .i16 0, .int .i8 0, .float .f64 0, .float .f64 0, .bool false, .int .u32 0, .slice A' 0 c', .slice B' 1 d', .int .i64 2, .int .i64 2, .int .i64 9, .int .i64 1] 201)).drew.cell? ⟨gN, 13, none⟩ = some (.int .i64 2) ∧ (U.alloc (.cells #[.pointer (some ⟨pg, 0, none⟩), .int .u8 14, .bool false, .string ⟨#[119]⟩, .int .i16 0, .int .i8 0, .float .f64 0, .float .f64 0, .bool false, .int .u32 0, .slice A' 0 c', .slice B' 1 d', .int .i64 2, .int .i64 2, .int .i64 9, .int .i64 1] 201)).drew.cell? ⟨gN, 14, none⟩ = some (.int .i64 9) ∧ (U.alloc (.cells #[.pointer (some ⟨pg, 0, none⟩), .int .u8 14, .bool false, .string ⟨#[119]⟩, .int .i16 0, .int .i8 0, .float .f64 0, .float .f64 0, .bool false, .int .u32 0, .slice A' 0 c', .slice B' 1 d', .int .i64 2, .int .i64 2, .int .i64 9, .int .i64 1] 201)).drew.cell? ⟨gN, 15, none⟩ = some (.int .i64 1) ∧ (U.alloc (.cells #[.pointer (some ⟨pg, 0, none⟩), .int .u8 14, .bool false, .string ⟨#[119]⟩, .int .i16 0, .int .i8 0, .float .f64 0, .float .f64 0, .bool false, .int .u32 0, .slice A' 0 c', .slice B' 1 d', .int .i64 2, .int .i64 2, .int .i64 9, .int .i64 1] 201)).drew.cell? ⟨b, 0, none⟩ = some (.slice (some ⟨g, 0, none⟩) 1 c) := ⟨(na.cell 0).trans rfl, (na.cell 1).trans rfl, (na.cell 2).trans rfl, (na.cell 3).trans rfl, (na.cell 4).trans rfl, (na.cell 5).trans rfl, (na.cell 6).trans rfl, (na.cell 7).trans rfl, (na.cell 8).trans rfl, (na.cell 9).trans rfl, (na.cell 10).trans rfl, (na.cell 11).trans rfl, (na.cell 12).trans rfl, (na.cell 13).trans rfl, (na.cell 14).trans rfl, (na.cell 15).trans rfl, (ha.cell 0).trans rfl⟩
    obtain ⟨c0, c1, c2, c3, c4, c5, c6, c7, c8, c9, c10, c11, c12, c13, c14, c15, c16⟩ := hC
    obtain ⟨a0, a1, a2, a3, a4, a5, a6, a7, a8, a9, a10, a11, a12, a13, a14, a15, a16⟩ := hA
    have hone1 : ∀ u ∈ ([.pointer (some ⟨pg, 0, none⟩), .int .u8 14, .bool false, .string ⟨#[119]⟩, .int .i16 0, .int .i8 0, .float .f64 0, .float .f64 0, .bool false, .int .u32 0, .slice A' 0 c', .slice B' 1 d', .int .i64 2, .int .i64 2, .int .i64 9, .int .i64 1] : List Value), u.oneCell' = true := by
      intro u hu
      simp only [List.mem_cons, List.not_mem_nil, or_false] at hu
      rcases hu with rfl | rfl | rfl | rfl | rfl | rfl | rfl | rfl | rfl | rfl | rfl | rfl | rfl | rfl | rfl | rfl <;> rfl
    have HON := Aside0.mk hone1
    have OR := Aside0.mk (TF.own_next (TF.own_next HRows.out.rows HB5.out) bd)
    have hgg : g < w.heap.size := (HRows.out.rows.lt g rfl).2
    have hgb0 : g ≠ b := fun e => TF.own_blk_ne HRows.out.rows HRows.out.head (by decide) (show (Value.slice (some ⟨g, 0, none⟩) 1 c).ownBlock = some b by simp [Value.ownBlock, e])
    clear hi0 hz0' hz1' hz2' hz3 hz4 hinf bd ba nd na hd ha hone1
    go_region_law (first | (refine step_append_cells (w0 := U.drew) (W := U.drew) 0 (by rfl) (.tmp 160) (.tmp 162) 119 201 z 16 144 (by rfl) Tryz.underlying119 HINF.out.1 HINF.out.2 (by decide) (by decide) (.slice (some ⟨g, 0, none⟩) 1 c) 1 _ ([.pointer (some ⟨pg, 0, none⟩), .int .u8 14, .bool false, .string ⟨#[119]⟩, .int .i16 0, .int .i8 0, .float .f64 0, .float .f64 0, .bool false, .int .u32 0, .slice A' 0 c', .slice B' 1 d', .int .i64 2, .int .i64 2, .int .i64 9, .int .i64 1] : List Value) (by rfl) (by rfl) rfl HON.out OR.out (Below.refl _ _) (Nat.zero_le _) (by decide) ?_; intro v1 w1 ho1 hb1 hg1 hat1; obtain ⟨A1, c1', rfl⟩ := TF.own_slice ho1; have fr1 := ((Fr.refl (fun q => q = g) U).drew).grown hg1 (fun q hq => .inl (by simp [Value.ownBlock] at hq; exact hq.symm)); have n1 := HN5.out.fr fr1 (fun he => by omega); have b1 := HK5.out.fr fr1 (fun he => hgb0 he.symm); have kb : w1.cell? ⟨b, 0, none⟩ = some (.slice (some ⟨g, 0, none⟩) 1 c) := (b1.cell 0).trans rfl; have fk := b1.frozen 0; have B1 := Aside0.mk b1; have N1 := Aside0.mk n1; have F1 := Aside0.mk fr1; clear b1 n1 fr1))
    all_goals (
      have cf : (w1.setCell ⟨b, 0, none⟩ (.slice A1 2 c1')).cell? ⟨b, 0, none⟩ = some (.slice A1 2 c1') := ((B1.out.set_ 0 (.slice A1 2 c1')).cell 0).trans rfl
      have hfr : Fr (fun q => q = b ∨ q = g) w (w1.setCell ⟨b, 0, none⟩ (.slice A1 2 c1')) := Fr.set (S := fun q => q = b ∨ q = g) ((Fr.of HB5.out).trans F1.out (fun q hq => .inl (.inr hq))) (p := ⟨b, 0, none⟩) (.inl (.inl rfl)) _
      have HFin := Aside0.mk hfr
      clear hfr ho1 hg1 hat1 hb1 kb fk c0 c1 c2 c3 c4 c5 c6 c7 c8 c9 c10 c11 c12 c13 c14 c15 c16 a0 a1 a2 a3 a4 a5 a6 a7 a8 a9 a10 a11 a12 a13 a14 a15 a16
      go_wp2_with (fail)
      go_ret2
      exact ⟨by kernel_rfl, HFin.out⟩)
end Go.Proofs.YtimmafiodhncgaaGreatDoor.TK
