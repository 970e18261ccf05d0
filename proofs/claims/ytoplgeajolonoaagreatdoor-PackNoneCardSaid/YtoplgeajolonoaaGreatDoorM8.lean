/- Row -/
import Derived.Test.YtoplgeajolonoaaGreatDoorM6
import Derived.Test.YtoplgeajolonoaaGreatDoorM7
import Derived.Great.BuildSlice
/- pack.row of two records: without parts (no row), the first a part of the second (a row); of one without a name; of too many. -/
set_option linter.unusedVariables false
set_option linter.unusedSimpArgs false
namespace Go.Proofs.YtoplgeajolonoaaGreatDoor.PK
open Go.RowKit Go.Proofs.YtoplgeajolonoaaGreatDoorW.PrintWords Go.Proofs.YtoplgeajolonoaaGreatDoorW.PrintMore Go.Proofs.YtoplgeajolonoaaGreatDoor.TF

theorem make_two (W : World) : (Instr.makeSlice 92 (.int .i64 2) (.int .i64 2)).run Tryz.prog W = .ok (.slice (some ⟨W.heap.size, 0, none⟩) 2 2) (W.alloc (.cells #[.int .u8 0, .int .u8 0] 5)) := by kernel_rfl
theorem info140 : (Tryz.prog.info? 140).map (·.size) = some 1 := by kernel_rfl
theorem info45 : (Tryz.prog.info? 45).map (·.size) = some 14 := by kernel_rfl
theorem rec_one (t : ByteArray) (A : Option Addr) (n c : Nat) : (rec_ t (.slice A n c)).all (·.oneCell') = true := by simp [rec_, Value.oneCell']
theorem rec_cells {M : Nat} {t : ByteArray} {ps : Value} {W : World} (h : Blk W M 45 (rec_ t ps)) : W.cell? ⟨M, 0, none⟩ = some (.string t) ∧ W.cell? ⟨M, 1, none⟩ = some (.bool false) ∧ W.cell? ⟨M, 2, none⟩ = some (.int .u32 0) ∧ W.cell? ⟨M, 3, none⟩ = some (.int .u8 0) ∧ W.cell? ⟨M, 4, none⟩ = some (.bool false) ∧ W.cell? ⟨M, 5, none⟩ = some (.string ⟨#[]⟩) ∧ W.cell? ⟨M, 6, none⟩ = some (.int .i16 0) ∧ W.cell? ⟨M, 7, none⟩ = some (.int .i8 0) ∧ W.cell? ⟨M, 8, none⟩ = some (.float .f64 0) ∧ W.cell? ⟨M, 9, none⟩ = some (.float .f64 0) ∧ W.cell? ⟨M, 10, none⟩ = some (.bool false) ∧ W.cell? ⟨M, 11, none⟩ = some (.int .u32 0) ∧ W.cell? ⟨M, 12, none⟩ = some (.slice none 0 0) ∧ W.cell? ⟨M, 13, none⟩ = some ps := ⟨(h.cell 0).trans rfl, (h.cell 1).trans rfl, (h.cell 2).trans rfl, (h.cell 3).trans rfl, (h.cell 4).trans rfl, (h.cell 5).trans rfl, (h.cell 6).trans rfl, (h.cell 7).trans rfl, (h.cell 8).trans rfl, (h.cell 9).trans rfl, (h.cell 10).trans rfl, (h.cell 11).trans rfl, (h.cell 12).trans rfl, (h.cell 13).trans rfl⟩
theorem two_cells0 {g : Nat} {ps : Value} {W : World} (h : Blk W g 45 (two_ ps)) : W.cell? ⟨g, 0, none⟩ = some (.string ⟨#[97]⟩) ∧ W.cell? ⟨g, 1, none⟩ = some (.bool false) ∧ W.cell? ⟨g, 2, none⟩ = some (.int .u32 0) ∧ W.cell? ⟨g, 3, none⟩ = some (.int .u8 0) ∧ W.cell? ⟨g, 4, none⟩ = some (.bool false) ∧ W.cell? ⟨g, 5, none⟩ = some (.string ⟨#[]⟩) ∧ W.cell? ⟨g, 6, none⟩ = some (.int .i16 0) ∧ W.cell? ⟨g, 7, none⟩ = some (.int .i8 0) ∧ W.cell? ⟨g, 8, none⟩ = some (.float .f64 0) ∧ W.cell? ⟨g, 9, none⟩ = some (.float .f64 0) ∧ W.cell? ⟨g, 10, none⟩ = some (.bool false) ∧ W.cell? ⟨g, 11, none⟩ = some (.int .u32 0) ∧ W.cell? ⟨g, 12, none⟩ = some (.slice none 0 0) ∧ W.cell? ⟨g, 13, none⟩ = some (.slice none 0 0) := ⟨(h.cell 0).trans rfl, (h.cell 1).trans rfl, (h.cell 2).trans rfl, (h.cell 3).trans rfl, (h.cell 4).trans rfl, (h.cell 5).trans rfl, (h.cell 6).trans rfl, (h.cell 7).trans rfl, (h.cell 8).trans rfl, (h.cell 9).trans rfl, (h.cell 10).trans rfl, (h.cell 11).trans rfl, (h.cell 12).trans rfl, (h.cell 13).trans rfl⟩
theorem two_cells1 {g : Nat} {ps : Value} {W : World} (h : Blk W g 45 (two_ ps)) : W.cell? ⟨g, 14, none⟩ = some (.string ⟨#[98]⟩) ∧ W.cell? ⟨g, 15, none⟩ = some (.bool false) ∧ W.cell? ⟨g, 16, none⟩ = some (.int .u32 0) ∧ W.cell? ⟨g, 17, none⟩ = some (.int .u8 0) ∧ W.cell? ⟨g, 18, none⟩ = some (.bool false) ∧ W.cell? ⟨g, 19, none⟩ = some (.string ⟨#[]⟩) ∧ W.cell? ⟨g, 20, none⟩ = some (.int .i16 0) ∧ W.cell? ⟨g, 21, none⟩ = some (.int .i8 0) ∧ W.cell? ⟨g, 22, none⟩ = some (.float .f64 0) ∧ W.cell? ⟨g, 23, none⟩ = some (.float .f64 0) ∧ W.cell? ⟨g, 24, none⟩ = some (.bool false) ∧ W.cell? ⟨g, 25, none⟩ = some (.int .u32 0) ∧ W.cell? ⟨g, 26, none⟩ = some (.slice none 0 0) ∧ W.cell? ⟨g, 27, none⟩ = some ps := ⟨(h.cell 14).trans rfl, (h.cell 15).trans rfl, (h.cell 16).trans rfl, (h.cell 17).trans rfl, (h.cell 18).trans rfl, (h.cell 19).trans rfl, (h.cell 20).trans rfl, (h.cell 21).trans rfl, (h.cell 22).trans rfl, (h.cell 23).trans rfl, (h.cell 24).trans rfl, (h.cell 25).trans rfl, (h.cell 26).trans rfl, (h.cell 27).trans rfl⟩
set_option maxHeartbeats 8000000 in
set_option maxRecDepth 100000 in
theorem row_alone (g : Nat) (w : World) (hG : Blk w g 45 (two_ (.slice none 0 0))) (ht : (ByteArray.mk #[97]).size ≤ 4096) (ht2 : (ByteArray.mk #[98]).size ≤ 4096) (h0 : (ByteArray.mk #[]).size ≤ 4096) :
    Calls Tryz.prog 33 #[.slice (some ⟨g, 0, none⟩) 2 2] w fun e w' => e = .returned (.bool false) ∧ Below w.heap.size w w' := by
  have hmf : ∀ (fn : Fn) (first cap : Array Value) (w : World), (Instr.makeFunc fn first cap).run Tryz.prog w = .ok (.func fn first cap) w := fun _ _ _ _ => rfl
  obtain ⟨V0, hV0⟩ : ∃ V, w.alloc (.cells #[.slice (some ⟨g, 0, none⟩) 2 2] 46) = V := ⟨_, rfl⟩
  have hn := Blk.new w 46 #[.slice (some ⟨g, 0, none⟩) 2 2]
  have b0 := (Below.refl w.heap.size w).alloc (Nat.le_refl _) (.cells #[.slice (some ⟨g, 0, none⟩) 2 2] 46)
  rw [hV0] at hn b0
  have s0 : V0.heap.size = w.heap.size + 1 := by rw [← hV0, World.size_alloc]
  obtain ⟨n0, hn0⟩ : ∃ n0, V0.heap.size = n0 := ⟨_, rfl⟩
  have hg0 := hG.next b0
  have c0 : V0.cell? ⟨w.heap.size, 0, none⟩ = some (.slice (some ⟨g, 0, none⟩) 2 2) := (hn.cell 0).trans rfl
  have hgl := hG.lt
  have HG := Aside0.mk hg0
  have HN := Aside0.mk hn
  have HB0 := Aside0.mk b0
  have hne : n0 = w.heap.size + 1 := by omega
  clear hn b0 hg0 hG s0
  go_enter Tryz.func33, Tryz.ntmps33
  go_wp2_with (fail)
  clear hV0 c0
  go_loopg [14] 2 (fun kq v14 wr => (kq = 2 ∧ v14 = .int .i64 0 ∧ Aside0 (Below n0 V0 wr)) ∨ (kq = 1 ∧ v14 = .int .i64 1 ∧ Aside0 (Below n0 V0 wr)) ∨ (kq = 0 ∧ v14 = .int .i64 2 ∧ Aside0 (Below n0 V0 wr)))
  case atStart => exact .inl ⟨rfl, rfl, Aside0.mk (Below.refl _ _)⟩
  case round =>
    rcases hrel with ⟨rfl, rfl, HB⟩ | ⟨rfl, rfl, HB⟩ | ⟨rfl, rfl, HB⟩
    · have hgw := HG.out.under HB.out (by omega)
      obtain ⟨c0, c1, c2, c3, c4, c5, c6, c7, c8, c9, c10, c11, c12, c13⟩ := two_cells0 hgw
      have nw := HN.out.under HB.out (by omega)
      have c15 : wr.cell? ⟨w.heap.size, 0, none⟩ = some (.slice (some ⟨g, 0, none⟩) 2 2) := (nw.cell 0).trans rfl
      obtain ⟨M, hM⟩ : ∃ M, wr.heap.size = M := ⟨_, rfl⟩
      obtain ⟨V2, hV2⟩ : ∃ V, (wr.alloc (.cells (rec_ ⟨#[]⟩ (.slice none 0 0)) 45)).setRow M (rec_ ⟨#[97]⟩ (.slice none 0 0)) = V := ⟨_, rfl⟩
      have hz := Blk.new wr 45 (rec_ ⟨#[]⟩ (.slice none 0 0))
      have bz := (Below.refl wr.heap.size wr).alloc (Nat.le_refl _) (.cells (rec_ ⟨#[]⟩ (.slice none 0 0)) 45)
      rw [hM] at hz bz
      have hx : Blk V2 M 45 (rec_ ⟨#[97]⟩ (.slice none 0 0)) := by rw [← hV2]; exact setRow_heap _ M _ (rec_ ⟨#[97]⟩ (.slice none 0 0)) 45 (0, 0) hz
      have hb2 : Below M wr V2 := by rw [← hV2]; exact bz.trans ⟨rfl, rfl, rfl, by rw [setRow_size]; exact Nat.le_refl _, fun i hi => setRow_other _ _ _ _ (by omega)⟩
      have hsz := HB.out.size
      rw [hM, hn0] at hsz
      have hb3 : Below n0 V0 V2 := HB.out.trans (hb2.mono hsz)
      obtain ⟨d0, d1, d2, d3, d4, d5, d6, d7, d8, d9, d10, d11, d12, d13⟩ := rec_cells hx
      have HX0 := Aside0.mk hz
      have HV2 := Aside0.mk hV2
      have HB3 := Aside0.mk hb3
      have HMay := Aside0.mk (may_a 0 V2 ht h0)
      clear hz bz hx hb2 hV2 hb3 hgw nw
      unfold rec_ at HV2 HMay
      go_wp2_with (first
        | (refine store_other rfl 45 (.tmp 4) (.tmp 18) rfl rfl M (rec_ ⟨#[97]⟩ (.slice none 0 0)) (rec_ ⟨#[]⟩ (.slice none 0 0)) rfl rfl 45 HX0.out rfl info45 (rec_one _ _ _ _) ?_; unfold rec_; rw [HV2.out])
        | (go_at_call 59; (with_reducible refine HMay.out.mono ?_)))
      rintro e w4 ⟨rfl, hb4⟩
      have hs3 := HB3.out.size
      rw [hn0] at hs3
      have HBN := Aside0.mk (HB3.out.trans (hb4.mono hs3))
      clear hb4 c0 c1 c2 c3 c4 c5 c6 c7 c8 c9 c10 c11 c12 c13 d0 d1 d2 d3 d4 d5 d6 d7 d8 d9 d10 d11 d12 d13 c15 HB3 HX0 HV2
      go_wp2_with (fail)
      go_roundg 1
      case measure => omega
      case rel => exact .inr (.inl ⟨rfl, rfl, HBN⟩)
    · have hgw := HG.out.under HB.out (by omega)
      obtain ⟨c0, c1, c2, c3, c4, c5, c6, c7, c8, c9, c10, c11, c12, c13⟩ := two_cells1 hgw
      have nw := HN.out.under HB.out (by omega)
      have c15 : wr.cell? ⟨w.heap.size, 0, none⟩ = some (.slice (some ⟨g, 0, none⟩) 2 2) := (nw.cell 0).trans rfl
      obtain ⟨M, hM⟩ : ∃ M, wr.heap.size = M := ⟨_, rfl⟩
      obtain ⟨V2, hV2⟩ : ∃ V, (wr.alloc (.cells (rec_ ⟨#[]⟩ (.slice none 0 0)) 45)).setRow M (rec_ ⟨#[98]⟩ (.slice none 0 0)) = V := ⟨_, rfl⟩
      have hz := Blk.new wr 45 (rec_ ⟨#[]⟩ (.slice none 0 0))
      have bz := (Below.refl wr.heap.size wr).alloc (Nat.le_refl _) (.cells (rec_ ⟨#[]⟩ (.slice none 0 0)) 45)
      rw [hM] at hz bz
      have hx : Blk V2 M 45 (rec_ ⟨#[98]⟩ (.slice none 0 0)) := by rw [← hV2]; exact setRow_heap _ M _ (rec_ ⟨#[98]⟩ (.slice none 0 0)) 45 (0, 0) hz
      have hb2 : Below M wr V2 := by rw [← hV2]; exact bz.trans ⟨rfl, rfl, rfl, by rw [setRow_size]; exact Nat.le_refl _, fun i hi => setRow_other _ _ _ _ (by omega)⟩
      have hsz := HB.out.size
      rw [hM, hn0] at hsz
      have hb3 : Below n0 V0 V2 := HB.out.trans (hb2.mono hsz)
      obtain ⟨d0, d1, d2, d3, d4, d5, d6, d7, d8, d9, d10, d11, d12, d13⟩ := rec_cells hx
      have HX0 := Aside0.mk hz
      have HV2 := Aside0.mk hV2
      have HB3 := Aside0.mk hb3
      have HMay := Aside0.mk (may_b 1 V2 ht2 h0)
      clear hz bz hx hb2 hV2 hb3 hgw nw
      unfold rec_ at HV2 HMay
      go_wp2_with (first
        | (refine store_other rfl 45 (.tmp 4) (.tmp 18) rfl rfl M (rec_ ⟨#[98]⟩ (.slice none 0 0)) (rec_ ⟨#[]⟩ (.slice none 0 0)) rfl rfl 45 HX0.out rfl info45 (rec_one _ _ _ _) ?_; unfold rec_; rw [HV2.out])
        | (go_at_call 59; (with_reducible refine HMay.out.mono ?_)))
      rintro e w4 ⟨rfl, hb4⟩
      have hs3 := HB3.out.size
      rw [hn0] at hs3
      have HBN := Aside0.mk (HB3.out.trans (hb4.mono hs3))
      clear hb4 c0 c1 c2 c3 c4 c5 c6 c7 c8 c9 c10 c11 c12 c13 d0 d1 d2 d3 d4 d5 d6 d7 d8 d9 d10 d11 d12 d13 c15 HB3 HX0 HV2
      go_wp2_with (fail)
      go_roundg 0
      case measure => omega
      case rel => exact .inr (.inr ⟨rfl, rfl, HBN⟩)
    · have nw := HN.out.under HB.out (by omega)
      have gw := HG.out.under HB.out (by omega)
      have hsz := HB.out.size
      obtain ⟨N, hN⟩ : ∃ N, wr.heap.size = N := ⟨_, rfl⟩
      rw [hN, hn0] at hsz
      obtain ⟨X1, hX1⟩ : ∃ X, wr.alloc (.cells #[.int .i64 0] 3) = X := ⟨_, rfl⟩
      obtain ⟨X2, hX2⟩ : ∃ X, X1.alloc (.cells #[.bool true] 4) = X := ⟨_, rfl⟩
      obtain ⟨X3, hX3⟩ : ∃ X, X2.alloc (.cells #[.int .u8 0, .int .u8 0] 5) = X := ⟨_, rfl⟩
      obtain ⟨X4, hX4⟩ : ∃ X, X3.alloc (.cells #[.slice (some ⟨N + 2, 0, none⟩) 2 2] 92) = X := ⟨_, rfl⟩
      obtain ⟨X5, hX5⟩ : ∃ X, (X4.alloc (.cells #[.nilFunc] 140)).setRow (N + 4) #[.func (.func 60) #[] (caps_ w.heap.size N)] = X := ⟨_, rfl⟩
      have s1 : X1.heap.size = N + 1 := by rw [← hX1, World.size_alloc, hN]
      have s2 : X2.heap.size = N + 2 := by rw [← hX2, World.size_alloc, s1]
      have s3 : X3.heap.size = N + 3 := by rw [← hX3, World.size_alloc, s2]
      have s4 : X4.heap.size = N + 4 := by rw [← hX4, World.size_alloc, s3]
      have y1 : Below wr.heap.size wr X1 := by rw [← hX1]; exact (Below.refl _ wr).alloc (Nat.le_refl _) _
      have y2 : Below X1.heap.size X1 X2 := by rw [← hX2]; exact (Below.refl _ X1).alloc (Nat.le_refl _) _
      have y3 : Below X2.heap.size X2 X3 := by rw [← hX3]; exact (Below.refl _ X2).alloc (Nat.le_refl _) _
      have y4 : Below X3.heap.size X3 X4 := by rw [← hX4]; exact (Below.refl _ X3).alloc (Nat.le_refl _) _
      have zz := Blk.new X4 140 #[.nilFunc]
      rw [s4] at zz
      have y5 : Below X4.heap.size X4 X5 := by rw [← hX5]; exact ((Below.refl _ X4).alloc (Nat.le_refl _) _).trans ⟨rfl, rfl, rfl, by rw [setRow_size]; exact Nat.le_refl _, fun i hi => setRow_other _ _ _ _ (by omega)⟩
      have z1 := Blk.new wr 3 #[.int .i64 0]
      rw [hX1, hN] at z1
      have z2 := Blk.new X1 4 #[.bool true]
      rw [hX2, s1] at z2
      have z3 := Blk.new X2 5 #[.int .u8 0, .int .u8 0]
      rw [hX3, s2] at z3
      have z4 := Blk.new X3 92 #[.slice (some ⟨N + 2, 0, none⟩) 2 2]
      rw [hX4, s3] at z4
      have z5 : Blk X5 (N + 4) 140 #[.func (.func 60) #[] (caps_ w.heap.size N)] := by rw [← hX5]; exact setRow_heap _ (N + 4) _ _ 140 (0, 0) zz
      have HZZ := Aside0.mk zz
      have w2 := (nw.next y1).next y2
      have w5 := ((w2.next y3).next y4).next y5
      have hvis : Vis g w.heap.size N (.slice none 0 0) 0 0 true 0 X5 := ⟨(((z1.next y2).next y3).next y4).next y5, ((z2.next y3).next y4).next y5, (z3.next y4).next y5, z4.next y5, z5, w5, ((((gw.next y1).next y2).next y3).next y4).next y5, by omega, by omega⟩
      have c15 : wr.cell? ⟨w.heap.size, 0, none⟩ = some (.slice (some ⟨g, 0, none⟩) 2 2) := (nw.cell 0).trans rfl
      have e15 : X2.cell? ⟨w.heap.size, 0, none⟩ = some (.slice (some ⟨g, 0, none⟩) 2 2) := (w2.cell 0).trans rfl
      have f15 : X5.cell? ⟨w.heap.size, 0, none⟩ = some (.slice (some ⟨g, 0, none⟩) 2 2) := (w5.cell 0).trans rfl
      have f16 : X5.cell? ⟨N + 4, 0, none⟩ = some (.func (.func 60) #[] (caps_ w.heap.size N)) := (z5.cell 0).trans rfl
      have HB5 := Aside0.mk (show Below N wr X5 from (((((y1.mono (by omega)).trans (y2.mono (by omega))).trans (y3.mono (by omega))).trans (y4.mono (by omega))).trans (y5.mono (by omega))))
      have HVis := Aside0.mk (visit_alone g w.heap.size N X5 hvis)
      have HX2 := hX2
      rw [← hX1] at HX2
      have HX4 := hX4
      rw [← hX3] at HX4
      have HX5 := Aside0.mk hX5
      have n3 : N + 2 + 1 = N + 3 := by omega
      clear nw gw y1 y2 y3 y4 y5 z1 z2 z3 z4 z5 w2 w5 hvis hX1 hX2 hX3 hX4 hX5 s1 zz
      have hmk := make_two
      go_wp2_with (refine wpList_store_oneTo rfl 140 (.tmp 8) (.tmp 30) rfl rfl (N + 4) (.func (.func 60) #[] (caps_ w.heap.size N)) rfl rfl rfl 140 .nilFunc HZZ.out info140 ?_; rw [HX5.out])
      (with_reducible refine HVis.out.mono ?_)
      rintro e V9 ⟨rfl, hv, hf⟩
      obtain ⟨d0, d1, d2, d3, d4, d5, d6, d7, d8⟩ := hv.c
      have hs5 := HB5.out.size
      rw [hN] at hs5
      have hb9 := hf.below (m := N) hs5 (fun k hk => by rcases hk with rfl | rfl | rfl <;> omega)
      have hbw : Below w.heap.size w V9 := HB0.out.trans ((HB.out.mono (show w.heap.size ≤ n0 by omega)).trans ((HB5.out.mono (show w.heap.size ≤ N by omega)).trans (hb9.mono (by omega))))
      have HBW := Aside0.mk hbw
      clear hv hf hb9 hbw hs5 d2 d3 d4 d5 d7 d8 e15 f15 f16 c15
      go_wp2_with (fail)
      go_ret
      exact ⟨rfl, HBW.out⟩
set_option maxHeartbeats 8000000 in
set_option maxRecDepth 100000 in
theorem row_both (g p : Nat) (w : World) (hG : Blk w g 45 (two_ (.slice (some ⟨p, 0, none⟩) 1 1))) (ht : (ByteArray.mk #[97]).size ≤ 4096) (ht2 : (ByteArray.mk #[98]).size ≤ 4096) (h0 : (ByteArray.mk #[]).size ≤ 4096) (hP : Blk w p 3 #[.int .i64 1]) :
    Calls Tryz.prog 33 #[.slice (some ⟨g, 0, none⟩) 2 2] w fun e w' => e = .returned (.bool true) ∧ Below w.heap.size w w' := by
  have hmf : ∀ (fn : Fn) (first cap : Array Value) (w : World), (Instr.makeFunc fn first cap).run Tryz.prog w = .ok (.func fn first cap) w := fun _ _ _ _ => rfl
  obtain ⟨V0, hV0⟩ : ∃ V, w.alloc (.cells #[.slice (some ⟨g, 0, none⟩) 2 2] 46) = V := ⟨_, rfl⟩
  have hn := Blk.new w 46 #[.slice (some ⟨g, 0, none⟩) 2 2]
  have b0 := (Below.refl w.heap.size w).alloc (Nat.le_refl _) (.cells #[.slice (some ⟨g, 0, none⟩) 2 2] 46)
  rw [hV0] at hn b0
  have s0 : V0.heap.size = w.heap.size + 1 := by rw [← hV0, World.size_alloc]
  obtain ⟨n0, hn0⟩ : ∃ n0, V0.heap.size = n0 := ⟨_, rfl⟩
  have hg0 := hG.next b0
  have c0 : V0.cell? ⟨w.heap.size, 0, none⟩ = some (.slice (some ⟨g, 0, none⟩) 2 2) := (hn.cell 0).trans rfl
  have hgl := hG.lt
  have HG := Aside0.mk hg0
  have HN := Aside0.mk hn
  have HB0 := Aside0.mk b0
  have hne : n0 = w.heap.size + 1 := by omega
  have hpl := hP.lt
  have HP0 := Aside0.mk (hP.next b0)
  clear hP
  clear hn b0 hg0 hG s0
  go_enter Tryz.func33, Tryz.ntmps33
  go_wp2_with (fail)
  clear hV0 c0
  go_loopg [14] 2 (fun kq v14 wr => (kq = 2 ∧ v14 = .int .i64 0 ∧ Aside0 (Below n0 V0 wr)) ∨ (kq = 1 ∧ v14 = .int .i64 1 ∧ Aside0 (Below n0 V0 wr)) ∨ (kq = 0 ∧ v14 = .int .i64 2 ∧ Aside0 (Below n0 V0 wr)))
  case atStart => exact .inl ⟨rfl, rfl, Aside0.mk (Below.refl _ _)⟩
  case round =>
    rcases hrel with ⟨rfl, rfl, HB⟩ | ⟨rfl, rfl, HB⟩ | ⟨rfl, rfl, HB⟩
    · have hgw := HG.out.under HB.out (by omega)
      obtain ⟨c0, c1, c2, c3, c4, c5, c6, c7, c8, c9, c10, c11, c12, c13⟩ := two_cells0 hgw
      have nw := HN.out.under HB.out (by omega)
      have c15 : wr.cell? ⟨w.heap.size, 0, none⟩ = some (.slice (some ⟨g, 0, none⟩) 2 2) := (nw.cell 0).trans rfl
      obtain ⟨M, hM⟩ : ∃ M, wr.heap.size = M := ⟨_, rfl⟩
      obtain ⟨V2, hV2⟩ : ∃ V, (wr.alloc (.cells (rec_ ⟨#[]⟩ (.slice none 0 0)) 45)).setRow M (rec_ ⟨#[97]⟩ (.slice none 0 0)) = V := ⟨_, rfl⟩
      have hz := Blk.new wr 45 (rec_ ⟨#[]⟩ (.slice none 0 0))
      have bz := (Below.refl wr.heap.size wr).alloc (Nat.le_refl _) (.cells (rec_ ⟨#[]⟩ (.slice none 0 0)) 45)
      rw [hM] at hz bz
      have hx : Blk V2 M 45 (rec_ ⟨#[97]⟩ (.slice none 0 0)) := by rw [← hV2]; exact setRow_heap _ M _ (rec_ ⟨#[97]⟩ (.slice none 0 0)) 45 (0, 0) hz
      have hb2 : Below M wr V2 := by rw [← hV2]; exact bz.trans ⟨rfl, rfl, rfl, by rw [setRow_size]; exact Nat.le_refl _, fun i hi => setRow_other _ _ _ _ (by omega)⟩
      have hsz := HB.out.size
      rw [hM, hn0] at hsz
      have hb3 : Below n0 V0 V2 := HB.out.trans (hb2.mono hsz)
      obtain ⟨d0, d1, d2, d3, d4, d5, d6, d7, d8, d9, d10, d11, d12, d13⟩ := rec_cells hx
      have HX0 := Aside0.mk hz
      have HV2 := Aside0.mk hV2
      have HB3 := Aside0.mk hb3
      have HMay := Aside0.mk (may_a 0 V2 ht h0)
      clear hz bz hx hb2 hV2 hb3 hgw nw
      unfold rec_ at HV2 HMay
      go_wp2_with (first
        | (refine store_other rfl 45 (.tmp 4) (.tmp 18) rfl rfl M (rec_ ⟨#[97]⟩ (.slice none 0 0)) (rec_ ⟨#[]⟩ (.slice none 0 0)) rfl rfl 45 HX0.out rfl info45 (rec_one _ _ _ _) ?_; unfold rec_; rw [HV2.out])
        | (go_at_call 59; (with_reducible refine HMay.out.mono ?_)))
      rintro e w4 ⟨rfl, hb4⟩
      have hs3 := HB3.out.size
      rw [hn0] at hs3
      have HBN := Aside0.mk (HB3.out.trans (hb4.mono hs3))
      clear hb4 c0 c1 c2 c3 c4 c5 c6 c7 c8 c9 c10 c11 c12 c13 d0 d1 d2 d3 d4 d5 d6 d7 d8 d9 d10 d11 d12 d13 c15 HB3 HX0 HV2
      go_wp2_with (fail)
      go_roundg 1
      case measure => omega
      case rel => exact .inr (.inl ⟨rfl, rfl, HBN⟩)
    · have hgw := HG.out.under HB.out (by omega)
      obtain ⟨c0, c1, c2, c3, c4, c5, c6, c7, c8, c9, c10, c11, c12, c13⟩ := two_cells1 hgw
      have nw := HN.out.under HB.out (by omega)
      have c15 : wr.cell? ⟨w.heap.size, 0, none⟩ = some (.slice (some ⟨g, 0, none⟩) 2 2) := (nw.cell 0).trans rfl
      obtain ⟨M, hM⟩ : ∃ M, wr.heap.size = M := ⟨_, rfl⟩
      obtain ⟨V2, hV2⟩ : ∃ V, (wr.alloc (.cells (rec_ ⟨#[]⟩ (.slice none 0 0)) 45)).setRow M (rec_ ⟨#[98]⟩ (.slice (some ⟨p, 0, none⟩) 1 1)) = V := ⟨_, rfl⟩
      have hz := Blk.new wr 45 (rec_ ⟨#[]⟩ (.slice none 0 0))
      have bz := (Below.refl wr.heap.size wr).alloc (Nat.le_refl _) (.cells (rec_ ⟨#[]⟩ (.slice none 0 0)) 45)
      rw [hM] at hz bz
      have hx : Blk V2 M 45 (rec_ ⟨#[98]⟩ (.slice (some ⟨p, 0, none⟩) 1 1)) := by rw [← hV2]; exact setRow_heap _ M _ (rec_ ⟨#[98]⟩ (.slice (some ⟨p, 0, none⟩) 1 1)) 45 (0, 0) hz
      have hb2 : Below M wr V2 := by rw [← hV2]; exact bz.trans ⟨rfl, rfl, rfl, by rw [setRow_size]; exact Nat.le_refl _, fun i hi => setRow_other _ _ _ _ (by omega)⟩
      have hsz := HB.out.size
      rw [hM, hn0] at hsz
      have hb3 : Below n0 V0 V2 := HB.out.trans (hb2.mono hsz)
      obtain ⟨d0, d1, d2, d3, d4, d5, d6, d7, d8, d9, d10, d11, d12, d13⟩ := rec_cells hx
      have HX0 := Aside0.mk hz
      have HV2 := Aside0.mk hV2
      have HB3 := Aside0.mk hb3
      have HMay := Aside0.mk (may_one p V2 ht2 h0 (HP0.out.under hb3 (by omega)))
      clear hz bz hx hb2 hV2 hb3 hgw nw
      unfold rec_ at HV2 HMay
      go_wp2_with (first
        | (refine store_other rfl 45 (.tmp 4) (.tmp 18) rfl rfl M (rec_ ⟨#[98]⟩ (.slice (some ⟨p, 0, none⟩) 1 1)) (rec_ ⟨#[]⟩ (.slice none 0 0)) rfl rfl 45 HX0.out rfl info45 (rec_one _ _ _ _) ?_; unfold rec_; rw [HV2.out])
        | (go_at_call 59; (with_reducible refine HMay.out.mono ?_)))
      rintro e w4 ⟨rfl, hb4⟩
      have hs3 := HB3.out.size
      rw [hn0] at hs3
      have HBN := Aside0.mk (HB3.out.trans (hb4.mono hs3))
      clear hb4 c0 c1 c2 c3 c4 c5 c6 c7 c8 c9 c10 c11 c12 c13 d0 d1 d2 d3 d4 d5 d6 d7 d8 d9 d10 d11 d12 d13 c15 HB3 HX0 HV2
      go_wp2_with (fail)
      go_roundg 0
      case measure => omega
      case rel => exact .inr (.inr ⟨rfl, rfl, HBN⟩)
    · have nw := HN.out.under HB.out (by omega)
      have gw := HG.out.under HB.out (by omega)
      have hsz := HB.out.size
      obtain ⟨N, hN⟩ : ∃ N, wr.heap.size = N := ⟨_, rfl⟩
      rw [hN, hn0] at hsz
      obtain ⟨X1, hX1⟩ : ∃ X, wr.alloc (.cells #[.int .i64 0] 3) = X := ⟨_, rfl⟩
      obtain ⟨X2, hX2⟩ : ∃ X, X1.alloc (.cells #[.bool true] 4) = X := ⟨_, rfl⟩
      obtain ⟨X3, hX3⟩ : ∃ X, X2.alloc (.cells #[.int .u8 0, .int .u8 0] 5) = X := ⟨_, rfl⟩
      obtain ⟨X4, hX4⟩ : ∃ X, X3.alloc (.cells #[.slice (some ⟨N + 2, 0, none⟩) 2 2] 92) = X := ⟨_, rfl⟩
      obtain ⟨X5, hX5⟩ : ∃ X, (X4.alloc (.cells #[.nilFunc] 140)).setRow (N + 4) #[.func (.func 60) #[] (caps_ w.heap.size N)] = X := ⟨_, rfl⟩
      have s1 : X1.heap.size = N + 1 := by rw [← hX1, World.size_alloc, hN]
      have s2 : X2.heap.size = N + 2 := by rw [← hX2, World.size_alloc, s1]
      have s3 : X3.heap.size = N + 3 := by rw [← hX3, World.size_alloc, s2]
      have s4 : X4.heap.size = N + 4 := by rw [← hX4, World.size_alloc, s3]
      have y1 : Below wr.heap.size wr X1 := by rw [← hX1]; exact (Below.refl _ wr).alloc (Nat.le_refl _) _
      have y2 : Below X1.heap.size X1 X2 := by rw [← hX2]; exact (Below.refl _ X1).alloc (Nat.le_refl _) _
      have y3 : Below X2.heap.size X2 X3 := by rw [← hX3]; exact (Below.refl _ X2).alloc (Nat.le_refl _) _
      have y4 : Below X3.heap.size X3 X4 := by rw [← hX4]; exact (Below.refl _ X3).alloc (Nat.le_refl _) _
      have zz := Blk.new X4 140 #[.nilFunc]
      rw [s4] at zz
      have y5 : Below X4.heap.size X4 X5 := by rw [← hX5]; exact ((Below.refl _ X4).alloc (Nat.le_refl _) _).trans ⟨rfl, rfl, rfl, by rw [setRow_size]; exact Nat.le_refl _, fun i hi => setRow_other _ _ _ _ (by omega)⟩
      have z1 := Blk.new wr 3 #[.int .i64 0]
      rw [hX1, hN] at z1
      have z2 := Blk.new X1 4 #[.bool true]
      rw [hX2, s1] at z2
      have z3 := Blk.new X2 5 #[.int .u8 0, .int .u8 0]
      rw [hX3, s2] at z3
      have z4 := Blk.new X3 92 #[.slice (some ⟨N + 2, 0, none⟩) 2 2]
      rw [hX4, s3] at z4
      have z5 : Blk X5 (N + 4) 140 #[.func (.func 60) #[] (caps_ w.heap.size N)] := by rw [← hX5]; exact setRow_heap _ (N + 4) _ _ 140 (0, 0) zz
      have HZZ := Aside0.mk zz
      have w2 := (nw.next y1).next y2
      have w5 := ((w2.next y3).next y4).next y5
      have hvis : Vis g w.heap.size N (.slice (some ⟨p, 0, none⟩) 1 1) 0 0 true 0 X5 := ⟨(((z1.next y2).next y3).next y4).next y5, ((z2.next y3).next y4).next y5, (z3.next y4).next y5, z4.next y5, z5, w5, ((((gw.next y1).next y2).next y3).next y4).next y5, by omega, by omega⟩
      have c15 : wr.cell? ⟨w.heap.size, 0, none⟩ = some (.slice (some ⟨g, 0, none⟩) 2 2) := (nw.cell 0).trans rfl
      have e15 : X2.cell? ⟨w.heap.size, 0, none⟩ = some (.slice (some ⟨g, 0, none⟩) 2 2) := (w2.cell 0).trans rfl
      have f15 : X5.cell? ⟨w.heap.size, 0, none⟩ = some (.slice (some ⟨g, 0, none⟩) 2 2) := (w5.cell 0).trans rfl
      have f16 : X5.cell? ⟨N + 4, 0, none⟩ = some (.func (.func 60) #[] (caps_ w.heap.size N)) := (z5.cell 0).trans rfl
      have HB5 := Aside0.mk (show Below N wr X5 from (((((y1.mono (by omega)).trans (y2.mono (by omega))).trans (y3.mono (by omega))).trans (y4.mono (by omega))).trans (y5.mono (by omega))))
      have HVis := Aside0.mk (visit_both g w.heap.size N p X5 hvis ((HP0.out.under HB.out (by omega)).under HB5.out (by omega)) (by omega))
      have HX2 := hX2
      rw [← hX1] at HX2
      have HX4 := hX4
      rw [← hX3] at HX4
      have HX5 := Aside0.mk hX5
      have n3 : N + 2 + 1 = N + 3 := by omega
      clear nw gw y1 y2 y3 y4 y5 z1 z2 z3 z4 z5 w2 w5 hvis hX1 hX2 hX3 hX4 hX5 s1 zz
      have hmk := make_two
      go_wp2_with (refine wpList_store_oneTo rfl 140 (.tmp 8) (.tmp 30) rfl rfl (N + 4) (.func (.func 60) #[] (caps_ w.heap.size N)) rfl rfl rfl 140 .nilFunc HZZ.out info140 ?_; rw [HX5.out])
      (with_reducible refine HVis.out.mono ?_)
      rintro e V9 ⟨rfl, hv, hf⟩
      obtain ⟨d0, d1, d2, d3, d4, d5, d6, d7, d8⟩ := hv.c
      have hs5 := HB5.out.size
      rw [hN] at hs5
      have hb9 := hf.below (m := N) hs5 (fun k hk => by rcases hk with rfl | rfl | rfl <;> omega)
      have hbw : Below w.heap.size w V9 := HB0.out.trans ((HB.out.mono (show w.heap.size ≤ n0 by omega)).trans ((HB5.out.mono (show w.heap.size ≤ N by omega)).trans (hb9.mono (by omega))))
      have HBW := Aside0.mk hbw
      clear hv hf hb9 hbw hs5 d2 d3 d4 d5 d7 d8 e15 f15 f16 c15
      go_wp2_with (fail)
      go_ret
      exact ⟨rfl, HBW.out⟩
end Go.Proofs.YtoplgeajolonoaaGreatDoor.PK
