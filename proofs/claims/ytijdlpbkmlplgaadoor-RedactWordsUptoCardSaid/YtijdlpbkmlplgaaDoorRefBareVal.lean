/- errataref20.bare: what a spec shows when bare, by the document. -/
import Derived.Test.YtijdlpbkmlplgaaDoorBareVal
set_option linter.unusedVariables false
set_option linter.unusedSimpArgs false
namespace Go.Proofs.YtijdlpbkmlplgaaDoor.TW
open Go.RowKit Go.Shelf Go.Proofs.YtijdlpbkmlplgaaDoorW.PrintWords Go.Proofs.YtijdlpbkmlplgaaDoorW.PrintMore

set_option maxHeartbeats 4000000 in
set_option maxRecDepth 100000 in
theorem refbareval_calls (k : Int) (nl : Bool) (t : ByteArray) (n sm : Int) (re im : Nat) (fl : Bool) (mk : Int) (it : Value) (B : Option Addr) (l2 c2 : Nat) (ps : List Int) (w : World) (hl2 : ps.length = l2) (hP : (Kd.int .i64).C w B l2 ps) (hb2 : l2 ≤ 4398046511104) (hi1 : it.oneCell' = true) :
    Calls Tryd.prog 16 #[spec k nl t n sm re im fl mk it (.slice B l2 c2)] w fun e w' => ∃ v9 v10, e = .returned (spec k nl (tB k) (nB k n) 0 0 0 false 0 v9 v10) ∧
      w'.ownsRow (w.heap.size + 2) 9 1 v9 (iB k nl).length (encs Value.string (iB k nl)) ∧ w'.ownsRow (w.heap.size + 2) 3 1 v10 l2 (encs (Value.int .i64) ps) ∧ Below w.heap.size w w' := by
  unfold spec
  have hn := SpecAt.new w k nl t n sm re im fl mk it (.slice B l2 c2)
  obtain ⟨W1, hW1⟩ : ∃ W1, w.alloc (.cells #[.int .u8 k, .bool nl, .string t, .int .i16 n, .int .i8 sm, .float .f64 re, .float .f64 im, .bool fl, .int .u32 mk, it, .slice B l2 c2] 29) = W1 := ⟨_, rfl⟩
  have hs1 : W1.heap.size = w.heap.size + 1 := by rw [← hW1, World.size_alloc]
  have b1 : Below w.heap.size w W1 := by rw [← hW1]; exact (Below.refl _ w).alloc (Nat.le_refl _) _
  rw [hW1] at hn
  have hr := SpecAt.new W1 0 false ⟨#[]⟩ 0 0 0 0 false 0 (.slice none 0 0) (.slice none 0 0)
  obtain ⟨W2, hW2⟩ : ∃ W2, W1.alloc (.cells #[.int .u8 0, .bool false, .string ⟨#[]⟩, .int .i16 0, .int .i8 0, .float .f64 0, .float .f64 0, .bool false, .int .u32 0, .slice none 0 0, .slice none 0 0] 29) = W2 := ⟨_, rfl⟩
  have hs2 : W2.heap.size = w.heap.size + 1 + 1 := by rw [← hW2, World.size_alloc, hs1]
  have b12 : Below W1.heap.size W1 W2 := by rw [← hW2]; exact (Below.refl _ W1).alloc (Nat.le_refl _) _
  have hn2 := hn.next b12
  rw [hW2, hs1] at hr
  have hB2 : Below w.heap.size w W2 := b1.trans (b12.mono b1.size)
  have hO2 := Kd.C_below hP hB2
  have c0 := hn2.cells.1
  have c1 := hn2.cells.2.1
  have c10 := hn2.cells.2.2.2.2.2.2.2.2.2.2
  go_enter Tryd.func16, Tryd.ntmps16
  go_upto_region 1 with (fail)
  clear hW1 hW2 b12 hn
  have HN := Aside0.mk hn2
  have HR := Aside0.mk hr
  have HB := Aside0.mk hB2
  have HO := Aside0.mk hO2
  clear hn2 hr hB2 hO2 b1
  go_cut [3] (fun v3 wc => ∃ (g : Nat) (v : Value), v3 = .pointer (some ⟨g, 0, none⟩) ∧ Aside0 (SpecAt g k nl ⟨#[]⟩ 0 0 0 0 false 0 (.slice none 0 0) v wc) ∧ Aside0 (wc.ownsRow W2.heap.size 3 1 v l2 (encs (Value.int .i64) ps)) ∧ Aside0 (Below W2.heap.size W2 wc) ∧ Aside0 (W2.heap.size ≤ g ∧ v.ownBlock ≠ some g))
  case first =>
    have hfl := fun (W : World) (a : Addr) (x : Nat) => run_store Tryd.prog W a (.float .f64 x) .plain rfl
    have hinfI : (Tryd.prog.info? 3).map (fun i => (i.zero, i.size, i.bytes)) = some (some (.int .i64 0), 1, 8) := by kernel_rfl
    have be1 : Below W2.heap.size W2 (W2.alloc (.cells #[] 3)).drew := ((Below.refl _ W2).alloc (Nat.le_refl _) _).drew
    have be2 : Below W2.heap.size W2 ((W2.alloc (.cells #[] 3)).alloc (.cells #[.int .u8 0, .bool false, .string ⟨#[]⟩, .int .i16 0, .int .i8 0, .float .f64 0, .float .f64 0, .bool false, .int .u32 0, .slice none 0 0, .slice none 0 0] 29)).drew := (((Below.refl _ W2).alloc (Nat.le_refl _) _).alloc (by rw [World.size_alloc]; omega) _).drew
    have bz3 : Below W2.heap.size W2 (W2.alloc (.cells #[.int .u8 0, .bool false, .string ⟨#[]⟩, .int .i16 0, .int .i8 0, .float .f64 0, .float .f64 0, .bool false, .int .u32 0, .slice none 0 0, .slice none 0 0] 29)).drew := ((Below.refl _ W2).alloc (Nat.le_refl _) _).drew
    have be3 : Below W2.heap.size W2 ((W2.alloc (.cells #[.int .u8 0, .bool false, .string ⟨#[]⟩, .int .i16 0, .int .i8 0, .float .f64 0, .float .f64 0, .bool false, .int .u32 0, .slice none 0 0, .slice none 0 0] 29)).alloc (.cells #[] 3)).drew := (((Below.refl _ W2).alloc (Nat.le_refl _) _).alloc (by rw [World.size_alloc]; omega) _).drew
    have oe1 : (W2.alloc (.cells #[] 3)).drew.ownsRow W2.heap.size 3 1 (.slice (some ⟨w.heap.size + 1 + 1, 0, none⟩) 0 0) 0 [] := by rw [← hs2]; exact own_empty W2 3
    have oe2 : ((W2.alloc (.cells #[] 3)).alloc (.cells #[.int .u8 0, .bool false, .string ⟨#[]⟩, .int .i16 0, .int .i8 0, .float .f64 0, .float .f64 0, .bool false, .int .u32 0, .slice none 0 0, .slice none 0 0] 29)).drew.ownsRow W2.heap.size 3 1 (.slice (some ⟨w.heap.size + 1 + 1, 0, none⟩) 0 0) 0 [] := by rw [← hs2]; exact (own_empty W2 3).alloc _
    have oe3 : ((W2.alloc (.cells #[.int .u8 0, .bool false, .string ⟨#[]⟩, .int .i16 0, .int .i8 0, .float .f64 0, .float .f64 0, .bool false, .int .u32 0, .slice none 0 0, .slice none 0 0] 29)).alloc (.cells #[] 3)).drew.ownsRow W2.heap.size 3 1 (.slice (some ⟨w.heap.size + 1 + 1 + 1, 0, none⟩) 0 0) 0 [] := by
      have := own_empty (W2.alloc (.cells #[.int .u8 0, .bool false, .string ⟨#[]⟩, .int .i16 0, .int .i8 0, .float .f64 0, .float .f64 0, .bool false, .int .u32 0, .slice none 0 0, .slice none 0 0] 29)) 3
      rw [World.size_alloc] at this
      rw [← hs2]
      exact own_base this (Nat.le_succ _)
    have z2 : SpecAt (w.heap.size + 1 + 1 + 1) 0 false ⟨#[]⟩ 0 0 0 0 false 0 (.slice none 0 0) (.slice none 0 0) ((W2.alloc (.cells #[] 3)).alloc (.cells #[.int .u8 0, .bool false, .string ⟨#[]⟩, .int .i16 0, .int .i8 0, .float .f64 0, .float .f64 0, .bool false, .int .u32 0, .slice none 0 0, .slice none 0 0] 29)).drew := by
      have := SpecAt.new (W2.alloc (.cells #[] 3)) 0 false ⟨#[]⟩ 0 0 0 0 false 0 (.slice none 0 0) (.slice none 0 0)
      rw [World.size_alloc] at this
      rw [← hs2]
      exact this
    have z3 : SpecAt (w.heap.size + 1 + 1) 0 false ⟨#[]⟩ 0 0 0 0 false 0 (.slice none 0 0) (.slice none 0 0) ((W2.alloc (.cells #[.int .u8 0, .bool false, .string ⟨#[]⟩, .int .i16 0, .int .i8 0, .float .f64 0, .float .f64 0, .bool false, .int .u32 0, .slice none 0 0, .slice none 0 0] 29)).alloc (.cells #[] 3)).drew := by
      rw [← hs2]
      exact (SpecAt.new W2 0 false ⟨#[]⟩ 0 0 0 0 false 0 (.slice none 0 0) (.slice none 0 0)).next (((Below.refl _ _).alloc (Nat.le_refl _) _).drew)
    have n1 := HN.out.under be1 (show w.heap.size < W2.heap.size by omega)
    have n2 := HN.out.under be2 (show w.heap.size < W2.heap.size by omega)
    have n3 := HN.out.under be3 (show w.heap.size < W2.heap.size by omega)
    have nz := HN.out.under bz3 (show w.heap.size < W2.heap.size by omega)
    have a0 := n1.cells.1
    have a1 := n1.cells.2.1
    have a10 := n1.cells.2.2.2.2.2.2.2.2.2.2
    have b0 := n2.cells.1
    have b1 := n2.cells.2.1
    have b10 := n2.cells.2.2.2.2.2.2.2.2.2.2
    have d0 := n3.cells.1
    have d1 := n3.cells.2.1
    have d10 := n3.cells.2.2.2.2.2.2.2.2.2.2
    have g0 := nz.cells.1
    have g1 := nz.cells.2.1
    have g10 := nz.cells.2.2.2.2.2.2.2.2.2.2
    have BE1 := Aside0.mk be1
    have BE2 := Aside0.mk be2
    have BE3 := Aside0.mk be3
    have OE1 := Aside0.mk oe1
    have OE2 := Aside0.mk oe2
    have OE3 := Aside0.mk oe3
    have Z2 := Aside0.mk z2
    have Z3' := Aside0.mk z3
    have hinfI := Aside0.mk hinfI
    clear be1 be2 be3 bz3 oe1 oe2 oe3 z2 z3 n1 n2 n3 nz
    go_region_held3 (fun V => V.cell? ⟨w.heap.size, 0, none⟩ = some (.int .u8 k) ∧ V.cell? ⟨w.heap.size, 1, none⟩ = some (.bool nl) ∧ V.cell? ⟨w.heap.size, 10, none⟩ = some (.slice B l2 c2)) (first | exact ⟨c0, c1, c10⟩ | exact ⟨e0, e1, e10⟩ | exact ⟨a0, a1, a10⟩ | exact ⟨b0, b1, b10⟩ | exact ⟨d0, d1, d10⟩ | exact ⟨g0, g1, g10⟩ | exact ⟨k0, k1, k10⟩ | go_keep) (first | (refine Kd.R_append_rows_step (Kd.int .i64) (w0 := W2) (W := (W2.alloc (.cells #[] 3)).drew) W2.heap.size (by rfl) (.tmp 8) (.tmp 10) 27 3 (.int .i64 0) 8 (by rfl) Tryd.underlying27 hinfI.out rfl (by decide) (by decide) (.slice (some ⟨w.heap.size + 1 + 1, 0, none⟩) 0 0) [] ps B l2 c2 (fun _ => True) (fun _ => False) (by rfl) (by rfl) (Kd.R_of_own (enc := Value.int .i64) (xs := []) OE1.out (fun _ _ => trivial)) (Kd.C_below HO.out BE1.out) (fun _ _ h => h) (fun _ h => h.elim) (fun _ _ => trivial) BE1.out (by show W2.heap.size ≤ (W2.alloc _).heap.size; rw [World.size_alloc]; omega) (by simp; omega) ?_; intro v' w3 hr3 hb3 hg3 hat3; have ho3 : w3.ownsRow W2.heap.size 3 1 v' l2 (encs (Value.int .i64) ps) := (by have := Kd.own_of_R hr3; simpa [hl2] using this); obtain ⟨A', c', rfl⟩ := own_slice ho3; have hb3' : Below W2.heap.size W2 w3 := hb3; have n3 := HN.out.under hb3' (show w.heap.size < W2.heap.size by omega); have e0 := n3.cells.1; have e1 := n3.cells.2.1; have e10 := n3.cells.2.2.2.2.2.2.2.2.2.2) | (refine Kd.R_append_rows_step (Kd.int .i64) (w0 := W2) (W := ((W2.alloc (.cells #[] 3)).alloc (.cells #[.int .u8 0, .bool false, .string ⟨#[]⟩, .int .i16 0, .int .i8 0, .float .f64 0, .float .f64 0, .bool false, .int .u32 0, .slice none 0 0, .slice none 0 0] 29)).drew) W2.heap.size (by rfl) (.tmp 8) (.tmp 10) 27 3 (.int .i64 0) 8 (by rfl) Tryd.underlying27 hinfI.out rfl (by decide) (by decide) (.slice (some ⟨w.heap.size + 1 + 1, 0, none⟩) 0 0) [] ps B l2 c2 (fun _ => True) (fun _ => False) (by rfl) (by rfl) (Kd.R_of_own (enc := Value.int .i64) (xs := []) OE2.out (fun _ _ => trivial)) (Kd.C_below HO.out BE2.out) (fun _ _ h => h) (fun _ h => h.elim) (fun _ _ => trivial) BE2.out (by show _ ≤ ((W2.alloc _).alloc _).heap.size; rw [World.size_alloc, World.size_alloc]; omega) (by simp; omega) ?_; intro v' w3 hr3 hb3 hg3 hat3; have ho3 : w3.ownsRow W2.heap.size 3 1 v' l2 (encs (Value.int .i64) ps) := (by have := Kd.own_of_R hr3; simpa [hl2] using this); obtain ⟨A', c', rfl⟩ := own_slice ho3; have hb3' : Below W2.heap.size W2 w3 := hb3; have n3 := HN.out.under hb3' (show w.heap.size < W2.heap.size by omega); have e0 := n3.cells.1; have e1 := n3.cells.2.1; have e10 := n3.cells.2.2.2.2.2.2.2.2.2.2; have z3 : SpecAt (w.heap.size + 1 + 1 + 1) 0 false ⟨#[]⟩ 0 0 0 0 false 0 (.slice none 0 0) (.slice none 0 0) w3 := (hg3.block (w.heap.size + 1 + 1 + 1) (by show _ ≤ ((W2.alloc _).alloc _).heap.size; rw [World.size_alloc, World.size_alloc]; omega) (by simp [Value.ownBlock])).trans Z2.out; obtain ⟨R, hR⟩ : ∃ R : Array Value, #[.int .u8 k, .bool nl, .string ⟨#[]⟩, .int .i16 0, .int .i8 0, .float .f64 0, .float .f64 0, .bool false, .int .u32 0, .slice none 0 0, .slice A' l2 c'] = R := ⟨_, rfl⟩; have hls : R.size = 11 := (by rw [← hR]; rfl); have hst : Sem.run Tryd.prog (storeCells ⟨w.heap.size + 1 + 1 + 1, 0, none⟩ R.toList 0) w3 = .ok () (w3.setRow (w.heap.size + 1 + 1 + 1) R) := run_storeCells_from (w.heap.size + 1 + 1 + 1) 29 R.toList 0 _ w3 z3 (by simp [hls]) (fun v hv => by rw [← hR] at hv; revert v; simp [Value.oneCell']); have m3 := SpecAt.row n3 (g := w.heap.size + 1 + 1 + 1) (by omega) R; have k0 := m3.cells.1; have k1 := m3.cells.2.1; have k10 := m3.cells.2.2.2.2.2.2.2.2.2.2; have Z3 := Aside0.mk z3; have RR := Aside0.mk hR; clear n3 z3 m3) | (refine Kd.R_append_rows_step (Kd.int .i64) (w0 := W2) (W := ((W2.alloc (.cells #[.int .u8 0, .bool false, .string ⟨#[]⟩, .int .i16 0, .int .i8 0, .float .f64 0, .float .f64 0, .bool false, .int .u32 0, .slice none 0 0, .slice none 0 0] 29)).alloc (.cells #[] 3)).drew) W2.heap.size (by rfl) (.tmp 8) (.tmp 10) 27 3 (.int .i64 0) 8 (by rfl) Tryd.underlying27 hinfI.out rfl (by decide) (by decide) (.slice (some ⟨w.heap.size + 1 + 1 + 1, 0, none⟩) 0 0) [] ps B l2 c2 (fun _ => True) (fun _ => False) (by rfl) (by rfl) (Kd.R_of_own (enc := Value.int .i64) (xs := []) OE3.out (fun _ _ => trivial)) (Kd.C_below HO.out BE3.out) (fun _ _ h => h) (fun _ h => h.elim) (fun _ _ => trivial) BE3.out (by show _ ≤ ((W2.alloc _).alloc _).heap.size; rw [World.size_alloc, World.size_alloc]; omega) (by simp; omega) ?_; intro v' w3 hr3 hb3 hg3 hat3; have ho3 : w3.ownsRow W2.heap.size 3 1 v' l2 (encs (Value.int .i64) ps) := (by have := Kd.own_of_R hr3; simpa [hl2] using this); obtain ⟨A', c', rfl⟩ := own_slice ho3; have hb3' : Below W2.heap.size W2 w3 := hb3; have n3 := HN.out.under hb3' (show w.heap.size < W2.heap.size by omega); have e0 := n3.cells.1; have e1 := n3.cells.2.1; have e10 := n3.cells.2.2.2.2.2.2.2.2.2.2; have z3 : SpecAt (w.heap.size + 1 + 1) 0 false ⟨#[]⟩ 0 0 0 0 false 0 (.slice none 0 0) (.slice none 0 0) w3 := (hg3.block (w.heap.size + 1 + 1) (by show _ ≤ ((W2.alloc _).alloc _).heap.size; rw [World.size_alloc, World.size_alloc]; omega) (by simp [Value.ownBlock])).trans Z3'.out; obtain ⟨R, hR⟩ : ∃ R : Array Value, #[.int .u8 k, .bool nl, .string ⟨#[]⟩, .int .i16 0, .int .i8 0, .float .f64 0, .float .f64 0, .bool false, .int .u32 0, .slice none 0 0, .slice A' l2 c'] = R := ⟨_, rfl⟩; have hls : R.size = 11 := (by rw [← hR]; rfl); have hst : Sem.run Tryd.prog (storeCells ⟨w.heap.size + 1 + 1, 0, none⟩ R.toList 0) w3 = .ok () (w3.setRow (w.heap.size + 1 + 1) R) := run_storeCells_from (w.heap.size + 1 + 1) 29 R.toList 0 _ w3 z3 (by simp [hls]) (fun v hv => by rw [← hR] at hv; revert v; simp [Value.oneCell']); have m3 := SpecAt.row n3 (g := w.heap.size + 1 + 1) (by omega) R; have k0 := m3.cells.1; have k1 := m3.cells.2.1; have k10 := m3.cells.2.2.2.2.2.2.2.2.2.2; have Z3 := Aside0.mk z3; have RR := Aside0.mk hR; clear n3 z3 m3))
    · go_wp2_with (fail)
      go_meet
      refine ⟨_, _, rfl, Aside0.mk (World.alloc_heap_new w3 _), Aside0.mk (ho3.alloc _), Aside0.mk (hb3.alloc hb3.size _), Aside0.mk ⟨hb3.size, fun h => ?_⟩⟩
      exact Nat.lt_irrefl _ (ho3.lt _ h).2
    · have hg2 := setRow_heap w3 (w.heap.size + 1 + 1 + 1) _ R 29 (0, 0) Z3.out
      have hne : (Value.slice A' l2 c').ownBlock ≠ some (w.heap.size + 1 + 1 + 1) := fun h => by
        rcases hat3 with he | ⟨b, he, hb⟩
        · rw [he] at h; simp [Value.ownBlock] at h
        · rw [he] at h
          have h' : b = w.heap.size + 1 + 1 + 1 := Option.some.inj h
          have : W2.heap.size + 1 + 1 ≤ b := by
            have hb2 : ((W2.alloc _).alloc _).heap.size ≤ b := hb
            rwa [World.size_alloc, World.size_alloc] at hb2
          omega
      have ho4 : (w3.setRow (w.heap.size + 1 + 1 + 1) R).ownsRow W2.heap.size 3 1 (.slice A' l2 c') l2 (encs (Value.int .i64) ps) := own_move ho3 (fun k hk => setRow_other _ _ _ _ (fun e => hne (by rw [hk, e])))
      go_wp2_with (fail)
      go_meet
      refine ⟨_, _, rfl, Aside0.mk (by unfold SpecAt; rw [RR.out]; exact hg2), Aside0.mk ho4, Aside0.mk (hb3.trans ⟨rfl, rfl, rfl, by rw [setRow_size]; exact Nat.le_refl _, fun i hi => setRow_other _ _ _ _ (by omega)⟩), Aside0.mk ⟨by omega, hne⟩⟩
    · have hg2 := setRow_heap w3 (w.heap.size + 1 + 1) _ R 29 (0, 0) Z3.out
      have hne : (Value.slice A' l2 c').ownBlock ≠ some (w.heap.size + 1 + 1) := fun h => by
        rcases hat3 with he | ⟨b, he, hb⟩
        · rw [he] at h; simp [Value.ownBlock] at h
        · rw [he] at h
          have h' : b = w.heap.size + 1 + 1 := Option.some.inj h
          have : W2.heap.size + 1 + 1 ≤ b := by
            have hb2 : ((W2.alloc _).alloc _).heap.size ≤ b := hb
            rwa [World.size_alloc, World.size_alloc] at hb2
          omega
      have ho4 : (w3.setRow (w.heap.size + 1 + 1) R).ownsRow W2.heap.size 3 1 (.slice A' l2 c') l2 (encs (Value.int .i64) ps) := own_move ho3 (fun k hk => setRow_other _ _ _ _ (fun e => hne (by rw [hk, e])))
      go_wp2_with (fail)
      go_meet
      refine ⟨_, _, rfl, Aside0.mk (by unfold SpecAt; rw [RR.out]; exact hg2), Aside0.mk ho4, Aside0.mk (hb3.trans ⟨rfl, rfl, rfl, by rw [setRow_size]; exact Nat.le_refl _, fun i hi => setRow_other _ _ _ _ (by omega)⟩), Aside0.mk ⟨by omega, hne⟩⟩
  case rest =>
    obtain ⟨g, v, rfl, HS, HV, HB', HG⟩ := hcut
    obtain ⟨A1, c1', rfl⟩ := own_slice HV.out
    clear c0 c1 c10
    have n4 := HN.out.under HB'.out (by omega)
    have r4 := HR.out.under HB'.out (by omega)
    have b4 := HB.out.trans (HB'.out.mono (by omega))
    have gg : w.heap.size + 1 < g := by have := HG.out.1; omega
    have hs3 : W2.heap.size ≤ wc.heap.size := HB'.out.size
    obtain ⟨c0, c1, _, c3, _⟩ := n4.cells
    obtain ⟨_, _, z2, z3, _, _, _, _, _, z9, _⟩ := HS.out.cells
    have y2 := HS.out.free 2
    have y3 := HS.out.free 3
    have y9 := HS.out.free 9
    have hgw : g < wc.heap.size := HS.out.lt
    by_cases h5 : k = 5
    · subst h5
      have s8 : SpecAt g 5 nl ⟨#[0, 0, 0, 0]⟩ 0 0 0 0 false 0 (.slice none 0 0) (.slice A1 l2 c1') (wc.setCell ⟨g, 2, none⟩ (.string ⟨#[0, 0, 0, 0]⟩)) := HS.out.put2 _
      have r8 : SpecAt (w.heap.size + 1) 0 false ⟨#[]⟩ 0 0 0 0 false 0 (.slice none 0 0) (.slice none 0 0) (wc.setCell ⟨g, 2, none⟩ (.string ⟨#[0, 0, 0, 0]⟩)) := r4.other (by show g ≠ w.heap.size + 1; omega) _
      have q8 : (wc.setCell ⟨g, 2, none⟩ (.string ⟨#[0, 0, 0, 0]⟩)).ownsRow (w.heap.size + 2) 9 1 (.slice none 0 0) ([] : List ByteArray).length (encs Value.string []) := World.ownsRow_nil _ _ _ _
      have o8 : (wc.setCell ⟨g, 2, none⟩ (.string ⟨#[0, 0, 0, 0]⟩)).ownsRow (w.heap.size + 2) 3 1 (.slice A1 l2 c1') l2 (encs (Value.int .i64) ps) := ownsRow_setCell_other (own_base HV.out (by omega)) HG.out.2 _
      have bb8 : Below w.heap.size w (wc.setCell ⟨g, 2, none⟩ (.string ⟨#[0, 0, 0, 0]⟩)) := b4.setCell (show w.heap.size ≤ g by omega) _
      have HS8 := Aside0.mk s8
      have HR8 := Aside0.mk r8
      have HQ8 := Aside0.mk q8
      have HO8 := Aside0.mk o8
      have HB8 := Aside0.mk bb8

      clear s8 r8 q8 o8 bb8
      go_upto_region 8 with (fail)
      clear c0 c1 c3 z2 z3 z9 y2 y3 y9
      obtain ⟨W8, hW8⟩ : ∃ W8, wc.setCell ⟨g, 2, none⟩ (.string ⟨#[0, 0, 0, 0]⟩) = W8 := ⟨_, rfl⟩
      have s8 := HS8.out
      have r8 := HR8.out
      have q8 := HQ8.out
      have o8 := HO8.out
      have bb8 := HB8.out
      rw [hW8] at s8 r8 q8 o8 bb8 ⊢
      clear hW8 HS8 HR8 HQ8 HO8 HB8
      obtain ⟨R, hR⟩ : ∃ R : Array Value, #[.int .u8 5, .bool nl, .string ⟨#[0, 0, 0, 0]⟩, .int .i16 0, .int .i8 0, .float .f64 0, .float .f64 0, .bool false, .int .u32 0, .slice none 0 0, .slice A1 l2 c1'] = R := ⟨_, rfl⟩
      obtain ⟨Z, hZ⟩ : ∃ Z : Array Value, #[.int .u8 0, .bool false, .string ⟨#[]⟩, .int .i16 0, .int .i8 0, .float .f64 0, .float .f64 0, .bool false, .int .u32 0, .slice none 0 0, .slice none 0 0] = Z := ⟨_, rfl⟩
      have hone : R.all (·.oneCell') = true := by rw [← hR]; simp [Value.oneCell', Value.cells]
      have hls : R.size = 11 := by rw [← hR]; rfl
      have hZs : Z.size = 11 := by rw [← hZ]; rfl
      have hinf : (Tryd.prog.info? 29).map (·.size) = some 11 := by kernel_rfl
      unfold SpecAt at s8 r8
      rw [hR] at s8
      rw [hZ] at r8
      refine wp_region_list ?_
      refine wpList_load_row rfl 29 _ rfl _ rfl 29 R (0, 0) _ s8 Tryd.underlying29 rfl (by rw [hls]; exact hinf) ?_
      refine wpList_store_row rfl 29 _ _ rfl _ R rfl rfl 29 Z r8 (by rw [hls]; exact hinf) (by rw [hZs, hls]) hone ?_
      have hg2 := setRow_heap W8 (w.heap.size + 1) Z R 29 (0, 0) r8
      have q9 := own_setRow (R := R) q8 (show w.heap.size + 1 < w.heap.size + 2 by omega)
      have o9 := own_setRow (R := R) o8 (show w.heap.size + 1 < w.heap.size + 2 by omega)
      have bb9 : Below w.heap.size w (W8.setRow (w.heap.size + 1) R) := bb8.trans ⟨rfl, rfl, rfl, by rw [setRow_size]; exact Nat.le_refl _, fun i hi => setRow_other _ _ _ _ (by omega)⟩
      obtain ⟨W9, hW9⟩ : ∃ W9, W8.setRow (w.heap.size + 1) R = W9 := ⟨_, rfl⟩
      rw [hW9] at hg2 q9 o9 bb9 ⊢
      have HG2 := Aside0.mk hg2
      have HI := Aside0.mk (show (Tryd.prog.info? 29).map (·.size) = some R.size by rw [hls]; exact hinf)
      have HQ := Aside0.mk q9
      have HO2 := Aside0.mk o9
      have HB2 := Aside0.mk bb9
      have HR2 := Aside0.mk hR
      clear hg2 q9 o9 bb9 hW9 s8 r8 q8 o8 bb8 hinf hone hls hZs hZ hR
      go_wp2
      refine bodyPost_ret (results_cell_row rfl _ W9 (w.heap.size + 1) 29 R (0, 0) _ rfl HG2.out Tryd.underlying29 rfl HI.out) rfl ?_
      have t1 : tB 5 = ⟨#[0, 0, 0, 0]⟩ := by simp [tB]
      have t2 : nB 5 n = 0 := by simp [nB]
      have t3 : iB 5 nl = [] := by simp [iB]
      rw [t1, t2, t3]
      exact ⟨.slice none 0 0, .slice A1 l2 c1', by rw [HR2.out], HQ.out, HO2.out, HB2.out⟩
    · have g5 : (k == 5) = false := by simp [h5]
      by_cases h23 : k = 23
      · subst h23
        have s8 : SpecAt g 23 nl ⟨#[]⟩ n 0 0 0 false 0 (.slice none 0 0) (.slice A1 l2 c1') (wc.setCell ⟨g, 3, none⟩ (.int .i16 n)) := HS.out.put3 _
        have r8 : SpecAt (w.heap.size + 1) 0 false ⟨#[]⟩ 0 0 0 0 false 0 (.slice none 0 0) (.slice none 0 0) (wc.setCell ⟨g, 3, none⟩ (.int .i16 n)) := r4.other (by show g ≠ w.heap.size + 1; omega) _
        have q8 : (wc.setCell ⟨g, 3, none⟩ (.int .i16 n)).ownsRow (w.heap.size + 2) 9 1 (.slice none 0 0) ([] : List ByteArray).length (encs Value.string []) := World.ownsRow_nil _ _ _ _
        have o8 : (wc.setCell ⟨g, 3, none⟩ (.int .i16 n)).ownsRow (w.heap.size + 2) 3 1 (.slice A1 l2 c1') l2 (encs (Value.int .i64) ps) := ownsRow_setCell_other (own_base HV.out (by omega)) HG.out.2 _
        have bb8 : Below w.heap.size w (wc.setCell ⟨g, 3, none⟩ (.int .i16 n)) := b4.setCell (show w.heap.size ≤ g by omega) _
        have HS8 := Aside0.mk s8
        have HR8 := Aside0.mk r8
        have HQ8 := Aside0.mk q8
        have HO8 := Aside0.mk o8
        have HB8 := Aside0.mk bb8

        clear s8 r8 q8 o8 bb8
        go_upto_region 8 with (fail)
        clear c0 c1 c3 z2 z3 z9 y2 y3 y9
        obtain ⟨W8, hW8⟩ : ∃ W8, wc.setCell ⟨g, 3, none⟩ (.int .i16 n) = W8 := ⟨_, rfl⟩
        have s8 := HS8.out
        have r8 := HR8.out
        have q8 := HQ8.out
        have o8 := HO8.out
        have bb8 := HB8.out
        rw [hW8] at s8 r8 q8 o8 bb8 ⊢
        clear hW8 HS8 HR8 HQ8 HO8 HB8
        obtain ⟨R, hR⟩ : ∃ R : Array Value, #[.int .u8 23, .bool nl, .string ⟨#[]⟩, .int .i16 n, .int .i8 0, .float .f64 0, .float .f64 0, .bool false, .int .u32 0, .slice none 0 0, .slice A1 l2 c1'] = R := ⟨_, rfl⟩
        obtain ⟨Z, hZ⟩ : ∃ Z : Array Value, #[.int .u8 0, .bool false, .string ⟨#[]⟩, .int .i16 0, .int .i8 0, .float .f64 0, .float .f64 0, .bool false, .int .u32 0, .slice none 0 0, .slice none 0 0] = Z := ⟨_, rfl⟩
        have hone : R.all (·.oneCell') = true := by rw [← hR]; simp [Value.oneCell', Value.cells]
        have hls : R.size = 11 := by rw [← hR]; rfl
        have hZs : Z.size = 11 := by rw [← hZ]; rfl
        have hinf : (Tryd.prog.info? 29).map (·.size) = some 11 := by kernel_rfl
        unfold SpecAt at s8 r8
        rw [hR] at s8
        rw [hZ] at r8
        refine wp_region_list ?_
        refine wpList_load_row rfl 29 _ rfl _ rfl 29 R (0, 0) _ s8 Tryd.underlying29 rfl (by rw [hls]; exact hinf) ?_
        refine wpList_store_row rfl 29 _ _ rfl _ R rfl rfl 29 Z r8 (by rw [hls]; exact hinf) (by rw [hZs, hls]) hone ?_
        have hg2 := setRow_heap W8 (w.heap.size + 1) Z R 29 (0, 0) r8
        have q9 := own_setRow (R := R) q8 (show w.heap.size + 1 < w.heap.size + 2 by omega)
        have o9 := own_setRow (R := R) o8 (show w.heap.size + 1 < w.heap.size + 2 by omega)
        have bb9 : Below w.heap.size w (W8.setRow (w.heap.size + 1) R) := bb8.trans ⟨rfl, rfl, rfl, by rw [setRow_size]; exact Nat.le_refl _, fun i hi => setRow_other _ _ _ _ (by omega)⟩
        obtain ⟨W9, hW9⟩ : ∃ W9, W8.setRow (w.heap.size + 1) R = W9 := ⟨_, rfl⟩
        rw [hW9] at hg2 q9 o9 bb9 ⊢
        have HG2 := Aside0.mk hg2
        have HI := Aside0.mk (show (Tryd.prog.info? 29).map (·.size) = some R.size by rw [hls]; exact hinf)
        have HQ := Aside0.mk q9
        have HO2 := Aside0.mk o9
        have HB2 := Aside0.mk bb9
        have HR2 := Aside0.mk hR
        clear hg2 q9 o9 bb9 hW9 s8 r8 q8 o8 bb8 hinf hone hls hZs hZ hR
        go_wp2
        refine bodyPost_ret (results_cell_row rfl _ W9 (w.heap.size + 1) 29 R (0, 0) _ rfl HG2.out Tryd.underlying29 rfl HI.out) rfl ?_
        have t1 : tB 23 = ⟨#[]⟩ := by simp [tB]
        have t2 : nB 23 n = n := by simp [nB]
        have t3 : iB 23 nl = [] := by simp [iB]
        rw [t1, t2, t3]
        exact ⟨.slice none 0 0, .slice A1 l2 c1', by rw [HR2.out], HQ.out, HO2.out, HB2.out⟩
      · have g23 : (k == 23) = false := by simp [h23]
        by_cases h26 : k = 26
        · subst h26
          cases nl with
          | true =>
            have s8 : SpecAt g 26 true ⟨#[]⟩ 0 0 0 0 false 0 (.slice none 0 0) (.slice A1 l2 c1') (wc) := HS.out
            have r8 : SpecAt (w.heap.size + 1) 0 false ⟨#[]⟩ 0 0 0 0 false 0 (.slice none 0 0) (.slice none 0 0) (wc) := r4
            have q8 : (wc).ownsRow (w.heap.size + 2) 9 1 (.slice none 0 0) ([] : List ByteArray).length (encs Value.string []) := World.ownsRow_nil _ _ _ _
            have o8 : (wc).ownsRow (w.heap.size + 2) 3 1 (.slice A1 l2 c1') l2 (encs (Value.int .i64) ps) := own_base HV.out (by omega)
            have bb8 : Below w.heap.size w (wc) := b4
            have HS8 := Aside0.mk s8
            have HR8 := Aside0.mk r8
            have HQ8 := Aside0.mk q8
            have HO8 := Aside0.mk o8
            have HB8 := Aside0.mk bb8

            clear s8 r8 q8 o8 bb8
            go_upto_region 8 with (fail)
            clear c0 c1 c3 z2 z3 z9 y2 y3 y9
            obtain ⟨W8, hW8⟩ : ∃ W8, wc = W8 := ⟨_, rfl⟩
            have s8 := HS8.out
            have r8 := HR8.out
            have q8 := HQ8.out
            have o8 := HO8.out
            have bb8 := HB8.out
            rw [hW8] at s8 r8 q8 o8 bb8 ⊢
            clear hW8 HS8 HR8 HQ8 HO8 HB8
            obtain ⟨R, hR⟩ : ∃ R : Array Value, #[.int .u8 26, .bool true, .string ⟨#[]⟩, .int .i16 0, .int .i8 0, .float .f64 0, .float .f64 0, .bool false, .int .u32 0, .slice none 0 0, .slice A1 l2 c1'] = R := ⟨_, rfl⟩
            obtain ⟨Z, hZ⟩ : ∃ Z : Array Value, #[.int .u8 0, .bool false, .string ⟨#[]⟩, .int .i16 0, .int .i8 0, .float .f64 0, .float .f64 0, .bool false, .int .u32 0, .slice none 0 0, .slice none 0 0] = Z := ⟨_, rfl⟩
            have hone : R.all (·.oneCell') = true := by rw [← hR]; simp [Value.oneCell', Value.cells]
            have hls : R.size = 11 := by rw [← hR]; rfl
            have hZs : Z.size = 11 := by rw [← hZ]; rfl
            have hinf : (Tryd.prog.info? 29).map (·.size) = some 11 := by kernel_rfl
            unfold SpecAt at s8 r8
            rw [hR] at s8
            rw [hZ] at r8
            refine wp_region_list ?_
            refine wpList_load_row rfl 29 _ rfl _ rfl 29 R (0, 0) _ s8 Tryd.underlying29 rfl (by rw [hls]; exact hinf) ?_
            refine wpList_store_row rfl 29 _ _ rfl _ R rfl rfl 29 Z r8 (by rw [hls]; exact hinf) (by rw [hZs, hls]) hone ?_
            have hg2 := setRow_heap W8 (w.heap.size + 1) Z R 29 (0, 0) r8
            have q9 := own_setRow (R := R) q8 (show w.heap.size + 1 < w.heap.size + 2 by omega)
            have o9 := own_setRow (R := R) o8 (show w.heap.size + 1 < w.heap.size + 2 by omega)
            have bb9 : Below w.heap.size w (W8.setRow (w.heap.size + 1) R) := bb8.trans ⟨rfl, rfl, rfl, by rw [setRow_size]; exact Nat.le_refl _, fun i hi => setRow_other _ _ _ _ (by omega)⟩
            obtain ⟨W9, hW9⟩ : ∃ W9, W8.setRow (w.heap.size + 1) R = W9 := ⟨_, rfl⟩
            rw [hW9] at hg2 q9 o9 bb9 ⊢
            have HG2 := Aside0.mk hg2
            have HI := Aside0.mk (show (Tryd.prog.info? 29).map (·.size) = some R.size by rw [hls]; exact hinf)
            have HQ := Aside0.mk q9
            have HO2 := Aside0.mk o9
            have HB2 := Aside0.mk bb9
            have HR2 := Aside0.mk hR
            clear hg2 q9 o9 bb9 hW9 s8 r8 q8 o8 bb8 hinf hone hls hZs hZ hR
            go_wp2
            refine bodyPost_ret (results_cell_row rfl _ W9 (w.heap.size + 1) 29 R (0, 0) _ rfl HG2.out Tryd.underlying29 rfl HI.out) rfl ?_
            have t1 : tB 26 = ⟨#[]⟩ := by simp [tB]
            have t2 : nB 26 n = 0 := by simp [nB]
            have t3 : iB 26 true = [] := by simp [iB]
            rw [t1, t2, t3]
            exact ⟨.slice none 0 0, .slice A1 l2 c1', by rw [HR2.out], HQ.out, HO2.out, HB2.out⟩
          | false =>
            have s8 : SpecAt g 26 false ⟨#[]⟩ 0 0 0 0 false 0 (.slice (some ⟨wc.heap.size, 0, none⟩) 1 1) (.slice A1 l2 c1') ((wc.setCell ⟨g, 9, none⟩ (.slice (some ⟨wc.heap.size, 0, none⟩) 1 1)).alloc (.cells #[.string ⟨#[111, 112, 97, 113, 117, 101]⟩] 9)) := (HS.out.put9 _).next ((Below.refl (wc.setCell ⟨g, 9, none⟩ (.slice (some ⟨wc.heap.size, 0, none⟩) 1 1)).heap.size (wc.setCell ⟨g, 9, none⟩ (.slice (some ⟨wc.heap.size, 0, none⟩) 1 1))).alloc (Nat.le_refl _) (.cells #[.string ⟨#[111, 112, 97, 113, 117, 101]⟩] 9))
            have r8 : SpecAt (w.heap.size + 1) 0 false ⟨#[]⟩ 0 0 0 0 false 0 (.slice none 0 0) (.slice none 0 0) ((wc.setCell ⟨g, 9, none⟩ (.slice (some ⟨wc.heap.size, 0, none⟩) 1 1)).alloc (.cells #[.string ⟨#[111, 112, 97, 113, 117, 101]⟩] 9)) := (r4.other (by show g ≠ w.heap.size + 1; omega) _).next ((Below.refl (wc.setCell ⟨g, 9, none⟩ (.slice (some ⟨wc.heap.size, 0, none⟩) 1 1)).heap.size (wc.setCell ⟨g, 9, none⟩ (.slice (some ⟨wc.heap.size, 0, none⟩) 1 1))).alloc (Nat.le_refl _) (.cells #[.string ⟨#[111, 112, 97, 113, 117, 101]⟩] 9))
            have q8 : ((wc.setCell ⟨g, 9, none⟩ (.slice (some ⟨wc.heap.size, 0, none⟩) 1 1)).alloc (.cells #[.string ⟨#[111, 112, 97, 113, 117, 101]⟩] 9)).ownsRow (w.heap.size + 2) 9 1 (.slice (some ⟨wc.heap.size, 0, none⟩) 1 1) ([⟨#[111, 112, 97, 113, 117, 101]⟩] : List ByteArray).length (encs Value.string [⟨#[111, 112, 97, 113, 117, 101]⟩]) := ⟨rfl, .inr ⟨wc.heap.size, 1, #[.string ⟨#[111, 112, 97, 113, 117, 101]⟩], rfl, by omega, (by have := World.alloc_heap_new (wc.setCell ⟨g, 9, none⟩ (.slice (some ⟨wc.heap.size, 0, none⟩) 1 1)) (.cells #[.string ⟨#[111, 112, 97, 113, 117, 101]⟩] 9); rw [World.size_setCell] at this; exact this), Nat.le_refl _, by decide, rfl, rfl⟩⟩
            have o8 : ((wc.setCell ⟨g, 9, none⟩ (.slice (some ⟨wc.heap.size, 0, none⟩) 1 1)).alloc (.cells #[.string ⟨#[111, 112, 97, 113, 117, 101]⟩] 9)).ownsRow (w.heap.size + 2) 3 1 (.slice A1 l2 c1') l2 (encs (Value.int .i64) ps) := (ownsRow_setCell_other (own_base HV.out (by omega)) HG.out.2 _).alloc _
            have bb8 : Below w.heap.size w ((wc.setCell ⟨g, 9, none⟩ (.slice (some ⟨wc.heap.size, 0, none⟩) 1 1)).alloc (.cells #[.string ⟨#[111, 112, 97, 113, 117, 101]⟩] 9)) := (b4.setCell (show w.heap.size ≤ g by omega) _).alloc (by rw [World.size_setCell]; omega) _
            have HS8 := Aside0.mk s8
            have HR8 := Aside0.mk r8
            have HQ8 := Aside0.mk q8
            have HO8 := Aside0.mk o8
            have HB8 := Aside0.mk bb8

            clear s8 r8 q8 o8 bb8
            go_upto_region 8 with (fail)
            clear c0 c1 c3 z2 z3 z9 y2 y3 y9
            obtain ⟨W8, hW8⟩ : ∃ W8, (wc.setCell ⟨g, 9, none⟩ (.slice (some ⟨wc.heap.size, 0, none⟩) 1 1)).alloc (.cells #[.string ⟨#[111, 112, 97, 113, 117, 101]⟩] 9) = W8 := ⟨_, rfl⟩
            have s8 := HS8.out
            have r8 := HR8.out
            have q8 := HQ8.out
            have o8 := HO8.out
            have bb8 := HB8.out
            rw [hW8] at s8 r8 q8 o8 bb8 ⊢
            clear hW8 HS8 HR8 HQ8 HO8 HB8
            obtain ⟨R, hR⟩ : ∃ R : Array Value, #[.int .u8 26, .bool false, .string ⟨#[]⟩, .int .i16 0, .int .i8 0, .float .f64 0, .float .f64 0, .bool false, .int .u32 0, .slice (some ⟨wc.heap.size, 0, none⟩) 1 1, .slice A1 l2 c1'] = R := ⟨_, rfl⟩
            obtain ⟨Z, hZ⟩ : ∃ Z : Array Value, #[.int .u8 0, .bool false, .string ⟨#[]⟩, .int .i16 0, .int .i8 0, .float .f64 0, .float .f64 0, .bool false, .int .u32 0, .slice none 0 0, .slice none 0 0] = Z := ⟨_, rfl⟩
            have hone : R.all (·.oneCell') = true := by rw [← hR]; simp [Value.oneCell', Value.cells]
            have hls : R.size = 11 := by rw [← hR]; rfl
            have hZs : Z.size = 11 := by rw [← hZ]; rfl
            have hinf : (Tryd.prog.info? 29).map (·.size) = some 11 := by kernel_rfl
            unfold SpecAt at s8 r8
            rw [hR] at s8
            rw [hZ] at r8
            refine wp_region_list ?_
            refine wpList_load_row rfl 29 _ rfl _ rfl 29 R (0, 0) _ s8 Tryd.underlying29 rfl (by rw [hls]; exact hinf) ?_
            refine wpList_store_row rfl 29 _ _ rfl _ R rfl rfl 29 Z r8 (by rw [hls]; exact hinf) (by rw [hZs, hls]) hone ?_
            have hg2 := setRow_heap W8 (w.heap.size + 1) Z R 29 (0, 0) r8
            have q9 := own_setRow (R := R) q8 (show w.heap.size + 1 < w.heap.size + 2 by omega)
            have o9 := own_setRow (R := R) o8 (show w.heap.size + 1 < w.heap.size + 2 by omega)
            have bb9 : Below w.heap.size w (W8.setRow (w.heap.size + 1) R) := bb8.trans ⟨rfl, rfl, rfl, by rw [setRow_size]; exact Nat.le_refl _, fun i hi => setRow_other _ _ _ _ (by omega)⟩
            obtain ⟨W9, hW9⟩ : ∃ W9, W8.setRow (w.heap.size + 1) R = W9 := ⟨_, rfl⟩
            rw [hW9] at hg2 q9 o9 bb9 ⊢
            have HG2 := Aside0.mk hg2
            have HI := Aside0.mk (show (Tryd.prog.info? 29).map (·.size) = some R.size by rw [hls]; exact hinf)
            have HQ := Aside0.mk q9
            have HO2 := Aside0.mk o9
            have HB2 := Aside0.mk bb9
            have HR2 := Aside0.mk hR
            clear hg2 q9 o9 bb9 hW9 s8 r8 q8 o8 bb8 hinf hone hls hZs hZ hR
            go_wp2
            refine bodyPost_ret (results_cell_row rfl _ W9 (w.heap.size + 1) 29 R (0, 0) _ rfl HG2.out Tryd.underlying29 rfl HI.out) rfl ?_
            have t1 : tB 26 = ⟨#[]⟩ := by simp [tB]
            have t2 : nB 26 n = 0 := by simp [nB]
            have t3 : iB 26 false = [⟨#[111, 112, 97, 113, 117, 101]⟩] := by simp [iB]
            rw [t1, t2, t3]
            exact ⟨.slice (some ⟨wc.heap.size, 0, none⟩) 1 1, .slice A1 l2 c1', by rw [HR2.out], HQ.out, HO2.out, HB2.out⟩
        · have g26 : (k == 26) = false := by simp [h26]
          have s8 : SpecAt g k nl ⟨#[]⟩ 0 0 0 0 false 0 (.slice none 0 0) (.slice A1 l2 c1') (wc) := HS.out
          have r8 : SpecAt (w.heap.size + 1) 0 false ⟨#[]⟩ 0 0 0 0 false 0 (.slice none 0 0) (.slice none 0 0) (wc) := r4
          have q8 : (wc).ownsRow (w.heap.size + 2) 9 1 (.slice none 0 0) ([] : List ByteArray).length (encs Value.string []) := World.ownsRow_nil _ _ _ _
          have o8 : (wc).ownsRow (w.heap.size + 2) 3 1 (.slice A1 l2 c1') l2 (encs (Value.int .i64) ps) := own_base HV.out (by omega)
          have bb8 : Below w.heap.size w (wc) := b4
          have HS8 := Aside0.mk s8
          have HR8 := Aside0.mk r8
          have HQ8 := Aside0.mk q8
          have HO8 := Aside0.mk o8
          have HB8 := Aside0.mk bb8

          clear s8 r8 q8 o8 bb8
          go_upto_region 8 with (fail)
          clear c0 c1 c3 z2 z3 z9 y2 y3 y9
          obtain ⟨W8, hW8⟩ : ∃ W8, wc = W8 := ⟨_, rfl⟩
          have s8 := HS8.out
          have r8 := HR8.out
          have q8 := HQ8.out
          have o8 := HO8.out
          have bb8 := HB8.out
          rw [hW8] at s8 r8 q8 o8 bb8 ⊢
          clear hW8 HS8 HR8 HQ8 HO8 HB8
          obtain ⟨R, hR⟩ : ∃ R : Array Value, #[.int .u8 k, .bool nl, .string ⟨#[]⟩, .int .i16 0, .int .i8 0, .float .f64 0, .float .f64 0, .bool false, .int .u32 0, .slice none 0 0, .slice A1 l2 c1'] = R := ⟨_, rfl⟩
          obtain ⟨Z, hZ⟩ : ∃ Z : Array Value, #[.int .u8 0, .bool false, .string ⟨#[]⟩, .int .i16 0, .int .i8 0, .float .f64 0, .float .f64 0, .bool false, .int .u32 0, .slice none 0 0, .slice none 0 0] = Z := ⟨_, rfl⟩
          have hone : R.all (·.oneCell') = true := by rw [← hR]; simp [Value.oneCell', Value.cells]
          have hls : R.size = 11 := by rw [← hR]; rfl
          have hZs : Z.size = 11 := by rw [← hZ]; rfl
          have hinf : (Tryd.prog.info? 29).map (·.size) = some 11 := by kernel_rfl
          unfold SpecAt at s8 r8
          rw [hR] at s8
          rw [hZ] at r8
          refine wp_region_list ?_
          refine wpList_load_row rfl 29 _ rfl _ rfl 29 R (0, 0) _ s8 Tryd.underlying29 rfl (by rw [hls]; exact hinf) ?_
          refine wpList_store_row rfl 29 _ _ rfl _ R rfl rfl 29 Z r8 (by rw [hls]; exact hinf) (by rw [hZs, hls]) hone ?_
          have hg2 := setRow_heap W8 (w.heap.size + 1) Z R 29 (0, 0) r8
          have q9 := own_setRow (R := R) q8 (show w.heap.size + 1 < w.heap.size + 2 by omega)
          have o9 := own_setRow (R := R) o8 (show w.heap.size + 1 < w.heap.size + 2 by omega)
          have bb9 : Below w.heap.size w (W8.setRow (w.heap.size + 1) R) := bb8.trans ⟨rfl, rfl, rfl, by rw [setRow_size]; exact Nat.le_refl _, fun i hi => setRow_other _ _ _ _ (by omega)⟩
          obtain ⟨W9, hW9⟩ : ∃ W9, W8.setRow (w.heap.size + 1) R = W9 := ⟨_, rfl⟩
          rw [hW9] at hg2 q9 o9 bb9 ⊢
          have HG2 := Aside0.mk hg2
          have HI := Aside0.mk (show (Tryd.prog.info? 29).map (·.size) = some R.size by rw [hls]; exact hinf)
          have HQ := Aside0.mk q9
          have HO2 := Aside0.mk o9
          have HB2 := Aside0.mk bb9
          have HR2 := Aside0.mk hR
          clear hg2 q9 o9 bb9 hW9 s8 r8 q8 o8 bb8 hinf hone hls hZs hZ hR
          go_wp2
          refine bodyPost_ret (results_cell_row rfl _ W9 (w.heap.size + 1) 29 R (0, 0) _ rfl HG2.out Tryd.underlying29 rfl HI.out) rfl ?_
          have t1 : tB k = ⟨#[]⟩ := by simp [tB, h5]
          have t2 : nB k n = 0 := by simp [nB, h23]
          have t3 : iB k nl = [] := by simp [iB, h26]
          rw [t1, t2, t3]
          exact ⟨.slice none 0 0, .slice A1 l2 c1', by rw [HR2.out], HQ.out, HO2.out, HB2.out⟩
end Go.Proofs.YtijdlpbkmlplgaaDoor.TW
