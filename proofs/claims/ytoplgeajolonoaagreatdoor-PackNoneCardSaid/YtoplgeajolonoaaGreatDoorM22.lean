/- Encode Encode2 Encode3 -/
import Derived.Test.YtoplgeajolonoaaGreatDoorM21
import Derived.Maps.OwnSet
import Derived.WalkSpells
section
/- pack.Encode: of no book, no registry, an absent handle, of nothing; pack.Decode of the bytes of nothing. -/
set_option linter.unusedVariables false
set_option linter.unusedSimpArgs false
namespace Go.Proofs.YtoplgeajolonoaaGreatDoor.PK
open Go.RowKit Go.Maps Go.Proofs.YtoplgeajolonoaaGreatDoorW.PrintWords Go.Proofs.YtoplgeajolonoaaGreatDoorW.PrintMore Go.Proofs.YtoplgeajolonoaaGreatDoor.TF Go.Proofs.YtoplgeajolonoaaGreatDoor.TK

theorem at_far (b : Nat) (W : World) (h : Bk b (.slice none 0 0) [] W) : Calls Tryz.prog 35 #[.pointer (some ⟨b, 0, none⟩), .int .i64 9] W fun e w' => e = .returned (.tuple #[.pointer (some ⟨W.heap.size, 0, none⟩), .int .i64 50]) ∧ w' = W.alloc (.cells row0 106) := by
  have hc := h.cell
  clear h
  unfold row0
  go_enter Tryz.func35, Tryz.ntmps35
  go_wp2
  go_ret2
  exact ⟨rfl, rfl⟩
theorem error_far (b : Nat) (W : World) (h : Bk b (.slice none 0 0) [] W) : Calls Tryz.prog 22 #[.pointer (some ⟨b, 0, none⟩), .int .i64 9] W fun e w' => e = .returned (.tuple #[.nilIface, .int .i64 50]) ∧ Below W.heap.size W w' := by
  have hx := ((Blk.new W 106 row0).cell 0).trans (rfl : _ = some Value.nilIface)
  have hb := Aside0.mk ((Below.refl W.heap.size W).alloc (Nat.le_refl _) (.cells row0 106))
  have HA := Aside0.mk (at_far b W h)
  obtain ⟨V, hV⟩ : ∃ V, W.alloc (.cells row0 106) = V := ⟨_, rfl⟩
  rw [hV] at HA hx hb
  clear h hV
  go_enter Tryz.func22, Tryz.ntmps22
  go_wp2_with (go_at_call 35; (with_reducible refine HA.out.mono ?_); rintro e w' ⟨rfl, rfl⟩)
  go_ret2
  exact ⟨rfl, hb.out⟩
theorem error_zero (b : Nat) (W : World) : Calls Tryz.prog 22 #[.pointer (some ⟨b, 0, none⟩), .int .i64 0] W fun e w' => e = .returned (.tuple #[.nilIface, .int .i64 0]) ∧ Below W.heap.size W w' := by
  have hx := ((Blk.new W 106 row0).cell 0).trans (rfl : _ = some Value.nilIface)
  have hb := Aside0.mk ((Below.refl W.heap.size W).alloc (Nat.le_refl _) (.cells row0 106))
  have HA := Aside0.mk (at_zero b W)
  obtain ⟨V, hV⟩ : ∃ V, W.alloc (.cells row0 106) = V := ⟨_, rfl⟩
  rw [hV] at HA hx hb
  clear hV
  go_enter Tryz.func22, Tryz.ntmps22
  go_wp2_with (go_at_call 35; (with_reducible refine HA.out.mono ?_); rintro e w' ⟨rfl, rfl⟩)
  go_ret2
  exact ⟨rfl, hb.out⟩
theorem encode_nil1 (g : Nat) (h : Int) (w : World) : Calls Tryz.prog 8 #[.pointer none, .pointer (some ⟨g, 0, none⟩), .int .i64 h] w fun e w' => e = .returned (.tuple #[.string ⟨#[]⟩, .int .i64 2]) ∧ Below w.heap.size w w' := by
  have b1 := (Below.refl w.heap.size w).alloc (Nat.le_refl _) (.cells #[.pointer none] 22)
  have HB := Aside0.mk (b1.alloc b1.size (.cells #[.pointer (some ⟨g, 0, none⟩)] 24))
  clear b1
  go_enter Tryz.func8, Tryz.ntmps8
  go_wp2_with (fail)
  go_ret2
  exact ⟨rfl, HB.out⟩
theorem encode_nil2 (b : Nat) (h : Int) (w : World) : Calls Tryz.prog 8 #[.pointer (some ⟨b, 0, none⟩), .pointer none, .int .i64 h] w fun e w' => e = .returned (.tuple #[.string ⟨#[]⟩, .int .i64 2]) ∧ Below w.heap.size w w' := by
  have b1 := (Below.refl w.heap.size w).alloc (Nat.le_refl _) (.cells #[.pointer (some ⟨b, 0, none⟩)] 22)
  have HB := Aside0.mk (b1.alloc b1.size (.cells #[.pointer none] 24))
  clear b1
  go_enter Tryz.func8, Tryz.ntmps8
  go_wp2_with (fail)
  go_ret2
  exact ⟨rfl, HB.out⟩
theorem map_keyed : Keyed Tryz.prog 3 := int_keyed Tryz.underlying3
theorem map_zero (w : World) : (zeroValue 3).run Tryz.prog w = .ok (.int .i64 0) w := by kernel_rfl
/-- what lay captures -/
def ecaps_ (n M : Nat) : Array Value := #[.pointer (some ⟨M + 2, 0, none⟩), .pointer (some ⟨n, 0, none⟩), .pointer (some ⟨M + 3, 0, none⟩), .pointer (some ⟨n + 1, 0, none⟩), .pointer (some ⟨M, 0, none⟩)]
/-- what Encode's variables hold when lay is called -/
structure Lay (b g n M : Nat) (W : World) : Prop where
  bv : Blk W n 22 #[.pointer (some ⟨b, 0, none⟩)]
  rv : Blk W (n + 1) 24 #[.pointer (some ⟨g, 0, none⟩)]
  lv : Blk W M 46 #[.slice none 0 0]
  mp : W.ownsMap (H := Nat) Tryz.prog 3 (plainElem Tryz.prog 3) (M + 1) 0 (.map [])
  av : Blk W (M + 2) 81 #[.map (some (M + 1))]
  yv : Blk W (M + 3) 82 #[.func (.func 23) #[] (ecaps_ n M)]
theorem Lay.c {b g n M : Nat} {W : World} (h : Lay b g n M W) : W.cell? ⟨n, 0, none⟩ = some (.pointer (some ⟨b, 0, none⟩)) ∧ W.cell? ⟨n + 1, 0, none⟩ = some (.pointer (some ⟨g, 0, none⟩)) ∧ W.cell? ⟨M, 0, none⟩ = some (.slice none 0 0) ∧ W.cell? ⟨M + 2, 0, none⟩ = some (.map (some (M + 1))) ∧ W.cell? ⟨M + 3, 0, none⟩ = some (.func (.func 23) #[] (ecaps_ n M)) :=
  ⟨(h.bv.cell 0).trans rfl, (h.rv.cell 0).trans rfl, (h.lv.cell 0).trans rfl, (h.av.cell 0).trans rfl, (h.yv.cell 0).trans rfl⟩
set_option maxRecDepth 100000 in
set_option maxHeartbeats 1600000 in
/-- nothing to lay of handle 0 -/
theorem lay_zero (b g n M : Nat) (w : World) (h : Lay b g n M w) :
    Calls Tryz.prog 23 (#[.int .i64 0] ++ ecaps_ n M) w fun e w' => e = .returned (.int .i64 0) ∧ w' = w := by
  have hkey := keyOf_int_mk Tryz.underlying3 (show (Lit.int .i64 0).wf = true by decide)
  obtain ⟨c0, c1, c2, c3, c4⟩ := h.c
  have hm := h.mp
  clear h
  unfold ecaps_
  go_enter Tryz.func23, Tryz.ntmps23
  go_wp2_with (at_lookup; refine wpList_lookup_own_ok_int _ rfl _ _ 81 rfl 3 3 .i64 map_keyed Tryz.underlying81 Tryz.underlying3 (map_zero _) (M + 1) 0 (.map []) rfl hm _ _ rfl hkey ?_; intro c hat hwc)
  go_ret
  exact ⟨rfl, rfl⟩
theorem info82 : (Tryz.prog.info? 82).map (·.size) = some 1 := by kernel_rfl
/-- Encode's start, as far as lay's call -/
theorem lay_made (b g n : Nat) (w3 : World) (hb : Blk w3 n 22 #[.pointer (some ⟨b, 0, none⟩)]) (hr : Blk w3 (n + 1) 24 #[.pointer (some ⟨g, 0, none⟩)]) {M : Nat} (hM : w3.heap.size = M) :
    ∃ X4 X5, ((w3.alloc (.cells #[.slice none 0 0] 46)).alloc (.map #[] 0)).alloc (.cells #[.map (some (M + 1))] 81) = X4 ∧ (X4.alloc (.cells #[.nilFunc] 82)).setRow (M + 3) #[.func (.func 23) #[] (ecaps_ n M)] = X5 ∧
      Blk (X4.alloc (.cells #[.nilFunc] 82)) (M + 3) 82 #[.nilFunc] ∧ X4.heap.size = M + 3 ∧ Lay b g n M X5 ∧ Below M w3 X5 := by
  obtain ⟨X1, hX1⟩ : ∃ X, w3.alloc (.cells #[.slice none 0 0] 46) = X := ⟨_, rfl⟩
  obtain ⟨X2, hX2⟩ : ∃ X, X1.alloc (.map #[] 0) = X := ⟨_, rfl⟩
  obtain ⟨X3, hX3⟩ : ∃ X, X2.alloc (.cells #[.map (some (M + 1))] 81) = X := ⟨_, rfl⟩
  obtain ⟨X4, hX4⟩ : ∃ X, X3.alloc (.cells #[.nilFunc] 82) = X := ⟨_, rfl⟩
  obtain ⟨X5, hX5⟩ : ∃ X, X4.setRow (M + 3) #[.func (.func 23) #[] (ecaps_ n M)] = X := ⟨_, rfl⟩
  have s1 : X1.heap.size = M + 1 := by rw [← hX1, World.size_alloc, hM]
  have s2 : X2.heap.size = M + 2 := by rw [← hX2, World.size_alloc, s1]
  have s3 : X3.heap.size = M + 3 := by rw [← hX3, World.size_alloc, s2]
  have y1 : Below w3.heap.size w3 X1 := by rw [← hX1]; exact (Below.refl _ w3).alloc (Nat.le_refl _) _
  have y2 : Below X1.heap.size X1 X2 := by rw [← hX2]; exact (Below.refl _ X1).alloc (Nat.le_refl _) _
  have y3 : Below X2.heap.size X2 X3 := by rw [← hX3]; exact (Below.refl _ X2).alloc (Nat.le_refl _) _
  have y4 : Below X3.heap.size X3 X4 := by rw [← hX4]; exact (Below.refl _ X3).alloc (Nat.le_refl _) _
  have y5 : Below X3.heap.size X4 X5 := by rw [← hX5, s3]; exact ⟨rfl, rfl, rfl, by rw [setRow_size]; exact Nat.le_refl _, fun i hi => setRow_other _ _ _ _ (by omega)⟩
  have z1 := Blk.new w3 46 #[.slice none 0 0]
  rw [hX1, hM] at z1
  have m2 := World.ownsMap_made (H := Nat) X1 Tryz.prog 3 (plainElem Tryz.prog 3)
  rw [hX2, s1] at m2
  have z3 := Blk.new X2 81 #[.map (some (M + 1))]
  rw [hX3, s2] at z3
  have z4 := Blk.new X3 82 #[.nilFunc]
  rw [hX4, s3] at z4
  have z5 : Blk X5 (M + 3) 82 #[.func (.func 23) #[] (ecaps_ n M)] := by rw [← hX5]; exact setRow_heap _ (M + 3) _ _ 82 (0, 0) z4
  have y45 : Below X3.heap.size X3 X5 := y4.trans y5
  have m5 : X5.ownsMap (H := Nat) Tryz.prog 3 (plainElem Tryz.prog 3) (M + 1) 0 (.map []) := by
    have m4 := (m2.alloc (.cells #[.map (some (M + 1))] 81)).alloc (.cells #[.nilFunc] 82)
    rw [hX3, hX4] at m4
    refine m4.kept (row := some (M + 3)) ⟨?_, ?_, ?_, ?_, ?_⟩ (by simp)
    · rw [← hX5]; rfl
    · rw [← hX5]; rfl
    · rw [← hX5]; rfl
    · rw [← hX5, setRow_size]; exact Nat.le_refl _
    · intro k hk hne
      rw [← hX5]
      exact setRow_other _ _ _ _ (fun e => hne (by rw [e]))
  refine ⟨X3, X5, by rw [hX1, hX2, hX3], by rw [hX4]; exact hX5, by rw [hX4]; exact z4, s3, ⟨?_, ?_, ?_, m5, z3.next y45, z5⟩, ?_⟩
  · exact (((hb.next y1).next y2).next y3).next y45
  · exact (((hr.next y1).next y2).next y3).next y45
  · exact ((z1.next y2).next y3).next y45
  · exact (((hM ▸ y1).trans (y2.mono (by omega))).trans (y3.mono (by omega))).trans (y45.mono (by omega))
end Go.Proofs.YtoplgeajolonoaaGreatDoor.PK
end
section
/- pack.Encode of an absent handle, of nothing. -/
set_option linter.unusedVariables false
set_option linter.unusedSimpArgs false
namespace Go.Proofs.YtoplgeajolonoaaGreatDoor.PK
open Go.RowKit Go.Maps Go.Proofs.YtoplgeajolonoaaGreatDoorW.PrintWords Go.Proofs.YtoplgeajolonoaaGreatDoorW.PrintMore Go.Proofs.YtoplgeajolonoaaGreatDoor.TF Go.Proofs.YtoplgeajolonoaaGreatDoor.TK

/-- the two parameters moved into variables -/
theorem enc_start (b g : Nat) (w : World) : ∃ U, (w.alloc (.cells #[.pointer (some ⟨b, 0, none⟩)] 22)).alloc (.cells #[.pointer (some ⟨g, 0, none⟩)] 24) = U ∧
    Blk U w.heap.size 22 #[.pointer (some ⟨b, 0, none⟩)] ∧ Blk U (w.heap.size + 1) 24 #[.pointer (some ⟨g, 0, none⟩)] ∧ Below w.heap.size w U ∧ U.heap.size = w.heap.size + 2 := by
  refine ⟨_, rfl, ?_, ?_, ?_, ?_⟩
  · exact (Blk.new w _ _).next ((Below.refl _ _).alloc (Nat.le_refl _) _)
  · have h := Blk.new (w.alloc (.cells #[.pointer (some ⟨b, 0, none⟩)] 22)) 24 #[.pointer (some ⟨g, 0, none⟩)]
    rw [World.size_alloc] at h
    exact h
  · exact ((Below.refl _ w).alloc (Nat.le_refl _) _).alloc (by simp) _
  · simp
theorem encode_far (b g : Nat) (w : World) (h : Bk b (.slice none 0 0) [] w) : Calls Tryz.prog 8 #[.pointer (some ⟨b, 0, none⟩), .pointer (some ⟨g, 0, none⟩), .int .i64 9] w fun e w' => e = .returned (.tuple #[.string ⟨#[]⟩, .int .i64 50]) ∧ Below w.heap.size w w' := by
  obtain ⟨U, hU, h1, h2, hb, hs⟩ := enc_start b g w
  have c0 : U.cell? ⟨w.heap.size, 0, none⟩ = some (.pointer (some ⟨b, 0, none⟩)) := (h1.cell 0).trans rfl
  have c1 : U.cell? ⟨w.heap.size + 1, 0, none⟩ = some (.pointer (some ⟨g, 0, none⟩)) := (h2.cell 0).trans rfl
  have HE := Aside0.mk (error_far b U (h.next hb))
  have HB := Aside0.mk hb
  clear h h1 h2 hb hs
  go_enter Tryz.func8, Tryz.ntmps8
  go_wp2_with (go_at_call 22; (with_reducible refine HE.out.mono ?_))
  rintro e w3 ⟨rfl, h3⟩
  have HB3 := Aside0.mk (HB.out.trans (h3.mono HB.out.size))
  clear h3 hU c0 c1
  go_wp2_with (fail)
  go_ret2
  exact ⟨rfl, HB3.out⟩
set_option maxRecDepth 100000 in
set_option maxHeartbeats 4000000 in
theorem encode_zero (b g : Nat) (w : World) : Calls Tryz.prog 8 #[.pointer (some ⟨b, 0, none⟩), .pointer (some ⟨g, 0, none⟩), .int .i64 0] w fun e w' => e = .returned (.tuple #[.string ⟨#[69, 1, 0]⟩, .int .i64 0]) ∧ Below w.heap.size w w' := by
  have hmf : ∀ (fn : Fn) (first cap : Array Value) (w : World), (Instr.makeFunc fn first cap).run Tryz.prog w = .ok (.func fn first cap) w := fun _ _ _ _ => rfl
  have hmk : ∀ w : World, (Instr.makeMap 81 none).run Tryz.prog w = .ok (.map (some w.heap.size)) (w.alloc (.map #[] 0)) := fun w => run_makeMap _ w
  obtain ⟨n, hn⟩ : ∃ n, w.heap.size = n := ⟨_, rfl⟩
  obtain ⟨U, hU, h1, h2, hb, hs⟩ := enc_start b g w
  rw [hn] at h1 h2
  have c0 : U.cell? ⟨n, 0, none⟩ = some (.pointer (some ⟨b, 0, none⟩)) := (h1.cell 0).trans rfl
  have c1 : U.cell? ⟨n + 1, 0, none⟩ = some (.pointer (some ⟨g, 0, none⟩)) := (h2.cell 0).trans rfl
  have HE := Aside0.mk (error_zero b U)
  have HB := Aside0.mk hb
  have H1 := Aside0.mk h1
  have H2 := Aside0.mk h2
  clear h1 h2 hb hs
  go_enter Tryz.func8, Tryz.ntmps8
  go_wp2_with (go_at_call 22; (with_reducible refine HE.out.mono ?_))
  rintro e w3 ⟨rfl, h3⟩
  obtain ⟨M, hM⟩ : ∃ M, w3.heap.size = M := ⟨_, rfl⟩
  obtain ⟨X4, X5, hX4, hX5, hz, hs4, hlay, hb5⟩ := lay_made b g n w3 (H1.out.next h3) (H2.out.next h3) hM
  have HB5 := Aside0.mk (HB.out.trans ((h3.mono HB.out.size).trans (hb5.mono (by have := HB.out.size; have := h3.size; omega))))
  have HX5 := Aside0.mk hX5
  have HZ := Aside0.mk hz
  obtain ⟨d0, d1, d2, d3, d4⟩ := hlay.c
  have HL := Aside0.mk (lay_zero b g n M X5 hlay)
  clear h3 hU c0 c1 hX5 hz hlay hb5 HE HB H1 H2
  go_wp2_with (refine wpList_store_oneTo rfl 82 (.tmp 12) (.tmp 32) rfl rfl (M + 3) (.func (.func 23) #[] (ecaps_ n M)) rfl rfl rfl 82 .nilFunc HZ.out info82 ?_; rw [HX5.out])
  (with_reducible refine HL.out.mono ?_)
  rintro e X5 ⟨rfl, rfl⟩
  clear HZ HX5 hX4 hs4 hM d0 d1 d3 d4 HL
  go_wp2_with (go_at_call 27; (with_reducible refine (told_none _).mono ?_))
  rintro e w7 ⟨v, rfl, ho, h7⟩
  have HB7 := Aside0.mk (HB5.out.trans (h7.mono HB5.out.size))
  have ho : w7.ownsRow X5.heap.size 5 1 v 3 (nums .u8 [69, 1, 0]) := ho
  have hcv := own_string (P := Tryz.prog) (src := 92) (dst := 9) Tryz.underlying92 Tryz.underlying5 Tryz.underlying9 ho
  rw [show strOfNums [69, 1, 0] = ⟨#[69, 1, 0]⟩ by kernel_rfl] at hcv
  obtain ⟨A, c, rfl⟩ := TF.own_slice ho
  clear h7 ho d2
  go_wp2_with (fail)
  go_ret2
  exact ⟨rfl, HB7.out⟩
set_option maxRecDepth 100000 in
set_option maxHeartbeats 2000000 in
theorem decode_zero (b g : Nat) (w : World) (h : Bk b (.slice none 0 0) [] w) : Calls Tryz.prog 9 #[.pointer (some ⟨b, 0, none⟩), .pointer (some ⟨g, 0, none⟩), .string ⟨#[69, 1, 0]⟩] w fun e w' => e = .returned (.tuple #[.int .i64 0, .int .i64 0]) ∧ Below w.heap.size w w' := by
  have H := Aside0.mk h
  clear h
  go_enter Tryz.func9, Tryz.ntmps9
  go_wp2_with (go_at_call 19; (with_reducible refine (records_zero _).mono ?_))
  rintro e w1 ⟨rfl, h1⟩
  have HB1 := Aside0.mk h1
  have HC := Aside0.mk (copy_ok b _ [] w1 (H.out.next h1) (by decide) (fun r hr => by cases hr))
  clear h1
  go_wp2_with (go_at_call 29; (with_reducible refine HC.out.mono ?_))
  rintro e w2 ⟨b', v', rfl, _, _, _, h2⟩
  have HB2 := Aside0.mk (HB1.out.trans (h2.mono HB1.out.size))
  clear h2 HC
  go_wp2_with (go_at_call 28; (with_reducible refine (all_none _ _ _).mono ?_))
  rintro e w3 ⟨rfl, h3⟩
  have HB3 := Aside0.mk (HB2.out.trans (h3.mono HB2.out.size))
  clear h3
  go_wp2_with (go_at_call 28; (with_reducible refine (all_none _ _ _).mono ?_))
  rintro e w4 ⟨rfl, h4⟩
  have HB4 := Aside0.mk (HB3.out.trans (h4.mono HB3.out.size))
  clear h4
  go_wp2_with (fail)
  go_ret2
  exact ⟨rfl, HB4.out⟩
end Go.Proofs.YtoplgeajolonoaaGreatDoor.PK
end
section
/- pack.Encode of an error whose kind has no row. -/
set_option linter.unusedVariables false
set_option linter.unusedSimpArgs false
namespace Go.Proofs.YtoplgeajolonoaaGreatDoor.PK
open Go.RowKit Go.Maps Go.Proofs.YtoplgeajolonoaaGreatDoorW.PrintWords Go.Proofs.YtoplgeajolonoaaGreatDoorW.PrintMore Go.Proofs.YtoplgeajolonoaaGreatDoor.TF Go.Proofs.YtoplgeajolonoaaGreatDoor.TK Go.Proofs.YtoplgeajolonoaaGreatDoor.TW

/-- the spec of the one error, as it is told -/
def sp1 (A : Option Addr) (c : Nat) (B : Option Addr) (d : Nat) : Array Value := #[.int .u8 1, .bool false, .string ⟨#[]⟩, .int .i16 0, .int .i8 0, .float .f64 0, .float .f64 0, .bool false, .int .u32 0, .slice A 0 c, .slice B 0 d]
def rc1 (A : Option Addr) (c : Nat) (B : Option Addr) (d : Nat) : Array Value := #[.string ⟨#[]⟩, .bool false, .int .u32 0, .int .u8 1, .bool false, .string ⟨#[]⟩, .int .i16 0, .int .i8 0, .float .f64 0, .float .f64 0, .bool false, .int .u32 0, .slice A 0 c, .slice B 0 d]
theorem sp1_one (A : Option Addr) (c : Nat) (B : Option Addr) (d : Nat) : (sp1 A c B d).all (·.oneCell') = true := by simp [sp1, Value.oneCell']
theorem rc1_one (A : Option Addr) (c : Nat) (B : Option Addr) (d : Nat) : (rc1 A c B d).all (·.oneCell') = true := by simp [rc1, Value.oneCell']
set_option maxRecDepth 100000 in
set_option maxHeartbeats 8000000 in
theorem lay_one (b g n M gr cr m : Nat) (A0 : Option Addr) (cc0 : Nat) (B0 : Option Addr) (dd0 : Nat) (w : World) (h : Lay b g n M w) (hB : Bk b (.slice (some ⟨gr, 0, none⟩) 1 cr) [recNought A0 cc0 B0 dd0] w) (hR : Blk w g 76 (reg0 m)) :
    Calls Tryz.prog 23 (#[.int .i64 1] ++ ecaps_ n M) w fun e w' => e = .returned (.int .i64 40) ∧ Fr (fun q => q = g) w w' := by
  have hkey := keyOf_int_mk Tryz.underlying3 (show (Lit.int .i64 1).wf = true by decide)
  obtain ⟨c0, c1, c2, c3, c4⟩ := h.c
  have hm := h.mp
  have HL := Aside0.mk h
  have HR := Aside0.mk hR
  have hS : Calls Tryz.prog 24 #[.pointer (some ⟨b, 0, none⟩), .int .i64 1] w fun e w' => ∃ A c B d, e = .returned (.tuple #[.agg (sp1 A c B d), .int .i64 0]) ∧ Below w.heap.size w w' :=
    Calls.mono (spec_ok b gr cr [recNought A0 cc0 B0 dd0] 0 _ w hB rfl (by simp) (by simp [recNought]) (by simp [recNought])) (by rintro e w' ⟨A, c, B, d, rfl, _, _, hb⟩; exact ⟨A, c, B, d, rfl, hb⟩)
  have HS := Aside0.mk hS
  clear hS
  clear h hR hB
  unfold ecaps_
  go_enter Tryz.func23, Tryz.ntmps23
  go_wp2_with (at_lookup; refine wpList_lookup_own_ok_int _ rfl _ _ 81 rfl 3 3 .i64 map_keyed Tryz.underlying81 Tryz.underlying3 (map_zero _) (M + 1) 0 (.map []) rfl hm _ _ rfl hkey ?_; intro c hat hwc)
  (with_reducible refine HS.out.mono ?_)
  rintro e w1 ⟨A, c', B, d, rfl, h1⟩
  clear HS hm hat hwc hkey
  obtain ⟨S, hS⟩ : ∃ S, w1.heap.size = S := ⟨_, rfl⟩
  have hl1 := HL.out
  have b1 := hl1.bv.next h1
  have r1 := hl1.rv.next h1
  have g1 := HR.out.next h1
  have f1 := Fr.of (S := fun q => q = g) h1
  have hgl := g1.lt
  have hbl := b1.lt
  have hrl := r1.lt
  have hsw := h1.size
  rw [hS] at hgl hbl hrl hsw
  -- the spec's variable
  obtain ⟨V1, hV1⟩ : ∃ V, (w1.alloc (.cells (spc_ (.slice none 0 0)) 43)).setRow S (sp1 A c' B d) = V := ⟨_, rfl⟩
  have hz1 := Blk.new w1 43 (spc_ (.slice none 0 0))
  rw [hS] at hz1
  have hx1 : Blk V1 S 43 (sp1 A c' B d) := by rw [← hV1]; exact setRow_heap _ S _ (sp1 A c' B d) 43 (0, 0) hz1
  have y1 : Below S w1 V1 := by rw [← hV1, ← hS]; exact ((Below.refl _ w1).alloc (Nat.le_refl _) _).trans ⟨rfl, rfl, rfl, by rw [setRow_size]; exact Nat.le_refl _, fun i hi => setRow_other _ _ _ _ (by omega)⟩
  have s1 : V1.heap.size = S + 1 := by rw [← hV1, setRow_size, World.size_alloc, hS]
  -- the record's variable
  obtain ⟨V2, hV2⟩ : ∃ V, (V1.alloc (.cells (rec_ ⟨#[]⟩ (.slice none 0 0)) 45)).setRow (S + 1) (rc1 A c' B d) = V := ⟨_, rfl⟩
  have hz2 := Blk.new V1 45 (rec_ ⟨#[]⟩ (.slice none 0 0))
  rw [s1] at hz2
  have hx2 : Blk V2 (S + 1) 45 (rc1 A c' B d) := by rw [← hV2]; exact setRow_heap _ (S + 1) _ (rc1 A c' B d) 45 (0, 0) hz2
  have y2 : Below (S + 1) V1 V2 := by rw [← hV2, ← s1]; exact ((Below.refl _ V1).alloc (Nat.le_refl _) _).trans ⟨rfl, rfl, rfl, by rw [setRow_size]; exact Nat.le_refl _, fun i hi => setRow_other _ _ _ _ (by omega)⟩
  have s2 : V2.heap.size = S + 2 := by rw [← hV2, setRow_size, World.size_alloc, s1]
  -- its kind and its mask struck
  obtain ⟨V3, hV3⟩ : ∃ V, (V2.setCell ⟨S + 1, 3, none⟩ (.int .u8 0)).setCell ⟨S + 1, 11, none⟩ (.int .u32 0) = V := ⟨_, rfl⟩
  have y3 : Below (S + 1) V2 V3 := by rw [← hV3]; exact ((Below.refl (S + 1) V2).setCell (p := ⟨S + 1, 3, none⟩) (Nat.le_refl _) _).setCell (p := ⟨S + 1, 11, none⟩) (Nat.le_refl _) _
  have y12 : Below S w1 V2 := y1.trans (y2.mono (by omega))
  have y13 : Below S w1 V3 := y12.trans (y3.mono (by omega))
  have x13 : Blk V3 S 43 (sp1 A c' B d) := (hx1.under y2 (by omega)).under y3 (by omega)
  have x12 : Blk V2 S 43 (sp1 A c' B d) := hx1.under y2 (by omega)
  have g3 := g1.under y13 hgl
  have r3 := r1.under y13 hrl
  obtain ⟨p0, p1, p2, p3, p4, p5, p6, p7, p8, p9, p10⟩ : V1.cell? ⟨S, 0, none⟩ = some (.int .u8 1) ∧ V1.cell? ⟨S, 1, none⟩ = some (.bool false) ∧ V1.cell? ⟨S, 2, none⟩ = some (.string ⟨#[]⟩) ∧ V1.cell? ⟨S, 3, none⟩ = some (.int .i16 0) ∧ V1.cell? ⟨S, 4, none⟩ = some (.int .i8 0) ∧ V1.cell? ⟨S, 5, none⟩ = some (.float .f64 0) ∧ V1.cell? ⟨S, 6, none⟩ = some (.float .f64 0) ∧ V1.cell? ⟨S, 7, none⟩ = some (.bool false) ∧ V1.cell? ⟨S, 8, none⟩ = some (.int .u32 0) ∧ V1.cell? ⟨S, 9, none⟩ = some (.slice A 0 c') ∧ V1.cell? ⟨S, 10, none⟩ = some (.slice B 0 d) := ⟨(hx1.cell 0).trans rfl, (hx1.cell 1).trans rfl, (hx1.cell 2).trans rfl, (hx1.cell 3).trans rfl, (hx1.cell 4).trans rfl, (hx1.cell 5).trans rfl, (hx1.cell 6).trans rfl, (hx1.cell 7).trans rfl, (hx1.cell 8).trans rfl, (hx1.cell 9).trans rfl, (hx1.cell 10).trans rfl⟩
  have q3 : V2.cell? ⟨S + 1, 3, none⟩ = some (.int .u8 1) := (hx2.cell 3).trans rfl
  have q11 : (V2.setCell ⟨S + 1, 3, none⟩ (.int .u8 0)).cell? ⟨S + 1, 11, none⟩ = some (.int .u32 0) := ((hx2.set_ 3 (.int .u8 0)).cell 11).trans rfl
  have qf3 := hx2.frozen 3
  have qf11 := (hx2.set_ 3 (.int .u8 0)).frozen 11
  have u0 : V3.cell? ⟨S, 0, none⟩ = some (.int .u8 1) := (x13.cell 0).trans rfl
  have u4 : V3.cell? ⟨n + 1, 0, none⟩ = some (.pointer (some ⟨g, 0, none⟩)) := (r3.cell 0).trans rfl
  have HOf := Aside0.mk (of_none g m 1 V3 g3)
  have HZ1 := Aside0.mk hz1
  have HZ2 := Aside0.mk hz2
  have HV1 := Aside0.mk hV1
  have HV2 := Aside0.mk hV2
  have HF3 := Aside0.mk (f1.trans (S' := fun q => q = g) (Fr.of (y13.mono (Nat.le_of_eq hS))) (fun k hk => .inl hk))
  clear b1 r1 g1 f1 hl1 hz1 hx1 y1 hz2 hx2 y2 y3 y12 y13 x12 x13 g3 r3 hV1 hV2 h1 HL HR c0 c1 c2 c3 c4
  unfold sp1
  go_wp2_with (refine store_other rfl 43 (.tmp 10) (.tmp 35) rfl rfl S (sp1 A c' B d) (spc_ (.slice none 0 0)) rfl rfl 43 HZ1.out rfl infoSpec5 (sp1_one _ _ _ _) ?_; show wpList _ _ _ _ _ ((w1.alloc (.cells (spc_ (.slice none 0 0)) 43)).setRow S (sp1 A c' B d)); rw [HV1.out])
  clear HV1 HZ1
  go_loopg [40] 0 (fun kq v40 wr => v40 = .int .i64 0 ∧ kq = 0 ∧ wr = V1)
  case atStart => exact ⟨rfl, rfl, rfl⟩
  case round =>
    obtain ⟨rfl, rfl, rfl⟩ := hrel
    go_wp2_with (first
      | (refine store_other rfl 45 (.tmp 15) (.tmp 52) rfl rfl (S + 1) (rc1 A c' B d) (rec_ ⟨#[]⟩ (.slice none 0 0)) rfl rfl 45 HZ2.out rfl info45 (rc1_one _ _ _ _) ?_; show wpList _ _ _ _ _ ((wr.alloc (.cells (rec_ ⟨#[]⟩ (.slice none 0 0)) 45)).setRow (S + 1) (rc1 A c' B d)); rw [HV2.out])
      | (go_at_call 25; (with_reducible refine HOf.out.mono ?_)))
    rintro e w4 ⟨rfl, hf⟩
    have HF4 := Aside0.mk ((HF3.out.trans hf (fun k hk => .inl hk)).alloc (.cells #[.string ⟨#[]⟩, .int .u8 0, .int .u32 0] 87))
    clear hf HOf HF3 HV2 HZ2 u0 u4 q3 q11 qf3 qf11 p0 p1 p2 p3 p4 p5 p6 p7 p8 p9 p10 hV3
    go_wp2_with (fail)
    go_ret
    exact ⟨rfl, HF4.out⟩
set_option maxRecDepth 100000 in
set_option maxHeartbeats 4000000 in
theorem encode_one (b g gr cr m : Nat) (A0 : Option Addr) (cc0 : Nat) (B0 : Option Addr) (dd0 : Nat) (w : World) (hB : Bk b (.slice (some ⟨gr, 0, none⟩) 1 cr) [recNought A0 cc0 B0 dd0] w) (hR : Blk w g 76 (reg0 m)) :
    Calls Tryz.prog 8 #[.pointer (some ⟨b, 0, none⟩), .pointer (some ⟨g, 0, none⟩), .int .i64 1] w fun e w' => e = .returned (.tuple #[.string ⟨#[]⟩, .int .i64 40]) ∧ Fr (fun q => q = g) w w' := by
  have hmf : ∀ (fn : Fn) (first cap : Array Value) (w : World), (Instr.makeFunc fn first cap).run Tryz.prog w = .ok (.func fn first cap) w := fun _ _ _ _ => rfl
  have hmk : ∀ w : World, (Instr.makeMap 81 none).run Tryz.prog w = .ok (.map (some w.heap.size)) (w.alloc (.map #[] 0)) := fun w => run_makeMap _ w
  obtain ⟨n, hn⟩ : ∃ n, w.heap.size = n := ⟨_, rfl⟩
  obtain ⟨U, hU, h1, h2, hb, hs⟩ := enc_start b g w
  rw [hn] at h1 h2
  have c0 : U.cell? ⟨n, 0, none⟩ = some (.pointer (some ⟨b, 0, none⟩)) := (h1.cell 0).trans rfl
  have c1 : U.cell? ⟨n + 1, 0, none⟩ = some (.pointer (some ⟨g, 0, none⟩)) := (h2.cell 0).trans rfl
  have hBU := hB.next hb
  have hE : Calls Tryz.prog 22 #[.pointer (some ⟨b, 0, none⟩), .int .i64 1] U fun e w' => e = .returned (.tuple #[code0, .int .i64 0]) ∧ w' = U := error_ok b gr cr [recNought A0 cc0 B0 dd0] 0 _ U hBU rfl (by simp)
  unfold code0 at hE
  obtain ⟨M, hM⟩ : ∃ M, U.heap.size = M := ⟨_, rfl⟩
  obtain ⟨X4, X5, hX4, hX5, hz, hs4, hlay, hb5⟩ := lay_made b g n U h1 h2 hM
  have hb5' : Below U.heap.size U X5 := by rw [hM]; exact hb5
  have HE := Aside0.mk hE
  have HF5 := Aside0.mk (Fr.of (S := fun q => q = g) (hb.trans (hb5'.mono hb.size)))
  have HX5 := Aside0.mk hX5
  have HZ := Aside0.mk hz
  obtain ⟨d0, d1, d2, d3, d4⟩ := hlay.c
  have HL := Aside0.mk (lay_one b g n M gr cr m A0 cc0 B0 dd0 X5 hlay (hBU.next hb5') ((hR.next hb).next hb5'))
  clear h1 h2 hb hs hE hX5 hz hlay hb5 hb5' hBU hB hR
  go_enter Tryz.func8, Tryz.ntmps8
  go_wp2_with (first
    | (go_at_call 22; (with_reducible refine HE.out.mono ?_); rintro e U ⟨rfl, rfl⟩)
    | (refine wpList_store_oneTo rfl 82 (.tmp 12) (.tmp 32) rfl rfl (M + 3) (.func (.func 23) #[] (ecaps_ n M)) rfl rfl rfl 82 .nilFunc HZ.out info82 ?_; rw [HX5.out]))
  (with_reducible refine HL.out.mono ?_)
  rintro e w7 ⟨rfl, h7⟩
  have HF7 := Aside0.mk (HF5.out.trans h7 (fun k hk => .inl hk))
  clear h7 HZ HX5 hX4 hs4 hM d0 d1 d2 d3 d4 HL HE hU c0 c1
  go_wp2_with (fail)
  go_ret2
  exact ⟨rfl, HF7.out⟩
end Go.Proofs.YtoplgeajolonoaaGreatDoor.PK
end
