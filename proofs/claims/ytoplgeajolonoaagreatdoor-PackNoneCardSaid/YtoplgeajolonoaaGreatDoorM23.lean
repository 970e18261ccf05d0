/- None -/
import Derived.Test.YtoplgeajolonoaaGreatDoorM22
/- The closed law PackNone: the walk. -/
set_option linter.unusedVariables false
set_option linter.unusedSimpArgs false
namespace Go.Proofs.YtoplgeajolonoaaGreatDoor.PK
open Go.RowKit Go.Maps Go.Proofs.YtoplgeajolonoaaGreatDoorW.PrintWords Go.Proofs.YtoplgeajolonoaaGreatDoorW.PrintMore Go.Proofs.YtoplgeajolonoaaGreatDoor.TF Go.Proofs.YtoplgeajolonoaaGreatDoor.TK Go.Proofs.YtoplgeajolonoaaGreatDoor.TW

theorem make_big : ∃ C : Array Value, ∀ W : World, (Instr.makeSlice 46 (.int .i64 4097) (.int .i64 4097)).run Tryz.prog W = .ok (.slice (some ⟨W.heap.size, 0, none⟩) 4097 4097) (W.alloc (.cells C 45)) := by
  obtain ⟨i, hi, hq⟩ := Option.map_eq_some_iff.1 (show (Tryz.prog.info? 45).map (fun i => (i.zero.isSome, decide (i.bytes ≤ 1000))) = some (true, true) by kernel_rfl)
  simp only [Prod.mk.injEq, decide_eq_true_eq] at hq
  obtain ⟨z, hz⟩ := Option.isSome_iff_exists.1 hq.1
  refine ⟨madeCells z.cells ((4097 : Int).toNat * i.size), fun W => ?_⟩
  have h := run_make (P := Tryz.prog) W 46 45 i z Tryz.underlying46 hi hz .i64 .i64 4097 4097 (by decide) (Int.le_refl _) (by have := hq.2; omega) (by decide)
  exact h
/-- what stands when a call has gone by -/
structure Sit (n b g m : Nat) (w W : World) : Prop where
  bk : Bk b (.slice none 0 0) [] W
  rg : Blk W g 76 (reg0 m)
  below : Below n w W
  nb : n ≤ b
  ng : n ≤ g
theorem Sit.next {n b g m : Nat} {w W V : World} (h : Sit n b g m w W) (hb : Below W.heap.size W V) : Sit n b g m w V :=
  ⟨h.bk.next hb, h.rg.next hb, h.below.trans (hb.mono (Nat.le_trans h.nb (Nat.le_of_lt h.bk.lt))), h.nb, h.ng⟩
set_option maxRecDepth 100000 in
set_option maxHeartbeats 16000000 in
theorem none_walk (w : World) : Calls Tryz.prog 3 #[] w fun e w' => e = .returned (.bool true) ∧ Below w.heap.size w w' := by
  obtain ⟨C, hC⟩ := make_big
  have ht : (ByteArray.mk #[97]).size < 128 := by decide
  have ht2 : (ByteArray.mk #[98]).size < 128 := by decide
  have h0 : (ByteArray.mk #[]).size ≤ 4096 := by decide
  have HH := Aside0.mk (And.intro ht (And.intro ht2 h0))
  have HC := Aside0.mk hC
  clear hC ht ht2 h0
  go_enter Tryz.func3, Tryz.ntmps3
  go_wp2_with (go_at_call 6; (with_reducible refine (new_ok _).mono ?_))
  rintro e w1 ⟨rfl, hw1⟩
  have hb1 : Bk w.heap.size (.slice none 0 0) [] w1 := by rw [hw1]; exact Bk.new w
  have bl1 : Below w.heap.size w w1 := by rw [hw1]; exact (Below.refl _ w).alloc (Nat.le_refl _) _
  obtain ⟨b, hb⟩ : ∃ b, w.heap.size = b := ⟨_, rfl⟩
  rw [hb] at hb1 ⊢
  have HB1 := Aside0.mk hb1
  have HL1 := Aside0.mk bl1
  clear hb1 bl1 hw1
  go_wp2_with (go_at_call 7; (with_reducible refine (reg_new _).mono ?_))
  rintro e w2 ⟨g, m, rfl, hg, hr, h2⟩
  have HS := Aside0.mk (Sit.mk (n := b) (b := b) (g := g) (m := m) (w := w) (W := w2) (HB1.out.next h2) hr (hb ▸ (HL1.out.trans (h2.mono HL1.out.size))) (Nat.le_refl _) (by have := HL1.out.size; omega))
  have HBE := Aside0.mk hb
  clear h2 hr hg HB1 HL1 hb
  go_wp2_with (go_at_call 8; (with_reducible refine (encode_nil1 g 9 _).mono ?_))
  rintro e w3 ⟨rfl, h3⟩
  have HS3 := Aside0.mk (HS.out.next h3)
  clear h3 HS
  go_wp2_with (go_at_call 8; (with_reducible refine (encode_nil2 b 9 _).mono ?_))
  rintro e w4 ⟨rfl, h4⟩
  have HS4 := Aside0.mk (HS3.out.next h4)
  clear h4 HS3
  go_wp2_with (go_at_call 8; (with_reducible refine (encode_far b g _ HS4.out.bk).mono ?_))
  rintro e w5 ⟨rfl, h5⟩
  have HS5 := Aside0.mk (HS4.out.next h5)
  clear h5 HS4
  go_wp2_with (go_at_call 8; (with_reducible refine (encode_zero b g _).mono ?_))
  rintro e w6 ⟨rfl, h6⟩
  have HS6 := Aside0.mk (HS5.out.next h6)
  clear h6 HS5
  go_wp2_with (first
    | (go_at_call 9; (with_reducible refine (decode_nil1 _ _ _).mono ?_); rintro e w' ⟨rfl, rfl⟩)
    | (go_at_call 9; (with_reducible refine (decode_nil2 _ _ _).mono ?_); rintro e w' ⟨rfl, rfl⟩)
    | (go_at_call 9; (with_reducible refine (decode_bad _ _ _).mono ?_)))
  rintro e w7 ⟨rfl, h7⟩
  have HS7 := Aside0.mk (HS6.out.next h7)
  clear h7 HS6
  go_wp2_with (go_at_call 9; (with_reducible refine (decode_zero b g _ HS7.out.bk).mono ?_))
  rintro e w8 ⟨rfl, h8⟩
  have HS8 := Aside0.mk (HS7.out.next h8)
  clear h8 HS7
  go_wp2_with (first
    | (go_at_call 10; (with_reducible refine (unknown_nil _).mono ?_); rintro e w' ⟨rfl, rfl⟩)
    | (go_at_call 10; (with_reducible refine (unknown_bad _ _).mono ?_)))
  rintro e w9 ⟨rfl, h9⟩
  have HS9 := Aside0.mk (HS8.out.next h9)
  clear h9 HS8
  go_wp2_with (go_at_call 11; (with_reducible refine (bytes_none _).mono ?_))
  rintro e w10 ⟨rfl, h10⟩
  have HS10 := Aside0.mk (HS9.out.next h10)
  clear h10 HS9
  have HFz := Aside0.mk (frozen_no g m w10 HS10.out.rg)
  go_wp2_with (go_at_call 12; (with_reducible refine HFz.out.mono ?_))
  rintro e w11 ⟨rfl, hr, hf⟩
  have hbk : Bk b (.slice none 0 0) [] w11 := ⟨HS10.out.bk.head.fr hf (fun he => Blk.ne_ HS10.out.bk.head (he ▸ HS10.out.rg) (by decide) rfl), World.ownsRow_nil _ _ _ _, fun r hr => by cases hr⟩
  have hbl : Below b w w11 := HS10.out.below.trans (hf.below (m := b) (Nat.le_of_lt HS10.out.bk.lt) (fun k hk => by rw [hk]; exact HS10.out.ng))
  have HR11 := Aside0.mk hr
  have HL11 := Aside0.mk hbl
  have hne : g ≠ b := fun he => Blk.ne_ HS10.out.rg (he ▸ HS10.out.bk.head) (by decide) rfl
  have hgb := HS10.out.ng
  have hM := make_nought b none none 0 0 0 w11 hbk (World.ownsRow_nil _ _ _ _) (World.ownsRow_nil _ _ _ _)
  unfold spec at hM
  have HM := Aside0.mk hM
  clear hr hf hbk hbl hM HFz HS10
  go_wp2_with (go_at_call 13; (with_reducible refine HM.out.mono ?_))
  rintro e w12 ⟨v', A', c', B', d', rfl, hbk, hf, hv⟩
  obtain ⟨gr, cr, hvr⟩ := hbk.some_ (j := 0) rfl
  subst hvr
  have hr12 := HR11.out.fr hf hne
  have hbl := HL11.out.trans (hf.below (m := b) (by have := HR11.out.lt; omega) (fun k hk => by rw [hk]; exact Nat.le_refl _))
  have HE := Aside0.mk (encode_one b g gr cr m A' c' B' d' w12 hbk hr12)
  have HL12 := Aside0.mk hbl
  have hglt := hr12.lt
  clear hbk hf hv hr12 hbl HR11 HL11 HM
  go_wp2_with (go_at_call 8; (with_reducible refine HE.out.mono ?_))
  rintro e w13 ⟨rfl, hf⟩
  have HL13 := Aside0.mk (HL12.out.trans (hf.below (m := b) (by omega) (fun k hk => by rw [hk]; exact hgb)))
  have hs13 : b ≤ w13.heap.size := by have := hf.size; omega
  clear hf HL12 HE hglt hne hgb
  obtain ⟨W14, hW14⟩ : ∃ W, w13.alloc (.cells (two_ (.slice none 0 0)) 45) = W := ⟨_, rfl⟩
  have hA := Blk.new w13 45 (two_ (.slice none 0 0))
  rw [hW14] at hA
  have hL14 : Below b w W14 := by rw [← hW14]; exact HL13.out.alloc hs13 _
  have HA := Aside0.mk (bytes_bad _ W14 (row_alone w13.heap.size W14 hA (by have := HH.out.1; omega) (by have := HH.out.2.1; omega) HH.out.2.2))
  have HL14 := Aside0.mk hL14
  clear hA hL14
  unfold two_ at hW14
  go_wp2_with (go_at_call 11; (with_reducible refine HA.out.mono ?_))
  rintro e w15 ⟨rfl, h15⟩
  have HL15 := Aside0.mk (HL14.out.trans (h15.mono (by have := HL14.out.size; have := HBE.out; omega)))
  have hs15 : b ≤ w15.heap.size := by have := h15.size; have := HL14.out.size; have := HBE.out; omega
  clear h15 HL14 HA hW14 HL13 hs13
  obtain ⟨p, hp⟩ : ∃ p, w15.heap.size = p := ⟨_, rfl⟩
  obtain ⟨W16, hW16⟩ : ∃ W, w15.alloc (.cells #[.int .i64 1] 3) = W := ⟨_, rfl⟩
  obtain ⟨W17, hW17⟩ : ∃ W, W16.alloc (.cells (two_ (.slice (some ⟨p, 0, none⟩) 1 1)) 45) = W := ⟨_, rfl⟩
  have hP := Blk.new w15 3 #[.int .i64 1]
  rw [hW16, hp] at hP
  have hs16 : W16.heap.size = p + 1 := by rw [← hW16, World.size_alloc, hp]
  have hG := Blk.new W16 45 (two_ (.slice (some ⟨p, 0, none⟩) 1 1))
  rw [hW17, hs16] at hG
  have hP17 : Blk W17 p 3 #[.int .i64 1] := by rw [← hW17]; exact hP.next ((Below.refl _ _).alloc (Nat.le_refl _) _)
  have hL17 : Below b w W17 := by rw [← hW17, ← hW16]; exact (HL15.out.alloc hs15 _).alloc (by simp; omega) _
  have HA := Aside0.mk (bytes_both (p + 1) p W17 hG hP17 HH.out.1 HH.out.2.1 HH.out.2.2)
  have HL17 := Aside0.mk hL17
  clear hG hP hP17 hL17
  unfold two_ at hW17
  go_wp2_with (go_at_call 11; (with_reducible refine HA.out.mono ?_))
  rintro e w18 ⟨s18, rfl, h18⟩
  have HL18 := Aside0.mk (HL17.out.trans (h18.mono (by have := HL17.out.size; have := HBE.out; omega)))
  have hs18 : b ≤ w18.heap.size := by have := h18.size; have := HL17.out.size; have := HBE.out; omega
  clear h18 HL17 HA hW16 hW17 HL15 hs15 hs16 hp
  obtain ⟨W19, hW19⟩ : ∃ W, w18.alloc (.cells (rec_ ⟨#[]⟩ (.slice none 0 0)) 45) = W := ⟨_, rfl⟩
  have hA := Blk.new w18 45 (rec_ ⟨#[]⟩ (.slice none 0 0))
  rw [hW19] at hA
  have hL19 : Below b w W19 := by rw [← hW19]; exact HL18.out.alloc hs18 _
  have HA := Aside0.mk (bytes_bad _ W19 (row_not w18.heap.size W19 hA HH.out.2.2))
  have HL19 := Aside0.mk hL19
  clear hA hL19
  unfold rec_ at hW19
  go_wp2_with (go_at_call 11; (with_reducible refine HA.out.mono ?_))
  rintro e w20 ⟨rfl, h20⟩
  have HL20 := Aside0.mk (HL19.out.trans (h20.mono (by have := HL19.out.size; have := HBE.out; omega)))
  have hs20 : b ≤ w20.heap.size := by have := h20.size; have := HL19.out.size; have := HBE.out; omega
  clear h20 HL19 HA hW19 HL18 hs18
  obtain ⟨W21, hW21⟩ : ∃ W, w20.alloc (.cells C 45) = W := ⟨_, rfl⟩
  have hL21 : Below b w W21 := by rw [← hW21]; exact HL20.out.alloc hs20 _
  have HA := Aside0.mk (bytes_bad _ W21 (row_big w20.heap.size 4097 W21))
  have HL21 := Aside0.mk hL21
  have hC := HC.out
  clear hL21
  go_wp2_with (go_at_call 11; (with_reducible refine HA.out.mono ?_))
  rintro e w22 ⟨rfl, h22⟩
  have HL22 := Aside0.mk (HL21.out.trans (h22.mono (by have := HL21.out.size; have := HBE.out; omega)))
  clear h22 HL21 HA hW21 HL20 hs20 hC HC
  go_wp2_with (fail)
  go_ret
  exact ⟨rfl, by rw [HBE.out]; exact HL22.out⟩
end Go.Proofs.YtoplgeajolonoaaGreatDoor.PK
