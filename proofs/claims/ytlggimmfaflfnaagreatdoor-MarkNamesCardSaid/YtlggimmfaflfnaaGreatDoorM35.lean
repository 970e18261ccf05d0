/- erratalaw19.works. -/
import Derived.Test.YtlggimmfaflfnaaGreatDoorM34
set_option linter.unusedVariables false
set_option linter.unusedSimpArgs false
namespace Go.Proofs.YtlggimmfaflfnaaGreatDoor.MK
open Go.RowKit Go.Maps Go.Shelf Go.Proofs.YtlggimmfaflfnaaGreatDoorW.PrintWords Go.Proofs.YtlggimmfaflfnaaGreatDoorW.PrintMore Go.Proofs.YtlggimmfaflfnaaGreatDoor.TF Go.Proofs.YtlggimmfaflfnaaGreatDoor.TK

theorem markC_lit : markC = #[.int .u8 176, .int .u8 198, .int .u8 33, .int .u8 34, .int .u8 111, .int .u8 138, .int .u8 244, .int .u8 155, .int .u8 71, .int .u8 176, .int .u8 33, .int .u8 190, .int .u8 11, .int .u8 141, .int .u8 239, .int .u8 106] := by kernel_rfl
theorem eqLZ (W : World) : (Op.equalIn 10000 53 (.agg #[.int .u8 176, .int .u8 198, .int .u8 33, .int .u8 34, .int .u8 111, .int .u8 138, .int .u8 244, .int .u8 155, .int .u8 71, .int .u8 176, .int .u8 33, .int .u8 190, .int .u8 11, .int .u8 141, .int .u8 239, .int .u8 106]) (.agg #[.int .u8 0, .int .u8 0, .int .u8 0, .int .u8 0, .int .u8 0, .int .u8 0, .int .u8 0, .int .u8 0, .int .u8 0, .int .u8 0, .int .u8 0, .int .u8 0, .int .u8 0, .int .u8 0, .int .u8 0, .int .u8 0])).run Tryz.prog W = .ok false W := by kernel_rfl
set_option maxHeartbeats 4000000 in
set_option maxRecDepth 100000 in
theorem works_ok (w : World) (htab : TW.Tab w) : Calls Tryz.prog 26 #[] w fun e w' => e = .returned (.bool true) ∧ Below w.heap.size w w' := by
  have HTab := Aside0.mk htab
  clear htab
  go_enter Tryz.func26, Tryz.ntmps26
  go_wp2_with (go_at_call 15; (with_reducible refine (new_ok _).mono ?_))
  rintro e w1 ⟨rfl, hw1⟩
  have hb1 : Bk w.heap.size (.slice none 0 0) [] w1 := by rw [hw1]; exact Bk.new w
  have bl1 : Below w.heap.size w w1 := by rw [hw1]; exact (Below.refl _ w).alloc (Nat.le_refl _) _
  obtain ⟨b, hb⟩ : ∃ b, w.heap.size = b := ⟨_, rfl⟩
  rw [hb] at hb1 ⊢
  have HBE := Aside0.mk hb
  have HL1 := Aside0.mk bl1
  have hM1 := make_seven_on b (.slice none 0 0) [] none none 0 0 0 w1 hb1 fine_nil (World.ownsRow_nil _ _ _ _) (World.ownsRow_nil _ _ _ _)
  unfold TW.spec at hM1
  have HM1 := Aside0.mk hM1
  clear hb1 bl1 hw1 hb hM1
  go_wp2_with (go_at_call 54; (with_reducible refine HM1.out.mono ?_))
  rintro e w2 ⟨v2, A1, c1, B1, d1, rfl, hb2, hf2, hv2⟩
  have hb2' : Bk b v2 [recCode A1 c1 B1 d1] w2 := hb2
  have bl2 : Below w.heap.size w w2 := HL1.out.trans (hf2.below HL1.out.size (fun k hk => by rcases hk with h | h; have := HBE.out; omega; simp [Value.ownBlock] at h))
  have ov2 : ∀ q, v2.ownBlock = some q → w.heap.size ≤ q := fun q hq => by
    rcases hv2 with h | ⟨q', h1, h2⟩
    · rw [h] at hq; simp [Value.ownBlock] at hq
    · rw [h1] at hq; have := Option.some.inj hq; have := HL1.out.size; omega
  have hM2 := make_seven_on b v2 [recCode A1 c1 B1 d1] none none 0 0 0 w2 hb2' (fine_code _ _ _ _) (World.ownsRow_nil _ _ _ _) (World.ownsRow_nil _ _ _ _)
  unfold TW.spec at hM2
  have HM2 := Aside0.mk hM2
  have HL2 := Aside0.mk bl2
  have HV2 := Aside0.mk ov2
  clear hb2 hb2' hf2 hv2 bl2 ov2 hM2 HM1 HL1
  go_wp2_with (go_at_call 54; (with_reducible refine HM2.out.mono ?_))
  rintro e w3 ⟨v3, A2, c2, B2, d2, rfl, hb3, hf3, hv3⟩
  have hb3' : Bk b v3 [recCode A1 c1 B1 d1, recCode A2 c2 B2 d2] w3 := hb3
  have bl3 : Below w.heap.size w w3 := HL2.out.trans (hf3.below HL2.out.size (fun k hk => by rcases hk with h | h; have := HBE.out; omega; exact HV2.out k h))
  have ov3 : ∀ q, v3.ownBlock = some q → w.heap.size ≤ q := fun q hq => by
    rcases hv3 with h | ⟨q', h1, h2⟩
    · rw [h] at hq; exact HV2.out q hq
    · rw [h1] at hq; have := Option.some.inj hq; have := HL2.out.size; omega
  have b34 : Below w3.heap.size w3 (w3.alloc (.cells #[.int .i64 1] 3)) := (Below.refl _ w3).alloc (Nat.le_refl _) _
  have hP3 := own_lit_of (enc := Value.int .i64) w3 w3.heap.size 3 [1] (Nat.le_refl _) (by simp)
  have hM3 := make_wrap_on b v3 none (some ⟨w3.heap.size, 0, none⟩) 0 1 w3.heap.size A1 c1 B1 d1 A2 c2 B2 d2 (w3.alloc (.cells #[.int .i64 1] 3)) (hb3'.next b34) (World.ownsRow_nil _ _ _ _) hP3
  unfold TW.spec at hM3
  have HM3 := Aside0.mk hM3
  have HL3 := Aside0.mk (bl3.alloc bl3.size (.cells #[.int .i64 1] 3))
  have HV3 := Aside0.mk ov3
  clear hb3 hb3' hf3 hv3 bl3 ov3 b34 hP3 hM3 HM2 HL2 HV2
  go_wp2_with (go_at_call 54; (with_reducible refine HM3.out.mono ?_))
  rintro e w4 ⟨v4, q, A3, c3, B3, d3, rfl, hb4, -, -, hf4, hv4⟩
  have bl4 : Below w.heap.size w w4 := HL3.out.trans (hf4.below HL3.out.size (fun k hk => by rcases hk with h | h; have := HBE.out; omega; exact HV3.out k h))
  have hT : T3 b w4 := by
    obtain ⟨A, c, rfl⟩ := TF.own_slice hb4.rows
    obtain ⟨g, rfl⟩ := TF.own_some hb4.rows (Nat.succ_pos 2)
    exact ⟨HTab.out.stays bl4, g, c, A1, c1, B1, d1, A2, c2, B2, d2, q, A3, c3, B3, d3, hb4⟩
  have HT := Aside0.mk hT
  have HL4 := Aside0.mk bl4
  have HF := Aside0.mk (form_three b w4 hT)
  clear hb4 hf4 hv4 bl4 hT HM3 HL3 HV3 HTab
  go_wp2_with (go_at_call 17; refine HF.out.mono ?_)
  rintro e w5 ⟨rfl, h5⟩
  have HT5 := Aside0.mk (HT.out.next h5)
  have HL5 := Aside0.mk (HL4.out.trans (h5.mono HL4.out.size))
  have HA := Aside0.mk (alike_two b w5 HT5.out)
  clear h5 HT HL4 HF
  go_wp2_with (go_at_call 18; refine HA.out.mono ?_)
  rintro e w6 ⟨rfl, h6⟩
  have HT6 := Aside0.mk (HT5.out.next h6)
  have HL6 := Aside0.mk (HL5.out.trans (h6.mono HL5.out.size))
  have HI := Aside0.mk (is_two b w6 HT6.out)
  clear h6 HT5 HL5 HA
  go_wp2_with (go_at_call 19; refine HI.out.mono ?_)
  rintro e w7 ⟨rfl, h7⟩
  have HT7 := Aside0.mk (HT6.out.next h7)
  have HL7 := Aside0.mk (HL6.out.trans (h7.mono HL6.out.size))
  have HO := Aside0.mk (of_first b w7 HT7.out)
  clear h7 HT6 HL6 HI
  go_wp2_with (go_at_call 16; refine HO.out.mono ?_)
  rintro e w8 ⟨rfl, h8⟩
  have HL8 := Aside0.mk (HL7.out.trans (h8.mono HL7.out.size))
  clear h8 HT7 HL7 HO
  obtain ⟨K, hK⟩ : ∃ K, w8.heap.size = K := ⟨_, rfl⟩
  obtain ⟨W4, hW4⟩ : ∃ V, w8.alloc (.cells zero16 53) = V := ⟨_, rfl⟩
  have hb4 : Below w.heap.size w W4 := hW4 ▸ HL8.out.alloc HL8.out.size _
  have hk4 : Blk W4 K 53 zero16 := hK ▸ (hW4 ▸ Blk.new w8 _ _)
  obtain ⟨W5, hW5⟩ : ∃ V, W4.setRow K markC = V := ⟨_, rfl⟩
  have hk5 : Blk W5 K 53 markC := hW5 ▸ blk_setRow' hk4 sizeC
  have f5 : Fr (fun q => q = K) W4 W5 := hW5 ▸ fr_setRow W4 K markC
  have HB := Aside0.mk (hb4.trans (f5.below hb4.size (fun k hk => by subst hk; rw [← hK]; exact HL8.out.size)))
  unfold zero16 at hW4
  clear hb4 f5 HL8
  go_upto_region 13 with (refine wpList_store_row rfl 53 _ _ rfl _ markC rfl rfl 53 zero16 hk4 infoC sizeC oneC ?_)
  try rw [hW5]
  have hne := eqLZ
  have g0 : W5.cell? ⟨K, 0, none⟩ = some (.int .u8 176) := (hk5.cell 0).trans (by rw [markC_lit]; rfl)
  have g1 : W5.cell? ⟨K, 1, none⟩ = some (.int .u8 198) := (hk5.cell 1).trans (by rw [markC_lit]; rfl)
  have g2 : W5.cell? ⟨K, 2, none⟩ = some (.int .u8 33) := (hk5.cell 2).trans (by rw [markC_lit]; rfl)
  have g3 : W5.cell? ⟨K, 3, none⟩ = some (.int .u8 34) := (hk5.cell 3).trans (by rw [markC_lit]; rfl)
  have g4 : W5.cell? ⟨K, 4, none⟩ = some (.int .u8 111) := (hk5.cell 4).trans (by rw [markC_lit]; rfl)
  have g5 : W5.cell? ⟨K, 5, none⟩ = some (.int .u8 138) := (hk5.cell 5).trans (by rw [markC_lit]; rfl)
  have g6 : W5.cell? ⟨K, 6, none⟩ = some (.int .u8 244) := (hk5.cell 6).trans (by rw [markC_lit]; rfl)
  have g7 : W5.cell? ⟨K, 7, none⟩ = some (.int .u8 155) := (hk5.cell 7).trans (by rw [markC_lit]; rfl)
  have g8 : W5.cell? ⟨K, 8, none⟩ = some (.int .u8 71) := (hk5.cell 8).trans (by rw [markC_lit]; rfl)
  have g9 : W5.cell? ⟨K, 9, none⟩ = some (.int .u8 176) := (hk5.cell 9).trans (by rw [markC_lit]; rfl)
  have g10 : W5.cell? ⟨K, 10, none⟩ = some (.int .u8 33) := (hk5.cell 10).trans (by rw [markC_lit]; rfl)
  have g11 : W5.cell? ⟨K, 11, none⟩ = some (.int .u8 190) := (hk5.cell 11).trans (by rw [markC_lit]; rfl)
  have g12 : W5.cell? ⟨K, 12, none⟩ = some (.int .u8 11) := (hk5.cell 12).trans (by rw [markC_lit]; rfl)
  have g13 : W5.cell? ⟨K, 13, none⟩ = some (.int .u8 141) := (hk5.cell 13).trans (by rw [markC_lit]; rfl)
  have g14 : W5.cell? ⟨K, 14, none⟩ = some (.int .u8 239) := (hk5.cell 14).trans (by rw [markC_lit]; rfl)
  have g15 : W5.cell? ⟨K, 15, none⟩ = some (.int .u8 106) := (hk5.cell 15).trans (by rw [markC_lit]; rfl)
  unfold shortT
  clear hk4 hW4 hW5 hK HBE hk5
  go_wp2_with (fail)
  go_ret
  exact ⟨rfl, HB.out⟩
end Go.Proofs.YtlggimmfaflfnaaGreatDoor.MK
