/- mark.Is of the wrap and the second code. -/
import Derived.Test.YtlggimmfaflfnaaGreatDoorM32
import Derived.Test.YtlggimmfaflfnaaGreatDoorM33
import Derived.Deep.RegionHeld3
import Derived.Deep.MidRow
import Derived.BigQuiet
set_option linter.unusedVariables false
set_option linter.unusedSimpArgs false
namespace Go.Proofs.YtlggimmfaflfnaaGreatDoor.MK
open Go.RowKit Go.Maps Go.Shelf Go.Proofs.YtlggimmfaflfnaaGreatDoorW.PrintWords Go.Proofs.YtlggimmfaflfnaaGreatDoorW.PrintMore Go.Proofs.YtlggimmfaflfnaaGreatDoor.TF Go.Proofs.YtlggimmfaflfnaaGreatDoor.TK

theorem T3.wkC (b : Nat) (w : World) (h : T3 b w) : Wk w.heap.size b 1 [] w := fun W hW hB => by
  obtain ⟨g, c, A1, c1, B1, d1, A2, c2, B2, d2, q, A3, c3, B3, d3, hk⟩ := h.bk
  exact (walked_code b g c [recCode A1 c1 B1 d1, recCode A2 c2 B2 d2, recWrap q A3 c3 B3 d3] 0 (recCode A1 c1 B1 d1) W (hk.next hW) rfl (by decide : 3 ≤ 65536) (by show 0 ≤ _; omega) (by show 0 ≤ _; omega) rfl rfl).mono (fun e w' h => ⟨_, h.1, World.ownsRow_nil _ _ _ _, h.2⟩)
theorem T3.wkW (b : Nat) (w : World) (h : T3 b w) : Wk w.heap.size b 3 [1] w := fun W hW hB => by
  obtain ⟨g, c, A1, c1, B1, d1, A2, c2, B2, d2, q, A3, c3, B3, d3, hk⟩ := h.bk
  exact (walked_wrap b g c [recCode A1 c1 B1 d1, recCode A2 c2 B2 d2, recWrap q A3 c3 B3 d3] 2 (recWrap q A3 c3 B3 d3) W (hk.next hW) rfl (by decide : 3 ≤ 65536) (by show 0 ≤ _; omega) (by show 1 ≤ _; omega) rfl rfl 1 (by decide) rfl).mono (fun e w' ⟨v, h1, h2, h3⟩ => ⟨v, h1, TF.own_lower h2 hB, h3⟩)
theorem nodes_three (b : Nat) (w : World) (h : T3 b w) : Calls Tryz.prog 44 #[.pointer (some ⟨b, 0, none⟩), .int .i64 3] w fun e w' => ∃ g c, e = .returned (.tuple #[.slice (some ⟨g, 0, none⟩) 2 c, .int .i64 0]) ∧ w'.cell? ⟨g, 0, none⟩ = some (.int .i64 3) ∧ w'.cell? ⟨g, 1, none⟩ = some (.int .i64 1) ∧ g < w'.heap.size ∧ Below w.heap.size w w' := by
  obtain ⟨g, c, A1, c1, B1, d1, A2, c2, B2, d2, q, A3, c3, B3, d3, hk⟩ := h.bk
  have hw := within_one w.heap.size b 3 1 [1] w (h.wkW b w) (within_leaf w.heap.size b 1 w (h.wkC b w)) (.slice none 0 0) [] w (Below.refl _ w) (Nat.le_refl _) (by decide) (World.ownsRow_nil _ _ _ _)
  refine (nodes_ok b g c [recCode A1 c1 B1 d1, recCode A2 c2 B2 d2, recWrap q A3 c3 B3 d3] 2 (recWrap q A3 c3 B3 d3) [3, 1] w hk rfl (by decide : 3 ≤ 65536) hw).mono ?_
  rintro e w' ⟨v, rfl, ho, hb⟩
  obtain ⟨A, cc, rfl⟩ := TF.own_slice ho
  obtain ⟨gg, rfl⟩ := TF.own_some ho (Nat.succ_pos 1)
  refine ⟨gg, cc, rfl, ?_, ?_, (ho.lt gg rfl).2, hb⟩
  · have := ho.cells (g := gg) rfl 0 (.int .i64 3) rfl
    rwa [TK.add_plain'] at this
  · have := ho.cells (g := gg) rfl 1 (.int .i64 1) rfl
    rwa [TK.add_plain'] at this
theorem _root_.Go.Proofs.YtlggimmfaflfnaaGreatDoor.TF.Fr.cell_ {S : Nat → Prop} {W V : World} (h : Fr S W V) {g : Nat} (i : Nat) (hg : g < W.heap.size) (hn : ¬ S g) : V.cell? ⟨g, i, none⟩ = W.cell? ⟨g, i, none⟩ := World.cell?_of_block (a := ⟨g, i, none⟩) (h.block g hg hn)
theorem eqWC (W : World) : (Op.equalIn 10000 53 (.agg markW) (.agg markC)).run Tryz.prog W = .ok false W := by kernel_rfl
theorem eqCC (W : World) : (Op.equalIn 10000 53 (.agg markC) (.agg markC)).run Tryz.prog W = .ok true W := by kernel_rfl
theorem eqZZ (W : World) : (Op.equalIn 10000 53 (.agg zero16) (.agg zero16)).run Tryz.prog W = .ok true W := by kernel_rfl
set_option maxHeartbeats 4000000 in
set_option maxRecDepth 100000 in
theorem is_two (b : Nat) (w : World) (h : T3 b w) : Calls Tryz.prog 19 #[.pointer (some ⟨b, 0, none⟩), .int .i64 3, .pointer (some ⟨b, 0, none⟩), .int .i64 2] w fun e w' => e = .returned (.tuple #[.int .i64 1, .bool true, .int .i64 0]) ∧ Below w.heap.size w w' := by
  have hmk : ∀ w : World, (Instr.makeMap 103 none).run Tryz.prog w = .ok (.map (some w.heap.size)) (w.alloc (.map #[] 0)) := fun w => run_makeMap _ w
  have H1 := Aside0.mk (pair_rec b w h 2 1 (by decide) (by decide))
  obtain ⟨W1, hW1⟩ : ∃ V, w.alloc (.map #[] 0) = V := ⟨_, rfl⟩
  have hb1 : Below w.heap.size w W1 := hW1 ▸ (Below.refl _ w).alloc (Nat.le_refl _) _
  have hs1 : W1.heap.size = w.heap.size + 1 := by rw [← hW1, World.size_alloc]
  obtain ⟨W2, hW2⟩ : ∃ V, W1.alloc (.map #[] 0) = V := ⟨_, rfl⟩
  have hb2 : Below W1.heap.size W1 W2 := hW2 ▸ (Below.refl _ W1).alloc (Nat.le_refl _) _
  have hm1 : OwnM W2 w.heap.size 0 (.map []) := hW2 ▸ (hW1 ▸ World.ownsMap_made w _ _ _ : OwnM W1 w.heap.size 0 (.map [])).alloc _
  have hm2 : OwnM W2 (w.heap.size + 1) 0 (.map []) := hW2 ▸ (hs1 ▸ World.ownsMap_made W1 _ _ _)
  have hb12 := hb1.trans (hb2.mono hb1.size)
  have hT2 := (h.next hb1).next hb2
  have hO := of_leaf b (w.heap.size + 1) 0 2 txC (.map []) laC lbC W2 (hT2.code b W2 1 (.inr rfl)) rfl (by decide) (by decide) hm2 (by decide) rfl takeC
  have HO := Aside0.mk (hO.mono (fun e w' h => (⟨h.1, ⟨h.2.1, h.2.2⟩⟩ : e = .returned (.agg markC) ∧ OfPost (w.heap.size + 1) _ _ W2 w')))
  have HT := Aside0.mk h
  have HB := Aside0.mk (And.intro hb12 hm1)
  clear h hb1 hb2 hm1 hm2 hb12 hT2 hO
  go_enter Tryz.func19, Tryz.ntmps19
  go_wp2_with (go_at_call 43; refine H1.out.mono ?_)
  rintro e w1 ⟨rfl, rfl⟩
  go_wp2_with (go_at_call 41; refine HO.out.mono ?_)
  rintro e w3 ⟨rfl, hp⟩
  have hm3 : OwnM w3 w1.heap.size 0 (.map []) := by
    obtain ⟨es, ck, h5, h6⟩ := HB.out.2
    exact ⟨es, ck, (hp.fr.block _ (Array.getElem?_eq_some_iff.1 h5).1 (by omega)).trans h5, h6⟩
  have hb3 := HB.out.1.trans (hp.fr.below HB.out.1.size (fun k hk => by omega))
  obtain ⟨K, hK⟩ : ∃ K, w3.heap.size = K := ⟨_, rfl⟩
  obtain ⟨W4, hW4⟩ : ∃ V, w3.alloc (.cells zero16 53) = V := ⟨_, rfl⟩
  have hb4 : Below w3.heap.size w3 W4 := hW4 ▸ (Below.refl _ w3).alloc (Nat.le_refl _) _
  have hk4 : Blk W4 K 53 zero16 := hK ▸ (hW4 ▸ Blk.new w3 _ _)
  obtain ⟨W5, hW5⟩ : ∃ V, W4.setRow K markC = V := ⟨_, rfl⟩
  have hk5 : Blk W5 K 53 markC := hW5 ▸ blk_setRow' hk4 sizeC
  have hKw : w1.heap.size + 1 < K := by have := hp.fr.size; have : W2.heap.size = w1.heap.size + 2 := by rw [← hW2, World.size_alloc, ← hW1, World.size_alloc]
                                        omega
  have f5 : Fr (fun q => q = K) W4 W5 := hW5 ▸ fr_setRow W4 K markC
  have hb5 : Below w1.heap.size w1 W5 := (hb3.trans (hb4.mono hb3.size)).trans (f5.below (Nat.le_trans hb3.size hb4.size) (fun k hk => by omega))
  have hm5 : OwnM W5 w1.heap.size 0 (.map []) := by
    obtain ⟨es, ck, h5, h6⟩ := hm3
    have hl := (Array.getElem?_eq_some_iff.1 h5).1
    exact ⟨es, ck, ((f5.block _ (by have := hb4.size; omega) (by omega)).trans (hb4.block _ hl)).trans h5, h6⟩
  have HN := Aside0.mk (nodes_three b W5 (HT.out.next hb5))
  have H5 := Aside0.mk (And.intro hb5 (And.intro hm5 hk5))
  unfold zero16 at hW4
  clear hp hm3 hb3 hb4 f5 hb5 hm5 hk5 HB HO hW2 hs1 hW1
  go_upto_region 8 with (refine wpList_store_row rfl 53 _ _ rfl _ markC rfl rfl 53 zero16 hk4 infoC sizeC oneC ?_)
  rw [hW5]
  clear hW5 hW4 hk4
  go_wp2_with (go_at_call 44; refine HN.out.mono ?_)
  rintro e w6 ⟨g, c, rfl, c0, c1, hg, h6⟩
  have bd : Below w6.heap.size w6 w6.drew := (Below.refl _ w6).drew
  have hb6 := H5.out.1.trans (h6.mono H5.out.1.size)
  have hm6 : OwnM w6.drew w1.heap.size 0 (.map []) := by
    obtain ⟨es, ck, h5, h7⟩ := H5.out.2.1
    exact ⟨es, ck, ((bd.block _ (Nat.lt_of_lt_of_le (Array.getElem?_eq_some_iff.1 h5).1 h6.size)).trans (h6.block _ (Array.getElem?_eq_some_iff.1 h5).1)).trans h5, h7⟩
  have hk6 := (H5.out.2.2.next h6).next bd
  have hT6 := (HT.out.next hb6).next bd
  have hO1 := of_one b w1.heap.size 0 3 1 txW txC (.map []) laC lbC la1 lb1 laW lbW w6.drew (hT6.wrap b _) (hT6.code b _ 0 (.inl rfl)) rfl (by decide) (by decide) hm6 (by decide) rfl rfl (by decide) (by decide) rfl rfl takeC take1 takeW
  have HO1 := Aside0.mk (hO1.mono (fun e w' h => (⟨h.1, ⟨h.2.1, h.2.2⟩⟩ : e = .returned (.agg markW) ∧ OfPost w1.heap.size _ _ w6.drew w')))
  have hrg : w6.drew.rangeAt K 0 markC.toList := fun j v hv => by rw [Nat.zero_add, hk6.cell j]; simpa using hv
  have hrg0 : w6.rangeAt K 0 markC.toList := by simpa using hrg
  have hu16 := Tryz.underlying53
  have hi16 : (Tryz.prog.info? 53).map (·.size) = some markC.toList.length := infoC
  have H6 := Aside0.mk (And.intro hb6 hk6)
  have HM6 := Aside0.mk hm6
  clear hb6 hk6 hT6 hO1 bd h6 HN H5 hm6
  have heq := eqWC
  go_wp2_with (fail)
  refine wp_loop_rounds 3 ?_
  unfold Code.rounds
  go_upto_region 12 with (fail)
  clear hmk
  have hgm : ¬ g = w1.heap.size := fun e => by
    obtain ⟨es, ck, h5, _⟩ := HM6.out
    have c1'' := c1
    rw [e] at c1''
    unfold World.cell? at c1''
    have h5' : w6.heap[w1.heap.size]? = some (.map es ck) := h5
    simp [h5'] at c1''
  have c1' : w6.drew.cell? ⟨g, 1, none⟩ = some (.int .i64 1) := by simpa using c1
  refine wp_region_noPanic ?_
  refine wp_region_held_drew (S := fun W => W.rangeAt K 0 markC.toList) (by kernel_rfl) hrg (fun hHeld => ?_)
  refine wpAnyH_take (i := 0) (oi := { dst := some 55, op := Op.move (Operand.tmp 12), type := 103, pos := "mark.go:160", after := #[], guard := none }) (v := .map (some w1.heap.size)) rfl (by kernel_rfl) (by kernel_rfl) (by kernel_rfl) (fun _ _ _ h => h) (Or.inl ⟨by rfl, fun w hSw => rfl⟩) (by assumption) ?_
  try simp only [Act.put, List.setIfInBounds_toArray, List.set_cons_zero, List.set_cons_succ]
  refine wpAnyH_take (i := 1) (oi := { dst := some 56, op := Op.move (Operand.tmp 0), type := 49, pos := "mark.go:160", after := #[], guard := none }) (v := .pointer (some ⟨b, 0, none⟩)) rfl (by kernel_rfl) (by kernel_rfl) (by kernel_rfl) (fun _ _ _ h => h) (Or.inl ⟨by rfl, fun w hSw => rfl⟩) (by assumption) ?_
  try simp only [Act.put, List.setIfInBounds_toArray, List.set_cons_zero, List.set_cons_succ]
  refine wpAnyH_take (i := 2) (oi := { dst := some 57, op := Op.move (Operand.tmp 18), type := 3, pos := "mark.go:160", after := #[], guard := none }) (v := .int .i64 3) rfl (by kernel_rfl) (by kernel_rfl) (by kernel_rfl) (fun _ _ _ h => h) (Or.inl ⟨by rfl, fun w hSw => rfl⟩) (by assumption) ?_
  try simp only [Act.put, List.setIfInBounds_toArray, List.set_cons_zero, List.set_cons_succ]
  refine wpAnyH_take (i := 4) (oi := { dst := some 59, op := Op.load 53 (Operand.tmp 14), type := 53, pos := "mark.go:160", after := #[], guard := none }) (v := .agg markC) rfl (by kernel_rfl) (by kernel_rfl) (by kernel_rfl) (fun _ _ _ h => h) (yieldsIf_load_mid (by rfl) 53 (.tmp 14) rfl K 0 rfl markC.toList _ (fun _ h => h) hu16 rfl hi16) (by assumption) ?_
  try simp only [Act.put, List.setIfInBounds_toArray, List.set_cons_zero, List.set_cons_succ]
  refine wpAnyH_ready (rs := [3]) (by kernel_rfl) (by simp) ?_
  refine AllReadyH.cons (o := { dst := some 58, op := Op.call { callee := Callee.value (Operand.func 41), args := #[Operand.tmp 55, Operand.tmp 56, Operand.tmp 57], argTypes := #[103, 49, 3] }, type := 53, pos := "mark.go:160", after := #[{ on := 0, ground := Ground.data }, { on := 1, ground := Ground.data }, { on := 2, ground := Ground.data }], guard := none }) rfl (fun K' hK' => ?_) AllReadyH.nil
  rw [if_pos (by rfl)]
  go_simp
  refine HO1.out.mono ?_
  rintro e w7 ⟨rfl, hp7⟩
  have k7 := H6.out.2.fr hp7.fr (by omega)
  have r7 : w7.rangeAt K 0 markC.toList := fun j v hv => by rw [Nat.zero_add, k7.cell j]; simpa using hv
  have d1 : w7.cell? ⟨g, 1, none⟩ = some (.int .i64 1) := ((hp7.fr.cell_ (g := g) 1 (by show g < w6.heap.size; exact hg) hgm)).trans c1'
  have HB7 := Aside0.mk ((H6.out.1.trans ((Below.refl w1.heap.size w6).drew)).trans (hp7.fr.below (Nat.le_trans H6.out.1.size (Below.refl w6.heap.size w6).drew.size) (fun k hk => by omega)))
  have HP7 := Aside0.mk (And.intro hp7 k7)
  clear hp7 k7 hHeld
  refine hK'.out _ _ r7 (fun hHeld => ?_)
  clear hK' K' HO1 hrg hrg0 r7
  try simp only [Act.put, List.setIfInBounds_toArray, List.set_cons_zero, List.set_cons_succ]
  refine wpAnyH_take (i := 5) (oi := { dst := some 60, op := Op.binOp BinOp.eql 53 (Operand.tmp 58) (Operand.tmp 59) 53, type := 4, pos := "mark.go:160", after := #[{ on := 3, ground := Ground.data }, { on := 4, ground := Ground.data }], guard := none }) (v := .bool false) rfl (by kernel_rfl) (by kernel_rfl) (by kernel_rfl) (fun _ _ _ h => h) (Or.inl ⟨by rfl, fun w hSw => by go_simp⟩) (by assumption) ?_
  try simp only [Act.put, List.setIfInBounds_toArray, List.set_cons_zero, List.set_cons_succ]
  refine wpAnyH_take (i := 6) (oi := { dst := some 61, op := Op.move (Operand.tmp 60), type := 4, pos := "mark.go:160", after := #[{ on := 5, ground := Ground.data }, { on := 3, ground := Ground.chain }], guard := none }) (v := .bool false) rfl (by kernel_rfl) (by kernel_rfl) (by kernel_rfl) (fun _ _ _ h => h) (Or.inl ⟨by rfl, fun w hSw => rfl⟩) (by assumption) ?_
  try simp only [Act.put, List.setIfInBounds_toArray, List.set_cons_zero, List.set_cons_succ]
  refine wpAnyH_take (i := 7) (oi := { dst := some 62, op := Op.move (Operand.tmp 0), type := 49, pos := "mark.go:160", after := #[{ on := 6, ground := Ground.guard }], guard := some (6, true) }) (v := undef) rfl (by kernel_rfl) (by kernel_rfl) (by kernel_rfl) (fun _ _ _ h => h) (Or.inr ⟨by rfl, rfl⟩) (by assumption) ?_
  try simp only [Act.put, List.setIfInBounds_toArray, List.set_cons_zero, List.set_cons_succ]
  refine wpAnyH_take (i := 8) (oi := { dst := some 63, op := Op.move (Operand.tmp 18), type := 3, pos := "mark.go:160", after := #[{ on := 6, ground := Ground.guard }], guard := some (6, true) }) (v := undef) rfl (by kernel_rfl) (by kernel_rfl) (by kernel_rfl) (fun _ _ _ h => h) (Or.inr ⟨by rfl, rfl⟩) (by assumption) ?_
  try simp only [Act.put, List.setIfInBounds_toArray, List.set_cons_zero, List.set_cons_succ]
  refine wpAnyH_take (i := 9) (oi := { dst := some 64, op := Op.call { callee := Callee.value (Operand.func 42), args := #[Operand.tmp 62, Operand.tmp 63], argTypes := #[49, 3] }, type := 9, pos := "mark.go:160", after := #[{ on := 7, ground := Ground.data }, { on := 8, ground := Ground.data }, { on := 6, ground := Ground.chain }, { on := 6, ground := Ground.guard }], guard := some (6, true) }) (v := undef) rfl (by kernel_rfl) (by kernel_rfl) (by kernel_rfl) (fun _ _ _ h => h) (Or.inr ⟨by rfl, rfl⟩) (by assumption) ?_
  try simp only [Act.put, List.setIfInBounds_toArray, List.set_cons_zero, List.set_cons_succ]
  refine wpAnyH_take (i := 10) (oi := { dst := some 65, op := Op.move (Operand.tmp 2), type := 49, pos := "mark.go:160", after := #[{ on := 6, ground := Ground.guard }], guard := some (6, true) }) (v := undef) rfl (by kernel_rfl) (by kernel_rfl) (by kernel_rfl) (fun _ _ _ h => h) (Or.inr ⟨by rfl, rfl⟩) (by assumption) ?_
  try simp only [Act.put, List.setIfInBounds_toArray, List.set_cons_zero, List.set_cons_succ]
  refine wpAnyH_take (i := 11) (oi := { dst := some 66, op := Op.move (Operand.tmp 3), type := 3, pos := "mark.go:160", after := #[{ on := 6, ground := Ground.guard }], guard := some (6, true) }) (v := undef) rfl (by kernel_rfl) (by kernel_rfl) (by kernel_rfl) (fun _ _ _ h => h) (Or.inr ⟨by rfl, rfl⟩) (by assumption) ?_
  try simp only [Act.put, List.setIfInBounds_toArray, List.set_cons_zero, List.set_cons_succ]
  refine wpAnyH_take (i := 12) (oi := { dst := some 67, op := Op.call { callee := Callee.value (Operand.func 42), args := #[Operand.tmp 65, Operand.tmp 66], argTypes := #[49, 3] }, type := 9, pos := "mark.go:160", after := #[{ on := 10, ground := Ground.data }, { on := 11, ground := Ground.data }, { on := 9, ground := Ground.chain }, { on := 6, ground := Ground.guard }], guard := some (6, true) }) (v := undef) rfl (by kernel_rfl) (by kernel_rfl) (by kernel_rfl) (fun _ _ _ h => h) (Or.inr ⟨by rfl, rfl⟩) (by assumption) ?_
  try simp only [Act.put, List.setIfInBounds_toArray, List.set_cons_zero, List.set_cons_succ]
  refine wpAnyH_take (i := 13) (oi := { dst := some 68, op := Op.binOp BinOp.eql 9 (Operand.tmp 64) (Operand.tmp 67) 9, type := 4, pos := "mark.go:160", after := #[{ on := 9, ground := Ground.data }, { on := 12, ground := Ground.data }, { on := 6, ground := Ground.guard }], guard := some (6, true) }) (v := undef) rfl (by kernel_rfl) (by kernel_rfl) (by kernel_rfl) (fun _ _ _ h => h) (Or.inr ⟨by rfl, rfl⟩) (by assumption) ?_
  try simp only [Act.put, List.setIfInBounds_toArray, List.set_cons_zero, List.set_cons_succ]
  refine wpAnyH_take (i := 14) (oi := { dst := some 69, op := Op.pick (Operand.tmp 61) (Operand.tmp 68) (Operand.const (Value.bool false)), type := 4, pos := "mark.go:160", after := #[{ on := 6, ground := Ground.data }, { on := 13, ground := Ground.data }], guard := none }) (v := .bool false) rfl (by kernel_rfl) (by kernel_rfl) (by kernel_rfl) (fun _ _ _ h => h) (Or.inl ⟨by rfl, fun w hSw => rfl⟩) (by assumption) ?_
  try simp only [Act.put, List.setIfInBounds_toArray, List.set_cons_zero, List.set_cons_succ]
  refine wpAnyH_done (by kernel_rfl) ?_ _
  refine NoPanic.normal ?_
  clear heq c0 c1 c1' hi16 hu16 HM6
  go_wp2_with (fail)
  have bd7 : Below w7.heap.size w7 w7.drew := (Below.refl _ w7).drew
  have hm7 : OwnM w7.drew w1.heap.size (0 + 1 + 1) (((DataW.map []).put (.int .i64 1) (.held (.agg (mk16 laC lbC)))).put (.int .i64 3) (.held (.agg (mk16 laW lbW)))) := by
    obtain ⟨es, ck, h5, h7⟩ := HP7.out.1.own
    exact ⟨es, ck, (bd7.block _ (Array.getElem?_eq_some_iff.1 h5).1).trans h5, h7⟩
  have k7d := HP7.out.2.next bd7
  have HO2 := Aside0.mk (of_have b w1.heap.size (0 + 1 + 1) 1 _ markC w7.drew rfl (by decide) hm7 rfl rfl rfl oneC)
  have HB7d := Aside0.mk (HB7.out.trans (bd7.mono HB7.out.size))
  have HWa := Aside0.mk (fun W (hW : Below w1.heap.size w1 W) => (show Calls Tryz.prog 42 #[.pointer (some ⟨b, 0, none⟩), .int .i64 1] W fun e w' => e = .returned (.string txC) ∧ Below W.heap.size W w' from whole_code b W (HT.out.next hW) 0 (.inl rfl)))
  have HWb := Aside0.mk (fun W (hW : Below w1.heap.size w1 W) => (show Calls Tryz.prog 42 #[.pointer (some ⟨b, 0, none⟩), .int .i64 2] W fun e w' => e = .returned (.string txC) ∧ Below W.heap.size W w' from whole_code b W (HT.out.next hW) 1 (.inr rfl)))
  have rg7 : w7.drew.rangeAt K 0 markC.toList := fun j v hv => by rw [Nat.zero_add, k7d.cell j]; simpa using hv
  have K7 := Aside0.mk k7d
  have hu16 := Tryz.underlying53
  have hi16 : (Tryz.prog.info? 53).map (·.size) = some markC.toList.length := infoC
  have heq := eqCC
  clear hm7 k7d bd7 HB7 HP7
  unfold Code.rounds
  go_upto_region 12 with (fail)
  clear d1
  go_region_held3 (fun W => W.rangeAt K 0 markC.toList) (first | assumption | go_keep_ranges) (first
    | (go_at_call 41; refine HO2.out.mono ?_; rintro e w8 ⟨rfl, hp8⟩; have k8 := K7.out.fr hp8.fr (by omega); have r8 : w8.rangeAt K 0 markC.toList := (fun j v hv => by rw [Nat.zero_add, k8.cell j]; simpa using hv); have HB8 := Aside0.mk (HB7d.out.trans (hp8.fr.below HB7d.out.size (fun k hk => by omega))); have HK8 := Aside0.mk k8; clear hp8 k8)
    | (go_at_call 42; (with_reducible refine (HWa.out w8 HB8.out).mono ?_); rintro e w9 ⟨rfl, h9⟩; have k9 := HK8.out.next h9; have r9 : w9.rangeAt K 0 markC.toList := (fun j v hv => by rw [Nat.zero_add, k9.cell j]; simpa using hv); have HB9 := Aside0.mk (HB8.out.trans (h9.mono HB8.out.size)); have HK9 := Aside0.mk k9; clear h9 k9)
    | (go_at_call 42; (with_reducible refine (HWb.out w9 HB9.out).mono ?_); rintro e w10 ⟨rfl, h10⟩; have k10 := HK9.out.next h10; have r10 : w10.rangeAt K 0 markC.toList := (fun j v hv => by rw [Nat.zero_add, k10.cell j]; simpa using hv); have HB10 := Aside0.mk (HB9.out.trans (h10.mono HB9.out.size)); clear h10 k10))
  all_goals (
    clear heq hi16 hu16 rg7 r8 r9 r10
    go_wp2_with (fail)
    go_ret3
    exact ⟨rfl, HB10.out⟩)
end Go.Proofs.YtlggimmfaflfnaaGreatDoor.MK
