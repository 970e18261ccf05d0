/- Told Told2 Row2 -/
import Derived.Test.YtoplgeajolonoaaGreatDoorM8
section
/- pack.told: of no records, of the row of two. -/
set_option linter.unusedVariables false
set_option linter.unusedSimpArgs false
namespace Go.Proofs.YtoplgeajolonoaaGreatDoor.PK
open Go.RowKit Go.Proofs.YtoplgeajolonoaaGreatDoorW.PrintWords Go.Proofs.YtoplgeajolonoaaGreatDoorW.PrintMore Go.Proofs.YtoplgeajolonoaaGreatDoor.TF

theorem conv_mark (g : Nat) (cs : Array Value) (n m : Nat) (W : World) (h : Blk W g 5 cs) : (convert 131 131 (.slice (some ⟨g, 0, none⟩) n m)).run Tryz.prog W = .ok (.slice (some ⟨g, 0, none⟩) n m) (W.freeze ⟨g, cs.size, none⟩ 1) := by
  have h2 : W.shape? g = some (5, cs.size) := by
    unfold Blk at h
    simp [World.shape?, h]
  simp [convert, markStringish, shape, freeze, Sem.run, h2, Result.andThen]
theorem freeze_other (W : World) (g i n k : Nat) (h : k ≠ g) : (W.freeze ⟨g, i, none⟩ n).heap[k]? = W.heap[k]? := by
  unfold World.freeze
  split
  · rfl
  · simp [Array.getElem?_modify, Ne.symm h]
theorem freeze_below {m g i n : Nat} {W : World} (h : m ≤ g) : Below m W (W.freeze ⟨g, i, none⟩ n) :=
  ⟨by unfold World.freeze; split <;> rfl, by unfold World.freeze; split <;> rfl, by unfold World.freeze; split <;> rfl, by unfold World.freeze; split <;> simp, fun k hk => freeze_other W g i n k (by omega)⟩
theorem freeze_cell {g i n j : Nat} {t : TypeId} {cs : Array Value} {W : World} (h : Blk W g t cs) : (W.freeze ⟨g, i, none⟩ n).cell? ⟨g, j, none⟩ = cs[j]? := by
  unfold Blk at h
  unfold World.freeze
  split
  · simp [World.cell?, h]
  · simp [World.cell?, h, Array.getElem?_modify]
theorem append_grow_two {P : Program} {w0 W : World} {ops : Array Oper} {rest : List Oper} {o : Oper} {a : Act} {Q : Exit → Act → World → Prop} (base : Nat) (hgd : o.guard = none) (s x : Operand) (t u e : TypeId)
    (ho : o.op = .call { callee := .builtin .append, args := #[s, x], argTypes := #[t, u] })
    (ht : P.underlying t = some (.slice e)) (hu : P.underlying u = some (.slice e)) (hinfo : (P.info? e).map (fun i => (i.zero, i.size, i.bytes)) = some (some (.int .u8 0), 1, 1))
    (xs ys : List Int) (ao ad : Addr) (c : Nat) (hs : a.eval s = .slice (some ao) xs.length xs.length) (hx : a.eval x = .slice (some ad) ys.length c) (hlen : 0 < ys.length)
    (hxs : ∀ j y, (nums .u8 xs)[j]? = some y → W.cell? (ao.add j) = some y) (hy : ∀ j y, (nums .u8 ys)[j]? = some y → W.cell? (ad.add j) = some y) (HB : Below base w0 W) (hbase : base ≤ W.heap.size) (hl : xs.length + ys.length ≤ 1048576)
    (h : ∀ v1 w1, w1.ownsRow base e 1 v1 (xs ++ ys).length (nums .u8 (xs ++ ys)) → Below base w0 w1 → Below W.heap.size W w1 → wpList P ops Q rest (a.put o.dst v1) w1) :
    wpList P ops Q (o :: rest) a W := by
  obtain ⟨i0, hi, hzz⟩ := Option.map_eq_some_iff.1 hinfo
  simp only [Prod.mk.injEq] at hzz
  obtain ⟨hz0, hz1, hz2⟩ := hzz
  refine wpList_plain hgd fun K hK => ?_
  obtain ⟨v', w', hr, h2, h3⟩ := run_append_arg_grows (P := P) W t o.type e i0 (.int .u8 0) 1 1 ht hi hz0 hz1 hz2 rfl (by decide) ao xs.length xs.length (nums .u8 xs) (by simp [nums_length]) hxs ad ys.length c (nums .u8 ys) (by simp [nums_length]) hy (by omega) (by simp only [maxLen]; omega) (by omega)
  rw [← two_types ht hu] at hr
  unfold Oper.wp execOp
  simp only [ho, resolve, invoke, builtin, Sem.run_bind, Sem.run_pure, Result.andThen_ok, List.map_toArray, List.map_cons, List.map_nil, hs, hx, hr]
  have hb := (Below.refl W.heap.size W).grown h3 (Nat.le_refl _) (fun k hk => by cases hk)
  exact hK _ _ (h v' w' (own_weaken (by rw [List.length_append]; simpa [nums] using h2) hbase) (HB.trans (hb.mono hbase)) hb)
set_option maxHeartbeats 4000000 in
set_option maxRecDepth 100000 in
theorem told_none (w : World) : Calls Tryz.prog 27 #[.slice none 0 0] w fun e w' => ∃ v, e = .returned (.tuple #[v, .int .i64 0]) ∧ B8 w.heap.size v [69, 1, 0] w' ∧ Below w.heap.size w w' := by
  obtain ⟨W1, hW1⟩ : ∃ W, w.alloc (.cells #[.int .u8 69, .int .u8 1] 5) = W := ⟨_, rfl⟩
  have hx := Blk.new w 5 #[.int .u8 69, .int .u8 1]
  have hb : Below w.heap.size w W1 := by rw [← hW1]; exact (Below.refl _ w).alloc (Nat.le_refl _) _
  rw [hW1] at hx
  obtain ⟨F1, hF1⟩ : ∃ F, W1.freeze ⟨w.heap.size, 2, none⟩ 1 = F := ⟨_, rfl⟩
  have hcv := conv_mark w.heap.size _ 2 2 W1 hx
  have hF1' : W1.freeze ⟨w.heap.size, (#[Value.int .u8 69, Value.int .u8 1] : Array Value).size, none⟩ 1 = F1 := hF1
  have hb1 : Below w.heap.size w F1 := by rw [← hF1]; exact hb.trans (freeze_below (Nat.le_refl _))
  have hc0 : F1.cell? ⟨w.heap.size, 0, none⟩ = some (.int .u8 69) := by rw [← hF1]; exact (freeze_cell hx).trans rfl
  have hc1 : F1.cell? ⟨w.heap.size, 1, none⟩ = some (.int .u8 1) := by rw [← hF1]; exact (freeze_cell hx).trans rfl
  have hlt : w.heap.size < F1.heap.size := by have h1 := (World.block_lt_of_cell? _ _ hc0); exact h1
  have HS := Aside0.mk (short_ok 0 (by decide) (by decide) F1)
  have HB := Aside0.mk hb1
  have HC0 := Aside0.mk hc0
  have HC1 := Aside0.mk hc1
  rw [hF1'] at hcv
  clear hb hb1 hx hc0 hc1 hF1'
  go_enter Tryz.func27, Tryz.ntmps27
  go_wp2_with (go_at_call 53; (with_reducible refine HS.out.mono ?_))
  rintro e w2 ⟨r2, c2, rfl, hc2, hg2, hb2⟩
  have h0 : w2.cell? ⟨w.heap.size, 0, none⟩ = some (.int .u8 69) := (World.cell?_of_block (hb2.block _ hlt)).trans HC0.out
  have h1 : w2.cell? ⟨w.heap.size, 1, none⟩ = some (.int .u8 1) := (World.cell?_of_block (hb2.block _ hlt)).trans HC1.out
  have HX2 : Aside0 (∀ j y, (nums .u8 [69, 1])[j]? = some y → w2.cell? ((⟨w.heap.size, 0, none⟩ : Addr).add j) = some y) := Aside0.mk (fun j y hj => by
    match j, hj with
    | 0, hj => simp [nums] at hj; subst hj; simpa [Addr.add] using h0
    | 1, hj => simp [nums] at hj; subst hj; simpa [Addr.add] using h1)
  have HC2 := Aside0.mk (one_byte hc2)
  have HB2 := Aside0.mk (HB.out.trans (hb2.mono HB.out.size))
  have hs2 := HB2.out.size
  clear hc2 hb2 hW1 hF1 hcv h0 h1 HC0 HC1
  go_wp2_with (at_builtin; refine append_grow_two (w0 := w) w.heap.size rfl _ _ 131 92 5 rfl Tryz.underlying131 Tryz.underlying92 infoByte [69, 1] [0] ⟨w.heap.size, 0, none⟩ ⟨r2, 0, none⟩ c2 rfl rfl (by decide) HX2.out HC2.out HB2.out hs2 (by decide) ?_)
  intro v3 w3 h3 b3 _
  have H3 : Aside0 (B8 w.heap.size v3 [69, 1, 0] w3) := Aside0.mk h3
  have HB3 := Aside0.mk b3
  clear h3 b3
  go_wp2_with (fail)
  go_loopg [4, 16] 0 (fun kq v4 v16 wr => v4 = v3 ∧ v16 = .int .i64 0 ∧ kq = 0 ∧ wr = w3)
  case atStart => exact ⟨rfl, rfl, rfl, rfl⟩
  case round =>
    obtain ⟨rfl, rfl, rfl, rfl⟩ := hrel
    go_wp2_with (fail)
    go_ret2
    exact ⟨_, rfl, H3.out, HB3.out⟩
end Go.Proofs.YtoplgeajolonoaaGreatDoor.PK
end
section
/- pack.told of the row of two records. -/
set_option linter.unusedVariables false
set_option linter.unusedSimpArgs false
namespace Go.Proofs.YtoplgeajolonoaaGreatDoor.PK
open Go.RowKit Go.Proofs.YtoplgeajolonoaaGreatDoorW.PrintWords Go.Proofs.YtoplgeajolonoaaGreatDoorW.PrintMore Go.Proofs.YtoplgeajolonoaaGreatDoor.TF

/-- what a round leaves -/
structure Tl (base : Nat) (w : World) (v : Value) (n : Nat) (W : World) : Prop where
  own : ∃ xs, xs.length ≤ n ∧ B8 base v xs W
  b : Below base w W
  k : K8 w W
set_option maxHeartbeats 8000000 in
set_option maxRecDepth 100000 in
theorem told_both (g p : Nat) (w : World) (hG : Blk w g 45 (two_ (.slice (some ⟨p, 0, none⟩) 1 1))) (hP : Blk w p 3 #[.int .i64 1]) (ht : (ByteArray.mk #[97]).size < 128) (ht2 : (ByteArray.mk #[98]).size < 128) :
    Calls Tryz.prog 27 #[.slice (some ⟨g, 0, none⟩) 2 2] w fun e w' => ∃ v n, e = .returned (.tuple #[v, .int .i64 0]) ∧ Tl w.heap.size w v n w' := by
  obtain ⟨W1, hW1⟩ : ∃ W, w.alloc (.cells #[.int .u8 69, .int .u8 1] 5) = W := ⟨_, rfl⟩
  have hx := Blk.new w 5 #[.int .u8 69, .int .u8 1]
  have hb : Below w.heap.size w W1 := by rw [← hW1]; exact (Below.refl _ w).alloc (Nat.le_refl _) _
  rw [hW1] at hx
  obtain ⟨F1, hF1⟩ : ∃ F, W1.freeze ⟨w.heap.size, 2, none⟩ 1 = F := ⟨_, rfl⟩
  have hcv := conv_mark w.heap.size _ 2 2 W1 hx
  have hF1' : W1.freeze ⟨w.heap.size, (#[Value.int .u8 69, Value.int .u8 1] : Array Value).size, none⟩ 1 = F1 := hF1
  have hb1 : Below w.heap.size w F1 := by rw [← hF1]; exact hb.trans (freeze_below (Nat.le_refl _))
  have hc0 : F1.cell? ⟨w.heap.size, 0, none⟩ = some (.int .u8 69) := by rw [← hF1]; exact (freeze_cell hx).trans rfl
  have hc1 : F1.cell? ⟨w.heap.size, 1, none⟩ = some (.int .u8 1) := by rw [← hF1]; exact (freeze_cell hx).trans rfl
  have hlt : w.heap.size < F1.heap.size := by have h1 := (World.block_lt_of_cell? _ _ hc0); exact h1
  have HS := Aside0.mk (short_ok 2 (by decide) (by decide) F1)
  have HB := Aside0.mk hb1
  have HC0 := Aside0.mk hc0
  have HC1 := Aside0.mk hc1
  have HG := Aside0.mk hG
  have HP := Aside0.mk hP
  rw [hF1'] at hcv
  clear hb hb1 hx hc0 hc1 hF1' hG hP
  go_enter Tryz.func27, Tryz.ntmps27
  go_wp2_with (go_at_call 53; (with_reducible refine HS.out.mono ?_))
  rintro e w2 ⟨r2, c2, rfl, hc2, hg2, hb2⟩
  have h0 : w2.cell? ⟨w.heap.size, 0, none⟩ = some (.int .u8 69) := (World.cell?_of_block (hb2.block _ hlt)).trans HC0.out
  have h1 : w2.cell? ⟨w.heap.size, 1, none⟩ = some (.int .u8 1) := (World.cell?_of_block (hb2.block _ hlt)).trans HC1.out
  have HX2 : Aside0 (∀ j y, (nums .u8 [69, 1])[j]? = some y → w2.cell? ((⟨w.heap.size, 0, none⟩ : Addr).add j) = some y) := Aside0.mk (fun j y hj => by
    match j, hj with
    | 0, hj => simp [nums] at hj; subst hj; simpa [Addr.add] using h0
    | 1, hj => simp [nums] at hj; subst hj; simpa [Addr.add] using h1)
  have HC2 := Aside0.mk (one_byte hc2)
  have HB2 := Aside0.mk (HB.out.trans (hb2.mono HB.out.size))
  have hs2 := HB2.out.size
  clear hc2 hb2 hW1 hF1 hcv h0 h1 HC0 HC1
  go_wp2_with (at_builtin; refine append_grow_two (w0 := w) w.heap.size rfl _ _ 131 92 5 rfl Tryz.underlying131 Tryz.underlying92 infoByte [69, 1] [2] ⟨w.heap.size, 0, none⟩ ⟨r2, 0, none⟩ c2 rfl rfl (by decide) HX2.out HC2.out HB2.out hs2 (by decide) ?_)
  intro v3 w3 h3 b3 _
  have HT3 := Aside0.mk (Tl.mk (base := w.heap.size) (w := w) (v := v3) (n := 3) (W := w3) ⟨[69, 1, 2], by decide, h3⟩ b3 (K8.below b3))
  clear h3 b3 HX2 HC2 HB2 hs2
  go_wp2_with (fail)
  go_loopg [4, 16] 2 (fun kq v4 v16 wr => (kq = 2 ∧ v16 = .int .i64 0 ∧ Aside0 (Tl w.heap.size w v4 3 wr)) ∨ (kq = 1 ∧ v16 = .int .i64 1 ∧ Aside0 (Tl w.heap.size w v4 1000 wr)) ∨ (kq = 0 ∧ v16 = .int .i64 2 ∧ Aside0 (Tl w.heap.size w v4 2000 wr)))
  case atStart => exact .inl ⟨rfl, rfl, HT3⟩
  case round =>
    rcases hrel with ⟨rfl, rfl, HT⟩ | ⟨rfl, rfl, HT⟩ | ⟨rfl, rfl, HT⟩
    · obtain ⟨xs, hxl, hown⟩ := HT.out.own
      have hgw := HT.out.k.blk HG.out (by decide)
      obtain ⟨c0, c1, c2, c3, c4, c5, c6, c7, c8, c9, c10, c11, c12, c13⟩ := two_cells0 hgw
      have hsw := HT.out.b.size
      obtain ⟨M, hM⟩ : ∃ M, wr.heap.size = M := ⟨_, rfl⟩
      obtain ⟨V2, hV2⟩ : ∃ V, (wr.alloc (.cells (rec_ ⟨#[]⟩ (.slice none 0 0)) 45)).setRow M (rec_ ⟨#[97]⟩ (.slice none 0 0)) = V := ⟨_, rfl⟩
      have hz := Blk.new wr 45 (rec_ ⟨#[]⟩ (.slice none 0 0))
      have bz := (Below.refl wr.heap.size wr).alloc (Nat.le_refl _) (.cells (rec_ ⟨#[]⟩ (.slice none 0 0)) 45)
      rw [hM] at hz bz hsw
      have hx : Blk V2 M 45 (rec_ ⟨#[97]⟩ (.slice none 0 0)) := by rw [← hV2]; exact setRow_heap _ M _ (rec_ ⟨#[97]⟩ (.slice none 0 0)) 45 (0, 0) hz
      have hb2 : Below wr.heap.size wr V2 := by rw [← hV2, hM]; exact bz.trans ⟨rfl, rfl, rfl, by rw [setRow_size]; exact Nat.le_refl _, fun i hi => setRow_other _ _ _ _ (by omega)⟩
      have h2 := hown.next hb2
      have b2 : Below w.heap.size w V2 := HT.out.b.trans (hb2.mono (by omega))
      have k2 := HT.out.k.trans (K8.below hb2)
      obtain ⟨d0, d1, d2, d3, d4, d5, d6, d7, d8, d9, d10, d11, d12, d13⟩ := rec_cells hx
      have HX0 := Aside0.mk hz
      have HV2 := Aside0.mk hV2
      have HB2 := Aside0.mk b2
      have HK2 := Aside0.mk k2
      have HRec := Aside0.mk (record_none w.heap.size _ xs ⟨#[97]⟩ V2 h2 b2.size (by omega) ht)
      clear hz bz hx hb2 hV2 h2 b2 k2 hown hgw
      unfold rec_ at HV2 HRec
      go_wp2_with (first
        | (refine store_other rfl 45 (.tmp 6) (.tmp 19) rfl rfl M (rec_ ⟨#[97]⟩ (.slice none 0 0)) (rec_ ⟨#[]⟩ (.slice none 0 0)) rfl rfl 45 HX0.out rfl info45 (rec_one _ _ _ _) ?_; unfold rec_; rw [HV2.out])
        | (go_at_call 54; (with_reducible refine HRec.out.mono ?_)))
      rintro e w4 ⟨v4, rfl, ys, hyl, h4, b4, k4⟩
      obtain ⟨A4, c4', rfl⟩ := TF.own_slice h4
      have HTN := Aside0.mk (Tl.mk (base := w.heap.size) (w := w) (n := 1000) ⟨ys, by omega, h4⟩ (HB2.out.trans b4) (HK2.out.trans k4))
      have hl4 : ¬ ((4194304 : Int) < (ys.length : Int)) := by omega
      clear h4 b4 k4 c0 c1 c2 c3 c4 c5 c6 c7 c8 c9 c10 c11 c12 c13 d0 d1 d2 d3 d4 d5 d6 d7 d8 d9 d10 d11 d12 d13 HX0 HV2 HB2 HK2 HRec hxl hyl HT
      go_wp2_with (fail)
      go_roundg 1
      case measure => omega
      case rel => exact .inr (.inl ⟨rfl, rfl, HTN⟩)
    · obtain ⟨xs, hxl, hown⟩ := HT.out.own
      have hgw := HT.out.k.blk HG.out (by decide)
      obtain ⟨c0, c1, c2, c3, c4, c5, c6, c7, c8, c9, c10, c11, c12, c13⟩ := two_cells1 hgw
      have hsw := HT.out.b.size
      obtain ⟨M, hM⟩ : ∃ M, wr.heap.size = M := ⟨_, rfl⟩
      obtain ⟨V2, hV2⟩ : ∃ V, (wr.alloc (.cells (rec_ ⟨#[]⟩ (.slice none 0 0)) 45)).setRow M (rec_ ⟨#[98]⟩ (.slice (some ⟨p, 0, none⟩) 1 1)) = V := ⟨_, rfl⟩
      have hz := Blk.new wr 45 (rec_ ⟨#[]⟩ (.slice none 0 0))
      have bz := (Below.refl wr.heap.size wr).alloc (Nat.le_refl _) (.cells (rec_ ⟨#[]⟩ (.slice none 0 0)) 45)
      rw [hM] at hz bz hsw
      have hx : Blk V2 M 45 (rec_ ⟨#[98]⟩ (.slice (some ⟨p, 0, none⟩) 1 1)) := by rw [← hV2]; exact setRow_heap _ M _ (rec_ ⟨#[98]⟩ (.slice (some ⟨p, 0, none⟩) 1 1)) 45 (0, 0) hz
      have hb2 : Below wr.heap.size wr V2 := by rw [← hV2, hM]; exact bz.trans ⟨rfl, rfl, rfl, by rw [setRow_size]; exact Nat.le_refl _, fun i hi => setRow_other _ _ _ _ (by omega)⟩
      have h2 := hown.next hb2
      have b2 : Below w.heap.size w V2 := HT.out.b.trans (hb2.mono (by omega))
      have k2 := HT.out.k.trans (K8.below hb2)
      obtain ⟨d0, d1, d2, d3, d4, d5, d6, d7, d8, d9, d10, d11, d12, d13⟩ := rec_cells hx
      have HX0 := Aside0.mk hz
      have HV2 := Aside0.mk hV2
      have HB2 := Aside0.mk b2
      have HK2 := Aside0.mk k2
      have HRec := Aside0.mk (record_one w.heap.size _ xs ⟨#[98]⟩ p V2 (k2.blk HP.out (by decide)) h2 b2.size (by omega) ht2)
      clear hz bz hx hb2 hV2 h2 b2 k2 hown hgw
      unfold rec_ at HV2 HRec
      go_wp2_with (first
        | (refine store_other rfl 45 (.tmp 6) (.tmp 19) rfl rfl M (rec_ ⟨#[98]⟩ (.slice (some ⟨p, 0, none⟩) 1 1)) (rec_ ⟨#[]⟩ (.slice none 0 0)) rfl rfl 45 HX0.out rfl info45 (rec_one _ _ _ _) ?_; unfold rec_; rw [HV2.out])
        | (go_at_call 54; (with_reducible refine HRec.out.mono ?_)))
      rintro e w4 ⟨v4, rfl, ys, hyl, h4, b4, k4⟩
      obtain ⟨A4, c4', rfl⟩ := TF.own_slice h4
      have HTN := Aside0.mk (Tl.mk (base := w.heap.size) (w := w) (n := 2000) ⟨ys, by omega, h4⟩ (HB2.out.trans b4) (HK2.out.trans k4))
      have hl4 : ¬ ((4194304 : Int) < (ys.length : Int)) := by omega
      clear h4 b4 k4 c0 c1 c2 c3 c4 c5 c6 c7 c8 c9 c10 c11 c12 c13 d0 d1 d2 d3 d4 d5 d6 d7 d8 d9 d10 d11 d12 d13 HX0 HV2 HB2 HK2 HRec hxl hyl HT
      go_wp2_with (fail)
      go_roundg 0
      case measure => omega
      case rel => exact .inr (.inr ⟨rfl, rfl, HTN⟩)
    · go_wp2_with (fail)
      go_ret2
      exact ⟨_, _, rfl, HT.out⟩
end Go.Proofs.YtoplgeajolonoaaGreatDoor.PK
end
section
/- pack.row of one record without a name, of too many. -/
set_option linter.unusedVariables false
set_option linter.unusedSimpArgs false
namespace Go.Proofs.YtoplgeajolonoaaGreatDoor.PK
open Go.RowKit Go.Proofs.YtoplgeajolonoaaGreatDoorW.PrintWords Go.Proofs.YtoplgeajolonoaaGreatDoorW.PrintMore Go.Proofs.YtoplgeajolonoaaGreatDoor.TF

theorem row_big (g c : Nat) (w : World) : Calls Tryz.prog 33 #[.slice (some ⟨g, 0, none⟩) 4097 c] w fun e w' => e = .returned (.bool false) ∧ Below w.heap.size w w' := by
  have b0 := Aside0.mk ((Below.refl w.heap.size w).alloc (Nat.le_refl _) (.cells #[.slice (some ⟨g, 0, none⟩) 4097 c] 46))
  go_enter Tryz.func33, Tryz.ntmps33
  go_wp2_with (fail)
  go_ret
  exact ⟨rfl, b0.out⟩
set_option maxHeartbeats 8000000 in
set_option maxRecDepth 100000 in
theorem row_not (g : Nat) (w : World) (hG : Blk w g 45 (rec_ ⟨#[]⟩ (.slice none 0 0))) (h0 : (ByteArray.mk #[]).size ≤ 4096) :
    Calls Tryz.prog 33 #[.slice (some ⟨g, 0, none⟩) 1 1] w fun e w' => e = .returned (.bool false) ∧ Below w.heap.size w w' := by
  obtain ⟨V0, hV0⟩ : ∃ V, w.alloc (.cells #[.slice (some ⟨g, 0, none⟩) 1 1] 46) = V := ⟨_, rfl⟩
  have hn := Blk.new w 46 #[.slice (some ⟨g, 0, none⟩) 1 1]
  have b0 := (Below.refl w.heap.size w).alloc (Nat.le_refl _) (.cells #[.slice (some ⟨g, 0, none⟩) 1 1] 46)
  rw [hV0] at hn b0
  have hg0 := hG.next b0
  have e15 : V0.cell? ⟨w.heap.size, 0, none⟩ = some (.slice (some ⟨g, 0, none⟩) 1 1) := (hn.cell 0).trans rfl
  obtain ⟨c0, c1, c2, c3, c4, c5, c6, c7, c8, c9, c10, c11, c12, c13⟩ := rec_cells hg0
  obtain ⟨M, hM⟩ : ∃ M, V0.heap.size = M := ⟨_, rfl⟩
  obtain ⟨V1, hV1⟩ : ∃ V, V0.alloc (.cells (rec_ ⟨#[]⟩ (.slice none 0 0)) 45) = V := ⟨_, rfl⟩
  have hx := Blk.new V0 45 (rec_ ⟨#[]⟩ (.slice none 0 0))
  have bz := (Below.refl V0.heap.size V0).alloc (Nat.le_refl _) (.cells (rec_ ⟨#[]⟩ (.slice none 0 0)) 45)
  have HX0 := Aside0.mk hx
  rw [hM] at HX0
  rw [hM, hV1] at hx
  rw [hV1] at bz
  obtain ⟨d0, d1, d2, d3, d4, d5, d6, d7, d8, d9, d10, d11, d12, d13⟩ := rec_cells hx
  have HV1 := Aside0.mk hV1
  have HB := Aside0.mk (b0.trans (bz.mono b0.size))
  have HMay := Aside0.mk (may_not 0 V1 h0)
  clear hn b0 hg0 hG hx bz hV1
  unfold rec_ at HV1 HMay
  go_enter Tryz.func33, Tryz.ntmps33
  go_wp2_with (fail)
  clear hV0
  go_loopg [14] 0 (fun kq v14 wr => v14 = .int .i64 0 ∧ kq = 0 ∧ wr = V0)
  case atStart => exact ⟨rfl, rfl, rfl⟩
  case round =>
    obtain ⟨rfl, rfl, rfl⟩ := hrel
    go_wp2_with (first
      | (refine store_same rfl 45 (.tmp 4) (.tmp 18) rfl rfl M (rec_ ⟨#[]⟩ (.slice none 0 0)) rfl rfl 45 HX0.out info45 (rec_one _ _ _ _) ?_; rw [HV1.out])
      | (go_at_call 59; (with_reducible refine HMay.out.mono ?_)))
    rintro e w4 ⟨rfl, hb4⟩
    have HBN := Aside0.mk (HB.out.trans (hb4.mono HB.out.size))
    clear hb4
    go_wp2_with (fail)
    go_ret
    exact ⟨rfl, HBN.out⟩
end Go.Proofs.YtoplgeajolonoaaGreatDoor.PK
end
