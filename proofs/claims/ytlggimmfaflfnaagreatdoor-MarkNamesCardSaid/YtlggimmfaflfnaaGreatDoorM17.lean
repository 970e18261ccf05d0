/- marks.of of a record with one part that is without parts. -/
import Derived.Test.YtlggimmfaflfnaaGreatDoorM16
set_option linter.unusedVariables false
set_option linter.unusedSimpArgs false
namespace Go.Proofs.YtlggimmfaflfnaaGreatDoor.MK
open Go.RowKit Go.Maps Go.Shelf Go.Proofs.YtlggimmfaflfnaaGreatDoorW.PrintWords Go.Proofs.YtlggimmfaflfnaaGreatDoorW.PrintMore Go.Proofs.YtlggimmfaflfnaaGreatDoor.TF Go.Proofs.YtlggimmfaflfnaaGreatDoor.TK Go.Proofs.YtlggimmfaflfnaaGreatDoor.TB Go.Proofs.YtlggimmfaflfnaaGreatDoor.CA

/-- a mark's bytes -/
def ints16 (X Y : Int) : List Int := [X / 72057594037927936 % 256, X / 281474976710656 % 256, X / 1099511627776 % 256, X / 4294967296 % 256, X / 16777216 % 256, X / 65536 % 256, X / 256 % 256, X % 256, Y / 72057594037927936 % 256, Y / 281474976710656 % 256, Y / 1099511627776 % 256, Y / 4294967296 % 256, Y / 16777216 % 256, Y / 65536 % 256, Y / 256 % 256, Y % 256]
theorem Nd.next {B b : Nat} {h : Int} {x : ByteArray} {ps : List Int} {w0 W : World} (hn : Nd B b h x ps w0) (hb : Below B w0 W) (hB : B ≤ W.heap.size) : Nd W.heap.size b h x ps W :=
  ⟨fun V hV => hn.node V (hb.trans (hV.mono hB)), fun V hV => hn.parts V (hb.trans (hV.mono hB))⟩
structure OfPost (m n : Nat) (D : DataW Value) (w w' : World) : Prop where
  own : OwnM w' m n D
  fr : Fr (fun q => q = m) w w'
theorem mk_cells (X Y : Int) : mk16 X Y = ((ints16 X Y).map (Value.int .u8)).toArray := rfl
set_option maxHeartbeats 4000000 in
set_option maxRecDepth 100000 in
theorem of_one (b m n : Nat) (h p : Int) (x y : ByteArray) (D : DataW Value) (P Q X1 Y1 X Y : Int) (w : World) (hN : Nd w.heap.size b h x [p] w) (hNp : Nd w.heap.size b p y [] w) (h0 : (h == 0) = false) (hx : x.size ≤ 1000) (hk : (Lit.int .i64 h).wf = true)
    (hM : OwnM w m n D) (hn : n < 1000000) (hD : has D (.int .i64 h) = false)
    (p0 : (p == 0) = false) (hy : y.size ≤ 1000) (hkp : (Lit.int .i64 p).wf = true) (hDp : has D (.int .i64 p) = false)
    (hD' : has (D.put (.int .i64 p) (.held (.agg (mk16 P Q)))) (.int .i64 h) = false)
    (hTp : QT.mark_take.f 1100 14695981039346656037 7809847782465536322 (bytes_ y 0) = some (P, Q))
    (hT : QT.mark_take.f 1100 14695981039346656037 7809847782465536322 (bytes_ x 1) = some (X1, Y1)) (hT2 : QT.mark_take.f 1100 X1 Y1 (ints16 P Q) = some (X, Y)) :
    Calls Tryz.prog 41 #[.map (some m), .pointer (some ⟨b, 0, none⟩), .int .i64 h] w fun e w' => e = .returned (.agg (mk16 X Y)) ∧ OwnM w' m (n + 1 + 1) ((D.put (.int .i64 p) (.held (.agg (mk16 P Q)))).put (.int .i64 h) (.held (.agg (mk16 X Y)))) ∧ Fr (fun q => q = m) w w' := by
  have HM := Aside0.mk hM
  have HN := Aside0.mk hN
  have HT := Aside0.mk hT
  have HD := Aside0.mk hD
  have HOf := Aside0.mk (fun (W : World) (hW : Below w.heap.size w W) (hMW : OwnM W m n D) => (of_leaf b m n p y D P Q W (hNp.next hW hW.size) p0 hy hkp hMW hn hDp hTp).mono (fun e w' h => (⟨h.1, ⟨h.2.1, h.2.2⟩⟩ : e = .returned (.agg (mk16 P Q)) ∧ OfPost m (n + 1) (D.put (.int .i64 p) (.held (.agg (mk16 P Q)))) W w')))
  have HT2 := Aside0.mk hT2
  obtain ⟨W1, hW1⟩ : ∃ V, (w.alloc (.cells zero16 53)) = V := ⟨_, rfl⟩
  have hl := absent (hM.alloc (.cells zero16 53)) h hk hD
  rw [hW1] at hl
  have hb1 : Below w.heap.size w W1 := hW1 ▸ (Below.refl _ w).alloc (Nat.le_refl _) _
  unfold zero16 at hW1 hl
  have HB1 := Aside0.mk hb1
  clear hM hN hNp hTp hT hT2 hD hb1 p0 hy hkp hDp hD'
  go_enter Tryz.func41, Tryz.ntmps41
  go_upto_region 6 with (fail)
  have hl2 : W1.heap.size = w.heap.size + 1 := by rw [← hW1, World.size_alloc]
  obtain ⟨W2, hW2⟩ : ∃ V, W1.alloc (.cells zero16 53) = V := ⟨_, rfl⟩
  have hb2 : Below w.heap.size w W2 := hW2 ▸ HB1.out.alloc (by omega) _
  have hr0 : Blk W2 w.heap.size 53 zero16 := by
    have h := Blk.new w 53 zero16
    unfold zero16 at h
    rw [hW1] at h
    exact hW2 ▸ h.next ((Below.refl _ W1).alloc (Nat.le_refl _) _)
  have HB2 := Aside0.mk hb2
  have HR2 := Aside0.mk hr0
  unfold zero16 at hW2
  clear hl hb2 hr0 HB1
  rw [hW2]
  have HP := Aside0.mk HN.out.parts
  have HNo := Aside0.mk HN.out.node
  have HMM := Aside0.mk (show OwnM W2 m n D from hW2 ▸ (hW1 ▸ HM.out.alloc _ : OwnM W1 m n D).alloc _)
  clear hW1 hW2 HM
  go_wp2_with (go_at_call 77; (with_reducible refine (HP.out _ HB2.out).mono ?_))
  rintro e w3 ⟨B', d', rfl, ho, h3⟩
  obtain ⟨gp, rfl, hgp, cells, hgc⟩ := own_first (x := .int .i64 p) ho
  have hgl : gp < w3.heap.size := (Array.getElem?_eq_some_iff.1 hgc).1
  have HG3 := Aside0.mk (show Below w3.heap.size w3 w3 from Below.refl _ _)
  have HB3 := Aside0.mk (HB2.out.trans (h3.mono HB2.out.size))
  have HR3 := Aside0.mk (HR2.out.next h3)
  have HM3 := Aside0.mk (show OwnM w3 m n D by obtain ⟨es, ck, h5, h6⟩ := HMM.out; exact ⟨es, ck, (h3.block m (Array.getElem?_eq_some_iff.1 h5).1).trans h5, h6⟩)
  clear ho hgc h3 HB2 HR2 HMM
  go_wp2_with (go_at_call 78; (with_reducible refine (HNo.out _ HB3.out).mono ?_))
  rintro e w4 ⟨rfl, h4⟩
  have HB4 := Aside0.mk (HB3.out.trans (h4.mono HB3.out.size))
  have HG4 := Aside0.mk (HG3.out.trans h4)
  have HR4 := Aside0.mk (HR3.out.next h4)
  have HM4 := Aside0.mk (show OwnM w4 m n D by obtain ⟨es, ck, h5, h6⟩ := HM3.out; exact ⟨es, ck, (h4.block m (Array.getElem?_eq_some_iff.1 h5).1).trans h5, h6⟩)
  clear h4 HB3 HR3 HM3
  have kb := fun (W : World) => print_bytes (P := Tryz.prog) 9 72 5 Tryz.underlying9 Tryz.underlying72 Tryz.underlying5 x W
  go_upto_region 8 with (fail)
  obtain ⟨B, hBs⟩ : ∃ B, w4.heap.size = B := ⟨_, rfl⟩
  obtain ⟨W5, hW5⟩ : ∃ V, Lib.bytesWorld w4 5 x = V := ⟨_, rfl⟩
  have hb5 : Below w4.heap.size w4 W5 := hW5 ▸ bytes_below (Below.refl _ w4) (Nat.le_refl _) 5 x
  have hs5 : W5.heap.size = B + 1 := by rw [← hW5, Lib.bytesWorld_size, hBs]
  obtain ⟨cap, hcap⟩ : ∃ cap, grownCap w4 x.size 0 5 = cap := ⟨_, rfl⟩
  have hcx : x.size ≤ cap := hcap ▸ grownCap_ge w4 x.size 0 5
  obtain ⟨cur, hcur⟩ : ∃ cur, Lib.bytesCells w4 5 x = cur := ⟨_, rfl⟩
  have hcs : cur.size = cap := by
    rw [← hcur]; unfold Lib.bytesCells
    rw [Array.size_append, Array.size_replicate, hcap, Array.size_map]
    have : x.data.size = x.size := rfl
    omega
  have hct : cur.toList.take x.size = (bytesOf x).map (Value.int .u8) := by
    rw [← hcur]; unfold Lib.bytesCells
    rw [Array.toList_append, List.take_append_of_le_length (by simp)]
    rw [List.take_of_length_le (by simp)]
    simp [bytesOf]
  have hg5 := Lib.bytesWorld_at_new w4 5 x
  rw [hW5, hcur, hBs, hcs] at hg5
  obtain ⟨W6, hW6⟩ : ∃ V, W5.alloc (.cells #[.int .u8 0, .int .u8 0, .int .u8 1] 5) = V := ⟨_, rfl⟩
  have hb6 : Below W5.heap.size W5 W6 := hW6 ▸ (Below.refl _ W5).alloc (Nat.le_refl _) _
  have hn6 : Blk W6 (B + 1) 5 #[.int .u8 0, .int .u8 0, .int .u8 1] := by
    have h := Blk.new W5 5 #[.int .u8 0, .int .u8 0, .int .u8 1]
    rw [hW6, hs5] at h; exact h
  have hg6 : W6.heap[B]? = some (.cells cur 5 (cap, cap + 1)) := (hb6.block B (by omega)).trans hg5
  obtain ⟨i0, hi, hz0, hz1, hz2⟩ := info_parts infoByte
  obtain ⟨g', c', w7, hrun, hc', hcells, hgr⟩ := run_append_conv (P := Tryz.prog) W6 72 72 5 i0 (.int .u8 0) Tryz.underlying72 hi hz0 hz1 hz2 B x.size cap cur (cap, cap + 1) hg6 hcs (Nat.le_refl _) hcx _ hct ⟨B + 1, 0, none⟩ 3 3 [.int .u8 0, .int .u8 0, .int .u8 1] rfl
    (fun j u hj => by
      rw [TK.add_plain']
      rw [hn6.cell j]
      simpa using hj)
    (fun u hu => by simp at hu; rcases hu with rfl | rfl | rfl <;> rfl) (by omega)
  have hl2 : (bytes_ x 1).length = x.size + 3 := by unfold bytes_; rw [List.length_append, bytesOf_length]; rfl
  have hC := c_of_cells (W := w7) (g := g') (xs := bytes_ x 1) (fun j u hj => hcells j u (by unfold bytes_ at hj; rw [List.map_append] at hj; exact hj)) (by rw [hl2]; omega)
  have hTk := QT.mark_take.calls 1100 14695981039346656037 7809847782465536322 (some ⟨g', 0, none⟩) c' (bytes_ x 1) X1 Y1 w7 hC (by rw [hl2]; exact hc') HT.out
  rw [hl2] at hTk
  have HTk := Aside0.mk hTk
  have hb7 : Below w4.heap.size w4 w7 := (hb5.trans (hb6.mono hb5.size)).trans ⟨hgr.os, hgr.tape, hgr.output, hgr.size, fun k hk => hgr.block k (by have := hb6.size; have := hb5.size; omega) (fun e => by have := Option.some.inj e; omega)⟩
  have HB7 := Aside0.mk (HB4.out.trans (hb7.mono HB4.out.size))
  have HG7 := Aside0.mk (HG4.out.trans (hb7.mono HG4.out.size))
  have HR7 := Aside0.mk (HR4.out.next hb7)
  have HM7 := Aside0.mk (show OwnM w7 m n D by obtain ⟨es, ck, h5, h6⟩ := HM4.out; exact ⟨es, ck, (hb7.block m (Array.getElem?_eq_some_iff.1 h5).1).trans h5, h6⟩)
  have HRun := Aside0.mk hrun
  clear hb7 hTk hC hl2 hgr hcells hc' hi hz0 hz1 hz2 hg6 hn6 hb6 hg5 hct hcs hcur hcx hb5 HM4 HR4 HB4 HT
  go_wp2_with (at_builtin; refine Lib.wpList_append_run W6 rfl _ _ 72 72 rfl (.slice (some ⟨B, 0, none⟩) x.size cap) (.slice (some ⟨B + 1, 0, none⟩) 3 3) rfl rfl _ w7 HRun.out ?_)
  go_wp2_with (go_at_call 79; (with_reducible refine HTk.out.mono ?_))
  rintro e w8 ⟨rfl, nd, rfl⟩
  obtain ⟨u8, hw8⟩ : ∃ V, w7.drewN nd = V := ⟨_, rfl⟩
  rw [hw8]
  have hb8 : Below w7.heap.size w7 u8 := hw8 ▸ below_drewN _ _
  have HB8 := Aside0.mk (HB7.out.trans (hb8.mono HB7.out.size))
  have HR8' := Aside0.mk (HR7.out.next hb8)
  have HM8' := Aside0.mk (show OwnM u8 m n D by obtain ⟨es, ck, h5, h6⟩ := HM7.out; exact ⟨es, ck, (hb8.block m (Array.getElem?_eq_some_iff.1 h5).1).trans h5, h6⟩)
  have hcp : u8.cell? ⟨gp, 0, none⟩ = some (.int .i64 p) := ((HG7.out.trans (hb8.mono HG7.out.size)).cell (p := ⟨gp, 0, none⟩) hgl).trans hgp
  have HOf8 := Aside0.mk (HOf.out u8 HB8.out HM8'.out)
  have hne := HM8'.out.ne HR8'.out
  clear hb8 hw8 HTk HRun HB7 HR7 HM7 hW6 hW5 hs5 hcap kb hBs HG7 HG4 HG3 hgp HOf HM8'
  go_wp2_with (fail)
  refine wp_loop_rounds 2 ?_
  unfold Code.rounds
  go_wp2_with (go_at_call 41; (with_reducible refine HOf8.out.mono ?_))
  rintro e u9 rfl hpo
  have hm9 := hpo.own
  have hf9 := hpo.fr
  clear hpo
  have HM9 := Aside0.mk hm9
  have HF9 := Aside0.mk ((Fr.of (S := fun q => q = m) HB8.out).trans hf9 (fun q hq => .inl hq))
  have HR9 := Aside0.mk (HR8'.out.fr hf9 hne)
  clear hm9 hf9 hne HR8' HB8 HOf8 hcp
  obtain ⟨K1, hK1⟩ : ∃ K1, u9.heap.size = K1 := ⟨_, rfl⟩
  obtain ⟨U, hU⟩ : ∃ V, u9.alloc (.cells (mk16 P Q) 53) = V := ⟨_, rfl⟩
  have hbU : Below u9.heap.size u9 U := hU ▸ (Below.refl _ u9).alloc (Nat.le_refl _) _
  have hkU : Blk U K1 53 (mk16 P Q) := hK1 ▸ (hU ▸ Blk.new u9 _ _)
  have hC := c_of_cells (W := U) (g := K1) (xs := ints16 P Q) (fun j u hj => by rw [hkU.cell j, mk_cells]; simpa using hj) (by show 16 ≤ _; omega)
  have hTk2 := QT.mark_take.calls 1100 X1 Y1 (some ⟨K1, 0, none⟩) 16 (ints16 P Q) X Y U hC (Nat.le_refl _) HT2.out
  have e16 : (ints16 P Q).length = 16 := rfl
  rw [e16] at hTk2
  have HTk2 := Aside0.mk hTk2
  have HFU := Aside0.mk (HF9.out.then_ hbU)
  have HRU := Aside0.mk (HR9.out.next hbU)
  have HMU := Aside0.mk (show OwnM U m (n + 1) (D.put (.int .i64 p) (.held (.agg (mk16 P Q)))) from hU ▸ HM9.out.alloc _)
  unfold mk16 at hU
  clear hC hTk2 e16 hkU hbU HF9 HR9 HM9 HT2
  unfold mk16
  go_wp2_with (go_at_call 79; (with_reducible refine HTk2.out.mono ?_))
  rintro e u10 ⟨rfl, nd2, rfl⟩
  obtain ⟨w8, hw8⟩ : ∃ V, U.drewN nd2 = V := ⟨_, rfl⟩
  rw [hw8]
  have hb8 : Below U.heap.size U w8 := hw8 ▸ below_drewN _ _
  have HF8 := Aside0.mk (HFU.out.then_ hb8)
  have HR8 := Aside0.mk (HRU.out.next hb8)
  have HM8 := Aside0.mk (show OwnM w8 m (n + 1) (D.put (.int .i64 p) (.held (.agg (mk16 P Q)))) by obtain ⟨es, ck, h5, h6⟩ := HMU.out; exact ⟨es, ck, (hb8.block m (Array.getElem?_eq_some_iff.1 h5).1).trans h5, h6⟩)
  clear hb8 hw8 HTk2 HFU HRU HMU hU hK1
  go_wp2_with (fail)
  unfold Code.rounds
  go_upto_region 16 with (fail)
  clear hrun HN HP HNo hl2
  go_wp2_with (fail)
  refine wp_loop_rounds 9 ?_
  unfold Code.rounds
  go_wp2_with (fail)
  unfold Code.rounds
  go_wp2_with (fail)
  unfold Code.rounds
  go_wp2_with (fail)
  unfold Code.rounds
  go_wp2_with (fail)
  unfold Code.rounds
  go_wp2_with (fail)
  unfold Code.rounds
  go_wp2_with (fail)
  unfold Code.rounds
  go_wp2_with (fail)
  unfold Code.rounds
  go_wp2_with (fail)
  unfold Code.rounds
  go_upto_region 22 with (fail)
  obtain ⟨R, hR⟩ : ∃ R, mk16 X Y = R := ⟨_, rfl⟩
  have hls : R.size = 16 := by rw [← hR]; rfl
  have hone : R.all (·.oneCell') = true := by rw [← hR]; simp [mk16, Value.oneCell']
  obtain ⟨W9, hW9⟩ : ∃ V, w8.alloc (.cells R 53) = V := ⟨_, rfl⟩
  have hb9 : Below w8.heap.size w8 W9 := hW9 ▸ (Below.refl _ w8).alloc (Nat.le_refl _) _
  have hk9 : Blk W9 w8.heap.size 53 R := hW9 ▸ Blk.new w8 _ _
  obtain ⟨K, hK⟩ : ∃ K, w8.heap.size = K := ⟨_, rfl⟩
  have hm9 : OwnM W9 m (n + 1) (D.put (.int .i64 p) (.held (.agg (mk16 P Q)))) := hW9 ▸ HM8.out.alloc _
  have hr9 := HR8.out.next hb9
  obtain ⟨V3, hup, hM3, hT3⟩ := hm9.store int_keyed_ Tryz.underlying103 (show n + 1 < maxLen by unfold maxLen; omega) (keyOf_int_mk Tryz.underlying3 hk) (val := .agg R) (show asIs (.agg R) = some (.held (.agg R), []) from rfl)
  have hwK : w.heap.size < K := by rw [← hK]; exact HR8.out.lt
  rw [hK] at hk9
  have f3 := turned_fr hT3
  have hkm := hm9.ne hk9
  have hrm := hm9.ne hr9
  have k3 := hk9.fr f3 hkm
  have r3 := hr9.fr f3 hrm
  have hmw : m < w.heap.size ∨ True := .inr trivial
  have hfr : Fr (fun q => q = m) w V3 := (HF8.out.then_ hb9).trans f3 (fun q hq => .inl hq)
  have hin : (Tryz.prog.info? 53).map (·.size) = some R.size := by rw [hls]; exact info16
  have hzs : zero16.size = R.size := by rw [hls]; rfl
  have HM3 := Aside0.mk hM3
  have HFR := Aside0.mk hfr
  have HRR := Aside0.mk hR
  have HR3 := Aside0.mk (And.intro k3 r3)
  have HIN := Aside0.mk (And.intro hin (And.intro hzs hone))
  have hW9' : w8.alloc (.cells (mk16 X Y) 53) = W9 := by rw [hR]; exact hW9
  unfold mk16 at hW9'
  rw [hW9', hK]
  clear hW9 hW9' hR hls hone hb9 hr9 hm9 hM3 hT3 f3 hkm hrm k3 r3 hmw hfr hin hzs HM8 HR8 HF8 hK
  go_upto_region 23 with (refine wpList_load_row rfl 53 _ rfl _ rfl 53 R (0, 0) _ hk9 Tryz.underlying53 rfl HIN.out.1 ?_)
  clear hup hk9
  have hk3 := HR3.out.1
  have hr3 := HR3.out.2
  have hbb := blk_setRow' HR3.out.2 HIN.out.2.1
  go_wp2_with (first
    | (refine wpList_load_row rfl 53 _ rfl _ rfl 53 R (0, 0) _ hk3 Tryz.underlying53 rfl HIN.out.1 ?_)
    | (refine wpList_store_row rfl 53 _ _ rfl _ R rfl rfl 53 zero16 hr3 HIN.out.1 HIN.out.2.1 HIN.out.2.2 ?_))
  refine bodyPost_ret (results_cell_row rfl _ _ w.heap.size 53 R (0, 0) _ rfl hbb Tryz.underlying53 rfl HIN.out.1) rfl ?_
  have hne := OwnM.ne HM3.out hr3
  refine ⟨by rw [HRR.out], ?_, HFR.out.trans (fr_setRow V3 w.heap.size R) (fun q hq => .inr (by subst hq; exact Nat.le_refl _))⟩
  rw [HRR.out]
  obtain ⟨es, ck, h5, h6⟩ := HM3.out
  exact ⟨es, ck, (setRow_other V3 w.heap.size m R (fun e => hne e.symm)).trans h5, h6⟩
end Go.Proofs.YtlggimmfaflfnaaGreatDoor.MK
