/- LinesOwn NodeRec -/
import Derived.Test.YtimmafiodhncgaaGreatDoorM9
import Derived.Test.YtimmafiodhncgaaGreatDoorM21
import Derived.Deep.RegionHeld3
import Derived.BigQuiet
import Derived.Test.YtimmafiodhncgaaGreatDoorM20
import Derived.RegionTactic
import Derived.Deep.RegionWith
import Derived.Laws.BytesArg
section
/- lines.own of a record: its words, the handles of its parts. -/
set_option linter.unusedVariables false
set_option linter.unusedSimpArgs false
namespace Go.Proofs.YtimmafiodhncgaaGreatDoor.TK
open Go.RowKit Go.Shelf Go.Lib Go.Proofs.YtimmafiodhncgaaGreatDoorW.PrintWords Go.Proofs.YtimmafiodhncgaaGreatDoorW.PrintMore Go.Proofs.YtimmafiodhncgaaGreatDoor.TF Go.Proofs.YtimmafiodhncgaaGreatDoor.TW

set_option maxHeartbeats 4000000 in
set_option maxRecDepth 100000 in
theorem own_rec (b g c : Nat) (L : List RowD) (j : Nat) (r : RowD) (x : ByteArray) (w : World) (h : Bk b (.slice (some ⟨g, 0, none⟩) L.length c) L w) (hj : L[j]? = some r) (hl : L.length ≤ 65536) (h1 : r.its.length ≤ 65536) (h2 : r.ps.length ≤ 65536) (htab : Tab w)
    (hx : ∀ A' c' B' d' W, Tab W → Calls Tryz.prog 151 #[spec r.k r.nl r.t r.n r.sm r.re r.im r.fl r.mask (.slice A' r.its.length c') (.slice B' r.ps.length d')] W fun e w' => e = .returned (.string x) ∧ Below W.heap.size W w') :
    Calls Tryz.prog 121 #[.pointer (some ⟨b, 0, none⟩), .int .i64 ((j : Int) + 1)] w fun e w' => ∃ B' d', e = .returned (.tuple #[.string x, .slice B' r.ps.length d']) ∧
      w'.ownsRow w.heap.size 3 1 (.slice B' r.ps.length d') r.ps.length (encs (Value.int .i64) r.ps) ∧ Below w.heap.size w w' := by
  have g2 : (((j : Int) + 1) == 0) = false := by simp; omega
  have HS := Aside0.mk (spec_ok b g c L j r w h hj hl h1 h2)
  have HX := Aside0.mk hx
  unfold spec at HS HX
  clear h hx
  go_enter Tryz.func121, Tryz.ntmps121
  go_wp2_with (go_at_call 101; (with_reducible refine HS.out.mono ?_))
  rintro e w1 ⟨A', c', B', d', rfl, ho9, ho10, hB1⟩
  obtain ⟨R, hR⟩ : ∃ R : Array Value, #[.int .u8 r.k, .bool r.nl, .string r.t, .int .i16 r.n, .int .i8 r.sm, .float .f64 r.re, .float .f64 r.im, .bool r.fl, .int .u32 r.mask, .slice A' r.its.length c', .slice B' r.ps.length d'] = R := ⟨_, rfl⟩
  have hls : R.size = 11 := by rw [← hR]; rfl
  obtain ⟨a, ha⟩ : ∃ a, w1.heap.size = a := ⟨_, rfl⟩
  have hn := Blk.new w1 52 #[.int .u8 0, .bool false, .string ⟨#[]⟩, .int .i16 0, .int .i8 0, .float .f64 0, .float .f64 0, .bool false, .int .u32 0, .slice none 0 0, .slice none 0 0]
  have hb1 : Below w.heap.size w (w1.alloc (.cells #[.int .u8 0, .bool false, .string ⟨#[]⟩, .int .i16 0, .int .i8 0, .float .f64 0, .float .f64 0, .bool false, .int .u32 0, .slice none 0 0, .slice none 0 0] 52)) := hB1.alloc hB1.size _
  have hq := ho10.alloc (.cells #[.int .u8 0, .bool false, .string ⟨#[]⟩, .int .i16 0, .int .i8 0, .float .f64 0, .float .f64 0, .bool false, .int .u32 0, .slice none 0 0, .slice none 0 0] 52)
  rw [ha] at hn
  have hst : Sem.run Tryz.prog (storeCells ⟨a, 0, none⟩ R.toList 0) (w1.alloc (.cells #[.int .u8 0, .bool false, .string ⟨#[]⟩, .int .i16 0, .int .i8 0, .float .f64 0, .float .f64 0, .bool false, .int .u32 0, .slice none 0 0, .slice none 0 0] 52)) = .ok () ((w1.alloc (.cells #[.int .u8 0, .bool false, .string ⟨#[]⟩, .int .i16 0, .int .i8 0, .float .f64 0, .float .f64 0, .bool false, .int .u32 0, .slice none 0 0, .slice none 0 0] 52)).setRow a R) := run_storeCells_from a 52 R.toList 0 _ _ hn (by simp [hls]) (fun v hv => by rw [← hR] at hv; revert v; simp [Value.oneCell'])
  have hg2 : Blk ((w1.alloc (.cells #[.int .u8 0, .bool false, .string ⟨#[]⟩, .int .i16 0, .int .i8 0, .float .f64 0, .float .f64 0, .bool false, .int .u32 0, .slice none 0 0, .slice none 0 0] 52)).setRow a R) a 52 R := setRow_heap _ a _ R 52 (0, 0) hn
  have hwa : w.heap.size ≤ a := by rw [← ha]; exact hB1.size
  have bb : Below w.heap.size w ((w1.alloc (.cells #[.int .u8 0, .bool false, .string ⟨#[]⟩, .int .i16 0, .int .i8 0, .float .f64 0, .float .f64 0, .bool false, .int .u32 0, .slice none 0 0, .slice none 0 0] 52)).setRow a R) := hb1.trans ⟨rfl, rfl, rfl, by rw [setRow_size]; exact Nat.le_refl _, fun i hi => setRow_other _ _ _ _ (by omega)⟩
  have hqV : ((w1.alloc (.cells #[.int .u8 0, .bool false, .string ⟨#[]⟩, .int .i16 0, .int .i8 0, .float .f64 0, .float .f64 0, .bool false, .int .u32 0, .slice none 0 0, .slice none 0 0] 52)).setRow a R).ownsRow w.heap.size 3 1 (.slice B' r.ps.length d') r.ps.length (encs (Value.int .i64) r.ps) := by
    refine own_fr (S := fun k => k = a) hq ⟨rfl, rfl, rfl, by rw [setRow_size]; exact Nat.le_refl _, fun i _ hi => setRow_other _ _ _ _ hi⟩ (fun k hk e => ?_)
    subst e
    exact own_blk_ne hq hn (by decide) hk
  obtain ⟨V, hV⟩ : ∃ V, (w1.alloc (.cells #[.int .u8 0, .bool false, .string ⟨#[]⟩, .int .i16 0, .int .i8 0, .float .f64 0, .float .f64 0, .bool false, .int .u32 0, .slice none 0 0, .slice none 0 0] 52)).setRow a R = V := ⟨_, rfl⟩
  rw [hV] at hg2 bb hst hqV
  have HN := Aside0.mk hg2
  have HR := Aside0.mk hR
  have HB := Aside0.mk bb
  have HQ := Aside0.mk hqV
  clear hn hb1 hq hg2 bb hqV hV HS hwa ho9 ho10 hB1
  go_upto_region 4 with (fail)
  have hnR := HN.out
  rw [← HR.out] at hnR
  have HN2 := Aside0.mk hnR
  obtain ⟨c0, c1, c2, c3, c4, c5, c6, c7, c8, c9, c10⟩ : V.cell? ⟨a, 0, none⟩ = some (.int .u8 r.k) ∧ V.cell? ⟨a, 1, none⟩ = some (.bool r.nl) ∧ V.cell? ⟨a, 2, none⟩ = some (.string r.t) ∧ V.cell? ⟨a, 3, none⟩ = some (.int .i16 r.n) ∧ V.cell? ⟨a, 4, none⟩ = some (.int .i8 r.sm) ∧ V.cell? ⟨a, 5, none⟩ = some (.float .f64 r.re) ∧ V.cell? ⟨a, 6, none⟩ = some (.float .f64 r.im) ∧ V.cell? ⟨a, 7, none⟩ = some (.bool r.fl) ∧ V.cell? ⟨a, 8, none⟩ = some (.int .u32 r.mask) ∧ V.cell? ⟨a, 9, none⟩ = some (.slice A' r.its.length c') ∧ V.cell? ⟨a, 10, none⟩ = some (.slice B' r.ps.length d') := ⟨(hnR.cell 0).trans rfl, (hnR.cell 1).trans rfl, (hnR.cell 2).trans rfl, (hnR.cell 3).trans rfl, (hnR.cell 4).trans rfl, (hnR.cell 5).trans rfl, (hnR.cell 6).trans rfl, (hnR.cell 7).trans rfl, (hnR.cell 8).trans rfl, (hnR.cell 9).trans rfl, (hnR.cell 10).trans rfl⟩
  have bd : Below V.heap.size V V.drew := (Below.refl _ V).drew
  have nd := HN2.out.next bd
  have hd : V.drew.cell? ⟨a, 0, none⟩ = some (.int .u8 r.k) ∧ V.drew.cell? ⟨a, 1, none⟩ = some (.bool r.nl) ∧ V.drew.cell? ⟨a, 2, none⟩ = some (.string r.t) ∧ V.drew.cell? ⟨a, 3, none⟩ = some (.int .i16 r.n) ∧ V.drew.cell? ⟨a, 4, none⟩ = some (.int .i8 r.sm) ∧ V.drew.cell? ⟨a, 5, none⟩ = some (.float .f64 r.re) ∧ V.drew.cell? ⟨a, 6, none⟩ = some (.float .f64 r.im) ∧ V.drew.cell? ⟨a, 7, none⟩ = some (.bool r.fl) ∧ V.drew.cell? ⟨a, 8, none⟩ = some (.int .u32 r.mask) ∧ V.drew.cell? ⟨a, 9, none⟩ = some (.slice A' r.its.length c') ∧ V.drew.cell? ⟨a, 10, none⟩ = some (.slice B' r.ps.length d') := ⟨(nd.cell 0).trans rfl, (nd.cell 1).trans rfl, (nd.cell 2).trans rfl, (nd.cell 3).trans rfl, (nd.cell 4).trans rfl, (nd.cell 5).trans rfl, (nd.cell 6).trans rfl, (nd.cell 7).trans rfl, (nd.cell 8).trans rfl, (nd.cell 9).trans rfl, (nd.cell 10).trans rfl⟩
  obtain ⟨d0, d1, d2, d3, d4, d5, d6, d7, d8, d9, d10⟩ := hd
  have hw := HX.out A' c' B' d' V.drew (htab.stays (HB.out.drew))
  rw [HR.out] at hw
  have HW := Aside0.mk hw
  clear hw
  clear bd nd hnR HX hst hls ha hl h1 h2 g2 htab HN hj
  go_region_held3 (fun V => V.cell? ⟨a, 0, none⟩ = some (.int .u8 r.k) ∧ V.cell? ⟨a, 1, none⟩ = some (.bool r.nl) ∧ V.cell? ⟨a, 2, none⟩ = some (.string r.t) ∧ V.cell? ⟨a, 3, none⟩ = some (.int .i16 r.n) ∧ V.cell? ⟨a, 4, none⟩ = some (.int .i8 r.sm) ∧ V.cell? ⟨a, 5, none⟩ = some (.float .f64 r.re) ∧ V.cell? ⟨a, 6, none⟩ = some (.float .f64 r.im) ∧ V.cell? ⟨a, 7, none⟩ = some (.bool r.fl) ∧ V.cell? ⟨a, 8, none⟩ = some (.int .u32 r.mask) ∧ V.cell? ⟨a, 9, none⟩ = some (.slice A' r.its.length c') ∧ V.cell? ⟨a, 10, none⟩ = some (.slice B' r.ps.length d')) (first | exact ⟨c0, c1, c2, c3, c4, c5, c6, c7, c8, c9, c10⟩ | exact ⟨d0, d1, d2, d3, d4, d5, d6, d7, d8, d9, d10⟩ | exact ⟨k0, k1, k2, k3, k4, k5, k6, k7, k8, k9, k10⟩ | go_keep) (first | (go_at_call 151; refine HW.out.mono ?_; rintro e w3 ⟨rfl, h3⟩; have x3 := (HN2.out.next (Below.refl _ V).drew).next h3; obtain ⟨k0, k1, k2, k3, k4, k5, k6, k7, k8, k9, k10⟩ : w3.cell? ⟨a, 0, none⟩ = some (.int .u8 r.k) ∧ w3.cell? ⟨a, 1, none⟩ = some (.bool r.nl) ∧ w3.cell? ⟨a, 2, none⟩ = some (.string r.t) ∧ w3.cell? ⟨a, 3, none⟩ = some (.int .i16 r.n) ∧ w3.cell? ⟨a, 4, none⟩ = some (.int .i8 r.sm) ∧ w3.cell? ⟨a, 5, none⟩ = some (.float .f64 r.re) ∧ w3.cell? ⟨a, 6, none⟩ = some (.float .f64 r.im) ∧ w3.cell? ⟨a, 7, none⟩ = some (.bool r.fl) ∧ w3.cell? ⟨a, 8, none⟩ = some (.int .u32 r.mask) ∧ w3.cell? ⟨a, 9, none⟩ = some (.slice A' r.its.length c') ∧ w3.cell? ⟨a, 10, none⟩ = some (.slice B' r.ps.length d') := ⟨(x3.cell 0).trans rfl, (x3.cell 1).trans rfl, (x3.cell 2).trans rfl, (x3.cell 3).trans rfl, (x3.cell 4).trans rfl, (x3.cell 5).trans rfl, (x3.cell 6).trans rfl, (x3.cell 7).trans rfl, (x3.cell 8).trans rfl, (x3.cell 9).trans rfl, (x3.cell 10).trans rfl⟩))
  have HB3 := Aside0.mk (HB.out.drew.trans (h3.mono HB.out.drew.size))
  have HQ3 := Aside0.mk (TF.own_next (TF.own_next HQ.out (Below.refl _ V).drew) h3)
  clear c0 d0 k0 c1 d1 k1 c2 d2 k2 c3 d3 k3 c4 d4 k4 c5 d5 k5 c6 d6 k6 c7 d7 k7 c8 d8 k8 c9 d9 k9 c10 d10 k10 h3 x3
  go_wp2_with (fail)
  go_ret2
  exact ⟨B', d', by kernel_rfl, HQ3.out, HB3.out⟩
end Go.Proofs.YtimmafiodhncgaaGreatDoor.TK
end
section
/- lines.short.node of a record without parts, and of one with one part; Short. -/
set_option linter.unusedVariables false
set_option linter.unusedSimpArgs false
namespace Go.Proofs.YtimmafiodhncgaaGreatDoor.TS2
open Go.RowKit Go.Shelf Go.Proofs.YtimmafiodhncgaaGreatDoorW.PrintWords Go.Proofs.YtimmafiodhncgaaGreatDoorW.PrintMore Go.Proofs.YtimmafiodhncgaaGreatDoor.TB

/-- what Short tells its nodes to: nobody -/
def nobody : Value := .func (.func 65) #[] #[]
theorem nobody_calls (x : ByteArray) (a b : Int) (w : World) : Calls Tryz.prog 65 #[.string x, .int .i64 a, .int .i64 b] w fun e w' => e = .returned (.tuple #[]) ∧ w' = w := by
  go_enter Tryz.func65, Tryz.ntmps65
  go_wp2
  go_end0
  exact ⟨rfl, rfl⟩
def OwnIs (B : Nat) (bp : Value) (h : Int) (x : ByteArray) (ps : List Int) (w : World) : Prop :=
  ∀ W, Below B w W → Calls Tryz.prog 121 #[bp, .int .i64 h] W fun e w' => ∃ B' d', e = .returned (.tuple #[.string x, .slice B' ps.length d']) ∧ w'.ownsRow W.heap.size 3 1 (.slice B' ps.length d') ps.length (encs (Value.int .i64) ps) ∧ Below W.heap.size W w'
def NodeIs (B q : Nat) (bp : Value) (h : Int) (y : ByteArray) (w : World) : Prop :=
  ∀ (path : ByteArray) (n : Nat) (bs : List Value) (W : World), Below B w W → B ≤ W.heap.size → path.size ≤ 1000 → n ≤ 1048576 → bs.length ≤ 1048576 → Sh B q bp nobody n bs W →
    Calls Tryz.prog 66 #[.pointer (some ⟨q, 0, none⟩), .int .i64 h, .string path] W fun e w' => e = .returned (.tuple #[]) ∧ (Sh B q bp nobody ((n : Int) + (y.size : Int)) (bs ++ Lib.strCells y) w' ∧ Below B W w')
theorem ownF_below {w W : World} {B n : Nat} {v : Value} {xs : List Value} (h : w.ownsRowF B 5 1 v n xs) (hb : Below w.heap.size w W) : W.ownsRowF B 5 1 v n xs := by
  obtain ⟨h1, h2⟩ := h
  refine ⟨h1, ?_⟩
  rcases h2 with h2 | ⟨g, cap, cur, fz, e1, e2, e3, e4⟩
  · exact .inl h2
  · exact .inr ⟨g, cap, cur, fz, e1, e2, (hb.block g (size_of_heap e3)).trans e3, e4⟩
theorem Sh.next {B q : Nat} {bp sn : Value} {n : Int} {bs : List Value} {w W : World} (h : Sh B q bp sn n bs w) (hb : Below w.heap.size w W) : Sh B q bp sn n bs W := by
  obtain ⟨p, v, h1, h2, h3, h4, h5⟩ := h
  exact ⟨p, v, h1, h2, (hb.block q (size_of_heap h3)).trans h3, ownF_below h4 hb, h5⟩
set_option maxHeartbeats 2000000 in
set_option maxRecDepth 100000 in
theorem node_leaf (B q : Nat) (bp : Value) (h : Int) (x : ByteArray) (w : World) (hO : OwnIs B bp h x [] w) (hx : x.size ≤ 100000) (hch : ∀ j, (h : j < x.size) → (x[j]'h).toNat < 128) : NodeIs B q bp h x w := by
  intro path n bs W hW hBW hp hn hbs hS
  have hO' := hO W hW
  have hB : B ≤ q := by obtain ⟨p, v, _, h2, _⟩ := hS; exact h2
  have cc : W.cell? ⟨q, 0, none⟩ = some bp ∧ W.cell? ⟨q, 3, none⟩ = some (.int .i64 n) := by
    obtain ⟨p, v, _, _, hbk, _⟩ := hS
    exact ⟨by rw [Lib.cell_of_heap hbk]; rfl, by rw [Lib.cell_of_heap hbk]; rfl⟩
  obtain ⟨c0, c3⟩ := cc
  have HS := Aside0.mk hS
  have HO := Aside0.mk hO'
  clear hS hO hO'
  go_enter Tryz.func66, Tryz.ntmps66
  go_wp2_with (go_at_call 121; (with_reducible refine HO.out.mono ?_))
  rintro e w1 ⟨B', d', rfl, ho, h1⟩
  have HS1 := Aside0.mk (HS.out.next h1)
  have hB1 : Below B W w1 := h1.mono hBW
  have HB1 := Aside0.mk hB1
  have hBw1 : B ≤ w1.heap.size := Nat.le_trans hBW h1.size
  clear ho h1 c0 c3 HS HO hB1
  go_wp2_with (go_at_call 122; refine (put_ascii B q bp nobody n bs x _ HS1.out hBw1 (by omega) (by omega) (by omega) hch).mono ?_)
  rintro e w2 ⟨rfl, h2, b2, -⟩
  have HB2 := Aside0.mk (HB1.out.trans b2)
  obtain ⟨v2, _, hbk, hown, hne⟩ := h2
  have c3 : w2.cell? ⟨q, 3, none⟩ = some (.int .i64 ((n : Int) + (x.size : Int))) := by rw [Lib.cell_of_heap hbk]; rfl
  have c4 : w2.cell? ⟨q, 4, none⟩ = some nobody := by rw [Lib.cell_of_heap hbk]; rfl
  unfold nobody at c4
  have HS2 := Aside0.mk (show Sh B q bp nobody ((n : Int) + (x.size : Int)) (bs ++ Lib.strCells x) w2 from ⟨_, v2, .inr rfl, hB, hbk, hown, hne⟩)
  clear hbk hown hne HS1 HB1 b2 hBw1
  go_wp2_with (fail)
  refine wp_loop_rounds 1 ?_
  unfold Code.rounds
  go_wp2_with (fail)
  have hc := nobody_calls path n ((n : Int) + (x.size : Int)) w2.drew
  go_region_with (refine hc.mono ?_; rintro e w3 ⟨rfl, rfl⟩)
  all_goals
    go_wp2
    go_end0
    exact ⟨rfl, HS2.out.next (Below.refl _ w2).drew, HB2.out.drew⟩
theorem conv_zero (W : World) : Sem.run Tryz.prog (convert 59 9 (.slice (some ⟨W.heap.size, 0, none⟩) 1 1)) (W.alloc (.cells #[.int .u8 0] 5)) = .ok (.string ⟨#[0]⟩) (W.alloc (.cells #[.int .u8 0] 5)) := by
  have hc : ∀ i, i < 1 → (W.alloc (.cells #[.int .u8 0] 5)).cell? ⟨W.heap.size, 0 + i, none⟩ = some (.int .u8 (([0] : List Int).getD i 0)) := fun i hi => by
    obtain rfl : i = 0 := by omega
    rw [cell_of_row _ _ _ _ _ _ (World.alloc_heap_new W _)]; rfl
  have h := run_convert_bytes_arg (P := Tryz.prog) (W.alloc (.cells #[.int .u8 0] 5)) 59 5 Tryz.underlying59 Tryz.underlying5 W.heap.size 0 1 1 [0] rfl hc 9 Tryz.underlying9
  have e : strOfNums [0] = ⟨#[0]⟩ := by kernel_rfl
  rw [e] at h
  exact h
theorem own_first {W : World} {base c : Nat} {e : TypeId} {A : Option Addr} {x : Value} (h : W.ownsRow base e 1 (.slice A 1 c) 1 [x]) : ∃ g, A = some ⟨g, 0, none⟩ ∧ W.cell? ⟨g, 0, none⟩ = some x ∧ ∃ cells, W.heap[g]? = some (.cells cells e (0, 0)) := by
  obtain ⟨g, rfl⟩ := TF.own_some h (by omega)
  have := h.cells (g := g) rfl 0 x rfl
  rw [TK.add_plain'] at this
  exact ⟨g, rfl, this, TF.own_typed h (by simp [Value.ownBlock])⟩
set_option maxHeartbeats 2000000 in
set_option maxRecDepth 100000 in
theorem node_one (B q : Nat) (bp : Value) (h p : Int) (x y : ByteArray) (w : World) (hO : OwnIs B bp h x [p] w) (hN : NodeIs B q bp p y w) (hx : x.size ≤ 100000) (hy : y.size ≤ 100000) (hch : ∀ j, (h : j < x.size) → (x[j]'h).toNat < 128) :
    ∀ (path : ByteArray) (n : Nat) (bs : List Value) (W : World), Below B w W → B ≤ W.heap.size → path.size ≤ 100 → n ≤ 100000 → bs.length ≤ 100000 → Sh B q bp nobody n bs W →
    Calls Tryz.prog 66 #[.pointer (some ⟨q, 0, none⟩), .int .i64 h, .string path] W fun e w' => e = .returned (.tuple #[]) ∧ (Sh B q bp nobody ((n : Int) + ((x.size + y.size + 3 : Nat) : Int)) (bs ++ Lib.strCells x ++ Lib.strCells ⟨#[32, 40]⟩ ++ Lib.strCells y ++ Lib.strCells ⟨#[41]⟩) w' ∧ Below B W w') := by
  intro path n bs W hW hBW hp hn hbs hS
  have hO' := hO W hW
  have hB : B ≤ q := by obtain ⟨p, v, _, h2, _⟩ := hS; exact h2
  have cc : W.cell? ⟨q, 0, none⟩ = some bp ∧ W.cell? ⟨q, 3, none⟩ = some (.int .i64 n) := by
    obtain ⟨p, v, _, _, hbk, _⟩ := hS
    exact ⟨by rw [Lib.cell_of_heap hbk]; rfl, by rw [Lib.cell_of_heap hbk]; rfl⟩
  obtain ⟨c0, c3⟩ := cc
  have HS := Aside0.mk hS
  have HO := Aside0.mk hO'
  clear hS hO hO'
  go_enter Tryz.func66, Tryz.ntmps66
  go_wp2_with (go_at_call 121; (with_reducible refine HO.out.mono ?_))
  rintro e w1 ⟨B', d', rfl, ho, h1⟩
  obtain ⟨g, rfl, hg, cells, hgc⟩ := own_first (x := .int .i64 p) ho
  have hS1 := HS.out.next h1
  have HS1 := Aside0.mk hS1
  have hgq : g ≠ q := by
    rintro rfl
    obtain ⟨p, v, _, _, hbk, _⟩ := hS1
    rw [hgc] at hbk; cases hbk
  have hB1 : Below B W w1 := h1.mono hBW
  have HB1 := Aside0.mk hB1
  have hBw1 : B ≤ w1.heap.size := Nat.le_trans hBW h1.size
  clear ho h1 c0 c3 HS HO hB1 hS1
  go_wp2_with (go_at_call 122; refine (put_ascii B q bp nobody n bs x _ HS1.out hBw1 (by omega) (by omega) (by omega) hch).mono ?_)
  rintro e w2 ⟨rfl, h2, b2, k2⟩
  have hgc2 : w2.heap[g]? = some (.cells cells 3 (0, 0)) := k2 g _ hgc (fun e => hgq (Option.some.inj e)) (fun c fz e => by cases e)
  have hg2 : w2.cell? ⟨g, 0, none⟩ = some (.int .i64 p) := (World.cell?_of_block (hgc2.trans hgc.symm)).trans hg
  have HB2 := Aside0.mk (HB1.out.trans b2)
  have hBw2 : B ≤ w2.heap.size := Nat.le_trans hBw1 b2.size
  obtain ⟨n1, hn1⟩ : ∃ n1, n + x.size = n1 := ⟨_, rfl⟩
  obtain ⟨bs1, hbs1⟩ : ∃ bs1, bs ++ Lib.strCells x = bs1 := ⟨_, rfl⟩
  have hbl1 : bs1.length ≤ 1000000 := by rw [← hbs1, List.length_append, Lib.strCells_length]; omega
  have h2' := h2.sh
  rw [hbs1, show (n : Int) + (x.size : Int) = (n1 : Int) from by omega] at h2'
  have HS2 := Aside0.mk h2'
  have hn1' : n1 ≤ 1000000 := by omega
  have HE := Aside0.mk (And.intro hn1 hbs1)
  clear HS1 HB1 b2 hBw1 hg k2 h2 hgc h2' hn1 hbs1 hn hbs hx hch
  go_wp2_with (fail)
  refine wp_loop_rounds 2 ?_
  unfold Code.rounds
  go_wp2_with (go_at_call 122; refine (put_ascii B q bp nobody n1 bs1 ⟨#[32, 40]⟩ _ HS2.out hBw2 (by omega) (by decide) (by omega) (by decide +kernel)).mono ?_)
  rintro e w3 rfl h3 b3 -
  have HS3 := Aside0.mk h3.sh
  have HB3 := Aside0.mk (HB2.out.trans b3)
  have hBw3 : B ≤ w3.heap.size := Nat.le_trans hBw2 b3.size
  obtain ⟨bs3, hbs3⟩ : ∃ bs3, bs1 ++ Lib.strCells ⟨#[32, 40]⟩ = bs3 := ⟨_, rfl⟩
  have hbl3 : bs3.length ≤ 1048576 := by rw [← hbs3, List.length_append, Lib.strCells_length]; show bs1.length + 2 ≤ _; omega
  have hs3' : Sh B q bp nobody ((n1 + 2 : Nat) : Int) bs3 w3 := by
    have := h3.sh
    rw [hbs3] at this
    rw [show ((n1 + 2 : Nat) : Int) = (n1 : Int) + 2 from by omega]
    exact this
  have hNc := hN (path ++ ⟨#[0]⟩) (n1 + 2) bs3 (w3.alloc (.cells #[.int .u8 0] 5)) ((hW.trans HB3.out).alloc hBw3 _) (by rw [World.size_alloc]; omega) (by rw [ByteArray.size_append]; show path.size + 1 ≤ _; omega) (by omega) hbl3 (hs3'.next ((Below.refl _ w3).alloc (Nat.le_refl _) _))
  have HNc := Aside0.mk hNc
  have HE3 := Aside0.mk hbs3
  have hcv := conv_zero w3
  have HBA := Aside0.mk (HB3.out.alloc hBw3 (.cells #[.int .u8 0] 5))
  have hBwA : B ≤ (w3.alloc (.cells #[.int .u8 0] 5)).heap.size := by rw [World.size_alloc]; omega
  clear HS2 HB2 h3 b3 hBw2 hg2 hgc2 hNc hs3' hbs3 hN HS3 HB3
  go_wp2_with (go_at_call 66; (with_reducible refine HNc.out.mono ?_))
  rintro e w4 ⟨rfl, h4, b4⟩
  obtain ⟨n4, hn4⟩ : ∃ n4, n1 + 2 + y.size = n4 := ⟨_, rfl⟩
  obtain ⟨bs4, hbs4⟩ : ∃ bs4, bs3 ++ Lib.strCells y = bs4 := ⟨_, rfl⟩
  have hbl4 : bs4.length ≤ 2000000 := by rw [← hbs4, List.length_append, Lib.strCells_length]; omega
  rw [hbs4, show ((n1 + 2 : Nat) : Int) + (y.size : Int) = (n4 : Int) from by omega] at h4
  have hn4' : n4 ≤ 2000000 := by omega
  have HS4 := Aside0.mk h4
  have HE4 := Aside0.mk (And.intro hn4 hbs4)
  have HB4 := Aside0.mk (HBA.out.trans b4)
  have hBw4 : B ≤ w4.heap.size := Nat.le_trans hBwA b4.size
  clear h4 hn4 hbs4 HNc hcv HBA b4 hBwA hbl3 hbl1 hn1'
  go_wp2_with (fail)
  unfold Code.rounds
  go_wp2_with (go_at_call 122; refine (put_ascii B q bp nobody n4 bs4 ⟨#[41]⟩ _ HS4.out hBw4 (by omega) (by decide) (by omega) (by decide +kernel)).mono ?_)
  rintro e w5 rfl h5 b5 -
  have HB5 := Aside0.mk (HB4.out.trans b5)
  obtain ⟨v5, _, hbk, hown, hne⟩ := h5
  have c3 : w5.cell? ⟨q, 3, none⟩ = some (.int .i64 ((n4 : Int) + 1)) := by rw [Lib.cell_of_heap hbk]; rfl
  have c4 : w5.cell? ⟨q, 4, none⟩ = some nobody := by rw [Lib.cell_of_heap hbk]; rfl
  unfold nobody at c4
  have HS5 := Aside0.mk (show Sh B q bp nobody ((n : Int) + ((x.size + y.size + 3 : Nat) : Int)) (bs ++ Lib.strCells x ++ Lib.strCells ⟨#[32, 40]⟩ ++ Lib.strCells y ++ Lib.strCells ⟨#[41]⟩) w5 from by
    rw [HE.out.2, HE3.out, HE4.out.2, show (n : Int) + ((x.size + y.size + 3 : Nat) : Int) = (n4 : Int) + 1 from by have := HE.out.1; have := HE4.out.1; omega]
    exact ⟨_, v5, .inr rfl, hB, hbk, hown, hne⟩)
  clear hbk hown hne HS4 HB4 b5 hBw4
  go_wp2_with (fail)
  have hc := nobody_calls path n ((n4 : Int) + 1) w5.drew
  go_region_with (refine hc.mono ?_; rintro e w6 ⟨rfl, rfl⟩)
  all_goals
    go_wp2
    go_end0
    exact ⟨rfl, HS5.out.next (Below.refl _ w5).drew, HB5.out.drew⟩
end Go.Proofs.YtimmafiodhncgaaGreatDoor.TS2
end
