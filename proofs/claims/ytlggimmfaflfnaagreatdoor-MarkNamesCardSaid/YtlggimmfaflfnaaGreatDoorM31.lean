/- grasp.Nodes: walked, within. -/
import Derived.Test.YtlggimmfaflfnaaGreatDoorM14
import Derived.Laws.AppendOwn
import Derived.Deep.LoopGhost
set_option linter.unusedVariables false
set_option linter.unusedSimpArgs false
namespace Go.Proofs.YtlggimmfaflfnaaGreatDoor.MK
open Go.RowKit Go.Shelf Go.Proofs.YtlggimmfaflfnaaGreatDoorW.PrintWords Go.Proofs.YtlggimmfaflfnaaGreatDoorW.PrintMore Go.Proofs.YtlggimmfaflfnaaGreatDoor.TF Go.Proofs.YtlggimmfaflfnaaGreatDoor.TK Go.Proofs.YtlggimmfaflfnaaGreatDoor.TB

theorem infoInt : (Tryz.prog.info? 3).map (fun i => (i.zero, i.size, i.bytes)) = some (some (.int .i64 0), 1, 8) := by kernel_rfl
/-- what is walked of a handle -/
def Wk (B b : Nat) (h : Int) (ps : List Int) (w0 : World) : Prop :=
  ∀ W, Below B w0 W → B ≤ W.heap.size → Calls Tryz.prog 135 #[.pointer (some ⟨b, 0, none⟩), .int .i64 h] W fun e w' => ∃ v, e = .returned v ∧ w'.ownsRow B 3 1 v ps.length (encs (Value.int .i64) ps) ∧ Below W.heap.size W w'
def WithinIs (B b : Nat) (h : Int) (ys : List Int) (w0 : World) : Prop :=
  ∀ (v : Value) (xs : List Int) (W : World), Below B w0 W → B ≤ W.heap.size → xs.length ≤ 1000 → W.ownsRow B 3 1 v xs.length (encs (Value.int .i64) xs) →
    Calls Tryz.prog 82 #[.pointer (some ⟨b, 0, none⟩), .int .i64 h, v] W fun e w' => ∃ v', e = .returned v' ∧ w'.ownsRow B 3 1 v' (xs ++ ys).length (encs (Value.int .i64) (xs ++ ys)) ∧ Below B W w'
theorem one_ (p : Int) : ∀ u ∈ [Value.int .i64 p], u.oneCell' = true := fun u hu => by simp at hu; subst hu; rfl
theorem encs_add (xs ys : List Int) : encs (Value.int .i64) xs ++ encs (Value.int .i64) ys = encs (Value.int .i64) (xs ++ ys) := by unfold encs; simp
theorem grown_below {B : Nat} {w V W : World} {row : Option Nat} (h : Below B w V) (hg : V.grownBy W row) (hB : B ≤ V.heap.size) (hr : ∀ k, row = some k → B ≤ k) : Below B w W :=
  h.trans ⟨hg.os, hg.tape, hg.output, hg.size, fun k hk => hg.block k (by omega) (fun e => by have := hr k e.symm; omega)⟩
set_option maxRecDepth 100000 in
set_option maxHeartbeats 4000000 in
theorem within_leaf (B b : Nat) (h : Int) (w0 : World) (hW : Wk B b h [] w0) : WithinIs B b h [h] w0 := by
  intro v xs W hb hB hx hown
  obtain ⟨i0, hi, hz0, hz1, hz2⟩ := info_parts infoInt
  have HW := Aside0.mk hW
  have Hb := Aside0.mk hb
  have HO := Aside0.mk hown
  have h1 := hown.alloc (.cells #[.int .i64 h] 3)
  obtain ⟨n, hn⟩ : ∃ n, xs.length = n := ⟨_, rfl⟩
  have HN := Aside0.mk hn
  have hc : ∀ (j : Nat) u, [Value.int .i64 h][j]? = some u → (W.alloc (.cells #[.int .i64 h] 3)).cell? ((⟨W.heap.size, 0, none⟩ : Addr).add j) = some u := fun j u hj => by
    match j, hj with
    | 0, hj => simp at hj; subst hj; rw [TK.add_plain']; exact (Blk.new W _ _).cell 0
  have HC := Aside0.mk hc
  rw [hn] at h1
  have hnn : n ≤ 1000 := by omega
  clear hW hb hown hn hc hx
  go_enter Tryz.func82, Tryz.ntmps82
  go_wp2_with (at_builtin; refine wpList_append_own _ rfl _ _ 35 rfl B 3 i0 (.int .i64 0) 1 8 Tryz.underlying35 hi hz0 hz1 hz2 rfl (by decide) _ _ _ rfl h1 ⟨W.heap.size, 0, none⟩ 1 1 [.int .i64 h] rfl rfl HC.out ?c2 ?c3 ?c4 ?c5 ?_)
  case c2 => intro u hu; simp at hu; subst hu; rfl
  case c3 => unfold maxLen; omega
  case c4 => omega
  case c5 => rw [World.size_alloc]; omega
  intro v' w2 hown' hgrow _
  have hb2 : Below B W w2 := grown_below ((Below.refl B W).alloc hB _) hgrow (by rw [World.size_alloc]; omega) (fun k hk => (h1.lt k hk).1)
  have HB2 := Aside0.mk hb2
  have HO2 := Aside0.mk hown'
  have hBw : B ≤ w2.heap.size := Nat.le_trans hB hb2.size
  have HWk := Aside0.mk (HW.out w2 (Hb.out.trans hb2) hBw)
  clear hown' hgrow hb2 h1 hi hz0 hz1 hz2
  go_wp2_with (go_at_call 135; (with_reducible refine HWk.out.mono ?_))
  rintro e w3 ⟨u, rfl, ho, h3⟩
  obtain ⟨A3, c3, rfl⟩ := TF.own_slice ho
  have HO3 := Aside0.mk (TF.own_next HO2.out h3)
  have HB3 := Aside0.mk (HB2.out.trans (h3.mono hBw))
  clear ho h3
  go_wp2_with (fail)
  refine wp_loop_rounds 1 ?_
  unfold Code.rounds
  go_wp2_with (fail)
  go_ret
  refine ⟨v', rfl, ?_, HB3.out⟩
  have := HO3.out
  rw [show [Value.int .i64 h] = encs (Value.int .i64) [h] from rfl, encs_add, ← HN.out] at this
  exact this
set_option maxRecDepth 100000 in
set_option maxHeartbeats 4000000 in
theorem within_one (B b : Nat) (h p : Int) (ys : List Int) (w0 : World) (hW : Wk B b h [p] w0) (hP : WithinIs B b p ys w0) : 
  ∀ (v : Value) (xs : List Int) (W : World), Below B w0 W → B ≤ W.heap.size → xs.length ≤ 100 → W.ownsRow B 3 1 v xs.length (encs (Value.int .i64) xs) →
    Calls Tryz.prog 82 #[.pointer (some ⟨b, 0, none⟩), .int .i64 h, v] W fun e w' => ∃ v', e = .returned v' ∧ w'.ownsRow B 3 1 v' (xs ++ h :: ys).length (encs (Value.int .i64) (xs ++ h :: ys)) ∧ Below B W w' := by
  intro v xs W hb hB hx hown
  obtain ⟨i0, hi, hz0, hz1, hz2⟩ := info_parts infoInt
  have HW := Aside0.mk hW
  have HP := Aside0.mk hP
  have Hb := Aside0.mk hb
  have h1 := hown.alloc (.cells #[.int .i64 h] 3)
  obtain ⟨n, hn⟩ : ∃ n, xs.length = n := ⟨_, rfl⟩
  have HN := Aside0.mk hn
  have hc : ∀ (j : Nat) u, [Value.int .i64 h][j]? = some u → (W.alloc (.cells #[.int .i64 h] 3)).cell? ((⟨W.heap.size, 0, none⟩ : Addr).add j) = some u := fun j u hj => by
    match j, hj with
    | 0, hj => simp at hj; subst hj; rw [TK.add_plain']; exact (Blk.new W _ _).cell 0
  have HC := Aside0.mk hc
  rw [hn] at h1
  have hnn : n ≤ 100 := by omega
  clear hW hP hb hown hn hc hx
  go_enter Tryz.func82, Tryz.ntmps82
  go_wp2_with (at_builtin; refine wpList_append_own _ rfl _ _ 35 rfl B 3 i0 (.int .i64 0) 1 8 Tryz.underlying35 hi hz0 hz1 hz2 rfl (by decide) _ _ _ rfl h1 ⟨W.heap.size, 0, none⟩ 1 1 [.int .i64 h] rfl rfl HC.out ?c2 ?c3 ?c4 ?c5 ?_)
  case c2 => intro u hu; simp at hu; subst hu; rfl
  case c3 => unfold maxLen; omega
  case c4 => omega
  case c5 => rw [World.size_alloc]; omega
  intro v' w2 hown' hgrow _
  have hb2 : Below B W w2 := grown_below ((Below.refl B W).alloc hB _) hgrow (by rw [World.size_alloc]; omega) (fun k hk => (h1.lt k hk).1)
  have HB2 := Aside0.mk hb2
  have HO2 := Aside0.mk hown'
  have hBw : B ≤ w2.heap.size := Nat.le_trans hB hb2.size
  have HWk := Aside0.mk (HW.out w2 (Hb.out.trans hb2) hBw)
  clear hown' hgrow hb2 h1 hi hz0 hz1 hz2
  go_wp2_with (go_at_call 135; (with_reducible refine HWk.out.mono ?_))
  rintro e w3 ⟨u, rfl, ho, h3⟩
  obtain ⟨A3, c3, rfl⟩ := TF.own_slice ho
  obtain ⟨gp, rfl, hg, cells, hgc⟩ := own_first (x := .int .i64 p) ho
  have hB3 := HB2.out.trans (h3.mono hBw)
  have hBw3 : B ≤ w3.heap.size := Nat.le_trans hBw h3.size
  have HN3 := Aside0.mk (show n = xs.length from HN.out.symm)
  have ho3 : w3.ownsRow B 3 1 v' (xs ++ [h]).length (encs (Value.int .i64) (xs ++ [h])) := by
    have := TF.own_next HO2.out h3
    rw [show [Value.int .i64 h] = encs (Value.int .i64) [h] from rfl, encs_add, ← HN.out] at this
    rw [List.length_append]
    exact this
  have HWI := Aside0.mk (HP.out v' (xs ++ [h]) w3 (Hb.out.trans hB3) hBw3 (by rw [List.length_append, HN.out]; simp; omega) ho3)
  have HB3 := Aside0.mk hB3
  clear ho h3 hB3 ho3 HO2 hgc
  go_wp2_with (fail)
  refine wp_loop_rounds 2 ?_
  unfold Code.rounds
  go_wp2_with (go_at_call 82; (with_reducible refine HWI.out.mono ?_))
  rintro e w4 v4 rfl ho4 h4
  have HO4 := Aside0.mk ho4
  have HB4 := Aside0.mk (HB3.out.trans h4)
  clear ho4 h4 hg
  go_wp2_with (fail)
  unfold Code.rounds
  go_wp2_with (fail)
  go_ret
  refine ⟨v4, rfl, ?_, HB4.out⟩
  exact HO4.out
set_option maxHeartbeats 4000000 in
set_option maxRecDepth 100000 in
theorem walked_code (b g c : Nat) (L : List RowD) (j : Nat) (r : RowD) (w : World) (h : Bk b (.slice (some ⟨g, 0, none⟩) L.length c) L w) (hj : L[j]? = some r) (hl : L.length ≤ 65536) (h1 : r.its.length ≤ 65536) (h2 : r.ps.length ≤ 65536) (hnl : r.nl = false) (hk : r.k = 1) :
    Calls Tryz.prog 135 #[.pointer (some ⟨b, 0, none⟩), .int .i64 ((j : Int) + 1)] w fun e w' => e = .returned (.slice none 0 0) ∧ Below w.heap.size w w' := by
  have HS := Aside0.mk (spec_ok b g c L j r w h hj hl h1 h2)
  unfold TW.spec at HS
  clear h
  go_enter Tryz.func135, Tryz.ntmps135
  go_wp2_with (go_at_call 66; (with_reducible refine HS.out.mono ?_))
  rintro e w1 ⟨A', c', B', d', rfl, ho9, ho10, hB1⟩
  obtain ⟨R, hR⟩ : ∃ R : Array Value, #[.int .u8 r.k, .bool r.nl, .string r.t, .int .i16 r.n, .int .i8 r.sm, .float .f64 r.re, .float .f64 r.im, .bool r.fl, .int .u32 r.mask, .slice A' r.its.length c', .slice B' r.ps.length d'] = R := ⟨_, rfl⟩
  have hls : R.size = 11 := by rw [← hR]; rfl
  obtain ⟨a, ha⟩ : ∃ a, w1.heap.size = a := ⟨_, rfl⟩
  have hn := Blk.new w1 37 #[.int .u8 0, .bool false, .string ⟨#[]⟩, .int .i16 0, .int .i8 0, .float .f64 0, .float .f64 0, .bool false, .int .u32 0, .slice none 0 0, .slice none 0 0]
  have hb1 : Below w.heap.size w (w1.alloc (.cells #[.int .u8 0, .bool false, .string ⟨#[]⟩, .int .i16 0, .int .i8 0, .float .f64 0, .float .f64 0, .bool false, .int .u32 0, .slice none 0 0, .slice none 0 0] 37)) := hB1.alloc hB1.size _
  have hq := ho10.alloc (.cells #[.int .u8 0, .bool false, .string ⟨#[]⟩, .int .i16 0, .int .i8 0, .float .f64 0, .float .f64 0, .bool false, .int .u32 0, .slice none 0 0, .slice none 0 0] 37)
  rw [ha] at hn
  have hst : Sem.run Tryz.prog (storeCells ⟨a, 0, none⟩ R.toList 0) (w1.alloc (.cells #[.int .u8 0, .bool false, .string ⟨#[]⟩, .int .i16 0, .int .i8 0, .float .f64 0, .float .f64 0, .bool false, .int .u32 0, .slice none 0 0, .slice none 0 0] 37)) = .ok () ((w1.alloc (.cells #[.int .u8 0, .bool false, .string ⟨#[]⟩, .int .i16 0, .int .i8 0, .float .f64 0, .float .f64 0, .bool false, .int .u32 0, .slice none 0 0, .slice none 0 0] 37)).setRow a R) := run_storeCells_from a 37 R.toList 0 _ _ hn (by simp [hls]) (fun v hv => by rw [← hR] at hv; revert v; simp [Value.oneCell'])
  have hg2 : Blk ((w1.alloc (.cells #[.int .u8 0, .bool false, .string ⟨#[]⟩, .int .i16 0, .int .i8 0, .float .f64 0, .float .f64 0, .bool false, .int .u32 0, .slice none 0 0, .slice none 0 0] 37)).setRow a R) a 37 R := setRow_heap _ a _ R 37 (0, 0) hn
  have hwa : w.heap.size ≤ a := by rw [← ha]; exact hB1.size
  have bb : Below w.heap.size w ((w1.alloc (.cells #[.int .u8 0, .bool false, .string ⟨#[]⟩, .int .i16 0, .int .i8 0, .float .f64 0, .float .f64 0, .bool false, .int .u32 0, .slice none 0 0, .slice none 0 0] 37)).setRow a R) := hb1.trans ⟨rfl, rfl, rfl, by rw [setRow_size]; exact Nat.le_refl _, fun i hi => setRow_other _ _ _ _ (by omega)⟩
  have hqV : ((w1.alloc (.cells #[.int .u8 0, .bool false, .string ⟨#[]⟩, .int .i16 0, .int .i8 0, .float .f64 0, .float .f64 0, .bool false, .int .u32 0, .slice none 0 0, .slice none 0 0] 37)).setRow a R).ownsRow w.heap.size 3 1 (.slice B' r.ps.length d') r.ps.length (encs (Value.int .i64) r.ps) := by
    refine own_fr (S := fun k => k = a) hq ⟨rfl, rfl, rfl, by rw [setRow_size]; exact Nat.le_refl _, fun i _ hi => setRow_other _ _ _ _ hi⟩ (fun k hk e => ?_)
    subst e
    exact own_blk_ne hq hn (by decide) hk
  obtain ⟨V, hV⟩ : ∃ V, (w1.alloc (.cells #[.int .u8 0, .bool false, .string ⟨#[]⟩, .int .i16 0, .int .i8 0, .float .f64 0, .float .f64 0, .bool false, .int .u32 0, .slice none 0 0, .slice none 0 0] 37)).setRow a R = V := ⟨_, rfl⟩
  rw [hV] at hg2 bb hst hqV
  have hnR := hg2
  rw [← hR] at hnR
  have HB := Aside0.mk bb
  have HQ := Aside0.mk hqV
  have HR := Aside0.mk hR
  have c0 : V.cell? ⟨a, 0, none⟩ = some (.int .u8 r.k) := (hnR.cell 0).trans rfl
  have c10 : V.cell? ⟨a, 10, none⟩ = some (.slice B' r.ps.length d') := (hnR.cell 10).trans rfl
  have c1 : V.cell? ⟨a, 1, none⟩ = some (.bool r.nl) := (hnR.cell 1).trans rfl
  rw [hk] at c0
  rw [hnl] at c1
  clear hn hb1 hq hg2 bb hqV hV HS hwa ho9 ho10 hB1 hnR hk h1 h2 hj hl hnl
  go_upto_region 2 with (fail)
  clear hst hls ha
  go_wp2_with (fail)
  go_ret
  exact ⟨rfl, HB.out⟩
set_option maxHeartbeats 4000000 in
set_option maxRecDepth 100000 in
theorem walked_wrap (b g c : Nat) (L : List RowD) (j : Nat) (r : RowD) (w : World) (h : Bk b (.slice (some ⟨g, 0, none⟩) L.length c) L w) (hj : L[j]? = some r) (hl : L.length ≤ 65536) (h1 : r.its.length ≤ 65536) (h2 : r.ps.length ≤ 65536) (hnl : r.nl = false) (hk : r.k = 14) (p : Int) (hp : 1 ≤ p) (hps : r.ps = [p]) :
    Calls Tryz.prog 135 #[.pointer (some ⟨b, 0, none⟩), .int .i64 ((j : Int) + 1)] w fun e w' => ∃ v, e = .returned v ∧ w'.ownsRow w.heap.size 3 1 v 1 [.int .i64 p] ∧ Below w.heap.size w w' := by
  have HPS := Aside0.mk hps
  clear hps
  have HS := Aside0.mk (spec_ok b g c L j r w h hj hl h1 h2)
  unfold TW.spec at HS
  clear h
  go_enter Tryz.func135, Tryz.ntmps135
  go_wp2_with (go_at_call 66; (with_reducible refine HS.out.mono ?_))
  rintro e w1 ⟨A', c', B', d', rfl, ho9, ho10, hB1⟩
  obtain ⟨R, hR⟩ : ∃ R : Array Value, #[.int .u8 r.k, .bool r.nl, .string r.t, .int .i16 r.n, .int .i8 r.sm, .float .f64 r.re, .float .f64 r.im, .bool r.fl, .int .u32 r.mask, .slice A' r.its.length c', .slice B' r.ps.length d'] = R := ⟨_, rfl⟩
  have hls : R.size = 11 := by rw [← hR]; rfl
  obtain ⟨a, ha⟩ : ∃ a, w1.heap.size = a := ⟨_, rfl⟩
  have hn := Blk.new w1 37 #[.int .u8 0, .bool false, .string ⟨#[]⟩, .int .i16 0, .int .i8 0, .float .f64 0, .float .f64 0, .bool false, .int .u32 0, .slice none 0 0, .slice none 0 0]
  have hb1 : Below w.heap.size w (w1.alloc (.cells #[.int .u8 0, .bool false, .string ⟨#[]⟩, .int .i16 0, .int .i8 0, .float .f64 0, .float .f64 0, .bool false, .int .u32 0, .slice none 0 0, .slice none 0 0] 37)) := hB1.alloc hB1.size _
  have hq := ho10.alloc (.cells #[.int .u8 0, .bool false, .string ⟨#[]⟩, .int .i16 0, .int .i8 0, .float .f64 0, .float .f64 0, .bool false, .int .u32 0, .slice none 0 0, .slice none 0 0] 37)
  rw [ha] at hn
  have hst : Sem.run Tryz.prog (storeCells ⟨a, 0, none⟩ R.toList 0) (w1.alloc (.cells #[.int .u8 0, .bool false, .string ⟨#[]⟩, .int .i16 0, .int .i8 0, .float .f64 0, .float .f64 0, .bool false, .int .u32 0, .slice none 0 0, .slice none 0 0] 37)) = .ok () ((w1.alloc (.cells #[.int .u8 0, .bool false, .string ⟨#[]⟩, .int .i16 0, .int .i8 0, .float .f64 0, .float .f64 0, .bool false, .int .u32 0, .slice none 0 0, .slice none 0 0] 37)).setRow a R) := run_storeCells_from a 37 R.toList 0 _ _ hn (by simp [hls]) (fun v hv => by rw [← hR] at hv; revert v; simp [Value.oneCell'])
  have hg2 : Blk ((w1.alloc (.cells #[.int .u8 0, .bool false, .string ⟨#[]⟩, .int .i16 0, .int .i8 0, .float .f64 0, .float .f64 0, .bool false, .int .u32 0, .slice none 0 0, .slice none 0 0] 37)).setRow a R) a 37 R := setRow_heap _ a _ R 37 (0, 0) hn
  have hwa : w.heap.size ≤ a := by rw [← ha]; exact hB1.size
  have bb : Below w.heap.size w ((w1.alloc (.cells #[.int .u8 0, .bool false, .string ⟨#[]⟩, .int .i16 0, .int .i8 0, .float .f64 0, .float .f64 0, .bool false, .int .u32 0, .slice none 0 0, .slice none 0 0] 37)).setRow a R) := hb1.trans ⟨rfl, rfl, rfl, by rw [setRow_size]; exact Nat.le_refl _, fun i hi => setRow_other _ _ _ _ (by omega)⟩
  have hqV : ((w1.alloc (.cells #[.int .u8 0, .bool false, .string ⟨#[]⟩, .int .i16 0, .int .i8 0, .float .f64 0, .float .f64 0, .bool false, .int .u32 0, .slice none 0 0, .slice none 0 0] 37)).setRow a R).ownsRow w.heap.size 3 1 (.slice B' r.ps.length d') r.ps.length (encs (Value.int .i64) r.ps) := by
    refine own_fr (S := fun k => k = a) hq ⟨rfl, rfl, rfl, by rw [setRow_size]; exact Nat.le_refl _, fun i _ hi => setRow_other _ _ _ _ hi⟩ (fun k hk e => ?_)
    subst e
    exact own_blk_ne hq hn (by decide) hk
  obtain ⟨V, hV⟩ : ∃ V, (w1.alloc (.cells #[.int .u8 0, .bool false, .string ⟨#[]⟩, .int .i16 0, .int .i8 0, .float .f64 0, .float .f64 0, .bool false, .int .u32 0, .slice none 0 0, .slice none 0 0] 37)).setRow a R = V := ⟨_, rfl⟩
  rw [hV] at hg2 bb hst hqV
  have hnR := hg2
  rw [← hR] at hnR
  have HB := Aside0.mk bb
  have HQ := Aside0.mk hqV
  have HR := Aside0.mk hR
  have c0 : V.cell? ⟨a, 0, none⟩ = some (.int .u8 r.k) := (hnR.cell 0).trans rfl
  have c10 : V.cell? ⟨a, 10, none⟩ = some (.slice B' r.ps.length d') := (hnR.cell 10).trans rfl
  have c1 : V.cell? ⟨a, 1, none⟩ = some (.bool r.nl) := (hnR.cell 1).trans rfl
  rw [hk] at c0
  rw [hnl] at c1
  have hp0 : (p == 0) = false := by simp; omega
  have hp1 : (p != 0) = true := by simp; omega
  obtain ⟨i0, hi, hz0, hz1, hz2⟩ := info_parts infoInt
  have h1' := (World.ownsRow_nil V w.heap.size 3 1).alloc (.cells #[.int .i64 p] 3)
  have hc : ∀ (j : Nat) u, [Value.int .i64 p][j]? = some u → (V.alloc (.cells #[.int .i64 p] 3)).cell? ((⟨V.heap.size, 0, none⟩ : Addr).add j) = some u := fun j u hj => by
    match j, hj with
    | 0, hj => simp at hj; subst hj; rw [TK.add_plain']; exact (Blk.new V _ _).cell 0
  have HC := Aside0.mk hc
  have hBV := HB.out.size
  clear hc hn hb1 hq hg2 bb hqV hV HS hwa ho9 ho10 hB1 hnR hk h1 h2 hj hl hnl
  go_upto_region 2 with (fail)
  clear hst hls ha
  have hq1 := HQ.out
  rw [HPS.out] at hq1 c10
  obtain ⟨gp, rfl, hgp, cells, hgc⟩ := own_first (x := .int .i64 p) hq1
  simp only [List.length_cons, List.length_nil, Nat.zero_add] at c10
  clear hq1 hgc
  go_wp2_with (fail)
  refine wp_loop_rounds 2 ?_
  unfold Code.rounds
  go_wp2_with (at_builtin; refine wpList_append_own _ rfl _ _ 35 rfl w.heap.size 3 i0 (.int .i64 0) 1 8 Tryz.underlying35 hi hz0 hz1 hz2 rfl (by decide) _ _ _ rfl h1' ⟨V.heap.size, 0, none⟩ 1 1 [.int .i64 p] rfl rfl HC.out (one_ p) (by unfold maxLen; omega) (by omega) (by rw [World.size_alloc]; omega) ?_)
  intro v' w2 hown' hgrow _
  have HO := Aside0.mk hown'
  have HB2 := Aside0.mk (grown_below (HB.out.alloc (by omega) _) hgrow (by rw [World.size_alloc]; omega) (fun k hk => by simp [Value.ownBlock] at hk))
  clear hown' hgrow h1' hi hz0 hz1 hz2
  go_wp2_with (fail)
  unfold Code.rounds
  go_wp2_with (fail)
  go_ret
  exact ⟨v', rfl, by simpa using HO.out, HB2.out⟩
set_option maxRecDepth 100000 in
theorem nodes_ok (b g c : Nat) (L : List RowD) (j : Nat) (r : RowD) (ys : List Int) (w : World) (h : Bk b (.slice (some ⟨g, 0, none⟩) L.length c) L w) (hj : L[j]? = some r) (hl : L.length ≤ 65536)
    (hW : Calls Tryz.prog 82 #[.pointer (some ⟨b, 0, none⟩), .int .i64 ((j : Int) + 1), .slice none 0 0] w fun e w' => ∃ v', e = .returned v' ∧ w'.ownsRow w.heap.size 3 1 v' ys.length (encs (Value.int .i64) ys) ∧ Below w.heap.size w w') :
    Calls Tryz.prog 44 #[.pointer (some ⟨b, 0, none⟩), .int .i64 ((j : Int) + 1)] w fun e w' => ∃ v', e = .returned (.tuple #[v', .int .i64 0]) ∧ w'.ownsRow w.heap.size 3 1 v' ys.length (encs (Value.int .i64) ys) ∧ Below w.heap.size w w' := by
  have g2 : (((j : Int) + 1) == 0) = false := by simp; omega
  have HE := Aside0.mk (error_ok b g c L j r w h hj hl)
  have HW := Aside0.mk hW
  clear h hW
  go_enter Tryz.func44, Tryz.ntmps44
  go_wp2_with (first | (go_at_call 64; (with_reducible refine HE.out.mono ?_); rintro e w' ⟨rfl, rfl⟩) | (go_at_call 82; (with_reducible refine HW.out.mono ?_)))
  rintro e w1 ⟨v', rfl, ho, h1⟩
  have HO := Aside0.mk ho
  clear ho
  go_wp2_with (fail)
  go_ret2
  exact ⟨v', rfl, HO.out, h1⟩
end Go.Proofs.YtlggimmfaflfnaaGreatDoor.MK
