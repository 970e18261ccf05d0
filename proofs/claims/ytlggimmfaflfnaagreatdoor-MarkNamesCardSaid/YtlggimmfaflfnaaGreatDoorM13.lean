/- LinesOwn Build MarkNil -/
import Derived.Test.YtlggimmfaflfnaaGreatDoorM11
import Derived.Test.YtlggimmfaflfnaaGreatDoorM12
import Derived.Deep.RegionHeld3
import Derived.BigQuiet
import Derived.Test.YtlggimmfaflfnaaGreatDoorProg
import Derived.Shelf.Strings.BuilderK
import Derived.Test.YtlggimmfaflfnaaGreatDoorM5
import Derived.Laws.ResultCell
import Derived.Handy
section
/- lines.own of a record: its words, the handles of its parts. -/
set_option linter.unusedVariables false
set_option linter.unusedSimpArgs false
namespace Go.Proofs.YtlggimmfaflfnaaGreatDoor.TK
open Go.RowKit Go.Shelf Go.Lib Go.Proofs.YtlggimmfaflfnaaGreatDoorW.PrintWords Go.Proofs.YtlggimmfaflfnaaGreatDoorW.PrintMore Go.Proofs.YtlggimmfaflfnaaGreatDoor.TF Go.Proofs.YtlggimmfaflfnaaGreatDoor.TW

set_option maxHeartbeats 4000000 in
set_option maxRecDepth 100000 in
theorem own_rec (b g c : Nat) (L : List RowD) (j : Nat) (r : RowD) (x : ByteArray) (w : World) (h : Bk b (.slice (some ⟨g, 0, none⟩) L.length c) L w) (hj : L[j]? = some r) (hl : L.length ≤ 65536) (h1 : r.its.length ≤ 65536) (h2 : r.ps.length ≤ 65536) (htab : Tab w)
    (hx : ∀ A' c' B' d' W, Tab W → Calls Tryz.prog 164 #[spec r.k r.nl r.t r.n r.sm r.re r.im r.fl r.mask (.slice A' r.its.length c') (.slice B' r.ps.length d')] W fun e w' => e = .returned (.string x) ∧ Below W.heap.size W w') :
    Calls Tryz.prog 133 #[.pointer (some ⟨b, 0, none⟩), .int .i64 ((j : Int) + 1)] w fun e w' => ∃ B' d', e = .returned (.tuple #[.string x, .slice B' r.ps.length d']) ∧
      w'.ownsRow w.heap.size 3 1 (.slice B' r.ps.length d') r.ps.length (encs (Value.int .i64) r.ps) ∧ Below w.heap.size w w' := by
  have g2 : (((j : Int) + 1) == 0) = false := by simp; omega
  have HS := Aside0.mk (spec_ok b g c L j r w h hj hl h1 h2)
  have HX := Aside0.mk hx
  unfold spec at HS HX
  clear h hx
  go_enter Tryz.func133, Tryz.ntmps133
  go_wp2_with (go_at_call 66; (with_reducible refine HS.out.mono ?_))
  rintro e w1 ⟨A', c', B', d', rfl, ho9, ho10, hB1⟩
  obtain ⟨R, hR⟩ : ∃ R : Array Value, #[.int .u8 r.k, .bool r.nl, .string r.t, .int .i16 r.n, .int .i8 r.sm, .float .f64 r.re, .float .f64 r.im, .bool r.fl, .int .u32 r.mask, .slice A' r.its.length c', .slice B' r.ps.length d'] = R := ⟨_, rfl⟩
  have hls : R.size = 11 := by rw [← hR]; rfl
  obtain ⟨a, ha⟩ : ∃ a, w1.heap.size = a := ⟨_, rfl⟩
  have hn := Blk.new w1 37 #[.int .u8 0, .bool false, .string ⟨#[]⟩, .int .i16 0, .int .i8 0, .float .f64 0, .float .f64 0, .bool false, .int .u32 0, .slice none 0 0, .slice none 0 0]
  have hb1 : Below w.heap.size w (w1.alloc (.cells #[.int .u8 0, .bool false, .string ⟨#[]⟩, .int .i16 0, .int .i8 0, .float .f64 0, .float .f64 0, .bool false, .int .u32 0, .slice none 0 0, .slice none 0 0] 37)) := hB1.alloc hB1.size _
  have hq := ho10.alloc (.cells #[.int .u8 0, .bool false, .string ⟨#[]⟩, .int .i16 0, .int .i8 0, .float .f64 0, .float .f64 0, .bool false, .int .u32 0, .slice none 0 0, .slice none 0 0] 37)
  rw [ha] at hn
  have hst : Sem.run Tryz.prog (storeCells ⟨a, 0, none⟩ R.toList 0) (w1.alloc (.cells #[.int .u8 0, .bool false, .string ⟨#[]⟩, .int .i16 0, .int .i8 0, .float .f64 0, .float .f64 0, .bool false, .int .u32 0, .slice none 0 0, .slice none 0 0] 37)) = .ok () ((w1.alloc (.cells #[.int .u8 0, .bool false, .string ⟨#[]⟩, .int .i16 0, .int .i8 0, .float .f64 0, .float .f64 0, .bool false, .int .u32 0, .slice none 0 0, .slice none 0 0] 37)).setRow a R) := run_storeCells_from a 37 R.toList 0 _ _ hn (by simp [hls]) (fun v hv => by rw [← hR] at hv; revert v; simp [Value.oneCell'])
  have hg2 : Blk ((w1.alloc (.cells #[.int .u8 0, .bool false, .string ⟨#[]⟩, .int .i16 0, .int .i8 0, .float .f64 0, .float .f64 0, .bool false, .int .u32 0, .slice none 0 0, .slice none 0 0] 37)).setRow a R) a 37 R := setRow_heap _ a _ R 37 (0, 0) hn
  have hwa : w.heap.size ≤ a := by rw [← ha]; exact hB1.size
  have bb : Below w.heap.size w ((w1.alloc (.cells #[.int .u8 0, .bool false, .string ⟨#[]⟩, .int .i16 0, .int .i8 0, .float .f64 0, .float .f64 0, .bool false, .int .u32 0, .slice none 0 0, .slice none 0 0] 37)).setRow a R) := hb1.trans ⟨rfl, rfl, rfl, by rw [setRow_size]; exact Nat.le_refl _, fun i hi => setRow_other _ _ _ _ (by omega)⟩
  have hqV : ((w1.alloc (.cells #[.int .u8 0, .bool false, .string ⟨#[]⟩, .int .i16 0, .int .i8 0, .float .f64 0, .float .f64 0, .bool false, .int .u32 0, .slice none 0 0, .slice none 0 0] 37)).setRow a R).ownsRow w.heap.size 3 1 (.slice B' r.ps.length d') r.ps.length (encs (Value.int .i64) r.ps) := by
    refine own_fr (S := fun k => k = a) hq ⟨rfl, rfl, rfl, by rw [setRow_size]; exact Nat.le_refl _, fun i _ hi => setRow_other _ _ _ _ hi⟩ (fun k hk e => ?_)
    subst e
    exact own_blk_ne hq hn (by decide) hk
  obtain ⟨V, hV⟩ : ∃ V, (w1.alloc (.cells #[.int .u8 0, .bool false, .string ⟨#[]⟩, .int .i16 0, .int .i8 0, .float .f64 0, .float .f64 0, .bool false, .int .u32 0, .slice none 0 0, .slice none 0 0] 37)).setRow a R = V := ⟨_, rfl⟩
  rw [hV] at hg2 bb hst hqV
  have HN := Aside0.mk hg2
  have HR := Aside0.mk hR
  have HB := Aside0.mk bb
  have HQ := Aside0.mk hqV
  clear hn hb1 hq hg2 bb hqV hV HS hwa ho9 ho10 hB1
  go_upto_region 4 with (fail)
  have hnR := HN.out
  rw [← HR.out] at hnR
  have HN2 := Aside0.mk hnR
  obtain ⟨c0, c1, c2, c3, c4, c5, c6, c7, c8, c9, c10⟩ : V.cell? ⟨a, 0, none⟩ = some (.int .u8 r.k) ∧ V.cell? ⟨a, 1, none⟩ = some (.bool r.nl) ∧ V.cell? ⟨a, 2, none⟩ = some (.string r.t) ∧ V.cell? ⟨a, 3, none⟩ = some (.int .i16 r.n) ∧ V.cell? ⟨a, 4, none⟩ = some (.int .i8 r.sm) ∧ V.cell? ⟨a, 5, none⟩ = some (.float .f64 r.re) ∧ V.cell? ⟨a, 6, none⟩ = some (.float .f64 r.im) ∧ V.cell? ⟨a, 7, none⟩ = some (.bool r.fl) ∧ V.cell? ⟨a, 8, none⟩ = some (.int .u32 r.mask) ∧ V.cell? ⟨a, 9, none⟩ = some (.slice A' r.its.length c') ∧ V.cell? ⟨a, 10, none⟩ = some (.slice B' r.ps.length d') := ⟨(hnR.cell 0).trans rfl, (hnR.cell 1).trans rfl, (hnR.cell 2).trans rfl, (hnR.cell 3).trans rfl, (hnR.cell 4).trans rfl, (hnR.cell 5).trans rfl, (hnR.cell 6).trans rfl, (hnR.cell 7).trans rfl, (hnR.cell 8).trans rfl, (hnR.cell 9).trans rfl, (hnR.cell 10).trans rfl⟩
  have bd : Below V.heap.size V V.drew := (Below.refl _ V).drew
  have nd := HN2.out.next bd
  have hd : V.drew.cell? ⟨a, 0, none⟩ = some (.int .u8 r.k) ∧ V.drew.cell? ⟨a, 1, none⟩ = some (.bool r.nl) ∧ V.drew.cell? ⟨a, 2, none⟩ = some (.string r.t) ∧ V.drew.cell? ⟨a, 3, none⟩ = some (.int .i16 r.n) ∧ V.drew.cell? ⟨a, 4, none⟩ = some (.int .i8 r.sm) ∧ V.drew.cell? ⟨a, 5, none⟩ = some (.float .f64 r.re) ∧ V.drew.cell? ⟨a, 6, none⟩ = some (.float .f64 r.im) ∧ V.drew.cell? ⟨a, 7, none⟩ = some (.bool r.fl) ∧ V.drew.cell? ⟨a, 8, none⟩ = some (.int .u32 r.mask) ∧ V.drew.cell? ⟨a, 9, none⟩ = some (.slice A' r.its.length c') ∧ V.drew.cell? ⟨a, 10, none⟩ = some (.slice B' r.ps.length d') := ⟨(nd.cell 0).trans rfl, (nd.cell 1).trans rfl, (nd.cell 2).trans rfl, (nd.cell 3).trans rfl, (nd.cell 4).trans rfl, (nd.cell 5).trans rfl, (nd.cell 6).trans rfl, (nd.cell 7).trans rfl, (nd.cell 8).trans rfl, (nd.cell 9).trans rfl, (nd.cell 10).trans rfl⟩
  obtain ⟨d0, d1, d2, d3, d4, d5, d6, d7, d8, d9, d10⟩ := hd
  have hw := HX.out A' c' B' d' V.drew (htab.stays (HB.out.drew))
  rw [HR.out] at hw
  have HW := Aside0.mk hw
  clear hw
  clear bd nd hnR HX hst hls ha hl h1 h2 g2 htab HN hj
  go_region_held3 (fun V => V.cell? ⟨a, 0, none⟩ = some (.int .u8 r.k) ∧ V.cell? ⟨a, 1, none⟩ = some (.bool r.nl) ∧ V.cell? ⟨a, 2, none⟩ = some (.string r.t) ∧ V.cell? ⟨a, 3, none⟩ = some (.int .i16 r.n) ∧ V.cell? ⟨a, 4, none⟩ = some (.int .i8 r.sm) ∧ V.cell? ⟨a, 5, none⟩ = some (.float .f64 r.re) ∧ V.cell? ⟨a, 6, none⟩ = some (.float .f64 r.im) ∧ V.cell? ⟨a, 7, none⟩ = some (.bool r.fl) ∧ V.cell? ⟨a, 8, none⟩ = some (.int .u32 r.mask) ∧ V.cell? ⟨a, 9, none⟩ = some (.slice A' r.its.length c') ∧ V.cell? ⟨a, 10, none⟩ = some (.slice B' r.ps.length d')) (first | exact ⟨c0, c1, c2, c3, c4, c5, c6, c7, c8, c9, c10⟩ | exact ⟨d0, d1, d2, d3, d4, d5, d6, d7, d8, d9, d10⟩ | exact ⟨k0, k1, k2, k3, k4, k5, k6, k7, k8, k9, k10⟩ | go_keep) (first | (go_at_call 164; refine HW.out.mono ?_; rintro e w3 ⟨rfl, h3⟩; have x3 := (HN2.out.next (Below.refl _ V).drew).next h3; obtain ⟨k0, k1, k2, k3, k4, k5, k6, k7, k8, k9, k10⟩ : w3.cell? ⟨a, 0, none⟩ = some (.int .u8 r.k) ∧ w3.cell? ⟨a, 1, none⟩ = some (.bool r.nl) ∧ w3.cell? ⟨a, 2, none⟩ = some (.string r.t) ∧ w3.cell? ⟨a, 3, none⟩ = some (.int .i16 r.n) ∧ w3.cell? ⟨a, 4, none⟩ = some (.int .i8 r.sm) ∧ w3.cell? ⟨a, 5, none⟩ = some (.float .f64 r.re) ∧ w3.cell? ⟨a, 6, none⟩ = some (.float .f64 r.im) ∧ w3.cell? ⟨a, 7, none⟩ = some (.bool r.fl) ∧ w3.cell? ⟨a, 8, none⟩ = some (.int .u32 r.mask) ∧ w3.cell? ⟨a, 9, none⟩ = some (.slice A' r.its.length c') ∧ w3.cell? ⟨a, 10, none⟩ = some (.slice B' r.ps.length d') := ⟨(x3.cell 0).trans rfl, (x3.cell 1).trans rfl, (x3.cell 2).trans rfl, (x3.cell 3).trans rfl, (x3.cell 4).trans rfl, (x3.cell 5).trans rfl, (x3.cell 6).trans rfl, (x3.cell 7).trans rfl, (x3.cell 8).trans rfl, (x3.cell 9).trans rfl, (x3.cell 10).trans rfl⟩))
  have HB3 := Aside0.mk (HB.out.drew.trans (h3.mono HB.out.drew.size))
  have HQ3 := Aside0.mk (TF.own_next (TF.own_next HQ.out (Below.refl _ V).drew) h3)
  clear c0 d0 k0 c1 d1 k1 c2 d2 k2 c3 d3 k3 c4 d4 k4 c5 d5 k5 c6 d6 k6 c7 d7 k7 c8 d8 k8 c9 d9 k9 c10 d10 k10 h3 x3
  go_wp2_with (fail)
  go_ret2
  exact ⟨B', d', by kernel_rfl, HQ3.out, HB3.out⟩
end Go.Proofs.YtlggimmfaflfnaaGreatDoor.TK
end
section
/- strings.Builder where the translation refuses the copy check's last arm: copyCheck, WriteByte, WriteString, by walks of our own. -/
set_option linter.unusedVariables false
set_option linter.unusedSimpArgs false
namespace Go.Proofs.YtlggimmfaflfnaaGreatDoor.TB
open Go.RowKit Go.Shelf

theorem sizeB : (Tryz.prog.info? 169).map (·.size) = some 2 := by kernel_rfl
theorem liesB : liesAt Tryz.prog Tryz.prog.depth 169 (2 / Tryz.prog.cellsOf 169) 0 169 1 = true := by kernel_rfl
theorem infoByte : (Tryz.prog.info? 5).map (fun i => (i.zero, i.size, i.bytes)) = some (some (.int .u8 0), 1, 1) := by kernel_rfl

set_option maxHeartbeats 1000000 in
set_option maxRecDepth 100000 in
theorem check_used (b : Nat) (w : World) (h0 : w.cell? ⟨b, 0, none⟩ = some (.pointer (some ⟨b, 0, none⟩))) :
    Calls Tryz.prog 165 #[.pointer (some ⟨b, 0, none⟩)] w fun e w' => e = .returned (.tuple #[]) ∧ w' = w := by
  obtain ⟨j, hj, _⟩ := Option.map_eq_some_iff.1 sizeB
  go_enter Tryz.func165, Tryz.ntmps165
  go_wp2
  rw [Lib.run_neq_ptr_same w _ Tryz.underlying167 hj]
  go_wp2
  go_end0
  exact ⟨rfl, rfl⟩
set_option maxHeartbeats 1000000 in
set_option maxRecDepth 100000 in
theorem check_fresh (b : Nat) (w : World) (h0 : w.cell? ⟨b, 0, none⟩ = some (.pointer none)) (hsh : w.shape? b = some (169, 2)) (hfz : w.frozen? ⟨b, 0, none⟩ = false) :
    Calls Tryz.prog 165 #[.pointer (some ⟨b, 0, none⟩)] w fun e w' => e = .returned (.tuple #[]) ∧ w' = w.setCell ⟨b, 0, none⟩ (.pointer (some ⟨b, 0, none⟩)) := by
  obtain ⟨j, hj, hjs⟩ := Option.map_eq_some_iff.1 sizeB
  have tU := Tryz.underlying353
  go_enter Tryz.func165, Tryz.ntmps165
  go_wp2
  rw [Lib.run_to_unsafe w ⟨b, 0, none⟩ Tryz.underlying167 tU hj (by rw [hjs]; decide) hsh (Nat.zero_lt_succ 1)]
  simp only [Result.andThen]
  rw [Oper.upon_value]
  go_wp2
  rw [run_callFunc_extern Tryz.func198 (by kernel_rfl) (by kernel_rfl) (by kernel_rfl) (e := Extern.AbiNoEscape.same) (by kernel_rfl)]
  rw [Lib.run_noEscape]
  simp only [Result.andThen]
  rw [Oper.upon_value]
  go_wp2
  rw [Lib.run_from_unsafe w ⟨b, 0, none⟩ tU Tryz.underlying167 hj hsh liesB]
  simp only [Result.andThen]
  rw [Oper.upon_value]
  go_wp2
  go_end0
  exact ⟨rfl, rfl⟩
/-- a builder, and what lies elsewhere, behind the copy check -/
theorem check (B b : Nat) (bs : List Value) (w : World) (h : Lib.IsBuilderF 169 5 B b bs w) :
    Calls Tryz.prog 165 #[.pointer (some ⟨b, 0, none⟩)] w fun e w' => e = .returned (.tuple #[]) ∧
      (Lib.BuilderAtF 169 5 B b (.pointer (some ⟨b, 0, none⟩)) bs w' ∧ Below B w w' ∧ Lib.OthersKept 5 (some b) w w') := by
  rcases h with h | h
  · refine (check_fresh b w h.cell0 h.shape h.frozen0).mono ?_
    rintro e w' ⟨rfl, rfl⟩
    exact ⟨rfl, h.used _, (Below.refl B w).setCell (p := ⟨b, 0, none⟩) h.1 _, (Lib.OthersKept.refl _ _ w).setCell ⟨b, 0, none⟩ rfl _⟩
  · refine (check_used b w h.cell0).mono ?_
    rintro e w' ⟨rfl, rfl⟩
    exact ⟨rfl, h, Below.refl B _, Lib.OthersKept.refl _ _ _⟩
theorem size_of_heap {w : World} {b : Nat} {o : Obj} (h : w.heap[b]? = some o) : b < w.heap.size := (Array.getElem?_eq_some_iff.1 h).1
set_option maxHeartbeats 2000000 in
set_option maxRecDepth 100000 in
theorem write_string (B b : Nat) (bs : List Value) (s : ByteArray) (w : World) (h : Lib.IsBuilderF 169 5 B b bs w) (hlen : bs.length + s.size ≤ 140737488355328) (hBw : B ≤ w.heap.size) :
    Calls Tryz.prog 134 #[.pointer (some ⟨b, 0, none⟩), .string s] w fun e w' => e = .returned (.tuple #[.int .i64 s.size, .nilIface]) ∧
      (Lib.BuilderAtF 169 5 B b (.pointer (some ⟨b, 0, none⟩)) (bs ++ Lib.strCells s) w' ∧ Below B w w' ∧ Lib.OthersKept 5 (some b) w w') := by
  obtain ⟨i0, hi, hz0, hz1, hz2⟩ := info_parts infoByte
  go_enter Tryz.func134, Tryz.ntmps134
  go_wp2_with (go_at_call 165; refine (check B b bs _ h).mono ?_)
  rintro e w1 ⟨rfl, h1, hb1, hk1⟩
  obtain ⟨hB, v, hbk, hown, hne⟩ := h1
  have c0 : w1.cell? ⟨b, 0, none⟩ = some (.pointer (some ⟨b, 0, none⟩)) := by rw [Lib.cell_of_heap hbk]; rfl
  have c1 : w1.cell? ⟨b, 1, none⟩ = some v := by rw [Lib.cell_of_heap hbk]; rfl
  go_wp2_with (at_builtin; refine Lib.wpList_append_own_stringF _ rfl _ _ 72 9 rfl B 5 i0 Tryz.underlying72 Tryz.underlying9 hi hz0 hz1 hz2 _ _ _ rfl hown s rfl ?c3 ?c4 ?c5 ?_)
  case c3 => unfold maxLen; omega
  case c4 => omega
  case c5 => have := hb1.size; omega
  intro v' w2 hown' hgrow _
  have hlt := size_of_heap hbk
  have hb2 : w2.heap[b]? = some (.cells #[.pointer (some ⟨b, 0, none⟩), v] 169 (0, 0)) := by
    rw [hgrow.block b hlt (fun e => hne e.symm)]
    exact hbk
  have d0 : w2.cell? ⟨b, 0, none⟩ = some (.pointer (some ⟨b, 0, none⟩)) := by rw [Lib.cell_of_heap hb2]; rfl
  have d1 : w2.cell? ⟨b, 1, none⟩ = some v := by rw [Lib.cell_of_heap hb2]; rfl
  have f1 : w2.frozen? ⟨b, 1, none⟩ = false := Lib.frozen_of_heap hb2 1
  obtain ⟨ao, n', cap, rfl⟩ : ∃ ao n' cap, v' = .slice ao n' cap := by
    rcases hown'.2 with ⟨hv, _⟩ | ⟨g, cap, cur, fz, hv, _⟩
    · exact ⟨_, _, _, hv⟩
    · exact ⟨_, _, _, hv⟩
  go_wp2
  go_ret2
  refine ⟨rfl, ?_, ?_, (hk1.grown hgrow (Lib.ownsRowF_kind hown)).setCell ⟨b, 1, none⟩ rfl _⟩
  · exact Lib.BuilderAtF.put (T := 169) (e := 5) hB hb2 (bs' := bs ++ Lib.strCells s) (by simpa [Lib.strCells_length] using hown') (by decide)
  · exact (hb1.grown hgrow (by have := hb1.size; omega) (fun k hk => (hown.lt k hk).1)).setCell (p := ⟨b, 1, none⟩) hB _

end Go.Proofs.YtlggimmfaflfnaaGreatDoor.TB
end
section
/- Package mark at no book, no registry, no index. -/
set_option linter.unusedVariables false
set_option linter.unusedSimpArgs false
namespace Go.Proofs.YtlggimmfaflfnaaGreatDoor.MK
open Go.RowKit Go.Proofs.YtlggimmfaflfnaaGreatDoorW.PrintWords Go.Proofs.YtlggimmfaflfnaaGreatDoorW.PrintMore Go.Proofs.YtlggimmfaflfnaaGreatDoor.TF Go.Proofs.YtlggimmfaflfnaaGreatDoor.TK

def zero16 : Array Value := #[.int .u8 0, .int .u8 0, .int .u8 0, .int .u8 0, .int .u8 0, .int .u8 0, .int .u8 0, .int .u8 0, .int .u8 0, .int .u8 0, .int .u8 0, .int .u8 0, .int .u8 0, .int .u8 0, .int .u8 0, .int .u8 0]
theorem info16 : (Tryz.prog.info? 53).map (·.size) = some 16 := by kernel_rfl
theorem check_nil (h : Int) (w : World) : Calls Tryz.prog 40 #[.pointer none, .int .i64 h] w fun e w' => e = .returned (.int .i64 2) ∧ w' = w := by
  go_enter Tryz.func40, Tryz.ntmps40
  go_wp2
  go_ret
  exact ⟨rfl, rfl⟩
theorem of_nil (w : World) : Calls Tryz.prog 16 #[.pointer none, .int .i64 9] w fun e w' => e = .returned (.tuple #[.agg zero16, .int .i64 2]) ∧ Below w.heap.size w w' := by
  have HC := Aside0.mk check_nil
  go_enter Tryz.func16, Tryz.ntmps16
  go_wp2_with (go_at_call 40; (with_reducible refine (HC.out _ _).mono ?_); rintro e w1 ⟨rfl, rfl⟩)
  refine bodyPost_ret (results_ct rfl _ _ w.heap.size 53 zero16 (0, 0) _ rfl (World.alloc_heap_new w _) Tryz.underlying53 rfl info16) rfl ?_
  exact ⟨rfl, (Below.refl _ w).alloc (Nat.le_refl _) _⟩
theorem form_nil (w : World) : Calls Tryz.prog 17 #[.pointer none, .int .i64 9] w fun e w' => e = .returned (.tuple #[.string ⟨#[]⟩, .int .i64 2]) ∧ w' = w := by
  have HC := Aside0.mk check_nil
  go_enter Tryz.func17, Tryz.ntmps17
  go_wp2_with (go_at_call 40; (with_reducible refine (HC.out _ _).mono ?_); rintro e w1 ⟨rfl, rfl⟩)
  go_ret2
  exact ⟨rfl, rfl⟩
theorem pair_nil1 (h g : Int) (c : Value) (hc : c = .pointer none ∨ ∃ a, c = .pointer (some a)) (w : World) : Calls Tryz.prog 43 #[.pointer none, .int .i64 h, c, .int .i64 g] w fun e w' => e = .returned (.int .i64 2) ∧ w' = w := by
  rcases hc with rfl | ⟨a, rfl⟩
  all_goals
    go_enter Tryz.func43, Tryz.ntmps43
    go_wp2
    go_ret
    exact ⟨rfl, rfl⟩
theorem pair_nil2 (h g : Int) (a : Addr) (w : World) : Calls Tryz.prog 43 #[.pointer (some a), .int .i64 h, .pointer none, .int .i64 g] w fun e w' => e = .returned (.int .i64 2) ∧ w' = w := by
  go_enter Tryz.func43, Tryz.ntmps43
  go_wp2
  go_ret
  exact ⟨rfl, rfl⟩
theorem alike_nil1 (h g : Int) (a : Addr) (w : World) : Calls Tryz.prog 18 #[.pointer none, .int .i64 h, .pointer (some a), .int .i64 g] w fun e w' => e = .returned (.tuple #[.bool false, .int .i64 2]) ∧ w' = w := by
  have HC := Aside0.mk (pair_nil1 h g (.pointer (some a)) (.inr ⟨a, rfl⟩))
  go_enter Tryz.func18, Tryz.ntmps18
  go_wp2_with (go_at_call 43; (with_reducible refine (HC.out _).mono ?_); rintro e w1 ⟨rfl, rfl⟩)
  go_ret2
  exact ⟨rfl, rfl⟩
theorem alike_nil2 (h g : Int) (a : Addr) (w : World) : Calls Tryz.prog 18 #[.pointer (some a), .int .i64 h, .pointer none, .int .i64 g] w fun e w' => e = .returned (.tuple #[.bool false, .int .i64 2]) ∧ w' = w := by
  have HC := Aside0.mk (pair_nil2 h g a)
  go_enter Tryz.func18, Tryz.ntmps18
  go_wp2_with (go_at_call 43; (with_reducible refine (HC.out _).mono ?_); rintro e w1 ⟨rfl, rfl⟩)
  go_ret2
  exact ⟨rfl, rfl⟩
theorem is_nil (h g : Int) (a : Addr) (w : World) : Calls Tryz.prog 19 #[.pointer none, .int .i64 h, .pointer (some a), .int .i64 g] w fun e w' => e = .returned (.tuple #[.int .i64 0, .bool false, .int .i64 2]) ∧ w' = w := by
  have HC := Aside0.mk (pair_nil1 h g (.pointer (some a)) (.inr ⟨a, rfl⟩))
  go_enter Tryz.func19, Tryz.ntmps19
  go_wp2_with (go_at_call 43; (with_reducible refine (HC.out _).mono ?_); rintro e w1 ⟨rfl, rfl⟩)
  go_ret3
  exact ⟨rfl, rfl⟩
theorem in_nil1 (s : ByteArray) (a : Addr) (g : Int) (w : World) : Calls Tryz.prog 20 #[.pointer none, .string s, .pointer (some a), .int .i64 g] w fun e w' => e = .returned (.tuple #[.int .i64 0, .bool false, .int .i64 2]) ∧ w' = w := by
  go_enter Tryz.func20, Tryz.ntmps20
  go_wp2
  go_ret3
  exact ⟨rfl, rfl⟩
theorem in_nil2 (s : ByteArray) (a : Addr) (g : Int) (w : World) : Calls Tryz.prog 20 #[.pointer (some a), .string s, .pointer none, .int .i64 g] w fun e w' => e = .returned (.tuple #[.int .i64 0, .bool false, .int .i64 2]) ∧ w' = w := by
  go_enter Tryz.func20, Tryz.ntmps20
  go_wp2
  go_ret3
  exact ⟨rfl, rfl⟩
theorem new_nil (w : World) : Calls Tryz.prog 22 #[.pointer none] w fun e w' => e = .returned (.tuple #[.pointer none, .int .i64 2]) ∧ w' = w := by
  go_enter Tryz.func22, Tryz.ntmps22
  go_wp2
  go_ret2
  exact ⟨rfl, rfl⟩
theorem find_nil (a : Addr) (g : Int) (w : World) : Calls Tryz.prog 23 #[.pointer none, .pointer (some a), .int .i64 g] w fun e w' => e = .returned (.tuple #[.slice none 0 0, .int .i64 2]) ∧ w' = w := by
  go_enter Tryz.func23, Tryz.ntmps23
  go_wp2
  go_ret2
  exact ⟨rfl, rfl⟩
theorem len_nil (w : World) : Calls Tryz.prog 24 #[.pointer none] w fun e w' => e = .returned (.int .i64 0) ∧ w' = w := by
  go_enter Tryz.func24, Tryz.ntmps24
  go_wp2
  go_ret
  exact ⟨rfl, rfl⟩
theorem classes_nil (w : World) : Calls Tryz.prog 25 #[.pointer none] w fun e w' => e = .returned (.slice none 0 0) ∧ w' = w := by
  go_enter Tryz.func25, Tryz.ntmps25
  go_wp2
  go_ret
  exact ⟨rfl, rfl⟩
end Go.Proofs.YtlggimmfaflfnaaGreatDoor.MK
end
