/- BookSpec2 MakeParts KindsMake -/
import Derived.Test.YtimmafiodhncgaaGreatDoorM8
import Derived.BigQuiet
section
/- Spec, Copy. -/
set_option linter.unusedVariables false
set_option linter.unusedSimpArgs false
namespace Go.Proofs.YtimmafiodhncgaaGreatDoor.TK
open Go.RowKit Go.Shelf Go.Proofs.YtimmafiodhncgaaGreatDoorW.PrintWords Go.Proofs.YtimmafiodhncgaaGreatDoorW.PrintMore Go.Proofs.YtimmafiodhncgaaGreatDoor.TF Go.Proofs.YtimmafiodhncgaaGreatDoor.TW

set_option maxHeartbeats 4000000 in
set_option maxRecDepth 100000 in
theorem spec_ok (b g c : Nat) (L : List RowD) (j : Nat) (r : RowD) (w : World) (h : Bk b (.slice (some ⟨g, 0, none⟩) L.length c) L w) (hj : L[j]? = some r) (hl : L.length ≤ 65536) (h1 : r.its.length ≤ 65536) (h2 : r.ps.length ≤ 65536) :
    Calls Tryz.prog 101 #[.pointer (some ⟨b, 0, none⟩), .int .i64 ((j : Int) + 1)] w fun e w' => ∃ A' c' B' d', e = .returned (.tuple #[spec r.k r.nl r.t r.n r.sm r.re r.im r.fl r.mask (.slice A' r.its.length c') (.slice B' r.ps.length d'), .int .i64 0]) ∧
      w'.ownsRow w.heap.size 9 1 (.slice A' r.its.length c') r.its.length (encs Value.string r.its) ∧ w'.ownsRow w.heap.size 3 1 (.slice B' r.ps.length d') r.ps.length (encs (Value.int .i64) r.ps) ∧ Below w.heap.size w w' := by
  have hn := Blk.new w 52 #[.int .u8 0, .bool false, .string ⟨#[]⟩, .int .i16 0, .int .i8 0, .float .f64 0, .float .f64 0, .bool false, .int .u32 0, .slice none 0 0, .slice none 0 0]
  obtain ⟨W1, hW1⟩ : ∃ W1, w.alloc (.cells #[.int .u8 0, .bool false, .string ⟨#[]⟩, .int .i16 0, .int .i8 0, .float .f64 0, .float .f64 0, .bool false, .int .u32 0, .slice none 0 0, .slice none 0 0] 52) = W1 := ⟨_, rfl⟩
  have b1 : Below w.heap.size w W1 := by rw [← hW1]; exact (Below.refl _ w).alloc (Nat.le_refl _) _
  have hs1 : W1.heap.size = w.heap.size + 1 := by rw [← hW1, World.size_alloc]
  rw [hW1] at hn
  have hB1 := h.next b1
  have k0 : W1.cell? ⟨g, j * 16 + 1, none⟩ = some (.int .u8 r.k) := (hB1.at_ hj 1 (by decide)).trans rfl
  have k1 : W1.cell? ⟨g, j * 16 + 1 + 1, none⟩ = some (.bool r.nl) := (hB1.at_ hj 2 (by decide)).trans rfl
  have k2 : W1.cell? ⟨g, j * 16 + 1 + 2, none⟩ = some (.string r.t) := (hB1.at_ hj 3 (by decide)).trans rfl
  have k3 : W1.cell? ⟨g, j * 16 + 1 + 3, none⟩ = some (.int .i16 r.n) := (hB1.at_ hj 4 (by decide)).trans rfl
  have k4 : W1.cell? ⟨g, j * 16 + 1 + 4, none⟩ = some (.int .i8 r.sm) := (hB1.at_ hj 5 (by decide)).trans rfl
  have k5 : W1.cell? ⟨g, j * 16 + 1 + 5, none⟩ = some (.float .f64 r.re) := (hB1.at_ hj 6 (by decide)).trans rfl
  have k6 : W1.cell? ⟨g, j * 16 + 1 + 6, none⟩ = some (.float .f64 r.im) := (hB1.at_ hj 7 (by decide)).trans rfl
  have k7 : W1.cell? ⟨g, j * 16 + 1 + 7, none⟩ = some (.bool r.fl) := (hB1.at_ hj 8 (by decide)).trans rfl
  have k8 : W1.cell? ⟨g, j * 16 + 1 + 8, none⟩ = some (.int .u32 r.mask) := (hB1.at_ hj 9 (by decide)).trans rfl
  have k9 : W1.cell? ⟨g, j * 16 + 1 + 9, none⟩ = some (.slice r.A r.its.length r.c) := (hB1.at_ hj 10 (by decide)).trans rfl
  have k10 : W1.cell? ⟨g, j * 16 + 1 + 10, none⟩ = some (.slice r.B r.ps.length r.d) := (hB1.at_ hj 11 (by decide)).trans rfl
  have ht := twin_ok r.k r.nl r.t r.n r.sm r.re r.im r.fl r.mask r.A r.B r.c r.d 0 r.its r.ps W1 (hB1.owns r (List.mem_of_getElem? hj)).1 (hB1.owns r (List.mem_of_getElem? hj)).2 h1 h2
  unfold spec at ht ⊢
  have HT := Aside0.mk ht
  have HM := Aside0.mk (made_ok b g c L j r W1 hB1 hj hl)
  have HN := Aside0.mk hn
  have HB := Aside0.mk b1
  clear h hB1 ht hn b1
  go_enter Tryz.func101, Tryz.ntmps101
  go_upto_region 1 with (fail)
  clear hW1
  go_wp2_with (go_at_call 142; (with_reducible refine HM.out.mono ?_); rintro e w' ⟨rfl, rfl⟩)
  go_wp2_with (go_at_call 40; (with_reducible refine HT.out.mono ?_))
  rintro e w4 ⟨A', c', B', d', rfl, ho9, ho10, h4⟩
  rename_i hK4
  refine hK4 _ _ ?_
  have r4 := HN.out.next h4
  have b4 := HB.out.trans (h4.mono (by omega))
  obtain ⟨R, hR⟩ : ∃ R : Array Value, #[.int .u8 r.k, .bool r.nl, .string r.t, .int .i16 r.n, .int .i8 r.sm, .float .f64 r.re, .float .f64 r.im, .bool r.fl, .int .u32 r.mask, .slice A' r.its.length c', .slice B' r.ps.length d'] = R := ⟨_, rfl⟩
  have hls : R.size = 11 := by rw [← hR]; rfl
  have hst : Sem.run Tryz.prog (storeCells ⟨w.heap.size, 0, none⟩ R.toList 0) w4 = .ok () (w4.setRow w.heap.size R) := run_storeCells_from w.heap.size 52 R.toList 0 _ w4 r4 (by simp [hls]) (fun v hv => by rw [← hR] at hv; revert v; simp [Value.oneCell'])
  have hg2 := setRow_heap w4 w.heap.size _ R 52 (0, 0) r4
  have q9 := own_setRow (R := R) ho9 (show w.heap.size < w'.heap.size by omega)
  have o9 := own_setRow (R := R) ho10 (show w.heap.size < w'.heap.size by omega)
  have bb9 : Below w.heap.size w (w4.setRow w.heap.size R) := b4.trans ⟨rfl, rfl, rfl, by rw [setRow_size]; exact Nat.le_refl _, fun i hi => setRow_other _ _ _ _ (by omega)⟩
  obtain ⟨W9, hW9⟩ : ∃ W9, w4.setRow w.heap.size R = W9 := ⟨_, rfl⟩
  rw [hW9] at hg2 q9 o9 bb9 hst
  have HG2 := Aside0.mk hg2
  have HInf := Aside0.mk (show (Tryz.prog.info? 52).map (·.size) = some R.size by rw [hls]; exact infoSpec)
  have HQ := Aside0.mk (TF.own_lower q9 (show w.heap.size ≤ w'.heap.size by omega))
  have HO2 := Aside0.mk (TF.own_lower o9 (show w.heap.size ≤ w'.heap.size by omega))
  have HB2 := Aside0.mk bb9
  have HR2 := Aside0.mk hR
  clear hg2 q9 o9 bb9 hW9 ho9 ho10 r4 b4 h4 HN HB HT HM k0 k1 k2 k3 k4 k5 k6 k7 k8 k9 k10 hK4
  go_wp2
  refine bodyPost_ret (results_ct rfl _ W9 w.heap.size R rfl HG2.out HInf.out) rfl ?_
  exact ⟨A', c', B', d', by rw [HR2.out]; rfl, HQ.out, HO2.out, HB2.out⟩
/-- what every record of a book bears -/
def RowD.fine (r : RowD) : Prop := r.err.oneCell' = true ∧ r.its.length ≤ 64 ∧ r.ps.length ≤ 64
end Go.Proofs.YtimmafiodhncgaaGreatDoor.TK
end
section
/- What Make asks of a book: its parts' records; the calls of at, whatever the handle. -/
set_option linter.unusedVariables false
set_option linter.unusedSimpArgs false
namespace Go.Proofs.YtimmafiodhncgaaGreatDoor.TK
open Go.RowKit Go.Shelf Go.Proofs.YtimmafiodhncgaaGreatDoorW.PrintWords Go.Proofs.YtimmafiodhncgaaGreatDoorW.PrintMore Go.Proofs.YtimmafiodhncgaaGreatDoor.TF Go.Proofs.YtimmafiodhncgaaGreatDoor.TW

/-- the record of no error -/
def zeroD : RowD := ⟨.nilIface, 0, false, ⟨#[]⟩, 0, 0, 0, 0, false, 0, none, 0, none, 0, [], [], 0, 0, 0, 0⟩
/-- the record of a handle -/
def recOf (L : List RowD) (p : Int) : RowD := if p = 0 then zeroD else L.getD (p.toNat - 1) zeroD
theorem at_any (b : Nat) (v : Value) (L : List RowD) (W : World) (p : Int) (h : Bk b v L W) (h0 : 0 ≤ p) (h1 : p ≤ L.length) (hl : L.length ≤ 65536) :
    Calls Tryz.prog 38 #[.pointer (some ⟨b, 0, none⟩), .int .i64 p] W fun e w' => ∃ g o, e = .returned (.tuple #[.pointer (some ⟨g, o, none⟩), .int .i64 0]) ∧
      (∀ i, i < 16 → w'.cell? ⟨g, o + i, none⟩ = (recOf L p).cells[i]?) ∧ (∃ cs, w'.heap[g]? = some (.cells cs 94 (0, 0))) ∧ (g < W.heap.size → v.ownBlock = some g) ∧ Below W.heap.size W w' := by
  by_cases hp : p = 0
  · subst hp
    refine (at_zero b W).mono ?_
    rintro e w' ⟨rfl, rfl⟩
    have hb := Blk.new W 94 row0
    refine ⟨W.heap.size, 0, rfl, fun i hi => ?_, ⟨_, hb⟩, fun hlt => absurd hlt (Nat.lt_irrefl _), (Below.refl _ _).alloc (Nat.le_refl _) _⟩
    rw [Nat.zero_add, hb.cell i]
    have : recOf L 0 = zeroD := by simp [recOf]
    rw [this]
    simp [row0, zeroD, RowD.cells]
  · obtain ⟨j, rfl⟩ : ∃ j : Nat, p = (j : Int) + 1 := ⟨p.toNat - 1, by omega⟩
    have hjl : j < L.length := by omega
    have hj : L[j]? = some L[j] := List.getElem?_eq_getElem hjl
    obtain ⟨g, c, rfl⟩ := h.some_ hj
    refine (at_ok b g c L j _ W h hj hl).mono ?_
    rintro e w' ⟨rfl, rfl⟩
    refine ⟨g, j * 16, rfl, fun i hi => ?_, TF.own_typed h.rows rfl, fun _ => rfl, Below.refl _ _⟩
    rw [h.at_ hj i hi]
    have : recOf L ((j : Int) + 1) = L[j] := by
      unfold recOf
      rw [if_neg (by omega), show (((j : Int) + 1).toNat - 1) = j by omega]
      simp [hjl]
    rw [this]
/-- sums over the parts -/
def sumOf (f : RowD → Int) (L : List RowD) : List Int → Int
  | [] => 0
  | p :: ps => f (recOf L p) + sumOf f L ps
def topOf (L : List RowD) (a : Int) : List Int → Int
  | [] => a
  | p :: ps => topOf L (max a ((recOf L p).depth + 1)) ps
def lensOf : List ByteArray → Int
  | [] => 0
  | x :: l => (x.size : Int) + lensOf l
theorem sum_snoc (f : RowD → Int) (L : List RowD) (ps : List Int) (p : Int) : sumOf f L (ps ++ [p]) = sumOf f L ps + f (recOf L p) := by
  induction ps with
  | nil => simp [sumOf]
  | cons q ps ih => simp only [List.cons_append, sumOf, ih]; omega
theorem top_snoc (L : List RowD) (ps : List Int) (p : Int) : ∀ a, topOf L a (ps ++ [p]) = max (topOf L a ps) ((recOf L p).depth + 1) := by
  induction ps with
  | nil => intro a; rfl
  | cons q ps ih => intro a; simp only [List.cons_append, topOf, ih]
theorem lens_snoc (l : List ByteArray) (x : ByteArray) : lensOf (l ++ [x]) = lensOf l + x.size := by
  induction l with
  | nil => simp [lensOf]
  | cons q l ih => simp only [List.cons_append, lensOf, ih]; omega
end Go.Proofs.YtimmafiodhncgaaGreatDoor.TK
end
section
/- kinds.Make of a Code and of a Wrap. -/
set_option linter.unusedVariables false
set_option linter.unusedSimpArgs false
namespace Go.Proofs.YtimmafiodhncgaaGreatDoor.TK
open Go.RowKit Go.Shelf Go.Proofs.YtimmafiodhncgaaGreatDoorW.PrintWords Go.Proofs.YtimmafiodhncgaaGreatDoorW.PrintMore Go.Proofs.YtimmafiodhncgaaGreatDoor.TF Go.Proofs.YtimmafiodhncgaaGreatDoor.TW

theorem hb_cell {m : Nat} {W V : World} {a : Addr} (h : Below m W V) (hl : a.block < m) : V.drew.cell? a = W.cell? a := by
  have := h.block a.block hl
  show World.cell? V a = _
  unfold World.cell?
  rw [this]
theorem leaf_code (nl : Bool) (t : ByteArray) (n sm : Int) (re im : Nat) (fl : Bool) (mk : Int) (A B : Option Addr) (l c l2 d : Nat) (w : World) :
    Calls Tryz.prog 80 #[spec 1 nl t n sm re im fl mk (.slice A l c) (.slice B l2 d)] w fun e w' => e = .returned (.iface 235 (.int .i16 n)) ∧ Below w.heap.size w w' := by
  unfold spec
  have hx := Blk.new w 52 #[.int .u8 1, .bool nl, .string t, .int .i16 n, .int .i8 sm, .float .f64 re, .float .f64 im, .bool fl, .int .u32 mk, .slice A l c, .slice B l2 d]
  have b0 : Below w.heap.size w (w.alloc (.cells #[.int .u8 1, .bool nl, .string t, .int .i16 n, .int .i8 sm, .float .f64 re, .float .f64 im, .bool fl, .int .u32 mk, .slice A l c, .slice B l2 d] 52)) := (Below.refl _ w).alloc (Nat.le_refl _) _
  obtain ⟨V0, hV0⟩ : ∃ V, w.alloc (.cells #[.int .u8 1, .bool nl, .string t, .int .i16 n, .int .i8 sm, .float .f64 re, .float .f64 im, .bool fl, .int .u32 mk, .slice A l c, .slice B l2 d] 52) = V := ⟨_, rfl⟩
  rw [hV0] at hx b0
  have c0 : V0.cell? ⟨w.heap.size, 0, none⟩ = some (.int .u8 1) := (hx.cell 0).trans rfl
  have c3 : V0.cell? ⟨w.heap.size, 3, none⟩ = some (.int .i16 n) := (hx.cell 3).trans rfl
  have HB := Aside0.mk b0
  clear hx b0
  go_enter Tryz.func80, Tryz.ntmps80
  go_wp2_with (fail)
  go_ret
  exact ⟨by kernel_rfl, HB.out⟩
theorem around_wrap (nl : Bool) (t : ByteArray) (n sm : Int) (re im : Nat) (fl : Bool) (mk : Int) (A B : Option Addr) (l c l2 d : Nat) (ty : TypeId) (x : Value) (w : World) :
    Calls Tryz.prog 78 #[spec 14 nl t n sm re im fl mk (.slice A l c) (.slice B l2 d), .iface ty x] w fun e w' => ∃ g, e = .returned (.iface 145 (.pointer (some ⟨g, 0, none⟩))) ∧ w.heap.size ≤ g ∧ Blk w' g 149 #[.string t, .iface ty x] ∧ Below w.heap.size w w' := by
  unfold spec
  have hx := Blk.new w 52 #[.int .u8 14, .bool nl, .string t, .int .i16 n, .int .i8 sm, .float .f64 re, .float .f64 im, .bool fl, .int .u32 mk, .slice A l c, .slice B l2 d]
  have b0 : Below w.heap.size w (w.alloc (.cells #[.int .u8 14, .bool nl, .string t, .int .i16 n, .int .i8 sm, .float .f64 re, .float .f64 im, .bool fl, .int .u32 mk, .slice A l c, .slice B l2 d] 52)) := (Below.refl _ w).alloc (Nat.le_refl _) _
  obtain ⟨V0, hV0⟩ : ∃ V, w.alloc (.cells #[.int .u8 14, .bool nl, .string t, .int .i16 n, .int .i8 sm, .float .f64 re, .float .f64 im, .bool fl, .int .u32 mk, .slice A l c, .slice B l2 d] 52) = V := ⟨_, rfl⟩
  rw [hV0] at hx b0
  have c0 : V0.cell? ⟨w.heap.size, 0, none⟩ = some (.int .u8 14) := (hx.cell 0).trans rfl
  have c2 : V0.cell? ⟨w.heap.size, 2, none⟩ = some (.string t) := (hx.cell 2).trans rfl
  have hn := Blk.new V0 149 #[.string t, .iface ty x]
  have HN := Aside0.mk hn
  have HB := Aside0.mk (b0.alloc b0.size (.cells #[.string t, .iface ty x] 149))
  have HS := Aside0.mk b0.size
  clear hx b0 hn
  go_enter Tryz.func78, Tryz.ntmps78
  go_wp2_with (fail)
  go_ret
  exact ⟨_, by kernel_rfl, HS.out, HN.out, HB.out⟩
theorem part_one (g c : Nat) (x : Value) (w : World) (hx : w.cell? ⟨g, 0, none⟩ = some x) :
    Calls Tryz.prog 76 #[.slice (some ⟨g, 0, none⟩) 1 c] w fun e w' => e = .returned x ∧ w' = w := by
  go_enter Tryz.func76, Tryz.ntmps76
  go_wp2
  go_ret
  exact ⟨rfl, rfl⟩
theorem kmake_code (t : ByteArray) (n sm : Int) (re im : Nat) (fl : Bool) (mk : Int) (A B E : Option Addr) (c d ec base : Nat) (its : List ByteArray) (w : World)
    (hI : w.ownsRow base 9 1 (.slice A its.length c) its.length (encs Value.string its)) (hi : its.length ≤ 65536) (hchk : chk 1 false t n sm re im fl mk its 0 = 0) :
    Calls Tryz.prog 41 #[spec 1 false t n sm re im fl mk (.slice A its.length c) (.slice B 0 d), .slice E 0 ec] w fun e w' => e = .returned (.tuple #[.iface 235 (.int .i16 n), .int .i64 0]) ∧ Below w.heap.size w w' := by
  have hcheck := fun W (hW : Below w.heap.size w W) => check_calls 1 false t n sm re im fl mk A B its.length c 0 d its W rfl (Kd.C_below (Kd.C_of_reads (own_reads_of' (d := ByteArray.empty) hI)) hW) (by omega)
  rw [hchk] at hcheck
  have HCh := Aside0.mk hcheck
  unfold spec at hcheck HCh ⊢
  clear hcheck
  have hx := Blk.new w 52 #[.int .u8 1, .bool false, .string t, .int .i16 n, .int .i8 sm, .float .f64 re, .float .f64 im, .bool fl, .int .u32 mk, .slice A its.length c, .slice B 0 d]
  have b0 : Below w.heap.size w (w.alloc (.cells #[.int .u8 1, .bool false, .string t, .int .i16 n, .int .i8 sm, .float .f64 re, .float .f64 im, .bool fl, .int .u32 mk, .slice A its.length c, .slice B 0 d] 52)) := (Below.refl _ w).alloc (Nat.le_refl _) _
  obtain ⟨V0, hV0⟩ : ∃ V, w.alloc (.cells #[.int .u8 1, .bool false, .string t, .int .i16 n, .int .i8 sm, .float .f64 re, .float .f64 im, .bool fl, .int .u32 mk, .slice A its.length c, .slice B 0 d] 52) = V := ⟨_, rfl⟩
  rw [hV0] at hx b0
  obtain ⟨c0, c1, c2, c3, c4, c5, c6, c7, c8, c9, c10⟩ : V0.cell? ⟨w.heap.size, 0, none⟩ = some (.int .u8 1) ∧ V0.cell? ⟨w.heap.size, 1, none⟩ = some (.bool false) ∧ V0.cell? ⟨w.heap.size, 2, none⟩ = some (.string t) ∧ V0.cell? ⟨w.heap.size, 3, none⟩ = some (.int .i16 n) ∧ V0.cell? ⟨w.heap.size, 4, none⟩ = some (.int .i8 sm) ∧ V0.cell? ⟨w.heap.size, 5, none⟩ = some (.float .f64 re) ∧ V0.cell? ⟨w.heap.size, 6, none⟩ = some (.float .f64 im) ∧ V0.cell? ⟨w.heap.size, 7, none⟩ = some (.bool fl) ∧ V0.cell? ⟨w.heap.size, 8, none⟩ = some (.int .u32 mk) ∧ V0.cell? ⟨w.heap.size, 9, none⟩ = some (.slice A its.length c) ∧ V0.cell? ⟨w.heap.size, 10, none⟩ = some (.slice B 0 d) := ⟨(hx.cell 0).trans rfl, (hx.cell 1).trans rfl, (hx.cell 2).trans rfl, (hx.cell 3).trans rfl, (hx.cell 4).trans rfl, (hx.cell 5).trans rfl, (hx.cell 6).trans rfl, (hx.cell 7).trans rfl, (hx.cell 8).trans rfl, (hx.cell 9).trans rfl, (hx.cell 10).trans rfl⟩
  have HX := Aside0.mk hx
  have HB := Aside0.mk b0
  clear hx b0 hI hchk
  go_enter Tryz.func41, Tryz.ntmps41
  go_wp2_with (go_at_call 39; (with_reducible refine (HCh.out _ HB.out).mono ?_))
  rintro e W1 ⟨rfl, h1⟩
  clear c0 c1 c2 c3 c4 c5 c6 c7 c8 c9 c10
  have hx1 := HX.out.next h1
  obtain ⟨c0, c1, c2, c3, c4, c5, c6, c7, c8, c9, c10⟩ : W1.cell? ⟨w.heap.size, 0, none⟩ = some (.int .u8 1) ∧ W1.cell? ⟨w.heap.size, 1, none⟩ = some (.bool false) ∧ W1.cell? ⟨w.heap.size, 2, none⟩ = some (.string t) ∧ W1.cell? ⟨w.heap.size, 3, none⟩ = some (.int .i16 n) ∧ W1.cell? ⟨w.heap.size, 4, none⟩ = some (.int .i8 sm) ∧ W1.cell? ⟨w.heap.size, 5, none⟩ = some (.float .f64 re) ∧ W1.cell? ⟨w.heap.size, 6, none⟩ = some (.float .f64 im) ∧ W1.cell? ⟨w.heap.size, 7, none⟩ = some (.bool fl) ∧ W1.cell? ⟨w.heap.size, 8, none⟩ = some (.int .u32 mk) ∧ W1.cell? ⟨w.heap.size, 9, none⟩ = some (.slice A its.length c) ∧ W1.cell? ⟨w.heap.size, 10, none⟩ = some (.slice B 0 d) := ⟨(hx1.cell 0).trans rfl, (hx1.cell 1).trans rfl, (hx1.cell 2).trans rfl, (hx1.cell 3).trans rfl, (hx1.cell 4).trans rfl, (hx1.cell 5).trans rfl, (hx1.cell 6).trans rfl, (hx1.cell 7).trans rfl, (hx1.cell 8).trans rfl, (hx1.cell 9).trans rfl, (hx1.cell 10).trans rfl⟩
  have HX1 := Aside0.mk hx1
  have HB1 := Aside0.mk (HB.out.trans (h1.mono HB.out.size))
  clear hx1 h1 HX HB HCh
  have HLf := Aside0.mk (leaf_code false t n sm re im fl mk A B its.length c 0 d)
  unfold spec at HLf
  go_wp2_with (go_at_call 80; (with_reducible refine (HLf.out _).mono ?_))
  rintro e W2 ⟨rfl, h2⟩
  have HB2 := Aside0.mk (HB1.out.trans (h2.mono HB1.out.size))
  clear h2 c0 c1 c2 c3 c4 c5 c6 c7 c8 c9 c10
  go_wp2_with (fail)
  go_ret2
  exact ⟨by kernel_rfl, HB2.out⟩
theorem kmake_wrap (t : ByteArray) (n sm : Int) (re im : Nat) (fl : Bool) (mk : Int) (A B : Option Addr) (c d ec g base : Nat) (its : List ByteArray) (ty : TypeId) (x : Value) (w : World)
    (hI : w.ownsRow base 9 1 (.slice A its.length c) its.length (encs Value.string its)) (hi : its.length ≤ 65536) (hchk : chk 14 false t n sm re im fl mk its 1 = 0) (hg : g < w.heap.size) (hE : w.cell? ⟨g, 0, none⟩ = some (.iface ty x)) :
    Calls Tryz.prog 41 #[spec 14 false t n sm re im fl mk (.slice A its.length c) (.slice B 1 d), .slice (some ⟨g, 0, none⟩) 1 ec] w fun e w' => ∃ b, e = .returned (.tuple #[.iface 145 (.pointer (some ⟨b, 0, none⟩)), .int .i64 0]) ∧ w.heap.size ≤ b ∧ Blk w' b 149 #[.string t, .iface ty x] ∧ Below w.heap.size w w' := by
  have hcheck := fun W (hW : Below w.heap.size w W) => check_calls 14 false t n sm re im fl mk A B its.length c 1 d its W rfl (Kd.C_below (Kd.C_of_reads (own_reads_of' (d := ByteArray.empty) hI)) hW) (by omega)
  rw [hchk] at hcheck
  have HCh := Aside0.mk hcheck
  unfold spec at hcheck HCh ⊢
  clear hcheck
  have hx := Blk.new w 52 #[.int .u8 14, .bool false, .string t, .int .i16 n, .int .i8 sm, .float .f64 re, .float .f64 im, .bool fl, .int .u32 mk, .slice A its.length c, .slice B 1 d]
  have b0 : Below w.heap.size w (w.alloc (.cells #[.int .u8 14, .bool false, .string t, .int .i16 n, .int .i8 sm, .float .f64 re, .float .f64 im, .bool fl, .int .u32 mk, .slice A its.length c, .slice B 1 d] 52)) := (Below.refl _ w).alloc (Nat.le_refl _) _
  obtain ⟨V0, hV0⟩ : ∃ V, w.alloc (.cells #[.int .u8 14, .bool false, .string t, .int .i16 n, .int .i8 sm, .float .f64 re, .float .f64 im, .bool fl, .int .u32 mk, .slice A its.length c, .slice B 1 d] 52) = V := ⟨_, rfl⟩
  rw [hV0] at hx b0
  obtain ⟨c0, c1, c2, c3, c4, c5, c6, c7, c8, c9, c10⟩ : V0.cell? ⟨w.heap.size, 0, none⟩ = some (.int .u8 14) ∧ V0.cell? ⟨w.heap.size, 1, none⟩ = some (.bool false) ∧ V0.cell? ⟨w.heap.size, 2, none⟩ = some (.string t) ∧ V0.cell? ⟨w.heap.size, 3, none⟩ = some (.int .i16 n) ∧ V0.cell? ⟨w.heap.size, 4, none⟩ = some (.int .i8 sm) ∧ V0.cell? ⟨w.heap.size, 5, none⟩ = some (.float .f64 re) ∧ V0.cell? ⟨w.heap.size, 6, none⟩ = some (.float .f64 im) ∧ V0.cell? ⟨w.heap.size, 7, none⟩ = some (.bool fl) ∧ V0.cell? ⟨w.heap.size, 8, none⟩ = some (.int .u32 mk) ∧ V0.cell? ⟨w.heap.size, 9, none⟩ = some (.slice A its.length c) ∧ V0.cell? ⟨w.heap.size, 10, none⟩ = some (.slice B 1 d) := ⟨(hx.cell 0).trans rfl, (hx.cell 1).trans rfl, (hx.cell 2).trans rfl, (hx.cell 3).trans rfl, (hx.cell 4).trans rfl, (hx.cell 5).trans rfl, (hx.cell 6).trans rfl, (hx.cell 7).trans rfl, (hx.cell 8).trans rfl, (hx.cell 9).trans rfl, (hx.cell 10).trans rfl⟩
  have HX := Aside0.mk hx
  have HB := Aside0.mk b0
  clear hx b0 hI hchk
  go_enter Tryz.func41, Tryz.ntmps41
  go_wp2_with (go_at_call 39; (with_reducible refine (HCh.out _ HB.out).mono ?_))
  rintro e W1 ⟨rfl, h1⟩
  clear c0 c1 c2 c3 c4 c5 c6 c7 c8 c9 c10
  have hx1 := HX.out.next h1
  obtain ⟨c0, c1, c2, c3, c4, c5, c6, c7, c8, c9, c10⟩ : W1.cell? ⟨w.heap.size, 0, none⟩ = some (.int .u8 14) ∧ W1.cell? ⟨w.heap.size, 1, none⟩ = some (.bool false) ∧ W1.cell? ⟨w.heap.size, 2, none⟩ = some (.string t) ∧ W1.cell? ⟨w.heap.size, 3, none⟩ = some (.int .i16 n) ∧ W1.cell? ⟨w.heap.size, 4, none⟩ = some (.int .i8 sm) ∧ W1.cell? ⟨w.heap.size, 5, none⟩ = some (.float .f64 re) ∧ W1.cell? ⟨w.heap.size, 6, none⟩ = some (.float .f64 im) ∧ W1.cell? ⟨w.heap.size, 7, none⟩ = some (.bool fl) ∧ W1.cell? ⟨w.heap.size, 8, none⟩ = some (.int .u32 mk) ∧ W1.cell? ⟨w.heap.size, 9, none⟩ = some (.slice A its.length c) ∧ W1.cell? ⟨w.heap.size, 10, none⟩ = some (.slice B 1 d) := ⟨(hx1.cell 0).trans rfl, (hx1.cell 1).trans rfl, (hx1.cell 2).trans rfl, (hx1.cell 3).trans rfl, (hx1.cell 4).trans rfl, (hx1.cell 5).trans rfl, (hx1.cell 6).trans rfl, (hx1.cell 7).trans rfl, (hx1.cell 8).trans rfl, (hx1.cell 9).trans rfl, (hx1.cell 10).trans rfl⟩
  have HX1 := Aside0.mk hx1
  have HB1 := Aside0.mk (HB.out.trans (h1.mono HB.out.size))
  clear hx1 h1 HX HB HCh
  have bd : Below W1.heap.size W1 W1.drew := (Below.refl _ W1).drew
  have nd := HX1.out.next bd
  have HAr := Aside0.mk (around_wrap false t n sm re im fl mk A B its.length c 1 d ty x W1.drew)
  have HPt := Aside0.mk (part_one g ec (.iface ty x) W1.drew ((hb_cell HB1.out hg).trans hE))
  unfold spec at HAr
  have hd : W1.drew.cell? ⟨w.heap.size, 0, none⟩ = some (.int .u8 14) ∧ W1.drew.cell? ⟨w.heap.size, 1, none⟩ = some (.bool false) ∧ W1.drew.cell? ⟨w.heap.size, 2, none⟩ = some (.string t) ∧ W1.drew.cell? ⟨w.heap.size, 3, none⟩ = some (.int .i16 n) ∧ W1.drew.cell? ⟨w.heap.size, 4, none⟩ = some (.int .i8 sm) ∧ W1.drew.cell? ⟨w.heap.size, 5, none⟩ = some (.float .f64 re) ∧ W1.drew.cell? ⟨w.heap.size, 6, none⟩ = some (.float .f64 im) ∧ W1.drew.cell? ⟨w.heap.size, 7, none⟩ = some (.bool fl) ∧ W1.drew.cell? ⟨w.heap.size, 8, none⟩ = some (.int .u32 mk) ∧ W1.drew.cell? ⟨w.heap.size, 9, none⟩ = some (.slice A its.length c) ∧ W1.drew.cell? ⟨w.heap.size, 10, none⟩ = some (.slice B 1 d) := ⟨(nd.cell 0).trans rfl, (nd.cell 1).trans rfl, (nd.cell 2).trans rfl, (nd.cell 3).trans rfl, (nd.cell 4).trans rfl, (nd.cell 5).trans rfl, (nd.cell 6).trans rfl, (nd.cell 7).trans rfl, (nd.cell 8).trans rfl, (nd.cell 9).trans rfl, (nd.cell 10).trans rfl⟩
  obtain ⟨d0, d1, d2, d3, d4, d5, d6, d7, d8, d9, d10⟩ := hd
  clear bd nd hE
  go_upto_region 24 with (fail)
  go_region_held3 (fun V => V.cell? ⟨w.heap.size, 0, none⟩ = some (.int .u8 14) ∧ V.cell? ⟨w.heap.size, 1, none⟩ = some (.bool false) ∧ V.cell? ⟨w.heap.size, 2, none⟩ = some (.string t) ∧ V.cell? ⟨w.heap.size, 3, none⟩ = some (.int .i16 n) ∧ V.cell? ⟨w.heap.size, 4, none⟩ = some (.int .i8 sm) ∧ V.cell? ⟨w.heap.size, 5, none⟩ = some (.float .f64 re) ∧ V.cell? ⟨w.heap.size, 6, none⟩ = some (.float .f64 im) ∧ V.cell? ⟨w.heap.size, 7, none⟩ = some (.bool fl) ∧ V.cell? ⟨w.heap.size, 8, none⟩ = some (.int .u32 mk) ∧ V.cell? ⟨w.heap.size, 9, none⟩ = some (.slice A its.length c) ∧ V.cell? ⟨w.heap.size, 10, none⟩ = some (.slice B 1 d)) (first | exact ⟨c0, c1, c2, c3, c4, c5, c6, c7, c8, c9, c10⟩ | exact ⟨d0, d1, d2, d3, d4, d5, d6, d7, d8, d9, d10⟩ | exact ⟨k0, k1, k2, k3, k4, k5, k6, k7, k8, k9, k10⟩ | go_keep) (first | (go_at_call 76; refine HPt.out.mono ?_; rintro e w3 ⟨rfl, rfl⟩) | (go_at_call 78; refine HAr.out.mono ?_; rintro e w3 ⟨b, rfl, hb, hB, h3⟩; have x3 := (HX1.out.next (Below.refl _ W1).drew).next h3; obtain ⟨k0, k1, k2, k3, k4, k5, k6, k7, k8, k9, k10⟩ : w3.cell? ⟨w.heap.size, 0, none⟩ = some (.int .u8 14) ∧ w3.cell? ⟨w.heap.size, 1, none⟩ = some (.bool false) ∧ w3.cell? ⟨w.heap.size, 2, none⟩ = some (.string t) ∧ w3.cell? ⟨w.heap.size, 3, none⟩ = some (.int .i16 n) ∧ w3.cell? ⟨w.heap.size, 4, none⟩ = some (.int .i8 sm) ∧ w3.cell? ⟨w.heap.size, 5, none⟩ = some (.float .f64 re) ∧ w3.cell? ⟨w.heap.size, 6, none⟩ = some (.float .f64 im) ∧ w3.cell? ⟨w.heap.size, 7, none⟩ = some (.bool fl) ∧ w3.cell? ⟨w.heap.size, 8, none⟩ = some (.int .u32 mk) ∧ w3.cell? ⟨w.heap.size, 9, none⟩ = some (.slice A its.length c) ∧ w3.cell? ⟨w.heap.size, 10, none⟩ = some (.slice B 1 d) := ⟨(x3.cell 0).trans rfl, (x3.cell 1).trans rfl, (x3.cell 2).trans rfl, (x3.cell 3).trans rfl, (x3.cell 4).trans rfl, (x3.cell 5).trans rfl, (x3.cell 6).trans rfl, (x3.cell 7).trans rfl, (x3.cell 8).trans rfl, (x3.cell 9).trans rfl, (x3.cell 10).trans rfl⟩))
  have H3 := Aside0.mk (And.intro hb (And.intro hB h3))
  clear hb hB h3 x3 c0 c1 c2 c3 c4 c5 c6 c7 c8 c9 c10 d0 d1 d2 d3 d4 d5 d6 d7 d8 d9 d10 k0 k1 k2 k3 k4 k5 k6 k7 k8 k9 k10
  go_wp2_with (fail)
  go_ret2
  exact ⟨b, by kernel_rfl, Nat.le_trans HB1.out.size H3.out.1, H3.out.2.1, HB1.out.trans ((show Below W1.heap.size W1 w3 from (Below.refl _ W1).drew.trans H3.out.2.2).mono HB1.out.size)⟩
end Go.Proofs.YtimmafiodhncgaaGreatDoor.TK
end
