/- Twin BookSpec BookSpec2 IndexFunc -/
import Derived.Test.YtlggimmfaflfnaaGreatDoorM10
import Derived.Laws.AppendOwn
import Derived.Test.YtlggimmfaflfnaaGreatDoorM5
import Derived.Test.YtlggimmfaflfnaaGreatDoorProg
import Derived.Test.YtlggimmfaflfnaaGreatDoorM1
import Derived.Test.YtlggimmfaflfnaaGreatDoorM3
import Derived.Deep.LoopGhost
import Derived.WalkLawsBesides
section
/- errataref05.Twin: a copy of its own. -/
set_option linter.unusedVariables false
set_option linter.unusedSimpArgs false
namespace Go.Proofs.YtlggimmfaflfnaaGreatDoor.TW
open Go.RowKit Go.Shelf Go.Proofs.YtlggimmfaflfnaaGreatDoorW.PrintWords Go.Proofs.YtlggimmfaflfnaaGreatDoorW.PrintMore

theorem own_slice {w : World} {base : Nat} {e : TypeId} {size n : Nat} {v : Value} {xs : List Value} (h : w.ownsRow base e size v n xs) : ∃ A c, v = .slice A n c := by
  rcases h with ⟨_, ⟨rfl, rfl⟩ | ⟨g, cap, cur, rfl, _⟩⟩
  · exact ⟨_, _, rfl⟩
  · exact ⟨_, _, rfl⟩
theorem own_next {w V : World} {base : Nat} {e : TypeId} {size n : Nat} {v : Value} {xs : List Value} (h : w.ownsRow base e size v n xs) (hb : Below w.heap.size w V) : V.ownsRow base e size v n xs := by
  obtain ⟨h0, h1 | ⟨g, cap, cur, h1, h2, h3, h4⟩⟩ := h
  · exact ⟨h0, .inl h1⟩
  · exact ⟨h0, .inr ⟨g, cap, cur, h1, h2, (hb.block g (Array.getElem?_eq_some_iff.1 h3).1).trans h3, h4⟩⟩
theorem own_base {w : World} {base base' : Nat} {e : TypeId} {size n : Nat} {v : Value} {xs : List Value} (h : w.ownsRow base e size v n xs) (hb : base' ≤ base) : w.ownsRow base' e size v n xs := by
  obtain ⟨h0, h1 | ⟨g, cap, cur, h1, h2, h3⟩⟩ := h
  · exact ⟨h0, .inl h1⟩
  · exact ⟨h0, .inr ⟨g, cap, cur, h1, Nat.le_trans hb h2, h3⟩⟩
theorem own_setRow {w : World} {base : Nat} {e : TypeId} {size n : Nat} {v : Value} {xs : List Value} {g : Nat} {R : Array Value} (h : w.ownsRow base e size v n xs) (hg : g < base) : (w.setRow g R).ownsRow base e size v n xs := by
  obtain ⟨h0, h1 | ⟨b, cap, cur, h1, h2, h3, h4⟩⟩ := h
  · exact ⟨h0, .inl h1⟩
  · exact ⟨h0, .inr ⟨b, cap, cur, h1, h2, (setRow_other w g b R (by omega)).trans h3, h4⟩⟩
section
variable {b : Nat} {k : Int} {nl : Bool} {t : ByteArray} {n sm : Int} {re im : Nat} {fl : Bool} {mk : Int} {it pa : Value} {W : World}
theorem heap_setCell {W : World} {g : Nat} {c : Array Value} {e : TypeId} {f : Nat × Nat} (h : W.heap[g]? = some (.cells c e f)) (i : Nat) (v : Value) : (W.setCell ⟨g, i, none⟩ v).heap[g]? = some (.cells (c.setIfInBounds i v) e f) := by
  obtain ⟨hl, he⟩ := Array.getElem?_eq_some_iff.1 h
  show (W.heap.modify g _)[g]? = _
  rw [Array.getElem?_modify]
  simp [h]
theorem SpecAt.free (h : SpecAt b k nl t n sm re im fl mk it pa W) (i : Nat) : W.frozen? ⟨b, i, none⟩ = false := by
  unfold World.frozen?
  rw [h]
  simp
end
end Go.Proofs.YtlggimmfaflfnaaGreatDoor.TW
end
section
/- book.twin, Spec, Copy. -/
set_option linter.unusedVariables false
set_option linter.unusedSimpArgs false
namespace Go.Proofs.YtlggimmfaflfnaaGreatDoor.TK
open Go.RowKit Go.Shelf Go.Proofs.YtlggimmfaflfnaaGreatDoorW.PrintWords Go.Proofs.YtlggimmfaflfnaaGreatDoorW.PrintMore Go.Proofs.YtlggimmfaflfnaaGreatDoor.TF Go.Proofs.YtlggimmfaflfnaaGreatDoor.TW

def specCells (k : Int) (nl : Bool) (t : ByteArray) (n sm : Int) (re im : Nat) (fl : Bool) (mk : Int) (x y : Value) : Array Value := #[.int .u8 k, .bool nl, .string t, .int .i16 n, .int .i8 sm, .float .f64 re, .float .f64 im, .bool fl, .int .u32 mk, x, y]
theorem results_ct {fn : Func} {p q : Tmp} (h : fn.results = #[.cell p 37, .tmp q]) (tmps : Array Value) (w : World) (g : Nat) (cs : Array Value) (hp : tmps.getD p undef = .pointer (some ⟨g, 0, none⟩)) (hg : w.heap[g]? = some (.cells cs 37 (0, 0)))
    (hi : (Tryz.prog.info? 37).map (·.size) = some cs.size) :
    (results fn tmps).run Tryz.prog w = .ok (.tuple #[.agg cs, tmps.getD q undef]) w := by
  have hp' : tmps[p]?.getD undef = .pointer (some ⟨g, 0, none⟩) := by simpa using hp
  have := run_loadVar_row (P := Tryz.prog) w g 37 37 cs (0, 0) _ hg Tryz.underlying37 rfl hi
  simp [results, h, hp', asAddr, this]
theorem infoSpec : (Tryz.prog.info? 37).map (·.size) = some 11 := by kernel_rfl
set_option maxHeartbeats 4000000 in
set_option maxRecDepth 100000 in
theorem twin_ok (k : Int) (nl : Bool) (t : ByteArray) (n sm : Int) (re im : Nat) (fl : Bool) (mk : Int) (A B : Option Addr) (c d base : Nat) (its : List ByteArray) (ps : List Int) (w : World)
    (hI : w.ownsRow base 9 1 (.slice A its.length c) its.length (encs Value.string its)) (hP : w.ownsRow base 3 1 (.slice B ps.length d) ps.length (encs (Value.int .i64) ps)) (h1 : its.length ≤ 65536) (h2 : ps.length ≤ 65536) :
    Calls Tryz.prog 107 #[spec k nl t n sm re im fl mk (.slice A its.length c) (.slice B ps.length d)] w fun e w' => ∃ A' c' B' d', e = .returned (spec k nl t n sm re im fl mk (.slice A' its.length c') (.slice B' ps.length d')) ∧
      w'.ownsRow w.heap.size 9 1 (.slice A' its.length c') its.length (encs Value.string its) ∧ w'.ownsRow w.heap.size 3 1 (.slice B' ps.length d') ps.length (encs (Value.int .i64) ps) ∧ Below w.heap.size w w' := by
  unfold spec
  have hn := Blk.new w 37 #[.int .u8 k, .bool nl, .string t, .int .i16 n, .int .i8 sm, .float .f64 re, .float .f64 im, .bool fl, .int .u32 mk, .slice A its.length c, .slice B ps.length d]
  obtain ⟨W1, hW1⟩ : ∃ W1, w.alloc (.cells #[.int .u8 k, .bool nl, .string t, .int .i16 n, .int .i8 sm, .float .f64 re, .float .f64 im, .bool fl, .int .u32 mk, .slice A its.length c, .slice B ps.length d] 37) = W1 := ⟨_, rfl⟩
  have b1 : Below w.heap.size w W1 := by rw [← hW1]; exact (Below.refl _ w).alloc (Nat.le_refl _) _
  have hs1 : W1.heap.size = w.heap.size + 1 := by rw [← hW1, World.size_alloc]
  rw [hW1] at hn
  have hr := Blk.new W1 37 #[.int .u8 0, .bool false, .string ⟨#[]⟩, .int .i16 0, .int .i8 0, .float .f64 0, .float .f64 0, .bool false, .int .u32 0, .slice none 0 0, .slice none 0 0]
  obtain ⟨W2, hW2⟩ : ∃ W2, W1.alloc (.cells #[.int .u8 0, .bool false, .string ⟨#[]⟩, .int .i16 0, .int .i8 0, .float .f64 0, .float .f64 0, .bool false, .int .u32 0, .slice none 0 0, .slice none 0 0] 37) = W2 := ⟨_, rfl⟩
  have b12 : Below W1.heap.size W1 W2 := by rw [← hW2]; exact (Below.refl _ W1).alloc (Nat.le_refl _) _
  have hs2 : W2.heap.size = w.heap.size + 1 + 1 := by rw [← hW2, World.size_alloc, hs1]
  rw [hW2, hs1] at hr
  have b2 : Below w.heap.size w W2 := b1.trans (b12.mono b1.size)
  have hn2 := hn.next b12
  have c9 : W2.cell? ⟨w.heap.size, 9, none⟩ = some (.slice A its.length c) := (hn2.cell 9).trans rfl
  have c10 : W2.cell? ⟨w.heap.size, 10, none⟩ = some (.slice B ps.length d) := (hn2.cell 10).trans rfl
  have HN := Aside0.mk hn2
  have HR := Aside0.mk hr
  have HB := Aside0.mk b2
  have HI := Aside0.mk (TF.own_next hI b2)
  have HP := Aside0.mk (TF.own_next hP b2)
  clear hn hn2 hr b1 b2 b12 hI hP
  go_enter Tryz.func107, Tryz.ntmps107
  go_upto_region 1 with (fail)
  clear hW1 hW2
  go_cut [] (fun wc => ∃ (A' : Option Addr) (c' : Nat) (B' : Option Addr) (d' : Nat), Aside0 (Blk wc w.heap.size 37 #[.int .u8 k, .bool nl, .string t, .int .i16 n, .int .i8 sm, .float .f64 re, .float .f64 im, .bool fl, .int .u32 mk, .slice A' its.length c', .slice B' ps.length d']) ∧
    Aside0 (wc.ownsRow W2.heap.size 9 1 (.slice A' its.length c') its.length (encs Value.string its)) ∧ Aside0 (wc.ownsRow W2.heap.size 3 1 (.slice B' ps.length d') ps.length (encs (Value.int .i64) ps)) ∧ Aside0 (Fr (fun k => k = w.heap.size) W2 wc))
  case first =>
    have hfl := fun (W : World) (a : Addr) (x : Nat) => run_store Tryz.prog W a (.float .f64 x) .plain rfl
    have n2 := HN.out.next (Below.refl W2.heap.size W2).drew
    have i2 := own_drew HI.out
    have p2 := own_drew HP.out
    go_region_with (first | (go_at_call 144; (with_reducible refine (clone_strs i2 (by omega)).mono ?_); rintro e w3 ⟨v', rfl, ho3, hb3⟩; obtain ⟨A', c', rfl⟩ := TF.own_slice ho3; have n3 := n2.next hb3; have p3 := TF.own_next p2 hb3; have e9 := (n3.cell 9).trans rfl; have e10 := (n3.cell 10).trans rfl) | (go_at_call 53; (with_reducible refine (clone_ints p3 (by omega)).mono ?_); rintro e w4 ⟨v', rfl, ho4, hb4⟩; obtain ⟨B', d', rfl⟩ := TF.own_slice ho4; have n4 := n3.next hb4; have q3 := TF.own_next ho3 hb4; have g9 := (n4.cell 9).trans rfl; have g10 := (n4.cell 10).trans rfl; have f9 := n4.frozen 9; have f10 := n4.frozen 10))
    all_goals
      have s1 := n4.set_ 9 (.slice A' its.length c')
      have s2 := s1.set_ 10 (.slice B' ps.length d')
      have z4 : W2.heap.size ≤ w3.heap.size := hb3.size
      have bw : Fr (fun k => k = w.heap.size) W2 w4 := Fr.of ((Below.refl W2.heap.size W2).drew.trans (hb3.trans (hb4.mono hb3.size)))
      have f1 := bw.set (p := ⟨w.heap.size, 9, none⟩) (.inl rfl) (.slice A' its.length c')
      have f2 := f1.set (p := ⟨w.heap.size, 10, none⟩) (.inl rfl) (.slice B' ps.length d')
      have hlt : w.heap.size < W2.heap.size := by omega
      have o1 := ownsRow_setCell_below (a := ⟨w.heap.size, 9, none⟩) q3 hlt (.slice A' its.length c')
      have o2 := ownsRow_setCell_below (a := ⟨w.heap.size, 10, none⟩) o1 hlt (.slice B' ps.length d')
      have o3 := ownsRow_setCell_below (a := ⟨w.heap.size, 9, none⟩) ho4 (Nat.lt_of_lt_of_le hlt z4) (.slice A' its.length c')
      have o4 := ownsRow_setCell_below (a := ⟨w.heap.size, 10, none⟩) o3 (Nat.lt_of_lt_of_le hlt z4) (.slice B' ps.length d')
      have S2 := Aside0.mk s2
      have O2 := Aside0.mk o2
      have O4 := Aside0.mk (TF.own_lower o4 z4)
      have F2 := Aside0.mk f2
      clear s1 s2 bw f1 f2 o1 o2 o3 o4 n2 n3 n4 p2 p3 q3 ho3 ho4 hb3 hb4 i2 e9 e10 g9 g10 c9 c10
      go_wp2_with (fail)
      go_meet
      exact ⟨A', c', B', d', S2, O2, O4, F2⟩
  case rest =>
    obtain ⟨A', c', B', d', HS, HI2, HP2, HF⟩ := hcut
    have s8 := HS.out
    have r8 := HR.out.fr HF.out (show ¬ (w.heap.size + 1 = w.heap.size) by omega)
    have hz : w.heap.size + 1 < wc.heap.size := r8.lt
    have bb8 : Below w.heap.size w wc := HB.out.trans (HF.out.below (by omega) (fun k hk => by omega))
    obtain ⟨R, hR⟩ : ∃ R : Array Value, #[.int .u8 k, .bool nl, .string t, .int .i16 n, .int .i8 sm, .float .f64 re, .float .f64 im, .bool fl, .int .u32 mk, .slice A' its.length c', .slice B' ps.length d'] = R := ⟨_, rfl⟩
    obtain ⟨Z, hZ⟩ : ∃ Z : Array Value, #[.int .u8 0, .bool false, .string ⟨#[]⟩, .int .i16 0, .int .i8 0, .float .f64 0, .float .f64 0, .bool false, .int .u32 0, .slice none 0 0, .slice none 0 0] = Z := ⟨_, rfl⟩
    have hone : R.all (·.oneCell') = true := by rw [← hR]; simp [Value.oneCell', Value.cells]
    have hls : R.size = 11 := by rw [← hR]; rfl
    have hZs : Z.size = 11 := by rw [← hZ]; rfl
    have hinf := infoSpec
    unfold Blk at s8 r8
    rw [hR] at s8
    rw [hZ] at r8
    clear c9 c10
    go_upto_region 2 with (fail)
    refine wp_region_list ?_
    refine wpList_load_row rfl 37 _ rfl _ rfl 37 R (0, 0) _ s8 Tryz.underlying37 rfl (by rw [hls]; exact hinf) ?_
    refine wpList_store_row rfl 37 _ _ rfl _ R rfl rfl 37 Z r8 (by rw [hls]; exact hinf) (by rw [hZs, hls]) hone ?_
    have hg2 := setRow_heap wc (w.heap.size + 1) Z R 37 (0, 0) r8
    have q9 := own_setRow (R := R) (TF.own_lower HI2.out (show w.heap.size + 2 ≤ W2.heap.size by omega)) (show w.heap.size + 1 < w.heap.size + 2 by omega)
    have o9 := own_setRow (R := R) (TF.own_lower HP2.out (show w.heap.size + 2 ≤ W2.heap.size by omega)) (show w.heap.size + 1 < w.heap.size + 2 by omega)
    have bb9 : Below w.heap.size w (wc.setRow (w.heap.size + 1) R) := bb8.trans ⟨rfl, rfl, rfl, by rw [setRow_size]; exact Nat.le_refl _, fun i hi => setRow_other _ _ _ _ (by omega)⟩
    obtain ⟨W9, hW9⟩ : ∃ W9, wc.setRow (w.heap.size + 1) R = W9 := ⟨_, rfl⟩
    rw [hW9] at hg2 q9 o9 bb9 ⊢
    have HG2 := Aside0.mk hg2
    have HInf := Aside0.mk (show (Tryz.prog.info? 37).map (·.size) = some R.size by rw [hls]; exact hinf)
    have HQ := Aside0.mk (TF.own_lower q9 (show w.heap.size ≤ w.heap.size + 2 by omega))
    have HO2 := Aside0.mk (TF.own_lower o9 (show w.heap.size ≤ w.heap.size + 2 by omega))
    have HB2 := Aside0.mk bb9
    have HR2 := Aside0.mk hR
    clear hg2 q9 o9 bb9 hW9 s8 r8 bb8 hinf hone hls hZs hZ hR HS HI2 HP2 HF HR HB HN HI HP
    go_wp2
    refine bodyPost_ret (results_cell_row rfl _ W9 (w.heap.size + 1) 37 R (0, 0) _ rfl HG2.out Tryz.underlying37 rfl HInf.out) rfl ?_
    exact ⟨A', c', B', d', by rw [HR2.out], HQ.out, HO2.out, HB2.out⟩
end Go.Proofs.YtlggimmfaflfnaaGreatDoor.TK
end
section
/- Spec, Copy. -/
set_option linter.unusedVariables false
set_option linter.unusedSimpArgs false
namespace Go.Proofs.YtlggimmfaflfnaaGreatDoor.TK
open Go.RowKit Go.Shelf Go.Proofs.YtlggimmfaflfnaaGreatDoorW.PrintWords Go.Proofs.YtlggimmfaflfnaaGreatDoorW.PrintMore Go.Proofs.YtlggimmfaflfnaaGreatDoor.TF Go.Proofs.YtlggimmfaflfnaaGreatDoor.TW

set_option maxHeartbeats 4000000 in
set_option maxRecDepth 100000 in
theorem spec_ok (b g c : Nat) (L : List RowD) (j : Nat) (r : RowD) (w : World) (h : Bk b (.slice (some ⟨g, 0, none⟩) L.length c) L w) (hj : L[j]? = some r) (hl : L.length ≤ 65536) (h1 : r.its.length ≤ 65536) (h2 : r.ps.length ≤ 65536) :
    Calls Tryz.prog 66 #[.pointer (some ⟨b, 0, none⟩), .int .i64 ((j : Int) + 1)] w fun e w' => ∃ A' c' B' d', e = .returned (.tuple #[spec r.k r.nl r.t r.n r.sm r.re r.im r.fl r.mask (.slice A' r.its.length c') (.slice B' r.ps.length d'), .int .i64 0]) ∧
      w'.ownsRow w.heap.size 9 1 (.slice A' r.its.length c') r.its.length (encs Value.string r.its) ∧ w'.ownsRow w.heap.size 3 1 (.slice B' r.ps.length d') r.ps.length (encs (Value.int .i64) r.ps) ∧ Below w.heap.size w w' := by
  have hn := Blk.new w 37 #[.int .u8 0, .bool false, .string ⟨#[]⟩, .int .i16 0, .int .i8 0, .float .f64 0, .float .f64 0, .bool false, .int .u32 0, .slice none 0 0, .slice none 0 0]
  obtain ⟨W1, hW1⟩ : ∃ W1, w.alloc (.cells #[.int .u8 0, .bool false, .string ⟨#[]⟩, .int .i16 0, .int .i8 0, .float .f64 0, .float .f64 0, .bool false, .int .u32 0, .slice none 0 0, .slice none 0 0] 37) = W1 := ⟨_, rfl⟩
  have b1 : Below w.heap.size w W1 := by rw [← hW1]; exact (Below.refl _ w).alloc (Nat.le_refl _) _
  have hs1 : W1.heap.size = w.heap.size + 1 := by rw [← hW1, World.size_alloc]
  rw [hW1] at hn
  have hB1 := h.next b1
  have k0 : W1.cell? ⟨g, j * 16 + 1, none⟩ = some (.int .u8 r.k) := (hB1.at_ hj 1 (by decide)).trans rfl
  have k1 : W1.cell? ⟨g, j * 16 + 1 + 1, none⟩ = some (.bool r.nl) := (hB1.at_ hj 2 (by decide)).trans rfl
  have k2 : W1.cell? ⟨g, j * 16 + 1 + 2, none⟩ = some (.string r.t) := (hB1.at_ hj 3 (by decide)).trans rfl
  have k3 : W1.cell? ⟨g, j * 16 + 1 + 3, none⟩ = some (.int .i16 r.n) := (hB1.at_ hj 4 (by decide)).trans rfl
  have k4 : W1.cell? ⟨g, j * 16 + 1 + 4, none⟩ = some (.int .i8 r.sm) := (hB1.at_ hj 5 (by decide)).trans rfl
  have k5 : W1.cell? ⟨g, j * 16 + 1 + 5, none⟩ = some (.float .f64 r.re) := (hB1.at_ hj 6 (by decide)).trans rfl
  have k6 : W1.cell? ⟨g, j * 16 + 1 + 6, none⟩ = some (.float .f64 r.im) := (hB1.at_ hj 7 (by decide)).trans rfl
  have k7 : W1.cell? ⟨g, j * 16 + 1 + 7, none⟩ = some (.bool r.fl) := (hB1.at_ hj 8 (by decide)).trans rfl
  have k8 : W1.cell? ⟨g, j * 16 + 1 + 8, none⟩ = some (.int .u32 r.mask) := (hB1.at_ hj 9 (by decide)).trans rfl
  have k9 : W1.cell? ⟨g, j * 16 + 1 + 9, none⟩ = some (.slice r.A r.its.length r.c) := (hB1.at_ hj 10 (by decide)).trans rfl
  have k10 : W1.cell? ⟨g, j * 16 + 1 + 10, none⟩ = some (.slice r.B r.ps.length r.d) := (hB1.at_ hj 11 (by decide)).trans rfl
  have ht := twin_ok r.k r.nl r.t r.n r.sm r.re r.im r.fl r.mask r.A r.B r.c r.d 0 r.its r.ps W1 (hB1.owns r (List.mem_of_getElem? hj)).1 (hB1.owns r (List.mem_of_getElem? hj)).2 h1 h2
  unfold spec at ht ⊢
  have HT := Aside0.mk ht
  have HM := Aside0.mk (made_ok b g c L j r W1 hB1 hj hl)
  have HN := Aside0.mk hn
  have HB := Aside0.mk b1
  clear h hB1 ht hn b1
  go_enter Tryz.func66, Tryz.ntmps66
  go_upto_region 1 with (fail)
  clear hW1
  go_wp2_with (go_at_call 123; (with_reducible refine HM.out.mono ?_); rintro e w' ⟨rfl, rfl⟩)
  go_wp2_with (go_at_call 107; (with_reducible refine HT.out.mono ?_))
  rintro e w4 ⟨A', c', B', d', rfl, ho9, ho10, h4⟩
  rename_i hK4
  refine hK4 _ _ ?_
  have r4 := HN.out.next h4
  have b4 := HB.out.trans (h4.mono (by omega))
  obtain ⟨R, hR⟩ : ∃ R : Array Value, #[.int .u8 r.k, .bool r.nl, .string r.t, .int .i16 r.n, .int .i8 r.sm, .float .f64 r.re, .float .f64 r.im, .bool r.fl, .int .u32 r.mask, .slice A' r.its.length c', .slice B' r.ps.length d'] = R := ⟨_, rfl⟩
  have hls : R.size = 11 := by rw [← hR]; rfl
  have hst : Sem.run Tryz.prog (storeCells ⟨w.heap.size, 0, none⟩ R.toList 0) w4 = .ok () (w4.setRow w.heap.size R) := run_storeCells_from w.heap.size 37 R.toList 0 _ w4 r4 (by simp [hls]) (fun v hv => by rw [← hR] at hv; revert v; simp [Value.oneCell'])
  have hg2 := setRow_heap w4 w.heap.size _ R 37 (0, 0) r4
  have q9 := own_setRow (R := R) ho9 (show w.heap.size < w'.heap.size by omega)
  have o9 := own_setRow (R := R) ho10 (show w.heap.size < w'.heap.size by omega)
  have bb9 : Below w.heap.size w (w4.setRow w.heap.size R) := b4.trans ⟨rfl, rfl, rfl, by rw [setRow_size]; exact Nat.le_refl _, fun i hi => setRow_other _ _ _ _ (by omega)⟩
  obtain ⟨W9, hW9⟩ : ∃ W9, w4.setRow w.heap.size R = W9 := ⟨_, rfl⟩
  rw [hW9] at hg2 q9 o9 bb9 hst
  have HG2 := Aside0.mk hg2
  have HInf := Aside0.mk (show (Tryz.prog.info? 37).map (·.size) = some R.size by rw [hls]; exact infoSpec)
  have HQ := Aside0.mk (TF.own_lower q9 (show w.heap.size ≤ w'.heap.size by omega))
  have HO2 := Aside0.mk (TF.own_lower o9 (show w.heap.size ≤ w'.heap.size by omega))
  have HB2 := Aside0.mk bb9
  have HR2 := Aside0.mk hR
  clear hg2 q9 o9 bb9 hW9 ho9 ho10 r4 b4 h4 HN HB HT HM k0 k1 k2 k3 k4 k5 k6 k7 k8 k9 k10 hK4
  go_wp2
  refine bodyPost_ret (results_ct rfl _ W9 w.heap.size R rfl HG2.out HInf.out) rfl ?_
  exact ⟨A', c', B', d', by rw [HR2.out]; rfl, HQ.out, HO2.out, HB2.out⟩
/-- what every record of a book bears -/
def RowD.fine (r : RowD) : Prop := r.err.oneCell' = true ∧ r.its.length ≤ 64 ∧ r.ps.length ≤ 64
end Go.Proofs.YtlggimmfaflfnaaGreatDoor.TK
end
section
/- slices.IndexFunc and ContainsFunc of a row, about closures that only read. Written by gen_index.py. -/
set_option linter.unusedVariables false
set_option linter.unusedSimpArgs false
namespace Go.Proofs.YtlggimmfaflfnaaGreatDoor.IX
open Go.RowKit Go.Proofs.YtlggimmfaflfnaaGreatDoorW.PrintWords Go.Proofs.YtlggimmfaflfnaaGreatDoorW.PrintMore Go.Proofs.YtlggimmfaflfnaaGreatDoor.TF

/-- the index of the first for which p holds; -1 -/
def idxL {α : Type} (p : α → Bool) : List α → Int → Int
  | [], _ => -1
  | x :: l, i => if p x then i else idxL p l (i + 1)
theorem idxL_none {α : Type} (p : α → Bool) : ∀ (l : List α) (i : Int), (∀ x ∈ l, p x = false) → idxL p l i = -1
  | [], i, h => rfl
  | x :: l, i, h => by
    unfold idxL
    rw [h x (by simp)]
    exact idxL_none p l (i + 1) (fun y hy => h y (by simp [hy]))
theorem drop_cons' {α : Type} {l : List α} {k : Nat} (h : k < l.length) : l.drop k = l[k] :: l.drop (k + 1) := List.drop_eq_getElem_cons h
theorem add_pl (g k : Nat) : (⟨g, 0, none⟩ : Addr).add k = ⟨g, k, none⟩ := by unfold Addr.add; split <;> simp_all

set_option maxRecDepth 100000 in
theorem parts_index (base c : Nat) (A : Option Addr) (ps : List Int) (p : Int → Bool) (a1 a2 : Addr) (w : World) (hA : w.ownsRow base 3 1 (.slice A ps.length c) ps.length (ps.map (Value.int .i64))) (hl : ps.length ≤ 1048576)
    (hf : ∀ x ∈ ps, Calls Tryz.prog 131 #[(Value.int .i64) x, .pointer (some a1), .pointer (some a2)] w fun e w' => e = .returned (.bool (p x)) ∧ w' = w) :
    Calls Tryz.prog 158 #[.slice A ps.length c, .func (.func 131) #[] #[.pointer (some a1), .pointer (some a2)]] w fun e w' => e = .returned (.int .i64 (idxL p ps 0)) ∧ w' = w := by
  have HA := Aside0.mk hA
  have HF := Aside0.mk hf
  have HL := Aside0.mk hl
  clear hA hf hl
  obtain ⟨n, hn⟩ : ∃ n, ps.length = n := ⟨_, rfl⟩
  have hn0 : n ≤ 1048576 := by have := HL.out; omega
  have HN := Aside0.mk hn
  rw [hn]
  clear hn HL
  obtain ⟨r, hr⟩ : ∃ r, idxL p ps 0 = r := ⟨_, rfl⟩
  rw [hr]
  have HR := Aside0.mk hr
  clear hr
  go_enter Tryz.func158, Tryz.ntmps158
  go_wp2_with (fail)
  go_loopg [8] n (fun kq v8 wr => ∃ k : Nat, k + kq = n ∧ v8 = .int .i64 (k : Int) ∧ wr = w ∧ Aside0 (idxL p (ps.drop k) (k : Int) = r))
  case atStart => exact ⟨0, by omega, rfl, rfl, ⟨by simpa using HR.out⟩⟩
  case round =>
    obtain ⟨k, hk, rfl, rfl, HK⟩ := hrel
    by_cases hlt : k < n
    · have hlt' : k < ps.length := by rw [HN.out]; exact hlt
      obtain ⟨g, rfl⟩ : ∃ g, A = some ⟨g, 0, none⟩ := by
        have := HA.out; rw [HN.out] at this
        exact TF.own_some this (by omega)
      have hc : wr.cell? ⟨g, k, none⟩ = some ((Value.int .i64) ps[k]) := by
        have h := HA.out.cells (g := g) rfl k ((Value.int .i64) ps[k]) (by simp [hlt'])
        rw [add_pl] at h
        exact h
      have hgk : gk = (gk - 1) + 1 := by omega
      have HC := Aside0.mk (HF.out ps[k] (List.getElem_mem hlt'))
      obtain ⟨x, hx⟩ : ∃ x, ps[k] = x := ⟨_, rfl⟩
      have HX := Aside0.mk hx
      have HD := Aside0.mk (show idxL p (x :: ps.drop (k + 1)) (k : Int) = r by rw [← hx, ← drop_cons' hlt']; exact HK.out)
      rw [hx] at hc HC
      cases hp : p x with
      | true =>
        rw [hp] at HC
        have e1 : r = (k : Int) := by have := HD.out; unfold idxL at this; rw [hp, if_pos rfl] at this; exact this.symm
        have HE := Aside0.mk e1
        clear hx hp HX HD HK hgk hlt' e1
        go_wp2_with (go_at_call 131; (with_reducible refine HC.out.mono ?_); rintro e w' ⟨rfl, rfl⟩)
        go_ret
        obtain rfl := HE.out
        exact ⟨rfl, rfl⟩
      | false =>
        rw [hp] at HC
        have e1 : idxL p (ps.drop (k + 1)) ((k : Int) + 1) = r := by have := HD.out; unfold idxL at this; rw [hp] at this; exact this
        have HE := Aside0.mk e1
        clear hx hp HX HD HK hlt' e1
        go_wp2_with (go_at_call 131; (with_reducible refine HC.out.mono ?_); rintro e w' ⟨rfl, rfl⟩)
        go_roundg (gk - 1)
        case measure => omega
        case rel => exact ⟨k + 1, by omega, by go_num, rfl, ⟨by have := HE.out; simpa using this⟩⟩
    · obtain rfl : k = n := by omega
      have e1 : r = -1 := by have := HK.out; rw [List.drop_of_length_le (by rw [HN.out]; exact Nat.le_refl _)] at this; exact this.symm
      have HE := Aside0.mk e1
      clear HK e1
      go_wp2_with (fail)
      go_ret
      obtain rfl := HE.out
      exact ⟨rfl, rfl⟩

end Go.Proofs.YtlggimmfaflfnaaGreatDoor.IX
end
