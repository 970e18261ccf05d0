/- Twin BookSpec BookSpec2 MakeParts -/
import Derived.Test.YtoplgeajolonoaaGreatDoorM18
import Derived.Laws.AppendOwn
import Derived.Test.YtoplgeajolonoaaGreatDoorM13
section
/- errataref05.Twin: a copy of its own. -/
set_option linter.unusedVariables false
set_option linter.unusedSimpArgs false
namespace Go.Proofs.YtoplgeajolonoaaGreatDoor.TW
open Go.RowKit Go.Shelf Go.Proofs.YtoplgeajolonoaaGreatDoorW.PrintWords Go.Proofs.YtoplgeajolonoaaGreatDoorW.PrintMore

theorem SpecAt.under {b : Nat} {k : Int} {nl : Bool} {t : ByteArray} {n sm : Int} {re im : Nat} {fl : Bool} {mk : Int} {it pa : Value} {W V : World} {m : Nat} (h : SpecAt b k nl t n sm re im fl mk it pa W) (hb : Below m W V) (hm : b < m) : SpecAt b k nl t n sm re im fl mk it pa V :=
  (hb.block b hm).trans h
theorem own_slice {w : World} {base : Nat} {e : TypeId} {size n : Nat} {v : Value} {xs : List Value} (h : w.ownsRow base e size v n xs) : ∃ A c, v = .slice A n c := by
  rcases h with ⟨_, ⟨rfl, rfl⟩ | ⟨g, cap, cur, rfl, _⟩⟩
  · exact ⟨_, _, rfl⟩
  · exact ⟨_, _, rfl⟩
theorem own_next {w V : World} {base : Nat} {e : TypeId} {size n : Nat} {v : Value} {xs : List Value} (h : w.ownsRow base e size v n xs) (hb : Below w.heap.size w V) : V.ownsRow base e size v n xs := by
  obtain ⟨h0, h1 | ⟨g, cap, cur, h1, h2, h3, h4⟩⟩ := h
  · exact ⟨h0, .inl h1⟩
  · exact ⟨h0, .inr ⟨g, cap, cur, h1, h2, (hb.block g (Array.getElem?_eq_some_iff.1 h3).1).trans h3, h4⟩⟩
theorem own_base {w : World} {base base' : Nat} {e : TypeId} {size n : Nat} {v : Value} {xs : List Value} (h : w.ownsRow base e size v n xs) (hb : base' ≤ base) : w.ownsRow base' e size v n xs := by
  obtain ⟨h0, h1 | ⟨g, cap, cur, h1, h2, h3⟩⟩ := h
  · exact ⟨h0, .inl h1⟩
  · exact ⟨h0, .inr ⟨g, cap, cur, h1, Nat.le_trans hb h2, h3⟩⟩
theorem own_setRow {w : World} {base : Nat} {e : TypeId} {size n : Nat} {v : Value} {xs : List Value} {g : Nat} {R : Array Value} (h : w.ownsRow base e size v n xs) (hg : g < base) : (w.setRow g R).ownsRow base e size v n xs := by
  obtain ⟨h0, h1 | ⟨b, cap, cur, h1, h2, h3, h4⟩⟩ := h
  · exact ⟨h0, .inl h1⟩
  · exact ⟨h0, .inr ⟨b, cap, cur, h1, h2, (setRow_other w g b R (by omega)).trans h3, h4⟩⟩
section
variable {b : Nat} {k : Int} {nl : Bool} {t : ByteArray} {n sm : Int} {re im : Nat} {fl : Bool} {mk : Int} {it pa : Value} {W : World}
theorem heap_setCell {W : World} {g : Nat} {c : Array Value} {e : TypeId} {f : Nat × Nat} (h : W.heap[g]? = some (.cells c e f)) (i : Nat) (v : Value) : (W.setCell ⟨g, i, none⟩ v).heap[g]? = some (.cells (c.setIfInBounds i v) e f) := by
  obtain ⟨hl, he⟩ := Array.getElem?_eq_some_iff.1 h
  show (W.heap.modify g _)[g]? = _
  rw [Array.getElem?_modify]
  simp [h]
theorem SpecAt.free (h : SpecAt b k nl t n sm re im fl mk it pa W) (i : Nat) : W.frozen? ⟨b, i, none⟩ = false := by
  unfold World.frozen?
  rw [h]
  simp
end
end Go.Proofs.YtoplgeajolonoaaGreatDoor.TW
end
section
/- book.twin, Spec, Copy. -/
set_option linter.unusedVariables false
set_option linter.unusedSimpArgs false
namespace Go.Proofs.YtoplgeajolonoaaGreatDoor.TK
open Go.RowKit Go.Shelf Go.Proofs.YtoplgeajolonoaaGreatDoorW.PrintWords Go.Proofs.YtoplgeajolonoaaGreatDoorW.PrintMore Go.Proofs.YtoplgeajolonoaaGreatDoor.TF Go.Proofs.YtoplgeajolonoaaGreatDoor.TW

def specCells (k : Int) (nl : Bool) (t : ByteArray) (n sm : Int) (re im : Nat) (fl : Bool) (mk : Int) (x y : Value) : Array Value := #[.int .u8 k, .bool nl, .string t, .int .i16 n, .int .i8 sm, .float .f64 re, .float .f64 im, .bool fl, .int .u32 mk, x, y]
theorem results_ct {fn : Func} {p q : Tmp} (h : fn.results = #[.cell p 43, .tmp q]) (tmps : Array Value) (w : World) (g : Nat) (cs : Array Value) (hp : tmps.getD p undef = .pointer (some ⟨g, 0, none⟩)) (hg : w.heap[g]? = some (.cells cs 43 (0, 0)))
    (hi : (Tryz.prog.info? 43).map (·.size) = some cs.size) :
    (results fn tmps).run Tryz.prog w = .ok (.tuple #[.agg cs, tmps.getD q undef]) w := by
  have hp' : tmps[p]?.getD undef = .pointer (some ⟨g, 0, none⟩) := by simpa using hp
  have := run_loadVar_row (P := Tryz.prog) w g 43 43 cs (0, 0) _ hg Tryz.underlying43 rfl hi
  simp [results, h, hp', asAddr, this]
theorem infoSpec : (Tryz.prog.info? 43).map (·.size) = some 11 := by kernel_rfl
set_option maxHeartbeats 4000000 in
set_option maxRecDepth 100000 in
theorem twin_ok (k : Int) (nl : Bool) (t : ByteArray) (n sm : Int) (re im : Nat) (fl : Bool) (mk : Int) (A B : Option Addr) (c d base : Nat) (its : List ByteArray) (ps : List Int) (w : World)
    (hI : w.ownsRow base 9 1 (.slice A its.length c) its.length (encs Value.string its)) (hP : w.ownsRow base 3 1 (.slice B ps.length d) ps.length (encs (Value.int .i64) ps)) (h1 : its.length ≤ 65536) (h2 : ps.length ≤ 65536) :
    Calls Tryz.prog 37 #[spec k nl t n sm re im fl mk (.slice A its.length c) (.slice B ps.length d)] w fun e w' => ∃ A' c' B' d', e = .returned (spec k nl t n sm re im fl mk (.slice A' its.length c') (.slice B' ps.length d')) ∧
      w'.ownsRow w.heap.size 9 1 (.slice A' its.length c') its.length (encs Value.string its) ∧ w'.ownsRow w.heap.size 3 1 (.slice B' ps.length d') ps.length (encs (Value.int .i64) ps) ∧ Below w.heap.size w w' := by
  unfold spec
  have hn := Blk.new w 43 #[.int .u8 k, .bool nl, .string t, .int .i16 n, .int .i8 sm, .float .f64 re, .float .f64 im, .bool fl, .int .u32 mk, .slice A its.length c, .slice B ps.length d]
  obtain ⟨W1, hW1⟩ : ∃ W1, w.alloc (.cells #[.int .u8 k, .bool nl, .string t, .int .i16 n, .int .i8 sm, .float .f64 re, .float .f64 im, .bool fl, .int .u32 mk, .slice A its.length c, .slice B ps.length d] 43) = W1 := ⟨_, rfl⟩
  have b1 : Below w.heap.size w W1 := by rw [← hW1]; exact (Below.refl _ w).alloc (Nat.le_refl _) _
  have hs1 : W1.heap.size = w.heap.size + 1 := by rw [← hW1, World.size_alloc]
  rw [hW1] at hn
  have hr := Blk.new W1 43 #[.int .u8 0, .bool false, .string ⟨#[]⟩, .int .i16 0, .int .i8 0, .float .f64 0, .float .f64 0, .bool false, .int .u32 0, .slice none 0 0, .slice none 0 0]
  obtain ⟨W2, hW2⟩ : ∃ W2, W1.alloc (.cells #[.int .u8 0, .bool false, .string ⟨#[]⟩, .int .i16 0, .int .i8 0, .float .f64 0, .float .f64 0, .bool false, .int .u32 0, .slice none 0 0, .slice none 0 0] 43) = W2 := ⟨_, rfl⟩
  have b12 : Below W1.heap.size W1 W2 := by rw [← hW2]; exact (Below.refl _ W1).alloc (Nat.le_refl _) _
  have hs2 : W2.heap.size = w.heap.size + 1 + 1 := by rw [← hW2, World.size_alloc, hs1]
  rw [hW2, hs1] at hr
  have b2 : Below w.heap.size w W2 := b1.trans (b12.mono b1.size)
  have hn2 := hn.next b12
  have c9 : W2.cell? ⟨w.heap.size, 9, none⟩ = some (.slice A its.length c) := (hn2.cell 9).trans rfl
  have c10 : W2.cell? ⟨w.heap.size, 10, none⟩ = some (.slice B ps.length d) := (hn2.cell 10).trans rfl
  have HN := Aside0.mk hn2
  have HR := Aside0.mk hr
  have HB := Aside0.mk b2
  have HI := Aside0.mk (TF.own_next hI b2)
  have HP := Aside0.mk (TF.own_next hP b2)
  clear hn hn2 hr b1 b2 b12 hI hP
  go_enter Tryz.func37, Tryz.ntmps37
  go_upto_region 1 with (fail)
  clear hW1 hW2
  go_cut [] (fun wc => ∃ (A' : Option Addr) (c' : Nat) (B' : Option Addr) (d' : Nat), Aside0 (Blk wc w.heap.size 43 #[.int .u8 k, .bool nl, .string t, .int .i16 n, .int .i8 sm, .float .f64 re, .float .f64 im, .bool fl, .int .u32 mk, .slice A' its.length c', .slice B' ps.length d']) ∧
    Aside0 (wc.ownsRow W2.heap.size 9 1 (.slice A' its.length c') its.length (encs Value.string its)) ∧ Aside0 (wc.ownsRow W2.heap.size 3 1 (.slice B' ps.length d') ps.length (encs (Value.int .i64) ps)) ∧ Aside0 (Fr (fun k => k = w.heap.size) W2 wc))
  case first =>
    have hfl := fun (W : World) (a : Addr) (x : Nat) => run_store Tryz.prog W a (.float .f64 x) .plain rfl
    have n2 := HN.out.next (Below.refl W2.heap.size W2).drew
    have i2 := own_drew HI.out
    have p2 := own_drew HP.out
    go_region_with (first | (go_at_call 67; (with_reducible refine (clone_strs i2 (by omega)).mono ?_); rintro e w3 ⟨v', rfl, ho3, hb3⟩; obtain ⟨A', c', rfl⟩ := TF.own_slice ho3; have n3 := n2.next hb3; have p3 := TF.own_next p2 hb3; have e9 := (n3.cell 9).trans rfl; have e10 := (n3.cell 10).trans rfl) | (go_at_call 68; (with_reducible refine (clone_ints p3 (by omega)).mono ?_); rintro e w4 ⟨v', rfl, ho4, hb4⟩; obtain ⟨B', d', rfl⟩ := TF.own_slice ho4; have n4 := n3.next hb4; have q3 := TF.own_next ho3 hb4; have g9 := (n4.cell 9).trans rfl; have g10 := (n4.cell 10).trans rfl; have f9 := n4.frozen 9; have f10 := n4.frozen 10))
    all_goals
      have s1 := n4.set_ 9 (.slice A' its.length c')
      have s2 := s1.set_ 10 (.slice B' ps.length d')
      have z4 : W2.heap.size ≤ w3.heap.size := hb3.size
      have bw : Fr (fun k => k = w.heap.size) W2 w4 := Fr.of ((Below.refl W2.heap.size W2).drew.trans (hb3.trans (hb4.mono hb3.size)))
      have f1 := bw.set (p := ⟨w.heap.size, 9, none⟩) (.inl rfl) (.slice A' its.length c')
      have f2 := f1.set (p := ⟨w.heap.size, 10, none⟩) (.inl rfl) (.slice B' ps.length d')
      have hlt : w.heap.size < W2.heap.size := by omega
      have o1 := ownsRow_setCell_below (a := ⟨w.heap.size, 9, none⟩) q3 hlt (.slice A' its.length c')
      have o2 := ownsRow_setCell_below (a := ⟨w.heap.size, 10, none⟩) o1 hlt (.slice B' ps.length d')
      have o3 := ownsRow_setCell_below (a := ⟨w.heap.size, 9, none⟩) ho4 (Nat.lt_of_lt_of_le hlt z4) (.slice A' its.length c')
      have o4 := ownsRow_setCell_below (a := ⟨w.heap.size, 10, none⟩) o3 (Nat.lt_of_lt_of_le hlt z4) (.slice B' ps.length d')
      have S2 := Aside0.mk s2
      have O2 := Aside0.mk o2
      have O4 := Aside0.mk (TF.own_lower o4 z4)
      have F2 := Aside0.mk f2
      clear s1 s2 bw f1 f2 o1 o2 o3 o4 n2 n3 n4 p2 p3 q3 ho3 ho4 hb3 hb4 i2 e9 e10 g9 g10 c9 c10
      go_wp2_with (fail)
      go_meet
      exact ⟨A', c', B', d', S2, O2, O4, F2⟩
  case rest =>
    obtain ⟨A', c', B', d', HS, HI2, HP2, HF⟩ := hcut
    have s8 := HS.out
    have r8 := HR.out.fr HF.out (show ¬ (w.heap.size + 1 = w.heap.size) by omega)
    have hz : w.heap.size + 1 < wc.heap.size := r8.lt
    have bb8 : Below w.heap.size w wc := HB.out.trans (HF.out.below (by omega) (fun k hk => by omega))
    obtain ⟨R, hR⟩ : ∃ R : Array Value, #[.int .u8 k, .bool nl, .string t, .int .i16 n, .int .i8 sm, .float .f64 re, .float .f64 im, .bool fl, .int .u32 mk, .slice A' its.length c', .slice B' ps.length d'] = R := ⟨_, rfl⟩
    obtain ⟨Z, hZ⟩ : ∃ Z : Array Value, #[.int .u8 0, .bool false, .string ⟨#[]⟩, .int .i16 0, .int .i8 0, .float .f64 0, .float .f64 0, .bool false, .int .u32 0, .slice none 0 0, .slice none 0 0] = Z := ⟨_, rfl⟩
    have hone : R.all (·.oneCell') = true := by rw [← hR]; simp [Value.oneCell', Value.cells]
    have hls : R.size = 11 := by rw [← hR]; rfl
    have hZs : Z.size = 11 := by rw [← hZ]; rfl
    have hinf := infoSpec
    unfold Blk at s8 r8
    rw [hR] at s8
    rw [hZ] at r8
    clear c9 c10
    go_upto_region 2 with (fail)
    refine wp_region_list ?_
    refine wpList_load_row rfl 43 _ rfl _ rfl 43 R (0, 0) _ s8 Tryz.underlying43 rfl (by rw [hls]; exact hinf) ?_
    refine wpList_store_row rfl 43 _ _ rfl _ R rfl rfl 43 Z r8 (by rw [hls]; exact hinf) (by rw [hZs, hls]) hone ?_
    have hg2 := setRow_heap wc (w.heap.size + 1) Z R 43 (0, 0) r8
    have q9 := own_setRow (R := R) (TF.own_lower HI2.out (show w.heap.size + 2 ≤ W2.heap.size by omega)) (show w.heap.size + 1 < w.heap.size + 2 by omega)
    have o9 := own_setRow (R := R) (TF.own_lower HP2.out (show w.heap.size + 2 ≤ W2.heap.size by omega)) (show w.heap.size + 1 < w.heap.size + 2 by omega)
    have bb9 : Below w.heap.size w (wc.setRow (w.heap.size + 1) R) := bb8.trans ⟨rfl, rfl, rfl, by rw [setRow_size]; exact Nat.le_refl _, fun i hi => setRow_other _ _ _ _ (by omega)⟩
    obtain ⟨W9, hW9⟩ : ∃ W9, wc.setRow (w.heap.size + 1) R = W9 := ⟨_, rfl⟩
    rw [hW9] at hg2 q9 o9 bb9 ⊢
    have HG2 := Aside0.mk hg2
    have HInf := Aside0.mk (show (Tryz.prog.info? 43).map (·.size) = some R.size by rw [hls]; exact hinf)
    have HQ := Aside0.mk (TF.own_lower q9 (show w.heap.size ≤ w.heap.size + 2 by omega))
    have HO2 := Aside0.mk (TF.own_lower o9 (show w.heap.size ≤ w.heap.size + 2 by omega))
    have HB2 := Aside0.mk bb9
    have HR2 := Aside0.mk hR
    clear hg2 q9 o9 bb9 hW9 s8 r8 bb8 hinf hone hls hZs hZ hR HS HI2 HP2 HF HR HB HN HI HP
    go_wp2
    refine bodyPost_ret (results_cell_row rfl _ W9 (w.heap.size + 1) 43 R (0, 0) _ rfl HG2.out Tryz.underlying43 rfl HInf.out) rfl ?_
    exact ⟨A', c', B', d', by rw [HR2.out], HQ.out, HO2.out, HB2.out⟩
end Go.Proofs.YtoplgeajolonoaaGreatDoor.TK
end
section
/- Spec, Copy. -/
set_option linter.unusedVariables false
set_option linter.unusedSimpArgs false
namespace Go.Proofs.YtoplgeajolonoaaGreatDoor.TK
open Go.RowKit Go.Shelf Go.Proofs.YtoplgeajolonoaaGreatDoorW.PrintWords Go.Proofs.YtoplgeajolonoaaGreatDoorW.PrintMore Go.Proofs.YtoplgeajolonoaaGreatDoor.TF Go.Proofs.YtoplgeajolonoaaGreatDoor.TW

set_option maxHeartbeats 4000000 in
set_option maxRecDepth 100000 in
theorem spec_ok (b g c : Nat) (L : List RowD) (j : Nat) (r : RowD) (w : World) (h : Bk b (.slice (some ⟨g, 0, none⟩) L.length c) L w) (hj : L[j]? = some r) (hl : L.length ≤ 65536) (h1 : r.its.length ≤ 65536) (h2 : r.ps.length ≤ 65536) :
    Calls Tryz.prog 24 #[.pointer (some ⟨b, 0, none⟩), .int .i64 ((j : Int) + 1)] w fun e w' => ∃ A' c' B' d', e = .returned (.tuple #[spec r.k r.nl r.t r.n r.sm r.re r.im r.fl r.mask (.slice A' r.its.length c') (.slice B' r.ps.length d'), .int .i64 0]) ∧
      w'.ownsRow w.heap.size 9 1 (.slice A' r.its.length c') r.its.length (encs Value.string r.its) ∧ w'.ownsRow w.heap.size 3 1 (.slice B' r.ps.length d') r.ps.length (encs (Value.int .i64) r.ps) ∧ Below w.heap.size w w' := by
  have hn := Blk.new w 43 #[.int .u8 0, .bool false, .string ⟨#[]⟩, .int .i16 0, .int .i8 0, .float .f64 0, .float .f64 0, .bool false, .int .u32 0, .slice none 0 0, .slice none 0 0]
  obtain ⟨W1, hW1⟩ : ∃ W1, w.alloc (.cells #[.int .u8 0, .bool false, .string ⟨#[]⟩, .int .i16 0, .int .i8 0, .float .f64 0, .float .f64 0, .bool false, .int .u32 0, .slice none 0 0, .slice none 0 0] 43) = W1 := ⟨_, rfl⟩
  have b1 : Below w.heap.size w W1 := by rw [← hW1]; exact (Below.refl _ w).alloc (Nat.le_refl _) _
  have hs1 : W1.heap.size = w.heap.size + 1 := by rw [← hW1, World.size_alloc]
  rw [hW1] at hn
  have hB1 := h.next b1
  have k0 : W1.cell? ⟨g, j * 16 + 1, none⟩ = some (.int .u8 r.k) := (hB1.at_ hj 1 (by decide)).trans rfl
  have k1 : W1.cell? ⟨g, j * 16 + 1 + 1, none⟩ = some (.bool r.nl) := (hB1.at_ hj 2 (by decide)).trans rfl
  have k2 : W1.cell? ⟨g, j * 16 + 1 + 2, none⟩ = some (.string r.t) := (hB1.at_ hj 3 (by decide)).trans rfl
  have k3 : W1.cell? ⟨g, j * 16 + 1 + 3, none⟩ = some (.int .i16 r.n) := (hB1.at_ hj 4 (by decide)).trans rfl
  have k4 : W1.cell? ⟨g, j * 16 + 1 + 4, none⟩ = some (.int .i8 r.sm) := (hB1.at_ hj 5 (by decide)).trans rfl
  have k5 : W1.cell? ⟨g, j * 16 + 1 + 5, none⟩ = some (.float .f64 r.re) := (hB1.at_ hj 6 (by decide)).trans rfl
  have k6 : W1.cell? ⟨g, j * 16 + 1 + 6, none⟩ = some (.float .f64 r.im) := (hB1.at_ hj 7 (by decide)).trans rfl
  have k7 : W1.cell? ⟨g, j * 16 + 1 + 7, none⟩ = some (.bool r.fl) := (hB1.at_ hj 8 (by decide)).trans rfl
  have k8 : W1.cell? ⟨g, j * 16 + 1 + 8, none⟩ = some (.int .u32 r.mask) := (hB1.at_ hj 9 (by decide)).trans rfl
  have k9 : W1.cell? ⟨g, j * 16 + 1 + 9, none⟩ = some (.slice r.A r.its.length r.c) := (hB1.at_ hj 10 (by decide)).trans rfl
  have k10 : W1.cell? ⟨g, j * 16 + 1 + 10, none⟩ = some (.slice r.B r.ps.length r.d) := (hB1.at_ hj 11 (by decide)).trans rfl
  have ht := twin_ok r.k r.nl r.t r.n r.sm r.re r.im r.fl r.mask r.A r.B r.c r.d 0 r.its r.ps W1 (hB1.owns r (List.mem_of_getElem? hj)).1 (hB1.owns r (List.mem_of_getElem? hj)).2 h1 h2
  unfold spec at ht ⊢
  have HT := Aside0.mk ht
  have HM := Aside0.mk (made_ok b g c L j r W1 hB1 hj hl)
  have HN := Aside0.mk hn
  have HB := Aside0.mk b1
  clear h hB1 ht hn b1
  go_enter Tryz.func24, Tryz.ntmps24
  go_upto_region 1 with (fail)
  clear hW1
  go_wp2_with (go_at_call 50; (with_reducible refine HM.out.mono ?_); rintro e w' ⟨rfl, rfl⟩)
  go_wp2_with (go_at_call 37; (with_reducible refine HT.out.mono ?_))
  rintro e w4 ⟨A', c', B', d', rfl, ho9, ho10, h4⟩
  rename_i hK4
  refine hK4 _ _ ?_
  have r4 := HN.out.next h4
  have b4 := HB.out.trans (h4.mono (by omega))
  obtain ⟨R, hR⟩ : ∃ R : Array Value, #[.int .u8 r.k, .bool r.nl, .string r.t, .int .i16 r.n, .int .i8 r.sm, .float .f64 r.re, .float .f64 r.im, .bool r.fl, .int .u32 r.mask, .slice A' r.its.length c', .slice B' r.ps.length d'] = R := ⟨_, rfl⟩
  have hls : R.size = 11 := by rw [← hR]; rfl
  have hst : Sem.run Tryz.prog (storeCells ⟨w.heap.size, 0, none⟩ R.toList 0) w4 = .ok () (w4.setRow w.heap.size R) := run_storeCells_from w.heap.size 43 R.toList 0 _ w4 r4 (by simp [hls]) (fun v hv => by rw [← hR] at hv; revert v; simp [Value.oneCell'])
  have hg2 := setRow_heap w4 w.heap.size _ R 43 (0, 0) r4
  have q9 := own_setRow (R := R) ho9 (show w.heap.size < w'.heap.size by omega)
  have o9 := own_setRow (R := R) ho10 (show w.heap.size < w'.heap.size by omega)
  have bb9 : Below w.heap.size w (w4.setRow w.heap.size R) := b4.trans ⟨rfl, rfl, rfl, by rw [setRow_size]; exact Nat.le_refl _, fun i hi => setRow_other _ _ _ _ (by omega)⟩
  obtain ⟨W9, hW9⟩ : ∃ W9, w4.setRow w.heap.size R = W9 := ⟨_, rfl⟩
  rw [hW9] at hg2 q9 o9 bb9 hst
  have HG2 := Aside0.mk hg2
  have HInf := Aside0.mk (show (Tryz.prog.info? 43).map (·.size) = some R.size by rw [hls]; exact infoSpec)
  have HQ := Aside0.mk (TF.own_lower q9 (show w.heap.size ≤ w'.heap.size by omega))
  have HO2 := Aside0.mk (TF.own_lower o9 (show w.heap.size ≤ w'.heap.size by omega))
  have HB2 := Aside0.mk bb9
  have HR2 := Aside0.mk hR
  clear hg2 q9 o9 bb9 hW9 ho9 ho10 r4 b4 h4 HN HB HT HM k0 k1 k2 k3 k4 k5 k6 k7 k8 k9 k10 hK4
  go_wp2
  refine bodyPost_ret (results_ct rfl _ W9 w.heap.size R rfl HG2.out HInf.out) rfl ?_
  exact ⟨A', c', B', d', by rw [HR2.out]; rfl, HQ.out, HO2.out, HB2.out⟩
/-- what every record of a book bears -/
def RowD.fine (r : RowD) : Prop := r.err.oneCell' = true ∧ r.its.length ≤ 64 ∧ r.ps.length ≤ 64
theorem cells_one {L : List RowD} (h : ∀ r ∈ L, r.err.oneCell' = true) : ∀ u ∈ L.flatMap RowD.cells, u.oneCell' = true := by
  intro u hu
  obtain ⟨r, hr, hu⟩ := List.mem_flatMap.1 hu
  have he := h r hr
  simp only [RowD.cells, List.mem_cons, List.mem_nil_iff, or_false] at hu
  rcases hu with rfl | rfl | rfl | rfl | rfl | rfl | rfl | rfl | rfl | rfl | rfl | rfl | rfl | rfl | rfl | rfl <;> first | exact he | rfl
theorem copy_ok (b : Nat) (v : Value) (L : List RowD) (w : World) (h : Bk b v L w) (hl : L.length ≤ 65536) (h1 : ∀ r ∈ L, r.err.oneCell' = true) :
    Calls Tryz.prog 29 #[.pointer (some ⟨b, 0, none⟩)] w fun e w' => ∃ b' v', e = .returned (.pointer (some ⟨b', 0, none⟩)) ∧ Bk b' v' L w' ∧ w.heap.size ≤ b' ∧ (∀ k, v'.ownBlock = some k → w.heap.size ≤ k) ∧ Below w.heap.size w w' := by
  have hc := h.cell
  have HC := Aside0.mk (clone_rows h.rows hl (cells_one h1))
  have HO := Aside0.mk h
  clear h
  go_enter Tryz.func29, Tryz.ntmps29
  go_wp2_with (go_at_call 56; (with_reducible refine HC.out.mono ?_))
  rintro e w1 ⟨v', rfl, ho, hb⟩
  have h1 := HO.out.next hb
  have hn := Blk.new w1 61 #[v']
  have ba := (Below.refl w1.heap.size w1).alloc (Nat.le_refl _) (.cells #[v'] 61)
  have H1 := Aside0.mk (show Bk w1.heap.size v' L (w1.alloc (.cells #[v'] 61)) from ⟨hn, TF.own_lower (ho.alloc _) (Nat.zero_le _), fun r hr => ⟨((h1.owns r hr).1).alloc _, ((h1.owns r hr).2).alloc _⟩⟩)
  have H2 := Aside0.mk (fun k (hk : v'.ownBlock = some k) => (ho.lt k hk).1)
  have hz := hb.size
  have H3 := Aside0.mk (hb.alloc hz (.cells #[v'] 61))
  obtain ⟨A', c', rfl⟩ := TF.own_slice ho
  clear ho hb h1 hn ba hc HC HO
  go_wp2
  go_ret
  exact ⟨_, _, rfl, H1.out, hz, H2.out, H3.out⟩
end Go.Proofs.YtoplgeajolonoaaGreatDoor.TK
end
section
/- What Make asks of a book: its parts' records; the calls of at, whatever the handle. -/
set_option linter.unusedVariables false
set_option linter.unusedSimpArgs false
namespace Go.Proofs.YtoplgeajolonoaaGreatDoor.TK
open Go.RowKit Go.Shelf Go.Proofs.YtoplgeajolonoaaGreatDoorW.PrintWords Go.Proofs.YtoplgeajolonoaaGreatDoorW.PrintMore Go.Proofs.YtoplgeajolonoaaGreatDoor.TF Go.Proofs.YtoplgeajolonoaaGreatDoor.TW

/-- the record of no error -/
def zeroD : RowD := ⟨.nilIface, 0, false, ⟨#[]⟩, 0, 0, 0, 0, false, 0, none, 0, none, 0, [], [], 0, 0, 0, 0⟩
/-- the record of a handle -/
def recOf (L : List RowD) (p : Int) : RowD := if p = 0 then zeroD else L.getD (p.toNat - 1) zeroD
theorem at_any (b : Nat) (v : Value) (L : List RowD) (W : World) (p : Int) (h : Bk b v L W) (h0 : 0 ≤ p) (h1 : p ≤ L.length) (hl : L.length ≤ 65536) :
    Calls Tryz.prog 35 #[.pointer (some ⟨b, 0, none⟩), .int .i64 p] W fun e w' => ∃ g o, e = .returned (.tuple #[.pointer (some ⟨g, o, none⟩), .int .i64 0]) ∧
      (∀ i, i < 16 → w'.cell? ⟨g, o + i, none⟩ = (recOf L p).cells[i]?) ∧ (∃ cs, w'.heap[g]? = some (.cells cs 106 (0, 0))) ∧ (g < W.heap.size → v.ownBlock = some g) ∧ Below W.heap.size W w' := by
  by_cases hp : p = 0
  · subst hp
    refine (at_zero b W).mono ?_
    rintro e w' ⟨rfl, rfl⟩
    have hb := Blk.new W 106 row0
    refine ⟨W.heap.size, 0, rfl, fun i hi => ?_, ⟨_, hb⟩, fun hlt => absurd hlt (Nat.lt_irrefl _), (Below.refl _ _).alloc (Nat.le_refl _) _⟩
    rw [Nat.zero_add, hb.cell i]
    have : recOf L 0 = zeroD := by simp [recOf]
    rw [this]
    simp [row0, zeroD, RowD.cells]
  · obtain ⟨j, rfl⟩ : ∃ j : Nat, p = (j : Int) + 1 := ⟨p.toNat - 1, by omega⟩
    have hjl : j < L.length := by omega
    have hj : L[j]? = some L[j] := List.getElem?_eq_getElem hjl
    obtain ⟨g, c, rfl⟩ := h.some_ hj
    refine (at_ok b g c L j _ W h hj hl).mono ?_
    rintro e w' ⟨rfl, rfl⟩
    refine ⟨g, j * 16, rfl, fun i hi => ?_, TF.own_typed h.rows rfl, fun _ => rfl, Below.refl _ _⟩
    rw [h.at_ hj i hi]
    have : recOf L ((j : Int) + 1) = L[j] := by
      unfold recOf
      rw [if_neg (by omega), show (((j : Int) + 1).toNat - 1) = j by omega]
      simp [hjl]
    rw [this]
/-- sums over the parts -/
def sumOf (f : RowD → Int) (L : List RowD) : List Int → Int
  | [] => 0
  | p :: ps => f (recOf L p) + sumOf f L ps
def topOf (L : List RowD) (a : Int) : List Int → Int
  | [] => a
  | p :: ps => topOf L (max a ((recOf L p).depth + 1)) ps
def lensOf : List ByteArray → Int
  | [] => 0
  | x :: l => (x.size : Int) + lensOf l
theorem sum_snoc (f : RowD → Int) (L : List RowD) (ps : List Int) (p : Int) : sumOf f L (ps ++ [p]) = sumOf f L ps + f (recOf L p) := by
  induction ps with
  | nil => simp [sumOf]
  | cons q ps ih => simp only [List.cons_append, sumOf, ih]; omega
theorem top_snoc (L : List RowD) (ps : List Int) (p : Int) : ∀ a, topOf L a (ps ++ [p]) = max (topOf L a ps) ((recOf L p).depth + 1) := by
  induction ps with
  | nil => intro a; rfl
  | cons q ps ih => intro a; simp only [List.cons_append, topOf, ih]
theorem lens_snoc (l : List ByteArray) (x : ByteArray) : lensOf (l ++ [x]) = lensOf l + x.size := by
  induction l with
  | nil => simp [lensOf]
  | cons q l ih => simp only [List.cons_append, lensOf, ih]; omega
end Go.Proofs.YtoplgeajolonoaaGreatDoor.TK
end
