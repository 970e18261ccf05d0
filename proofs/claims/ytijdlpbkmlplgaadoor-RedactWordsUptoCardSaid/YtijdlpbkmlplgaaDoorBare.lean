/- redact.Bare: checked, then bare. -/
import Derived.Test.YtijdlpbkmlplgaaDoorBareVal
set_option linter.unusedVariables false
set_option linter.unusedSimpArgs false
namespace Go.Proofs.YtijdlpbkmlplgaaDoor.TW
open Go.RowKit Go.Shelf Go.Proofs.YtijdlpbkmlplgaaDoorW.PrintWords Go.Proofs.YtijdlpbkmlplgaaDoorW.PrintMore

theorem results_ct {fn : Func} {p q : Tmp} (h : fn.results = #[.cell p 29, .tmp q]) (tmps : Array Value) (w : World) (g : Nat) (cs : Array Value) (hp : tmps.getD p undef = .pointer (some ⟨g, 0, none⟩)) (hg : w.heap[g]? = some (.cells cs 29 (0, 0)))
    (hi : (Tryd.prog.info? 29).map (·.size) = some cs.size) :
    (results fn tmps).run Tryd.prog w = .ok (.tuple #[.agg cs, tmps.getD q undef]) w := by
  have hp' : tmps[p]?.getD undef = .pointer (some ⟨g, 0, none⟩) := by simpa using hp
  have := run_loadVar_row (P := Tryd.prog) w g 29 29 cs (0, 0) _ hg Tryd.underlying29 rfl hi
  simp [results, h, hp', asAddr, this]
set_option maxHeartbeats 4000000 in
set_option maxRecDepth 100000 in
theorem bare_top (k : Int) (nl : Bool) (t : ByteArray) (n sm : Int) (re im : Nat) (fl : Bool) (mk : Int) (A B : Option Addr) (l c l2 c2 base : Nat) (its : List ByteArray) (ps : List Int) (w : World) (hl : its.length = l) (hC : Kd.string.C w A l its) (hlb : l ≤ 140737488355328)
    (hP : w.ownsRow base 3 1 (.slice B l2 c2) l2 (encs (Value.int .i64) ps)) (hb2 : l2 ≤ 4398046511104) :
    Calls Tryd.prog 6 #[spec k nl t n sm re im fl mk (.slice A l c) (.slice B l2 c2)] w fun e w' => Below w.heap.size w w' ∧
      (chk k nl t n sm re im fl mk its l2 = 0 → ∃ v9 v10, e = .returned (.tuple #[spec k nl (tB k) (nB k n) 0 0 0 false 0 v9 v10, .int .i64 0]) ∧
        w'.ownsRow (w.heap.size + 2) 9 1 v9 (iB k nl).length (encs Value.string (iB k nl)) ∧ w'.ownsRow (w.heap.size + 2) 3 1 v10 l2 (encs (Value.int .i64) ps)) ∧
      (chk k nl t n sm re im fl mk its l2 ≠ 0 → e = .returned (.tuple #[spec 0 false ⟨#[]⟩ 0 0 0 0 false 0 (.slice none 0 0) (.slice none 0 0), .int .i64 (chk k nl t n sm re im fl mk its l2)])) := by
  have hcheck := fun W (hW : Below w.heap.size w W) => check_calls k nl t n sm re im fl mk A B l c l2 c2 its W hl (Kd.C_below hC hW) hlb
  have hbare := fun W (hW : Below w.heap.size w W) => bareval_calls k nl t n sm re im fl mk (.slice A l c) B l2 c2 base ps W (own_next hP hW) hb2 rfl
  unfold spec at hcheck hbare ⊢
  have hn := SpecAt.new w k nl t n sm re im fl mk (.slice A l c) (.slice B l2 c2)
  obtain ⟨W1, hW1⟩ : ∃ W1, w.alloc (.cells #[.int .u8 k, .bool nl, .string t, .int .i16 n, .int .i8 sm, .float .f64 re, .float .f64 im, .bool fl, .int .u32 mk, .slice A l c, .slice B l2 c2] 29) = W1 := ⟨_, rfl⟩
  have hs1 : W1.heap.size = w.heap.size + 1 := by rw [← hW1, World.size_alloc]
  have b1 : Below w.heap.size w W1 := by rw [← hW1]; exact (Below.refl _ w).alloc (Nat.le_refl _) _
  rw [hW1] at hn
  have hr := SpecAt.new W1 0 false ⟨#[]⟩ 0 0 0 0 false 0 (.slice none 0 0) (.slice none 0 0)
  obtain ⟨W2, hW2⟩ : ∃ W2, W1.alloc (.cells #[.int .u8 0, .bool false, .string ⟨#[]⟩, .int .i16 0, .int .i8 0, .float .f64 0, .float .f64 0, .bool false, .int .u32 0, .slice none 0 0, .slice none 0 0] 29) = W2 := ⟨_, rfl⟩
  have hs2 : W2.heap.size = w.heap.size + 1 + 1 := by rw [← hW2, World.size_alloc, hs1]
  have b12 : Below W1.heap.size W1 W2 := by rw [← hW2]; exact (Below.refl _ W1).alloc (Nat.le_refl _) _
  have hn2 := hn.next b12
  rw [hW2, hs1] at hr
  have hB2 : Below w.heap.size w W2 := b1.trans (b12.mono b1.size)
  go_enter Tryd.func6, Tryd.ntmps6
  go_upto_region 1 with (fail)
  clear hW1 hW2 b12 hn b1
  obtain ⟨c0, c1, c2', c3, c4, c5, c6, c7, c8, c9, c10⟩ := hn2.cells
  have HN := Aside0.mk hn2
  have HR := Aside0.mk hr
  have HB := Aside0.mk hB2
  clear hn2 hr hB2
  go_upto_region 2 with (go_at_call 17; (with_reducible refine (hcheck _ HB.out).mono ?_); rintro e w1 ⟨rfl, h1⟩; have n3 := HN.out.next h1; have r3 := HR.out.next h1; have b3 := HB.out.trans (h1.mono HB.out.size); have hs3 : W2.heap.size ≤ w1.heap.size := h1.size; clear c0 c1 c2' c3 c4 c5 c6 c7 c8 c9 c10 h1)
  obtain ⟨c0, c1, c2', c3, c4, c5, c6, c7, c8, c9, c10⟩ := n3.cells
  obtain ⟨K, hK⟩ : ∃ K, chk k nl t n sm re im fl mk its l2 = K := ⟨_, rfl⟩
  rw [hK]
  have HN3 := Aside0.mk n3
  have HR3 := Aside0.mk r3
  have HB3 := Aside0.mk b3
  clear n3 r3 b3 HN HR HB
  have HK := Aside0.mk hK
  clear hK
  by_cases h0 : K = 0
  · subst h0
    go_upto_region 4 with (fail)
    go_wp2_with (go_at_call 18; (with_reducible refine (hbare _ HB3.out).mono ?_))
    rintro e w4 ⟨v9, v10, rfl, ho9, ho10, h4⟩
    rename_i hK4
    refine hK4 _ _ ?_
    obtain ⟨A9, c9', rfl⟩ := own_slice ho9
    obtain ⟨A10, c10', rfl⟩ := own_slice ho10
    have r4 := HR3.out.next h4
    have b4 := HB3.out.trans (h4.mono HB3.out.size)
    obtain ⟨R, hR⟩ : ∃ R : Array Value, #[.int .u8 k, .bool nl, .string (tB k), .int .i16 (nB k n), .int .i8 0, .float .f64 0, .float .f64 0, .bool false, .int .u32 0, .slice A9 (iB k nl).length c9', .slice A10 l2 c10'] = R := ⟨_, rfl⟩
    have hls : R.size = 11 := by rw [← hR]; rfl
    have hst : Sem.run Tryd.prog (storeCells ⟨w.heap.size + 1, 0, none⟩ R.toList 0) w4 = .ok () (w4.setRow (w.heap.size + 1) R) := run_storeCells_from (w.heap.size + 1) 29 R.toList 0 _ w4 r4 (by simp [hls]) (fun v hv => by rw [← hR] at hv; revert v; simp [Value.oneCell'])
    have hg2 := setRow_heap w4 (w.heap.size + 1) _ R 29 (0, 0) r4
    have q9 := own_setRow (R := R) ho9 (show w.heap.size + 1 < w1.heap.size + 2 by omega)
    have o9 := own_setRow (R := R) ho10 (show w.heap.size + 1 < w1.heap.size + 2 by omega)
    have bb9 : Below w.heap.size w (w4.setRow (w.heap.size + 1) R) := b4.trans ⟨rfl, rfl, rfl, by rw [setRow_size]; exact Nat.le_refl _, fun i hi => setRow_other _ _ _ _ (by omega)⟩
    obtain ⟨W9, hW9⟩ : ∃ W9, w4.setRow (w.heap.size + 1) R = W9 := ⟨_, rfl⟩
    rw [hW9] at hg2 q9 o9 bb9 hst
    have HG2 := Aside0.mk hg2
    have HI := Aside0.mk (show (Tryd.prog.info? 29).map (·.size) = some R.size by rw [hls]; kernel_rfl)
    have HQ := Aside0.mk (own_base q9 (show w.heap.size + 2 ≤ w1.heap.size + 2 by omega))
    have HO2 := Aside0.mk (own_base o9 (show w.heap.size + 2 ≤ w1.heap.size + 2 by omega))
    have HB2 := Aside0.mk bb9
    have HR2 := Aside0.mk hR
    clear hg2 q9 o9 bb9 hW9 ho9 ho10 r4 b4 h4 HN3 HR3 HB3 c0 c1 c2' c3 c4 c5 c6 c7 c8 c9 c10 hK4 hbare hcheck
    go_wp2
    refine bodyPost_ret (results_ct rfl _ W9 (w.heap.size + 1) R rfl HG2.out HI.out) rfl ?_
    exact ⟨HB2.out, fun _ => ⟨.slice A9 (iB k nl).length c9', .slice A10 l2 c10', by rw [HR2.out]; rfl, HQ.out, HO2.out⟩, fun h => absurd HK.out h⟩
  · have h0' : (K == 0) = false := by simp [h0]
    have r4 := HR3.out
    obtain ⟨R, hR⟩ : ∃ R : Array Value, #[.int .u8 0, .bool false, .string ⟨#[]⟩, .int .i16 0, .int .i8 0, .float .f64 0, .float .f64 0, .bool false, .int .u32 0, .slice none 0 0, .slice none 0 0] = R := ⟨_, rfl⟩
    have hls : R.size = 11 := by rw [← hR]; rfl
    have hst : Sem.run Tryd.prog (storeCells ⟨w.heap.size + 1, 0, none⟩ R.toList 0) w1 = .ok () (w1.setRow (w.heap.size + 1) R) := run_storeCells_from (w.heap.size + 1) 29 R.toList 0 _ w1 r4 (by simp [hls]) (fun v hv => by rw [← hR] at hv; revert v; simp [Value.oneCell'])
    have hg2 := setRow_heap w1 (w.heap.size + 1) _ R 29 (0, 0) r4
    have bb9 : Below w.heap.size w (w1.setRow (w.heap.size + 1) R) := HB3.out.trans ⟨rfl, rfl, rfl, by rw [setRow_size]; exact Nat.le_refl _, fun i hi => setRow_other _ _ _ _ (by omega)⟩
    obtain ⟨W9, hW9⟩ : ∃ W9, w1.setRow (w.heap.size + 1) R = W9 := ⟨_, rfl⟩
    rw [hW9] at hg2 bb9 hst
    have HG2 := Aside0.mk hg2
    have HI := Aside0.mk (show (Tryd.prog.info? 29).map (·.size) = some R.size by rw [hls]; kernel_rfl)
    have HB2 := Aside0.mk bb9
    have HR2 := Aside0.mk hR
    clear hg2 bb9 hW9 r4 HN3 HR3 HB3 c0 c1 c2' c3 c4 c5 c6 c7 c8 c9 c10 hbare hcheck
    go_wp2
    refine bodyPost_ret (results_ct rfl _ W9 (w.heap.size + 1) R rfl HG2.out HI.out) rfl ?_
    exact ⟨HB2.out, fun h => absurd (HK.out.symm.trans h) h0, fun _ => by rw [HK.out, HR2.out]; rfl⟩
end Go.Proofs.YtijdlpbkmlplgaaDoor.TW
