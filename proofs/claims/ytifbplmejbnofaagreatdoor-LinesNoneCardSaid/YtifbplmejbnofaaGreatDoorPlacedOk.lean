/- lines.Placed and Tree of handle 0. -/
import Derived.Test.YtifbplmejbnofaaGreatDoorShortNode
import Derived.Test.YtifbplmejbnofaaGreatDoorLinesNil2
import Derived.Lib.OwnKind
set_option linter.unusedVariables false
set_option linter.unusedSimpArgs false
namespace Go.Proofs.YtifbplmejbnofaaGreatDoor.TP2
open Go.RowKit Go.Shelf Go.Proofs.YtifbplmejbnofaaGreatDoorW.PrintWords Go.Proofs.YtifbplmejbnofaaGreatDoorW.PrintMore Go.Proofs.YtifbplmejbnofaaGreatDoor.TB

theorem infoStr : (Tryz.prog.info? 9).map (fun i => (i.zero, i.size, i.bytes)) = some (some (.string .empty), 1, 16) := by kernel_rfl
theorem look_empty (m : Nat) (x : ByteArray) (W : World) (h : W.heap[m]? = some (.map #[] 0)) : Sem.run Tryz.prog (Instr.lookup 85 (.map (some m)) (.string x) false) W = .ok (.slice none 0 0) W := by
  have hc : Sem.run Tryz.prog (Instr.checkKey true 10000 9 (.string x)) W = .ok () W := by
    rw [show (10000 : Nat) = 9999 + 1 from rfl, Instr.checkKey]
    simp only [Sem.run_bind, run_underlying Tryz.underlying9, Result.andThen_ok]
    rfl
  have hz : Sem.run Tryz.prog (zeroValue 25) W = .ok (.slice none 0 0) W := Tryz.zeroValue25 W
  unfold Instr.lookup
  simp only [Sem.run_bind, run_underlying Tryz.underlying85, Result.andThen_ok, getObj, Sem.run, h, Result.andThen]
  simp only [Sem.run_bind, Array.isEmpty_empty, hc, Result.andThen_ok, Instr.findKey, run_underlying Tryz.underlying9, Instr.findNow, Sem.run_pure, hz, Array.toList_empty]
  rfl
set_option maxHeartbeats 2000000 in
set_option maxRecDepth 100000 in
theorem lay_none (B pb po ps pl m b : Nat) (w : World) (hB : B ≤ w.heap.size) (hBo : B ≤ po)
    (h1 : w.heap[pb]? = some (.cells #[.pointer (some ⟨b, 0, none⟩)] 35 (0, 0))) (h2 : w.heap[po]? = some (.cells #[.slice none 0 0] 25 (0, 0)))
    (h3 : w.heap[ps]? = some (.cells #[.map (some m)] 85 (0, 0))) (h4 : w.heap[m]? = some (.map #[] 0)) (hne : ps ≠ po) (hmo : m ≠ po) :
    Calls Tryz.prog 35 #[.int .i64 0, .string ⟨#[]⟩, .pointer (some ⟨pb, 0, none⟩), .pointer (some ⟨po, 0, none⟩), .pointer (some ⟨ps, 0, none⟩), .pointer (some ⟨pl, 0, none⟩)] w fun e w' => e = .returned (.tuple #[]) ∧
      ∃ g cap, w'.cell? ⟨po, 0, none⟩ = some (.slice (some ⟨g, 0, none⟩) 1 cap) ∧ w'.cell? ⟨g, 0, none⟩ = some (.string ⟨#[110, 111, 110, 101]⟩) ∧ Below B w w' := by
  obtain ⟨i0, hi, hz0, hz1, hz2⟩ := info_parts infoStr
  have c1 : w.cell? ⟨pb, 0, none⟩ = some (.pointer (some ⟨b, 0, none⟩)) := by rw [Lib.cell_of_heap h1]; rfl
  have c2 : w.cell? ⟨po, 0, none⟩ = some (.slice none 0 0) := by rw [Lib.cell_of_heap h2]; rfl
  have H2 := Aside0.mk h2
  have H3 := Aside0.mk h3
  have H4 := Aside0.mk h4
  have hlo := size_of_heap h2
  have hls := size_of_heap h3
  have hlm := size_of_heap h4
  clear h1 h2 h3 h4
  have hO : w.ownsRow B 9 1 (.slice none 0 0) 0 [] := World.ownsRow_nil _ _ _ _
  go_enter Tryz.func35, Tryz.ntmps35
  go_wp2_with (first | (go_at_call 29; (with_reducible refine (TS2.own_none _ _).mono ?_); rintro e w' ⟨rfl, rfl⟩) | (go_at_call 36; (with_reducible refine (repeat_zero _ _).mono ?_); rintro e w' ⟨rfl, rfl⟩) | (at_builtin; refine wpList_append_own _ rfl _ _ 25 rfl B 9 i0 (.string .empty) 1 16 Tryz.underlying25 hi hz0 hz1 hz2 rfl (by decide) _ _ _ rfl (hO.alloc _) ⟨_, 0, none⟩ 1 1 [.string ⟨#[110, 111, 110, 101]⟩] rfl rfl ?c1 ?c2 ?c3 ?c4 ?c5 ?_))
  case c1 =>
    intro j u hj
    match j, hj with
    | 0, hj => simp at hj; subst hj; simp [Addr.add]; decide +kernel
  case c2 => intro u hu; simp at hu; subst hu; rfl
  case c3 => unfold maxLen; omega
  case c4 => omega
  case c5 => simp; omega
  intro v' w2 hown hgrow _
  obtain ⟨g, cap, rfl⟩ : ∃ g cap, v' = .slice (some ⟨g, 0, none⟩) 1 cap := by
    rcases hown.2 with ⟨_, h0⟩ | ⟨g, cap, cur, hv, _⟩
    · omega
    · exact ⟨g, cap, hv⟩
  have hst : ∀ k, k < w'.heap.size → w2.heap[k]? = w'.heap[k]? := fun k hk => (hgrow.block k (by simp; omega) (fun e => by cases e)).trans (Lib.alloc_old _ _ _ hk)
  have k2 := (hst po hlo).trans H2.out
  have d2 : w2.cell? ⟨po, 0, none⟩ = some (.slice none 0 0) := by rw [Lib.cell_of_heap k2]; rfl
  have f2 : w2.frozen? ⟨po, 0, none⟩ = false := Lib.frozen_of_heap k2 0
  have hg0 : w2.cell? ⟨g, 0, none⟩ = some (.string ⟨#[110, 111, 110, 101]⟩) := hown.cells (g := g) rfl 0 _ rfl
  have hgo : g ≠ po := by
    intro e
    obtain ⟨c, fz, hc⟩ := Lib.ownsRow_kind hown g rfl
    rw [e, k2] at hc; cases hc
  have k3 : (w2.setCell ⟨po, 0, none⟩ (.slice (some ⟨g, 0, none⟩) 1 cap)).heap[ps]? = some (.cells #[.map (some m)] 85 (0, 0)) := (Below.heap_setCell w2 ⟨po, 0, none⟩ _ ps (fun e => hne e)).trans ((hst ps hls).trans H3.out)
  have k4 : (w2.setCell ⟨po, 0, none⟩ (.slice (some ⟨g, 0, none⟩) 1 cap)).heap[m]? = some (.map #[] 0) := (Below.heap_setCell w2 ⟨po, 0, none⟩ _ m (fun e => hmo e)).trans ((hst m hlm).trans H4.out)
  have d3 : (w2.setCell ⟨po, 0, none⟩ (.slice (some ⟨g, 0, none⟩) 1 cap)).cell? ⟨ps, 0, none⟩ = some (.map (some m)) := by rw [Lib.cell_of_heap k3]; rfl
  have hbel : Below B w' w2 := ((Below.refl B w').alloc hB _).grown hgrow (by simp; omega) (fun k e => by cases e)
  have e0 : (w2.setCell ⟨po, 0, none⟩ (.slice (some ⟨g, 0, none⟩) 1 cap)).cell? ⟨po, 0, none⟩ = some (.slice (some ⟨g, 0, none⟩) 1 cap) := by rw [Lib.cell_of_heap (TS2.set_row k2 0 _)]; rfl
  have e1 : (w2.setCell ⟨po, 0, none⟩ (.slice (some ⟨g, 0, none⟩) 1 cap)).cell? ⟨g, 0, none⟩ = some (.string ⟨#[110, 111, 110, 101]⟩) := by
    rw [World.cell?_of_block (Below.heap_setCell w2 ⟨po, 0, none⟩ _ g hgo)]
    exact hg0
  have E0 := Aside0.mk e0
  have E1 := Aside0.mk e1
  have HBl := Aside0.mk hbel
  clear e0 e1 hbel hown hgrow hst k2 hg0 k3 H2 H3 H4 hO c1 c2
  go_wp2
  rw [look_empty m _ _ k4]
  simp only [Result.andThen]
  rw [Oper.upon_value]
  go_wp2
  refine wp_loop_rounds 1 ?_
  unfold Code.rounds
  go_wp2
  refine wp_loop_rounds 1 ?_
  unfold Code.rounds
  go_wp2
  go_end0
  exact ⟨rfl, g, ⟨cap, E0.out⟩, E1.out, HBl.out.setCell (p := ⟨po, 0, none⟩) hBo _⟩
theorem make_map (W : World) : Sem.run Tryz.prog (Instr.makeMap 85 Option.none) W = .ok (.map (some W.heap.size)) (W.alloc (.map #[] 0)) := by
  rfl
theorem run_store_func {P : Program} {w : World} {a : Addr} {m : Mode} (f : Fn) (x y : Array Value) : (store a (.func f x y) m).run P w = stored P w a (.func f x y) m := run_store P w a _ m rfl
attribute [local go_sem] run_store_func
set_option maxHeartbeats 2000000 in
set_option maxRecDepth 100000 in
theorem placed_ok (b : Nat) (w : World) (hw : TN.Empty b w) :
    Calls Tryz.prog 9 #[.pointer (some ⟨b, 0, none⟩), .int .i64 0, .slice none 0 0] w fun e w' => ∃ g cap, e = .returned (.tuple #[.slice (some ⟨g, 0, none⟩) 1 cap, .int .i64 0]) ∧ w'.cell? ⟨g, 0, none⟩ = some (.string ⟨#[110, 111, 110, 101]⟩) ∧ Below w.heap.size w w' := by
  have hW : ∀ W, Below w.heap.size w W → TN.Empty b W := fun W hb => hw.next hb
  go_enter Tryz.func9, Tryz.ntmps9
  go_wp2_with (go_at_call 28; (with_reducible refine (TN.known_calls _ _ 0 _ (.none b (hW _ (by go_grown)))).mono ?_))
  rintro e w1 ⟨rfl, h1⟩
  have hB : Below w.heap.size w w1 := Below.trans (by go_grown) (h1.mono (by simp <;> omega))
  have hp : w1.heap[w.heap.size]? = some (.cells #[.pointer (some ⟨b, 0, none⟩)] 35 (0, 0)) := (h1.block w.heap.size (by simp)).trans (World.alloc_heap_new w _)
  clear hW hw h1
  obtain ⟨n0, hn0⟩ : ∃ n0, w.heap.size = n0 := ⟨_, rfl⟩
  rw [hn0] at hB hp
  have HB := Aside0.mk hB
  have HP := Aside0.mk hp
  clear hB hp
  go_wp2
  rw [make_map]
  simp only [Result.andThen]
  rw [Oper.upon_value]
  go_wp2
  refine wp_loop_rounds 1 ?_
  unfold Code.rounds
  go_wp2_with (fail)
  obtain ⟨n1, hn1⟩ : ∃ n1, w1.heap.size = n1 := ⟨_, rfl⟩
  have hle : n0 < n1 := by rw [← hn1]; exact size_of_heap HP.out
  rw [hn1]
  obtain ⟨VA, hVA⟩ : ∃ VA, w1.alloc (.map #[] 0) = VA := ⟨_, rfl⟩
  obtain ⟨VB, hVB⟩ : ∃ VB, VA.alloc (.cells #[.map (some n1)] 85) = VB := ⟨_, rfl⟩
  obtain ⟨VC, hVC⟩ : ∃ VC, VB.alloc (.cells #[.slice none 0 0] 25) = VC := ⟨_, rfl⟩
  obtain ⟨VD, hVD⟩ : ∃ VD, VC.alloc (.cells #[.func (.func 35) #[] #[.pointer (some ⟨n0, 0, none⟩), .pointer (some ⟨n1 + 1 + 1, 0, none⟩), .pointer (some ⟨n1 + 1, 0, none⟩), .pointer (some ⟨n1 + 1 + 1 + 1, 0, none⟩)]] 84) = VD := ⟨_, rfl⟩
  have sA : VA.heap.size = n1 + 1 := by rw [← hVA, World.size_alloc, hn1]
  have sB : VB.heap.size = n1 + 1 + 1 := by rw [← hVB, World.size_alloc, sA]
  have sC : VC.heap.size = n1 + 1 + 1 + 1 := by rw [← hVC, World.size_alloc, sB]
  have sD : VD.heap.size = n1 + 1 + 1 + 1 + 1 := by rw [← hVD, World.size_alloc, sC]
  have oB : ∀ k, k < n1 + 1 → VB.heap[k]? = VA.heap[k]? := fun k hk => by rw [← hVB]; exact Lib.alloc_old _ _ _ (by rw [sA]; exact hk)
  have oC : ∀ k, k < n1 + 1 + 1 → VC.heap[k]? = VB.heap[k]? := fun k hk => by rw [← hVC]; exact Lib.alloc_old _ _ _ (by rw [sB]; exact hk)
  have oD : ∀ k, k < n1 + 1 + 1 + 1 → VD.heap[k]? = VC.heap[k]? := fun k hk => by rw [← hVD]; exact Lib.alloc_old _ _ _ (by rw [sC]; exact hk)
  have h4 : VD.heap[n1]? = some (.map #[] 0) := by
    rw [oD n1 (by omega), oC n1 (by omega), oB n1 (by omega), ← hVA, ← hn1]
    exact World.alloc_heap_new w1 _
  have h3 : VD.heap[n1 + 1]? = some (.cells #[.map (some n1)] 85 (0, 0)) := by
    rw [oD _ (by omega), oC _ (by omega), ← hVB, ← sA]
    exact World.alloc_heap_new VA _
  have h2 : VD.heap[n1 + 1 + 1]? = some (.cells #[.slice none 0 0] 25 (0, 0)) := by
    rw [oD _ (by omega), ← hVC, ← sB]
    exact World.alloc_heap_new VB _
  have h1 : VD.heap[n0]? = some (.cells #[.pointer (some ⟨b, 0, none⟩)] 35 (0, 0)) := by
    rw [oD _ (by omega), oC _ (by omega), oB _ (by omega), ← hVA, Lib.alloc_old _ _ _ (by rw [hn1]; exact hle)]
    exact HP.out
  have hBD : Below n0 w VD := by
    rw [← hVD, ← hVC, ← hVB, ← hVA]
    exact (((HB.out.alloc (by rw [hn1]; omega) _).alloc (by rw [World.size_alloc, hn1]; omega) _).alloc (by rw [World.size_alloc, World.size_alloc, hn1]; omega) _).alloc (by rw [World.size_alloc, World.size_alloc, World.size_alloc, hn1]; omega) _
  rw [hVA, hVB, hVC, hVD]
  have HD := Aside0.mk hBD
  clear hVA hVB hVC hVD sA sB sC oB oC oD hBD HB HP
  refine (lay_none n0 n0 (n1 + 1 + 1) (n1 + 1) (n1 + 1 + 1 + 1) n1 b VD (by rw [sD]; omega) (by omega) h1 h2 h3 h4 (by omega) (by omega)).mono ?_
  rintro e w5 ⟨rfl, g, cap, e1, e2, e3⟩
  have E2 := Aside0.mk e2
  have E3 := Aside0.mk e3
  clear e2 e3 h1 h2 h3 h4
  go_wp2
  go_ret2
  refine ⟨_, _, rfl, E2.out, ?_⟩
  rw [hn0]
  exact HD.out.trans E3.out
theorem tree_ok (b : Nat) (w : World) (hw : TN.Empty b w) :
    Calls Tryz.prog 8 #[.pointer (some ⟨b, 0, none⟩), .int .i64 0] w fun e w' => ∃ g cap, e = .returned (.tuple #[.slice (some ⟨g, 0, none⟩) 1 cap, .int .i64 0]) ∧ w'.cell? ⟨g, 0, none⟩ = some (.string ⟨#[110, 111, 110, 101]⟩) ∧ Below w.heap.size w w' := by
  go_enter Tryz.func8, Tryz.ntmps8
  go_wp2_with (go_at_call 9; (with_reducible refine (placed_ok b _ hw).mono ?_))
  rintro e w1 ⟨g, cap, rfl, h1, h2⟩
  have H1 := Aside0.mk h1
  clear h1
  go_wp2
  go_ret2
  exact ⟨_, _, rfl, H1.out, h2⟩
end Go.Proofs.YtifbplmejbnofaaGreatDoor.TP2
