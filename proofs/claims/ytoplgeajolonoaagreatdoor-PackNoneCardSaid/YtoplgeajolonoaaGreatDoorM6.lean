/- May May2 -/
import Derived.Test.YtoplgeajolonoaaGreatDoorM5
section
/- May a record stand behind so many? -/
set_option linter.unusedVariables false
set_option linter.unusedSimpArgs false
namespace Go.Proofs.YtoplgeajolonoaaGreatDoor.PK
open Go.RowKit Go.Proofs.YtoplgeajolonoaaGreatDoorW.PrintWords Go.Proofs.YtoplgeajolonoaaGreatDoorW.PrintMore Go.Proofs.YtoplgeajolonoaaGreatDoor.TF

theorem long_no (s : ByteArray) (hs : s.size ≤ 4096) (w : World) : Calls Tryz.prog 128 #[.string s] w fun e w' => e = .returned (.bool false) ∧ w' = w := by
  have h1 : ¬ ((4096 : Int) < s.size) := by omega
  go_enter Tryz.func128, Tryz.ntmps128
  go_wp2
  go_ret
  exact ⟨rfl, rfl⟩
theorem far_no (w : World) (q : Nat) (hq : w.cell? ⟨q, 0, none⟩ = some (.int .i64 1)) : Calls Tryz.prog 129 #[.int .i64 1, .pointer (some ⟨q, 0, none⟩)] w fun e w' => e = .returned (.bool false) ∧ w' = w := by
  go_enter Tryz.func129, Tryz.ntmps129
  go_wp2
  go_ret
  exact ⟨rfl, rfl⟩
theorem index_strs (f : Value) (w : World) : Calls Tryz.prog 164 #[.slice none 0 0, f] w fun e w' => e = .returned (.int .i64 (-1)) ∧ w' = w := by
  go_enter Tryz.func164, Tryz.ntmps164
  go_wp2_with (fail)
  go_loopg [8] 0 (fun kq v8 wr => v8 = .int .i64 0 ∧ kq = 0 ∧ wr = w)
  case atStart => exact ⟨rfl, rfl, rfl⟩
  case round =>
    obtain ⟨rfl, rfl, rfl⟩ := hrel
    go_wp2_with (fail)
    go_ret
    exact ⟨rfl, rfl⟩
theorem contains_strs (f : Value) (w : World) : Calls Tryz.prog 130 #[.slice none 0 0, f] w fun e w' => e = .returned (.bool false) ∧ w' = w := by
  go_enter Tryz.func130, Tryz.ntmps130
  go_wp2_with (go_at_call 164; (with_reducible refine (index_strs f _).mono ?_); rintro e w' ⟨rfl, rfl⟩)
  go_ret
  exact ⟨rfl, rfl⟩
theorem index_ints (f : Value) (w : World) : Calls Tryz.prog 165 #[.slice none 0 0, f] w fun e w' => e = .returned (.int .i64 (-1)) ∧ w' = w := by
  go_enter Tryz.func165, Tryz.ntmps165
  go_wp2_with (fail)
  go_loopg [8] 0 (fun kq v8 wr => v8 = .int .i64 0 ∧ kq = 0 ∧ wr = w)
  case atStart => exact ⟨rfl, rfl, rfl⟩
  case round =>
    obtain ⟨rfl, rfl, rfl⟩ := hrel
    go_wp2_with (fail)
    go_ret
    exact ⟨rfl, rfl⟩
theorem contains_ints (f : Value) (w : World) : Calls Tryz.prog 131 #[.slice none 0 0, f] w fun e w' => e = .returned (.bool false) ∧ w' = w := by
  go_enter Tryz.func131, Tryz.ntmps131
  go_wp2_with (go_at_call 165; (with_reducible refine (index_ints f _).mono ?_); rintro e w' ⟨rfl, rfl⟩)
  go_ret
  exact ⟨rfl, rfl⟩
set_option maxRecDepth 100000 in
/-- one part, which is 1, behind one record -/
theorem index_one (p q : Nat) (w : World) (hp : w.cell? ⟨p, 0, none⟩ = some (.int .i64 1)) (hq : w.cell? ⟨q, 0, none⟩ = some (.int .i64 1)) :
    Calls Tryz.prog 165 #[.slice (some ⟨p, 0, none⟩) 1 1, .func (.func 129) #[] #[.pointer (some ⟨q, 0, none⟩)]] w fun e w' => e = .returned (.int .i64 (-1)) ∧ w' = w := by
  have HF := Aside0.mk (far_no w q hq)
  go_enter Tryz.func165, Tryz.ntmps165
  go_wp2_with (fail)
  go_loopg [8] 1 (fun kq v8 wr => wr = w ∧ ((kq = 1 ∧ v8 = .int .i64 0) ∨ (kq = 0 ∧ v8 = .int .i64 1)))
  case atStart => exact ⟨rfl, .inl ⟨rfl, rfl⟩⟩
  case round =>
    obtain ⟨rfl, ⟨rfl, rfl⟩ | ⟨rfl, rfl⟩⟩ := hrel
    · go_wp2_with (go_at_call 129; (with_reducible refine HF.out.mono ?_); rintro e w' ⟨rfl, rfl⟩)
      go_roundg 0
      case measure => omega
      case rel => exact ⟨rfl, .inr ⟨rfl, rfl⟩⟩
    · go_wp2_with (fail)
      go_ret
      exact ⟨rfl, rfl⟩
theorem contains_one (p q : Nat) (w : World) (hp : w.cell? ⟨p, 0, none⟩ = some (.int .i64 1)) (hq : w.cell? ⟨q, 0, none⟩ = some (.int .i64 1)) :
    Calls Tryz.prog 131 #[.slice (some ⟨p, 0, none⟩) 1 1, .func (.func 129) #[] #[.pointer (some ⟨q, 0, none⟩)]] w fun e w' => e = .returned (.bool false) ∧ w' = w := by
  have HI := Aside0.mk (index_one p q w hp hq)
  go_enter Tryz.func131, Tryz.ntmps131
  go_wp2_with (go_at_call 165; (with_reducible refine HI.out.mono ?_); rintro e w' ⟨rfl, rfl⟩)
  go_ret
  exact ⟨rfl, rfl⟩
end Go.Proofs.YtoplgeajolonoaaGreatDoor.PK
end
section
/- May a record stand behind so many? The walk, for a record with a name, with one part, without a name. -/
set_option linter.unusedVariables false
set_option linter.unusedSimpArgs false
namespace Go.Proofs.YtoplgeajolonoaaGreatDoor.PK
open Go.RowKit Go.Proofs.YtoplgeajolonoaaGreatDoorW.PrintWords Go.Proofs.YtoplgeajolonoaaGreatDoorW.PrintMore Go.Proofs.YtoplgeajolonoaaGreatDoor.TF

set_option maxHeartbeats 8000000 in
set_option maxRecDepth 100000 in
theorem may_a (i : Int) (w : World) (ht : (ByteArray.mk #[97]).size ≤ 4096) (h0 : (ByteArray.mk #[]).size ≤ 4096) :
    Calls Tryz.prog 59 #[.agg (rec_ ⟨#[97]⟩ (.slice none 0 0)), .int .i64 i] w fun e w' => e = .returned (.bool true) ∧ Below w.heap.size w w' := by
  obtain ⟨V0, hV0⟩ : ∃ V, w.alloc (.cells (rec_ ⟨#[97]⟩ (.slice none 0 0)) 45) = V := ⟨_, rfl⟩
  obtain ⟨V1, hV1⟩ : ∃ V, V0.alloc (.cells #[.int .i64 i] 3) = V := ⟨_, rfl⟩
  obtain ⟨V2, hV2⟩ : ∃ V, (V1.alloc (.cells (spc_ (.slice none 0 0)) 43)).setRow (w.heap.size + 2) (spc_ (.slice none 0 0)) = V := ⟨_, rfl⟩
  have hx0 := Blk.new w 45 (rec_ ⟨#[97]⟩ (.slice none 0 0))
  have b0 := (Below.refl w.heap.size w).alloc (Nat.le_refl _) (.cells (rec_ ⟨#[97]⟩ (.slice none 0 0)) 45)
  rw [hV0] at hx0 b0
  have s0 : V0.heap.size = w.heap.size + 1 := by rw [← hV0, World.size_alloc]
  have hx1 := Blk.new V0 3 #[.int .i64 i]
  have b1 := (Below.refl V0.heap.size V0).alloc (Nat.le_refl _) (.cells #[.int .i64 i] 3)
  rw [hV1] at hx1 b1
  rw [s0] at hx1
  have s1 : V1.heap.size = w.heap.size + 2 := by rw [← hV1, World.size_alloc, s0]
  have hz2 := Blk.new V1 43 (spc_ (.slice none 0 0))
  have b2 := (Below.refl V1.heap.size V1).alloc (Nat.le_refl _) (.cells (spc_ (.slice none 0 0)) 43)
  rw [s1] at hz2
  have hx2 : Blk V2 (w.heap.size + 2) 43 (spc_ (.slice none 0 0)) := by rw [← hV2]; exact setRow_heap _ (w.heap.size + 2) _ (spc_ (.slice none 0 0)) 43 (0, 0) hz2
  have h1 : ∀ k t cs, k < w.heap.size + 2 → Blk V1 k t cs → Blk V2 k t cs := fun k t cs hk h => by rw [← hV2]; exact (setRow_other _ _ _ _ (by omega)).trans (h.next b2)
  have hr := h1 _ _ _ (by omega) (hx0.next b1)
  have hi := h1 _ _ _ (by omega) hx1
  have hB : Below w.heap.size w V2 := by rw [← hV2]; exact ((b0.trans (b1.mono (by omega))).trans (b2.mono (by omega))).trans ⟨rfl, rfl, rfl, by rw [setRow_size]; exact Nat.le_refl _, fun i hi => setRow_other _ _ _ _ (by omega)⟩
  obtain ⟨k3, k4, k5, k6, k7, k8, k9, k10, k11, k12, k13⟩ : V1.cell? ⟨w.heap.size, 3, none⟩ = some (.int .u8 0) ∧ V1.cell? ⟨w.heap.size, 4, none⟩ = some (.bool false) ∧ V1.cell? ⟨w.heap.size, 5, none⟩ = some (.string ⟨#[]⟩) ∧ V1.cell? ⟨w.heap.size, 6, none⟩ = some (.int .i16 0) ∧ V1.cell? ⟨w.heap.size, 7, none⟩ = some (.int .i8 0) ∧ V1.cell? ⟨w.heap.size, 8, none⟩ = some (.float .f64 0) ∧ V1.cell? ⟨w.heap.size, 9, none⟩ = some (.float .f64 0) ∧ V1.cell? ⟨w.heap.size, 10, none⟩ = some (.bool false) ∧ V1.cell? ⟨w.heap.size, 11, none⟩ = some (.int .u32 0) ∧ V1.cell? ⟨w.heap.size, 12, none⟩ = some (.slice none 0 0) ∧ V1.cell? ⟨w.heap.size, 13, none⟩ = some (.slice none 0 0) := ⟨((hx0.next b1).cell 3).trans rfl, ((hx0.next b1).cell 4).trans rfl, ((hx0.next b1).cell 5).trans rfl, ((hx0.next b1).cell 6).trans rfl, ((hx0.next b1).cell 7).trans rfl, ((hx0.next b1).cell 8).trans rfl, ((hx0.next b1).cell 9).trans rfl, ((hx0.next b1).cell 10).trans rfl, ((hx0.next b1).cell 11).trans rfl, ((hx0.next b1).cell 12).trans rfl, ((hx0.next b1).cell 13).trans rfl⟩
  have c0 : V2.cell? ⟨w.heap.size, 0, none⟩ = some (.string ⟨#[97]⟩) := (hr.cell 0).trans rfl
  obtain ⟨e0, e2, e8, e9, e10⟩ : V2.cell? ⟨w.heap.size + 2, 0, none⟩ = some (.int .u8 0) ∧ V2.cell? ⟨w.heap.size + 2, 2, none⟩ = some (.string ⟨#[]⟩) ∧ V2.cell? ⟨w.heap.size + 2, 8, none⟩ = some (.int .u32 0) ∧ V2.cell? ⟨w.heap.size + 2, 9, none⟩ = some (.slice none 0 0) ∧ V2.cell? ⟨w.heap.size + 2, 10, none⟩ = some (.slice none 0 0) := ⟨(hx2.cell 0).trans rfl, (hx2.cell 2).trans rfl, (hx2.cell 8).trans rfl, (hx2.cell 9).trans rfl, (hx2.cell 10).trans rfl⟩
  have q1 : V2.cell? ⟨w.heap.size + 1, 0, none⟩ = some (.int .i64 i) := (hi.cell 0).trans rfl
  have HX0 := Aside0.mk hz2
  have HB := Aside0.mk hB
  have HV2 := Aside0.mk hV2
  have hmf : ∀ (fn : Fn) (first cap : Array Value) (w : World), (Instr.makeFunc fn first cap).run Tryz.prog w = .ok (.func fn first cap) w := fun _ _ _ _ => rfl
  clear hx0 b0 hx1 b1 hz2 b2 hx2 h1 hr hi hB hV2
  unfold rec_ at hV0 ⊢
  go_enter Tryz.func59, Tryz.ntmps59
  go_wp2_with (refine store_other rfl 43 (.tmp 5) (.tmp 9) rfl rfl (w.heap.size + 2) (spc_ (.slice none 0 0)) (spc_ (.slice none 0 0)) rfl rfl 43 HX0.out rfl infoSpec5 (spc_one _ _ _) ?_; show wpList _ _ _ _ _ ((V1.alloc (.cells (spc_ (.slice none 0 0)) 43)).setRow (w.heap.size + 2) (spc_ (.slice none 0 0))); rw [HV2.out])
  clear hV0 hV1 k3 k4 k5 k6 k7 k8 k9 k10 k11 k12 k13 HX0 HV2 s0 s1
  go_wp2_with (first
    | (go_at_call 128; (with_reducible refine (long_no _ (by first | exact ht | exact h0) _).mono ?_); rintro e w' ⟨rfl, rfl⟩)
    | (go_at_call 130; (with_reducible refine (contains_strs _ _).mono ?_); rintro e w' ⟨rfl, rfl⟩)
    | (go_at_call 131; (with_reducible refine (contains_ints _ _).mono ?_); rintro e w' ⟨rfl, rfl⟩))
  go_ret
  exact ⟨rfl, HB.out⟩
set_option maxHeartbeats 8000000 in
set_option maxRecDepth 100000 in
theorem may_b (i : Int) (w : World) (ht : (ByteArray.mk #[98]).size ≤ 4096) (h0 : (ByteArray.mk #[]).size ≤ 4096) :
    Calls Tryz.prog 59 #[.agg (rec_ ⟨#[98]⟩ (.slice none 0 0)), .int .i64 i] w fun e w' => e = .returned (.bool true) ∧ Below w.heap.size w w' := by
  obtain ⟨V0, hV0⟩ : ∃ V, w.alloc (.cells (rec_ ⟨#[98]⟩ (.slice none 0 0)) 45) = V := ⟨_, rfl⟩
  obtain ⟨V1, hV1⟩ : ∃ V, V0.alloc (.cells #[.int .i64 i] 3) = V := ⟨_, rfl⟩
  obtain ⟨V2, hV2⟩ : ∃ V, (V1.alloc (.cells (spc_ (.slice none 0 0)) 43)).setRow (w.heap.size + 2) (spc_ (.slice none 0 0)) = V := ⟨_, rfl⟩
  have hx0 := Blk.new w 45 (rec_ ⟨#[98]⟩ (.slice none 0 0))
  have b0 := (Below.refl w.heap.size w).alloc (Nat.le_refl _) (.cells (rec_ ⟨#[98]⟩ (.slice none 0 0)) 45)
  rw [hV0] at hx0 b0
  have s0 : V0.heap.size = w.heap.size + 1 := by rw [← hV0, World.size_alloc]
  have hx1 := Blk.new V0 3 #[.int .i64 i]
  have b1 := (Below.refl V0.heap.size V0).alloc (Nat.le_refl _) (.cells #[.int .i64 i] 3)
  rw [hV1] at hx1 b1
  rw [s0] at hx1
  have s1 : V1.heap.size = w.heap.size + 2 := by rw [← hV1, World.size_alloc, s0]
  have hz2 := Blk.new V1 43 (spc_ (.slice none 0 0))
  have b2 := (Below.refl V1.heap.size V1).alloc (Nat.le_refl _) (.cells (spc_ (.slice none 0 0)) 43)
  rw [s1] at hz2
  have hx2 : Blk V2 (w.heap.size + 2) 43 (spc_ (.slice none 0 0)) := by rw [← hV2]; exact setRow_heap _ (w.heap.size + 2) _ (spc_ (.slice none 0 0)) 43 (0, 0) hz2
  have h1 : ∀ k t cs, k < w.heap.size + 2 → Blk V1 k t cs → Blk V2 k t cs := fun k t cs hk h => by rw [← hV2]; exact (setRow_other _ _ _ _ (by omega)).trans (h.next b2)
  have hr := h1 _ _ _ (by omega) (hx0.next b1)
  have hi := h1 _ _ _ (by omega) hx1
  have hB : Below w.heap.size w V2 := by rw [← hV2]; exact ((b0.trans (b1.mono (by omega))).trans (b2.mono (by omega))).trans ⟨rfl, rfl, rfl, by rw [setRow_size]; exact Nat.le_refl _, fun i hi => setRow_other _ _ _ _ (by omega)⟩
  obtain ⟨k3, k4, k5, k6, k7, k8, k9, k10, k11, k12, k13⟩ : V1.cell? ⟨w.heap.size, 3, none⟩ = some (.int .u8 0) ∧ V1.cell? ⟨w.heap.size, 4, none⟩ = some (.bool false) ∧ V1.cell? ⟨w.heap.size, 5, none⟩ = some (.string ⟨#[]⟩) ∧ V1.cell? ⟨w.heap.size, 6, none⟩ = some (.int .i16 0) ∧ V1.cell? ⟨w.heap.size, 7, none⟩ = some (.int .i8 0) ∧ V1.cell? ⟨w.heap.size, 8, none⟩ = some (.float .f64 0) ∧ V1.cell? ⟨w.heap.size, 9, none⟩ = some (.float .f64 0) ∧ V1.cell? ⟨w.heap.size, 10, none⟩ = some (.bool false) ∧ V1.cell? ⟨w.heap.size, 11, none⟩ = some (.int .u32 0) ∧ V1.cell? ⟨w.heap.size, 12, none⟩ = some (.slice none 0 0) ∧ V1.cell? ⟨w.heap.size, 13, none⟩ = some (.slice none 0 0) := ⟨((hx0.next b1).cell 3).trans rfl, ((hx0.next b1).cell 4).trans rfl, ((hx0.next b1).cell 5).trans rfl, ((hx0.next b1).cell 6).trans rfl, ((hx0.next b1).cell 7).trans rfl, ((hx0.next b1).cell 8).trans rfl, ((hx0.next b1).cell 9).trans rfl, ((hx0.next b1).cell 10).trans rfl, ((hx0.next b1).cell 11).trans rfl, ((hx0.next b1).cell 12).trans rfl, ((hx0.next b1).cell 13).trans rfl⟩
  have c0 : V2.cell? ⟨w.heap.size, 0, none⟩ = some (.string ⟨#[98]⟩) := (hr.cell 0).trans rfl
  obtain ⟨e0, e2, e8, e9, e10⟩ : V2.cell? ⟨w.heap.size + 2, 0, none⟩ = some (.int .u8 0) ∧ V2.cell? ⟨w.heap.size + 2, 2, none⟩ = some (.string ⟨#[]⟩) ∧ V2.cell? ⟨w.heap.size + 2, 8, none⟩ = some (.int .u32 0) ∧ V2.cell? ⟨w.heap.size + 2, 9, none⟩ = some (.slice none 0 0) ∧ V2.cell? ⟨w.heap.size + 2, 10, none⟩ = some (.slice none 0 0) := ⟨(hx2.cell 0).trans rfl, (hx2.cell 2).trans rfl, (hx2.cell 8).trans rfl, (hx2.cell 9).trans rfl, (hx2.cell 10).trans rfl⟩
  have q1 : V2.cell? ⟨w.heap.size + 1, 0, none⟩ = some (.int .i64 i) := (hi.cell 0).trans rfl
  have HX0 := Aside0.mk hz2
  have HB := Aside0.mk hB
  have HV2 := Aside0.mk hV2
  have hmf : ∀ (fn : Fn) (first cap : Array Value) (w : World), (Instr.makeFunc fn first cap).run Tryz.prog w = .ok (.func fn first cap) w := fun _ _ _ _ => rfl
  clear hx0 b0 hx1 b1 hz2 b2 hx2 h1 hr hi hB hV2
  unfold rec_ at hV0 ⊢
  go_enter Tryz.func59, Tryz.ntmps59
  go_wp2_with (refine store_other rfl 43 (.tmp 5) (.tmp 9) rfl rfl (w.heap.size + 2) (spc_ (.slice none 0 0)) (spc_ (.slice none 0 0)) rfl rfl 43 HX0.out rfl infoSpec5 (spc_one _ _ _) ?_; show wpList _ _ _ _ _ ((V1.alloc (.cells (spc_ (.slice none 0 0)) 43)).setRow (w.heap.size + 2) (spc_ (.slice none 0 0))); rw [HV2.out])
  clear hV0 hV1 k3 k4 k5 k6 k7 k8 k9 k10 k11 k12 k13 HX0 HV2 s0 s1
  go_wp2_with (first
    | (go_at_call 128; (with_reducible refine (long_no _ (by first | exact ht | exact h0) _).mono ?_); rintro e w' ⟨rfl, rfl⟩)
    | (go_at_call 130; (with_reducible refine (contains_strs _ _).mono ?_); rintro e w' ⟨rfl, rfl⟩)
    | (go_at_call 131; (with_reducible refine (contains_ints _ _).mono ?_); rintro e w' ⟨rfl, rfl⟩))
  go_ret
  exact ⟨rfl, HB.out⟩
set_option maxHeartbeats 8000000 in
set_option maxRecDepth 100000 in
theorem may_one (p : Nat) (w : World) (ht : (ByteArray.mk #[98]).size ≤ 4096) (h0 : (ByteArray.mk #[]).size ≤ 4096) (hP : Blk w p 3 #[.int .i64 1]) :
    Calls Tryz.prog 59 #[.agg (rec_ ⟨#[98]⟩ (.slice (some ⟨p, 0, none⟩) 1 1)), .int .i64 1] w fun e w' => e = .returned (.bool true) ∧ Below w.heap.size w w' := by
  obtain ⟨V0, hV0⟩ : ∃ V, w.alloc (.cells (rec_ ⟨#[98]⟩ (.slice (some ⟨p, 0, none⟩) 1 1)) 45) = V := ⟨_, rfl⟩
  obtain ⟨V1, hV1⟩ : ∃ V, V0.alloc (.cells #[.int .i64 1] 3) = V := ⟨_, rfl⟩
  obtain ⟨V2, hV2⟩ : ∃ V, (V1.alloc (.cells (spc_ (.slice none 0 0)) 43)).setRow (w.heap.size + 2) (spc_ (.slice (some ⟨p, 0, none⟩) 1 1)) = V := ⟨_, rfl⟩
  have hx0 := Blk.new w 45 (rec_ ⟨#[98]⟩ (.slice (some ⟨p, 0, none⟩) 1 1))
  have b0 := (Below.refl w.heap.size w).alloc (Nat.le_refl _) (.cells (rec_ ⟨#[98]⟩ (.slice (some ⟨p, 0, none⟩) 1 1)) 45)
  rw [hV0] at hx0 b0
  have s0 : V0.heap.size = w.heap.size + 1 := by rw [← hV0, World.size_alloc]
  have hx1 := Blk.new V0 3 #[.int .i64 1]
  have b1 := (Below.refl V0.heap.size V0).alloc (Nat.le_refl _) (.cells #[.int .i64 1] 3)
  rw [hV1] at hx1 b1
  rw [s0] at hx1
  have s1 : V1.heap.size = w.heap.size + 2 := by rw [← hV1, World.size_alloc, s0]
  have hz2 := Blk.new V1 43 (spc_ (.slice none 0 0))
  have b2 := (Below.refl V1.heap.size V1).alloc (Nat.le_refl _) (.cells (spc_ (.slice none 0 0)) 43)
  rw [s1] at hz2
  have hx2 : Blk V2 (w.heap.size + 2) 43 (spc_ (.slice (some ⟨p, 0, none⟩) 1 1)) := by rw [← hV2]; exact setRow_heap _ (w.heap.size + 2) _ (spc_ (.slice (some ⟨p, 0, none⟩) 1 1)) 43 (0, 0) hz2
  have h1 : ∀ k t cs, k < w.heap.size + 2 → Blk V1 k t cs → Blk V2 k t cs := fun k t cs hk h => by rw [← hV2]; exact (setRow_other _ _ _ _ (by omega)).trans (h.next b2)
  have hr := h1 _ _ _ (by omega) (hx0.next b1)
  have hi := h1 _ _ _ (by omega) hx1
  have hB : Below w.heap.size w V2 := by rw [← hV2]; exact ((b0.trans (b1.mono (by omega))).trans (b2.mono (by omega))).trans ⟨rfl, rfl, rfl, by rw [setRow_size]; exact Nat.le_refl _, fun i hi => setRow_other _ _ _ _ (by omega)⟩
  obtain ⟨k3, k4, k5, k6, k7, k8, k9, k10, k11, k12, k13⟩ : V1.cell? ⟨w.heap.size, 3, none⟩ = some (.int .u8 0) ∧ V1.cell? ⟨w.heap.size, 4, none⟩ = some (.bool false) ∧ V1.cell? ⟨w.heap.size, 5, none⟩ = some (.string ⟨#[]⟩) ∧ V1.cell? ⟨w.heap.size, 6, none⟩ = some (.int .i16 0) ∧ V1.cell? ⟨w.heap.size, 7, none⟩ = some (.int .i8 0) ∧ V1.cell? ⟨w.heap.size, 8, none⟩ = some (.float .f64 0) ∧ V1.cell? ⟨w.heap.size, 9, none⟩ = some (.float .f64 0) ∧ V1.cell? ⟨w.heap.size, 10, none⟩ = some (.bool false) ∧ V1.cell? ⟨w.heap.size, 11, none⟩ = some (.int .u32 0) ∧ V1.cell? ⟨w.heap.size, 12, none⟩ = some (.slice none 0 0) ∧ V1.cell? ⟨w.heap.size, 13, none⟩ = some (.slice (some ⟨p, 0, none⟩) 1 1) := ⟨((hx0.next b1).cell 3).trans rfl, ((hx0.next b1).cell 4).trans rfl, ((hx0.next b1).cell 5).trans rfl, ((hx0.next b1).cell 6).trans rfl, ((hx0.next b1).cell 7).trans rfl, ((hx0.next b1).cell 8).trans rfl, ((hx0.next b1).cell 9).trans rfl, ((hx0.next b1).cell 10).trans rfl, ((hx0.next b1).cell 11).trans rfl, ((hx0.next b1).cell 12).trans rfl, ((hx0.next b1).cell 13).trans rfl⟩
  have c0 : V2.cell? ⟨w.heap.size, 0, none⟩ = some (.string ⟨#[98]⟩) := (hr.cell 0).trans rfl
  obtain ⟨e0, e2, e8, e9, e10⟩ : V2.cell? ⟨w.heap.size + 2, 0, none⟩ = some (.int .u8 0) ∧ V2.cell? ⟨w.heap.size + 2, 2, none⟩ = some (.string ⟨#[]⟩) ∧ V2.cell? ⟨w.heap.size + 2, 8, none⟩ = some (.int .u32 0) ∧ V2.cell? ⟨w.heap.size + 2, 9, none⟩ = some (.slice none 0 0) ∧ V2.cell? ⟨w.heap.size + 2, 10, none⟩ = some (.slice (some ⟨p, 0, none⟩) 1 1) := ⟨(hx2.cell 0).trans rfl, (hx2.cell 2).trans rfl, (hx2.cell 8).trans rfl, (hx2.cell 9).trans rfl, (hx2.cell 10).trans rfl⟩
  have q1 : V2.cell? ⟨w.heap.size + 1, 0, none⟩ = some (.int .i64 1) := (hi.cell 0).trans rfl
  have HI := Aside0.mk (contains_one p (w.heap.size + 1) V2 (((hP.next hB).cell 0).trans rfl) q1)
  clear hP
  have HX0 := Aside0.mk hz2
  have HB := Aside0.mk hB
  have HV2 := Aside0.mk hV2
  have hmf : ∀ (fn : Fn) (first cap : Array Value) (w : World), (Instr.makeFunc fn first cap).run Tryz.prog w = .ok (.func fn first cap) w := fun _ _ _ _ => rfl
  clear hx0 b0 hx1 b1 hz2 b2 hx2 h1 hr hi hB hV2
  unfold rec_ at hV0 ⊢
  go_enter Tryz.func59, Tryz.ntmps59
  go_wp2_with (refine store_other rfl 43 (.tmp 5) (.tmp 9) rfl rfl (w.heap.size + 2) (spc_ (.slice (some ⟨p, 0, none⟩) 1 1)) (spc_ (.slice none 0 0)) rfl rfl 43 HX0.out rfl infoSpec5 (spc_one _ _ _) ?_; show wpList _ _ _ _ _ ((V1.alloc (.cells (spc_ (.slice none 0 0)) 43)).setRow (w.heap.size + 2) (spc_ (.slice (some ⟨p, 0, none⟩) 1 1))); rw [HV2.out])
  clear hV0 hV1 k3 k4 k5 k6 k7 k8 k9 k10 k11 k12 k13 HX0 HV2 s0 s1
  go_wp2_with (first
    | (go_at_call 128; (with_reducible refine (long_no _ (by first | exact ht | exact h0) _).mono ?_); rintro e w' ⟨rfl, rfl⟩)
    | (go_at_call 130; (with_reducible refine (contains_strs _ _).mono ?_); rintro e w' ⟨rfl, rfl⟩)
    | (go_at_call 131; (with_reducible refine HI.out.mono ?_); rintro e w' ⟨rfl, rfl⟩))
  go_ret
  exact ⟨rfl, HB.out⟩
set_option maxHeartbeats 8000000 in
set_option maxRecDepth 100000 in
theorem may_not (i : Int) (w : World) (h0 : (ByteArray.mk #[]).size ≤ 4096) :
    Calls Tryz.prog 59 #[.agg (rec_ ⟨#[]⟩ (.slice none 0 0)), .int .i64 i] w fun e w' => e = .returned (.bool false) ∧ Below w.heap.size w w' := by
  obtain ⟨V0, hV0⟩ : ∃ V, w.alloc (.cells (rec_ ⟨#[]⟩ (.slice none 0 0)) 45) = V := ⟨_, rfl⟩
  obtain ⟨V1, hV1⟩ : ∃ V, V0.alloc (.cells #[.int .i64 i] 3) = V := ⟨_, rfl⟩
  obtain ⟨V2, hV2⟩ : ∃ V, (V1.alloc (.cells (spc_ (.slice none 0 0)) 43)).setRow (w.heap.size + 2) (spc_ (.slice none 0 0)) = V := ⟨_, rfl⟩
  have hx0 := Blk.new w 45 (rec_ ⟨#[]⟩ (.slice none 0 0))
  have b0 := (Below.refl w.heap.size w).alloc (Nat.le_refl _) (.cells (rec_ ⟨#[]⟩ (.slice none 0 0)) 45)
  rw [hV0] at hx0 b0
  have s0 : V0.heap.size = w.heap.size + 1 := by rw [← hV0, World.size_alloc]
  have hx1 := Blk.new V0 3 #[.int .i64 i]
  have b1 := (Below.refl V0.heap.size V0).alloc (Nat.le_refl _) (.cells #[.int .i64 i] 3)
  rw [hV1] at hx1 b1
  rw [s0] at hx1
  have s1 : V1.heap.size = w.heap.size + 2 := by rw [← hV1, World.size_alloc, s0]
  have hz2 := Blk.new V1 43 (spc_ (.slice none 0 0))
  have b2 := (Below.refl V1.heap.size V1).alloc (Nat.le_refl _) (.cells (spc_ (.slice none 0 0)) 43)
  rw [s1] at hz2
  have hx2 : Blk V2 (w.heap.size + 2) 43 (spc_ (.slice none 0 0)) := by rw [← hV2]; exact setRow_heap _ (w.heap.size + 2) _ (spc_ (.slice none 0 0)) 43 (0, 0) hz2
  have h1 : ∀ k t cs, k < w.heap.size + 2 → Blk V1 k t cs → Blk V2 k t cs := fun k t cs hk h => by rw [← hV2]; exact (setRow_other _ _ _ _ (by omega)).trans (h.next b2)
  have hr := h1 _ _ _ (by omega) (hx0.next b1)
  have hi := h1 _ _ _ (by omega) hx1
  have hB : Below w.heap.size w V2 := by rw [← hV2]; exact ((b0.trans (b1.mono (by omega))).trans (b2.mono (by omega))).trans ⟨rfl, rfl, rfl, by rw [setRow_size]; exact Nat.le_refl _, fun i hi => setRow_other _ _ _ _ (by omega)⟩
  obtain ⟨k3, k4, k5, k6, k7, k8, k9, k10, k11, k12, k13⟩ : V1.cell? ⟨w.heap.size, 3, none⟩ = some (.int .u8 0) ∧ V1.cell? ⟨w.heap.size, 4, none⟩ = some (.bool false) ∧ V1.cell? ⟨w.heap.size, 5, none⟩ = some (.string ⟨#[]⟩) ∧ V1.cell? ⟨w.heap.size, 6, none⟩ = some (.int .i16 0) ∧ V1.cell? ⟨w.heap.size, 7, none⟩ = some (.int .i8 0) ∧ V1.cell? ⟨w.heap.size, 8, none⟩ = some (.float .f64 0) ∧ V1.cell? ⟨w.heap.size, 9, none⟩ = some (.float .f64 0) ∧ V1.cell? ⟨w.heap.size, 10, none⟩ = some (.bool false) ∧ V1.cell? ⟨w.heap.size, 11, none⟩ = some (.int .u32 0) ∧ V1.cell? ⟨w.heap.size, 12, none⟩ = some (.slice none 0 0) ∧ V1.cell? ⟨w.heap.size, 13, none⟩ = some (.slice none 0 0) := ⟨((hx0.next b1).cell 3).trans rfl, ((hx0.next b1).cell 4).trans rfl, ((hx0.next b1).cell 5).trans rfl, ((hx0.next b1).cell 6).trans rfl, ((hx0.next b1).cell 7).trans rfl, ((hx0.next b1).cell 8).trans rfl, ((hx0.next b1).cell 9).trans rfl, ((hx0.next b1).cell 10).trans rfl, ((hx0.next b1).cell 11).trans rfl, ((hx0.next b1).cell 12).trans rfl, ((hx0.next b1).cell 13).trans rfl⟩
  have c0 : V2.cell? ⟨w.heap.size, 0, none⟩ = some (.string ⟨#[]⟩) := (hr.cell 0).trans rfl
  obtain ⟨e0, e2, e8, e9, e10⟩ : V2.cell? ⟨w.heap.size + 2, 0, none⟩ = some (.int .u8 0) ∧ V2.cell? ⟨w.heap.size + 2, 2, none⟩ = some (.string ⟨#[]⟩) ∧ V2.cell? ⟨w.heap.size + 2, 8, none⟩ = some (.int .u32 0) ∧ V2.cell? ⟨w.heap.size + 2, 9, none⟩ = some (.slice none 0 0) ∧ V2.cell? ⟨w.heap.size + 2, 10, none⟩ = some (.slice none 0 0) := ⟨(hx2.cell 0).trans rfl, (hx2.cell 2).trans rfl, (hx2.cell 8).trans rfl, (hx2.cell 9).trans rfl, (hx2.cell 10).trans rfl⟩
  have q1 : V2.cell? ⟨w.heap.size + 1, 0, none⟩ = some (.int .i64 i) := (hi.cell 0).trans rfl
  have HX0 := Aside0.mk hz2
  have HB := Aside0.mk hB
  have HV2 := Aside0.mk hV2
  have hmf : ∀ (fn : Fn) (first cap : Array Value) (w : World), (Instr.makeFunc fn first cap).run Tryz.prog w = .ok (.func fn first cap) w := fun _ _ _ _ => rfl
  clear hx0 b0 hx1 b1 hz2 b2 hx2 h1 hr hi hB hV2
  unfold rec_ at hV0 ⊢
  go_enter Tryz.func59, Tryz.ntmps59
  go_wp2_with (refine store_other rfl 43 (.tmp 5) (.tmp 9) rfl rfl (w.heap.size + 2) (spc_ (.slice none 0 0)) (spc_ (.slice none 0 0)) rfl rfl 43 HX0.out rfl infoSpec5 (spc_one _ _ _) ?_; show wpList _ _ _ _ _ ((V1.alloc (.cells (spc_ (.slice none 0 0)) 43)).setRow (w.heap.size + 2) (spc_ (.slice none 0 0))); rw [HV2.out])
  clear hV0 hV1 k3 k4 k5 k6 k7 k8 k9 k10 k11 k12 k13 HX0 HV2 s0 s1
  go_wp2_with (first
    | (go_at_call 128; (with_reducible refine (long_no _ h0 _).mono ?_); rintro e w' ⟨rfl, rfl⟩)
    | (go_at_call 130; (with_reducible refine (contains_strs _ _).mono ?_); rintro e w' ⟨rfl, rfl⟩)
    | (go_at_call 131; (with_reducible refine (contains_ints _ _).mono ?_); rintro e w' ⟨rfl, rfl⟩))
  go_ret
  exact ⟨rfl, HB.out⟩
end Go.Proofs.YtoplgeajolonoaaGreatDoor.PK
end
