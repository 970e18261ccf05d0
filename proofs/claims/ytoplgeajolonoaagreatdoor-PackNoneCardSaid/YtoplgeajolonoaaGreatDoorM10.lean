/- Reader Locks Reg -/
import Derived.Test.YtoplgeajolonoaaGreatDoorProg
import Derived.Test.YtoplgeajolonoaaGreatDoorM1
import Derived.Test.YtoplgeajolonoaaGreatDoorM3
import Derived.Recover
import Derived.Defers
import Derived.WalkLawsBesides
import Derived.WalkSmall
import Derived.Deep.LoopGhost
import Derived.Conc.MuLone
import Derived.KernelRfl
import Derived.RegionCalls
import Derived.RegionTactic
import Derived.WalkSpells
import Derived.Carry
section
/- The reader: take, short; Records' deferred function. -/
set_option linter.unusedVariables false
set_option linter.unusedSimpArgs false
namespace Go.Proofs.YtoplgeajolonoaaGreatDoor.PK
open Go.RowKit Go.Proofs.YtoplgeajolonoaaGreatDoorW.PrintWords Go.Proofs.YtoplgeajolonoaaGreatDoorW.PrintMore Go.Proofs.YtoplgeajolonoaaGreatDoor.TF

/-- what the reader gives up with -/
def gaveUp : Value := .iface 26 (.int .i64 4)
theorem take_none (p : Nat) (w : World) (h : Blk w p 124 #[.string ⟨#[]⟩]) :
    Calls Tryz.prog 46 #[.pointer (some ⟨p, 0, none⟩), .int .i64 2] w fun e w' => e = .panicked [{ v := gaveUp, recovered := false }] ∧ w' = w := by
  have c0 : w.cell? ⟨p, 0, none⟩ = some (.string ⟨#[]⟩) := (h.cell 0).trans rfl
  clear h
  unfold gaveUp
  go_enter Tryz.func46, Tryz.ntmps46
  go_wp2_with (fail)
  exact ⟨rfl, rfl, rfl⟩
theorem take_two (p : Nat) (w : World) (h : Blk w p 124 #[.string ⟨#[69, 1, 0]⟩]) :
    Calls Tryz.prog 46 #[.pointer (some ⟨p, 0, none⟩), .int .i64 2] w fun e w' => e = .returned (.string ⟨#[69, 1]⟩) ∧ w' = w.setCell ⟨p, 0, none⟩ (.string ⟨#[0]⟩) := by
  have c0 : w.cell? ⟨p, 0, none⟩ = some (.string ⟨#[69, 1, 0]⟩) := (h.cell 0).trans rfl
  have f0 := h.frozen 0
  clear h
  go_enter Tryz.func46, Tryz.ntmps46
  go_wp2_with (fail)
  go_ret
  exact ⟨by kernel_rfl, by kernel_rfl⟩
theorem take_one (p : Nat) (w : World) (h : Blk w p 124 #[.string ⟨#[0]⟩]) :
    Calls Tryz.prog 46 #[.pointer (some ⟨p, 0, none⟩), .int .i64 1] w fun e w' => e = .returned (.string ⟨#[0]⟩) ∧ w' = w.setCell ⟨p, 0, none⟩ (.string ⟨#[]⟩) := by
  have c0 : w.cell? ⟨p, 0, none⟩ = some (.string ⟨#[0]⟩) := (h.cell 0).trans rfl
  have f0 := h.frozen 0
  clear h
  go_enter Tryz.func46, Tryz.ntmps46
  go_wp2_with (fail)
  go_ret
  exact ⟨by kernel_rfl, by kernel_rfl⟩
theorem catch_panicking (p q : Addr) (x y : Value) (u : TypeId) (pv : Value) (older : List PanicEntry) (w : World) (hc : w.cell? p = some x) (hz : w.frozen? p = false) (hd : w.cell? q = some y) (hy : w.frozen? q = false) (hne : p ≠ q) :
    CallsD Tryz.prog 45 #[.pointer (some p), .pointer (some q)] (.panicking ({ v := .iface u pv, recovered := false } :: older)) w fun e u' w' =>
      e = .returned (.tuple #[]) ∧ u' = .panicking ({ v := .iface u pv, recovered := true } :: older) ∧ w' = (w.setCell p (.slice none 0 0)).setCell q (.int .i64 4) := by
  have hd' : (w.setCell p (.slice none 0 0)).cell? q = some y := (World.cell?_setCell_other _ p q _ (by exact hne)).trans hd
  refine callsD_of_wpS Tryz.func45 rfl fun c₀ cs hu => ?_
  apply wpS_seq
  apply wpS_region
  simp [wpOpsS, go_sem, recoverD, hu, Tryz.ntmps45, Exit.thenS]
  apply wpS_seq
  apply wpS_region
  simp [wpOpsS, go_sem, Exit.thenS]
  refine wpS_cond (t := true) (by simp [Act.eval, Array.replicate]) ?_
  simp only [if_true]
  apply wpS_region
  simp [wpOpsS, go_sem, hc, hz, hd', hy, bodyPostS, results, Tryz.results45]
theorem catch_idle (p q : Addr) (w : World) :
    CallsD Tryz.prog 45 #[.pointer (some p), .pointer (some q)] .returning w fun e u' w' => e = .returned (.tuple #[]) ∧ u' = .returning ∧ w' = w := by
  refine callsD_of_wpS Tryz.func45 rfl fun c₀ cs hu => ?_
  apply wpS_seq
  apply wpS_region
  simp [wpOpsS, go_sem, recoverD, hu, Tryz.ntmps45, Exit.thenS]
  apply wpS_seq
  apply wpS_region
  simp [wpOpsS, go_sem, Exit.thenS]
  refine wpS_cond (t := false) (by simp [Act.eval, Array.replicate]) ?_
  simp only [Bool.false_eq_true, if_false]
  refine wpS_of_wp (wp_skip ?_)
  cases c₀
  simp_all [bodyPostS, results, Tryz.results45]
set_option maxRecDepth 100000 in
/-- of the byte 0 it takes the number 0 -/
theorem rshort_zero (p : Nat) (w : World) (h : Blk w p 124 #[.string ⟨#[0]⟩]) :
    Calls Tryz.prog 47 #[.pointer (some ⟨p, 0, none⟩), .int .u64 4096] w fun e w' => e = .returned (.int .u64 0) ∧ w' = w.setCell ⟨p, 0, none⟩ (.string ⟨#[]⟩) := by
  have HT := Aside0.mk (take_one p w h)
  clear h
  go_enter Tryz.func47, Tryz.ntmps47
  go_wp2_with (fail)
  go_loopg [5, 6] 0 (fun kq v5 v6 wr => v5 = .int .u64 0 ∧ v6 = .int .i64 0 ∧ kq = 0 ∧ wr = w)
  case atStart => exact ⟨rfl, rfl, rfl, rfl⟩
  case round =>
    obtain ⟨rfl, rfl, rfl, rfl⟩ := hrel
    go_wp2_with (go_at_call 46; (with_reducible refine HT.out.mono ?_); rintro e w' ⟨rfl, rfl⟩)
    go_ret
    exact ⟨by kernel_rfl, rfl⟩
set_option maxRecDepth 100000 in
/-- no records are a row -/
theorem row_nil (w : World) : Calls Tryz.prog 33 #[.slice none 0 0] w fun e w' => e = .returned (.bool true) ∧ w' = w.alloc (.cells #[.slice none 0 0] 46) := by
  obtain ⟨W, hW⟩ : ∃ W, w.alloc (.cells #[.slice none 0 0] 46) = W := ⟨_, rfl⟩
  have hc : W.cell? ⟨w.heap.size, 0, none⟩ = some (.slice none 0 0) := by rw [← hW]; exact (Blk.new w _ _).cell 0
  rw [hW]
  go_enter Tryz.func33, Tryz.ntmps33
  go_wp2_with (fail)
  clear hW
  go_loopg [14] 0 (fun kq v14 wr => v14 = .int .i64 0 ∧ kq = 0 ∧ wr = W)
  case atStart => exact ⟨rfl, rfl, rfl⟩
  case round =>
    obtain ⟨rfl, rfl, rfl⟩ := hrel
    go_wp2_with (fail)
    go_ret
    exact ⟨rfl, rfl⟩
set_option maxRecDepth 100000 in
/-- of no bytes: it is given up, and caught: ErrForm -/
theorem records_none (w : World) : Calls Tryz.prog 19 #[.string ⟨#[]⟩] w fun e w' => e = .returned (.tuple #[.slice none 0 0, .int .i64 4]) ∧ Below w.heap.size w w' := by
  have hmf : ∀ (fn : Fn) (first cap : Array Value) (w : World), (Instr.makeFunc fn first cap).run Tryz.prog w = .ok (.func fn first cap) w := fun _ _ _ _ => rfl
  obtain ⟨W1, hW1⟩ : ∃ W, w.alloc (.cells #[.slice none 0 0] 46) = W := ⟨_, rfl⟩
  obtain ⟨W2, hW2⟩ : ∃ W, W1.alloc (.cells #[.int .i64 0] 26) = W := ⟨_, rfl⟩
  obtain ⟨W3, hW3⟩ : ∃ W, W2.alloc (.cells #[.string ⟨#[]⟩] 124) = W := ⟨_, rfl⟩
  have s1 : W1.heap.size = w.heap.size + 1 := by rw [← hW1, World.size_alloc]
  have s2 : W2.heap.size = w.heap.size + 2 := by rw [← hW2, World.size_alloc, s1]
  have b1 : Below w.heap.size w W1 := by rw [← hW1]; exact (Below.refl _ w).alloc (Nat.le_refl _) _
  have b2 : Below w.heap.size w W2 := by rw [← hW2]; exact b1.alloc (by omega) _
  have b3 : Below w.heap.size w W3 := by rw [← hW3]; exact b2.alloc (by omega) _
  have e1 : Below W1.heap.size W1 W2 := by rw [← hW2]; exact (Below.refl _ W1).alloc (Nat.le_refl _) _
  have e2 : Below W2.heap.size W2 W3 := by rw [← hW3]; exact (Below.refl _ W2).alloc (Nat.le_refl _) _
  have k1 : Blk W3 w.heap.size 46 #[.slice none 0 0] := by
    have h := Blk.new w 46 #[.slice none 0 0]
    rw [hW1] at h
    exact (h.next e1).next e2
  have k2 : Blk W3 (w.heap.size + 1) 26 #[.int .i64 0] := by
    have h := Blk.new W1 26 #[.int .i64 0]
    rw [hW2, s1] at h
    exact h.next e2
  have k3 : Blk W3 (w.heap.size + 2) 124 #[.string ⟨#[]⟩] := by
    have h := Blk.new W2 124 #[.string ⟨#[]⟩]
    rw [hW3, s2] at h
    exact h
  have HT := Aside0.mk (take_none _ W3 k3)
  go_enter_defers Tryz.func19, Tryz.ntmps19
  go_wp2_with (go_at_call 46; (with_reducible refine HT.out.mono ?_); rintro e W3 ⟨rfl, rfl⟩)
  refine leaves_cons (f := 45) (args := #[.pointer (some ⟨w.heap.size, 0, none⟩), .pointer (some ⟨w.heap.size + 1, 0, none⟩)]) (by simp) (by simp [go_sem]) ?_
  refine (catch_panicking ⟨w.heap.size, 0, none⟩ ⟨w.heap.size + 1, 0, none⟩ (.slice none 0 0) (.int .i64 0) 26 (.int .i64 4) [] _ ((k1.cell 0).trans rfl) (k1.frozen 0) ((k2.cell 0).trans rfl) (k2.frozen 0) (by simp)).mono ?_
  rintro e u' w'' ⟨rfl, rfl, rfl⟩
  have q1 := (k1.set_ 0 (.slice none 0 0)).far (p := ⟨w.heap.size + 1, 0, none⟩) (by simp) (.int .i64 4)
  have q2 := (k2.far (p := ⟨w.heap.size, 0, none⟩) (by simp) (.slice none 0 0)).set_ 0 (.int .i64 4)
  obtain ⟨V, hV⟩ : ∃ V, (W3.setCell ⟨w.heap.size, 0, none⟩ (.slice none 0 0)).setCell ⟨w.heap.size + 1, 0, none⟩ (.int .i64 4) = V := ⟨_, rfl⟩
  rw [hV] at q1 q2
  have c1 : V.cell? ⟨w.heap.size, 0, none⟩ = some (.slice none 0 0) := (q1.cell 0).trans rfl
  have c2 : V.cell? ⟨w.heap.size + 1, 0, none⟩ = some (.int .i64 4) := (q2.cell 0).trans rfl
  have hb := (b3.setCell (p := ⟨w.heap.size, 0, none⟩) (Nat.le_refl _) (.slice none 0 0)).setCell (p := ⟨w.heap.size + 1, 0, none⟩) (by simp) (.int .i64 4)
  rw [hV] at hb ⊢
  simp [Leaves, settle, results, Tryz.results19, go_sem, c1, c2]
  exact hb
set_option maxRecDepth 100000 in
set_option maxHeartbeats 4000000 in
/-- of the bytes of no records: no records -/
theorem records_zero (w : World) : Calls Tryz.prog 19 #[.string ⟨#[69, 1, 0]⟩] w fun e w' => e = .returned (.tuple #[.slice none 0 0, .int .i64 0]) ∧ Below w.heap.size w w' := by
  have hmf : ∀ (fn : Fn) (first cap : Array Value) (w : World), (Instr.makeFunc fn first cap).run Tryz.prog w = .ok (.func fn first cap) w := fun _ _ _ _ => rfl
  obtain ⟨W1, hW1⟩ : ∃ W, w.alloc (.cells #[.slice none 0 0] 46) = W := ⟨_, rfl⟩
  obtain ⟨W2, hW2⟩ : ∃ W, W1.alloc (.cells #[.int .i64 0] 26) = W := ⟨_, rfl⟩
  obtain ⟨W3, hW3⟩ : ∃ W, W2.alloc (.cells #[.string ⟨#[69, 1, 0]⟩] 124) = W := ⟨_, rfl⟩
  have s1 : W1.heap.size = w.heap.size + 1 := by rw [← hW1, World.size_alloc]
  have s2 : W2.heap.size = w.heap.size + 2 := by rw [← hW2, World.size_alloc, s1]
  have b1 : Below w.heap.size w W1 := by rw [← hW1]; exact (Below.refl _ w).alloc (Nat.le_refl _) _
  have b2 : Below w.heap.size w W2 := by rw [← hW2]; exact b1.alloc (by omega) _
  have b3 : Below w.heap.size w W3 := by rw [← hW3]; exact b2.alloc (by omega) _
  have s3 : W3.heap.size = w.heap.size + 3 := by rw [← hW3, World.size_alloc, s2]
  have e1 : Below W1.heap.size W1 W2 := by rw [← hW2]; exact (Below.refl _ W1).alloc (Nat.le_refl _) _
  have e2 : Below W2.heap.size W2 W3 := by rw [← hW3]; exact (Below.refl _ W2).alloc (Nat.le_refl _) _
  have k1 : Blk W3 w.heap.size 46 #[.slice none 0 0] := by
    have h := Blk.new w 46 #[.slice none 0 0]
    rw [hW1] at h
    exact (h.next e1).next e2
  have k2 : Blk W3 (w.heap.size + 1) 26 #[.int .i64 0] := by
    have h := Blk.new W1 26 #[.int .i64 0]
    rw [hW2, s1] at h
    exact h.next e2
  have k3 : Blk W3 (w.heap.size + 2) 124 #[.string ⟨#[69, 1, 0]⟩] := by
    have h := Blk.new W2 124 #[.string ⟨#[69, 1, 0]⟩]
    rw [hW3, s2] at h
    exact h
  have HT := Aside0.mk (take_two _ W3 k3)
  have l3 := k3.set_ 0 (.string ⟨#[0]⟩)
  have l1 := k1.far (p := ⟨w.heap.size + 2, 0, none⟩) (by simp) (.string ⟨#[0]⟩)
  have l2 := k2.far (p := ⟨w.heap.size + 2, 0, none⟩) (by simp) (.string ⟨#[0]⟩)
  have b4 := b3.setCell (p := ⟨w.heap.size + 2, 0, none⟩) (by simp) (.string ⟨#[0]⟩)
  obtain ⟨W4, hW4⟩ : ∃ W, W3.setCell ⟨w.heap.size + 2, 0, none⟩ (.string ⟨#[0]⟩) = W := ⟨_, rfl⟩
  rw [hW4] at HT l1 l2 l3 b4
  have HS := Aside0.mk (rshort_zero _ W4 l3)
  have m3 := l3.set_ 0 (.string ⟨#[]⟩)
  have m1 := l1.far (p := ⟨w.heap.size + 2, 0, none⟩) (by simp) (.string ⟨#[]⟩)
  have m2 := l2.far (p := ⟨w.heap.size + 2, 0, none⟩) (by simp) (.string ⟨#[]⟩)
  have b5 := b4.setCell (p := ⟨w.heap.size + 2, 0, none⟩) (by simp) (.string ⟨#[]⟩)
  have s5 : (W4.setCell ⟨w.heap.size + 2, 0, none⟩ (.string ⟨#[]⟩)).heap.size = w.heap.size + 3 := by rw [World.size_setCell, ← hW4, World.size_setCell, s3]
  obtain ⟨W5, hW5⟩ : ∃ W, W4.setCell ⟨w.heap.size + 2, 0, none⟩ (.string ⟨#[]⟩) = W := ⟨_, rfl⟩
  rw [hW5] at HS m1 m2 m3 b5 s5
  have HR := Aside0.mk (row_nil W5)
  have a5 := (Below.refl W5.heap.size W5).alloc (Nat.le_refl _) (.cells #[.slice none 0 0] 46)
  have b6 := b5.alloc (o := .cells #[.slice none 0 0] 46) (by omega)
  have n1 := m1.next a5
  have n2 := m2.next a5
  obtain ⟨W6, hW6⟩ : ∃ W, W5.alloc (.cells #[.slice none 0 0] 46) = W := ⟨_, rfl⟩
  rw [hW6] at HR n1 n2 b6
  have c1 : W5.cell? ⟨w.heap.size, 0, none⟩ = some (.slice none 0 0) := (m1.cell 0).trans rfl
  have c3 : W5.cell? ⟨w.heap.size + 2, 0, none⟩ = some (.string ⟨#[]⟩) := (m3.cell 0).trans rfl
  have d1 : W6.cell? ⟨w.heap.size, 0, none⟩ = some (.slice none 0 0) := (n1.cell 0).trans rfl
  have d2 : W6.cell? ⟨w.heap.size + 1, 0, none⟩ = some (.int .i64 0) := (n2.cell 0).trans rfl
  have f1 := n1.frozen 0
  have f2 := n2.frozen 0
  have N1 := Aside0.mk n1
  have N2 := Aside0.mk n2
  have B6 := Aside0.mk b6
  clear l1 l2 l3 m1 m2 m3 n1 n2 a5 b1 b2 b3 b4 b5 b6 e1 e2 k1 k2 k3 hW4 hW5 hW6 s3 s5
  go_enter_defers Tryz.func19, Tryz.ntmps19
  go_wp2_with (go_at_call 46; (with_reducible refine HT.out.mono ?_); rintro e W4 ⟨rfl, rfl⟩)
  go_wp2_with (go_at_call 47; (with_reducible refine HS.out.mono ?_); rintro e W5 ⟨rfl, rfl⟩)
  clear hW1 hW2 hW3 HT HS
  go_loopg [18] 0 (fun kq v18 wr => v18 = .int .u64 0 ∧ kq = 0 ∧ wr = W5)
  case atStart => exact ⟨rfl, rfl, rfl⟩
  case round =>
    obtain ⟨rfl, rfl, rfl⟩ := hrel
    go_wp2_with (go_at_call 33; (with_reducible refine HR.out.mono ?_); rintro e W6 ⟨rfl, rfl⟩)
    have q1 := (N1.out.set_ 0 (.slice none 0 0)).far (p := ⟨w.heap.size + 1, 0, none⟩) (by simp) (.int .i64 0)
    have q2 := (N2.out.far (p := ⟨w.heap.size, 0, none⟩) (by simp) (.slice none 0 0)).set_ 0 (.int .i64 0)
    have hb := (B6.out.setCell (p := ⟨w.heap.size, 0, none⟩) (Nat.le_refl _) (.slice none 0 0)).setCell (p := ⟨w.heap.size + 1, 0, none⟩) (by simp) (.int .i64 0)
    obtain ⟨V, hV⟩ : ∃ V, (W6.setCell ⟨w.heap.size, 0, none⟩ (.slice none 0 0)).setCell ⟨w.heap.size + 1, 0, none⟩ (.int .i64 0) = V := ⟨_, rfl⟩
    rw [hV] at q1 q2 hb ⊢
    have r1 : V.cell? ⟨w.heap.size, 0, none⟩ = some (.slice none 0 0) := (q1.cell 0).trans rfl
    have r2 : V.cell? ⟨w.heap.size + 1, 0, none⟩ = some (.int .i64 0) := (q2.cell 0).trans rfl
    refine leaves_cons (f := 45) (args := #[.pointer (some ⟨w.heap.size, 0, none⟩), .pointer (some ⟨w.heap.size + 1, 0, none⟩)]) (by simp) (by simp [go_sem]) ?_
    refine (catch_idle ⟨w.heap.size, 0, none⟩ ⟨w.heap.size + 1, 0, none⟩ _).mono ?_
    rintro e u' w'' ⟨rfl, rfl, rfl⟩
    simp [Leaves, settle, results, Tryz.results19, go_sem, r1, r2]
    exact hb
end Go.Proofs.YtoplgeajolonoaaGreatDoor.PK
end
section
/- The numbers under which this program holds the text of sync.Mutex, and that it holds it. -/
namespace Go.Proofs
abbrev Tryz.muLink : Go.Conc.Locks.MuLink := { lock := 61, unlock := 62, ilock := 132, iunlock := 133, lockSlow := 170, unlockSlow := 173, disable := 166, enable := 168, acquire := 169, relMerge := 171, cas32 := 167, add32 := 172, tMutex := 68, tIMutex := 66, tPMutex := 252, tPIMutex := 343, tPI32 := 345, tUP := 347, tNoCopy := 64, tU32 := 40 }
theorem Tryz.muLib : Go.Conc.Locks.MuLib Tryz.prog Tryz.muLink :=
  ⟨Tryz.func61, Tryz.func62, Tryz.func132, Tryz.func133, Tryz.func166, Tryz.func168, Tryz.func169, Tryz.func171, Tryz.func167, Tryz.func172, Tryz.underlying66, Tryz.runUnderlying66, Tryz.sizeOf66, Tryz.isAgg66, Tryz.zeroValue66, Tryz.underlying68, Tryz.runUnderlying68, Tryz.sizeOf68, Tryz.isAgg68, Tryz.zeroValue68, Tryz.underlying252, Tryz.runUnderlying252, Tryz.sizeOf252, Tryz.isAgg252, Tryz.zeroValue252, Tryz.underlying343, Tryz.runUnderlying343, Tryz.sizeOf343, Tryz.isAgg343, Tryz.zeroValue343, Tryz.underlying345, Tryz.runUnderlying345, Tryz.sizeOf345, Tryz.isAgg345, Tryz.zeroValue345, Tryz.underlying347, Tryz.runUnderlying347, Tryz.sizeOf347, Tryz.isAgg347, Tryz.zeroValue347, Tryz.underlying64, Tryz.runUnderlying64, Tryz.sizeOf64, Tryz.isAgg64, Tryz.zeroValue64, Tryz.underlying21, Tryz.runUnderlying21, Tryz.sizeOf21, Tryz.isAgg21, Tryz.zeroValue21, (by kernel_rfl)⟩
end Go.Proofs
end
section
/- The registry: New, Frozen, freeze (sync.Once about a closure that locks), Of where there are no rows. -/
set_option linter.unusedVariables false
set_option linter.unusedSimpArgs false
namespace Go.Proofs.YtoplgeajolonoaaGreatDoor.PK
open Go.RowKit Go.Proofs.YtoplgeajolonoaaGreatDoorW.PrintWords Go.Proofs.YtoplgeajolonoaaGreatDoorW.PrintMore Go.Proofs.YtoplgeajolonoaaGreatDoor.TF Go.MuLone

/-- a registry's cells: no rows, the lock free, not frozen -/
def reg0 (m : Nat) : Array Value := #[.int .i32 0, .int .u32 0, .int .u32 0, .int .i32 0, .int .u32 0, .slice none 0 0, .map (some m), .slice none 0 0, .int .i64 0]
theorem reg_new (w : World) : Calls Tryz.prog 7 #[] w fun e w' => ∃ g m, e = .returned (.pointer (some ⟨g, 0, none⟩)) ∧ w.heap.size ≤ g ∧ Blk w' g 76 (reg0 m) ∧ Below w.heap.size w w' := by
  have hmk : ∀ w : World, (Instr.makeMap 62 none).run Tryz.prog w = .ok (.map (some w.heap.size)) (w.alloc (.map #[] 0)) := fun w => run_makeMap _ w
  go_enter Tryz.func7, Tryz.ntmps7
  go_wp2
  go_ret
  refine ⟨_, w.heap.size, rfl, ?_, by have h := Blk.new (w.alloc (.map #[] 0)) 76 (reg0 w.heap.size); rw [World.size_alloc] at h; exact h, ?_⟩
  · simp
  · exact Below.alloc (Below.alloc (Below.refl _ w) (Nat.le_refl _) _) (by simp) _
theorem frozens_no (g m : Nat) (w : World) (h : Blk w g 76 (reg0 m)) :
    Calls Tryz.prog 34 #[.pointer (some ⟨g, 0, none⟩)] w fun e w' => e = .returned (.int .i64 0) ∧ w' = (w.setCell ⟨g, 0, none⟩ (.int .i32 1)).setCell ⟨g, 0, none⟩ (.int .i32 0) := by
  have c0 : w.cell? ⟨g, 0, none⟩ = some (.int .i32 0) := (h.cell 0).trans rfl
  have f0 := h.frozen 0
  have c8 : w.cell? ⟨g, 8, none⟩ = some (.int .i64 0) := (h.cell 8).trans rfl
  go_enter_defers Tryz.func34, Tryz.ntmps34
  go_wp2_with (go_at_call 61; refine (lock_free Tryz.muLib ⟨g, 0, none⟩ _ c0 f0).mono ?_; rintro e w' ⟨rfl, rfl⟩)
  refine leaves_cons (f := 62) (args := #[.pointer (some ⟨g, 0, none⟩)]) (by simp) (by simp [go_sem]) ?_
  refine (unlock_deferred Tryz.muLib ⟨g, 0, none⟩ .returning _ ?_ ?_).mono ?_
  · exact World.cell?_setCell_same w ⟨g, 0, none⟩ (.int .i32 1) c0
  · simp [f0]
  rintro e u' w'' ⟨rfl, rfl, rfl⟩
  exact ⟨_, results_tmp rfl _ _ _, rfl, rfl⟩
theorem frozen_no (g m : Nat) (w : World) (h : Blk w g 76 (reg0 m)) :
    Calls Tryz.prog 12 #[.pointer (some ⟨g, 0, none⟩)] w fun e w' => e = .returned (.bool false) ∧ Blk w' g 76 (reg0 m) ∧ Fr (fun q => q = g) w w' := by
  have HF := Aside0.mk (frozens_no g m w h)
  have H := Aside0.mk h
  clear h
  go_enter Tryz.func12, Tryz.ntmps12
  go_wp2_with (go_at_call 34; (with_reducible refine HF.out.mono ?_); rintro e w' ⟨rfl, rfl⟩)
  go_ret
  exact ⟨rfl, (H.out.set_ 0 _).set_ 0 _, ((Fr.refl (fun q => q = g) w).set (.inl rfl) _).set (.inl rfl) _⟩
theorem store_deferred (a : Addr) (x : Value) (u : FrameMode) (w : World) (hc : w.cell? a = some x) (hz : w.frozen? a = false) :
    CallsD Tryz.prog 187 #[.pointer (some a), .bool true] u w fun e u' w' => u' = u ∧ (e = .returned (.tuple #[]) ∧ w' = w.drew.setCell a (.int .u32 1)) := by
  have hc' : w.drew.cell? a = some x := by go_simp
  have hz' : w.drew.frozen? a = false := by go_simp
  have hst := run_call_store (P := Tryz.prog) Tryz.func218 (by kernel_rfl) (by kernel_rfl) (by kernel_rfl) (by kernel_rfl) (k := .u32) (y := 1) hc' hz'
  go_enter_d Tryz.func187, Tryz.ntmps187
  go_wp2
  go_region_calls
  all_goals (go_end0; exact ⟨rfl, rfl⟩)
/-- what is given to Do: it locks, counts, unlocks -/
theorem freeze_own (g : Nat) (cs : Array Value) (pl : Addr) (w : World) (hp : w.cell? pl = some (.pointer (some ⟨g, 0, none⟩))) (h : Blk w g 76 cs) (hne : ¬ g = pl.block)
    (h0 : cs[0]? = some (.int .i32 0)) (h8 : cs[8]? = some (.int .i64 0)) :
    Calls Tryz.prog 95 #[.pointer (some pl)] w fun e w' => e = .returned (.tuple #[]) ∧ w' = ((w.setCell ⟨g, 0, none⟩ (.int .i32 1)).setCell ⟨g, 8, none⟩ (.int .i64 1)).setCell ⟨g, 0, none⟩ (.int .i32 0) := by
  have c0 : w.cell? ⟨g, 0, none⟩ = some (.int .i32 0) := (h.cell 0).trans h0
  have f0 := h.frozen 0
  have f8 := h.frozen 8
  have c8 : w.cell? ⟨g, 8, none⟩ = some (.int .i64 0) := (h.cell 8).trans h8
  have p1 : (w.setCell ⟨g, 0, none⟩ (.int .i32 1)).cell? pl = some (.pointer (some ⟨g, 0, none⟩)) := (World.cell?_setCell_other _ ⟨g, 0, none⟩ pl _ (fun h => hne (by rw [← h]))).trans hp
  have d8 : (w.setCell ⟨g, 0, none⟩ (.int .i32 1)).cell? ⟨g, 8, none⟩ = some (.int .i64 0) := (World.cell?_setCell_other _ ⟨g, 0, none⟩ ⟨g, 8, none⟩ _ (by simp)).trans c8
  clear h
  go_enter_defers Tryz.func95, Tryz.ntmps95
  go_wp2_with (go_at_call 61; refine (lock_free Tryz.muLib ⟨g, 0, none⟩ _ c0 f0).mono ?_; rintro e w' ⟨rfl, rfl⟩)
  refine leaves_cons (f := 62) (args := #[.pointer (some ⟨g, 0, none⟩)]) (by simp) (by simp [go_sem]) ?_
  refine (unlock_deferred Tryz.muLib ⟨g, 0, none⟩ .returning _ ?_ ?_).mono ?_
  · exact (World.cell?_setCell_other _ ⟨g, 8, none⟩ ⟨g, 0, none⟩ _ (by simp)).trans (World.cell?_setCell_same w ⟨g, 0, none⟩ (.int .i32 1) c0)
  · simp [f0]
  rintro e u' w'' ⟨rfl, rfl, rfl⟩
  exact ⟨_, results_none rfl _ _ _, rfl, rfl⟩
end Go.Proofs.YtoplgeajolonoaaGreatDoor.PK
end
