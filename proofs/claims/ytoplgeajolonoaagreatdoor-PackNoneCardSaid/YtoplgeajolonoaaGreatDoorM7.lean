/- Visit -/
import Derived.Test.YtoplgeajolonoaaGreatDoorM5
/- row's visit: a row of two records, without parts, and with the first a part of the second. -/
set_option linter.unusedVariables false
set_option linter.unusedSimpArgs false
namespace Go.Proofs.YtoplgeajolonoaaGreatDoor.PK
open Go.RowKit Go.Proofs.YtoplgeajolonoaaGreatDoorW.PrintWords Go.Proofs.YtoplgeajolonoaaGreatDoorW.PrintMore Go.Proofs.YtoplgeajolonoaaGreatDoor.TF

/-- the records a and b, b with these parts -/
def two_ (ps : Value) : Array Value := #[.string ⟨#[97]⟩, .bool false, .int .u32 0, .int .u8 0, .bool false, .string ⟨#[]⟩, .int .i16 0, .int .i8 0, .float .f64 0, .float .f64 0, .bool false, .int .u32 0, .slice none 0 0, .slice none 0 0, .string ⟨#[98]⟩, .bool false, .int .u32 0, .int .u8 0, .bool false, .string ⟨#[]⟩, .int .i16 0, .int .i8 0, .float .f64 0, .float .f64 0, .bool false, .int .u32 0, .slice none 0 0, ps]
def caps_ (n0 N : Nat) : Array Value := #[.pointer (some ⟨N + 3, 0, none⟩), .pointer (some ⟨n0, 0, none⟩), .pointer (some ⟨N + 4, 0, none⟩), .pointer (some ⟨N + 1, 0, none⟩), .pointer (some ⟨N, 0, none⟩)]
/-- what visit's variables hold -/
structure Vis (g n0 N : Nat) (ps : Value) (x0 x1 : Int) (o : Bool) (m : Int) (W : World) : Prop where
  nx : Blk W N 3 #[.int .i64 m]
  ok : Blk W (N + 1) 4 #[.bool o]
  lf : Blk W (N + 2) 5 #[.int .u8 x0, .int .u8 x1]
  vl : Blk W (N + 3) 92 #[.slice (some ⟨N + 2, 0, none⟩) 2 2]
  vv : Blk W (N + 4) 140 #[.func (.func 60) #[] (caps_ n0 N)]
  vb : Blk W n0 46 #[.slice (some ⟨g, 0, none⟩) 2 2]
  rs : Blk W g 45 (two_ ps)
  lt : n0 < N
  gt : g < N
section
variable {g n0 N : Nat} {ps : Value} {x0 x1 m : Int} {o : Bool} {W : World}
theorem Vis.set0 (h : Vis g n0 N ps x0 x1 o m W) (y : Int) : Vis g n0 N ps y x1 o m (W.setCell ⟨N + 2, 0, none⟩ (.int .u8 y)) :=
  ⟨h.nx.far (by simp <;> omega) _, h.ok.far (by simp <;> omega) _, h.lf.set_ 0 _, h.vl.far (by simp) _, h.vv.far (by simp) _, h.vb.far (by have := h.lt; simp <;> omega) _, h.rs.far (by have := h.gt; simp <;> omega) _, h.lt, h.gt⟩
theorem Vis.set1 (h : Vis g n0 N ps x0 x1 o m W) (y : Int) : Vis g n0 N ps x0 y o m (W.setCell ⟨N + 2, 1, none⟩ (.int .u8 y)) :=
  ⟨h.nx.far (by simp <;> omega) _, h.ok.far (by simp <;> omega) _, h.lf.set_ 1 _, h.vl.far (by simp) _, h.vv.far (by simp) _, h.vb.far (by have := h.lt; simp <;> omega) _, h.rs.far (by have := h.gt; simp <;> omega) _, h.lt, h.gt⟩
theorem Vis.setOk (h : Vis g n0 N ps x0 x1 o m W) (y : Bool) : Vis g n0 N ps x0 x1 y m (W.setCell ⟨N + 1, 0, none⟩ (.bool y)) :=
  ⟨h.nx.far (by simp <;> omega) _, h.ok.set_ 0 _, h.lf.far (by simp) _, h.vl.far (by simp) _, h.vv.far (by simp) _, h.vb.far (by have := h.lt; simp <;> omega) _, h.rs.far (by have := h.gt; simp <;> omega) _, h.lt, h.gt⟩
theorem Vis.setNx (h : Vis g n0 N ps x0 x1 o m W) (y : Int) : Vis g n0 N ps x0 x1 o y (W.setCell ⟨N, 0, none⟩ (.int .i64 y)) :=
  ⟨h.nx.set_ 0 _, h.ok.far (by simp) _, h.lf.far (by simp) _, h.vl.far (by simp) _, h.vv.far (by simp) _, h.vb.far (by have := h.lt; simp <;> omega) _, h.rs.far (by have := h.gt; simp <;> omega) _, h.lt, h.gt⟩
theorem Vis.c (h : Vis g n0 N ps x0 x1 o m W) : W.cell? ⟨N, 0, none⟩ = some (.int .i64 m) ∧ W.cell? ⟨N + 1, 0, none⟩ = some (.bool o) ∧ W.cell? ⟨N + 2, 0, none⟩ = some (.int .u8 x0) ∧ W.cell? ⟨N + 2, 1, none⟩ = some (.int .u8 x1) ∧ W.cell? ⟨N + 3, 0, none⟩ = some (.slice (some ⟨N + 2, 0, none⟩) 2 2) ∧
    W.cell? ⟨N + 4, 0, none⟩ = some (.func (.func 60) #[] (caps_ n0 N)) ∧ W.cell? ⟨n0, 0, none⟩ = some (.slice (some ⟨g, 0, none⟩) 2 2) ∧ W.cell? ⟨g, 13, none⟩ = some (.slice none 0 0) ∧ W.cell? ⟨g, 27, none⟩ = some ps :=
  ⟨(h.nx.cell 0).trans rfl, (h.ok.cell 0).trans rfl, (h.lf.cell 0).trans rfl, (h.lf.cell 1).trans rfl, (h.vl.cell 0).trans rfl, (h.vv.cell 0).trans rfl, (h.vb.cell 0).trans rfl, (h.rs.cell 13).trans rfl, (h.rs.cell 27).trans rfl⟩
theorem Vis.f (h : Vis g n0 N ps x0 x1 o m W) : W.frozen? ⟨N, 0, none⟩ = false ∧ W.frozen? ⟨N + 1, 0, none⟩ = false ∧ W.frozen? ⟨N + 2, 0, none⟩ = false ∧ W.frozen? ⟨N + 2, 1, none⟩ = false := ⟨h.nx.frozen 0, h.ok.frozen 0, h.lf.frozen 0, h.lf.frozen 1⟩
end
set_option maxHeartbeats 4000000 in
set_option maxRecDepth 100000 in
/-- the first record: nothing is beneath it -/
theorem visit_first (g n0 N : Nat) (ps : Value) (w : World) (h : Vis g n0 N ps 0 1 true 0 w) :
    Calls Tryz.prog 60 (#[.int .i64 0] ++ caps_ n0 N) w fun e w' => e = .returned (.tuple #[]) ∧ Vis g n0 N ps 1 1 true 1 w' ∧ Fr (fun q => q = N ∨ q = N + 1 ∨ q = N + 2) w w' := by
  obtain ⟨c0, c1, c2, c3, c4, c5, c6, c7, c8⟩ := h.c
  obtain ⟨f0, f1, f2, f3⟩ := h.f
  obtain ⟨W1, hW1⟩ : ∃ W, w.setCell ⟨N + 2, 0, none⟩ (.int .u8 1) = W := ⟨_, rfl⟩
  obtain ⟨W2, hW2⟩ : ∃ W, W1.setCell ⟨N + 1, 0, none⟩ (.bool true) = W := ⟨_, rfl⟩
  obtain ⟨W3, hW3⟩ : ∃ W, W2.setCell ⟨N, 0, none⟩ (.int .i64 1) = W := ⟨_, rfl⟩
  have h1 := h.set0 1
  rw [hW1] at h1
  have h2 := h1.setOk true
  rw [hW2] at h2
  have h3 := h2.setNx 1
  rw [hW3] at h3
  obtain ⟨a0, a1, a2, a3, a4, a5, a6, a7, a8⟩ := h1.c
  obtain ⟨b0, b1, b2, b3, b4, b5, b6, b7, b8⟩ := h2.c
  obtain ⟨g0, g1, g2, g3⟩ := h1.f
  obtain ⟨k0, k1, k2, k3⟩ := h2.f
  have hf : Fr (fun q => q = N ∨ q = N + 1 ∨ q = N + 2) w W3 := by
    rw [← hW3, ← hW2, ← hW1]
    exact (((Fr.refl _ w).set (.inl (.inr (.inr rfl))) _).set (.inl (.inr (.inl rfl))) _).set (.inl (.inl rfl)) _
  have H3 := Aside0.mk h3
  have HF := Aside0.mk hf
  clear h h1 h2 h3 hf c1 c3 c5 c8 a2 a3 a5 a8 b1 b2 b3 b4 b5 b6 b7 b8
  unfold caps_
  go_enter Tryz.func60, Tryz.ntmps60
  go_wp2_with (fail)
  clear c0 c2 c4 c6 c7 f0 f1 f2 f3 hW1
  go_loopg [19] 0 (fun kq v19 wr => v19 = .int .i64 0 ∧ kq = 0 ∧ wr = W1)
  case atStart => exact ⟨rfl, rfl, rfl⟩
  case round =>
    obtain ⟨rfl, rfl, rfl⟩ := hrel
    go_wp2_with (fail)
    go_end0
    exact ⟨rfl, H3.out, HF.out⟩
set_option maxHeartbeats 4000000 in
set_option maxRecDepth 100000 in
/-- the second record, no parts: it isn't the next one -/
theorem visit_alone (g n0 N : Nat) (w : World) (h : Vis g n0 N (.slice none 0 0) 0 0 true 0 w) :
    Calls Tryz.prog 60 (#[.int .i64 1] ++ caps_ n0 N) w fun e w' => e = .returned (.tuple #[]) ∧ Vis g n0 N (.slice none 0 0) 0 1 false 1 w' ∧ Fr (fun q => q = N ∨ q = N + 1 ∨ q = N + 2) w w' := by
  obtain ⟨c0, c1, c2, c3, c4, c5, c6, c7, c8⟩ := h.c
  obtain ⟨f0, f1, f2, f3⟩ := h.f
  obtain ⟨W1, hW1⟩ : ∃ W, w.setCell ⟨N + 2, 1, none⟩ (.int .u8 1) = W := ⟨_, rfl⟩
  obtain ⟨W2, hW2⟩ : ∃ W, W1.setCell ⟨N + 1, 0, none⟩ (.bool false) = W := ⟨_, rfl⟩
  obtain ⟨W3, hW3⟩ : ∃ W, W2.setCell ⟨N, 0, none⟩ (.int .i64 1) = W := ⟨_, rfl⟩
  have h1 := h.set1 1
  rw [hW1] at h1
  have h2 := h1.setOk false
  rw [hW2] at h2
  have h3 := h2.setNx 1
  rw [hW3] at h3
  obtain ⟨a0, a1, a2, a3, a4, a5, a6, a7, a8⟩ := h1.c
  obtain ⟨b0, b1, b2, b3, b4, b5, b6, b7, b8⟩ := h2.c
  obtain ⟨g0, g1, g2, g3⟩ := h1.f
  obtain ⟨k0, k1, k2, k3⟩ := h2.f
  have hf : Fr (fun q => q = N ∨ q = N + 1 ∨ q = N + 2) w W3 := by
    rw [← hW3, ← hW2, ← hW1]
    exact (((Fr.refl _ w).set (.inl (.inr (.inr rfl))) _).set (.inl (.inr (.inl rfl))) _).set (.inl (.inl rfl)) _
  have H3 := Aside0.mk h3
  have HF := Aside0.mk hf
  clear h h1 h2 h3 hf c1 c2 c5 c7 a2 a3 a5 a7 b1 b2 b3 b4 b5 b6 b7 b8
  unfold caps_
  go_enter Tryz.func60, Tryz.ntmps60
  go_wp2_with (fail)
  clear c0 c3 c4 c6 c8 f0 f1 f2 f3 hW1
  go_loopg [19] 0 (fun kq v19 wr => v19 = .int .i64 0 ∧ kq = 0 ∧ wr = W1)
  case atStart => exact ⟨rfl, rfl, rfl⟩
  case round =>
    obtain ⟨rfl, rfl, rfl⟩ := hrel
    go_wp2_with (fail)
    go_end0
    exact ⟨rfl, H3.out, HF.out⟩
set_option maxHeartbeats 4000000 in
set_option maxRecDepth 100000 in
/-- the second record, the first one its part -/
theorem visit_both (g n0 N p : Nat) (w : World) (h : Vis g n0 N (.slice (some ⟨p, 0, none⟩) 1 1) 0 0 true 0 w) (hP : Blk w p 3 #[.int .i64 1]) (hp : p < N) :
    Calls Tryz.prog 60 (#[.int .i64 1] ++ caps_ n0 N) w fun e w' => e = .returned (.tuple #[]) ∧ Vis g n0 N (.slice (some ⟨p, 0, none⟩) 1 1) 1 1 true 2 w' ∧ Fr (fun q => q = N ∨ q = N + 1 ∨ q = N + 2) w w' := by
  obtain ⟨c0, c1, c2, c3, c4, c5, c6, c7, c8⟩ := h.c
  obtain ⟨f0, f1, f2, f3⟩ := h.f
  obtain ⟨W1, hW1⟩ : ∃ W, w.setCell ⟨N + 2, 1, none⟩ (.int .u8 1) = W := ⟨_, rfl⟩
  have h1 := h.set1 1
  rw [hW1] at h1
  obtain ⟨a0, a1, a2, a3, a4, a5, a6, a7, a8⟩ := h1.c
  obtain ⟨g0, g1, g2, g3⟩ := h1.f
  have hp1 : W1.cell? ⟨p, 0, none⟩ = some (.int .i64 1) := by rw [← hW1]; exact ((hP.far (by simp; omega) _).cell 0).trans rfl
  have hf1 : Fr (fun q => q = N ∨ q = N + 1 ∨ q = N + 2) w W1 := by
    rw [← hW1]
    exact (Fr.refl _ w).set (.inl (.inr (.inr rfl))) _
  have HV := Aside0.mk (visit_first g n0 N _ W1 h1)
  have HF1 := Aside0.mk hf1
  clear h h1 hf1 c1 c2 c5 c7 a3 a7 hP
  unfold caps_
  go_enter Tryz.func60, Tryz.ntmps60
  go_wp2_with (fail)
  clear c0 c3 c4 c6 c8 f0 f1 f2 f3 hW1
  go_loopg [19] 1 (fun kq v19 wr => (kq = 1 ∧ v19 = .int .i64 0 ∧ wr = W1) ∨ (kq = 0 ∧ v19 = .int .i64 1 ∧ Aside0 (Vis g n0 N (.slice (some ⟨p, 0, none⟩) 1 1) 1 1 true 1 wr) ∧ Aside0 (Fr (fun q => q = N ∨ q = N + 1 ∨ q = N + 2) w wr)))
  case atStart => exact .inl ⟨rfl, rfl, rfl⟩
  case round =>
    rcases hrel with ⟨rfl, rfl, rfl⟩ | ⟨rfl, rfl, HV2, HF2⟩
    · go_wp2_with (go_at_call 60; (with_reducible refine HV.out.mono ?_))
      rintro e w5 ⟨rfl, hv, hf⟩
      have HV5 := Aside0.mk hv
      have HF5 := Aside0.mk (HF1.out.trans hf (fun k hk => .inl hk))
      clear hv hf a0 a1 a2 a4 a5 a6 a8 g0 g1 g2 g3 hp1
      go_wp2_with (fail)
      go_roundg 0
      case measure => omega
      case rel => exact .inr ⟨rfl, rfl, HV5, HF5⟩
    · obtain ⟨d0, d1, d2, d3, d4, d5, d6, d7, d8⟩ := HV2.out.c
      obtain ⟨l0, l1, l2, l3⟩ := HV2.out.f
      have h5 := HV2.out.setOk true
      have h6 := h5.setNx 2
      obtain ⟨b0, b1, b2, b3, b4, b5, b6, b7, b8⟩ := h5.c
      obtain ⟨k0, k1, k2, k3⟩ := h5.f
      have H6 := Aside0.mk h6
      have HF6 := Aside0.mk ((HF2.out.set (p := ⟨N + 1, 0, none⟩) (.inl (.inr (.inl rfl))) (.bool true)).set (p := ⟨N, 0, none⟩) (.inl (.inl rfl)) (.int .i64 2))
      clear h5 h6 d2 d3 d4 d5 d6 d7 d8 b1 b2 b3 b4 b5 b6 b7 b8 a0 a1 a2 a4 a5 a6 a8 g0 g1 g2 g3 hp1
      go_wp2_with (fail)
      go_end0
      exact ⟨rfl, H6.out, HF6.out⟩
end Go.Proofs.YtoplgeajolonoaaGreatDoor.PK
