/- Enter2 Once OnceV Bytes -/
import Derived.Test.YtlggimmfaflfnaaGreatDoorM33
import Derived.Laws.Tables
import Derived.Deep.RegionHeld3
import Derived.BigQuiet
import Derived.Deep.RegionLaw
import Derived.Maps.OwnSet
import Derived.Test.YtlggimmfaflfnaaGreatDoorM32
import Derived.Deep.LoopGhost
import Derived.Laws.ResultCell
import Derived.Test.YtlggimmfaflfnaaGreatDoorM1
import Derived.Test.YtlggimmfaflfnaaGreatDoorM3
import Derived.Laws.AppendOwn
section
/- registry.Enter of a row whose name is taken. -/
set_option linter.unusedVariables false
set_option linter.unusedSimpArgs false
namespace Go.Proofs.YtlggimmfaflfnaaGreatDoor.PK
open Go.RowKit Go.Maps Go.Proofs.YtlggimmfaflfnaaGreatDoorW.PrintWords Go.Proofs.YtlggimmfaflfnaaGreatDoorW.PrintMore Go.Proofs.YtlggimmfaflfnaaGreatDoor.TF Go.MuLone

set_option maxRecDepth 100000 in
set_option maxHeartbeats 8000000 in
theorem enter_taken (B g m n : Nat) (v vt : Value) (R T : List Row3) (D : DataW Nat) (r : Row3) (w : World) (h : Roll B g m n v vt R T D w) (hB : B ≤ w.heap.size) (h1 : r.name.toList.isEmpty = false) (h2 : r.name.size ≤ 4096) (h3 : 1 ≤ r.kind) (h4 : r.kind ≤ 26) (h5 : T.length < 1000) (hnew : has D (.string r.name.data.toList) = true) :
    Calls Tryz.prog 47 #[.pointer (some ⟨g, 0, none⟩), .agg #[.string r.name, .int .u8 r.kind, .int .u32 r.faces]] w fun e w' => e = .returned (.int .i64 171) ∧ ∃ v', Roll B g m n v v' R (T ++ [r]) D w' ∧ Below B w w' ∧ Keep3 w w' := by
  have e2 : ¬ ((4096 : Int) < (r.name.size : Int)) := by omega
  have e3 : ¬ (r.kind < 1) := by omega
  have e4 : ¬ (26 < r.kind) := by omega
  obtain ⟨nm, k, f⟩ := r
  simp only at *
  obtain ⟨V0, hV0⟩ : ∃ V, w.alloc (.cells #[.string nm, .int .u8 k, .int .u32 f] 116) = V := ⟨_, rfl⟩
  have hx := Blk.new w 116 #[.string nm, .int .u8 k, .int .u32 f]
  have b0 := (Below.refl w.heap.size w).alloc (Nat.le_refl _) (.cells #[.string nm, .int .u8 k, .int .u32 f] 116)
  rw [hV0] at hx b0
  have hg0 := h.head.next b0
  have c0 : V0.cell? ⟨g, 0, none⟩ = some (.int .i32 0) := (hg0.cell 0).trans rfl
  have f0 := hg0.frozen 0
  have hgl := h.head.lt
  obtain ⟨V1, hV1⟩ : ∃ V, V0.setCell ⟨g, 0, none⟩ (.int .i32 1) = V := ⟨_, rfl⟩
  have hg1 := hg0.set_ 0 (.int .i32 1)
  rw [hV1] at hg1
  have hx1 := hx.far (p := ⟨g, 0, none⟩) (by simp; omega) (.int .i32 1)
  rw [hV1] at hx1
  have hLk := lock_free Tryz.muLib ⟨g, 0, none⟩ V0 c0 f0
  rw [hV1] at hLk
  have HLk := Aside0.mk hLk
  obtain ⟨c5, c6, c7, c8⟩ : V1.cell? ⟨g, 5, none⟩ = some v ∧ V1.cell? ⟨g, 6, none⟩ = some (.map (some m)) ∧ V1.cell? ⟨g, 7, none⟩ = some vt ∧ V1.cell? ⟨g, 8, none⟩ = some (.int .i64 0) := ⟨(hg1.cell 5).trans rfl, (hg1.cell 6).trans rfl, (hg1.cell 7).trans rfl, (hg1.cell 8).trans rfl⟩
  obtain ⟨x0, x1, x2⟩ : V1.cell? ⟨w.heap.size, 0, none⟩ = some (.string nm) ∧ V1.cell? ⟨w.heap.size, 1, none⟩ = some (.int .u8 k) ∧ V1.cell? ⟨w.heap.size, 2, none⟩ = some (.int .u32 f) := ⟨(hx1.cell 0).trans rfl, (hx1.cell 1).trans rfl, (hx1.cell 2).trans rfl⟩
  have H := Aside0.mk h
  have hkey := WideMaps.keyOf_string_mk (P := Tryz.prog) Tryz.underlying9 (s := nm) (Nat.le_trans h2 (by unfold maxLen; omega))
  have HM : Aside0 (V1.drew.ownsMap Tryz.prog 9 (plainElem Tryz.prog 3) m n D) := Aside0.mk (by
    rw [← hV1, ← hV0]
    exact ((h.map.kept (row := none) (World.grownBy_alloc _ _ _) (by simp)).setCell (a := ⟨g, 0, none⟩) h.ne _).drew)
  have HX1 := Aside0.mk hx1
  have HG1 := Aside0.mk hg1
  clear h hx b0 hg0 hx1 hg1 hLk c0 f0
  go_enter_defers Tryz.func47, Tryz.ntmps47
  go_wp2_with (go_at_call 83; (with_reducible refine HLk.out.mono ?_); rintro e V1 ⟨rfl, rfl⟩)
  have M1 : V1.drew.ownsMap Tryz.prog 9 (plainElem Tryz.prog 3) m n D := HM.out
  obtain ⟨cL, hlk⟩ : ∃ c, (Instr.lookup 172 (.map (some m)) (.string nm) true).run Tryz.prog V1.drew = .ok (.tuple #[.int .i64 c, .bool true]) V1.drew := by
    obtain ⟨v, ps, hr, hv⟩ := M1.look_ok str_keyed Tryz.underlying172 (int_zero _) (plainElem_int Tryz.underlying3 (a := 0) (by decide)) hkey
    obtain ⟨c, rfl, _⟩ := plainElem_int_inv Tryz.underlying3 hv
    exact ⟨c, by rw [hnew] at hr; exact hr⟩
  have d6 : V1.drew.cell? ⟨g, 6, none⟩ = some (.map (some m)) := by go_simp
  have dx : V1.drew.cell? ⟨w.heap.size, 0, none⟩ = some (.string nm) := by go_simp
  clear M1
  go_region_held3 (fun W => W = V1.drew) (first | rfl | assumption) (fail)
  clear hlk d6 dx c5 c6 c7 c8 x0 x1 x2
  obtain ⟨V2, hV2⟩ : ∃ V, V1.drew = V := ⟨_, rfl⟩
  have HG2 := Aside0.mk (HG1.out.next (show Below V1.heap.size V1 V2 from hV2 ▸ (Below.refl _ V1).drew))
  have HX2 := Aside0.mk (HX1.out.next (show Below V1.heap.size V1 V2 from hV2 ▸ (Below.refl _ V1).drew))
  rw [hV2] at HM ⊢
  go_upto_region 13 with (fail)
  obtain ⟨Av, cv, rfl⟩ := TF.own_slice H.out.taken
  have hlen : T.length ≤ maxLen := (own_ok H.out.taken).1
  have hfr : Fr (fun q => q = g ∨ q = m) w V2 := by
    have h0 := (((Fr.refl (fun q => q = g ∨ q = m) w).alloc (.cells #[.string nm, .int .u8 k, .int .u32 f] 116)).set (p := ⟨g, 0, none⟩) (.inl (.inl rfl)) (.int .i32 1)).drew
    rw [hV0, hV1, hV2] at h0
    exact h0
  have HFR := Aside0.mk hfr
  clear hfr
  obtain ⟨i0, hi0, hz⟩ := Option.map_eq_some_iff.1 infoRow3
  simp only [Prod.mk.injEq] at hz
  obtain ⟨hz0, hz1, hz2⟩ := hz
  obtain ⟨z, hz3, hz4⟩ := Option.map_eq_some_iff.1 hz0
  have hinf : (Tryz.prog.info? 116).map (fun i => (i.zero, i.size, i.bytes)) = some (some z, 3, 24) := by rw [hi0, Option.map_some, hz3, hz1, hz2]
  have HINF := Aside0.mk (And.intro hinf hz4)
  obtain ⟨hr1, hr2⟩ : (∀ q, (Value.slice Av T.length cv).ownBlock = some q → q < w.heap.size ∧ q ≠ g ∧ q ≠ m) ∧ V2.ownsRow B 116 3 (.slice Av T.length cv) T.length (T.flatMap Row3.cells) := by
    have hng := TF.own_blk_ne H.out.taken H.out.head (by decide)
    have hnm := map_not_own H.out.taken H.out.map
    refine ⟨fun q hq => ⟨(H.out.taken.lt q hq).2, fun e => hng (e ▸ hq), fun e => hnm (e ▸ hq)⟩, TF.own_fr H.out.taken HFR.out (fun q hq hs => ?_)⟩
    rcases hs with rfl | rfl
    · exact hng hq
    · exact hnm hq
  have hBV : B ≤ V2.drew.heap.size := by have := HX2.out.lt; have hs : V2.drew.heap.size = V2.heap.size := rfl; omega
  have HR1 := Aside0.mk hr1
  have bd : Below V2.heap.size V2 V2.drew := (Below.refl _ V2).drew
  have OD := Aside0.mk (TF.own_next hr2 bd)
  have ba : Below V2.heap.size V2 (V2.alloc (.cells #[.string nm, .int .u8 k, .int .u32 f] 116)).drew := ((Below.refl _ V2).alloc (Nat.le_refl _) _).drew
  have gd := HG2.out.next bd
  have ga := HG2.out.next ba
  have xd := HX2.out.next bd
  have xa := HX2.out.next ba
  obtain ⟨c0, c1, c2, c3⟩ : V2.drew.cell? ⟨g, 7, none⟩ = some (.slice Av T.length cv) ∧ V2.drew.cell? ⟨w.heap.size, 0, none⟩ = some (.string nm) ∧ V2.drew.cell? ⟨w.heap.size, 1, none⟩ = some (.int .u8 k) ∧ V2.drew.cell? ⟨w.heap.size, 2, none⟩ = some (.int .u32 f) := ⟨(gd.cell 7).trans rfl, (xd.cell 0).trans rfl, (xd.cell 1).trans rfl, (xd.cell 2).trans rfl⟩
  obtain ⟨a0, a1, a2, a3⟩ : (V2.alloc (.cells #[.string nm, .int .u8 k, .int .u32 f] 116)).drew.cell? ⟨g, 7, none⟩ = some (.slice Av T.length cv) ∧ (V2.alloc (.cells #[.string nm, .int .u8 k, .int .u32 f] 116)).drew.cell? ⟨w.heap.size, 0, none⟩ = some (.string nm) ∧ (V2.alloc (.cells #[.string nm, .int .u8 k, .int .u32 f] 116)).drew.cell? ⟨w.heap.size, 1, none⟩ = some (.int .u8 k) ∧ (V2.alloc (.cells #[.string nm, .int .u8 k, .int .u32 f] 116)).drew.cell? ⟨w.heap.size, 2, none⟩ = some (.int .u32 f) := ⟨(ga.cell 7).trans rfl, (xa.cell 0).trans rfl, (xa.cell 1).trans rfl, (xa.cell 2).trans rfl⟩
  have hone1 : ∀ u ∈ [Value.string nm, .int .u8 k, .int .u32 f], u.oneCell' = true := by
    intro u hu
    simp only [List.mem_cons, List.not_mem_nil, or_false] at hu
    rcases hu with rfl | rfl | rfl <;> rfl
  have HON := Aside0.mk hone1
  have HHG := HG2
  clear hi0 hz0 hz1 hz2 hz3 hz4 hinf bd ba gd ga xd xa hone1 hr1 hr2
  refine wp_region_noPanic ?_
  go_region_law (first | (refine step_append_cells (w0 := V2.drew) (W := V2.drew) B (by rfl) (.tmp 56) (.tmp 58) 184 116 z 3 24 (by rfl) Tryz.underlying184 HINF.out.1 HINF.out.2 (by decide) (by decide) (.slice Av T.length cv) T.length (T.flatMap Row3.cells) [.string nm, .int .u8 k, .int .u32 f] (by rfl) (by rfl) rfl HON.out OD.out (Below.refl _ _) (by assumption) (by have := h5; omega) ?_; intro v1 w1 ho1 hb1 hg1 hat1; obtain ⟨A1, c1', rfl⟩ := TF.own_slice ho1; have fr1 := ((Fr.refl (fun q => (Value.slice Av T.length cv).ownBlock = some q) V2).drew).grown hg1 (fun q hq => .inl hq); have n1 := HHG.out.fr fr1 (fun he => (HR1.out _ he).2.1 rfl); have kb : w1.cell? ⟨g, 7, none⟩ = some (.slice Av T.length cv) := (n1.cell 7).trans rfl; have fk := n1.frozen 7; have N1 := Aside0.mk n1; clear n1))
  all_goals (
    refine NoPanic.normal ?_
    obtain ⟨hend, hbel, hl1, hl2, hk3⟩ := enter_end2 (r := ⟨nm, k, f⟩) H.out hB HFR.out HG2.out HM.out ho1 hg1 hat1
    have HE := Aside0.mk (And.intro hend (And.intro hbel hk3))
    clear hend hbel hk3 ho1 hb1 hg1 hat1 kb fk c0 c1 c2 c3 a0 a1 a2 a3
    go_wp2_with (fail)
    refine leaves_cons (f := 84) (args := #[.pointer (some ⟨g, 0, none⟩)]) (by simp) (by simp [go_sem]) ?_
    refine (unlock_deferred Tryz.muLib ⟨g, 0, none⟩ .returning _ hl1 hl2).mono ?_
    rintro e u' w'' ⟨rfl, rfl, rfl⟩
    refine ⟨_, results_tmp rfl _ _ _, ?_⟩
    exact ⟨rfl, ⟨_, HE.out.1⟩, HE.out.2⟩)
end Go.Proofs.YtlggimmfaflfnaaGreatDoor.PK
end
section
/- The registry: sync.Once about the closure, freeze, Of where there are no rows. -/
set_option linter.unusedVariables false
set_option linter.unusedSimpArgs false
namespace Go.Proofs.YtlggimmfaflfnaaGreatDoor.PK
open Go.RowKit Go.Proofs.YtlggimmfaflfnaaGreatDoorW.PrintWords Go.Proofs.YtlggimmfaflfnaaGreatDoorW.PrintMore Go.Proofs.YtlggimmfaflfnaaGreatDoor.TF Go.MuLone

/-- a registry's cells when it has been frozen -/
def reg1 (m : Nat) : Array Value := #[.int .i32 0, .int .u32 0, .int .u32 1, .int .i32 0, .int .u32 0, .slice none 0 0, .map (some m), .slice none 0 0, .int .i64 1]
theorem bool_load (a : Addr) (w : World) (h0 : w.cell? a = some (.int .u32 0)) :
    Calls Tryz.prog 138 #[.pointer (some a)] w fun e w' => e = .returned (.bool false) ∧ w' = w := by
  have hl := run_call_load (P := Tryz.prog) Tryz.func174 (by kernel_rfl) (by kernel_rfl) (by kernel_rfl) .u32 (by kernel_rfl) h0
  go_enter Tryz.func138, Tryz.ntmps138
  go_wp2
  go_ret
  exact ⟨rfl, rfl⟩
end Go.Proofs.YtlggimmfaflfnaaGreatDoor.PK
end
section
/- freeze of a registry with any rows. -/
set_option linter.unusedVariables false
set_option linter.unusedSimpArgs false
namespace Go.Proofs.YtlggimmfaflfnaaGreatDoor.PK
open Go.RowKit Go.Proofs.YtlggimmfaflfnaaGreatDoorW.PrintWords Go.Proofs.YtlggimmfaflfnaaGreatDoorW.PrintMore Go.Proofs.YtlggimmfaflfnaaGreatDoor.TF Go.MuLone
/-- a registry's cells, frozen once -/
def regF (v vt : Value) (m : Nat) : Array Value := #[.int .i32 0, .int .u32 0, .int .u32 1, .int .i32 0, .int .u32 0, v, .map (some m), vt, .int .i64 1]
theorem slow_full (g m : Nat) (v vt : Value) (pl : Addr) (w : World) (hp : w.cell? pl = some (.pointer (some ⟨g, 0, none⟩))) (h : Blk w g 186 (regOf 0 v vt m)) (hne : ¬ g = pl.block) :
    Calls Tryz.prog 139 #[.pointer (some ⟨g, 2, none⟩), .func (.func 105) #[] #[.pointer (some pl)]] w fun e w' => e = .returned (.tuple #[]) ∧ Blk w' g 186 (regF v vt m) ∧ Fr (fun q => q = g) w w' := by
  have c3 : w.cell? ⟨g, 3, none⟩ = some (.int .i32 0) := (h.cell 3).trans rfl
  have f3 := h.frozen 3
  have f2 := h.frozen 2
  have h1 := h.set_ 3 (.int .i32 1)
  have c2 : (w.setCell ⟨g, 3, none⟩ (.int .i32 1)).cell? ⟨g, 2, none⟩ = some (.int .u32 0) := (h1.cell 2).trans rfl
  have p1 : (w.setCell ⟨g, 3, none⟩ (.int .i32 1)).cell? pl = some (.pointer (some ⟨g, 0, none⟩)) := (World.cell?_setCell_other _ ⟨g, 3, none⟩ pl _ (fun h => hne (by rw [← h]))).trans hp
  have h4 := ((h1.set_ 0 (.int .i32 1)).set_ 8 (.int .i64 1)).set_ 0 (.int .i32 0)
  have HL := Aside0.mk (bool_load ⟨g, 2, none⟩ _ c2)
  have HF := Aside0.mk (freeze_own g _ pl _ p1 h1 hne rfl rfl)
  have hnot : ∀ (x : Bool) (w : World), (Op.unary .not (.bool x)).run Tryz.prog w = .ok (.bool (!x)) w := fun _ _ => rfl
  have H := Aside0.mk h
  have H4 := Aside0.mk h4
  clear h h1 h4
  go_enter_defers Tryz.func139, Tryz.ntmps139
  go_wp2_with (first
    | (go_at_call 83; refine (lock_free Tryz.muLib ⟨g, 3, none⟩ _ c3 f3).mono ?_; rintro e w' ⟨rfl, rfl⟩)
    | (go_at_call 138; (with_reducible refine HL.out.mono ?_); rintro e w' ⟨rfl, rfl⟩)
    | (go_at_call 105; (with_reducible refine HF.out.mono ?_); rintro e w' ⟨rfl, rfl⟩))
  refine leaves_cons (f := 175) (args := #[.pointer (some ⟨g, 2, none⟩), .bool true]) (by simp) (by simp [go_sem]) ?_
  refine (store_deferred ⟨g, 2, none⟩ (.int .u32 0) .returning _ ((H4.out.cell 2).trans rfl) (H4.out.frozen 2)).mono ?_
  rintro e u' w'' ⟨rfl, rfl, rfl⟩
  have h5 := (H4.out.next (Below.refl _ _).drew).set_ 2 (.int .u32 1)
  refine leaves_cons (f := 84) (args := #[.pointer (some ⟨g, 3, none⟩)]) (by simp [settle]) (by simp [go_sem]) ?_
  refine (unlock_deferred Tryz.muLib ⟨g, 3, none⟩ _ _ ((h5.cell 3).trans rfl) (h5.frozen 3)).mono ?_
  rintro e u' w'' ⟨rfl, rfl, rfl⟩
  have hfr := (((((((Fr.refl (fun q => q = g) w).set (p := ⟨g, 3, none⟩) (.inl rfl) (.int .i32 1)).set (p := ⟨g, 0, none⟩) (.inl rfl) (.int .i32 1)).set (p := ⟨g, 8, none⟩) (.inl rfl) (.int .i64 1)).set (p := ⟨g, 0, none⟩) (.inl rfl) (.int .i32 0)).drew).set (p := ⟨g, 2, none⟩) (.inl rfl) (.int .u32 1)).set (p := ⟨g, 3, none⟩) (.inl rfl) (.int .i32 0)
  have HFr := Aside0.mk hfr
  have HL5 := Aside0.mk (h5.set_ 3 (.int .i32 0))
  clear hfr h5
  exact ⟨_, results_none rfl _ _ _, rfl, HL5.out, HFr.out⟩
theorem once_full (g m : Nat) (v vt : Value) (pl : Addr) (w : World) (hp : w.cell? pl = some (.pointer (some ⟨g, 0, none⟩))) (h : Blk w g 186 (regOf 0 v vt m)) (hne : ¬ g = pl.block) :
    Calls Tryz.prog 104 #[.pointer (some ⟨g, 2, none⟩), .func (.func 105) #[] #[.pointer (some pl)]] w fun e w' => e = .returned (.tuple #[]) ∧ Blk w' g 186 (regF v vt m) ∧ Fr (fun q => q = g) w w' := by
  have c2 : w.cell? ⟨g, 2, none⟩ = some (.int .u32 0) := (h.cell 2).trans rfl
  have hnot : ∀ (x : Bool) (w : World), (Op.unary .not (.bool x)).run Tryz.prog w = .ok (.bool (!x)) w := fun _ _ => rfl
  have HL := Aside0.mk (bool_load ⟨g, 2, none⟩ _ c2)
  have HS := Aside0.mk (slow_full g m v vt pl w hp h hne)
  clear h
  go_enter Tryz.func104, Tryz.ntmps104
  go_wp2_with (first
    | (go_at_call 138; (with_reducible refine HL.out.mono ?_); rintro e w' ⟨rfl, rfl⟩)
    | (go_at_call 139; (with_reducible refine HS.out.mono ?_)))
  rintro e w' ⟨rfl, hf⟩
  have HF := Aside0.mk hf
  clear hf
  go_wp2
  go_end0
  exact ⟨rfl, HF.out⟩
theorem freeze_full (g m : Nat) (v vt : Value) (w : World) (h : Blk w g 186 (regOf 0 v vt m)) :
    Calls Tryz.prog 50 #[.pointer (some ⟨g, 0, none⟩)] w fun e w' => e = .returned (.tuple #[]) ∧ Blk w' g 186 (regF v vt m) ∧ Fr (fun q => q = g) w w' := by
  have hmf : ∀ (fn : Fn) (first cap : Array Value) (w : World), (Instr.makeFunc fn first cap).run Tryz.prog w = .ok (.func fn first cap) w := fun _ _ _ _ => rfl
  have hb := (Below.refl w.heap.size w).alloc (Nat.le_refl _) (.cells #[.pointer (some ⟨g, 0, none⟩)] 62)
  have h1 := h.next hb
  have hn := Blk.new w 62 #[.pointer (some ⟨g, 0, none⟩)]
  have hlt := h.lt
  have HD := Aside0.mk (once_full g m v vt ⟨w.heap.size, 0, none⟩ _ ((hn.cell 0).trans rfl) h1 (by simp; omega))
  have HB := Aside0.mk hb
  clear h h1 hn hb
  go_enter Tryz.func50, Tryz.ntmps50
  go_wp2_with (go_at_call 104; (with_reducible refine HD.out.mono ?_))
  rintro e w' ⟨rfl, hr, hf⟩
  have HF := Aside0.mk ((Fr.of (S := fun q => q = g) HB.out).trans hf (fun k hk => .inl hk))
  have HR := Aside0.mk hr
  clear hr hf
  go_wp2
  go_end0
  exact ⟨rfl, HR.out, HF.out⟩
end Go.Proofs.YtlggimmfaflfnaaGreatDoor.PK
end
section
/- Bytes put behind bytes: short, text, float. -/
set_option linter.unusedVariables false
set_option linter.unusedSimpArgs false
namespace Go.Proofs.YtlggimmfaflfnaaGreatDoor.PK
open Go.RowKit Go.Proofs.YtlggimmfaflfnaaGreatDoorW.PrintWords Go.Proofs.YtlggimmfaflfnaaGreatDoorW.PrintMore Go.Proofs.YtlggimmfaflfnaaGreatDoor.TF

section
variable {P : Program}
end
/-- what is no row of bytes is as it was -/
def K8 (W V : World) : Prop := ∀ (k : Nat) (cs : Array Value) (t : TypeId) (fr : Nat × Nat), W.heap[k]? = some (Obj.cells cs t fr) → t ≠ 5 → V.heap[k]? = W.heap[k]?
theorem K8.refl (W : World) : K8 W W := fun _ _ _ _ _ _ => rfl
theorem K8.trans {W V U : World} (h : K8 W V) (h' : K8 V U) : K8 W U := fun k cs t fr hk ht => (h' k cs t fr ((h k cs t fr hk ht).trans hk) ht).trans (h k cs t fr hk ht)
theorem K8.below {W V : World} (h : Below W.heap.size W V) : K8 W V := fun k _ _ _ hk _ => h.block k (Array.getElem?_eq_some_iff.1 hk).1
theorem K8.grown {W V : World} {base n : Nat} {v : Value} {xs : List Value} (ho : W.ownsRow base 5 1 v n xs) (hg : W.grownBy V v.ownBlock) : K8 W V := by
  intro k cs t fr hk ht
  refine hg.block k (Array.getElem?_eq_some_iff.1 hk).1 (fun he => ?_)
  obtain ⟨cells, hc⟩ := own_typed ho he.symm
  rw [hk] at hc
  injection hc with hc
  injection hc with _ hc
  exact ht hc
theorem K8.blk {W V : World} {g : Nat} {t : TypeId} {cs : Array Value} (h : K8 W V) (hb : Blk W g t cs) (ht : t ≠ 5) : Blk V g t cs := (h g cs t (0, 0) hb ht).trans hb
theorem infoByte : (Tryz.prog.info? 5).map (fun i => (i.zero, i.size, i.bytes)) = some (some (.int .u8 0), 1, 1) := by kernel_rfl
/-- the world owns the row of bytes xs at v, above base -/
def B8 (base : Nat) (v : Value) (xs : List Int) (W : World) : Prop := W.ownsRow base 5 1 v xs.length (nums .u8 xs)
theorem B8.next {base : Nat} {v : Value} {xs : List Int} {W V : World} (h : B8 base v xs W) (hb : Below W.heap.size W V) : B8 base v xs V := own_next h hb
end Go.Proofs.YtlggimmfaflfnaaGreatDoor.PK
end
