/- KindsMake ItoaSeven -/
import Derived.Test.YtlggimmfaflfnaaGreatDoorM18
import Derived.BigQuiet
section
/- kinds.Make of a Code and of a Wrap. -/
set_option linter.unusedVariables false
set_option linter.unusedSimpArgs false
namespace Go.Proofs.YtlggimmfaflfnaaGreatDoor.TK
open Go.RowKit Go.Shelf Go.Proofs.YtlggimmfaflfnaaGreatDoorW.PrintWords Go.Proofs.YtlggimmfaflfnaaGreatDoorW.PrintMore Go.Proofs.YtlggimmfaflfnaaGreatDoor.TF Go.Proofs.YtlggimmfaflfnaaGreatDoor.TW

theorem hb_cell {m : Nat} {W V : World} {a : Addr} (h : Below m W V) (hl : a.block < m) : V.drew.cell? a = W.cell? a := by
  have := h.block a.block hl
  show World.cell? V a = _
  unfold World.cell?
  rw [this]
theorem leaf_code (nl : Bool) (t : ByteArray) (n sm : Int) (re im : Nat) (fl : Bool) (mk : Int) (A B : Option Addr) (l c l2 d : Nat) (w : World) :
    Calls Tryz.prog 151 #[spec 1 nl t n sm re im fl mk (.slice A l c) (.slice B l2 d)] w fun e w' => e = .returned (.iface 222 (.int .i16 n)) ∧ Below w.heap.size w w' := by
  unfold spec
  have hx := Blk.new w 37 #[.int .u8 1, .bool nl, .string t, .int .i16 n, .int .i8 sm, .float .f64 re, .float .f64 im, .bool fl, .int .u32 mk, .slice A l c, .slice B l2 d]
  have b0 : Below w.heap.size w (w.alloc (.cells #[.int .u8 1, .bool nl, .string t, .int .i16 n, .int .i8 sm, .float .f64 re, .float .f64 im, .bool fl, .int .u32 mk, .slice A l c, .slice B l2 d] 37)) := (Below.refl _ w).alloc (Nat.le_refl _) _
  obtain ⟨V0, hV0⟩ : ∃ V, w.alloc (.cells #[.int .u8 1, .bool nl, .string t, .int .i16 n, .int .i8 sm, .float .f64 re, .float .f64 im, .bool fl, .int .u32 mk, .slice A l c, .slice B l2 d] 37) = V := ⟨_, rfl⟩
  rw [hV0] at hx b0
  have c0 : V0.cell? ⟨w.heap.size, 0, none⟩ = some (.int .u8 1) := (hx.cell 0).trans rfl
  have c3 : V0.cell? ⟨w.heap.size, 3, none⟩ = some (.int .i16 n) := (hx.cell 3).trans rfl
  have HB := Aside0.mk b0
  clear hx b0
  go_enter Tryz.func151, Tryz.ntmps151
  go_wp2_with (fail)
  go_ret
  exact ⟨by kernel_rfl, HB.out⟩
theorem around_wrap (nl : Bool) (t : ByteArray) (n sm : Int) (re im : Nat) (fl : Bool) (mk : Int) (A B : Option Addr) (l c l2 d : Nat) (ty : TypeId) (x : Value) (w : World) :
    Calls Tryz.prog 149 #[spec 14 nl t n sm re im fl mk (.slice A l c) (.slice B l2 d), .iface ty x] w fun e w' => ∃ g, e = .returned (.iface 243 (.pointer (some ⟨g, 0, none⟩))) ∧ w.heap.size ≤ g ∧ Blk w' g 332 #[.string t, .iface ty x] ∧ Below w.heap.size w w' := by
  unfold spec
  have hx := Blk.new w 37 #[.int .u8 14, .bool nl, .string t, .int .i16 n, .int .i8 sm, .float .f64 re, .float .f64 im, .bool fl, .int .u32 mk, .slice A l c, .slice B l2 d]
  have b0 : Below w.heap.size w (w.alloc (.cells #[.int .u8 14, .bool nl, .string t, .int .i16 n, .int .i8 sm, .float .f64 re, .float .f64 im, .bool fl, .int .u32 mk, .slice A l c, .slice B l2 d] 37)) := (Below.refl _ w).alloc (Nat.le_refl _) _
  obtain ⟨V0, hV0⟩ : ∃ V, w.alloc (.cells #[.int .u8 14, .bool nl, .string t, .int .i16 n, .int .i8 sm, .float .f64 re, .float .f64 im, .bool fl, .int .u32 mk, .slice A l c, .slice B l2 d] 37) = V := ⟨_, rfl⟩
  rw [hV0] at hx b0
  have c0 : V0.cell? ⟨w.heap.size, 0, none⟩ = some (.int .u8 14) := (hx.cell 0).trans rfl
  have c2 : V0.cell? ⟨w.heap.size, 2, none⟩ = some (.string t) := (hx.cell 2).trans rfl
  have hn := Blk.new V0 332 #[.string t, .iface ty x]
  have HN := Aside0.mk hn
  have HB := Aside0.mk (b0.alloc b0.size (.cells #[.string t, .iface ty x] 332))
  have HS := Aside0.mk b0.size
  clear hx b0 hn
  go_enter Tryz.func149, Tryz.ntmps149
  go_wp2_with (fail)
  go_ret
  exact ⟨_, by kernel_rfl, HS.out, HN.out, HB.out⟩
theorem part_one (g c : Nat) (x : Value) (w : World) (hx : w.cell? ⟨g, 0, none⟩ = some x) :
    Calls Tryz.prog 147 #[.slice (some ⟨g, 0, none⟩) 1 c] w fun e w' => e = .returned x ∧ w' = w := by
  go_enter Tryz.func147, Tryz.ntmps147
  go_wp2
  go_ret
  exact ⟨rfl, rfl⟩
theorem kmake_code (t : ByteArray) (n sm : Int) (re im : Nat) (fl : Bool) (mk : Int) (A B E : Option Addr) (c d ec base : Nat) (its : List ByteArray) (w : World)
    (hI : w.ownsRow base 9 1 (.slice A its.length c) its.length (encs Value.string its)) (hi : its.length ≤ 65536) (hchk : chk 1 false t n sm re im fl mk its 0 = 0) :
    Calls Tryz.prog 108 #[spec 1 false t n sm re im fl mk (.slice A its.length c) (.slice B 0 d), .slice E 0 ec] w fun e w' => e = .returned (.tuple #[.iface 222 (.int .i16 n), .int .i64 0]) ∧ Below w.heap.size w w' := by
  have hcheck := fun W (hW : Below w.heap.size w W) => check_calls 1 false t n sm re im fl mk A B its.length c 0 d its W rfl (Kd.C_below (Kd.C_of_reads (own_reads_of' (d := ByteArray.empty) hI)) hW) (by omega)
  rw [hchk] at hcheck
  have HCh := Aside0.mk hcheck
  unfold spec at hcheck HCh ⊢
  clear hcheck
  have hx := Blk.new w 37 #[.int .u8 1, .bool false, .string t, .int .i16 n, .int .i8 sm, .float .f64 re, .float .f64 im, .bool fl, .int .u32 mk, .slice A its.length c, .slice B 0 d]
  have b0 : Below w.heap.size w (w.alloc (.cells #[.int .u8 1, .bool false, .string t, .int .i16 n, .int .i8 sm, .float .f64 re, .float .f64 im, .bool fl, .int .u32 mk, .slice A its.length c, .slice B 0 d] 37)) := (Below.refl _ w).alloc (Nat.le_refl _) _
  obtain ⟨V0, hV0⟩ : ∃ V, w.alloc (.cells #[.int .u8 1, .bool false, .string t, .int .i16 n, .int .i8 sm, .float .f64 re, .float .f64 im, .bool fl, .int .u32 mk, .slice A its.length c, .slice B 0 d] 37) = V := ⟨_, rfl⟩
  rw [hV0] at hx b0
  obtain ⟨c0, c1, c2, c3, c4, c5, c6, c7, c8, c9, c10⟩ : V0.cell? ⟨w.heap.size, 0, none⟩ = some (.int .u8 1) ∧ V0.cell? ⟨w.heap.size, 1, none⟩ = some (.bool false) ∧ V0.cell? ⟨w.heap.size, 2, none⟩ = some (.string t) ∧ V0.cell? ⟨w.heap.size, 3, none⟩ = some (.int .i16 n) ∧ V0.cell? ⟨w.heap.size, 4, none⟩ = some (.int .i8 sm) ∧ V0.cell? ⟨w.heap.size, 5, none⟩ = some (.float .f64 re) ∧ V0.cell? ⟨w.heap.size, 6, none⟩ = some (.float .f64 im) ∧ V0.cell? ⟨w.heap.size, 7, none⟩ = some (.bool fl) ∧ V0.cell? ⟨w.heap.size, 8, none⟩ = some (.int .u32 mk) ∧ V0.cell? ⟨w.heap.size, 9, none⟩ = some (.slice A its.length c) ∧ V0.cell? ⟨w.heap.size, 10, none⟩ = some (.slice B 0 d) := ⟨(hx.cell 0).trans rfl, (hx.cell 1).trans rfl, (hx.cell 2).trans rfl, (hx.cell 3).trans rfl, (hx.cell 4).trans rfl, (hx.cell 5).trans rfl, (hx.cell 6).trans rfl, (hx.cell 7).trans rfl, (hx.cell 8).trans rfl, (hx.cell 9).trans rfl, (hx.cell 10).trans rfl⟩
  have HX := Aside0.mk hx
  have HB := Aside0.mk b0
  clear hx b0 hI hchk
  go_enter Tryz.func108, Tryz.ntmps108
  go_wp2_with (go_at_call 106; (with_reducible refine (HCh.out _ HB.out).mono ?_))
  rintro e W1 ⟨rfl, h1⟩
  clear c0 c1 c2 c3 c4 c5 c6 c7 c8 c9 c10
  have hx1 := HX.out.next h1
  obtain ⟨c0, c1, c2, c3, c4, c5, c6, c7, c8, c9, c10⟩ : W1.cell? ⟨w.heap.size, 0, none⟩ = some (.int .u8 1) ∧ W1.cell? ⟨w.heap.size, 1, none⟩ = some (.bool false) ∧ W1.cell? ⟨w.heap.size, 2, none⟩ = some (.string t) ∧ W1.cell? ⟨w.heap.size, 3, none⟩ = some (.int .i16 n) ∧ W1.cell? ⟨w.heap.size, 4, none⟩ = some (.int .i8 sm) ∧ W1.cell? ⟨w.heap.size, 5, none⟩ = some (.float .f64 re) ∧ W1.cell? ⟨w.heap.size, 6, none⟩ = some (.float .f64 im) ∧ W1.cell? ⟨w.heap.size, 7, none⟩ = some (.bool fl) ∧ W1.cell? ⟨w.heap.size, 8, none⟩ = some (.int .u32 mk) ∧ W1.cell? ⟨w.heap.size, 9, none⟩ = some (.slice A its.length c) ∧ W1.cell? ⟨w.heap.size, 10, none⟩ = some (.slice B 0 d) := ⟨(hx1.cell 0).trans rfl, (hx1.cell 1).trans rfl, (hx1.cell 2).trans rfl, (hx1.cell 3).trans rfl, (hx1.cell 4).trans rfl, (hx1.cell 5).trans rfl, (hx1.cell 6).trans rfl, (hx1.cell 7).trans rfl, (hx1.cell 8).trans rfl, (hx1.cell 9).trans rfl, (hx1.cell 10).trans rfl⟩
  have HX1 := Aside0.mk hx1
  have HB1 := Aside0.mk (HB.out.trans (h1.mono HB.out.size))
  clear hx1 h1 HX HB HCh
  have HLf := Aside0.mk (leaf_code false t n sm re im fl mk A B its.length c 0 d)
  unfold spec at HLf
  go_wp2_with (go_at_call 151; (with_reducible refine (HLf.out _).mono ?_))
  rintro e W2 ⟨rfl, h2⟩
  have HB2 := Aside0.mk (HB1.out.trans (h2.mono HB1.out.size))
  clear h2 c0 c1 c2 c3 c4 c5 c6 c7 c8 c9 c10
  go_wp2_with (fail)
  go_ret2
  exact ⟨by kernel_rfl, HB2.out⟩
theorem kmake_wrap (t : ByteArray) (n sm : Int) (re im : Nat) (fl : Bool) (mk : Int) (A B : Option Addr) (c d ec g base : Nat) (its : List ByteArray) (ty : TypeId) (x : Value) (w : World)
    (hI : w.ownsRow base 9 1 (.slice A its.length c) its.length (encs Value.string its)) (hi : its.length ≤ 65536) (hchk : chk 14 false t n sm re im fl mk its 1 = 0) (hg : g < w.heap.size) (hE : w.cell? ⟨g, 0, none⟩ = some (.iface ty x)) :
    Calls Tryz.prog 108 #[spec 14 false t n sm re im fl mk (.slice A its.length c) (.slice B 1 d), .slice (some ⟨g, 0, none⟩) 1 ec] w fun e w' => ∃ b, e = .returned (.tuple #[.iface 243 (.pointer (some ⟨b, 0, none⟩)), .int .i64 0]) ∧ w.heap.size ≤ b ∧ Blk w' b 332 #[.string t, .iface ty x] ∧ Below w.heap.size w w' := by
  have hcheck := fun W (hW : Below w.heap.size w W) => check_calls 14 false t n sm re im fl mk A B its.length c 1 d its W rfl (Kd.C_below (Kd.C_of_reads (own_reads_of' (d := ByteArray.empty) hI)) hW) (by omega)
  rw [hchk] at hcheck
  have HCh := Aside0.mk hcheck
  unfold spec at hcheck HCh ⊢
  clear hcheck
  have hx := Blk.new w 37 #[.int .u8 14, .bool false, .string t, .int .i16 n, .int .i8 sm, .float .f64 re, .float .f64 im, .bool fl, .int .u32 mk, .slice A its.length c, .slice B 1 d]
  have b0 : Below w.heap.size w (w.alloc (.cells #[.int .u8 14, .bool false, .string t, .int .i16 n, .int .i8 sm, .float .f64 re, .float .f64 im, .bool fl, .int .u32 mk, .slice A its.length c, .slice B 1 d] 37)) := (Below.refl _ w).alloc (Nat.le_refl _) _
  obtain ⟨V0, hV0⟩ : ∃ V, w.alloc (.cells #[.int .u8 14, .bool false, .string t, .int .i16 n, .int .i8 sm, .float .f64 re, .float .f64 im, .bool fl, .int .u32 mk, .slice A its.length c, .slice B 1 d] 37) = V := ⟨_, rfl⟩
  rw [hV0] at hx b0
  obtain ⟨c0, c1, c2, c3, c4, c5, c6, c7, c8, c9, c10⟩ : V0.cell? ⟨w.heap.size, 0, none⟩ = some (.int .u8 14) ∧ V0.cell? ⟨w.heap.size, 1, none⟩ = some (.bool false) ∧ V0.cell? ⟨w.heap.size, 2, none⟩ = some (.string t) ∧ V0.cell? ⟨w.heap.size, 3, none⟩ = some (.int .i16 n) ∧ V0.cell? ⟨w.heap.size, 4, none⟩ = some (.int .i8 sm) ∧ V0.cell? ⟨w.heap.size, 5, none⟩ = some (.float .f64 re) ∧ V0.cell? ⟨w.heap.size, 6, none⟩ = some (.float .f64 im) ∧ V0.cell? ⟨w.heap.size, 7, none⟩ = some (.bool fl) ∧ V0.cell? ⟨w.heap.size, 8, none⟩ = some (.int .u32 mk) ∧ V0.cell? ⟨w.heap.size, 9, none⟩ = some (.slice A its.length c) ∧ V0.cell? ⟨w.heap.size, 10, none⟩ = some (.slice B 1 d) := ⟨(hx.cell 0).trans rfl, (hx.cell 1).trans rfl, (hx.cell 2).trans rfl, (hx.cell 3).trans rfl, (hx.cell 4).trans rfl, (hx.cell 5).trans rfl, (hx.cell 6).trans rfl, (hx.cell 7).trans rfl, (hx.cell 8).trans rfl, (hx.cell 9).trans rfl, (hx.cell 10).trans rfl⟩
  have HX := Aside0.mk hx
  have HB := Aside0.mk b0
  clear hx b0 hI hchk
  go_enter Tryz.func108, Tryz.ntmps108
  go_wp2_with (go_at_call 106; (with_reducible refine (HCh.out _ HB.out).mono ?_))
  rintro e W1 ⟨rfl, h1⟩
  clear c0 c1 c2 c3 c4 c5 c6 c7 c8 c9 c10
  have hx1 := HX.out.next h1
  obtain ⟨c0, c1, c2, c3, c4, c5, c6, c7, c8, c9, c10⟩ : W1.cell? ⟨w.heap.size, 0, none⟩ = some (.int .u8 14) ∧ W1.cell? ⟨w.heap.size, 1, none⟩ = some (.bool false) ∧ W1.cell? ⟨w.heap.size, 2, none⟩ = some (.string t) ∧ W1.cell? ⟨w.heap.size, 3, none⟩ = some (.int .i16 n) ∧ W1.cell? ⟨w.heap.size, 4, none⟩ = some (.int .i8 sm) ∧ W1.cell? ⟨w.heap.size, 5, none⟩ = some (.float .f64 re) ∧ W1.cell? ⟨w.heap.size, 6, none⟩ = some (.float .f64 im) ∧ W1.cell? ⟨w.heap.size, 7, none⟩ = some (.bool fl) ∧ W1.cell? ⟨w.heap.size, 8, none⟩ = some (.int .u32 mk) ∧ W1.cell? ⟨w.heap.size, 9, none⟩ = some (.slice A its.length c) ∧ W1.cell? ⟨w.heap.size, 10, none⟩ = some (.slice B 1 d) := ⟨(hx1.cell 0).trans rfl, (hx1.cell 1).trans rfl, (hx1.cell 2).trans rfl, (hx1.cell 3).trans rfl, (hx1.cell 4).trans rfl, (hx1.cell 5).trans rfl, (hx1.cell 6).trans rfl, (hx1.cell 7).trans rfl, (hx1.cell 8).trans rfl, (hx1.cell 9).trans rfl, (hx1.cell 10).trans rfl⟩
  have HX1 := Aside0.mk hx1
  have HB1 := Aside0.mk (HB.out.trans (h1.mono HB.out.size))
  clear hx1 h1 HX HB HCh
  have bd : Below W1.heap.size W1 W1.drew := (Below.refl _ W1).drew
  have nd := HX1.out.next bd
  have HAr := Aside0.mk (around_wrap false t n sm re im fl mk A B its.length c 1 d ty x W1.drew)
  have HPt := Aside0.mk (part_one g ec (.iface ty x) W1.drew ((hb_cell HB1.out hg).trans hE))
  unfold spec at HAr
  have hd : W1.drew.cell? ⟨w.heap.size, 0, none⟩ = some (.int .u8 14) ∧ W1.drew.cell? ⟨w.heap.size, 1, none⟩ = some (.bool false) ∧ W1.drew.cell? ⟨w.heap.size, 2, none⟩ = some (.string t) ∧ W1.drew.cell? ⟨w.heap.size, 3, none⟩ = some (.int .i16 n) ∧ W1.drew.cell? ⟨w.heap.size, 4, none⟩ = some (.int .i8 sm) ∧ W1.drew.cell? ⟨w.heap.size, 5, none⟩ = some (.float .f64 re) ∧ W1.drew.cell? ⟨w.heap.size, 6, none⟩ = some (.float .f64 im) ∧ W1.drew.cell? ⟨w.heap.size, 7, none⟩ = some (.bool fl) ∧ W1.drew.cell? ⟨w.heap.size, 8, none⟩ = some (.int .u32 mk) ∧ W1.drew.cell? ⟨w.heap.size, 9, none⟩ = some (.slice A its.length c) ∧ W1.drew.cell? ⟨w.heap.size, 10, none⟩ = some (.slice B 1 d) := ⟨(nd.cell 0).trans rfl, (nd.cell 1).trans rfl, (nd.cell 2).trans rfl, (nd.cell 3).trans rfl, (nd.cell 4).trans rfl, (nd.cell 5).trans rfl, (nd.cell 6).trans rfl, (nd.cell 7).trans rfl, (nd.cell 8).trans rfl, (nd.cell 9).trans rfl, (nd.cell 10).trans rfl⟩
  obtain ⟨d0, d1, d2, d3, d4, d5, d6, d7, d8, d9, d10⟩ := hd
  clear bd nd hE
  go_upto_region 24 with (fail)
  go_region_held3 (fun V => V.cell? ⟨w.heap.size, 0, none⟩ = some (.int .u8 14) ∧ V.cell? ⟨w.heap.size, 1, none⟩ = some (.bool false) ∧ V.cell? ⟨w.heap.size, 2, none⟩ = some (.string t) ∧ V.cell? ⟨w.heap.size, 3, none⟩ = some (.int .i16 n) ∧ V.cell? ⟨w.heap.size, 4, none⟩ = some (.int .i8 sm) ∧ V.cell? ⟨w.heap.size, 5, none⟩ = some (.float .f64 re) ∧ V.cell? ⟨w.heap.size, 6, none⟩ = some (.float .f64 im) ∧ V.cell? ⟨w.heap.size, 7, none⟩ = some (.bool fl) ∧ V.cell? ⟨w.heap.size, 8, none⟩ = some (.int .u32 mk) ∧ V.cell? ⟨w.heap.size, 9, none⟩ = some (.slice A its.length c) ∧ V.cell? ⟨w.heap.size, 10, none⟩ = some (.slice B 1 d)) (first | exact ⟨c0, c1, c2, c3, c4, c5, c6, c7, c8, c9, c10⟩ | exact ⟨d0, d1, d2, d3, d4, d5, d6, d7, d8, d9, d10⟩ | exact ⟨k0, k1, k2, k3, k4, k5, k6, k7, k8, k9, k10⟩ | go_keep) (first | (go_at_call 147; refine HPt.out.mono ?_; rintro e w3 ⟨rfl, rfl⟩) | (go_at_call 149; refine HAr.out.mono ?_; rintro e w3 ⟨b, rfl, hb, hB, h3⟩; have x3 := (HX1.out.next (Below.refl _ W1).drew).next h3; obtain ⟨k0, k1, k2, k3, k4, k5, k6, k7, k8, k9, k10⟩ : w3.cell? ⟨w.heap.size, 0, none⟩ = some (.int .u8 14) ∧ w3.cell? ⟨w.heap.size, 1, none⟩ = some (.bool false) ∧ w3.cell? ⟨w.heap.size, 2, none⟩ = some (.string t) ∧ w3.cell? ⟨w.heap.size, 3, none⟩ = some (.int .i16 n) ∧ w3.cell? ⟨w.heap.size, 4, none⟩ = some (.int .i8 sm) ∧ w3.cell? ⟨w.heap.size, 5, none⟩ = some (.float .f64 re) ∧ w3.cell? ⟨w.heap.size, 6, none⟩ = some (.float .f64 im) ∧ w3.cell? ⟨w.heap.size, 7, none⟩ = some (.bool fl) ∧ w3.cell? ⟨w.heap.size, 8, none⟩ = some (.int .u32 mk) ∧ w3.cell? ⟨w.heap.size, 9, none⟩ = some (.slice A its.length c) ∧ w3.cell? ⟨w.heap.size, 10, none⟩ = some (.slice B 1 d) := ⟨(x3.cell 0).trans rfl, (x3.cell 1).trans rfl, (x3.cell 2).trans rfl, (x3.cell 3).trans rfl, (x3.cell 4).trans rfl, (x3.cell 5).trans rfl, (x3.cell 6).trans rfl, (x3.cell 7).trans rfl, (x3.cell 8).trans rfl, (x3.cell 9).trans rfl, (x3.cell 10).trans rfl⟩))
  have H3 := Aside0.mk (And.intro hb (And.intro hB h3))
  clear hb hB h3 x3 c0 c1 c2 c3 c4 c5 c6 c7 c8 c9 c10 d0 d1 d2 d3 d4 d5 d6 d7 d8 d9 d10 k0 k1 k2 k3 k4 k5 k6 k7 k8 k9 k10
  go_wp2_with (fail)
  go_ret2
  exact ⟨b, by kernel_rfl, Nat.le_trans HB1.out.size H3.out.1, H3.out.2.1, HB1.out.trans ((show Below W1.heap.size W1 w3 from (Below.refl _ W1).drew.trans H3.out.2.2).mono HB1.out.size)⟩
end Go.Proofs.YtlggimmfaflfnaaGreatDoor.TK
end
section
/- strconv.Itoa(7). -/
set_option linter.unusedVariables false
set_option linter.unusedSimpArgs false
namespace Go.Proofs.YtlggimmfaflfnaaGreatDoor.TK
open Go.RowKit Go.Shelf Go.Proofs.YtlggimmfaflfnaaGreatDoorW.PrintWords Go.Proofs.YtlggimmfaflfnaaGreatDoorW.PrintMore Go.Proofs.YtlggimmfaflfnaaGreatDoor.TF Go.Proofs.YtlggimmfaflfnaaGreatDoor.TW

theorem small_seven (w : World) : Calls Tryz.prog 226 #[.int .i64 7] w fun e w' => e = .returned (.string ⟨#[55]⟩) ∧ w' = w := by
  go_enter Tryz.func226, Tryz.ntmps226
  go_wp2
  go_ret
  exact ⟨by kernel_rfl, rfl⟩
theorem formatInt_seven (w : World) : Calls Tryz.prog 213 #[.int .i64 7, .int .i64 10] w fun e w' => e = .returned (.string ⟨#[55]⟩) ∧ w' = w := by
  go_enter Tryz.func213, Tryz.ntmps213
  go_wp2_with (go_at_call 226; (with_reducible refine (small_seven _).mono ?_); rintro e w' ⟨rfl, rfl⟩)
  go_ret
  exact ⟨by kernel_rfl, rfl⟩
theorem itoa_seven0 (w : World) : Calls Tryz.prog 181 #[.int .i64 7] w fun e w' => e = .returned (.string ⟨#[55]⟩) ∧ w' = w := by
  go_enter Tryz.func181, Tryz.ntmps181
  go_wp2_with (go_at_call 213; (with_reducible refine (formatInt_seven _).mono ?_); rintro e w' ⟨rfl, rfl⟩)
  go_ret
  exact ⟨by kernel_rfl, rfl⟩
theorem itoa_seven (w : World) : Calls Tryz.prog 154 #[.int .i64 7] w fun e w' => e = .returned (.string ⟨#[55]⟩) ∧ w' = w := by
  go_enter Tryz.func154, Tryz.ntmps154
  go_wp2_with (go_at_call 181; (with_reducible refine (itoa_seven0 _).mono ?_); rintro e w' ⟨rfl, rfl⟩)
  go_ret
  exact ⟨by kernel_rfl, rfl⟩
end Go.Proofs.YtlggimmfaflfnaaGreatDoor.TK
end
