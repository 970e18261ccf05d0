/- FullW Reader MarkNames -/
import Derived.Test.YtlggimmfaflfnaaGreatDoorM38
import Derived.Deep.LoopGhost
import Derived.Deep.RegionHeld3
import Derived.BigQuiet
import Derived.Test.YtlggimmfaflfnaaGreatDoorProg
import Derived.Test.YtlggimmfaflfnaaGreatDoorM1
import Derived.Test.YtlggimmfaflfnaaGreatDoorM3
import Derived.Recover
import Derived.Defers
import Derived.WalkLawsBesides
import Derived.WalkSmall
import Derived.Test.YtlggimmfaflfnaaGreatDoorM35
import Derived.Test.YtlggimmfaflfnaaGreatDoorM13
section
/- registry.Full: all rows, frozen: the walk. -/
set_option linter.unusedVariables false
set_option linter.unusedSimpArgs false
namespace Go.Proofs.YtlggimmfaflfnaaGreatDoor.PK
open Go.RowKit Go.Maps Go.Proofs.YtlggimmfaflfnaaGreatDoorW.PrintWords Go.Proofs.YtlggimmfaflfnaaGreatDoorW.PrintMore Go.Proofs.YtlggimmfaflfnaaGreatDoor.TF Go.MuLone

theorem Roll.next {B g m n : Nat} {v vt : Value} {R T : List Row3} {D : DataW Nat} {W V : World} (h : Roll B g m n v vt R T D W) (hb : Below W.heap.size W V) : Roll B g m n v vt R T D V :=
  ⟨h.head.next hb, TF.own_next h.rows hb, TF.own_next h.taken hb, h.apart, by obtain ⟨es, ck, h5, h6⟩ := h.map; exact ⟨es, ck, (hb.block m (Array.getElem?_eq_some_iff.1 h5).1).trans h5, h6⟩, h.bg, h.bm, h.ne⟩
theorem At3.next {B g i : Nat} {W V : World} (h : At3 B g i W) (hb : Below W.heap.size W V) : At3 B g i V := by
  obtain ⟨m, n, v, vt, R, T, D, hr, h⟩ := h
  exact ⟨m, n, v, vt, R, T, D, hr.next hb, h⟩
set_option maxRecDepth 100000 in
set_option maxHeartbeats 4000000 in
theorem full_ok (w : World) (hE : Entered w) : Calls Tryz.prog 21 #[] w fun e w' => ∃ g m n v vt R T D, e = .returned (.pointer (some ⟨g, 0, none⟩)) ∧ Frz w.heap.size g m n v vt R T D w' ∧ R.length ≤ 31 ∧ R.map Row3.nk = (st 31).1 ∧ D = (st 31).2.2 ∧ Below w.heap.size w w' := by
  have her := entered_range hE
  have hgl : ∀ W, Below w.heap.size w W → W.rangeAt 0 0 (KINDS.map (Value.int .u8)) := fun W hb j v hv => by
    have hlt : 0 < w.heap.size := by
      have h := her 0 (.int .u8 2) rfl
      unfold World.cell? at h
      by_cases hl : 0 < w.heap.size
      · exact hl
      · rw [Array.getElem?_eq_none (by omega)] at h; simp at h
    exact (hb.cell (p := ⟨0, 0 + j, none⟩) hlt).trans (her j v hv)
  have HGL := Aside0.mk hgl
  clear her hgl hE
  go_enter Tryz.func21, Tryz.ntmps21
  go_wp2_with (go_at_call 45; (with_reducible refine (new_roll _).mono ?_))
  rintro e w1 ⟨g, m, rfl, hr, hb1⟩
  have HR := Aside0.mk hr
  have HB1 := Aside0.mk hb1
  clear hr hb1
  go_wp2_with (go_at_call 46; (with_reducible refine (names_ok _).mono ?_))
  rintro e w2 ⟨rfl, hb2⟩
  have hz : ZEROS = #[.string ⟨#[]⟩, .string ⟨#[]⟩, .string ⟨#[]⟩, .string ⟨#[]⟩, .string ⟨#[]⟩, .string ⟨#[]⟩, .string ⟨#[]⟩, .string ⟨#[]⟩, .string ⟨#[]⟩, .string ⟨#[]⟩, .string ⟨#[]⟩, .string ⟨#[]⟩, .string ⟨#[]⟩, .string ⟨#[]⟩, .string ⟨#[]⟩, .string ⟨#[]⟩, .string ⟨#[]⟩, .string ⟨#[]⟩, .string ⟨#[]⟩, .string ⟨#[]⟩, .string ⟨#[]⟩, .string ⟨#[]⟩, .string ⟨#[]⟩, .string ⟨#[]⟩, .string ⟨#[]⟩, .string ⟨#[]⟩, .string ⟨#[]⟩, .string ⟨#[]⟩, .string ⟨#[]⟩, .string ⟨#[]⟩, .string ⟨#[]⟩] := rfl
  obtain ⟨W3, hW3⟩ : ∃ V, w2.alloc (.cells ZEROS 107) = V := ⟨_, rfl⟩
  have hth := zeros_there w2
  have hnm := names_new w2
  have hb3 : Below w2.heap.size w2 W3 := hW3 ▸ (Below.refl _ w2).alloc (Nat.le_refl _) _
  rw [hW3] at hth hnm
  rw [hz] at hW3
  have HNM := Aside0.mk hnm
  have HB2 := Aside0.mk (HB1.out.trans (hb2.mono HB1.out.size))
  have HR2 := Aside0.mk (show At3 w.heap.size g 0 w2 from ⟨m, 0, _, _, [], [], .map [], HR.out.next hb2, Nat.le_refl _, Nat.le_refl _, Nat.le_refl _, rfl, rfl, rfl⟩)
  clear hz hnm hb2 HR HB1
  obtain ⟨nb, hnb⟩ : ∃ nb, w2.heap.size = nb := ⟨_, rfl⟩
  rw [hnb] at hth
  have H31 := Aside0.mk info31
  rename_i hK
  refine hK _ _ ?_
  obtain ⟨NV, hNV⟩ : ∃ NV, (List.map Value.string NAMES).toArray = NV := ⟨_, rfl⟩
  have hone := names_one
  have hsz : NV.size = 31 := by rw [← hNV]; rfl
  have hr : ∀ (W : World) (b : Nat), W.setCells b 0 (NAMES.map Value.string) = W.setCells b 0 NV.toList := fun W b => by rw [← hNV]
  rw [hNV] at hone ⊢
  have HNV := Aside0.mk (And.intro hr hsz)
  have hi31 : (Tryz.prog.info? 107).map (·.size) = some NV.size := by rw [hsz]; exact H31.out
  rw [← hsz] at hth
  clear hr hNV H31 hsz
  clear hK
  go_upto_region 3 with (refine wpList_store_mid rfl 107 _ _ rfl nb 0 NV rfl rfl hth hi31 hone ?_)
  rw [HNV.out.1, hnb] at HNM
  obtain ⟨V, hV⟩ : ∃ V, W3.setCells nb 0 NV.toList = V := ⟨_, rfl⟩
  rw [hV] at HNM ⊢
  have HBV := Aside0.mk (HB2.out.trans ((hnb ▸ HNM.out.2 : Below w2.heap.size w2 V).mono HB2.out.size))
  have hrg := HGL.out V HBV.out
  have HAt := Aside0.mk (HR2.out.next (hnb ▸ HNM.out.2))
  have HNs := Aside0.mk HNM.out.1
  obtain ⟨KV, hKV⟩ : ∃ KV, (KINDS.map (Value.int .u8)).toArray = KV := ⟨_, rfl⟩
  have HKI := Aside0.mk (show ∀ (i : Nat), i < 31 → ∀ W, (Instr.index 109 (.agg KV) (.int .i64 (i : Int))).run Tryz.prog W = .ok (.int .u8 (KINDS.getD i 0)) W from fun i hi W => by rw [← hKV]; exact kind_at i hi W)
  have hxs : KV = (KV.toList).toArray := by simp
  have hl : KINDS.map (Value.int .u8) = KV.toList := by rw [← hKV]
  rw [hl] at hrg
  have hiu : (Tryz.prog.info? 109).map (·.size) = some KV.toList.length := by rw [← hl]; exact info31u
  clear hV hW3 hb3 HNM HB2 HR2 hth hnb hone HNV hi31 hKV hl hxs
  go_upto_region 4 with (refine wpList_load_mid rfl 109 (.global 0) rfl 0 0 rfl KV.toList _ hrg Tryz.underlying109 rfl hiu ?_)
  clear hrg hiu
  go_loopg [8] 31 (fun kq v8 wr => ∃ i : Nat, i + kq = 31 ∧ v8 = .int .i64 (i : Int) ∧ Aside0 (At3 w.heap.size g i wr ∧ NamesAt nb wr ∧ Below w.heap.size w wr))
  case atStart => exact ⟨0, rfl, rfl, ⟨HAt.out, HNs.out, HBV.out⟩⟩
  case round =>
    obtain ⟨i, hi, rfl, HI⟩ := hrel
    clear HAt HNs HBV
    by_cases hlt : i < 31
    · have hx := HKI.out i hlt
      have hkm : KINDS.getD i 0 ∈ KINDS := by rw [List.getD_eq_getElem?_getD, List.getElem?_eq_getElem (by rw [kinds_fine.1]; exact hlt)]; exact List.getElem_mem _
      have hnm : NAMES.getD i ⟨#[]⟩ ∈ NAMES := by rw [List.getD_eq_getElem?_getD, List.getElem?_eq_getElem (by rw [names_fine.1]; exact hlt)]; exact List.getElem_mem _
      have hkf := kinds_fine.2 _ hkm
      have hnf := names_fine.2 _ hnm
      have cN := HI.out.2.1.cell i hlt
      obtain ⟨k, hk⟩ : ∃ k, KINDS.getD i 0 = k := ⟨_, rfl⟩
      obtain ⟨nm, hn⟩ : ∃ nm, NAMES.getD i ⟨#[]⟩ = nm := ⟨_, rfl⟩
      rw [hk] at hx hkf
      rw [hn] at cN hnf
      have HZ := Aside0.mk (fun W => zero_any k hkf.1 hkf.2 W)
      have bd : Below wr.heap.size wr wr.drew := (Below.refl _ wr).drew
      have hNd := HI.out.2.1.next bd
      have cD : wr.drew.cell? ⟨nb, i, none⟩ = some (.string nm) := by rw [← hn]; exact hNd.cell i hlt
      have HEn := Aside0.mk (fun f => at_enter w.heap.size g i ⟨nm, k, f⟩ wr.drew (HI.out.1.next bd) (by omega) (Nat.le_trans HI.out.2.2.size bd.size) hnf hkf hn.symm hk.symm)
      have HND := Aside0.mk hNd
      have HBD := Aside0.mk (HI.out.2.2.trans (bd.mono HI.out.2.2.size))
      have HNK := Aside0.mk (And.intro hn hk)
      simp only at HEn
      clear hkm hnm hkf hnf hn hk bd hNd
      go_wp2_with (fail)
      go_region_held3 (fun W => W.cell? ⟨nb, i, none⟩ = some (.string nm)) (first | assumption | go_keep) (first
        | (go_at_call 49; (with_reducible refine (HZ.out _).mono ?_); rintro e w' ⟨ty, x, rfl, ⟨inf, hinf⟩, rfl⟩)
        | (go_at_call 48; (with_reducible refine (held_any _ _ inf hinf _).mono ?_); rintro e w' ⟨f, rfl, rfl⟩)
        | (go_at_call 47; (with_reducible refine (HEn.out f).mono ?_); rintro e w9 ⟨x9, rfl, ha9, hb9, hk9⟩; have H9 := Aside0.mk (And.intro ha9 (And.intro (HND.out.keep hk9) (HBD.out.trans hb9))); have c9 : w9.cell? ⟨nb, i, none⟩ = some (.string nm) := by { rw [← HNK.out.1]; exact H9.out.2.1.cell i hlt }; clear ha9 hb9 hk9))
      all_goals (
        clear hx cN cD c9
        go_wp2_with (fail)
        go_roundg (gk - 1)
        case measure => omega
        case rel => exact ⟨i + 1, by omega, by go_num, H9⟩)
    · obtain rfl : i = 31 := by omega
      have hF := at_freeze w.heap.size g 31 wr HI.out.1
      have HF := Aside0.mk hF
      clear hF
      go_wp2_with (go_at_call 50; (with_reducible refine HF.out.mono ?_))
      rintro e w5 ⟨rfl, h5, h6⟩
      have H5 := Aside0.mk h5
      have hg : w.heap.size ≤ g := by obtain ⟨m, n, v, vt, R, T, D, hr, _⟩ := HI.out.1; exact hr.bg
      have H6 := Aside0.mk (HI.out.2.2.trans (h6.below HI.out.2.2.size (fun k hk => by subst hk; exact hg)))
      clear h5 h6
      go_wp2_with (fail)
      go_ret
      obtain ⟨m, n, v, vt, R, T, D, h1, h2, h3, h4, h5⟩ := H5.out
      exact ⟨g, m, n, v, vt, R, T, D, rfl, h1, h2, h4, h5, H6.out⟩
end Go.Proofs.YtlggimmfaflfnaaGreatDoor.PK
end
section
/- The reader: take, short; Records' deferred function. -/
set_option linter.unusedVariables false
set_option linter.unusedSimpArgs false
namespace Go.Proofs.YtlggimmfaflfnaaGreatDoor.PK
open Go.RowKit Go.Proofs.YtlggimmfaflfnaaGreatDoorW.PrintWords Go.Proofs.YtlggimmfaflfnaaGreatDoorW.PrintMore Go.Proofs.YtlggimmfaflfnaaGreatDoor.TF

/-- what the reader gives up with -/
def gaveUp : Value := .iface 25 (.int .i64 4)
theorem take_none (p : Nat) (w : World) (h : Blk w p 92 #[.string ⟨#[]⟩]) :
    Calls Tryz.prog 36 #[.pointer (some ⟨p, 0, none⟩), .int .i64 2] w fun e w' => e = .panicked [{ v := gaveUp, recovered := false }] ∧ w' = w := by
  have c0 : w.cell? ⟨p, 0, none⟩ = some (.string ⟨#[]⟩) := (h.cell 0).trans rfl
  clear h
  unfold gaveUp
  go_enter Tryz.func36, Tryz.ntmps36
  go_wp2_with (fail)
  exact ⟨rfl, rfl, rfl⟩
theorem catch_panicking (p q : Addr) (x y : Value) (u : TypeId) (pv : Value) (older : List PanicEntry) (w : World) (hc : w.cell? p = some x) (hz : w.frozen? p = false) (hd : w.cell? q = some y) (hy : w.frozen? q = false) (hne : p ≠ q) :
    CallsD Tryz.prog 35 #[.pointer (some p), .pointer (some q)] (.panicking ({ v := .iface u pv, recovered := false } :: older)) w fun e u' w' =>
      e = .returned (.tuple #[]) ∧ u' = .panicking ({ v := .iface u pv, recovered := true } :: older) ∧ w' = (w.setCell p (.slice none 0 0)).setCell q (.int .i64 4) := by
  have hd' : (w.setCell p (.slice none 0 0)).cell? q = some y := (World.cell?_setCell_other _ p q _ (by exact hne)).trans hd
  refine callsD_of_wpS Tryz.func35 rfl fun c₀ cs hu => ?_
  apply wpS_seq
  apply wpS_region
  simp [wpOpsS, go_sem, recoverD, hu, Tryz.ntmps35, Exit.thenS]
  apply wpS_seq
  apply wpS_region
  simp [wpOpsS, go_sem, Exit.thenS]
  refine wpS_cond (t := true) (by simp [Act.eval, Array.replicate]) ?_
  simp only [if_true]
  apply wpS_region
  simp [wpOpsS, go_sem, hc, hz, hd', hy, bodyPostS, results, Tryz.results35]
set_option maxRecDepth 100000 in
/-- of no bytes: it is given up, and caught: ErrForm -/
theorem records_none (w : World) : Calls Tryz.prog 12 #[.string ⟨#[]⟩] w fun e w' => e = .returned (.tuple #[.slice none 0 0, .int .i64 4]) ∧ Below w.heap.size w w' := by
  have hmf : ∀ (fn : Fn) (first cap : Array Value) (w : World), (Instr.makeFunc fn first cap).run Tryz.prog w = .ok (.func fn first cap) w := fun _ _ _ _ => rfl
  obtain ⟨W1, hW1⟩ : ∃ W, w.alloc (.cells #[.slice none 0 0] 23) = W := ⟨_, rfl⟩
  obtain ⟨W2, hW2⟩ : ∃ W, W1.alloc (.cells #[.int .i64 0] 25) = W := ⟨_, rfl⟩
  obtain ⟨W3, hW3⟩ : ∃ W, W2.alloc (.cells #[.string ⟨#[]⟩] 92) = W := ⟨_, rfl⟩
  have s1 : W1.heap.size = w.heap.size + 1 := by rw [← hW1, World.size_alloc]
  have s2 : W2.heap.size = w.heap.size + 2 := by rw [← hW2, World.size_alloc, s1]
  have b1 : Below w.heap.size w W1 := by rw [← hW1]; exact (Below.refl _ w).alloc (Nat.le_refl _) _
  have b2 : Below w.heap.size w W2 := by rw [← hW2]; exact b1.alloc (by omega) _
  have b3 : Below w.heap.size w W3 := by rw [← hW3]; exact b2.alloc (by omega) _
  have e1 : Below W1.heap.size W1 W2 := by rw [← hW2]; exact (Below.refl _ W1).alloc (Nat.le_refl _) _
  have e2 : Below W2.heap.size W2 W3 := by rw [← hW3]; exact (Below.refl _ W2).alloc (Nat.le_refl _) _
  have k1 : Blk W3 w.heap.size 23 #[.slice none 0 0] := by
    have h := Blk.new w 23 #[.slice none 0 0]
    rw [hW1] at h
    exact (h.next e1).next e2
  have k2 : Blk W3 (w.heap.size + 1) 25 #[.int .i64 0] := by
    have h := Blk.new W1 25 #[.int .i64 0]
    rw [hW2, s1] at h
    exact h.next e2
  have k3 : Blk W3 (w.heap.size + 2) 92 #[.string ⟨#[]⟩] := by
    have h := Blk.new W2 92 #[.string ⟨#[]⟩]
    rw [hW3, s2] at h
    exact h
  have HT := Aside0.mk (take_none _ W3 k3)
  go_enter_defers Tryz.func12, Tryz.ntmps12
  go_wp2_with (go_at_call 36; (with_reducible refine HT.out.mono ?_); rintro e W3 ⟨rfl, rfl⟩)
  refine leaves_cons (f := 35) (args := #[.pointer (some ⟨w.heap.size, 0, none⟩), .pointer (some ⟨w.heap.size + 1, 0, none⟩)]) (by simp) (by simp [go_sem]) ?_
  refine (catch_panicking ⟨w.heap.size, 0, none⟩ ⟨w.heap.size + 1, 0, none⟩ (.slice none 0 0) (.int .i64 0) 25 (.int .i64 4) [] _ ((k1.cell 0).trans rfl) (k1.frozen 0) ((k2.cell 0).trans rfl) (k2.frozen 0) (by simp)).mono ?_
  rintro e u' w'' ⟨rfl, rfl, rfl⟩
  have q1 := (k1.set_ 0 (.slice none 0 0)).far (p := ⟨w.heap.size + 1, 0, none⟩) (by simp) (.int .i64 4)
  have q2 := (k2.far (p := ⟨w.heap.size, 0, none⟩) (by simp) (.slice none 0 0)).set_ 0 (.int .i64 4)
  obtain ⟨V, hV⟩ : ∃ V, (W3.setCell ⟨w.heap.size, 0, none⟩ (.slice none 0 0)).setCell ⟨w.heap.size + 1, 0, none⟩ (.int .i64 4) = V := ⟨_, rfl⟩
  rw [hV] at q1 q2
  have c1 : V.cell? ⟨w.heap.size, 0, none⟩ = some (.slice none 0 0) := (q1.cell 0).trans rfl
  have c2 : V.cell? ⟨w.heap.size + 1, 0, none⟩ = some (.int .i64 4) := (q2.cell 0).trans rfl
  have hb := (b3.setCell (p := ⟨w.heap.size, 0, none⟩) (Nat.le_refl _) (.slice none 0 0)).setCell (p := ⟨w.heap.size + 1, 0, none⟩) (by simp) (.int .i64 4)
  rw [hV] at hb ⊢
  simp [Leaves, settle, results, Tryz.results12, go_sem, c1, c2]
  exact hb
end Go.Proofs.YtlggimmfaflfnaaGreatDoor.PK
end
section
/- The closed law MarkNames: the walk. -/
set_option linter.unusedVariables false
set_option linter.unusedSimpArgs false
namespace Go.Proofs.YtlggimmfaflfnaaGreatDoor.MK
open Go.RowKit Go.Maps Go.Shelf Go.Proofs.YtlggimmfaflfnaaGreatDoorW.PrintWords Go.Proofs.YtlggimmfaflfnaaGreatDoorW.PrintMore Go.Proofs.YtlggimmfaflfnaaGreatDoor.TF Go.Proofs.YtlggimmfaflfnaaGreatDoor.TK

/-- what a call of registry.Full leaves, as far as this law asks -/
theorem full_some (w : World) (hE : PK.Entered w) : Calls Tryz.prog 21 #[] w fun e w' => ∃ g, e = .returned (.pointer (some ⟨g, 0, none⟩)) ∧ Below w.heap.size w w' :=
  (PK.full_ok w hE).mono fun e w' ⟨g, m, n, v, vt, R, T, D, h1, _, _, _, _, h2⟩ => ⟨g, h1, h2⟩
theorem at_far (b : Nat) (W : World) (h : Bk b (.slice none 0 0) [] W) : Calls Tryz.prog 71 #[.pointer (some ⟨b, 0, none⟩), .int .i64 9] W fun e w' => e = .returned (.tuple #[.pointer (some ⟨W.heap.size, 0, none⟩), .int .i64 50]) ∧ w' = W.alloc (.cells row0 154) := by
  have hc := h.cell
  clear h
  unfold row0
  go_enter Tryz.func71, Tryz.ntmps71
  go_wp2
  go_ret2
  exact ⟨rfl, rfl⟩
theorem error_far (b : Nat) (W : World) (h : Bk b (.slice none 0 0) [] W) : Calls Tryz.prog 64 #[.pointer (some ⟨b, 0, none⟩), .int .i64 9] W fun e w' => e = .returned (.tuple #[.nilIface, .int .i64 50]) ∧ Below W.heap.size W w' := by
  have hx := ((Blk.new W 154 row0).cell 0).trans (rfl : _ = some Value.nilIface)
  have hb := Aside0.mk ((Below.refl W.heap.size W).alloc (Nat.le_refl _) (.cells row0 154))
  have HA := Aside0.mk (at_far b W h)
  obtain ⟨V, hV⟩ : ∃ V, W.alloc (.cells row0 154) = V := ⟨_, rfl⟩
  rw [hV] at HA hx hb
  clear h hV
  go_enter Tryz.func64, Tryz.ntmps64
  go_wp2_with (go_at_call 71; (with_reducible refine HA.out.mono ?_); rintro e w' ⟨rfl, rfl⟩)
  go_ret2
  exact ⟨rfl, hb.out⟩
theorem error_zero (b : Nat) (W : World) : Calls Tryz.prog 64 #[.pointer (some ⟨b, 0, none⟩), .int .i64 0] W fun e w' => e = .returned (.tuple #[.nilIface, .int .i64 0]) ∧ Below W.heap.size W w' := by
  have hx := ((Blk.new W 154 row0).cell 0).trans (rfl : _ = some Value.nilIface)
  have hb := Aside0.mk ((Below.refl W.heap.size W).alloc (Nat.le_refl _) (.cells row0 154))
  have HA := Aside0.mk (at_zero b W)
  obtain ⟨V, hV⟩ : ∃ V, W.alloc (.cells row0 154) = V := ⟨_, rfl⟩
  rw [hV] at HA hx hb
  clear hV
  go_enter Tryz.func64, Tryz.ntmps64
  go_wp2_with (go_at_call 71; (with_reducible refine HA.out.mono ?_); rintro e w' ⟨rfl, rfl⟩)
  go_ret2
  exact ⟨rfl, hb.out⟩
theorem check_far (b : Nat) (W : World) (h : Bk b (.slice none 0 0) [] W) : Calls Tryz.prog 40 #[.pointer (some ⟨b, 0, none⟩), .int .i64 9] W fun e w' => e = .returned (.int .i64 50) ∧ Below W.heap.size W w' := by
  have HE := Aside0.mk (error_far b W h)
  clear h
  go_enter Tryz.func40, Tryz.ntmps40
  go_wp2_with (go_at_call 64; (with_reducible refine HE.out.mono ?_))
  rintro e w1 ⟨rfl, h1⟩
  go_wp2
  go_ret
  exact ⟨rfl, h1⟩
theorem check_zero (b : Nat) (W : World) : Calls Tryz.prog 40 #[.pointer (some ⟨b, 0, none⟩), .int .i64 0] W fun e w' => e = .returned (.int .i64 0) ∧ Below W.heap.size W w' := by
  have HE := Aside0.mk (error_zero b W)
  go_enter Tryz.func40, Tryz.ntmps40
  go_wp2_with (go_at_call 64; (with_reducible refine HE.out.mono ?_))
  rintro e w1 ⟨rfl, h1⟩
  go_wp2
  go_ret
  exact ⟨rfl, h1⟩
theorem in_far (a : Addr) (b : Nat) (W : World) (h : Bk b (.slice none 0 0) [] W) : Calls Tryz.prog 20 #[.pointer (some a), .string ⟨#[]⟩, .pointer (some ⟨b, 0, none⟩), .int .i64 9] W fun e w' => e = .returned (.tuple #[.int .i64 0, .bool false, .int .i64 50]) ∧ Below W.heap.size W w' := by
  have HC := Aside0.mk (check_far b W h)
  clear h
  go_enter Tryz.func20, Tryz.ntmps20
  go_wp2_with (go_at_call 40; (with_reducible refine HC.out.mono ?_))
  rintro e w1 ⟨rfl, h1⟩
  go_wp2
  go_ret3
  exact ⟨rfl, h1⟩
theorem decode_none (b g : Nat) (w : World) : Calls Tryz.prog 33 #[.pointer (some ⟨b, 0, none⟩), .pointer (some ⟨g, 0, none⟩), .string ⟨#[]⟩] w fun e w' => e = .returned (.tuple #[.int .i64 0, .int .i64 4]) ∧ Below w.heap.size w w' := by
  have HR := Aside0.mk (PK.records_none w)
  go_enter Tryz.func33, Tryz.ntmps33
  go_wp2_with (go_at_call 12; (with_reducible refine HR.out.mono ?_))
  rintro e w1 ⟨rfl, h1⟩
  go_wp2
  go_ret2
  exact ⟨rfl, h1⟩
theorem in_none (g b : Nat) (w : World) : Calls Tryz.prog 20 #[.pointer (some ⟨g, 0, none⟩), .string ⟨#[]⟩, .pointer (some ⟨b, 0, none⟩), .int .i64 0] w fun e w' => e = .returned (.tuple #[.int .i64 0, .bool false, .int .i64 4]) ∧ Below w.heap.size w w' := by
  have HC := Aside0.mk (check_zero b w)
  go_enter Tryz.func20, Tryz.ntmps20
  go_wp2_with (go_at_call 40; (with_reducible refine HC.out.mono ?_))
  rintro e w1 ⟨rfl, h1⟩
  have HB1 := Aside0.mk h1
  clear h1
  go_wp2_with (go_at_call 15; (with_reducible refine (new_ok _).mono ?_))
  rintro e w2 ⟨rfl, hw2⟩
  have bl2 : Below w.heap.size w w2 := by rw [hw2]; exact HB1.out.alloc HB1.out.size _
  have HB2 := Aside0.mk bl2
  clear bl2 hw2
  go_wp2_with (go_at_call 33; (with_reducible refine (decode_none _ _ _).mono ?_))
  rintro e w3 ⟨rfl, h3⟩
  have HB3 := Aside0.mk (HB2.out.trans (h3.mono HB2.out.size))
  clear h3
  go_wp2
  go_ret3
  exact ⟨rfl, HB3.out⟩
theorem infoZ : (Tryz.prog.info? 53).map (·.size) = some zero16.size := info16
theorem oneZ : zero16.all (·.oneCell') = true := by simp [zero16, Value.oneCell']
theorem eqZL (W : World) : (Op.equalIn 10000 53 (.agg zero16) (.agg #[.int .u8 0, .int .u8 0, .int .u8 0, .int .u8 0, .int .u8 0, .int .u8 0, .int .u8 0, .int .u8 0, .int .u8 0, .int .u8 0, .int .u8 0, .int .u8 0, .int .u8 0, .int .u8 0, .int .u8 0, .int .u8 0])).run Tryz.prog W = .ok true W := by kernel_rfl
theorem entered_stays {w W : World} (h : PK.Entered w) (hb : Below w.heap.size w W) : PK.Entered W := Go.Joins.tab_stays (g := 0) (by kernel_rfl) h hb (Nat.le_refl _)
set_option maxHeartbeats 8000000 in
set_option maxRecDepth 100000 in
theorem names_walk (w : World) (htab : TW.Tab w) (hE : PK.Entered w) : Calls Tryz.prog 5 #[] w fun e w' => e = .returned (.bool true) ∧ Below w.heap.size w w' := by
  have HT := Aside0.mk htab
  have HE := Aside0.mk hE
  clear htab hE
  go_enter Tryz.func5, Tryz.ntmps5
  go_wp2_with (go_at_call 15; (with_reducible refine (new_ok _).mono ?_))
  rintro e w1 ⟨rfl, hw1⟩
  have hb1 : Bk w.heap.size (.slice none 0 0) [] w1 := by rw [hw1]; exact Bk.new w
  have bl1 : Below w.heap.size w w1 := by rw [hw1]; exact (Below.refl _ w).alloc (Nat.le_refl _) _
  obtain ⟨b, hb⟩ : ∃ b, w.heap.size = b := ⟨_, rfl⟩
  rw [hb] at hb1 ⊢
  have HBE := Aside0.mk hb
  have HL1 := Aside0.mk bl1
  have HB1 := Aside0.mk hb1
  clear hb1 bl1 hw1 hb
  have hOf := of_nil
  go_wp2_with (go_at_call 16; (with_reducible refine (hOf _).mono ?_))
  rintro e w2 ⟨rfl, h2⟩
  have hk := Blk.new w2 53 zero16
  have hL2 : Below w.heap.size w w2 := HL1.out.trans (h2.mono HL1.out.size)
  obtain ⟨W2, hW2⟩ : ∃ V, w2.alloc (.cells zero16 53) = V := ⟨_, rfl⟩
  have b2 : Below w2.heap.size w2 W2 := hW2 ▸ (Below.refl _ w2).alloc (Nat.le_refl _) _
  obtain ⟨kb, hkb⟩ : ∃ kb, w2.heap.size = kb := ⟨_, rfl⟩
  rw [hW2, hkb] at hk
  obtain ⟨W3, hW3⟩ : ∃ V, W2.setRow kb zero16 = V := ⟨_, rfl⟩
  have hk3 : Blk W3 kb 53 zero16 := hW3 ▸ blk_setRow' hk rfl
  have f3 : Fr (fun q => q = kb) W2 W3 := hW3 ▸ fr_setRow W2 kb zero16
  have hL3 := (hL2.trans (b2.mono hL2.size)).trans (f3.below (Nat.le_trans hL2.size b2.size) (fun k hk => by subst hk; rw [← hkb]; exact hL2.size))
  have hB2 := (HB1.out.next h2).next b2
  have hbk : b < w2.heap.size := ((HB1.out.next h2).lt)
  have hB3 : Bk b (.slice none 0 0) [] W3 := ⟨hB2.head.fr f3 (by omega), World.ownsRow_nil _ _ _ _, fun r hr => by cases hr⟩
  have HK3 := Aside0.mk hk3
  have HL3 := Aside0.mk hL3
  have HB3 := Aside0.mk hB3
  unfold zero16 at hW2
  clear hL2 b2 h2 hOf HB1 HL1 hk3 f3 hL3 hB2 hbk hB3
  go_upto_region 4 with (refine wpList_store_row rfl 53 _ _ rfl _ zero16 rfl rfl 53 zero16 hk infoZ rfl oneZ ?_)
  clear hW2 hkb hk
  try rw [hW3]
  clear hW3
  go_upto_region 9 with (first
    | (go_at_call 17; (with_reducible refine (form_nil _).mono ?_); rintro e w' ⟨rfl, rfl⟩)
    | (go_at_call 18; (with_reducible refine (alike_nil1 _ _ _ _).mono ?_); rintro e w' ⟨rfl, rfl⟩)
    | (go_at_call 18; (with_reducible refine (alike_nil2 _ _ _ _).mono ?_); rintro e w' ⟨rfl, rfl⟩)
    | (go_at_call 19; (with_reducible refine (is_nil _ _ _ _).mono ?_); rintro e w' ⟨rfl, rfl⟩)
    | (go_at_call 20; (with_reducible refine (in_nil1 _ _ _ _).mono ?_); rintro e w' ⟨rfl, rfl⟩))
  go_wp2_with (go_at_call 21; (with_reducible refine (full_some _ (entered_stays HE.out HL3.out)).mono ?_))
  rintro e w9 ⟨g9, rfl, h9⟩
  have HK9 := Aside0.mk (HK3.out.next h9)
  have HL9 := Aside0.mk (HL3.out.trans (h9.mono HL3.out.size))
  have HB9 := Aside0.mk (HB3.out.next h9)
  clear h9 HK3 HL3 HB3
  go_upto_region 12 with (first
    | (go_at_call 20; (with_reducible refine (in_nil2 _ _ _ _).mono ?_); rintro e w' ⟨rfl, rfl⟩)
    | (go_at_call 22; (with_reducible refine (new_nil _).mono ?_); rintro e w' ⟨rfl, rfl⟩)
    | (go_at_call 23; (with_reducible refine (find_nil _ _ _).mono ?_); rintro e w' ⟨rfl, rfl⟩))
  have hk := HK9.out
  have hzz := eqZZ
  have hzl := eqZL
  go_wp2_with (first
    | (refine wpList_load_row rfl 53 _ rfl _ rfl 53 zero16 (0, 0) _ hk Tryz.underlying53 rfl infoZ ?_)
    | (go_at_call 24; (with_reducible refine (len_nil _).mono ?_); rintro e w' ⟨rfl, rfl⟩)
    | (go_at_call 25; (with_reducible refine (classes_nil _).mono ?_); rintro e w' ⟨rfl, rfl⟩)
    | (go_at_call 21; (with_reducible refine (full_some _ (entered_stays HE.out HL9.out)).mono ?_)))
  rintro e w10 ⟨g10, rfl, h10⟩
  have HL10 := Aside0.mk (HL9.out.trans (h10.mono HL9.out.size))
  have HB10 := Aside0.mk (HB9.out.next h10)
  have HIn := Aside0.mk (in_far ⟨g10, 0, none⟩ b w10 HB10.out)
  clear h10 HK9 HL9 HB9 hk hzz hzl
  go_wp2_with (go_at_call 20; (with_reducible refine HIn.out.mono ?_))
  rintro e w11 ⟨rfl, h11⟩
  have HL11 := Aside0.mk (HL10.out.trans (h11.mono HL10.out.size))
  clear h11 HL10 HB10 HIn
  go_wp2_with (go_at_call 21; (with_reducible refine (full_some _ (entered_stays HE.out HL11.out)).mono ?_))
  rintro e w12 ⟨g12, rfl, h12⟩
  have HL12 := Aside0.mk (HL11.out.trans (h12.mono HL11.out.size))
  clear h12 HL11
  go_wp2_with (go_at_call 20; (with_reducible refine (in_none _ _ _).mono ?_))
  rintro e w13 ⟨rfl, h13⟩
  have HL13 := Aside0.mk (HL12.out.trans (h13.mono HL12.out.size))
  have HWk := Aside0.mk (works_ok w13 (HT.out.stays HL13.out))
  clear h13 HL12
  go_wp2_with (go_at_call 26; (with_reducible refine HWk.out.mono ?_))
  rintro e w14 ⟨rfl, h14⟩
  have HL14 := Aside0.mk (HL13.out.trans (h14.mono HL13.out.size))
  clear h14 HL13
  go_wp2_with (fail)
  go_ret
  rw [← HBE.out]
  exact ⟨rfl, HL14.out⟩
end Go.Proofs.YtlggimmfaflfnaaGreatDoor.MK
end
