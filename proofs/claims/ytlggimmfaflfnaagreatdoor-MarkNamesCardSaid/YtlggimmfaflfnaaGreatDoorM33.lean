/- registry.Enter of a row whose name is new. -/
import Derived.Test.YtlggimmfaflfnaaGreatDoorM32
import Derived.Laws.Tables
import Derived.Deep.RegionHeld3
import Derived.BigQuiet
import Derived.Deep.RegionLaw
import Derived.Maps.OwnSet
set_option linter.unusedVariables false
set_option linter.unusedSimpArgs false
namespace Go.Proofs.YtlggimmfaflfnaaGreatDoor.PK
open Go.RowKit Go.Maps Go.Proofs.YtlggimmfaflfnaaGreatDoorW.PrintWords Go.Proofs.YtlggimmfaflfnaaGreatDoorW.PrintMore Go.Proofs.YtlggimmfaflfnaaGreatDoor.TF Go.MuLone

/-- a row of the roll -/
structure Row3 where
  name : ByteArray
  kind : Int
  faces : Int
def Row3.cells (r : Row3) : List Value := [.string r.name, .int .u8 r.kind, .int .u32 r.faces]
/-- a registry's cells, not frozen, the lock free -/
def regOf (l : Int) (v vt : Value) (m : Nat) : Array Value := #[.int .i32 l, .int .u32 0, .int .u32 0, .int .i32 0, .int .u32 0, v, .map (some m), vt, .int .i64 0]
/-- a roll in memory of its own, above block B -/
structure Roll (B g m n : Nat) (v vt : Value) (R T : List Row3) (D : DataW Nat) (W : World) : Prop where
  head : Blk W g 186 (regOf 0 v vt m)
  rows : W.ownsRow B 116 3 v R.length (R.flatMap Row3.cells)
  taken : W.ownsRow B 116 3 vt T.length (T.flatMap Row3.cells)
  apart : ∀ k, v.ownBlock = some k → vt.ownBlock ≠ some k
  map : W.ownsMap Tryz.prog 9 (plainElem Tryz.prog 3) m n D
  bg : B ≤ g
  bm : B ≤ m
  ne : m ≠ g
theorem str_keyed : Keyed Tryz.prog 9 := string_keyed Tryz.underlying9
theorem int_zero (w : World) : (zeroValue 3).run Tryz.prog w = .ok (.int .i64 0) w := by kernel_rfl
theorem infoRow3 : (Tryz.prog.info? 116).map (fun i => (i.zero.map (fun z => z.cells.size), i.size, i.bytes)) = some (some 3, 3, 24) := by kernel_rfl
def Only (A0 : Act) (T : World → Prop) : Exit → Act → World → Prop
  | .normal, a, w => a = A0 ∧ T w
  | _, _, _ => False
theorem own_ok {W : World} {base size n : Nat} {e : TypeId} {v : Value} {xs : List Value} (h : W.ownsRow base e size v n xs) : n ≤ maxLen ∧ xs.length = n * size := by
  obtain ⟨hx, h⟩ := h
  rcases h with ⟨_, rfl⟩ | ⟨g, cap, cur, _, _, _, h1, h2, _⟩
  · exact ⟨Nat.zero_le _, hx⟩
  · exact ⟨Nat.le_trans h1 h2, hx⟩
theorem wf_len {n : Nat} (h : n ≤ maxLen) : (Lit.int .i64 (n : Int)).wf = true := by
  unfold maxLen at h
  have e1 : IntKind.i64.min = -9223372036854775808 := by decide
  have e2 : IntKind.i64.max = 9223372036854775807 := by decide
  simp [Lit.wf, e1, e2]
  omega
theorem map_not_own {W : World} {m n base size k : Nat} {e : TypeId} {v : Value} {xs : List Value} {D : DataW Nat} (h : W.ownsRow base e size v k xs) (hm : W.ownsMap Tryz.prog 9 (plainElem Tryz.prog 3) m n D) : v.ownBlock ≠ some m := fun hk => by
  obtain ⟨cells, hc⟩ := own_typed h hk
  obtain ⟨es, ck, h5, _⟩ := hm
  rw [hc] at h5
  simp at h5
/-- all blocks of cells but the rows and the registries stand -/
def Keep3 (w W : World) : Prop := ∀ (q : Nat) (cs : Array Value) (t : TypeId), w.heap[q]? = some (Obj.cells cs t (0, 0)) → t ≠ 116 → t ≠ 186 → W.heap[q]? = w.heap[q]?
theorem keep3_of {B g m n k : Nat} {u : Value} {xs : List Value} {cs : Array Value} {D : DataW Nat} {w W : World} (hg : Blk w g 186 cs) (hm : w.ownsMap Tryz.prog 9 (plainElem Tryz.prog 3) m n D) (hu : w.ownsRow B 116 3 u k xs) (hf : Fr (fun q => q = g ∨ q = m ∨ u.ownBlock = some q) w W) : Keep3 w W := fun q cs' t hq h1 h2 => by
  refine hf.block q (Array.getElem?_eq_some_iff.1 hq).1 (fun hs => ?_)
  rcases hs with rfl | rfl | hs
  · exact Blk.ne_ (t := t) (show Blk w q t cs' from hq) hg h2 rfl
  · obtain ⟨es, ck, h5, _⟩ := hm
    rw [hq] at h5
    simp at h5
  · exact TF.own_blk_ne hu (show Blk w q t cs' from hq) (fun e => h1 e.symm) hs
/-- what stands behind a row that was taken -/
theorem enter_end {B g m n : Nat} {v vt v1 : Value} {R T : List Row3} {r : Row3} {D D' : DataW Nat} {w V3 w1 : World} (H : Roll B g m n v vt R T D w) (hB : B ≤ w.heap.size) (hf : Fr (fun q => q = g ∨ q = m) w V3)
    (hG3 : Blk V3 g 186 ((regOf 0 v vt m).setIfInBounds 0 (.int .i32 1))) (hM : V3.ownsMap Tryz.prog 9 (plainElem Tryz.prog 3) m (n + 1) D')
    (ho1 : w1.ownsRow B 116 3 v1 (R.length + 1) (R.flatMap Row3.cells ++ r.cells)) (hg1 : V3.drew.grownBy w1 v.ownBlock) (hat1 : v1.ownBlock = v.ownBlock ∨ ∃ q, v1.ownBlock = some q ∧ V3.drew.heap.size ≤ q) :
    Roll B g m (n + 1) v1 vt (R ++ [r]) T D' ((w1.setCell ⟨g, 5, none⟩ v1).setCell ⟨g, 0, none⟩ (.int .i32 0)) ∧ Below B w ((w1.setCell ⟨g, 5, none⟩ v1).setCell ⟨g, 0, none⟩ (.int .i32 0)) ∧
      (w1.setCell ⟨g, 5, none⟩ v1).cell? ⟨g, 0, none⟩ = some (.int .i32 1) ∧ (w1.setCell ⟨g, 5, none⟩ v1).frozen? ⟨g, 0, none⟩ = false ∧ Keep3 w ((w1.setCell ⟨g, 5, none⟩ v1).setCell ⟨g, 0, none⟩ (.int .i32 0)) := by
  have hng : v.ownBlock ≠ some g := TF.own_blk_ne H.rows H.head (by decide)
  have hnm : v.ownBlock ≠ some m := map_not_own H.rows H.map
  have htg : vt.ownBlock ≠ some g := TF.own_blk_ne H.taken H.head (by decide)
  have htm : vt.ownBlock ≠ some m := map_not_own H.taken H.map
  have hs3 : V3.drew.heap.size = V3.heap.size := rfl
  have fr1 := ((Fr.refl (fun q => v.ownBlock = some q) V3).drew).grown hg1 (fun q hq => .inl hq)
  have g1 := hG3.fr fr1 hng
  have fr2 : Fr (fun q => q = g ∨ q = m ∨ v.ownBlock = some q) w w1 := (hf.mono (S' := fun q => q = g ∨ q = m ∨ v.ownBlock = some q) (fun q hq => by rcases hq with h | h; exact .inl h; exact .inr (.inl h))).trans fr1 (fun q hq => .inl (.inr (.inr hq)))
  have fr3 := (fr2.set (p := ⟨g, 5, none⟩) (.inl (.inl rfl)) v1).set (p := ⟨g, 0, none⟩) (.inl (.inl rfl)) (.int .i32 0)
  have hgl := H.head.lt
  have hv1g : some g ≠ v1.ownBlock := by
    rcases hat1 with he | ⟨q, he, hq⟩
    · rw [he]; exact fun e => hng e.symm
    · rw [he]; intro e; have := Option.some.inj e; have := hf.size; omega
  refine ⟨⟨?_, ?_, ?_, ?_, ?_, H.bg, H.bm, H.ne⟩, fr3.below hB (fun k hk => ?_), ?_, ?_, ?_⟩
  · exact (g1.set_ 5 v1).set_ 0 (.int .i32 0)
  · rw [List.length_append, List.flatMap_append]
    have h1 := own_setCell (own_setCell ho1 (p := ⟨g, 5, none⟩) hv1g v1) (p := ⟨g, 0, none⟩) hv1g (.int .i32 0)
    simpa using h1
  · exact TF.own_fr H.taken fr3 (fun k hk hs => by
      rcases hs with rfl | rfl | hs
      · exact htg hk
      · exact htm hk
      · exact H.apart k hs hk)
  · intro k hk hk'
    rcases hat1 with he | ⟨q, he, hq⟩
    · exact H.apart k (he ▸ hk) hk'
    · have h1 := (H.taken.lt k hk').2
      rw [he] at hk
      have := Option.some.inj hk
      have := hf.size
      omega
  · exact ((hM.drew.kept hg1 (fun e => hnm e.symm)).setCell (a := ⟨g, 5, none⟩) H.ne _).setCell (a := ⟨g, 0, none⟩) H.ne _
  · rcases hk with rfl | rfl | hk
    · exact H.bg
    · exact H.bm
    · exact (H.rows.lt k hk).1
  · exact ((g1.set_ 5 v1).cell 0).trans rfl
  · exact (g1.set_ 5 v1).frozen 0
  · exact keep3_of H.head H.map H.rows fr3
/-- what stands behind a row whose name was taken -/
theorem enter_end2 {B g m n : Nat} {v vt v1 : Value} {R T : List Row3} {r : Row3} {D : DataW Nat} {w V3 w1 : World} (H : Roll B g m n v vt R T D w) (hB : B ≤ w.heap.size) (hf : Fr (fun q => q = g ∨ q = m) w V3)
    (hG3 : Blk V3 g 186 ((regOf 0 v vt m).setIfInBounds 0 (.int .i32 1))) (hM : V3.ownsMap Tryz.prog 9 (plainElem Tryz.prog 3) m n D)
    (ho1 : w1.ownsRow B 116 3 v1 (T.length + 1) (T.flatMap Row3.cells ++ r.cells)) (hg1 : V3.drew.grownBy w1 vt.ownBlock) (hat1 : v1.ownBlock = vt.ownBlock ∨ ∃ q, v1.ownBlock = some q ∧ V3.drew.heap.size ≤ q) :
    Roll B g m n v v1 R (T ++ [r]) D ((w1.setCell ⟨g, 7, none⟩ v1).setCell ⟨g, 0, none⟩ (.int .i32 0)) ∧ Below B w ((w1.setCell ⟨g, 7, none⟩ v1).setCell ⟨g, 0, none⟩ (.int .i32 0)) ∧
      (w1.setCell ⟨g, 7, none⟩ v1).cell? ⟨g, 0, none⟩ = some (.int .i32 1) ∧ (w1.setCell ⟨g, 7, none⟩ v1).frozen? ⟨g, 0, none⟩ = false ∧ Keep3 w ((w1.setCell ⟨g, 7, none⟩ v1).setCell ⟨g, 0, none⟩ (.int .i32 0)) := by
  have hng : v.ownBlock ≠ some g := TF.own_blk_ne H.rows H.head (by decide)
  have hnm : v.ownBlock ≠ some m := map_not_own H.rows H.map
  have htg : vt.ownBlock ≠ some g := TF.own_blk_ne H.taken H.head (by decide)
  have htm : vt.ownBlock ≠ some m := map_not_own H.taken H.map
  have hs3 : V3.drew.heap.size = V3.heap.size := rfl
  have fr1 := ((Fr.refl (fun q => vt.ownBlock = some q) V3).drew).grown hg1 (fun q hq => .inl hq)
  have g1 := hG3.fr fr1 htg
  have fr2 : Fr (fun q => q = g ∨ q = m ∨ vt.ownBlock = some q) w w1 := (hf.mono (S' := fun q => q = g ∨ q = m ∨ vt.ownBlock = some q) (fun q hq => by rcases hq with h | h; exact .inl h; exact .inr (.inl h))).trans fr1 (fun q hq => .inl (.inr (.inr hq)))
  have fr3 := (fr2.set (p := ⟨g, 7, none⟩) (.inl (.inl rfl)) v1).set (p := ⟨g, 0, none⟩) (.inl (.inl rfl)) (.int .i32 0)
  have hgl := H.head.lt
  have hv1g : some g ≠ v1.ownBlock := by
    rcases hat1 with he | ⟨q, he, hq⟩
    · rw [he]; exact fun e => htg e.symm
    · rw [he]; intro e; have := Option.some.inj e; have := hf.size; omega
  refine ⟨⟨?_, ?_, ?_, ?_, ?_, H.bg, H.bm, H.ne⟩, fr3.below hB (fun k hk => ?_), ?_, ?_, ?_⟩
  · exact (g1.set_ 7 v1).set_ 0 (.int .i32 0)
  · exact TF.own_fr H.rows fr3 (fun k hk hs => by
      rcases hs with rfl | rfl | hs
      · exact hng hk
      · exact hnm hk
      · exact H.apart k hk hs)
  · rw [List.length_append, List.flatMap_append]
    have h1 := own_setCell (own_setCell ho1 (p := ⟨g, 7, none⟩) hv1g v1) (p := ⟨g, 0, none⟩) hv1g (.int .i32 0)
    simpa using h1
  · intro k hk hk'
    rcases hat1 with he | ⟨q, he, hq⟩
    · exact H.apart k hk (he ▸ hk')
    · have h1 := (H.rows.lt k hk).2
      rw [he] at hk'
      have := Option.some.inj hk'
      have := hf.size
      omega
  · exact ((hM.drew.kept hg1 (fun e => htm e.symm)).setCell (a := ⟨g, 7, none⟩) H.ne _).setCell (a := ⟨g, 0, none⟩) H.ne _
  · rcases hk with rfl | rfl | hk
    · exact H.bg
    · exact H.bm
    · exact (H.taken.lt k hk).1
  · exact ((g1.set_ 7 v1).cell 0).trans rfl
  · exact (g1.set_ 7 v1).frozen 0
  · exact keep3_of H.head H.map H.taken fr3
set_option maxRecDepth 100000 in
set_option maxHeartbeats 8000000 in
theorem enter_new (B g m n : Nat) (v vt : Value) (R T : List Row3) (D : DataW Nat) (r : Row3) (w : World) (h : Roll B g m n v vt R T D w) (hB : B ≤ w.heap.size) (h1 : r.name.toList.isEmpty = false) (h2 : r.name.size ≤ 4096) (h3 : 1 ≤ r.kind) (h4 : r.kind ≤ 26) (hn : n < maxLen) (h5 : R.length < 1000) (hnew : has D (.string r.name.data.toList) = false) :
    Calls Tryz.prog 47 #[.pointer (some ⟨g, 0, none⟩), .agg #[.string r.name, .int .u8 r.kind, .int .u32 r.faces]] w fun e w' => e = .returned (.int .i64 0) ∧ ∃ v', Roll B g m (n + 1) v' vt (R ++ [r]) T (D.put (.string r.name.data.toList) (.lit (.int .i64 (R.length : Int)))) w' ∧ Below B w w' ∧ Keep3 w w' := by
  have e2 : ¬ ((4096 : Int) < (r.name.size : Int)) := by omega
  have e3 : ¬ (r.kind < 1) := by omega
  have e4 : ¬ (26 < r.kind) := by omega
  obtain ⟨nm, k, f⟩ := r
  simp only at *
  obtain ⟨V0, hV0⟩ : ∃ V, w.alloc (.cells #[.string nm, .int .u8 k, .int .u32 f] 116) = V := ⟨_, rfl⟩
  have hx := Blk.new w 116 #[.string nm, .int .u8 k, .int .u32 f]
  have b0 := (Below.refl w.heap.size w).alloc (Nat.le_refl _) (.cells #[.string nm, .int .u8 k, .int .u32 f] 116)
  rw [hV0] at hx b0
  have hg0 := h.head.next b0
  have c0 : V0.cell? ⟨g, 0, none⟩ = some (.int .i32 0) := (hg0.cell 0).trans rfl
  have f0 := hg0.frozen 0
  have hgl := h.head.lt
  obtain ⟨V1, hV1⟩ : ∃ V, V0.setCell ⟨g, 0, none⟩ (.int .i32 1) = V := ⟨_, rfl⟩
  have hg1 := hg0.set_ 0 (.int .i32 1)
  rw [hV1] at hg1
  have hx1 := hx.far (p := ⟨g, 0, none⟩) (by simp; omega) (.int .i32 1)
  rw [hV1] at hx1
  have hLk := lock_free Tryz.muLib ⟨g, 0, none⟩ V0 c0 f0
  rw [hV1] at hLk
  have HLk := Aside0.mk hLk
  obtain ⟨c5, c6, c7, c8⟩ : V1.cell? ⟨g, 5, none⟩ = some v ∧ V1.cell? ⟨g, 6, none⟩ = some (.map (some m)) ∧ V1.cell? ⟨g, 7, none⟩ = some vt ∧ V1.cell? ⟨g, 8, none⟩ = some (.int .i64 0) := ⟨(hg1.cell 5).trans rfl, (hg1.cell 6).trans rfl, (hg1.cell 7).trans rfl, (hg1.cell 8).trans rfl⟩
  obtain ⟨x0, x1, x2⟩ : V1.cell? ⟨w.heap.size, 0, none⟩ = some (.string nm) ∧ V1.cell? ⟨w.heap.size, 1, none⟩ = some (.int .u8 k) ∧ V1.cell? ⟨w.heap.size, 2, none⟩ = some (.int .u32 f) := ⟨(hx1.cell 0).trans rfl, (hx1.cell 1).trans rfl, (hx1.cell 2).trans rfl⟩
  have H := Aside0.mk h
  have hkey := WideMaps.keyOf_string_mk (P := Tryz.prog) Tryz.underlying9 (s := nm) (Nat.le_trans h2 (by unfold maxLen; omega))
  have HM : Aside0 (V1.drew.ownsMap Tryz.prog 9 (plainElem Tryz.prog 3) m n D) := Aside0.mk (by
    rw [← hV1, ← hV0]
    exact ((h.map.kept (row := none) (World.grownBy_alloc _ _ _) (by simp)).setCell (a := ⟨g, 0, none⟩) h.ne _).drew)
  have HX1 := Aside0.mk hx1
  have HG1 := Aside0.mk hg1
  clear h hx b0 hg0 hx1 hg1 hLk c0 f0
  go_enter_defers Tryz.func47, Tryz.ntmps47
  go_wp2_with (go_at_call 83; (with_reducible refine HLk.out.mono ?_); rintro e V1 ⟨rfl, rfl⟩)
  have M1 : V1.drew.ownsMap Tryz.prog 9 (plainElem Tryz.prog 3) m n D := HM.out
  obtain ⟨cL, hlk⟩ : ∃ c, (Instr.lookup 172 (.map (some m)) (.string nm) true).run Tryz.prog V1.drew = .ok (.tuple #[.int .i64 c, .bool false]) V1.drew := by
    obtain ⟨v, ps, hr, hv⟩ := M1.look_ok str_keyed Tryz.underlying172 (int_zero _) (plainElem_int Tryz.underlying3 (a := 0) (by decide)) hkey
    obtain ⟨c, rfl, _⟩ := plainElem_int_inv Tryz.underlying3 hv
    exact ⟨c, by rw [← hnew]; exact hr⟩
  have d6 : V1.drew.cell? ⟨g, 6, none⟩ = some (.map (some m)) := by go_simp
  have dx : V1.drew.cell? ⟨w.heap.size, 0, none⟩ = some (.string nm) := by go_simp
  clear M1
  go_region_held3 (fun W => W = V1.drew) (first | rfl | assumption) (fail)
  clear hlk d6 dx c5 c6 c7 c8 x0 x1 x2
  obtain ⟨V2, hV2⟩ : ∃ V, V1.drew = V := ⟨_, rfl⟩
  have HG2 := Aside0.mk (HG1.out.next (show Below V1.heap.size V1 V2 from hV2 ▸ (Below.refl _ V1).drew))
  have HX2 := Aside0.mk (HX1.out.next (show Below V1.heap.size V1 V2 from hV2 ▸ (Below.refl _ V1).drew))
  rw [hV2] at HM ⊢
  go_upto_region 15 with (fail)
  obtain ⟨Av, cv, rfl⟩ := TF.own_slice H.out.rows
  have hlen : R.length ≤ maxLen := (own_ok H.out.rows).1
  obtain ⟨V3, hup, HM3', HT3'⟩ := HM.out.drew.store str_keyed Tryz.underlying172 hn hkey (val := .int .i64 (R.length : Int)) (plainElem_int Tryz.underlying3 (wf_len hlen))
  have HM3 := Aside0.mk HM3'
  have HT3 := Aside0.mk HT3'
  clear HM3' HT3'
  have HG2' := Aside0.mk (HG2.out.next (Below.refl V2.heap.size V2).drew)
  have HX2' := Aside0.mk (HX2.out.next (Below.refl V2.heap.size V2).drew)
  obtain ⟨c5, c6, c7, x0⟩ : V2.drew.cell? ⟨g, 5, none⟩ = some (.slice Av R.length cv) ∧ V2.drew.cell? ⟨g, 6, none⟩ = some (.map (some m)) ∧ V2.drew.cell? ⟨g, 7, none⟩ = some vt ∧ V2.drew.cell? ⟨w.heap.size, 0, none⟩ = some (.string nm) := ⟨(HG2'.out.cell 5).trans rfl, (HG2'.out.cell 6).trans rfl, (HG2'.out.cell 7).trans rfl, (HX2'.out.cell 0).trans rfl⟩
  have hT := HT3.out
  have hb3 : ∀ q, q ≠ m → q < V2.heap.size → V3.heap[q]? = V2.heap[q]? := fun q hq hl => (hT.grown.block q hl (by simp; exact fun e => hq e))
  have sz3 : V2.heap.size ≤ V3.heap.size := hT.grown.size
  have hfr : Fr (fun q => q = g ∨ q = m) w V3 := by
    have h0 := ((((Fr.refl (fun q => q = g ∨ q = m) w).alloc (.cells #[.string nm, .int .u8 k, .int .u32 f] 116)).set (p := ⟨g, 0, none⟩) (.inl (.inl rfl)) (.int .i32 1)).drew).drew
    rw [hV0, hV1, hV2] at h0
    exact h0.grown HT3.out.grown (fun q hq => .inl (.inr (Option.some.inj hq).symm))
  have HFR := Aside0.mk hfr
  clear hfr
  have gl2 := HG2.out.lt
  have xl2 := HX2.out.lt
  have hmg := H.out.ne
  have hmx : w.heap.size ≠ m := fun e => by
    obtain ⟨es, ck, h5, _⟩ := H.out.map
    have := (Array.getElem?_eq_some_iff.1 h5).1
    omega
  have gb3 := hb3 g (fun e => hmg e.symm) gl2
  have xb3 := hb3 w.heap.size hmx xl2
  have HG3 : Aside0 (Blk V3 g 186 ((regOf 0 (.slice Av R.length cv) vt m).setIfInBounds 0 (.int .i32 1))) := Aside0.mk (gb3.trans HG2.out)
  have HX3 : Aside0 (Blk V3 w.heap.size 116 #[.string nm, .int .u8 k, .int .u32 f]) := Aside0.mk (xb3.trans HX2.out)
  obtain ⟨b5, b6, b7, y0⟩ : V3.cell? ⟨g, 5, none⟩ = some (.slice Av R.length cv) ∧ V3.cell? ⟨g, 6, none⟩ = some (.map (some m)) ∧ V3.cell? ⟨g, 7, none⟩ = some vt ∧ V3.cell? ⟨w.heap.size, 0, none⟩ = some (.string nm) := ⟨(HG3.out.cell 5).trans rfl, (HG3.out.cell 6).trans rfl, (HG3.out.cell 7).trans rfl, (HX3.out.cell 0).trans rfl⟩
  clear hT hb3 gb3 xb3
  go_region_held3 (fun W => (W = V2.drew ∨ W = V3) ∧ W.cell? ⟨g, 5, none⟩ = some (.slice Av R.length cv) ∧ W.cell? ⟨g, 6, none⟩ = some (.map (some m)) ∧ W.cell? ⟨w.heap.size, 0, none⟩ = some (.string nm)) (refine ⟨by first | exact .inl rfl | exact .inr rfl, ?_, ?_, ?_⟩ <;> assumption) (fail)
  clear c5 c6 c7 x0 hup b5 b6 b7 y0
  go_upto_region 16 with (fail)
  obtain ⟨i0, hi0, hz⟩ := Option.map_eq_some_iff.1 infoRow3
  simp only [Prod.mk.injEq] at hz
  obtain ⟨hz0, hz1, hz2⟩ := hz
  obtain ⟨z, hz3, hz4⟩ := Option.map_eq_some_iff.1 hz0
  have hinf : (Tryz.prog.info? 116).map (fun i => (i.zero, i.size, i.bytes)) = some (some z, 3, 24) := by rw [hi0, Option.map_some, hz3, hz1, hz2]
  have HINF := Aside0.mk (And.intro hinf hz4)
  obtain ⟨hr1, hr2⟩ : (∀ q, (Value.slice Av R.length cv).ownBlock = some q → q < w.heap.size ∧ q ≠ g ∧ q ≠ m) ∧ V3.ownsRow B 116 3 (.slice Av R.length cv) R.length (R.flatMap Row3.cells) := by
    have hng := TF.own_blk_ne H.out.rows H.out.head (by decide)
    have hnm := map_not_own H.out.rows H.out.map
    refine ⟨fun q hq => ⟨(H.out.rows.lt q hq).2, fun e => hng (e ▸ hq), fun e => hnm (e ▸ hq)⟩, TF.own_fr H.out.rows HFR.out (fun q hq hs => ?_)⟩
    rcases hs with rfl | rfl
    · exact hng hq
    · exact hnm hq
  have hBV : B ≤ V3.drew.heap.size := by have := HX2.out.lt; have hs : V3.drew.heap.size = V3.heap.size := rfl; omega
  have HR1 := Aside0.mk hr1
  have bd : Below V3.heap.size V3 V3.drew := (Below.refl _ V3).drew
  have OD := Aside0.mk (TF.own_next hr2 bd)
  have ba : Below V3.heap.size V3 (V3.alloc (.cells #[.string nm, .int .u8 k, .int .u32 f] 116)).drew := ((Below.refl _ V3).alloc (Nat.le_refl _) _).drew
  have gd := HG3.out.next bd
  have ga := HG3.out.next ba
  have xd := HX3.out.next bd
  have xa := HX3.out.next ba
  obtain ⟨c0, c1, c2, c3⟩ : V3.drew.cell? ⟨g, 5, none⟩ = some (.slice Av R.length cv) ∧ V3.drew.cell? ⟨w.heap.size, 0, none⟩ = some (.string nm) ∧ V3.drew.cell? ⟨w.heap.size, 1, none⟩ = some (.int .u8 k) ∧ V3.drew.cell? ⟨w.heap.size, 2, none⟩ = some (.int .u32 f) := ⟨(gd.cell 5).trans rfl, (xd.cell 0).trans rfl, (xd.cell 1).trans rfl, (xd.cell 2).trans rfl⟩
  obtain ⟨a0, a1, a2, a3⟩ : (V3.alloc (.cells #[.string nm, .int .u8 k, .int .u32 f] 116)).drew.cell? ⟨g, 5, none⟩ = some (.slice Av R.length cv) ∧ (V3.alloc (.cells #[.string nm, .int .u8 k, .int .u32 f] 116)).drew.cell? ⟨w.heap.size, 0, none⟩ = some (.string nm) ∧ (V3.alloc (.cells #[.string nm, .int .u8 k, .int .u32 f] 116)).drew.cell? ⟨w.heap.size, 1, none⟩ = some (.int .u8 k) ∧ (V3.alloc (.cells #[.string nm, .int .u8 k, .int .u32 f] 116)).drew.cell? ⟨w.heap.size, 2, none⟩ = some (.int .u32 f) := ⟨(ga.cell 5).trans rfl, (xa.cell 0).trans rfl, (xa.cell 1).trans rfl, (xa.cell 2).trans rfl⟩
  have hone1 : ∀ u ∈ [Value.string nm, .int .u8 k, .int .u32 f], u.oneCell' = true := by
    intro u hu
    simp only [List.mem_cons, List.not_mem_nil, or_false] at hu
    rcases hu with rfl | rfl | rfl <;> rfl
  have HON := Aside0.mk hone1
  have HHG := HG3
  clear hi0 hz0 hz1 hz2 hz3 hz4 hinf bd ba gd ga xd xa hone1 hr1 hr2
  refine wp_region_noPanic ?_
  go_region_law (first | (refine step_append_cells (w0 := V3.drew) (W := V3.drew) B (by rfl) (.tmp 77) (.tmp 79) 184 116 z 3 24 (by rfl) Tryz.underlying184 HINF.out.1 HINF.out.2 (by decide) (by decide) (.slice Av R.length cv) R.length (R.flatMap Row3.cells) [.string nm, .int .u8 k, .int .u32 f] (by rfl) (by rfl) rfl HON.out OD.out (Below.refl _ _) (by assumption) (by have := h5; omega) ?_; intro v1 w1 ho1 hb1 hg1 hat1; obtain ⟨A1, c1', rfl⟩ := TF.own_slice ho1; have fr1 := ((Fr.refl (fun q => (Value.slice Av R.length cv).ownBlock = some q) V3).drew).grown hg1 (fun q hq => .inl hq); have n1 := HHG.out.fr fr1 (fun he => (HR1.out _ he).2.1 rfl); have kb : w1.cell? ⟨g, 5, none⟩ = some (.slice Av R.length cv) := (n1.cell 5).trans rfl; have fk := n1.frozen 5; have N1 := Aside0.mk n1; clear n1))
  all_goals (
    refine NoPanic.normal ?_
    obtain ⟨hend, hbel, hl1, hl2, hk3⟩ := enter_end (r := ⟨nm, k, f⟩) H.out hB HFR.out HG3.out HM3.out ho1 hg1 hat1
    have HE := Aside0.mk (And.intro hend (And.intro hbel hk3))
    clear hend hbel hk3 ho1 hb1 hg1 hat1 kb fk c0 c1 c2 c3 a0 a1 a2 a3
    go_wp2_with (fail)
    refine leaves_cons (f := 84) (args := #[.pointer (some ⟨g, 0, none⟩)]) (by simp) (by simp [go_sem]) ?_
    refine (unlock_deferred Tryz.muLib ⟨g, 0, none⟩ .returning _ hl1 hl2).mono ?_
    rintro e u' w'' ⟨rfl, rfl, rfl⟩
    refine ⟨_, results_tmp rfl _ _ _, ?_⟩
    exact ⟨rfl, ⟨_, HE.out.1⟩, HE.out.2⟩)
end Go.Proofs.YtlggimmfaflfnaaGreatDoor.PK
