/- Record -/
import Derived.Test.YtoplgeajolonoaaGreatDoorM4
import Derived.Laws.Tables
import Derived.Deep.RegionHeld3
import Derived.BigQuiet
/- A record behind bytes. -/
set_option linter.unusedVariables false
set_option linter.unusedSimpArgs false
namespace Go.Proofs.YtoplgeajolonoaaGreatDoor.PK
open Go.RowKit Go.Proofs.YtoplgeajolonoaaGreatDoorW.PrintWords Go.Proofs.YtoplgeajolonoaaGreatDoorW.PrintMore Go.Proofs.YtoplgeajolonoaaGreatDoor.TF

theorem step_append_two {P : Program} {w0 W : World} {ops : Array Oper} {o : Oper} {a : Act} {K : Act → World → Prop} {Q : Exit → Act → World → Prop} (base : Nat) (hw : Region.wanted o (yielded ops a.tmps) = true) (s x : Operand) (t u e : TypeId)
    (ho : o.op = .call { callee := .builtin .append, args := #[s, x], argTypes := #[t, u] })
    (ht : P.underlying t = some (.slice e)) (hu : P.underlying u = some (.slice e)) (hinfo : (P.info? e).map (fun i => (i.zero, i.size, i.bytes)) = some (some (.int .u8 0), 1, 1))
    (v : Value) (xs ys : List Int) (ad : Addr) (c : Nat) (hs : a.eval s = v) (hx : a.eval x = .slice (some ad) ys.length c)
    (HO : W.ownsRow base e 1 v xs.length (nums .u8 xs)) (hy : ∀ j y, (nums .u8 ys)[j]? = some y → W.cell? (ad.add j) = some y) (HB : Below base w0 W) (hbase : base ≤ W.heap.size) (hl : xs.length + ys.length ≤ 140737488355328)
    (h : ∀ v1 w1, w1.ownsRow base e 1 v1 (xs ++ ys).length (nums .u8 (xs ++ ys)) → Below base w0 w1 → W.grownBy w1 v.ownBlock → K (a.put o.dst v1) w1) :
    if Region.wanted o (yielded ops a.tmps) = true then Oper.wp P o a W K Q else K (a.put o.dst undef) W := by
  obtain ⟨i0, hi, hzz⟩ := Option.map_eq_some_iff.1 hinfo
  simp only [Prod.mk.injEq] at hzz
  obtain ⟨hz0, hz1, hz2⟩ := hzz
  rw [if_pos hw]
  obtain ⟨v', w', hr, h2, h3, h4⟩ := run_append_own (P := P) W base t o.type e i0 (.int .u8 0) 1 1 ht hi hz0 hz1 hz2 rfl (by decide) v xs.length (nums .u8 xs) HO ad ys.length c (nums .u8 ys) (by simp [nums_length]) hy (by intro q hq; simp [nums] at hq; obtain ⟨_, _, rfl⟩ := hq; rfl) (by simp only [maxLen]; omega) (by omega) hbase
  rw [← two_types ht hu] at hr
  unfold Oper.wp execOp
  simp only [ho, resolve, invoke, builtin, Sem.run_bind, Sem.run_pure, Result.andThen_ok, List.map_toArray, List.map_cons, List.map_nil, hs, hx, hr]
  exact h v' w' (by rw [List.length_append]; simpa [nums] using h2) (HB.grown h3 hbase (own_base HO)) h3
theorem setRow_same {W : World} {g : Nat} {t : TypeId} {cs : Array Value} (h : Blk W g t cs) : W.setRow g cs = W := by
  unfold Blk at h
  obtain ⟨hlt, he⟩ := Array.getElem?_eq_some_iff.1 h
  unfold World.setRow
  congr 1
  apply Array.ext_getElem?
  intro j
  rw [Array.getElem?_modify]
  by_cases hj : g = j
  · subst hj
    simp [h]
  · simp [hj]
/-- a row is laid where it lies already -/
theorem store_same {P : Program} {ops : Array Oper} {rest : List Oper} {o : Oper} {a : Act} {w : World} {Q : Exit → Act → World → Prop} (hgd : o.guard = none) (ty : TypeId) (x y : Operand) (ho : o.op = .store ty x y) (hd : o.dst = none)
    (g : Nat) (cells : Array Value) (hx : a.eval x = .pointer (some ⟨g, 0, none⟩)) (hy : a.eval y = .agg cells)
    (t : TypeId) (hg : Blk w g t cells) (hi : (P.info? ty).map (·.size) = some cells.size) (h1 : cells.all (·.oneCell') = true)
    (h : wpList P ops Q rest a w) : wpList P ops Q (o :: rest) a w :=
  wpList_store_row hgd ty x y ho g cells hx hy t cells hg hi rfl h1 (by rw [setRow_same hg, hd]; exact h)
theorem short_w (w : World) : Calls Tryz.prog 53 #[.int .u64 (IntKind.u64.wrap 0)] w fun e w' => ∃ g c, e = .returned (.slice (some ⟨g, 0, none⟩) 1 c) ∧ w'.cell? ⟨g, 0, none⟩ = some (.int .u8 0) ∧ w.heap.size ≤ g ∧ Below w.heap.size w w' := by
  rw [show IntKind.u64.wrap 0 = 0 by kernel_rfl]
  exact short_ok 0 (by decide) (by decide) w
theorem store_other {P : Program} {ops : Array Oper} {rest : List Oper} {o : Oper} {a : Act} {w : World} {Q : Exit → Act → World → Prop} (hgd : o.guard = none) (ty : TypeId) (x y : Operand) (ho : o.op = .store ty x y) (hd : o.dst = none)
    (g : Nat) (cells old : Array Value) (hx : a.eval x = .pointer (some ⟨g, 0, none⟩)) (hy : a.eval y = .agg cells)
    (t : TypeId) (hg : Blk w g t old) (hold : old.size = cells.size) (hi : (P.info? ty).map (·.size) = some cells.size) (h1 : cells.all (·.oneCell') = true)
    (h : wpList P ops Q rest a (w.setRow g cells)) : wpList P ops Q (o :: rest) a w :=
  wpList_store_row hgd ty x y ho g cells hx hy t old hg hi hold h1 (by rw [hd]; exact h)
theorem blk_bytes {g : Nat} {ys : List Int} {W : World} (h : Blk W g 5 (nums .u8 ys).toArray) : ∀ j y, (nums .u8 ys)[j]? = some y → W.cell? ((⟨g, 0, none⟩ : Addr).add j) = some y := by
  intro j y hj
  have ha : (⟨g, 0, none⟩ : Addr).add j = ⟨g, j, none⟩ := by unfold Addr.add; split <;> simp_all
  rw [ha, h.cell j]
  simpa using hj
/-- a record with a name, and parts -/
def rec_ (t : ByteArray) (ps : Value) : Array Value := #[.string t, .bool false, .int .u32 0, .int .u8 0, .bool false, .string ⟨#[]⟩, .int .i16 0, .int .i8 0, .float .f64 0, .float .f64 0, .bool false, .int .u32 0, .slice none 0 0, ps]
def spc_ (ps : Value) : Array Value := #[.int .u8 0, .bool false, .string ⟨#[]⟩, .int .i16 0, .int .i8 0, .float .f64 0, .float .f64 0, .bool false, .int .u32 0, .slice none 0 0, ps]
/-- the record and its spec lie in two blocks -/
structure Two (n : Nat) (t : ByteArray) (ps : Value) (W : World) : Prop where
  r : Blk W n 45 (rec_ t ps)
  s : Blk W (n + 1) 43 (spc_ ps)
theorem Two.next {n : Nat} {t : ByteArray} {ps : Value} {W V : World} (h : Two n t ps W) (hb : Below W.heap.size W V) : Two n t ps V := ⟨h.r.next hb, h.s.next hb⟩
theorem Two.under {n m : Nat} {t : ByteArray} {ps : Value} {W V : World} (h : Two n t ps W) (hb : Below m W V) (hm : n + 1 < m) : Two n t ps V := ⟨h.r.under hb (by omega), h.s.under hb hm⟩
theorem Two.c {n : Nat} {t : ByteArray} {ps : Value} {W : World} (h : Two n t ps W) : W.cell? ⟨n, 0, none⟩ = some (.string t) ∧ W.cell? ⟨n, 1, none⟩ = some (.bool false) ∧ W.cell? ⟨n, 2, none⟩ = some (.int .u32 0) ∧
    W.cell? ⟨n + 1, 1, none⟩ = some (.bool false) ∧ W.cell? ⟨n + 1, 2, none⟩ = some (.string ⟨#[]⟩) ∧ W.cell? ⟨n + 1, 3, none⟩ = some (.int .i16 0) ∧ W.cell? ⟨n + 1, 4, none⟩ = some (.int .i8 0) ∧ W.cell? ⟨n + 1, 5, none⟩ = some (.float .f64 0) ∧
    W.cell? ⟨n + 1, 6, none⟩ = some (.float .f64 0) ∧ W.cell? ⟨n + 1, 7, none⟩ = some (.bool false) ∧ W.cell? ⟨n + 1, 9, none⟩ = some (.slice none 0 0) ∧ W.cell? ⟨n + 1, 10, none⟩ = some ps :=
  ⟨(h.r.cell 0).trans rfl, (h.r.cell 1).trans rfl, (h.r.cell 2).trans rfl, (h.s.cell 1).trans rfl, (h.s.cell 2).trans rfl, (h.s.cell 3).trans rfl, (h.s.cell 4).trans rfl, (h.s.cell 5).trans rfl, (h.s.cell 6).trans rfl, (h.s.cell 7).trans rfl, (h.s.cell 9).trans rfl, (h.s.cell 10).trans rfl⟩
theorem Two.k8 {n : Nat} {t : ByteArray} {ps : Value} {W V : World} (h : Two n t ps W) (hk : K8 W V) : Two n t ps V := ⟨hk.blk h.r (by decide), hk.blk h.s (by decide)⟩
/-- what one stage leaves -/
structure St (base n : Nat) (t : ByteArray) (ps : Value) (w : World) (v : Value) (xs : List Int) (W : World) : Prop where
  own : B8 base v xs W
  two : Two n t ps W
  b : Below base w W
  k : K8 w W
theorem St.next {base n : Nat} {t : ByteArray} {ps : Value} {w : World} {v : Value} {xs : List Int} {W V : World} (h : St base n t ps w v xs W) (hb : base ≤ W.heap.size) (hw : Below W.heap.size W V) : St base n t ps w v xs V :=
  ⟨h.own.next hw, h.two.next hw, h.b.trans (hw.mono hb), h.k.trans (K8.below hw)⟩
theorem St.size {base n : Nat} {t : ByteArray} {ps : Value} {w : World} {v : Value} {xs : List Int} {W : World} (h : St base n t ps w v xs W) (hb : base ≤ w.heap.size) : base ≤ W.heap.size := Nat.le_trans hb h.b.size
theorem St.grown {base n : Nat} {t : ByteArray} {ps : Value} {w : World} {v v' : Value} {xs ys : List Int} {W V : World} (h : St base n t ps w v xs W) (ho : B8 base v' ys V) (hb : Below base w V) (hg : W.grownBy V v.ownBlock) : St base n t ps w v' ys V :=
  ⟨ho, h.two.k8 (K8.grown h.own hg), hb, h.k.trans (K8.grown h.own hg)⟩
theorem spc_one (A : Option Addr) (n c : Nat) : (spc_ (.slice A n c)).all (·.oneCell') = true := by simp [spc_, Value.oneCell']
theorem infoSpec5 : (Tryz.prog.info? 43).map (·.size) = some 11 := by kernel_rfl
set_option maxHeartbeats 8000000 in
set_option maxRecDepth 100000 in
theorem record_none (base : Nat) (v : Value) (xs : List Int) (t : ByteArray) (w : World) (h : B8 base v xs w) (hb : base ≤ w.heap.size) (hx : xs.length ≤ 65536) (ht : t.size < 128) :
    Calls Tryz.prog 54 #[v, .agg (rec_ t (.slice none 0 0))] w fun e w' => ∃ v', e = .returned v' ∧ ∃ ys, ys.length ≤ xs.length + t.size + 256 ∧ B8 base v' ys w' ∧ Below base w w' ∧ K8 w w' := by
  obtain ⟨V0, hV0⟩ : ∃ V, w.alloc (.cells (rec_ t (.slice none 0 0)) 45) = V := ⟨_, rfl⟩
  obtain ⟨V1, hV1⟩ : ∃ V, V0.alloc (.cells (spc_ (.slice none 0 0)) 43) = V := ⟨_, rfl⟩
  have hx0 := Blk.new w 45 (rec_ t (.slice none 0 0))
  have b0 := (Below.refl w.heap.size w).alloc (Nat.le_refl _) (.cells (rec_ t (.slice none 0 0)) 45)
  rw [hV0] at hx0 b0
  have s0 : V0.heap.size = w.heap.size + 1 := by rw [← hV0, World.size_alloc]
  have hx1 := Blk.new V0 43 (spc_ (.slice none 0 0))
  have b1 := (Below.refl V0.heap.size V0).alloc (Nat.le_refl _) (.cells (spc_ (.slice none 0 0)) 43)
  rw [hV1] at hx1 b1
  have s1 : V1.heap.size = w.heap.size + 2 := by rw [← hV1, World.size_alloc, s0]
  rw [s0] at hx1
  have hr1 := hx0.next b1
  have hst := setRow_heap V1 (w.heap.size + 1) _ (spc_ (.slice none 0 0)) 43 (0, 0) hx1
  obtain ⟨c0, c1, c2⟩ : V0.cell? ⟨w.heap.size, 0, none⟩ = some (.string t) ∧ V0.cell? ⟨w.heap.size, 1, none⟩ = some (.bool false) ∧ V0.cell? ⟨w.heap.size, 2, none⟩ = some (.int .u32 0) := ⟨(hx0.cell 0).trans rfl, (hx0.cell 1).trans rfl, (hx0.cell 2).trans rfl⟩
  obtain ⟨k3, k4, k5, k6, k7, k8, k9, k10, k11, k12, k13⟩ : V0.cell? ⟨w.heap.size, 3, none⟩ = some (.int .u8 0) ∧ V0.cell? ⟨w.heap.size, 4, none⟩ = some (.bool false) ∧ V0.cell? ⟨w.heap.size, 5, none⟩ = some (.string ⟨#[]⟩) ∧ V0.cell? ⟨w.heap.size, 6, none⟩ = some (.int .i16 0) ∧ V0.cell? ⟨w.heap.size, 7, none⟩ = some (.int .i8 0) ∧ V0.cell? ⟨w.heap.size, 8, none⟩ = some (.float .f64 0) ∧ V0.cell? ⟨w.heap.size, 9, none⟩ = some (.float .f64 0) ∧ V0.cell? ⟨w.heap.size, 10, none⟩ = some (.bool false) ∧ V0.cell? ⟨w.heap.size, 11, none⟩ = some (.int .u32 0) ∧ V0.cell? ⟨w.heap.size, 12, none⟩ = some (.slice none 0 0) ∧ V0.cell? ⟨w.heap.size, 13, none⟩ = some (.slice none 0 0) := ⟨(hx0.cell 3).trans rfl, (hx0.cell 4).trans rfl, (hx0.cell 5).trans rfl, (hx0.cell 6).trans rfl, (hx0.cell 7).trans rfl, (hx0.cell 8).trans rfl, (hx0.cell 9).trans rfl, (hx0.cell 10).trans rfl, (hx0.cell 11).trans rfl, (hx0.cell 12).trans rfl, (hx0.cell 13).trans rfl⟩
  have HX1 := Aside0.mk hx1
  have HX0 := Aside0.mk hx1
  rw [← hV1] at HX0
  have H := Aside0.mk h
  have HB1 := Aside0.mk ((b0.trans (b1.mono (by omega))))
  have HT := Aside0.mk (Two.mk hr1 hx1)
  obtain ⟨a0, a1, a2, e1, e2, e3, e4, e5, e6, e7, e9, e10⟩ := HT.out.c
  have HS1 := Aside0.mk s1
  clear hx0 hx1 b0 b1 h hr1 hst s1
  have i0 : ∀ W : World, (Instr.index 235 (.agg #[.bool false, .bool false, .bool false]) (.int .i64 0)).run Tryz.prog W = .ok (.bool false) W := fun _ => by kernel_rfl
  have i1 : ∀ W : World, (Instr.index 235 (.agg #[.bool false, .bool false, .bool false]) (.int .i64 1)).run Tryz.prog W = .ok (.bool false) W := fun _ => by kernel_rfl
  have i2 : ∀ W : World, (Instr.index 235 (.agg #[.bool false, .bool false, .bool false]) (.int .i64 2)).run Tryz.prog W = .ok (.bool false) W := fun _ => by kernel_rfl
  unfold rec_ at hV0 ⊢
  have HV1 := Aside0.mk hV1
  clear hV1
  unfold spc_ at HV1
  go_enter Tryz.func54, Tryz.ntmps54
  go_wp2_with (refine store_same rfl 43 (.tmp 5) (.tmp 14) rfl rfl (w.heap.size + 1) (spc_ (.slice none 0 0)) rfl rfl 43 HX0.out infoSpec5 (spc_one _ _ _) ?_; rw [HV1.out])
  clear c0 c1 c2 k3 k4 k5 k6 k7 k8 k9 k10 k11 k12 k13 HX0 HX1 HV1 hV0
  go_loopg [6, 22] 3 (fun kq v6 v22 wr => v6 = .int .u8 0 ∧ wr = V1 ∧ ((kq = 3 ∧ v22 = .int .i64 0) ∨ (kq = 2 ∧ v22 = .int .i64 1) ∨ (kq = 1 ∧ v22 = .int .i64 2) ∨ (kq = 0 ∧ v22 = .int .i64 3)))
  case atStart => exact ⟨rfl, rfl, .inl ⟨rfl, rfl⟩⟩
  case round =>
    obtain ⟨rfl, rfl, ⟨rfl, rfl⟩ | ⟨rfl, rfl⟩ | ⟨rfl, rfl⟩ | ⟨rfl, rfl⟩⟩ := hrel
    · go_wp2_with (fail)
      go_roundg 2
      case measure => omega
      case rel => exact ⟨rfl, rfl, .inr (.inl ⟨rfl, rfl⟩)⟩
    · go_wp2_with (fail)
      go_roundg 1
      case measure => omega
      case rel => exact ⟨rfl, rfl, .inr (.inr (.inl ⟨rfl, rfl⟩))⟩
    · go_wp2_with (fail)
      go_roundg 0
      case measure => omega
      case rel => exact ⟨rfl, rfl, .inr (.inr (.inr ⟨rfl, rfl⟩))⟩
    · go_wp2_with (fail)
      have hb1 := HB1.out
      have hsz : base ≤ wr.heap.size := by have := HS1.out; omega
      have ha := ((Below.refl wr.heap.size wr).drew).alloc (Nat.le_refl _) (.cells #[.int .u8 0] 5)
      have H9 := Aside0.mk ((H.out.next (hb1.mono (Nat.le_refl _))).next ha)
      have hc := ((Blk.new wr.drew 5 #[.int .u8 0]).cell 0).trans (rfl : _ = some (Value.int .u8 0))
      have HC := Aside0.mk (one_byte hc)
      have HB9 := Aside0.mk ((hb1.mono hb).trans (ha.mono hsz))
      have HK9 := Aside0.mk ((K8.below hb1).trans (K8.below ha))
      have HS9 := Aside0.mk (show base ≤ (wr.drew.alloc (.cells #[.int .u8 0] 5)).heap.size from Nat.le_trans hsz ha.size)
      have HT9 := Aside0.mk (HT.out.next ha)
      have n0 := HT9.out.c.1
      clear hb1 ha hc i0 i1 i2 a1 a2 e1 e2 e3 e4 e5 e6 e7 e9 e10
      go_region_held3 (fun V => V.cell? ⟨w.heap.size, 0, none⟩ = some (.string t)) (first | exact a0 | exact n0 | exact q0 | exact q2 | go_keep) (first
        | (refine step_append_two (w0 := w) base (by rfl) (.tmp 32) (.tmp 34) 131 131 5 (by rfl) Tryz.underlying131 Tryz.underlying131 infoByte v xs [0] ⟨wr.heap.size, 0, none⟩ 1 (by rfl) (by rfl) H9.out HC.out HB9.out HS9.out (by simp; omega) ?_; intro v1 w1 h1 b1 g1; have K1 := Aside0.mk (HK9.out.trans (K8.grown H9.out g1)); have HT1 := Aside0.mk (HT9.out.k8 (K8.grown H9.out g1)); have q0 := HT1.out.c.1; have H1 : Aside0 (B8 base v1 (xs ++ [0]) w1) := Aside0.mk (by unfold B8; simpa using h1); clear h1 g1)
        | (go_at_call 115; (with_reducible refine (text_ok base _ (xs ++ [0]) t _ H1.out (by have := b1.size; omega) (by simp; omega) ht).mono ?_); rintro e w2 ⟨v2, rfl, h2, b2, k2⟩; have HT2 := Aside0.mk (HT1.out.k8 k2); have q2 := HT2.out.c.1; have H2 := Aside0.mk h2; have HB2 := Aside0.mk (b1.trans b2); have HK2 := Aside0.mk (K1.out.trans k2); clear h2 b2 k2))
      clear a0 n0 q0 q2
      obtain ⟨a0, a1, a2, e1, e2, e3, e4, e5, e6, e7, e9, e10⟩ := HT2.out.c
      have L2 : (xs ++ [0] ++ [(t.size : Int)] ++ bytesOf t).length = xs.length + t.size + 2 := by simp [bytesOf_length]; omega
      obtain ⟨x2, hx2⟩ : ∃ x2, xs ++ [0] ++ [(t.size : Int)] ++ bytesOf t = x2 := ⟨_, rfl⟩
      rw [hx2] at L2 H2
      go_upto_region 10 with (fail)
      have bd2 := (Below.refl w2.heap.size w2).drew
      have HD2 := Aside0.mk (H2.out.next bd2)
      have HBD2 := Aside0.mk (HB2.out.trans (bd2.mono (Nat.le_trans hb HB2.out.size)))
      have HKD2 := Aside0.mk (HK2.out.trans (K8.below bd2))
      have HTD2 := Aside0.mk (HT2.out.next bd2)
      have hsz2 := Nat.le_trans hb HB2.out.size
      obtain ⟨f2, g2⟩ : w2.drew.cell? ⟨w.heap.size, 2, none⟩ = some (.int .u32 0) ∧ w2.drew.cell? ⟨w.heap.size + 1, 2, none⟩ = some (.string ⟨#[]⟩) := ⟨HTD2.out.c.2.2.1, HTD2.out.c.2.2.2.2.1⟩
      clear bd2 a1 e1 e3 e4 e5 e6 e7 e9 e10
      go_region_held3 (fun V => V.cell? ⟨w.heap.size, 2, none⟩ = some (.int .u32 0) ∧ V.cell? ⟨w.heap.size + 1, 2, none⟩ = some (.string ⟨#[]⟩)) (first | exact ⟨a2, e2⟩ | exact ⟨f2, g2⟩ | exact q3 | exact q4 | exact q5 | go_keep) (first
        | (go_at_call 53; (with_reducible refine (short_w _).mono ?_); rintro e w3 ⟨r3, c3, rfl, hc3, hg3, hb3⟩; have HT3 := Aside0.mk (HTD2.out.next hb3); have q3 := And.intro HT3.out.c.2.2.1 HT3.out.c.2.2.2.2.1; have H3 := Aside0.mk (HD2.out.next hb3); have HB3 := Aside0.mk (HBD2.out.trans (hb3.mono hsz2)); have HK3 := Aside0.mk (HKD2.out.trans (K8.below hb3)); have HC3 := Aside0.mk (one_byte hc3); have HS3 := Aside0.mk (Nat.le_trans hsz2 hb3.size); clear hb3 hc3)
        | (refine step_append_two (w0 := w) base (by rfl) (.tmp 39) (.tmp 43) 131 92 5 (by rfl) Tryz.underlying131 Tryz.underlying92 infoByte v2 x2 [0] ⟨r3, 0, none⟩ c3 (by rfl) (by rfl) H3.out HC3.out HB3.out HS3.out (by simp; omega) ?_; intro v4 w4 h4 b4 g4; have HT4 := Aside0.mk (HT3.out.k8 (K8.grown H3.out g4)); have q4 := And.intro HT4.out.c.2.2.1 HT4.out.c.2.2.2.2.1; have K4 := Aside0.mk (HK3.out.trans (K8.grown H3.out g4)); have H4 : Aside0 (B8 base v4 (x2 ++ [0]) w4) := Aside0.mk (by unfold B8; simpa using h4); clear h4 g4)
        | (go_at_call 115; (with_reducible refine (text_ok base _ (x2 ++ [0]) ⟨#[]⟩ _ H4.out (by have := b4.size; omega) (by simp; omega) (by decide)).mono ?_); rintro e w5 ⟨v5, rfl, h5, b5, k5⟩; have HT5 := Aside0.mk (HT4.out.k8 k5); have q5 := And.intro HT5.out.c.2.2.1 HT5.out.c.2.2.2.2.1; have H5 := Aside0.mk h5; have HB5 := Aside0.mk (b4.trans b5); have HK5 := Aside0.mk (K4.out.trans k5); clear h5 b5 k5 b4))
      clear a2 e2 f2 g2 q3 q4 q5
      obtain ⟨a0, a1, a2, e1, e2, e3, e4, e5, e6, e7, e9, e10⟩ := HT5.out.c
      have L5 : (x2 ++ [0] ++ [((ByteArray.mk #[]).size : Int)] ++ bytesOf ⟨#[]⟩).length = x2.length + 2 := by simp [bytesOf_length]; rfl
      obtain ⟨x5, hx5⟩ : ∃ x5, x2 ++ [0] ++ [((ByteArray.mk #[]).size : Int)] ++ bytesOf ⟨#[]⟩ = x5 := ⟨_, rfl⟩
      rw [hx5] at L5 H5
      have hsz5 := Nat.le_trans hb HB5.out.size
      clear H9 HC HB9 HK9 HS9 HT9 K1 HT1 H1 HT2 HB2 HK2 hx2 HD2 HBD2 HKD2 HTD2 hsz2 HT3 H3 HB3 HK3 HC3 HS3 HT4 K4 H4 hx5 hg3 HT HB1 HS1 hsz H2 H s0
      have ha5 := (Below.refl w5.heap.size w5).alloc (Nat.le_refl _) (.cells #[.int .u8 0, .int .u8 0, .int .u8 0] 5)
      have H6 := Aside0.mk (H5.out.next ha5)
      have HC6 := Aside0.mk (blk_bytes (ys := [0, 0, 0]) (Blk.new w5 5 #[.int .u8 0, .int .u8 0, .int .u8 0]))
      have HB6 := Aside0.mk (HB5.out.trans (ha5.mono hsz5))
      have HK6 := Aside0.mk (HK5.out.trans (K8.below ha5))
      have HS6 := Aside0.mk (Nat.le_trans hsz5 ha5.size)
      have HT6 := Aside0.mk (HT5.out.next ha5)
      clear ha5
      go_wp2_with (at_builtin; refine append_two (w0 := w) base rfl _ _ 131 131 5 rfl Tryz.underlying131 Tryz.underlying131 infoByte v5 x5 [0, 0, 0] ⟨w5.heap.size, 0, none⟩ 3 rfl rfl H6.out HC6.out HB6.out HS6.out (by simp; omega) ?_)
      intro v7 w7 h7 b7 g7
      have hsz7 := Nat.le_trans hb b7.size
      have HT7 := Aside0.mk (HT6.out.k8 (K8.grown H6.out g7))
      have HK7 := Aside0.mk (HK6.out.trans (K8.grown H6.out g7))
      have HB7 := Aside0.mk b7
      have L7 : (x5 ++ [0, 0, 0]).length = x5.length + 3 := by simp
      have H7 : Aside0 (B8 base v7 (x5 ++ [0, 0, 0]) w7) := Aside0.mk (by unfold B8; simpa [L5, L2] using h7)
      obtain ⟨x7, hx7⟩ : ∃ x7, x5 ++ [0, 0, 0] = x7 := ⟨_, rfl⟩
      rw [hx7] at L7 H7
      clear h7 b7 g7 hx7 H6 HC6 HB6 HK6 HS6 HT6 HT5 HB5 HK5 H5 a0 a1 a2 e1 e2 e3 e4 e5 e6 e7 e9 e10 hsz5
      go_upto_region 12 with (fail)
      have hszd : base ≤ w7.drew.heap.size := hsz7
      have bd7 := (Below.refl w7.heap.size w7).drew
      have HD7 := Aside0.mk (H7.out.next bd7)
      have HBD7 := Aside0.mk (HB7.out.trans (bd7.mono hsz7))
      have HKD7 := Aside0.mk (HK7.out.trans (K8.below bd7))
      have HTD7 := Aside0.mk (HT7.out.next bd7)
      have q7 := And.intro HT7.out.c.2.2.2.2.2.2.2.1 HT7.out.c.2.2.2.2.2.2.2.2.1
      have d7 := And.intro HTD7.out.c.2.2.2.2.2.2.2.1 HTD7.out.c.2.2.2.2.2.2.2.2.1
      clear bd7
      go_region_held3 (fun V => V.cell? ⟨w.heap.size + 1, 5, none⟩ = some (.float .f64 0) ∧ V.cell? ⟨w.heap.size + 1, 6, none⟩ = some (.float .f64 0)) (first | exact q7 | exact d7 | exact q8 | exact q9 | go_keep) (first
        | (go_at_call 116; (with_reducible refine (float_ok base v7 x7 _ HD7.out hszd (by omega)).mono ?_); rintro e w8 ⟨v8, x8, rfl, L8, h8, b8, k8⟩; have HT8 := Aside0.mk (HTD7.out.k8 k8); have q8 := And.intro HT8.out.c.2.2.2.2.2.2.2.1 HT8.out.c.2.2.2.2.2.2.2.2.1; have H8 := Aside0.mk h8; have HB8 := Aside0.mk (HBD7.out.trans b8); have HK8 := Aside0.mk (HKD7.out.trans k8); clear h8 b8 k8)
        | (go_at_call 116; (with_reducible refine (float_ok base v8 x8 _ H8.out (Nat.le_trans hb HB8.out.size) (by omega)).mono ?_); rintro e w9 ⟨v9, x9, rfl, L9, h9, b9, k9⟩; have HT9 := Aside0.mk (HT8.out.k8 k9); have q9 := And.intro HT9.out.c.2.2.2.2.2.2.2.1 HT9.out.c.2.2.2.2.2.2.2.2.1; have H9 := Aside0.mk h9; have HB9 := Aside0.mk (HB8.out.trans b9); have HK9 := Aside0.mk (HK8.out.trans k9); clear h9 b9 k9))
      clear q7 d7 q8 q9 HT8 H8 HB8 HK8 HD7 HBD7 HKD7 HTD7 HT7 H7 HB7 HK7
      obtain ⟨a0, a1, a2, e1, e2, e3, e4, e5, e6, e7, e9, e10⟩ := HT9.out.c
      have hsz9 := Nat.le_trans hb HB9.out.size
      have HS9 := Aside0.mk (St.mk H9.out HT9.out HB9.out HK9.out)
      clear H9 HT9 HB9 HK9 a0 a1 a2 e1 e2 e3 e4 e5 e6 e7 hsz7 hszd
      go_wp2_with (go_at_call 53; (with_reducible refine (short_ok 0 (by decide) (by decide) _).mono ?_))
      rintro e w10 ⟨r10, c10, rfl, hc10, hg10, hb10⟩
      have HS10 := Aside0.mk (HS9.out.next hsz9 hb10)
      have HC10 := Aside0.mk (one_byte hc10)
      have hsz10 := HS10.out.size hb
      have e9 := HS10.out.two.c.2.2.2.2.2.2.2.2.2.2.1
      have e10 := HS10.out.two.c.2.2.2.2.2.2.2.2.2.2.2
      clear hb10 hc10 HS9
      go_wp2_with (at_builtin; refine append_two (w0 := w) base rfl _ _ 131 92 5 rfl Tryz.underlying131 Tryz.underlying92 infoByte v9 x9 [0] ⟨r10, 0, none⟩ c10 rfl rfl HS10.out.own HC10.out HS10.out.b hsz10 (by simp; omega) ?_)
      intro v11 w11 h11 b11 g11
      have HS11 := Aside0.mk (HS10.out.grown (v' := v11) (ys := x9 ++ [0]) (by unfold B8; simpa [L9, L8, L7, L5, L2] using h11) b11 g11)
      have e9' := HS11.out.two.c.2.2.2.2.2.2.2.2.2.2.1
      have e10' := HS11.out.two.c.2.2.2.2.2.2.2.2.2.2.2
      have hsz11 := HS11.out.size hb
      have L11 : (x9 ++ [0]).length = x9.length + 1 := by simp
      obtain ⟨x11, hx11⟩ : ∃ x11, x9 ++ [0] = x11 := ⟨_, rfl⟩
      rw [hx11] at L11 HS11
      clear h11 b11 g11 hx11 HC10 HS10 e9 e10 hsz10 hsz9
      go_wp2_with (fail)
      go_loopg [0, 79] 0 (fun kq v0 v79 wr => v0 = v11 ∧ v79 = .int .i64 0 ∧ kq = 0 ∧ wr = w11)
      case atStart => exact ⟨rfl, rfl, rfl, rfl⟩
      case round =>
        obtain ⟨rfl, rfl, rfl, rfl⟩ := hrel
        go_wp2_with (go_at_call 53; (with_reducible refine (short_ok 0 (by decide) (by decide) _).mono ?_))
        rintro e w12 ⟨r12, c12, rfl, hc12, hg12, hb12⟩
        have HS12 := Aside0.mk (HS11.out.next hsz11 hb12)
        have HC12 := Aside0.mk (one_byte hc12)
        have hsz12 := HS12.out.size hb
        have e10 := HS12.out.two.c.2.2.2.2.2.2.2.2.2.2.2
        clear hb12 hc12 HS11 e9' e10'
        go_wp2_with (at_builtin; refine append_two (w0 := w) base rfl _ _ 131 92 5 rfl Tryz.underlying131 Tryz.underlying92 infoByte _ x11 [0] ⟨r12, 0, none⟩ c12 rfl rfl HS12.out.own HC12.out HS12.out.b hsz12 (by simp; omega) ?_)
        intro v13 w13 h13 b13 g13
        have HS13 := Aside0.mk (HS12.out.grown (v' := v13) (ys := x11 ++ [0]) (by unfold B8; simpa [L11, L9, L8, L7, L5, L2] using h13) b13 g13)
        have e10' := HS13.out.two.c.2.2.2.2.2.2.2.2.2.2.2
        have hsz13 := HS13.out.size hb
        have L13 : (x11 ++ [0]).length = x11.length + 1 := by simp
        obtain ⟨x13, hx13⟩ : ∃ x13, x11 ++ [0] = x13 := ⟨_, rfl⟩
        rw [hx13] at L13 HS13
        clear h13 b13 g13 hx13 HC12 HS12 e10 hsz12 hsz11
        go_wp2_with (fail)
        go_loopg [0, 97] 0 (fun kq v0 v97 wr => v0 = v13 ∧ v97 = .int .i64 0 ∧ kq = 0 ∧ wr = w13)
        case atStart => exact ⟨rfl, rfl, rfl, rfl⟩
        case round =>
          obtain ⟨rfl, rfl, rfl, rfl⟩ := hrel
          go_wp2_with (fail)
          go_ret
          exact ⟨_, rfl, x13, by omega, HS13.out.own, HS13.out.b, HS13.out.k⟩
set_option maxHeartbeats 8000000 in
set_option maxRecDepth 100000 in
theorem record_one (base : Nat) (v : Value) (xs : List Int) (t : ByteArray) (p : Nat) (w : World) (hP : Blk w p 3 #[.int .i64 1]) (h : B8 base v xs w) (hb : base ≤ w.heap.size) (hx : xs.length ≤ 65536) (ht : t.size < 128) :
    Calls Tryz.prog 54 #[v, .agg (rec_ t (.slice (some ⟨p, 0, none⟩) 1 1))] w fun e w' => ∃ v', e = .returned v' ∧ ∃ ys, ys.length ≤ xs.length + t.size + 256 ∧ B8 base v' ys w' ∧ Below base w w' ∧ K8 w w' := by
  obtain ⟨V0, hV0⟩ : ∃ V, w.alloc (.cells (rec_ t (.slice (some ⟨p, 0, none⟩) 1 1)) 45) = V := ⟨_, rfl⟩
  obtain ⟨V1, hV1⟩ : ∃ V, (V0.alloc (.cells (spc_ (.slice none 0 0)) 43)).setRow (w.heap.size + 1) (spc_ (.slice (some ⟨p, 0, none⟩) 1 1)) = V := ⟨_, rfl⟩
  have hx0 := Blk.new w 45 (rec_ t (.slice (some ⟨p, 0, none⟩) 1 1))
  have b0 := (Below.refl w.heap.size w).alloc (Nat.le_refl _) (.cells (rec_ t (.slice (some ⟨p, 0, none⟩) 1 1)) 45)
  rw [hV0] at hx0 b0
  have s0 : V0.heap.size = w.heap.size + 1 := by rw [← hV0, World.size_alloc]
  have hz1 := Blk.new V0 43 (spc_ (.slice none 0 0))
  have b1 := (Below.refl V0.heap.size V0).alloc (Nat.le_refl _) (.cells (spc_ (.slice none 0 0)) 43)
  rw [s0] at hz1
  have hx1 : Blk V1 (w.heap.size + 1) 43 (spc_ (.slice (some ⟨p, 0, none⟩) 1 1)) := by rw [← hV1]; exact setRow_heap _ (w.heap.size + 1) _ (spc_ (.slice (some ⟨p, 0, none⟩) 1 1)) 43 (0, 0) hz1
  have s1 : V1.heap.size = w.heap.size + 2 := by rw [← hV1, setRow_size, World.size_alloc, s0]
  have hr0 := hx0.next b1
  have hr1 : Blk V1 w.heap.size 45 (rec_ t (.slice (some ⟨p, 0, none⟩) 1 1)) := by rw [← hV1]; exact (setRow_other _ _ _ _ (by omega)).trans hr0
  have b2 : Below w.heap.size w V1 := by rw [← hV1]; exact (b0.trans (b1.mono (by omega))).trans ⟨rfl, rfl, rfl, by rw [setRow_size]; exact Nat.le_refl _, fun i hi => setRow_other _ _ _ _ (by omega)⟩
  obtain ⟨c0, c1, c2⟩ : V0.cell? ⟨w.heap.size, 0, none⟩ = some (.string t) ∧ V0.cell? ⟨w.heap.size, 1, none⟩ = some (.bool false) ∧ V0.cell? ⟨w.heap.size, 2, none⟩ = some (.int .u32 0) := ⟨(hx0.cell 0).trans rfl, (hx0.cell 1).trans rfl, (hx0.cell 2).trans rfl⟩
  obtain ⟨k3, k4, k5, k6, k7, k8, k9, k10, k11, k12, k13⟩ : V0.cell? ⟨w.heap.size, 3, none⟩ = some (.int .u8 0) ∧ V0.cell? ⟨w.heap.size, 4, none⟩ = some (.bool false) ∧ V0.cell? ⟨w.heap.size, 5, none⟩ = some (.string ⟨#[]⟩) ∧ V0.cell? ⟨w.heap.size, 6, none⟩ = some (.int .i16 0) ∧ V0.cell? ⟨w.heap.size, 7, none⟩ = some (.int .i8 0) ∧ V0.cell? ⟨w.heap.size, 8, none⟩ = some (.float .f64 0) ∧ V0.cell? ⟨w.heap.size, 9, none⟩ = some (.float .f64 0) ∧ V0.cell? ⟨w.heap.size, 10, none⟩ = some (.bool false) ∧ V0.cell? ⟨w.heap.size, 11, none⟩ = some (.int .u32 0) ∧ V0.cell? ⟨w.heap.size, 12, none⟩ = some (.slice none 0 0) ∧ V0.cell? ⟨w.heap.size, 13, none⟩ = some (.slice (some ⟨p, 0, none⟩) 1 1) := ⟨(hx0.cell 3).trans rfl, (hx0.cell 4).trans rfl, (hx0.cell 5).trans rfl, (hx0.cell 6).trans rfl, (hx0.cell 7).trans rfl, (hx0.cell 8).trans rfl, (hx0.cell 9).trans rfl, (hx0.cell 10).trans rfl, (hx0.cell 11).trans rfl, (hx0.cell 12).trans rfl, (hx0.cell 13).trans rfl⟩
  have HX0 := Aside0.mk hz1
  have H := Aside0.mk h
  have HPP := Aside0.mk hP
  clear hP
  have HB1 := Aside0.mk b2
  have HT := Aside0.mk (Two.mk hr1 hx1)
  obtain ⟨a0, a1, a2, e1, e2, e3, e4, e5, e6, e7, e9, e10⟩ := HT.out.c
  have HS1 := Aside0.mk s1
  clear hx0 hx1 b0 b1 b2 h hr0 hr1 hz1 s1
  have i0 : ∀ W : World, (Instr.index 235 (.agg #[.bool false, .bool false, .bool false]) (.int .i64 0)).run Tryz.prog W = .ok (.bool false) W := fun _ => by kernel_rfl
  have i1 : ∀ W : World, (Instr.index 235 (.agg #[.bool false, .bool false, .bool false]) (.int .i64 1)).run Tryz.prog W = .ok (.bool false) W := fun _ => by kernel_rfl
  have i2 : ∀ W : World, (Instr.index 235 (.agg #[.bool false, .bool false, .bool false]) (.int .i64 2)).run Tryz.prog W = .ok (.bool false) W := fun _ => by kernel_rfl
  unfold rec_ at hV0 ⊢
  have HV1 := Aside0.mk hV1
  clear hV1
  go_enter Tryz.func54, Tryz.ntmps54
  go_wp2_with (refine store_other rfl 43 (.tmp 5) (.tmp 14) rfl rfl (w.heap.size + 1) (spc_ (.slice (some ⟨p, 0, none⟩) 1 1)) (spc_ (.slice none 0 0)) rfl rfl 43 HX0.out rfl infoSpec5 (spc_one _ _ _) ?_; show wpList _ _ _ _ _ ((V0.alloc (.cells (spc_ (.slice none 0 0)) 43)).setRow (w.heap.size + 1) (spc_ (.slice (some ⟨p, 0, none⟩) 1 1))); rw [HV1.out])
  clear c0 c1 c2 k3 k4 k5 k6 k7 k8 k9 k10 k11 k12 k13 HX0 HV1 hV0
  go_loopg [6, 22] 3 (fun kq v6 v22 wr => v6 = .int .u8 0 ∧ wr = V1 ∧ ((kq = 3 ∧ v22 = .int .i64 0) ∨ (kq = 2 ∧ v22 = .int .i64 1) ∨ (kq = 1 ∧ v22 = .int .i64 2) ∨ (kq = 0 ∧ v22 = .int .i64 3)))
  case atStart => exact ⟨rfl, rfl, .inl ⟨rfl, rfl⟩⟩
  case round =>
    obtain ⟨rfl, rfl, ⟨rfl, rfl⟩ | ⟨rfl, rfl⟩ | ⟨rfl, rfl⟩ | ⟨rfl, rfl⟩⟩ := hrel
    · go_wp2_with (fail)
      go_roundg 2
      case measure => omega
      case rel => exact ⟨rfl, rfl, .inr (.inl ⟨rfl, rfl⟩)⟩
    · go_wp2_with (fail)
      go_roundg 1
      case measure => omega
      case rel => exact ⟨rfl, rfl, .inr (.inr (.inl ⟨rfl, rfl⟩))⟩
    · go_wp2_with (fail)
      go_roundg 0
      case measure => omega
      case rel => exact ⟨rfl, rfl, .inr (.inr (.inr ⟨rfl, rfl⟩))⟩
    · go_wp2_with (fail)
      have hb1 := HB1.out
      have hsz : base ≤ wr.heap.size := by have := HS1.out; omega
      have ha := ((Below.refl wr.heap.size wr).drew).alloc (Nat.le_refl _) (.cells #[.int .u8 0] 5)
      have H9 := Aside0.mk ((H.out.next (hb1.mono (Nat.le_refl _))).next ha)
      have hc := ((Blk.new wr.drew 5 #[.int .u8 0]).cell 0).trans (rfl : _ = some (Value.int .u8 0))
      have HC := Aside0.mk (one_byte hc)
      have HB9 := Aside0.mk ((hb1.mono hb).trans (ha.mono hsz))
      have HK9 := Aside0.mk ((K8.below hb1).trans (K8.below ha))
      have HS9 := Aside0.mk (show base ≤ (wr.drew.alloc (.cells #[.int .u8 0] 5)).heap.size from Nat.le_trans hsz ha.size)
      have HT9 := Aside0.mk (HT.out.next ha)
      have n0 := HT9.out.c.1
      clear hb1 ha hc i0 i1 i2 a1 a2 e1 e2 e3 e4 e5 e6 e7 e9 e10
      go_region_held3 (fun V => V.cell? ⟨w.heap.size, 0, none⟩ = some (.string t)) (first | exact a0 | exact n0 | exact q0 | exact q2 | go_keep) (first
        | (refine step_append_two (w0 := w) base (by rfl) (.tmp 32) (.tmp 34) 131 131 5 (by rfl) Tryz.underlying131 Tryz.underlying131 infoByte v xs [0] ⟨wr.heap.size, 0, none⟩ 1 (by rfl) (by rfl) H9.out HC.out HB9.out HS9.out (by simp; omega) ?_; intro v1 w1 h1 b1 g1; have K1 := Aside0.mk (HK9.out.trans (K8.grown H9.out g1)); have HT1 := Aside0.mk (HT9.out.k8 (K8.grown H9.out g1)); have q0 := HT1.out.c.1; have H1 : Aside0 (B8 base v1 (xs ++ [0]) w1) := Aside0.mk (by unfold B8; simpa using h1); clear h1 g1)
        | (go_at_call 115; (with_reducible refine (text_ok base _ (xs ++ [0]) t _ H1.out (by have := b1.size; omega) (by simp; omega) ht).mono ?_); rintro e w2 ⟨v2, rfl, h2, b2, k2⟩; have HT2 := Aside0.mk (HT1.out.k8 k2); have q2 := HT2.out.c.1; have H2 := Aside0.mk h2; have HB2 := Aside0.mk (b1.trans b2); have HK2 := Aside0.mk (K1.out.trans k2); clear h2 b2 k2))
      clear a0 n0 q0 q2
      obtain ⟨a0, a1, a2, e1, e2, e3, e4, e5, e6, e7, e9, e10⟩ := HT2.out.c
      have L2 : (xs ++ [0] ++ [(t.size : Int)] ++ bytesOf t).length = xs.length + t.size + 2 := by simp [bytesOf_length]; omega
      obtain ⟨x2, hx2⟩ : ∃ x2, xs ++ [0] ++ [(t.size : Int)] ++ bytesOf t = x2 := ⟨_, rfl⟩
      rw [hx2] at L2 H2
      go_upto_region 10 with (fail)
      have bd2 := (Below.refl w2.heap.size w2).drew
      have HD2 := Aside0.mk (H2.out.next bd2)
      have HBD2 := Aside0.mk (HB2.out.trans (bd2.mono (Nat.le_trans hb HB2.out.size)))
      have HKD2 := Aside0.mk (HK2.out.trans (K8.below bd2))
      have HTD2 := Aside0.mk (HT2.out.next bd2)
      have hsz2 := Nat.le_trans hb HB2.out.size
      obtain ⟨f2, g2⟩ : w2.drew.cell? ⟨w.heap.size, 2, none⟩ = some (.int .u32 0) ∧ w2.drew.cell? ⟨w.heap.size + 1, 2, none⟩ = some (.string ⟨#[]⟩) := ⟨HTD2.out.c.2.2.1, HTD2.out.c.2.2.2.2.1⟩
      clear bd2 a1 e1 e3 e4 e5 e6 e7 e9 e10
      go_region_held3 (fun V => V.cell? ⟨w.heap.size, 2, none⟩ = some (.int .u32 0) ∧ V.cell? ⟨w.heap.size + 1, 2, none⟩ = some (.string ⟨#[]⟩)) (first | exact ⟨a2, e2⟩ | exact ⟨f2, g2⟩ | exact q3 | exact q4 | exact q5 | go_keep) (first
        | (go_at_call 53; (with_reducible refine (short_w _).mono ?_); rintro e w3 ⟨r3, c3, rfl, hc3, hg3, hb3⟩; have HT3 := Aside0.mk (HTD2.out.next hb3); have q3 := And.intro HT3.out.c.2.2.1 HT3.out.c.2.2.2.2.1; have H3 := Aside0.mk (HD2.out.next hb3); have HB3 := Aside0.mk (HBD2.out.trans (hb3.mono hsz2)); have HK3 := Aside0.mk (HKD2.out.trans (K8.below hb3)); have HC3 := Aside0.mk (one_byte hc3); have HS3 := Aside0.mk (Nat.le_trans hsz2 hb3.size); clear hb3 hc3)
        | (refine step_append_two (w0 := w) base (by rfl) (.tmp 39) (.tmp 43) 131 92 5 (by rfl) Tryz.underlying131 Tryz.underlying92 infoByte v2 x2 [0] ⟨r3, 0, none⟩ c3 (by rfl) (by rfl) H3.out HC3.out HB3.out HS3.out (by simp; omega) ?_; intro v4 w4 h4 b4 g4; have HT4 := Aside0.mk (HT3.out.k8 (K8.grown H3.out g4)); have q4 := And.intro HT4.out.c.2.2.1 HT4.out.c.2.2.2.2.1; have K4 := Aside0.mk (HK3.out.trans (K8.grown H3.out g4)); have H4 : Aside0 (B8 base v4 (x2 ++ [0]) w4) := Aside0.mk (by unfold B8; simpa using h4); clear h4 g4)
        | (go_at_call 115; (with_reducible refine (text_ok base _ (x2 ++ [0]) ⟨#[]⟩ _ H4.out (by have := b4.size; omega) (by simp; omega) (by decide)).mono ?_); rintro e w5 ⟨v5, rfl, h5, b5, k5⟩; have HT5 := Aside0.mk (HT4.out.k8 k5); have q5 := And.intro HT5.out.c.2.2.1 HT5.out.c.2.2.2.2.1; have H5 := Aside0.mk h5; have HB5 := Aside0.mk (b4.trans b5); have HK5 := Aside0.mk (K4.out.trans k5); clear h5 b5 k5 b4))
      clear a2 e2 f2 g2 q3 q4 q5
      obtain ⟨a0, a1, a2, e1, e2, e3, e4, e5, e6, e7, e9, e10⟩ := HT5.out.c
      have L5 : (x2 ++ [0] ++ [((ByteArray.mk #[]).size : Int)] ++ bytesOf ⟨#[]⟩).length = x2.length + 2 := by simp [bytesOf_length]; rfl
      obtain ⟨x5, hx5⟩ : ∃ x5, x2 ++ [0] ++ [((ByteArray.mk #[]).size : Int)] ++ bytesOf ⟨#[]⟩ = x5 := ⟨_, rfl⟩
      rw [hx5] at L5 H5
      have hsz5 := Nat.le_trans hb HB5.out.size
      clear H9 HC HB9 HK9 HS9 HT9 K1 HT1 H1 HT2 HB2 HK2 hx2 HD2 HBD2 HKD2 HTD2 hsz2 HT3 H3 HB3 HK3 HC3 HS3 HT4 K4 H4 hx5 hg3 HT HB1 HS1 hsz H2 H s0
      have ha5 := (Below.refl w5.heap.size w5).alloc (Nat.le_refl _) (.cells #[.int .u8 0, .int .u8 0, .int .u8 0] 5)
      have H6 := Aside0.mk (H5.out.next ha5)
      have HC6 := Aside0.mk (blk_bytes (ys := [0, 0, 0]) (Blk.new w5 5 #[.int .u8 0, .int .u8 0, .int .u8 0]))
      have HB6 := Aside0.mk (HB5.out.trans (ha5.mono hsz5))
      have HK6 := Aside0.mk (HK5.out.trans (K8.below ha5))
      have HS6 := Aside0.mk (Nat.le_trans hsz5 ha5.size)
      have HT6 := Aside0.mk (HT5.out.next ha5)
      clear ha5
      go_wp2_with (at_builtin; refine append_two (w0 := w) base rfl _ _ 131 131 5 rfl Tryz.underlying131 Tryz.underlying131 infoByte v5 x5 [0, 0, 0] ⟨w5.heap.size, 0, none⟩ 3 rfl rfl H6.out HC6.out HB6.out HS6.out (by simp; omega) ?_)
      intro v7 w7 h7 b7 g7
      have hsz7 := Nat.le_trans hb b7.size
      have HT7 := Aside0.mk (HT6.out.k8 (K8.grown H6.out g7))
      have HK7 := Aside0.mk (HK6.out.trans (K8.grown H6.out g7))
      have HB7 := Aside0.mk b7
      have L7 : (x5 ++ [0, 0, 0]).length = x5.length + 3 := by simp
      have H7 : Aside0 (B8 base v7 (x5 ++ [0, 0, 0]) w7) := Aside0.mk (by unfold B8; simpa [L5, L2] using h7)
      obtain ⟨x7, hx7⟩ : ∃ x7, x5 ++ [0, 0, 0] = x7 := ⟨_, rfl⟩
      rw [hx7] at L7 H7
      clear h7 b7 g7 hx7 H6 HC6 HB6 HK6 HS6 HT6 HT5 HB5 HK5 H5 a0 a1 a2 e1 e2 e3 e4 e5 e6 e7 e9 e10 hsz5
      go_upto_region 12 with (fail)
      have hszd : base ≤ w7.drew.heap.size := hsz7
      have bd7 := (Below.refl w7.heap.size w7).drew
      have HD7 := Aside0.mk (H7.out.next bd7)
      have HBD7 := Aside0.mk (HB7.out.trans (bd7.mono hsz7))
      have HKD7 := Aside0.mk (HK7.out.trans (K8.below bd7))
      have HTD7 := Aside0.mk (HT7.out.next bd7)
      have q7 := And.intro HT7.out.c.2.2.2.2.2.2.2.1 HT7.out.c.2.2.2.2.2.2.2.2.1
      have d7 := And.intro HTD7.out.c.2.2.2.2.2.2.2.1 HTD7.out.c.2.2.2.2.2.2.2.2.1
      clear bd7
      go_region_held3 (fun V => V.cell? ⟨w.heap.size + 1, 5, none⟩ = some (.float .f64 0) ∧ V.cell? ⟨w.heap.size + 1, 6, none⟩ = some (.float .f64 0)) (first | exact q7 | exact d7 | exact q8 | exact q9 | go_keep) (first
        | (go_at_call 116; (with_reducible refine (float_ok base v7 x7 _ HD7.out hszd (by omega)).mono ?_); rintro e w8 ⟨v8, x8, rfl, L8, h8, b8, k8⟩; have HT8 := Aside0.mk (HTD7.out.k8 k8); have q8 := And.intro HT8.out.c.2.2.2.2.2.2.2.1 HT8.out.c.2.2.2.2.2.2.2.2.1; have H8 := Aside0.mk h8; have HB8 := Aside0.mk (HBD7.out.trans b8); have HK8 := Aside0.mk (HKD7.out.trans k8); clear h8 b8 k8)
        | (go_at_call 116; (with_reducible refine (float_ok base v8 x8 _ H8.out (Nat.le_trans hb HB8.out.size) (by omega)).mono ?_); rintro e w9 ⟨v9, x9, rfl, L9, h9, b9, k9⟩; have HT9 := Aside0.mk (HT8.out.k8 k9); have q9 := And.intro HT9.out.c.2.2.2.2.2.2.2.1 HT9.out.c.2.2.2.2.2.2.2.2.1; have H9 := Aside0.mk h9; have HB9 := Aside0.mk (HB8.out.trans b9); have HK9 := Aside0.mk (HK8.out.trans k9); clear h9 b9 k9))
      clear q7 d7 q8 q9 HT8 H8 HB8 HK8 HD7 HBD7 HKD7 HTD7 HT7 H7 HB7 HK7
      obtain ⟨a0, a1, a2, e1, e2, e3, e4, e5, e6, e7, e9, e10⟩ := HT9.out.c
      have hsz9 := Nat.le_trans hb HB9.out.size
      have HS9 := Aside0.mk (St.mk H9.out HT9.out HB9.out HK9.out)
      clear H9 HT9 HB9 HK9 a0 a1 a2 e1 e2 e3 e4 e5 e6 e7 hsz7 hszd
      go_wp2_with (go_at_call 53; (with_reducible refine (short_ok 0 (by decide) (by decide) _).mono ?_))
      rintro e w10 ⟨r10, c10, rfl, hc10, hg10, hb10⟩
      have HS10 := Aside0.mk (HS9.out.next hsz9 hb10)
      have HC10 := Aside0.mk (one_byte hc10)
      have hsz10 := HS10.out.size hb
      have e9 := HS10.out.two.c.2.2.2.2.2.2.2.2.2.2.1
      have e10 := HS10.out.two.c.2.2.2.2.2.2.2.2.2.2.2
      clear hb10 hc10 HS9
      go_wp2_with (at_builtin; refine append_two (w0 := w) base rfl _ _ 131 92 5 rfl Tryz.underlying131 Tryz.underlying92 infoByte v9 x9 [0] ⟨r10, 0, none⟩ c10 rfl rfl HS10.out.own HC10.out HS10.out.b hsz10 (by simp; omega) ?_)
      intro v11 w11 h11 b11 g11
      have HS11 := Aside0.mk (HS10.out.grown (v' := v11) (ys := x9 ++ [0]) (by unfold B8; simpa [L9, L8, L7, L5, L2] using h11) b11 g11)
      have e9' := HS11.out.two.c.2.2.2.2.2.2.2.2.2.2.1
      have e10' := HS11.out.two.c.2.2.2.2.2.2.2.2.2.2.2
      have hsz11 := HS11.out.size hb
      have L11 : (x9 ++ [0]).length = x9.length + 1 := by simp
      obtain ⟨x11, hx11⟩ : ∃ x11, x9 ++ [0] = x11 := ⟨_, rfl⟩
      rw [hx11] at L11 HS11
      clear h11 b11 g11 hx11 HC10 HS10 e9 e10 hsz10 hsz9
      go_wp2_with (fail)
      go_loopg [0, 79] 0 (fun kq v0 v79 wr => v0 = v11 ∧ v79 = .int .i64 0 ∧ kq = 0 ∧ wr = w11)
      case atStart => exact ⟨rfl, rfl, rfl, rfl⟩
      case round =>
        obtain ⟨rfl, rfl, rfl, rfl⟩ := hrel
        go_wp2_with (go_at_call 53; (with_reducible refine (short_ok 1 (by decide) (by decide) _).mono ?_))
        rintro e w12 ⟨r12, c12, rfl, hc12, hg12, hb12⟩
        have HS12 := Aside0.mk (HS11.out.next hsz11 hb12)
        have HC12 := Aside0.mk (one_byte hc12)
        have hsz12 := HS12.out.size hb
        have e10 := HS12.out.two.c.2.2.2.2.2.2.2.2.2.2.2
        clear hb12 hc12 HS11 e9' e10'
        go_wp2_with (at_builtin; refine append_two (w0 := w) base rfl _ _ 131 92 5 rfl Tryz.underlying131 Tryz.underlying92 infoByte _ x11 [1] ⟨r12, 0, none⟩ c12 rfl rfl HS12.out.own HC12.out HS12.out.b hsz12 (by simp; omega) ?_)
        intro v13 w13 h13 b13 g13
        have HS13 := Aside0.mk (HS12.out.grown (v' := v13) (ys := x11 ++ [1]) (by unfold B8; simpa [L11, L9, L8, L7, L5, L2] using h13) b13 g13)
        have e10' := HS13.out.two.c.2.2.2.2.2.2.2.2.2.2.2
        have hsz13 := HS13.out.size hb
        have L13 : (x11 ++ [1]).length = x11.length + 1 := by simp
        obtain ⟨x13, hx13⟩ : ∃ x13, x11 ++ [1] = x13 := ⟨_, rfl⟩
        rw [hx13] at L13 HS13
        clear h13 b13 g13 hx13 HC12 HS12 e10 hsz12 hsz11
        go_wp2_with (fail)
        have p13 : w13.cell? ⟨p, 0, none⟩ = some (.int .i64 1) := ((HS13.out.k.blk HPP.out (by decide)).cell 0).trans rfl
        go_loopg [0, 97] 1 (fun kq v0 v97 wr => (kq = 1 ∧ v0 = v13 ∧ v97 = .int .i64 0 ∧ wr = w13) ∨ (kq = 0 ∧ v97 = .int .i64 1 ∧ ∃ x15, Aside0 (x15.length = x13.length + 1) ∧ Aside0 (St base w.heap.size t (.slice (some ⟨p, 0, none⟩) 1 1) w v0 x15 wr)))
        case atStart => exact .inl ⟨rfl, rfl, rfl, rfl⟩
        case round =>
          rcases hrel with ⟨rfl, rfl, rfl, rfl⟩ | ⟨rfl, rfl, x15, L15, HS15⟩
          · go_wp2_with (go_at_call 53; (with_reducible refine (short_ok 1 (by decide) (by decide) _).mono ?_))
            rintro e w14 ⟨r14, c14, rfl, hc14, hg14, hb14⟩
            have HS14 := Aside0.mk (HS13.out.next hsz13 hb14)
            have HC14 := Aside0.mk (one_byte hc14)
            have hsz14 := HS14.out.size hb
            clear hb14 hc14 p13 e10'
            go_wp2_with (at_builtin; refine append_two (w0 := w) base rfl _ _ 131 92 5 rfl Tryz.underlying131 Tryz.underlying92 infoByte _ x13 [1] ⟨r14, 0, none⟩ c14 rfl rfl HS14.out.own HC14.out HS14.out.b hsz14 (by simp; omega) ?_)
            intro v15 w15 h15 b15 g15
            have HS15 := Aside0.mk (HS14.out.grown (v' := v15) (ys := x13 ++ [1]) (by unfold B8; simpa [L13, L11, L9, L8, L7, L5, L2] using h15) b15 g15)
            clear h15 b15 g15
            go_wp2_with (fail)
            go_roundg 0
            case measure => omega
            case rel => exact .inr ⟨rfl, rfl, x13 ++ [1], Aside0.mk (by simp), HS15⟩
          · go_wp2_with (fail)
            go_ret
            exact ⟨_, rfl, x15, by have := L15.out; omega, HS15.out.own, HS15.out.b, HS15.out.k⟩
end Go.Proofs.YtoplgeajolonoaaGreatDoor.PK
