/- Bits Bytes -/
import Derived.Test.YtoplgeajolonoaaGreatDoorProg
import Derived.Laws.Externs
import Derived.WalkKit
import Derived.Test.YtoplgeajolonoaaGreatDoorM1
import Derived.Test.YtoplgeajolonoaaGreatDoorM3
import Derived.Laws.AppendOwn
import Derived.Deep.LoopGhost
section
/- math.Float64bits. -/
set_option linter.unusedVariables false
namespace Go.Proofs.YtoplgeajolonoaaGreatDoor.TW
open Go.RowKit
theorem bits_run (x : Nat) (W : World) : Sem.run Tryz.prog (callFunc 137 #[.float .f64 x]) W = .ok (.value (.int .u64 x)) W := by
  rw [run_callFunc_extern Tryz.func137 (by kernel_rfl) (by kernel_rfl) (by kernel_rfl) (e := Extern.MathFloatBits.float64bits) (by kernel_rfl)]
  rfl
end Go.Proofs.YtoplgeajolonoaaGreatDoor.TW
end
section
/- Bytes put behind bytes: short, text, float. -/
set_option linter.unusedVariables false
set_option linter.unusedSimpArgs false
namespace Go.Proofs.YtoplgeajolonoaaGreatDoor.PK
open Go.RowKit Go.Proofs.YtoplgeajolonoaaGreatDoorW.PrintWords Go.Proofs.YtoplgeajolonoaaGreatDoorW.PrintMore Go.Proofs.YtoplgeajolonoaaGreatDoor.TF

section
variable {P : Program}
theorem two_types {t u e e' : TypeId} (ht : P.underlying t = some (.slice e)) (hu : P.underlying u = some (.slice e')) (ty : TypeId) (s x : Value) (w : World) :
    (Builtin.append_ #[t, u] ty #[s, x]).run P w = (Builtin.append_ #[t, t] ty #[s, x]).run P w := by
  cases s <;> simp [Builtin.append_, Sem.run_bind, run_underlying ht, run_underlying hu]
theorem append_two {w0 W : World} {ops : Array Oper} {rest : List Oper} {o : Oper} {a : Act} {Q : Exit → Act → World → Prop} (base : Nat) (hgd : o.guard = none) (s x : Operand) (t u e : TypeId)
    (ho : o.op = .call { callee := .builtin .append, args := #[s, x], argTypes := #[t, u] })
    (ht : P.underlying t = some (.slice e)) (hu : P.underlying u = some (.slice e)) (hinfo : (P.info? e).map (fun i => (i.zero, i.size, i.bytes)) = some (some (.int .u8 0), 1, 1))
    (v : Value) (xs ys : List Int) (ad : Addr) (c : Nat) (hs : a.eval s = v) (hx : a.eval x = .slice (some ad) ys.length c)
    (HO : W.ownsRow base e 1 v xs.length (nums .u8 xs)) (hy : ∀ j y, (nums .u8 ys)[j]? = some y → W.cell? (ad.add j) = some y) (HB : Below base w0 W) (hbase : base ≤ W.heap.size) (hl : xs.length + ys.length ≤ 140737488355328)
    (h : ∀ v1 w1, w1.ownsRow base e 1 v1 (xs ++ ys).length (nums .u8 (xs ++ ys)) → Below base w0 w1 → W.grownBy w1 v.ownBlock → wpList P ops Q rest (a.put o.dst v1) w1) :
    wpList P ops Q (o :: rest) a W := by
  obtain ⟨i0, hi, hzz⟩ := Option.map_eq_some_iff.1 hinfo
  simp only [Prod.mk.injEq] at hzz
  obtain ⟨hz0, hz1, hz2⟩ := hzz
  refine wpList_plain hgd fun K hK => ?_
  obtain ⟨v', w', hr, h2, h3, h4⟩ := run_append_own (P := P) W base t o.type e i0 (.int .u8 0) 1 1 ht hi hz0 hz1 hz2 rfl (by decide) v xs.length (nums .u8 xs) HO ad ys.length c (nums .u8 ys) (by simp [nums_length]) hy (by intro q hq; simp [nums] at hq; obtain ⟨_, _, rfl⟩ := hq; rfl) (by simp only [maxLen]; omega) (by omega) hbase
  rw [← two_types ht hu] at hr
  unfold Oper.wp execOp
  simp only [ho, resolve, invoke, builtin, Sem.run_bind, Sem.run_pure, Result.andThen_ok, List.map_toArray, List.map_cons, List.map_nil, hs, hx, hr]
  exact hK _ _ (h v' w' (by rw [List.length_append]; simpa [nums] using h2) (HB.grown h3 hbase (own_base HO)) h3)
end
/-- what is no row of bytes is as it was -/
def K8 (W V : World) : Prop := ∀ (k : Nat) (cs : Array Value) (t : TypeId) (fr : Nat × Nat), W.heap[k]? = some (Obj.cells cs t fr) → t ≠ 5 → V.heap[k]? = W.heap[k]?
theorem K8.refl (W : World) : K8 W W := fun _ _ _ _ _ _ => rfl
theorem K8.trans {W V U : World} (h : K8 W V) (h' : K8 V U) : K8 W U := fun k cs t fr hk ht => (h' k cs t fr ((h k cs t fr hk ht).trans hk) ht).trans (h k cs t fr hk ht)
theorem K8.below {W V : World} (h : Below W.heap.size W V) : K8 W V := fun k _ _ _ hk _ => h.block k (Array.getElem?_eq_some_iff.1 hk).1
theorem K8.grown {W V : World} {base n : Nat} {v : Value} {xs : List Value} (ho : W.ownsRow base 5 1 v n xs) (hg : W.grownBy V v.ownBlock) : K8 W V := by
  intro k cs t fr hk ht
  refine hg.block k (Array.getElem?_eq_some_iff.1 hk).1 (fun he => ?_)
  obtain ⟨cells, hc⟩ := own_typed ho he.symm
  rw [hk] at hc
  injection hc with hc
  injection hc with _ hc
  exact ht hc
theorem K8.blk {W V : World} {g : Nat} {t : TypeId} {cs : Array Value} (h : K8 W V) (hb : Blk W g t cs) (ht : t ≠ 5) : Blk V g t cs := (h g cs t (0, 0) hb ht).trans hb
theorem infoByte : (Tryz.prog.info? 5).map (fun i => (i.zero, i.size, i.bytes)) = some (some (.int .u8 0), 1, 1) := by kernel_rfl
set_option maxRecDepth 100000 in
/-- a short number below 128: one byte -/
theorem short_ok (n : Int) (h0 : 0 ≤ n) (h1 : n < 128) (w : World) : Calls Tryz.prog 53 #[.int .u64 n] w fun e w' => ∃ g c, e = .returned (.slice (some ⟨g, 0, none⟩) 1 c) ∧ w'.cell? ⟨g, 0, none⟩ = some (.int .u8 n) ∧ w.heap.size ≤ g ∧ Below w.heap.size w w' := by
  have h2 : ¬ (128 ≤ n) := by omega
  have hwr : IntKind.u8.wrap n = n := by simp [IntKind.wrap, IntKind.bits, IntKind.signed]; omega
  go_enter Tryz.func53, Tryz.ntmps53
  go_wp2_with (fail)
  go_loopg [0, 3] 0 (fun kq v0 v3 wr => v0 = .int .u64 n ∧ v3 = .slice none 0 0 ∧ kq = 0 ∧ wr = w)
  case atStart => exact ⟨rfl, rfl, rfl, rfl⟩
  case round =>
    obtain ⟨rfl, rfl, rfl, rfl⟩ := hrel
    go_wp2_with (fail)
    go_ret
    refine ⟨_, _, rfl, ?_, by simp, ((Below.refl _ wr).alloc (Nat.le_refl _) _ |>.alloc (by simp) _).drew⟩
    have h := Blk.new (wr.alloc (.cells #[.int .u8 n] 5)) 5 (#[.int .u8 n] ++ Builtin.zeroCells #[Value.int .u8 0] ((Question.appendCap 1 0 5).cut (wr.tape wr.drawn (Question.appendCap 1 0 5)) - 1))
    rw [World.size_alloc] at h
    refine (h.cell 0).trans ?_
    rw [Array.getElem?_append_left (by simp)]
    rfl
/-- the world owns the row of bytes xs at v, above base -/
def B8 (base : Nat) (v : Value) (xs : List Int) (W : World) : Prop := W.ownsRow base 5 1 v xs.length (nums .u8 xs)
theorem B8.next {base : Nat} {v : Value} {xs : List Int} {W V : World} (h : B8 base v xs W) (hb : Below W.heap.size W V) : B8 base v xs V := own_next h hb
theorem one_byte {g : Nat} {n : Int} {W : World} (h : W.cell? ⟨g, 0, none⟩ = some (.int .u8 n)) : ∀ j y, (nums .u8 [n])[j]? = some y → W.cell? ((⟨g, 0, none⟩ : Addr).add j) = some y := by
  intro j y hj
  match j, hj with
  | 0, hj => simp [nums] at hj; subst hj; simpa [Addr.add] using h
set_option maxRecDepth 100000 in
/-- a text behind bytes -/
theorem text_ok (base : Nat) (v : Value) (xs : List Int) (t : ByteArray) (w : World) (h : B8 base v xs w) (hb : base ≤ w.heap.size) (hx : xs.length ≤ 1048576) (ht : t.size < 128) :
    Calls Tryz.prog 115 #[v, .string t] w fun e w' => ∃ v', e = .returned v' ∧ B8 base v' (xs ++ [(t.size : Int)] ++ bytesOf t) w' ∧ Below base w w' ∧ K8 w w' := by
  have HS := Aside0.mk (short_ok (t.size : Int) (by omega) (by omega) w)
  have H := Aside0.mk h
  clear h
  go_enter Tryz.func115, Tryz.ntmps115
  go_wp2_with (go_at_call 53; (with_reducible refine HS.out.mono ?_))
  rintro e w1 ⟨g, c, rfl, hc, hg, hb1⟩
  have h1 := H.out.next hb1
  have hB1 := hb1.mono hb
  have hs1 := hb1.size
  have k1 := K8.below hb1
  have K1 := Aside0.mk k1
  clear k1
  go_wp2_with (at_builtin; refine append_two (w0 := w) base rfl _ _ 131 92 5 rfl Tryz.underlying131 Tryz.underlying92 infoByte _ xs [(t.size : Int)] ⟨g, 0, none⟩ c rfl rfl h1 (one_byte hc) hB1 (by omega) (by simp; omega) ?_)
  intro v2 w2 h2 hB2 g2
  have K2 := Aside0.mk (K1.out.trans (K8.grown h1 g2))
  clear g2
  have hs2 := hB2.size
  have H2 : Aside0 (B8 base v2 (xs ++ [(t.size : Int)]) w2) := Aside0.mk (by unfold B8; simpa using h2)
  clear h2
  go_wp2_with (at_builtin; refine print_append_str (w0 := w) base rfl _ _ 131 9 5 rfl Tryz.underlying131 Tryz.underlying9 infoByte _ (xs ++ [(t.size : Int)]) t rfl rfl H2.out hB2 (by omega) (by simp; omega) ?_)
  intro v3 w3 h3 hB3 g3
  have K3 := Aside0.mk (K2.out.trans (K8.grown H2.out g3))
  clear g3
  have H3 : Aside0 (B8 base v3 (xs ++ [(t.size : Int)] ++ bytesOf t) w3) := Aside0.mk (by unfold B8; simpa using h3)
  clear h3
  go_wp2
  go_ret
  exact ⟨_, rfl, H3.out, hB3, K3.out⟩
set_option maxHeartbeats 4000000 in
set_option maxRecDepth 100000 in
/-- the float 0 behind bytes: eight more -/
theorem float_ok (base : Nat) (v : Value) (xs : List Int) (w : World) (h : B8 base v xs w) (hb : base ≤ w.heap.size) (hx : xs.length ≤ 1048576) :
    Calls Tryz.prog 116 #[v, .float .f64 0] w fun e w' => ∃ v' ys, e = .returned v' ∧ ys.length = xs.length + 8 ∧ B8 base v' ys w' ∧ Below base w w' ∧ K8 w w' := by
  have H := Aside0.mk h
  have hbits : ∀ W, Sem.run Tryz.prog (callFunc 137 #[.float .f64 0]) W = .ok (.value (.int .u64 0)) W := fun W => TW.bits_run 0 W
  have hnan : ∀ W, Calls Tryz.prog 155 #[.float .f64 0] W fun e w' => e = .returned (.bool false) ∧ w' = W := fun W => by
    have hne : ∀ W : World, (binOp BinOp.neq 39 (.float .f64 0) (.float .f64 0)).run Tryz.prog W = .ok (.bool false) W := fun _ => by kernel_rfl
    go_enter Tryz.func155, Tryz.ntmps155
    go_wp2
    go_ret
    exact ⟨by kernel_rfl, rfl⟩
  clear h
  go_enter Tryz.func116, Tryz.ntmps116
  go_wp2_with (go_at_call 155; (with_reducible refine (hnan _).mono ?_); rintro e w ⟨rfl, rfl⟩)
  go_loopg [0, 6] 8 (fun kq v0 v6 wr => ∃ (i : Int) (ys : List Int), v6 = .int .i64 i ∧ i = 8 * (kq : Int) - 8 ∧ kq ≤ 8 ∧ ys.length + kq = xs.length + 8 ∧ Aside0 (B8 base v0 ys wr) ∧ Aside0 (Below base w wr) ∧ Aside0 (K8 w wr))
  case atStart => exact ⟨56, xs, rfl, rfl, by omega, rfl, H, Aside0.mk (Below.refl _ _), Aside0.mk (K8.refl _)⟩
  case round =>
    obtain ⟨i, ys, rfl, hi, hk, hl, H8, HB, HK⟩ := hrel
    have hsz := HB.out.size
    by_cases h0 : 0 ≤ i
    · have h1 : ¬ (i < 0) := by omega
      have ha := (Below.refl wr.heap.size wr).alloc (Nat.le_refl _) (.cells #[.int .u8 0] 5)
      have H9 := Aside0.mk (H8.out.next ha)
      have hc := ((Blk.new wr 5 #[.int .u8 0]).cell 0).trans (rfl : _ = some (Value.int .u8 0))
      have HC := Aside0.mk (one_byte hc)
      have HB9 := Aside0.mk (HB.out.alloc (by omega) (.cells #[.int .u8 0] 5))
      have hs9 := ha.size
      have HK9 := Aside0.mk (HK.out.trans (K8.below ha))
      have HI := Aside0.mk hi
      have hi2 : i ≤ 56 := by omega
      clear hi ha hc
      go_wp2_with (at_builtin; refine append_two (w0 := w) base rfl _ _ 131 131 5 rfl Tryz.underlying131 Tryz.underlying131 infoByte _ ys [0] ⟨wr.heap.size, 0, none⟩ 1 rfl rfl H9.out HC.out HB9.out (by omega) (by simp; omega) ?_)
      intro v1 w1 h2 b2 g2
      have HK2 := Aside0.mk (HK9.out.trans (K8.grown H9.out g2))
      clear g2
      have H2 : Aside0 (B8 base v1 (ys ++ [0]) w1) := Aside0.mk (by unfold B8; simpa using h2)
      have HB2 := Aside0.mk b2
      clear h2 b2
      go_wp2_with (fail)
      go_roundg (gk - 1)
      case measure => have := HI.out; omega
      case rel =>
        have hi3 := HI.out
        refine ⟨_, ys ++ [0], rfl, ?_, by omega, by simp; omega, H2, HB2, HK2⟩
        omega
    · have h1 : i < 0 := by omega
      have HI := Aside0.mk hi
      clear hi
      go_wp2_with (fail)
      go_ret
      exact ⟨_, rfl, ys, by have := HI.out; omega, H8.out, HB.out, HK.out⟩
end Go.Proofs.YtoplgeajolonoaaGreatDoor.PK
end
