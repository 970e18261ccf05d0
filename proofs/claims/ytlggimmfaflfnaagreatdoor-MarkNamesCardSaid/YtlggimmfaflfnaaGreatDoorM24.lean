/- RunesLaw TextWide QB -/
import Derived.Test.YtlggimmfaflfnaaGreatDoorM23
import Derived.RangeFuncBox
import Derived.Test.YtlggimmfaflfnaaGreatDoorM22
section
/- One law for the statement 'for i, r := range text.Runes(s)': what a caller owes is an invariant on its own cells and one walk of the body. -/
set_option linter.unusedVariables false
set_option linter.unusedSimpArgs false
namespace Go.Proofs.YtlggimmfaflfnaaGreatDoor.TR
open Go.RowKit Go.Shelf Go.Lib Go.Proofs.YtlggimmfaflfnaaGreatDoor.TS Go.Proofs.YtlggimmfaflfnaaGreatDoorW.PrintWords

/-- A step that turns cells alone, none of them below n₀, none of block Bn's. -/
def Turned (n₀ Bn : Nat) (W W' : World) : Prop :=
  W'.os = W.os ∧ W'.tape = W.tape ∧ W'.output = W.output ∧ W.heap.size ≤ W'.heap.size ∧
    ∃ S : Nat → Prop, (∀ k, k < W.heap.size → ¬ S k → W'.heap[k]? = W.heap[k]?) ∧ (∀ k, S k → n₀ ≤ k ∧ k ≠ Bn) ∧ (∀ k o, S k → W.heap[k]? = some o → o.isCells = true)
theorem Turned.refl (n₀ Bn : Nat) (W : World) : Turned n₀ Bn W W := ⟨rfl, rfl, rfl, Nat.le_refl _, fun _ => False, fun _ _ _ => rfl, fun _ h => h.elim, fun _ _ h => h.elim⟩
theorem Turned.below {n₀ Bn : Nat} {W W' : World} (h : Turned n₀ Bn W W') (hn : n₀ ≤ W.heap.size) : Below n₀ W W' := by
  obtain ⟨h1, h2, h3, h4, S, h5, h6, _⟩ := h
  exact ⟨h1, h2, h3, h4, fun k hk => h5 k (by omega) (fun hs => by have := (h6 k hs).1; omega)⟩
theorem Turned.box {n₀ Bn : Nat} {W W' : World} (h : Turned n₀ Bn W W') {t : TypeId} {v : Value} (hb : Boxed W Bn t v) : Boxed W' Bn t v := by
  obtain ⟨_, _, _, _, S, h5, h6, _⟩ := h
  exact (h5 Bn hb.lt (fun hs => (h6 Bn hs).2 rfl)).trans hb
theorem Turned.others {n₀ Bn : Nat} {W W' : World} (h : Turned n₀ Bn W W') : KeepsOthers W W' := by
  obtain ⟨_, _, _, h4, S, h5, _, h7⟩ := h
  exact ⟨h4, fun k o hk ho => (h5 k (Array.getElem?_eq_some_iff.1 hk).1 (fun hs => by rw [h7 k o hs hk] at ho; cases ho)).trans hk⟩
theorem Turned.of_below {n₀ Bn m : Nat} {W W' : World} (h : Below m W W') (hm : W.heap.size ≤ m) : Turned n₀ Bn W W' :=
  ⟨h.os, h.tape, h.output, h.size, fun _ => False, fun k hk _ => h.block k (by omega), fun _ h => h.elim, fun _ _ h => h.elim⟩
theorem Turned.trans {n₀ Bn : Nat} {A B C : World} (h : Turned n₀ Bn A B) (k : Turned n₀ Bn B C) : Turned n₀ Bn A C := by
  obtain ⟨a1, a2, a3, a4, S, a5, a6, a7⟩ := h
  obtain ⟨b1, b2, b3, b4, T, b5, b6, b7⟩ := k
  refine ⟨b1.trans a1, b2.trans a2, b3.trans a3, Nat.le_trans a4 b4, fun k => S k ∨ (T k ∧ ¬ S k), fun k hk hs => ?_, fun k hs => ?_, fun k o hs ho => ?_⟩
  · have h1 : ¬ S k := fun h => hs (.inl h)
    have h2 : ¬ T k := fun h => hs (.inr ⟨h, h1⟩)
    exact (b5 k (by omega) h2).trans (a5 k hk h1)
  · rcases hs with h | h
    · exact a6 k h
    · exact b6 k h.1
  · rcases hs with h | h
    · exact a7 k o h ho
    · exact b7 k o h.1 ((a5 k (Array.getElem?_eq_some_iff.1 ho).1 h.2).trans ho)
/-- a store into a box of the caller's own -/
theorem Turned.set {n₀ Bn b : Nat} {W : World} {t : TypeId} {v : Value} (hb : Boxed W b t v) (hn : n₀ ≤ b) (hne : b ≠ Bn) (u : Value) : Turned n₀ Bn W (W.setCell ⟨b, 0, none⟩ u) :=
  ⟨rfl, rfl, rfl, (KeepsWalks.setCell W _ u).size, fun k => k = b, fun k _ hk => Below.heap_setCell W ⟨b, 0, none⟩ u k hk, fun k hk => by subst hk; exact ⟨hn, hne⟩,
    fun k o hk ho => by subst hk; rw [show W.heap[k]? = _ from hb] at ho; cases ho; rfl⟩
theorem Turned.drewN {n₀ Bn : Nat} {W W' : World} (h : Turned n₀ Bn W W') (m : Nat) : Turned n₀ Bn W (W'.drewN m) := h

/-- what is said of cells alone -/
def OfCells {β : Type} (I : β → World → Prop) : Prop := ∀ (b : β) (W W' : World), I b W → (∀ (k : Nat) (o : Obj), W.heap[k]? = some o → o.isCells = true → W'.heap[k]? = some o) → I b W'
theorem OfCells.own {β : Type} {I : β → World → Prop} (h : OfCells I) : Own I := fun s W W' row hs hg hr => h s W W' hs fun k o hk ho =>
  (grownBy_keeps_cells hg hr hk ho).trans hk
theorem ofCells_boxed {β : Type} (B : β → Nat) (t : TypeId) (v : β → Value) : OfCells (fun b W => Boxed W (B b) t (v b)) := fun _ _ _ h hk => hk _ _ h rfl
theorem OfCells.and {β : Type} {I J : β → World → Prop} (h : OfCells I) (k : OfCells J) : OfCells (fun b W => I b W ∧ J b W) := fun b W W' hs hk => ⟨h b W W' hs.1 hk, k b W W' hs.2 hk⟩
theorem ofCells_pure {β : Type} (p : β → Prop) : OfCells (fun b (_ : World) => p b) := fun _ _ _ h _ => h

/-- HOW THE BODY OF A ROUND MAY BE LEFT. -/
def rpost (n₀ Bn : Nat) (I : List (Nat × Int) → World → Prop) (Ix : Code → List (Nat × Int) → World → Prop) (xs : List (Nat × Int)) (W : World) : Exit → Act → World → Prop
  | .normal, _, W' => Turned n₀ Bn W W' ∧ I xs W'
  | .ret, _, W' => Turned n₀ Bn W W' ∧ Ix .ret xs W'
  | .exit id, _, W' => Turned n₀ Bn W W' ∧ Ix (.exit id) xs W'
  | .goto t, _, W' => Turned n₀ Bn W W' ∧ Ix (.goto t) xs W'
  | .panic _, _, _ => False
  | .outgrown, _, _ => False

set_option maxHeartbeats 1000000 in
theorem wp_runes (n : Nat) (hn : 4 ≤ n) {g : Operand} {ps : Array Tmp} {assign body : Code} {Q : Exit → Act → World → Prop} {a : Act} {w W0 : World} (n₀ Bn : Nat) (s : ByteArray)
    (hg : a.eval g = .func (.func 272) #[] #[.pointer (some ⟨Bn, 0, none⟩)]) (hps : ps.size = 2) (hbox : Boxed w Bn 9 (.string s)) (hW0 : Below n₀ W0 w) (hn₀ : n₀ ≤ W0.heap.size)
    (I : List (Nat × Int) → World → Prop) (Ix : Code → List (Nat × Int) → World → Prop) (hI : OfCells I) (hIx : ∀ c, OfCells (Ix c)) (h0 : I [] w) (a₁ : Nat → Int → Act)
    (hassign : ∀ (l : Nat) (i : Nat) (r : Int) (W : World) (K : Act → World → Prop), K (a₁ i r) W →
      assign.wpIn (Fence.wide.inRound l) (n - 1 - 1) Tryz.prog (Exit.then K (fun _ _ _ => False)) { tmps := (ps.zip #[.int .i64 i, .int .i32 r]).foldl (fun t (p, v) => t.setIfInBounds p v) a.tmps, defers := [] } W)
    (hbody : ∀ (l : Nat) (pre : List (Nat × Int)) (i : Nat) (r : Int) (W : World), I pre W → Below n₀ W0 W → Boxed W Bn 9 (.string s) → w.heap.size ≤ W.heap.size → (i, r) ∈ runes s.data.toList → pre.length < (runes s.data.toList).length →
      body.wpIn (Fence.wide.inRound l) (n - 1 - 1) Tryz.prog (rpost n₀ Bn I Ix (pre ++ [(i, r)]) W) (a₁ i r) W)
    (hdone : ∀ (D : Nat) (W : World), w.heap.size ≤ D → I (runes s.data.toList) W → Below n₀ W0 W → W.heap[D]? = some (.deferred (some [])) → Q .normal { a with defers := { target := .collected D, args := #[] } :: a.defers } W)
    (hstop : ∀ (D : Nat) (c : Code) (pre : List (Nat × Int)) (W : World), w.heap.size ≤ D → pre <+: runes s.data.toList → Ix c pre W → Below n₀ W0 W → W.heap[D]? = some (.deferred (some [])) → c.wpIn Fence.wide n Tryz.prog Q { a with defers := { target := .collected D, args := #[] } :: a.defers } W) :
    (Code.rangeFunc g ps assign body).wpIn Fence.wide n Tryz.prog Q a w := by
  have hseq : SeqStopsK Fence.wide (n - 1) Tryz.prog 272 #[.pointer (some ⟨Bn, 0, none⟩)] (encs s) (KpB Bn s) (fun ys => vals ys = runes s.data.toList) (fun pre => vals pre <+: runes s.data.toList) (runes s.data.toList).length w :=
    runes_stops (n - 1) (by omega) Bn s w hbox.cell
  have hnw : n₀ ≤ w.heap.size := Nat.le_trans hn₀ hW0.size
  refine wpIn_rangeFunc_ownG (n := n) rfl (by omega) hg trivial (enters_of Tryz.func272 (by kernel_rfl) rfl) hseq KpB_t (fun W l o o' _ h h1 h2 => KpB_b W l o o' h h1 h2) (Below.refl _ _) (fun x => by simp [encs, hps])
    (fun pre W => (I (vals pre) W ∧ Boxed W Bn 9 (.string s)) ∧ Below n₀ W0 W ∧ w.heap.size ≤ W.heap.size) (fun c pre W => Ix c (vals pre) W ∧ Below n₀ W0 W)
    (OwnFrom.and (Own.from (fun s' W W' row hs hgr hr => ⟨hI.own _ W W' row hs.1 hgr hr, (ofCells_boxed (fun _ : Unit => Bn) _ (fun _ => .string s)).own () W W' row hs.2 hgr hr⟩) _) (OwnFrom.and (ownFrom_below hn₀ hnw) (fun s' W W' row hs hgr _ => Nat.le_trans hs hgr.size)))
    (fun c => OwnFrom.and (Own.from (I := fun (pre : List (El s)) W => Ix c (vals pre) W) (fun s' W W' row hs hgr hr => (hIx c).own _ W W' row hs hgr hr) _) (ownFrom_below hn₀ hnw))
    ⟨⟨h0, hbox⟩, hW0, Nat.le_refl _⟩ (fun x => a₁ x.1.1 x.1.2) ?_ ?_ ?_ ?_
  · intro l x W K hK
    exact hassign l x.1.1 x.1.2 W K hK
  · rintro l pre x W ⟨⟨hi, hb⟩, hB, hsz⟩ hlt
    have hx : vals (pre ++ [x]) = vals pre ++ [(x.1.1, x.1.2)] := vals_snoc pre x
    have hlen : (vals pre).length = pre.length := by simp [vals]
    refine wpIn_mono (hbody l (vals pre) x.1.1 x.1.2 W hi hB hb hsz x.2 (by rw [hlen]; exact hlt)) ?_
    have hnW : n₀ ≤ W.heap.size := Nat.le_trans hnw hsz
    rintro e a3 W3 hp
    have key : Turned n₀ Bn W W3 → KeepsFrom w.heap.size W W3 ∧ KpB Bn s W W3 ∧ Boxed W3 Bn 9 (.string s) ∧ Below n₀ W0 W3 ∧ w.heap.size ≤ W3.heap.size := fun ht =>
      ⟨ht.others.from _, ⟨fun _ => (ht.box hb).cell, ht.others.walks⟩, ht.box hb, hB.trans (ht.below hnW), Nat.le_trans hsz ht.others.size⟩
    cases e with
    | normal => obtain ⟨k1, k2, k3, k4, k5⟩ := key hp.1; exact ⟨k1, k2, ⟨by rw [hx]; exact hp.2, k3⟩, k4, k5⟩
    | ret => obtain ⟨k1, _, _, k4, _⟩ := key hp.1; exact ⟨k1, by rw [hx]; exact hp.2, k4⟩
    | exit id => obtain ⟨k1, _, _, k4, _⟩ := key hp.1; exact ⟨k1, by rw [hx]; exact hp.2, k4⟩
    | goto t => obtain ⟨k1, _, _, k4, _⟩ := key hp.1; exact ⟨k1, by rw [hx]; exact hp.2, k4⟩
    | panic ch => exact hp.elim
    | outgrown => exact hp.elim
  · rintro D xs W hD hS ⟨⟨hi, _⟩, hB, _⟩ hK
    exact hdone D W hD (by rw [← hS]; exact hi) hB hK
  · rintro D c pre W hD hS ⟨hi, hB⟩ hK
    exact hstop D c (vals pre) W hD hS hi hB hK

end Go.Proofs.YtlggimmfaflfnaaGreatDoor.TR
end
section
/- Small words on runes: without text.Width, where that is not in the program's cut. -/
set_option linter.unusedVariables false
set_option linter.unusedSimpArgs false
namespace Go.Proofs.YtlggimmfaflfnaaGreatDoor.TR
open Go.RowKit Go.Shelf Go.Lib Go.Proofs.YtlggimmfaflfnaaGreatDoor.TS Go.Proofs.YtlggimmfaflfnaaGreatDoorW.PrintWords
attribute [local go_sem] Oper.semAt_some

def wideI (r : Int) : Int := if r < 32 ∨ r = 127 then 4 else if r = 92 then 2 else 1
/-- the width of what has come -/
def sumW (l : List (Nat × Int)) : Int := (l.map fun x => wideI x.2).sum
theorem runes_le (s : ByteArray) : (runes s.data.toList).length ≤ s.size := by
  unfold runes; rw [runesFrom_length]; exact Nat.le_trans (pieces_length _) (by rw [bytes_length]; exact Nat.le_refl _)
theorem hmx : Tryz.prog.follows .mixedOrders = true := by kernel_rfl

end Go.Proofs.YtlggimmfaflfnaaGreatDoor.TR
end
section
-- Written by wip/tools/myprint.py of this seat's repo: the kit's print, with contracts of our own for some functions.
namespace Go.Proofs.YtlggimmfaflfnaaGreatDoor.QB
open Go.RowKit Go.Proofs.YtlggimmfaflfnaaGreatDoorW.PrintWords Go.Proofs.YtlggimmfaflfnaaGreatDoorW.PrintLast Go.Proofs.YtlggimmfaflfnaaGreatDoorW.PrintMore
attribute [local go_sem] max2_int min2_int max_two min_two max_three min_three max_four min_four   -- for this text's walks alone
set_option linter.unusedVariables false
set_option linter.unusedSimpArgs false

end Go.Proofs.YtlggimmfaflfnaaGreatDoor.QB
end
