/- Frame -/
import Derived.Below
import Derived.Laws.OwnMore
import Derived.Laws.Rows
import Derived.Deep.Draws
import Derived.Deep.AppendLies
import Derived.WalkKit
import Derived.RangeFuncRecord
/- Blocks known whole; what a call leaves alone: all blocks of before but those of a set. -/
set_option linter.unusedVariables false
set_option linter.unusedSimpArgs false
namespace Go.Proofs.YtoplgeajolonoaaGreatDoor.TF
open Go.RowKit

/-- block g is the cells cs of element type t, none frozen -/
def Blk (w : World) (g : Nat) (t : TypeId) (cs : Array Value) : Prop := w.heap[g]? = some (.cells cs t (0, 0))
/-- a call's frame: the blocks of before, but those of S, are as they were -/
structure Fr (S : Nat → Prop) (W V : World) : Prop where
  os : V.os = W.os
  tape : V.tape = W.tape
  output : V.output = W.output
  size : W.heap.size ≤ V.heap.size
  block : ∀ k, k < W.heap.size → ¬ S k → V.heap[k]? = W.heap[k]?
section
variable {S S' : Nat → Prop} {W V U : World} {g n base size : Nat} {t e : TypeId} {cs : Array Value} {v : Value} {xs : List Value}
theorem Fr.refl (S : Nat → Prop) (W : World) : Fr S W W := ⟨rfl, rfl, rfl, Nat.le_refl _, fun _ _ _ => rfl⟩
theorem Fr.of (h : Below W.heap.size W V) : Fr S W V := ⟨h.os, h.tape, h.output, h.size, fun k hk _ => h.block k hk⟩
theorem Fr.mono (h : Fr S W V) (hs : ∀ k, S k → S' k) : Fr S' W V := ⟨h.os, h.tape, h.output, h.size, fun k hk hn => h.block k hk (fun hk' => hn (hs k hk'))⟩
theorem Fr.trans (h : Fr S W V) (h' : Fr S' V U) (hs : ∀ k, S' k → S k ∨ W.heap.size ≤ k) : Fr S W U :=
  ⟨h'.os.trans h.os, h'.tape.trans h.tape, h'.output.trans h.output, Nat.le_trans h.size h'.size, fun k hk hn => (h'.block k (Nat.lt_of_lt_of_le hk h.size) (fun hk' => by rcases hs k hk' with h1 | h1; exact hn h1; omega)).trans (h.block k hk hn)⟩
theorem Fr.below {m : Nat} (h : Fr S W V) (hm : m ≤ W.heap.size) (hs : ∀ k, S k → m ≤ k) : Below m W V :=
  ⟨h.os, h.tape, h.output, h.size, fun k hk => h.block k (by omega) (fun hk' => by have := hs k hk'; omega)⟩
theorem Fr.then_ (h : Fr S W V) (h' : Below V.heap.size V U) : Fr S W U := h.trans (S' := fun _ => False) (Fr.of h') (fun _ hk => hk.elim)
theorem Fr.alloc (h : Fr S W V) (o : Obj) : Fr S W (V.alloc o) := h.then_ ((Below.refl _ V).alloc (Nat.le_refl _) o)
theorem Fr.drew (h : Fr S W V) : Fr S W V.drew := h.then_ (Below.refl _ V).drew
theorem Fr.drewN (h : Fr S W V) (m : Nat) : Fr S W (V.drewN m) := by
  induction m with
  | zero => exact h
  | succ m ih => exact ih.drew
theorem Fr.set (h : Fr S W V) {p : Addr} (hp : S p.block ∨ W.heap.size ≤ p.block) (u : Value) : Fr S W (V.setCell p u) :=
  ⟨h.os, h.tape, h.output, by rw [World.size_setCell]; exact h.size, fun k hk hn => (Below.heap_setCell V p u k (fun e => by subst e; rcases hp with h1 | h1; exact hn h1; omega)).trans (h.block k hk hn)⟩
theorem Blk.lt (h : Blk W g t cs) : g < W.heap.size := (Array.getElem?_eq_some_iff.1 h).1
theorem Blk.cell (h : Blk W g t cs) (i : Nat) : W.cell? ⟨g, i, none⟩ = cs[i]? := cell_of_row W g i cs t (0, 0) h
theorem Blk.frozen (h : Blk W g t cs) (i : Nat) : W.frozen? ⟨g, i, none⟩ = false := by
  unfold Blk at h
  simp [World.frozen?, h]
theorem Blk.new (W : World) (t : TypeId) (cs : Array Value) : Blk (W.alloc (.cells cs t)) W.heap.size t cs := World.alloc_heap_new W _
theorem Blk.set_ (h : Blk W g t cs) (i : Nat) (u : Value) : Blk (W.setCell ⟨g, i, none⟩ u) g t (cs.setIfInBounds i u) := by
  unfold Blk at h ⊢
  simp [World.setCell, Array.getElem?_modify, h]
theorem Blk.far (h : Blk W g t cs) {p : Addr} (hp : g ≠ p.block) (u : Value) : Blk (W.setCell p u) g t cs := (Below.heap_setCell W p u g hp).trans h
theorem Blk.fr (h : Blk W g t cs) (hf : Fr S W V) (hg : ¬ S g) : Blk V g t cs := (hf.block g h.lt hg).trans h
theorem Blk.next (h : Blk W g t cs) (hb : Below W.heap.size W V) : Blk V g t cs := (hb.block g h.lt).trans h
theorem Blk.under {m : Nat} (h : Blk W g t cs) (hb : Below m W V) (hg : g < m) : Blk V g t cs := (hb.block g hg).trans h
theorem Blk.ne_ {g' : Nat} {t' : TypeId} {cs' : Array Value} (h : Blk W g t cs) (h' : Blk W g' t' cs') (hne : t ≠ t') : g ≠ g' := by
  rintro rfl
  unfold Blk at h h'
  rw [h] at h'
  injection h' with h'
  injection h' with _ ht
  exact hne ht
theorem own_fr (h : W.ownsRow base e size v n xs) (hf : Fr S W V) (hs : ∀ k, v.ownBlock = some k → ¬ S k) : V.ownsRow base e size v n xs := by
  obtain ⟨h1, h2⟩ := h
  refine ⟨h1, ?_⟩
  rcases h2 with h2 | ⟨g, cap, cur, rfl, hg, hh, r⟩
  · exact .inl h2
  · exact .inr ⟨g, cap, cur, rfl, hg, (hf.block g (Array.getElem?_eq_some_iff.1 hh).1 (hs g (by simp [Value.ownBlock]))).trans hh, r⟩
theorem own_next (h : W.ownsRow base e size v n xs) (hb : Below W.heap.size W V) : V.ownsRow base e size v n xs := own_fr (S := fun _ => False) h (Fr.of hb) (fun _ _ hk => hk)
theorem own_lower {base' : Nat} (h : W.ownsRow base e size v n xs) (hb : base' ≤ base) : W.ownsRow base' e size v n xs := by
  obtain ⟨h0, h1 | ⟨g, cap, cur, h1, h2, h3⟩⟩ := h
  · exact ⟨h0, .inl h1⟩
  · exact ⟨h0, .inr ⟨g, cap, cur, h1, Nat.le_trans hb h2, h3⟩⟩
theorem own_slice (h : W.ownsRow base e size v n xs) : ∃ A c, v = .slice A n c := by
  rcases h with ⟨_, ⟨rfl, rfl⟩ | ⟨g, cap, cur, rfl, _⟩⟩
  · exact ⟨_, _, rfl⟩
  · exact ⟨_, _, rfl⟩
theorem own_some {A : Option Addr} {c : Nat} (h : W.ownsRow base e size (.slice A n c) n xs) (hn : 0 < n) : ∃ g, A = some ⟨g, 0, none⟩ := by
  rcases h.2 with ⟨_, h0⟩ | ⟨g, cap, cur, hv, _⟩
  · omega
  · injection hv with h1 _ _
    exact ⟨g, h1⟩
theorem own_typed (h : W.ownsRow base e size v n xs) {k : Nat} (hk : v.ownBlock = some k) : ∃ cells, W.heap[k]? = some (.cells cells e (0, 0)) := by
  rcases h.2 with ⟨rfl, _⟩ | ⟨g, cap, cur, rfl, hg, hh, r⟩
  · simp [Value.ownBlock] at hk
  · have : g = k := by simpa [Value.ownBlock] using hk
    subst this
    exact ⟨cur, hh⟩
theorem own_blk_ne (h : W.ownsRow base e size v n xs) (hg : Blk W g t cs) (hne : e ≠ t) : v.ownBlock ≠ some g := fun hk => by
  obtain ⟨cells, hc⟩ := own_typed h hk
  exact Blk.ne_ (t := e) hc hg hne rfl
theorem own_own_ne {base' size' n' : Nat} {e' : TypeId} {v' : Value} {xs' : List Value} (h : W.ownsRow base e size v n xs) (h' : W.ownsRow base' e' size' v' n' xs') (hne : e ≠ e') {k : Nat} (hk : v.ownBlock = some k) : v'.ownBlock ≠ some k := fun hk' => by
  obtain ⟨cells, hc⟩ := own_typed h hk
  obtain ⟨cells', hc'⟩ := own_typed h' hk'
  exact Blk.ne_ (t := e) hc (show Blk W k e' cells' from hc') hne rfl
theorem Fr.grown {row : Option Nat} (h : Fr S W V) (hg : V.grownBy U row) (hr : ∀ k, row = some k → S k ∨ W.heap.size ≤ k) : Fr S W U :=
  ⟨hg.os.trans h.os, hg.tape.trans h.tape, hg.output.trans h.output, Nat.le_trans h.size hg.size, fun k hk hn => (hg.block k (Nat.lt_of_lt_of_le hk h.size) (fun e => by rcases hr k e.symm with h1 | h1; exact hn h1; omega)).trans (h.block k hk hn)⟩
end
end Go.Proofs.YtoplgeajolonoaaGreatDoor.TF
