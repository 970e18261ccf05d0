/- RedactWords: the walk. -/
import Derived.Test.YtijdlpbkmlplgaaDoorSame
import Derived.Test.YtijdlpbkmlplgaaDoorRefBare
import Derived.Test.YtijdlpbkmlplgaaDoorWordsPlain
import Derived.Test.YtijdlpbkmlplgaaDoorSeal
import Derived.Test.YtijdlpbkmlplgaaDoorClean
set_option linter.unusedVariables false
set_option linter.unusedSimpArgs false
namespace Go.Proofs.YtijdlpbkmlplgaaDoor.TW
open Go.RowKit Go.Shelf Go.Proofs.YtijdlpbkmlplgaaDoorW.PrintWords Go.Proofs.YtijdlpbkmlplgaaDoorW.PrintMore

/-- What Bare makes of a spec, by the program and by the document: one answer. -/
theorem bare_any (k : Int) (nl : Bool) (t : ByteArray) (n sm : Int) (re im : Nat) (fl : Bool) (mk : Int) (its : List ByteArray) (ps : List Int) (hb1 : its.length ≤ 1073741824) (hb2 : ps.length ≤ 1073741824) :
    ∃ (K : Int) (N : Bool) (T : ByteArray) (M : Int) (I : List ByteArray) (P : List Int) (E : Int), I.length ≤ 1 ∧ P.length ≤ ps.length ∧
      (∀ (A B : Option Addr) (c d base : Nat) (W : World), W.ownsRow base 9 1 (.slice A its.length c) its.length (encs Value.string its) → W.ownsRow base 3 1 (.slice B ps.length d) ps.length (encs (Value.int .i64) ps) →
        Calls Tryd.prog 6 #[spec k nl t n sm re im fl mk (.slice A its.length c) (.slice B ps.length d)] W fun e w' => ∃ A' c' B' d', e = .returned (.tuple #[spec K N T M 0 0 0 false 0 (.slice A' I.length c') (.slice B' P.length d'), .int .i64 E]) ∧
          w'.ownsRow W.heap.size 9 1 (.slice A' I.length c') I.length (encs Value.string I) ∧ w'.ownsRow W.heap.size 3 1 (.slice B' P.length d') P.length (encs (Value.int .i64) P) ∧ Below W.heap.size W w') ∧
      (∀ (A B : Option Addr) (c d : Nat) (W : World), Kd.string.C W A its.length its → (Kd.int .i64).C W B ps.length ps →
        Calls Tryd.prog 5 #[spec k nl t n sm re im fl mk (.slice A its.length c) (.slice B ps.length d)] W fun e w' => ∃ A' c' B' d', e = .returned (.tuple #[spec K N T M 0 0 0 false 0 (.slice A' I.length c') (.slice B' P.length d'), .int .i64 E]) ∧
          w'.ownsRow W.heap.size 9 1 (.slice A' I.length c') I.length (encs Value.string I) ∧ w'.ownsRow W.heap.size 3 1 (.slice B' P.length d') P.length (encs (Value.int .i64) P) ∧ Below W.heap.size W w') := by
  by_cases h0 : chk k nl t n sm re im fl mk its ps.length = 0
  · refine ⟨k, nl, tB k, nB k n, iB k nl, ps, 0, by unfold iB; split <;> simp, Nat.le_refl _, ?_, ?_⟩
    · intro A B c d base W hI hP
      refine (bare_top k nl t n sm re im fl mk A B its.length c ps.length d base its ps W rfl (Kd.C_of_reads (own_reads_of' (d := ByteArray.empty) hI)) (by omega) hP (by omega)).mono ?_
      rintro e w' ⟨hb, h1, _⟩
      obtain ⟨v9, v10, rfl, o9, o10⟩ := h1 h0
      obtain ⟨A', c', rfl⟩ := own_slice o9
      obtain ⟨B', d', rfl⟩ := own_slice o10
      exact ⟨A', c', B', d', rfl, own_base o9 (by omega), own_base o10 (by omega), hb⟩
    · intro A B c d W hC hP
      refine (refbare_top k nl t n sm re im fl mk A B its.length c ps.length d its ps W rfl hC (by omega) rfl hP (by omega)).mono ?_
      rintro e w' ⟨hb, h1, _⟩
      obtain ⟨v9, v10, rfl, o9, o10⟩ := h1 h0
      obtain ⟨A', c', rfl⟩ := own_slice o9
      obtain ⟨B', d', rfl⟩ := own_slice o10
      exact ⟨A', c', B', d', rfl, own_base o9 (by omega), own_base o10 (by omega), hb⟩
  · refine ⟨0, false, ⟨#[]⟩, 0, [], [], chk k nl t n sm re im fl mk its ps.length, by simp, by simp, ?_, ?_⟩
    · intro A B c d base W hI hP
      refine (bare_top k nl t n sm re im fl mk A B its.length c ps.length d base its ps W rfl (Kd.C_of_reads (own_reads_of' (d := ByteArray.empty) hI)) (by omega) hP (by omega)).mono ?_
      rintro e w' ⟨hb, _, h1⟩
      exact ⟨none, 0, none, 0, h1 h0, World.ownsRow_nil _ _ _ _, World.ownsRow_nil _ _ _ _, hb⟩
    · intro A B c d W hC hP
      refine (refbare_top k nl t n sm re im fl mk A B its.length c ps.length d its ps W rfl hC (by omega) rfl hP (by omega)).mono ?_
      rintro e w' ⟨hb, _, h1⟩
      exact ⟨none, 0, none, 0, h1 h0, World.ownsRow_nil _ _ _ _, World.ownsRow_nil _ _ _ _, hb⟩

/-- a spec in a block, and rows of its own -/
structure Spc (b base : Nat) (k : Int) (nl : Bool) (t : ByteArray) (n sm : Int) (re im : Nat) (fl : Bool) (mk : Int) (A B : Option Addr) (c d : Nat) (its : List ByteArray) (ps : List Int) (W : World) : Prop where
  at_ : SpecAt b k nl t n sm re im fl mk (.slice A its.length c) (.slice B ps.length d) W
  items : W.ownsRow base 9 1 (.slice A its.length c) its.length (encs Value.string its)
  parts : W.ownsRow base 3 1 (.slice B ps.length d) ps.length (encs (Value.int .i64) ps)
section
variable {b base : Nat} {k : Int} {nl : Bool} {t : ByteArray} {n sm : Int} {re im : Nat} {fl : Bool} {mk : Int} {A B : Option Addr} {c d : Nat} {its : List ByteArray} {ps : List Int} {W V : World}
theorem Spc.next (h : Spc b base k nl t n sm re im fl mk A B c d its ps W) (hb : Below W.heap.size W V) : Spc b base k nl t n sm re im fl mk A B c d its ps V :=
  ⟨h.at_.next hb, own_next h.items hb, own_next h.parts hb⟩
theorem Spc.cI (h : Spc b base k nl t n sm re im fl mk A B c d its ps W) : Kd.string.C W A its.length its := Kd.C_of_reads (own_reads_of' (d := ByteArray.empty) h.items)
theorem Spc.cP (h : Spc b base k nl t n sm re im fl mk A B c d its ps W) : (Kd.int .i64).C W B ps.length ps := Kd.C_of_reads (own_reads_of' (d := (0 : Int)) h.parts)
end
/-- a spec that came: its rows are read -/
structure Cam (b : Nat) (k : Int) (nl : Bool) (t : ByteArray) (n sm : Int) (re im : Nat) (fl : Bool) (mk : Int) (A B : Option Addr) (c d : Nat) (its : List ByteArray) (ps : List Int) (W : World) : Prop where
  at_ : SpecAt b k nl t n sm re im fl mk (.slice A its.length c) (.slice B ps.length d) W
  cI : Kd.string.C W A its.length its
  cP : (Kd.int .i64).C W B ps.length ps
theorem Cam.next {b : Nat} {k : Int} {nl : Bool} {t : ByteArray} {n sm : Int} {re im : Nat} {fl : Bool} {mk : Int} {A B : Option Addr} {c d : Nat} {its : List ByteArray} {ps : List Int} {W V : World}
    (h : Cam b k nl t n sm re im fl mk A B c d its ps W) (hb : Below W.heap.size W V) : Cam b k nl t n sm re im fl mk A B c d its ps V :=
  ⟨h.at_.next hb, Kd.C_below h.cI hb, Kd.C_below h.cP hb⟩
/-- all blocks but those from lo to hi are as they were -/
structure But (lo hi : Nat) (W V : World) : Prop where
  os : V.os = W.os
  tape : V.tape = W.tape
  output : V.output = W.output
  size : V.heap.size = W.heap.size
  block : ∀ i, i < lo ∨ hi ≤ i → V.heap[i]? = W.heap[i]?
theorem But.refl (lo hi : Nat) (W : World) : But lo hi W W := ⟨rfl, rfl, rfl, rfl, fun _ _ => rfl⟩
theorem But.set {lo hi : Nat} {W V : World} (h : But lo hi W V) {g i : Nat} (v : Value) (h1 : lo ≤ g) (h2 : g < hi) : But lo hi W (V.setCell ⟨g, i, none⟩ v) :=
  ⟨h.os, h.tape, h.output, by rw [World.size_setCell]; exact h.size, fun j hj => (Below.heap_setCell V ⟨g, i, none⟩ v j (fun e => by have : j = g := e; omega)).trans (h.block j hj)⟩
theorem But.below {lo hi : Nat} {W V : World} (h : But lo hi W V) : Below lo W V := ⟨h.os, h.tape, h.output, by rw [h.size]; exact Nat.le_refl _, fun i hi => h.block i (.inl hi)⟩
theorem own_some {w : World} {base n c size : Nat} {e : TypeId} {A : Option Addr} {xs : List Value} (h : w.ownsRow base e size (.slice A n c) n xs) (hn : 0 < n) : ∃ g, A = some ⟨g, 0, none⟩ := by
  rcases h.2 with ⟨_, h0⟩ | ⟨g, cap, cur, hv, _⟩
  · omega
  · injection hv with h1 _ _
    exact ⟨g, h1⟩
theorem own_kinds {w : World} {b b' n n' s s' : Nat} {v v' : Value} {xs xs' : List Value} {e e' : TypeId} (h : w.ownsRow b e s v n xs) (h' : w.ownsRow b' e' s' v' n' xs') (hne : e ≠ e') {g : Nat} (hg : v.ownBlock = some g) : v'.ownBlock ≠ some g := by
  intro hg'
  rcases own_type_ne h h' hne with h1 | h1
  · rw [hg] at h1; cases h1
  · exact h1 (hg.trans hg'.symm)
theorem But.spec {lo hi b : Nat} {k : Int} {nl : Bool} {t : ByteArray} {n sm : Int} {re im : Nat} {fl : Bool} {mk : Int} {it pa : Value} {W V : World} (h : But lo hi W V) (hs : SpecAt b k nl t n sm re im fl mk it pa W) (hb : hi ≤ b) : SpecAt b k nl t n sm re im fl mk it pa V :=
  (h.block b (.inr hb)).trans hs
theorem But.own {lo hi base n size : Nat} {e : TypeId} {v : Value} {xs : List Value} {W V : World} (h : But lo hi W V) (ho : W.ownsRow base e size v n xs) (hb : hi ≤ base) : V.ownsRow base e size v n xs :=
  own_move ho (fun k hk => h.block k (.inr (Nat.le_trans hb (ho.lt k hk).1)))
theorem But.spc {lo hi b base : Nat} {k : Int} {nl : Bool} {t : ByteArray} {n sm : Int} {re im : Nat} {fl : Bool} {mk : Int} {A B : Option Addr} {c d : Nat} {its : List ByteArray} {ps : List Int} {W V : World} (h : But lo hi W V) (hs : Spc b base k nl t n sm re im fl mk A B c d its ps W) (hb : hi ≤ b) (hbase : hi ≤ base) : Spc b base k nl t n sm re im fl mk A B c d its ps V :=
  ⟨h.spec hs.at_ hb, h.own hs.items hbase, h.own hs.parts hbase⟩
theorem seal_same (s : ByteArray) : TB.ofL (14 :: s.data.toList.filter (· != 15) ++ [15]) = TS.sealB s := by
  apply ByteArray.ext
  apply Array.ext'
  simp [TB.ofL, TS.sealB]
theorem refseal_calls (s : ByteArray) (W : World) (hs : s.size ≤ 1073741824) : Calls Tryd.prog 9 #[.string s] W fun e w' => e = .returned (.string (TS.sealB s)) ∧ Below W.heap.size W w' := by
  obtain ⟨r, hr⟩ := (TQ.seal_ev s hs).rounds
  rw [← seal_same]
  exact QA.errataref20_Seal.calls r s _ W hr
theorem refclean_calls (s : ByteArray) (W : World) (hs : s.size ≤ 1073741824) : Calls Tryd.prog 11 #[.string s] W fun e w' => e = .returned (.string (TB.ofL (TB.cleanL false s.data.toList))) ∧ Below W.heap.size W w' := by
  obtain ⟨r, hr⟩ := (TQ.parted_ev s hs).rounds
  refine QA.errataref20_Clean.calls r s _ W ?_
  unfold QA.errataref20_Clean.f
  rw [hr]; rfl
theorem refsecrets_calls (s : ByteArray) (W : World) (hs : s.size ≤ 1073741824) : Calls Tryd.prog 14 #[.string s] W fun e w' => ∃ v, e = .returned v ∧ w'.ownsRow W.heap.size 9 1 v (TB.secsB none s.data.toList).length (encs Value.string (TB.secsB none s.data.toList)) ∧ Below W.heap.size W w' := by
  obtain ⟨r, hr⟩ := (TQ.parted_ev s hs).rounds
  refine (QA.errataref20_Secrets.calls r s (TB.secsB none s.data.toList) W ?_).mono ?_
  · unfold QA.errataref20_Secrets.f
    rw [hr]; rfl
  · rintro e w' ⟨v, rfl, h, hb⟩
    exact ⟨v, rfl, Kd.own_of_R h, hb⟩
theorem fresh_calls (L : List ByteArray) (hL : L.length ≤ 1073741825) (A1 A2 A3 : Option Addr) (c1 c2 c3 b2 b3 : Nat) (w0 w : World) (hB : Below w0.heap.size w0 w) (h1 : w.ownsRow w0.heap.size 9 1 (.slice A1 L.length c1) L.length (encs Value.string L)) (h2 : w.ownsRow b2 9 1 (.slice A2 L.length c2) L.length (encs Value.string L)) (h3 : w.ownsRow b3 9 1 (.slice A3 L.length c3) L.length (encs Value.string L))
    (n2 : ∀ g, (Value.slice A1 L.length c1).ownBlock = some g → g < b2) (n3 : ∀ g, (Value.slice A1 L.length c1).ownBlock = some g → g < b3) :
    Calls Tryd.prog 12 #[.slice A1 L.length c1, .slice A2 L.length c2, .slice A3 L.length c3] w fun e w' => e = .returned (.bool true) ∧ Below w0.heap.size w0 w' := by
  obtain ⟨r, hr⟩ := (TQ.fresh_ev L hL).rounds
  refine (QA.erratalaw20_fresh.calls r (fun k => (Value.slice A1 L.length c1).ownBlock = some k) (.slice A1 L.length c1) L A2 c2 L A3 c3 L true w0 w hB (Kd.R_of_own h1 (fun k h => h)) ?_ (own_cap h2) ?_ (own_cap h3) hr).mono (fun e w' h => ⟨h.1, h.2.1⟩)
  · refine Kd.C_kept_own (Kd.R_of_own (ok := fun k => (Value.slice A2 L.length c2).ownBlock = some k) h2 (fun k h => h)) (fun k hk hk1 => ?_)
    have := n2 k hk1
    have := (h2.lt k hk).1
    omega
  · refine Kd.C_kept_own (Kd.R_of_own (ok := fun k => (Value.slice A3 L.length c3).ownBlock = some k) h3 (fun k h => h)) (fun k hk hk1 => ?_)
    have := n3 k hk1
    have := (h3.lt k hk).1
    omega
end Go.Proofs.YtijdlpbkmlplgaaDoor.TW
