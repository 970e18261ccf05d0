/- Small words for the end of TextParts: the greatest of three, the second loop's boxes. -/
import Derived.Test.YtijdlpbkmlplgaaRunesNext
import Derived.Test.YtijdlpbkmlplgaaTextExt
set_option linter.unusedVariables false
set_option linter.unusedSimpArgs false
namespace Go.Proofs.Ytijdlpbkmlplgaa.TR
open Go.RowKit Go.Shelf Go.Lib Go.Proofs.Ytijdlpbkmlplgaa.TS Go.Proofs.Ytijdlpbkmlplgaa.TX Go.Proofs.YtijdlpbkmlplgaaW.PrintWords

theorem max3 (one two : Int) (W : World) : Sem.run Try.prog (Builtin.max_ #[3, 3, 3] 3 #[.int .i64 one, .int .i64 two, .int .i64 0]) W = .ok (.int .i64 (max (max one two) 0)) W := by
  have h2 : ∀ a b : Int, Builtin.max2 (.int .i64 a) (.int .i64 b) = pure (.int .i64 (max a b)) := fun a b => by
    show (pure (Value.int .i64 (if b > a then b else a)) : Sem Value) = _
    congr 2
    omega
  show Sem.run Try.prog (List.foldlM Builtin.max2 (.int .i64 one) [.int .i64 two, .int .i64 0]) W = _
  simp only [List.foldlM_cons, List.foldlM_nil, h2, pure_bind]
  rfl
/-- a piece of s, from l to i, that bears r -/
structure PieceAt (s : ByteArray) (l i : Nat) (r : Int) : Prop where
  lt : l < i
  le : i ≤ s.size
  neg : r < 0 → (s.extract l i).size = 1
  pos : 0 ≤ r → s.extract l i = Utf8.encode r
  wid : widthI (s.extract l i) = wideI r
/-- ahead of the second loop's only round -/
def lastI (z y2 : Nat) (s : ByteArray) (one two ww : Int) (pre : List (Nat × Int)) (W : World) : Prop :=
  pre = [] ∧ Boxed W z 9 (.string s) ∧ Boxed W (z + 1) 3 (.int .i64 one) ∧ Boxed W (z + 1 + 1) 3 (.int .i64 two) ∧ Boxed W (z + 1 + 1 + 1) 4 (.bool false) ∧ Boxed W y2 3 (.int .i64 ww)
def lastX (z : Nat) (c : Code) (pre : List (Nat × Int)) (W : World) : Prop := c = .ret ∧ Boxed W (z + 1 + 1 + 1) 4 (.bool true)
theorem lastI_cells (z y2 : Nat) (s : ByteArray) (one two ww : Int) : OfCells (lastI z y2 s one two ww) := by
  rintro pre W W' ⟨h0, h1, h2, h3, h4, h5⟩ hk
  exact ⟨h0, hk _ _ h1 rfl, hk _ _ h2 rfl, hk _ _ h3 rfl, hk _ _ h4 rfl, hk _ _ h5 rfl⟩
theorem lastX_cells (z : Nat) (c : Code) : OfCells (lastX z c) := by
  rintro pre W W' ⟨h0, h1⟩ hk
  exact ⟨h0, hk _ _ h1 rfl⟩
/-- left in one way alone -/
def Only (A0 : Act) (T : World → Prop) : Exit → Act → World → Prop
  | .normal, a, V => a = A0 ∧ T V
  | _, _, _ => False
/-- several ways through one code, left alike: one continuation -/
theorem merge {F : Fence} {n : Nat} {P : Program} {c : Code} {Q' : Exit → Act → World → Prop} {a : Act} {w : World} (T : World → Prop) (A0 : Act) (h : c.wpIn F n P (Only A0 T) a w) (hk : ∀ V, T V → Q' .normal A0 V) : c.wpIn F n P Q' a w :=
  Code.wpIn_mono (fun e a V h => by
    cases e <;> first | exact h.elim | (obtain ⟨h2, h3⟩ := h; subst h2; exact hk V h3)) h
/-- two loops' marks are taken, one behind the other -/
theorem two_marks {z b D D2 : Nat} {w X : World} {t : TypeId} {v : Value} (hb : Boxed X b t v) (hB : Below z w X) (hK2 : X.heap[D2]? = some (.deferred (some []))) (hK : X.heap[D]? = some (.deferred (some []))) (hne : D ≠ D2) (h1 : z ≤ D) (h2 : z ≤ D2) :
    (X.putObj D2 (.deferred none)).heap[D]? = some (.deferred (some [])) ∧ ((X.putObj D2 (.deferred none)).putObj D (.deferred none)).cell? ⟨b, 0, none⟩ = some v ∧ Below z w ((X.putObj D2 (.deferred none)).putObj D (.deferred none)) := by
  have hc : OfCells (fun (_ : Unit) W => Boxed W b t v) := ofCells_boxed (fun _ => b) _ (fun _ => v)
  have k1 : (X.putObj D2 (.deferred none)).heap[D]? = some (.deferred (some [])) := (World.putObj_heap_other hne).trans hK
  have l2 := (Array.getElem?_eq_some_iff.1 hK2).1
  have l1 := (Array.getElem?_eq_some_iff.1 k1).1
  have b1 : Boxed (X.putObj D2 (.deferred none)) b t v := hc.put (b := ()) _ hb hK2 rfl
  have b2 : Boxed ((X.putObj D2 (.deferred none)).putObj D (.deferred none)) b t v := hc.put (b := ()) _ b1 k1 rfl
  exact ⟨k1, b2.cell, (hB.grown (grownBy_putObj' X D2 _) (by omega) (fun k e => by cases e; exact h2)).grown (grownBy_putObj' _ D _) (by omega) (fun k e => by cases e; exact h1)⟩
end Go.Proofs.Ytijdlpbkmlplgaa.TR
