/- What Make asks of a book: its parts' records; the calls of at, whatever the handle. -/
import Derived.Test.YtlggimmfaflfnaaGreatDoorM11
set_option linter.unusedVariables false
set_option linter.unusedSimpArgs false
namespace Go.Proofs.YtlggimmfaflfnaaGreatDoor.TK
open Go.RowKit Go.Shelf Go.Proofs.YtlggimmfaflfnaaGreatDoorW.PrintWords Go.Proofs.YtlggimmfaflfnaaGreatDoorW.PrintMore Go.Proofs.YtlggimmfaflfnaaGreatDoor.TF Go.Proofs.YtlggimmfaflfnaaGreatDoor.TW

/-- the record of no error -/
def zeroD : RowD := ⟨.nilIface, 0, false, ⟨#[]⟩, 0, 0, 0, 0, false, 0, none, 0, none, 0, [], [], 0, 0, 0, 0⟩
/-- the record of a handle -/
def recOf (L : List RowD) (p : Int) : RowD := if p = 0 then zeroD else L.getD (p.toNat - 1) zeroD
theorem at_any (b : Nat) (v : Value) (L : List RowD) (W : World) (p : Int) (h : Bk b v L W) (h0 : 0 ≤ p) (h1 : p ≤ L.length) (hl : L.length ≤ 65536) :
    Calls Tryz.prog 71 #[.pointer (some ⟨b, 0, none⟩), .int .i64 p] W fun e w' => ∃ g o, e = .returned (.tuple #[.pointer (some ⟨g, o, none⟩), .int .i64 0]) ∧
      (∀ i, i < 16 → w'.cell? ⟨g, o + i, none⟩ = (recOf L p).cells[i]?) ∧ (∃ cs, w'.heap[g]? = some (.cells cs 154 (0, 0))) ∧ (g < W.heap.size → v.ownBlock = some g) ∧ Below W.heap.size W w' := by
  by_cases hp : p = 0
  · subst hp
    refine (at_zero b W).mono ?_
    rintro e w' ⟨rfl, rfl⟩
    have hb := Blk.new W 154 row0
    refine ⟨W.heap.size, 0, rfl, fun i hi => ?_, ⟨_, hb⟩, fun hlt => absurd hlt (Nat.lt_irrefl _), (Below.refl _ _).alloc (Nat.le_refl _) _⟩
    rw [Nat.zero_add, hb.cell i]
    have : recOf L 0 = zeroD := by simp [recOf]
    rw [this]
    simp [row0, zeroD, RowD.cells]
  · obtain ⟨j, rfl⟩ : ∃ j : Nat, p = (j : Int) + 1 := ⟨p.toNat - 1, by omega⟩
    have hjl : j < L.length := by omega
    have hj : L[j]? = some L[j] := List.getElem?_eq_getElem hjl
    obtain ⟨g, c, rfl⟩ := h.some_ hj
    refine (at_ok b g c L j _ W h hj hl).mono ?_
    rintro e w' ⟨rfl, rfl⟩
    refine ⟨g, j * 16, rfl, fun i hi => ?_, TF.own_typed h.rows rfl, fun _ => rfl, Below.refl _ _⟩
    rw [h.at_ hj i hi]
    have : recOf L ((j : Int) + 1) = L[j] := by
      unfold recOf
      rw [if_neg (by omega), show (((j : Int) + 1).toNat - 1) = j by omega]
      simp [hjl]
    rw [this]
/-- sums over the parts -/
def sumOf (f : RowD → Int) (L : List RowD) : List Int → Int
  | [] => 0
  | p :: ps => f (recOf L p) + sumOf f L ps
def topOf (L : List RowD) (a : Int) : List Int → Int
  | [] => a
  | p :: ps => topOf L (max a ((recOf L p).depth + 1)) ps
def lensOf : List ByteArray → Int
  | [] => 0
  | x :: l => (x.size : Int) + lensOf l
theorem sum_snoc (f : RowD → Int) (L : List RowD) (ps : List Int) (p : Int) : sumOf f L (ps ++ [p]) = sumOf f L ps + f (recOf L p) := by
  induction ps with
  | nil => simp [sumOf]
  | cons q ps ih => simp only [List.cons_append, sumOf, ih]; omega
theorem top_snoc (L : List RowD) (ps : List Int) (p : Int) : ∀ a, topOf L a (ps ++ [p]) = max (topOf L a ps) ((recOf L p).depth + 1) := by
  induction ps with
  | nil => intro a; rfl
  | cons q ps ih => intro a; simp only [List.cons_append, topOf, ih]
theorem lens_snoc (l : List ByteArray) (x : ByteArray) : lensOf (l ++ [x]) = lensOf l + x.size := by
  induction l with
  | nil => simp [lensOf]
  | cons q l ih => simp only [List.cons_append, lensOf, ih]; omega
end Go.Proofs.YtlggimmfaflfnaaGreatDoor.TK
