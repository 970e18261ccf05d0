/- redact.part, Clean, Secrets: what they answer, as lists of bytes; the walks. -/
import Derived.Test.YtijdlpbkmlplgaaDoorBuild
import Derived.Test.YtijdlpbkmlplgaaDoorShelf
import Derived.Test.YtijdlpbkmlplgaaDoorWMore
import Derived.Deep.LoopGhost
import Derived.Lib.IndexLaws
import Derived.Lib.BufferKept
import Derived.Lib.OwnKind
import Derived.RangeFuncRecord
set_option linter.unusedVariables false
set_option linter.unusedSimpArgs false
namespace Go.Proofs.YtijdlpbkmlplgaaDoor.TB
open Go.RowKit Go.Shelf

/-- a text without what is secret in it (in: a secret is open) -/
def cleanL : Bool → List UInt8 → List UInt8
  | _, [] => []
  | false, x :: t => if x = 14 then x :: cleanL true t else x :: cleanL false t
  | true, x :: t => if x = 15 then x :: cleanL false t else cleanL true t
/-- what is secret in a text (what has come of the open one) -/
def secsL : Option (List UInt8) → List UInt8 → List (List UInt8)
  | none, [] => []
  | some a, [] => [a]
  | none, x :: t => if x = 14 then secsL (some []) t else secsL none t
  | some a, x :: t => if x = 15 then a :: secsL none t else secsL (some (a ++ [x])) t
theorem index_cons (x : UInt8) (t : List UInt8) (c : UInt8) : Lib.indexByte (x :: t) c = if x == c then 0 else if Lib.indexByte t c == -1 then -1 else Lib.indexByte t c + 1 := rfl
theorem out_none (l : List UInt8) (h : Lib.indexByte l 14 < 0) : cleanL false l = l ∧ secsL none l = [] := by
  induction l with
  | nil => exact ⟨rfl, rfl⟩
  | cons x t ih =>
    rw [index_cons] at h
    by_cases hx : x = 14
    · subst hx; simp at h
    · rw [if_neg (by simpa using hx)] at h
      have hg := Lib.indexByte_ge t 14
      have ht : Lib.indexByte t 14 < 0 := by
        by_cases h1 : Lib.indexByte t 14 = -1
        · omega
        · rw [if_neg (by simpa using h1)] at h; omega
      obtain ⟨a, b⟩ := ih ht
      exact ⟨by simp [cleanL, hx, a], by simp [secsL, hx, b]⟩
theorem out_some (l : List UInt8) : ∀ k : Nat, Lib.indexByte l 14 = k → k < l.length ∧ cleanL false l = l.take (k + 1) ++ cleanL true (l.drop (k + 1)) ∧ secsL none l = secsL (some []) (l.drop (k + 1)) := by
  induction l with
  | nil => intro k h; simp [Lib.indexByte] at h
  | cons x t ih =>
    intro k h
    rw [index_cons] at h
    by_cases hx : x = 14
    · subst hx
      obtain rfl : k = 0 := by simpa using h.symm
      exact ⟨by simp, by simp [cleanL], by simp [secsL]⟩
    · rw [if_neg (by simpa using hx)] at h
      by_cases h1 : Lib.indexByte t 14 = -1
      · rw [if_pos (by simpa using h1)] at h; omega
      · rw [if_neg (by simpa using h1)] at h
        have hg := Lib.indexByte_ge t 14
        obtain ⟨m, rfl⟩ : ∃ m, k = m + 1 := ⟨k - 1, by omega⟩
        obtain ⟨a, b, c⟩ := ih m (by omega)
        exact ⟨by simp; omega, by simp [cleanL, hx, b], by simp [secsL, hx, c]⟩
theorem in_none (l : List UInt8) : ∀ a, Lib.indexByte l 15 < 0 → cleanL true l = [] ∧ secsL (some a) l = [a ++ l] := by
  induction l with
  | nil => intro a _; exact ⟨rfl, by simp [secsL]⟩
  | cons x t ih =>
    intro a h
    rw [index_cons] at h
    by_cases hx : x = 15
    · subst hx; simp at h
    · rw [if_neg (by simpa using hx)] at h
      have hg := Lib.indexByte_ge t 15
      have ht : Lib.indexByte t 15 < 0 := by
        by_cases h1 : Lib.indexByte t 15 = -1
        · omega
        · rw [if_neg (by simpa using h1)] at h; omega
      obtain ⟨p, q⟩ := ih (a ++ [x]) ht
      exact ⟨by simp [cleanL, hx, p], by simp [secsL, hx, q]⟩
theorem in_some (l : List UInt8) : ∀ (a : List UInt8) (k : Nat), Lib.indexByte l 15 = k → k < l.length ∧ cleanL true l = 15 :: cleanL false (l.drop (k + 1)) ∧ secsL (some a) l = (a ++ l.take k) :: secsL none (l.drop (k + 1)) := by
  induction l with
  | nil => intro a k h; simp [Lib.indexByte] at h
  | cons x t ih =>
    intro a k h
    rw [index_cons] at h
    by_cases hx : x = 15
    · subst hx
      obtain rfl : k = 0 := by simpa using h.symm
      exact ⟨by simp, by simp [cleanL], by simp [secsL]⟩
    · rw [if_neg (by simpa using hx)] at h
      by_cases h1 : Lib.indexByte t 15 = -1
      · rw [if_pos (by simpa using h1)] at h; omega
      · rw [if_neg (by simpa using h1)] at h
        have hg := Lib.indexByte_ge t 15
        obtain ⟨m, rfl⟩ : ∃ m, k = m + 1 := ⟨k - 1, by omega⟩
        obtain ⟨p, q, r⟩ := ih (a ++ [x]) m (by omega)
        exact ⟨by simp; omega, by simp [cleanL, hx, q], by simp [secsL, hx, r]⟩
def ofL (l : List UInt8) : ByteArray := ⟨l.toArray⟩
theorem ofL_data (s : ByteArray) : ofL s.data.toList = s := by cases s; simp [ofL]
theorem ofL_size (l : List UInt8) : (ofL l).size = l.length := by simp [ofL, ByteArray.size]
theorem take_ofL (s : ByteArray) (k : Nat) : s.extract 0 k = ofL (s.data.toList.take k) := by
  rw [← ofL_data (s.extract 0 k), Lib.extract_data, Nat.sub_zero, List.drop_zero]
theorem drop_ofL (s : ByteArray) (k : Nat) : s.extract k s.size = ofL (s.data.toList.drop k) := by
  rw [← ofL_data (s.extract k s.size), Lib.extract_data]
  congr 1
  apply List.take_of_length_le
  rw [List.length_drop, Array.length_toList]
  exact Nat.le_refl _
def secsB (o : Option (List UInt8)) (l : List UInt8) : List ByteArray := (secsL o l).map ofL
theorem secs_len (l : List UInt8) : ∀ o, (secsL o l).length ≤ l.length + 1 := by
  induction l with
  | nil => intro o; cases o <;> simp [secsL]
  | cons x t ih =>
    intro o
    cases o with
    | none => unfold secsL; split <;> (have := ih (some []); have := ih none; simp; omega)
    | some a => unfold secsL; split <;> (have := ih (some (a ++ [x])); have := ih none; simp; omega)
theorem clean_len (l : List UInt8) : ∀ o, (cleanL o l).length ≤ l.length := by
  induction l with
  | nil => intro o; cases o <;> simp [cleanL]
  | cons x t ih => intro o; cases o <;> (unfold cleanL; split <;> (have := ih true; have := ih false; simp; omega))

/-- a row of texts, kept by what turns one builder and rows of bytes -/
theorem own_others {w w' : World} {base b n : Nat} {v : Value} {xs : List Value} {c : Array Value} {fz : Nat × Nat} (h : w.ownsRow base 9 1 v n xs) (hk : Lib.OthersKept 5 (some b) w w') (hb : w.heap[b]? = some (.cells c 55 fz)) :
    w'.ownsRow base 9 1 v n xs := by
  obtain ⟨h1, h2⟩ := h
  refine ⟨h1, ?_⟩
  rcases h2 with h2 | ⟨g, cap, cur, e1, e2, e3, e4⟩
  · exact .inl h2
  · refine .inr ⟨g, cap, cur, e1, e2, hk g _ e3 (fun e => ?_) (fun c' fz' e => by cases e), e4⟩
    cases e
    rw [e3] at hb
    cases hb
/-- a builder, kept by what turns a row of texts -/
theorem builder_grown {w w' : World} {B b n : Nat} {base : Nat} {bs : List Value} {v : Value} {xs : List Value} {p : Value} (h : Lib.BuilderAtF 55 5 B b p bs w) (hown : w.ownsRow base 9 1 v n xs) (hg : w.grownBy w' v.ownBlock) :
    Lib.BuilderAtF 55 5 B b p bs w' := by
  obtain ⟨hB, u, hb, hu, hne⟩ := h
  have hk := Lib.ownsRow_kind hown
  have hlt := size_of_heap hb
  refine ⟨hB, u, ?_, hu.kept hg ?_, hne⟩
  · rw [hg.block b hlt (fun e => ?_)]; exact hb
    obtain ⟨c, fz, hc⟩ := hk b e.symm
    rw [hc] at hb; cases hb
  · cases hub : u.ownBlock with
    | none => exact .inl rfl
    | some q =>
      right
      intro e
      obtain ⟨c, fz, hc⟩ := hk q e.symm
      obtain ⟨c2, fz2, hc2⟩ := Lib.ownsRowF_kind hu q hub
      rw [hc2] at hc; cases hc
theorem infoStr : (Tryd.prog.info? 9).map (fun i => (i.zero, i.size, i.bytes)) = some (some (.string .empty), 1, 16) := by kernel_rfl

end Go.Proofs.YtijdlpbkmlplgaaDoor.TB
