/- TextSpec QB0 -/
import GoSem.Core.Utf8
import Derived.Test.YtlggimmfaflfnaaGreatDoorProg
import Derived.Below
import Derived.Deep.Draws
import Derived.Deep.AppendLies
import Derived.Maps.AppendAt
import Derived.OwnWalk
import Derived.Laws.BytesArg
import Derived.Laws.MakeOwn
import Derived.Laws.OwnMore
import Derived.Deep.OwnRows
import Derived.Tactics
import Derived.Lib.ConvBytes
import Derived.Laws.Slices
import Derived.WalkKit
import Derived.KernelRfl
import Derived.RowKit3
import Derived.Deep.LoopGhost
import Derived.Deep.QuietTactic
import Derived.BigQuiet
import Derived.WideLaws
import Derived.Deep.DeepCutAuto
import Derived.Deep.CutBlock
import Derived.Deep.RegionHeld3
import Derived.Laws.Rows
import Derived.Lib.AppendStr
import Derived.ArgAppend
import Derived.Laws.IdiomCopy
import Derived.OrdersHeld
import Derived.Laws.BitsLemmas
import Derived.RowKit
import Derived.Test.YtlggimmfaflfnaaGreatDoorM2
import Derived.Test.YtlggimmfaflfnaaGreatDoorM3
import Derived.Test.YtlggimmfaflfnaaGreatDoorM6
section
/- The plain words for text: what is taken of a text (runes and bytes by themselves), its pieces, and that UTF-8 forms are told back. No program in sight. -/
namespace Go.Proofs.YtlggimmfaflfnaaGreatDoor.TS

/-- byte k of a list, as a number -/
def g (l : List UInt8) (k : Nat) : Nat := (l.getD k 0).toNat
/-- is there a byte k that continues? -/
def c (l : List UInt8) (k : Nat) : Bool := decide (k < l.length) && g l k / 64 == 2
/-- may a number be a rune? -/
def may (r : Nat) : Bool := decide (r < 0xD800) || (decide (0xE000 ≤ r) && decide (r ≤ 0x10FFFF))
def r2 (l : List UInt8) : Nat := (g l 0 % 32) * 64 + g l 1 % 64
def r3 (l : List UInt8) : Nat := (g l 0 % 16) * 4096 + (g l 1 % 64) * 64 + g l 2 % 64
def r4 (l : List UInt8) : Nat := (g l 0 % 8) * 262144 + (g l 1 % 64) * 4096 + (g l 2 % 64) * 64 + g l 3 % 64
/-- what is taken at the front of a text that is not empty: the rune (none: a byte by itself), and how many bytes -/
def take1 (l : List UInt8) : Option Nat × Nat :=
  if g l 0 < 0x80 then (some (g l 0), 1)
  else if g l 0 / 32 = 6 ∧ c l 1 = true then (if 0x80 ≤ r2 l then (some (r2 l), 2) else (none, 1))
  else if g l 0 / 16 = 14 ∧ c l 1 = true ∧ c l 2 = true then (if 0x800 ≤ r3 l ∧ may (r3 l) = true then (some (r3 l), 3) else (none, 1))
  else if g l 0 / 8 = 30 ∧ c l 1 = true ∧ c l 2 = true ∧ c l 3 = true then (if 0x10000 ≤ r4 l ∧ may (r4 l) = true then (some (r4 l), 4) else (none, 1))
  else (none, 1)
/-- the rune as Go tells it: -1 for a byte by itself -/
def rn : Option Nat → Int | none => -1 | some r => (r : Int)

theorem take1_width (l : List UInt8) : 1 ≤ (take1 l).2 ∧ (take1 l).2 ≤ 4 := by
  unfold take1; repeat' split
  all_goals simp
theorem c_lt {l : List UInt8} {k : Nat} (h : c l k = true) : k < l.length := by unfold c at h; simp at h; exact h.1
theorem take1_le (l : List UInt8) (h : l ≠ []) : (take1 l).2 ≤ l.length := by
  have h0 : 0 < l.length := List.length_pos_iff.2 h
  unfold take1; repeat' split
  all_goals first | (simp; omega) | skip
  · rename_i h1 _; have := c_lt h1.2; simp; omega
  · rename_i h1 _; have := c_lt h1.2.2; simp; omega
  · rename_i h1 _; have := c_lt h1.2.2.2; simp; omega
theorem take1_may (l : List UInt8) (r : Nat) (h : (take1 l).1 = some r) : may r = true := by
  revert h
  unfold take1; repeat' split
  all_goals (intro h; simp at h)
  all_goals subst h
  · rename_i h1; unfold may; simp; omega
  · unfold may r2; simp; omega
  · rename_i h1; exact h1.2
  · rename_i h1; exact h1.2
theorem may_le {r : Nat} (h : may r = true) : r ≤ 0x10FFFF := by unfold may at h; simp at h; omega

/-- a rune's UTF-8 form -/
def enc (r : Nat) : List UInt8 :=
  if r < 0x80 then [UInt8.ofNat r]
  else if r < 0x800 then [UInt8.ofNat (0xC0 + r / 64), UInt8.ofNat (0x80 + r % 64)]
  else if r < 0x10000 then [UInt8.ofNat (0xE0 + r / 4096), UInt8.ofNat (0x80 + r / 64 % 64), UInt8.ofNat (0x80 + r % 64)]
  else [UInt8.ofNat (0xF0 + r / 262144), UInt8.ofNat (0x80 + r / 4096 % 64), UInt8.ofNat (0x80 + r / 64 % 64), UInt8.ofNat (0x80 + r % 64)]

theorem g_cons0 (a : UInt8) (t : List UInt8) : g (a :: t) 0 = a.toNat := rfl
theorem g_cons1 (a b : UInt8) (t : List UInt8) : g (a :: b :: t) 1 = b.toNat := rfl
theorem g_cons2 (a b d : UInt8) (t : List UInt8) : g (a :: b :: d :: t) 2 = d.toNat := rfl
theorem g_cons3 (a b d e : UInt8) (t : List UInt8) : g (a :: b :: d :: e :: t) 3 = e.toNat := rfl
theorem c_cons1 (a b : UInt8) (t : List UInt8) : c (a :: b :: t) 1 = (b.toNat / 64 == 2) := by simp [c, g_cons1]
theorem c_cons2 (a b d : UInt8) (t : List UInt8) : c (a :: b :: d :: t) 2 = (d.toNat / 64 == 2) := by simp [c, g_cons2]
theorem c_cons3 (a b d e : UInt8) (t : List UInt8) : c (a :: b :: d :: e :: t) 3 = (e.toNat / 64 == 2) := by simp [c, g_cons3]
theorem ofN {n : Nat} (h : n < 256) : (UInt8.ofNat n).toNat = n := by simp [UInt8.toNat_ofNat']; omega

/-- THE FORM IS TOLD BACK, whatever stands behind it. -/
theorem take1_enc (r : Nat) (t : List UInt8) (h : may r = true) : take1 (enc r ++ t) = (some r, (enc r).length) := by
  have hr := may_le h
  have hs : r < 0xD800 ∨ 0xE000 ≤ r := by unfold may at h; simp at h; omega
  unfold enc
  split
  · rename_i h1
    have e0 : g ([UInt8.ofNat r] ++ t) 0 = r := by simp only [List.cons_append, g_cons0]; exact ofN (by omega)
    unfold take1; rw [e0, if_pos (by omega)]; rfl
  · split
    · rename_i h1 h2
      have e0 : g ([UInt8.ofNat (0xC0 + r / 64), UInt8.ofNat (0x80 + r % 64)] ++ t) 0 = 0xC0 + r / 64 := by simp only [List.cons_append, g_cons0]; exact ofN (by omega)
      have e1 : g ([UInt8.ofNat (0xC0 + r / 64), UInt8.ofNat (0x80 + r % 64)] ++ t) 1 = 0x80 + r % 64 := by simp only [List.cons_append, g_cons1]; exact ofN (by omega)
      have k1 : c ([UInt8.ofNat (0xC0 + r / 64), UInt8.ofNat (0x80 + r % 64)] ++ t) 1 = true := by
        simp only [List.cons_append, c_cons1]; rw [ofN (by omega)]; simp; omega
      have e : r2 ([UInt8.ofNat (0xC0 + r / 64), UInt8.ofNat (0x80 + r % 64)] ++ t) = r := by unfold r2; rw [e0, e1]; omega
      unfold take1; rw [e0, k1, e, if_neg (by omega), if_pos ⟨by omega, rfl⟩, if_pos (by omega)]; rfl
    · split
      · rename_i h1 h2 h3
        have e0 : g ([UInt8.ofNat (0xE0 + r / 4096), UInt8.ofNat (0x80 + r / 64 % 64), UInt8.ofNat (0x80 + r % 64)] ++ t) 0 = 0xE0 + r / 4096 := by simp only [List.cons_append, g_cons0]; exact ofN (by omega)
        have e1 : g ([UInt8.ofNat (0xE0 + r / 4096), UInt8.ofNat (0x80 + r / 64 % 64), UInt8.ofNat (0x80 + r % 64)] ++ t) 1 = 0x80 + r / 64 % 64 := by simp only [List.cons_append, g_cons1]; exact ofN (by omega)
        have e2 : g ([UInt8.ofNat (0xE0 + r / 4096), UInt8.ofNat (0x80 + r / 64 % 64), UInt8.ofNat (0x80 + r % 64)] ++ t) 2 = 0x80 + r % 64 := by simp only [List.cons_append, g_cons2]; exact ofN (by omega)
        have k1 : c ([UInt8.ofNat (0xE0 + r / 4096), UInt8.ofNat (0x80 + r / 64 % 64), UInt8.ofNat (0x80 + r % 64)] ++ t) 1 = true := by
          simp only [List.cons_append, c_cons1]; rw [ofN (by omega)]; simp; omega
        have k2 : c ([UInt8.ofNat (0xE0 + r / 4096), UInt8.ofNat (0x80 + r / 64 % 64), UInt8.ofNat (0x80 + r % 64)] ++ t) 2 = true := by
          simp only [List.cons_append, c_cons2]; rw [ofN (by omega)]; simp; omega
        have e : r3 ([UInt8.ofNat (0xE0 + r / 4096), UInt8.ofNat (0x80 + r / 64 % 64), UInt8.ofNat (0x80 + r % 64)] ++ t) = r := by unfold r3; rw [e0, e1, e2]; omega
        unfold take1; rw [e0, k1, k2, e, if_neg (by omega), if_neg (by omega), if_pos ⟨by omega, rfl, rfl⟩, if_pos ⟨by omega, h⟩]; rfl
      · rename_i h1 h2 h3
        have e0 : g ([UInt8.ofNat (0xF0 + r / 262144), UInt8.ofNat (0x80 + r / 4096 % 64), UInt8.ofNat (0x80 + r / 64 % 64), UInt8.ofNat (0x80 + r % 64)] ++ t) 0 = 0xF0 + r / 262144 := by simp only [List.cons_append, g_cons0]; exact ofN (by omega)
        have e1 : g ([UInt8.ofNat (0xF0 + r / 262144), UInt8.ofNat (0x80 + r / 4096 % 64), UInt8.ofNat (0x80 + r / 64 % 64), UInt8.ofNat (0x80 + r % 64)] ++ t) 1 = 0x80 + r / 4096 % 64 := by simp only [List.cons_append, g_cons1]; exact ofN (by omega)
        have e2 : g ([UInt8.ofNat (0xF0 + r / 262144), UInt8.ofNat (0x80 + r / 4096 % 64), UInt8.ofNat (0x80 + r / 64 % 64), UInt8.ofNat (0x80 + r % 64)] ++ t) 2 = 0x80 + r / 64 % 64 := by simp only [List.cons_append, g_cons2]; exact ofN (by omega)
        have e3 : g ([UInt8.ofNat (0xF0 + r / 262144), UInt8.ofNat (0x80 + r / 4096 % 64), UInt8.ofNat (0x80 + r / 64 % 64), UInt8.ofNat (0x80 + r % 64)] ++ t) 3 = 0x80 + r % 64 := by simp only [List.cons_append, g_cons3]; exact ofN (by omega)
        have k1 : c ([UInt8.ofNat (0xF0 + r / 262144), UInt8.ofNat (0x80 + r / 4096 % 64), UInt8.ofNat (0x80 + r / 64 % 64), UInt8.ofNat (0x80 + r % 64)] ++ t) 1 = true := by
          simp only [List.cons_append, c_cons1]; rw [ofN (by omega)]; simp; omega
        have k2 : c ([UInt8.ofNat (0xF0 + r / 262144), UInt8.ofNat (0x80 + r / 4096 % 64), UInt8.ofNat (0x80 + r / 64 % 64), UInt8.ofNat (0x80 + r % 64)] ++ t) 2 = true := by
          simp only [List.cons_append, c_cons2]; rw [ofN (by omega)]; simp; omega
        have k3 : c ([UInt8.ofNat (0xF0 + r / 262144), UInt8.ofNat (0x80 + r / 4096 % 64), UInt8.ofNat (0x80 + r / 64 % 64), UInt8.ofNat (0x80 + r % 64)] ++ t) 3 = true := by
          simp only [List.cons_append, c_cons3]; rw [ofN (by omega)]; simp; omega
        have e : r4 ([UInt8.ofNat (0xF0 + r / 262144), UInt8.ofNat (0x80 + r / 4096 % 64), UInt8.ofNat (0x80 + r / 64 % 64), UInt8.ofNat (0x80 + r % 64)] ++ t) = r := by unfold r4; rw [e0, e1, e2, e3]; omega
        unfold take1; rw [e0, k1, k2, k3, e, if_neg (by omega), if_neg (by omega), if_neg (by omega), if_pos ⟨by omega, rfl, rfl, rfl⟩, if_pos ⟨by omega, h⟩]; rfl

theorem u8_eq {a : UInt8} {n : Nat} (h : a.toNat = n) : a = UInt8.ofNat n := by
  apply UInt8.toNat_inj.1; rw [h, ofN]; have := a.toNat_lt; omega
theorem l1 {a : UInt8} {n : Nat} (h1 : a.toNat = n) : [a] = [UInt8.ofNat n] := by rw [← u8_eq h1]
theorem l2 {a b : UInt8} {n m : Nat} (h1 : a.toNat = n) (h2 : b.toNat = m) : [a, b] = [UInt8.ofNat n, UInt8.ofNat m] := by rw [← u8_eq h1, ← u8_eq h2]
theorem l3 {a b d : UInt8} {n m o : Nat} (h1 : a.toNat = n) (h2 : b.toNat = m) (h3 : d.toNat = o) : [a, b, d] = [UInt8.ofNat n, UInt8.ofNat m, UInt8.ofNat o] := by rw [← u8_eq h1, ← u8_eq h2, ← u8_eq h3]
theorem l4 {a b d e : UInt8} {n m o p : Nat} (h1 : a.toNat = n) (h2 : b.toNat = m) (h3 : d.toNat = o) (h4 : e.toNat = p) : [a, b, d, e] = [UInt8.ofNat n, UInt8.ofNat m, UInt8.ofNat o, UInt8.ofNat p] := by rw [← u8_eq h1, ← u8_eq h2, ← u8_eq h3, ← u8_eq h4]
theorem two {l : List UInt8} (h : 1 < l.length) : ∃ a b t, l = a :: b :: t := by
  rcases l with _ | ⟨a, _ | ⟨b, t⟩⟩
  · simp at h
  · simp at h
  · exact ⟨a, b, t, rfl⟩
theorem three {l : List UInt8} (h : 2 < l.length) : ∃ a b d t, l = a :: b :: d :: t := by
  obtain ⟨a, b, t, rfl⟩ := two (l := l) (by omega)
  rcases t with _ | ⟨d, t⟩
  · simp at h
  · exact ⟨a, b, d, t, rfl⟩
theorem four {l : List UInt8} (h : 3 < l.length) : ∃ a b d e t, l = a :: b :: d :: e :: t := by
  obtain ⟨a, b, d, t, rfl⟩ := three (l := l) (by omega)
  rcases t with _ | ⟨e, t⟩
  · simp at h
  · exact ⟨a, b, d, e, t, rfl⟩
theorem n2 {a b : Nat} (ha : a / 32 = 6) (hb : b / 64 = 2) (_ha : a < 256) (_hb : b < 256) : a = 0xC0 + (a % 32 * 64 + b % 64) / 64 ∧ b = 0x80 + (a % 32 * 64 + b % 64) % 64 := by omega
theorem n3 {a b d : Nat} (ha : a / 16 = 14) (hb : b / 64 = 2) (hd : d / 64 = 2) (_ha : a < 256) (_hb : b < 256) (_hd : d < 256) :
    a = 0xE0 + (a % 16 * 4096 + b % 64 * 64 + d % 64) / 4096 ∧ b = 0x80 + (a % 16 * 4096 + b % 64 * 64 + d % 64) / 64 % 64 ∧ d = 0x80 + (a % 16 * 4096 + b % 64 * 64 + d % 64) % 64 := by omega
theorem n4 {a b d e : Nat} (ha : a / 8 = 30) (hb : b / 64 = 2) (hd : d / 64 = 2) (he : e / 64 = 2) (_ha : a < 256) (_hb : b < 256) (_hd : d < 256) (_he : e < 256) :
    a = 0xF0 + (a % 8 * 262144 + b % 64 * 4096 + d % 64 * 64 + e % 64) / 262144 ∧ b = 0x80 + (a % 8 * 262144 + b % 64 * 4096 + d % 64 * 64 + e % 64) / 4096 % 64 ∧
    d = 0x80 + (a % 8 * 262144 + b % 64 * 4096 + d % 64 * 64 + e % 64) / 64 % 64 ∧ e = 0x80 + (a % 8 * 262144 + b % 64 * 4096 + d % 64 * 64 + e % 64) % 64 := by
  refine ⟨?_, ?_, ?_, ?_⟩ <;> omega
/-- WHAT IS TAKEN AS A RUNE IS ITS FORM. -/
theorem take1_form (l : List UInt8) (r : Nat) (h0 : l ≠ []) (h : (take1 l).1 = some r) : l.take (take1 l).2 = enc r := by
  revert h
  unfold take1; repeat' split
  all_goals (intro h; simp at h)
  all_goals subst h
  · rename_i h1
    obtain ⟨a, t, rfl⟩ := List.exists_cons_of_ne_nil h0
    rw [g_cons0] at h1 ⊢
    unfold enc; rw [if_pos h1]
    exact l1 rfl
  · rename_i h1 h2 h3
    obtain ⟨a, b, t, rfl⟩ := two (c_lt h2.2)
    have h2' := h2.2; rw [c_cons1] at h2'; simp at h2'
    have b0 := a.toNat_lt; have b1 := b.toNat_lt
    have h2'' := h2.1
    simp only [g_cons0, g_cons1, r2] at h1 h2'' h3 ⊢
    obtain ⟨m1, m2⟩ := n2 h2'' h2' b0 b1
    unfold enc; rw [if_neg (by omega), if_pos (by omega)]
    exact l2 m1 m2
  · rename_i h1 h2 h3 h4
    obtain ⟨a, b, d, t, rfl⟩ := three (c_lt h3.2.2)
    have h2' := h3.2.1; rw [c_cons1] at h2'; simp at h2'
    have h3' := h3.2.2; rw [c_cons2] at h3'; simp at h3'
    have b0 := a.toNat_lt; have b1 := b.toNat_lt; have b2 := d.toNat_lt
    have h3'' := h3.1; have h4' := h4.1
    simp only [g_cons0, g_cons1, g_cons2, r3] at h1 h3'' h4' ⊢
    obtain ⟨m1, m2, m3⟩ := n3 h3'' h2' h3' b0 b1 b2
    unfold enc; rw [if_neg (by omega), if_neg (by omega), if_pos (by omega)]
    exact l3 m1 m2 m3
  · rename_i h1 h2 h3 h4 h5
    obtain ⟨a, b, d, e, t, rfl⟩ := four (c_lt h4.2.2.2)
    have h2' := h4.2.1; rw [c_cons1] at h2'; simp at h2'
    have h3' := h4.2.2.1; rw [c_cons2] at h3'; simp at h3'
    have h4' := h4.2.2.2; rw [c_cons3] at h4'; simp at h4'
    have b0 := a.toNat_lt; have b1 := b.toNat_lt; have b2 := d.toNat_lt; have b3 := e.toNat_lt
    have h4'' := h4.1; have h5' := h5.1
    simp only [g_cons0, g_cons1, g_cons2, g_cons3, r4] at h1 h4'' h5' ⊢
    obtain ⟨m1, m2, m3, m4⟩ := n4 h4'' h2' h3' h4' b0 b1 b2 b3
    unfold enc; rw [if_neg (by omega), if_neg (by omega), if_neg (by omega)]
    exact l4 m1 m2 m3 m4
theorem take1_none (l : List UInt8) (h : (take1 l).1 = none) : (take1 l).2 = 1 := by
  revert h
  unfold take1; repeat' split
  all_goals simp
theorem enc_ne (r : Nat) : enc r ≠ [] := by unfold enc; repeat' split
                                            all_goals simp
/-- no rune's form stands at the front where a byte is taken by itself -/
theorem take1_none_iff (l : List UInt8) (h0 : l ≠ []) : (take1 l).1 = none ↔ ∀ r, may r = true → ¬ enc r <+: l := by
  constructor
  · rintro h r hr ⟨t, rfl⟩
    rw [take1_enc r t hr] at h; cases h
  · intro h
    cases e : (take1 l).1 with
    | none => rfl
    | some r => exact absurd (by rw [← take1_form l r h0 e]; exact List.take_prefix _ _) (h r (take1_may l r e))

/-! ### The pieces of a text -/
/-- a piece: the rune (none: a byte by itself) and its bytes -/
abbrev Piece := Option Nat × List UInt8
def piecesN : Nat → List UInt8 → List Piece
  | 0, _ => []
  | _ + 1, [] => []
  | n + 1, a :: t => ((take1 (a :: t)).1, (a :: t).take (take1 (a :: t)).2) :: piecesN n ((a :: t).drop (take1 (a :: t)).2)
def pieces (l : List UInt8) : List Piece := piecesN l.length l
theorem piecesN_nil (n : Nat) : piecesN n [] = [] := by cases n <;> rfl
theorem piecesN_enough (n : Nat) : ∀ (m : Nat) (l : List UInt8), l.length ≤ n → l.length ≤ m → piecesN n l = piecesN m l := by
  induction n with
  | zero => intro m l h1 _; obtain rfl : l = [] := List.length_eq_zero_iff.1 (by omega); rw [piecesN_nil, piecesN_nil]
  | succ n ih =>
    intro m l h1 h2
    cases l with
    | nil => rw [piecesN_nil, piecesN_nil]
    | cons a t =>
      obtain ⟨m, rfl⟩ : ∃ q, m = q + 1 := ⟨m - 1, by simp at h2; omega⟩
      have w := (take1_width (a :: t)).1
      simp only [piecesN]
      rw [ih m _ (by simp at h1 ⊢; omega) (by simp at h2 ⊢; omega)]
theorem pieces_nil : pieces [] = [] := rfl
theorem pieces_cons (l : List UInt8) (h : l ≠ []) : pieces l = ((take1 l).1, l.take (take1 l).2) :: pieces (l.drop (take1 l).2) := by
  obtain ⟨a, t, rfl⟩ := List.exists_cons_of_ne_nil h
  have w := (take1_width (a :: t)).1
  show piecesN (t.length + 1) (a :: t) = _
  simp only [piecesN]
  congr 1
  exact piecesN_enough _ _ _ (by simp; omega) (by simp)
/-- going through a text piece by piece -/
theorem pieces_ind {P : List UInt8 → Prop} (h0 : P []) (h1 : ∀ l, l ≠ [] → P (l.drop (take1 l).2) → P l) : ∀ l, P l := by
  intro l
  generalize hn : l.length = n
  induction n using Nat.strongRecOn generalizing l with
  | ind n ih =>
    by_cases h : l = []
    · subst h; exact h0
    · have w := (take1_width l).1
      have hp : 0 < l.length := List.length_pos_iff.2 h
      exact h1 l h (ih (l.drop (take1 l).2).length (by simp; omega) _ rfl)
theorem pieces_flat (l : List UInt8) : (pieces l).flatMap (·.2) = l := by
  refine pieces_ind (P := fun l => (pieces l).flatMap (·.2) = l) rfl (fun l h ih => ?_) l
  rw [pieces_cons l h]
  simp only [List.flatMap_cons]
  rw [ih]; exact List.take_append_drop _ _
/-- a piece is a rune's form, or a byte by itself -/
def okPiece (p : Piece) : Prop := match p.1 with | some r => may r = true ∧ p.2 = enc r | none => p.2.length = 1
theorem pieces_ok (l : List UInt8) : ∀ p ∈ pieces l, okPiece p := by
  refine pieces_ind (P := fun l => ∀ p ∈ pieces l, okPiece p) (by simp [pieces_nil]) (fun l h ih => ?_) l
  rw [pieces_cons l h]
  intro p hp
  rcases List.mem_cons.1 hp with rfl | hp
  · unfold okPiece
    have hl := take1_le l h
    cases e : (take1 l).1 with
    | some r => exact ⟨take1_may l r e, take1_form l r h e⟩
    | none => simp only [List.length_take]; rw [take1_none l e]; have : 0 < l.length := List.length_pos_iff.2 h; omega
  · exact ih p hp
theorem pieces_length (l : List UInt8) : (pieces l).length ≤ l.length := by
  refine pieces_ind (P := fun l => (pieces l).length ≤ l.length) (by simp [pieces_nil]) (fun l h ih => ?_) l
  have w := (take1_width l).1
  have hp : 0 < l.length := List.length_pos_iff.2 h
  rw [pieces_cons l h]
  simp at ih ⊢; omega

/-! ### Where each piece stands, and its rune as Go tells it -/
def runesFrom (i : Nat) : List Piece → List (Nat × Int)
  | [] => []
  | p :: t => (i, rn p.1) :: runesFrom (i + p.2.length) t
def runes (l : List UInt8) : List (Nat × Int) := runesFrom 0 (pieces l)
theorem runesFrom_length (i : Nat) (ps : List Piece) : (runesFrom i ps).length = ps.length := by
  induction ps generalizing i with
  | nil => rfl
  | cons p t ih => simp [runesFrom, ih]
end Go.Proofs.YtlggimmfaflfnaaGreatDoor.TS
end
section
-- Written by wip/tools/myprint.py of this seat's repo: the kit's print, with contracts of our own for some functions.
namespace Go.Proofs.YtlggimmfaflfnaaGreatDoor.QB
open Go.RowKit Go.Proofs.YtlggimmfaflfnaaGreatDoorW.PrintWords Go.Proofs.YtlggimmfaflfnaaGreatDoorW.PrintLast Go.Proofs.YtlggimmfaflfnaaGreatDoorW.PrintMore
attribute [local go_sem] max2_int min2_int max_two min_two max_three min_three max_four min_four   -- for this text's walks alone
set_option linter.unusedVariables false
set_option linter.unusedSimpArgs false



def errW : Option Int → Value
  | none => .nilIface
  | some c => .iface 0 (.int .i64 c)
theorem errW_none : errW none = .nilIface := rfl
theorem errW_some (c : Int) : errW (some c) = .iface 0 (.int .i64 c) := rfl

-- the values' own types

end Go.Proofs.YtlggimmfaflfnaaGreatDoor.QB
end
