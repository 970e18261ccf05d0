/- kinds.Check: what is wrong with a spec. -/
import Derived.Test.YtlggimmfaflfnaaGreatDoorM8
import Derived.Test.YtlggimmfaflfnaaGreatDoorM9
import Derived.Deep.LoopGhost
import Derived.Test.YtlggimmfaflfnaaGreatDoorM7
set_option linter.unusedVariables false
set_option linter.unusedSimpArgs false
namespace Go.Proofs.YtlggimmfaflfnaaGreatDoor.TW
open Go.RowKit Go.Shelf Go.Proofs.YtlggimmfaflfnaaGreatDoorW.PrintWords Go.Proofs.YtlggimmfaflfnaaGreatDoorW.PrintMore

def mostL (k : Int) : Nat := if k = 13 ∨ k = 14 ∨ k = 15 ∨ k = 17 ∨ k = 18 ∨ k = 20 ∨ k = 25 then 1 else if k = 16 ∨ k = 26 then 64 else 0
/-- what is wrong with a spec -/
def goodB (k : Int) (nl : Bool) (t : ByteArray) (n sm : Int) (re im : Nat) (fl : Bool) (mk : Int) (its : List ByteArray) : Bool :=
  ownB k nl t.size n its && decide (t.size ≤ 4096) && decide (its.length ≤ 64) && its.all (fun x => decide (x.size ≤ 4096)) && okB (fieldsL k n) nl t n sm re im fl mk its.length &&
    (!nl || okB (48 :: if k = 23 then [78] else []) nl t n sm re im fl mk its.length)
def chk (k : Int) (nl : Bool) (t : ByteArray) (n sm : Int) (re im : Nat) (fl : Bool) (mk : Int) (its : List ByteArray) (l2 : Nat) : Int :=
  if goodB k nl t n sm re im fl mk its then (if l2 ≤ (if nl then 0 else mostL k) then 0 else 41) else 40
/-- a spec's eleven cells in a block -/
def SpecAt (b : Nat) (k : Int) (nl : Bool) (t : ByteArray) (n sm : Int) (re im : Nat) (fl : Bool) (mk : Int) (it pa : Value) (W : World) : Prop :=
  W.heap[b]? = some (.cells #[.int .u8 k, .bool nl, .string t, .int .i16 n, .int .i8 sm, .float .f64 re, .float .f64 im, .bool fl, .int .u32 mk, it, pa] 37 (0, 0))
section
variable {b : Nat} {k : Int} {nl : Bool} {t : ByteArray} {n sm : Int} {re im : Nat} {fl : Bool} {mk : Int} {it pa : Value} {W : World}
theorem SpecAt.cells (h : SpecAt b k nl t n sm re im fl mk it pa W) :
    W.cell? ⟨b, 0, none⟩ = some (.int .u8 k) ∧ W.cell? ⟨b, 1, none⟩ = some (.bool nl) ∧ W.cell? ⟨b, 2, none⟩ = some (.string t) ∧ W.cell? ⟨b, 3, none⟩ = some (.int .i16 n) ∧ W.cell? ⟨b, 4, none⟩ = some (.int .i8 sm) ∧
    W.cell? ⟨b, 5, none⟩ = some (.float .f64 re) ∧ W.cell? ⟨b, 6, none⟩ = some (.float .f64 im) ∧ W.cell? ⟨b, 7, none⟩ = some (.bool fl) ∧ W.cell? ⟨b, 8, none⟩ = some (.int .u32 mk) ∧ W.cell? ⟨b, 9, none⟩ = some it ∧ W.cell? ⟨b, 10, none⟩ = some pa := by
  refine ⟨?_, ?_, ?_, ?_, ?_, ?_, ?_, ?_, ?_, ?_, ?_⟩ <;> (rw [Lib.cell_of_heap h]; rfl)
theorem SpecAt.next {V : World} (h : SpecAt b k nl t n sm re im fl mk it pa W) (hb : Below W.heap.size W V) : SpecAt b k nl t n sm re im fl mk it pa V :=
  (hb.block b (Array.getElem?_eq_some_iff.1 h).1).trans h
theorem SpecAt.lt (h : SpecAt b k nl t n sm re im fl mk it pa W) : b < W.heap.size := (Array.getElem?_eq_some_iff.1 h).1
theorem SpecAt.new (w : World) (k : Int) (nl : Bool) (t : ByteArray) (n sm : Int) (re im : Nat) (fl : Bool) (mk : Int) (it pa : Value) :
    SpecAt w.heap.size k nl t n sm re im fl mk it pa (w.alloc (.cells #[.int .u8 k, .bool nl, .string t, .int .i16 n, .int .i8 sm, .float .f64 re, .float .f64 im, .bool fl, .int .u32 mk, it, pa] 37)) := World.alloc_heap_new w _
end
theorem own_kind {k : Int} {nl : Bool} {tl : Nat} {n : Int} {its : List ByteArray} (h : ownB k nl tl n its = true) : 1 ≤ k ∧ k ≤ 26 ∧ (k = 23 → 1 ≤ n ∧ n ≤ 3) := by
  unfold ownB at h
  split at h
  · omega
  · split at h
    · simp at h; omega
    · split at h
      · omega
      · simp at h; omega
theorem rd_get (its : List ByteArray) (i : Nat) (h : i < its.length) : rdOf ByteArray.empty its (i : Int) = its[i] := by
  unfold rdOf
  simp [h]
theorem parts_calls (k : Int) (w : World) : Calls Tryz.prog 143 #[.int .u8 k] w fun e w' => e = .returned (.tuple #[.int .i64 0, .int .i64 (mostL k)]) ∧ Drawn0 w w' :=
  QA.kinds_Parts.calls 1 k 0 (mostL k) w (by
    unfold QA.kinds_Parts.f QA.kinds_Parts.j0 mostL
    repeat' split
    all_goals simp_all)
set_option maxHeartbeats 8000000 in
set_option maxRecDepth 100000 in
theorem check_calls (k : Int) (nl : Bool) (t : ByteArray) (n sm : Int) (re im : Nat) (fl : Bool) (mk : Int) (A B : Option Addr) (l c l2 c2 : Nat) (its : List ByteArray) (w : World) (hl : its.length = l) (hC : Kd.string.C w A l its) (hlb : l ≤ 140737488355328) :
    Calls Tryz.prog 106 #[spec k nl t n sm re im fl mk (.slice A l c) (.slice B l2 c2)] w fun e w' => e = .returned (.int .i64 (chk k nl t n sm re im fl mk its l2)) ∧ Below w.heap.size w w' := by
  have hown := fun W (hW : Below w.heap.size w W) => own_calls k nl t n sm re im fl mk A B l c l2 c2 its W hl (Kd.C_below hC hW)
  unfold spec at hown ⊢
  have hn := SpecAt.new w k nl t n sm re im fl mk (.slice A l c) (.slice B l2 c2)
  have hb0 : Below w.heap.size w (w.alloc (.cells #[.int .u8 k, .bool nl, .string t, .int .i16 n, .int .i8 sm, .float .f64 re, .float .f64 im, .bool fl, .int .u32 mk, .slice A l c, .slice B l2 c2] 37)) := (Below.refl _ w).alloc (Nat.le_refl _) _
  have HN := Aside0.mk hn
  have HB0 := Aside0.mk hb0
  clear hn hb0
  go_enter Tryz.func106, Tryz.ntmps106
  go_wp2_with (go_at_call 140; (with_reducible refine (hown _ HB0.out).mono ?_))
  rintro e w1 ⟨rfl, h1⟩
  have s1 := HN.out.next h1
  have b1 := HB0.out.trans (h1.mono HB0.out.size)
  obtain ⟨c0, c1, c2', c3, c4, c5, c6, c7, c8, c9, c10⟩ := s1.cells
  have S1 := Aside0.mk s1
  have B1 := Aside0.mk b1
  clear s1 b1 h1 HN HB0 hown
  cases ho : ownB k nl t.size n its with
  | false =>
    go_wp2
    go_ret
    exact ⟨by simp [chk, goodB, ho], B1.out⟩
  | true =>
    by_cases ht : t.size ≤ 4096
    · have ht2 : ¬ (4096 : Int) < (t.size : Int) := by omega
      by_cases hl6 : l ≤ 64
      · have hl2 : ¬ (64 : Int) < (l : Int) := by omega
        obtain ⟨h1k, h2k, h3k⟩ := own_kind ho
        go_wp2
        go_loopg [27] l (fun kq v27 wr => ∃ i : Nat, v27 = .int .i64 i ∧ i + kq = l ∧ wr = w1 ∧ Aside0 (its.take i |>.all (fun x => decide (x.size ≤ 4096))) )
        case atStart =>
          exact ⟨0, rfl, by omega, rfl, Aside0.mk (by simp)⟩
        case round =>
          obtain ⟨i, rfl, hik, rfl, HT⟩ := hrel
          by_cases hi : i < l
          · have hi2 : (i : Int) < (l : Int) := by omega
            obtain ⟨ad, rfl, hx⟩ := Kd.at_string (Kd.C_below hC B1.out) (i : Int) (by omega) hi2
            rw [show ((i : Int)).toNat = i from rfl, rd_get its i (by omega)] at hx
            by_cases hx4 : (its[i]'(by omega)).size ≤ 4096
            · have hx5 : ¬ (4096 : Int) < ((its[i]'(by omega)).size : Int) := by omega
              have hwi : wrap64 ((i : Int) + 1) = ((i + 1 : Nat) : Int) := by unfold wrap64; omega
              have hii : (0 ≤ (i : Int)) ∧ ((i : Int) < (l : Int)) := by omega
              go_wp2
              go_roundg (gk - 1)
              case measure => omega
              case rel => exact ⟨i + 1, by simp, by omega, rfl, Aside0.mk (by rw [List.take_add_one, List.all_append, HT.out]; simp [List.getElem?_eq_getElem (show i < its.length by omega), hx4])⟩
            · have hx5 : (4096 : Int) < ((its[i]'(by omega)).size : Int) := by omega
              have hii : (0 ≤ (i : Int)) ∧ ((i : Int) < (l : Int)) := by omega
              go_wp2
              go_ret
              refine ⟨?_, B1.out⟩
              have : its.all (fun x => decide (x.size ≤ 4096)) = false := by
                rw [List.all_eq_false]
                exact ⟨_, List.getElem_mem (show i < its.length by omega), by simpa using hx4⟩
              simp [chk, goodB, ho, ht, this]
          · obtain rfl : i = l := by omega
            have hall : its.all (fun x => decide (x.size ≤ 4096)) = true := by
              have := HT.out
              rwa [List.take_of_length_le (by omega)] at this
            have HA := Aside0.mk hall
            clear hall HT
            have hfields := fun W => fields_calls k nl t n sm re im fl mk A B i c l2 c2 W h1k h2k h3k
            have hbare := fun cnt W => bare_calls k nl t n sm re im fl mk A B i c l2 c2 cnt W
            unfold spec at hfields hbare
            go_wp2_with (go_at_call 141; (with_reducible refine (hfields _).mono ?_))
            rintro e w2 ⟨rfl, h2⟩
            have s2 := S1.out.next h2
            have b2 := B1.out.trans (h2.mono B1.out.size)
            clear c0 c1 c2' c3 c4 c5 c6 c7 c8 c9 c10 h2 S1 B1
            obtain ⟨c0, c1, c2', c3, c4, c5, c6, c7, c8, c9, c10⟩ := s2.cells
            have S2 := Aside0.mk s2
            have B2 := Aside0.mk b2
            clear s2 b2
            go_wp2_with (go_at_call 142; (with_reducible refine (hbare _ _).mono ?_))
            rintro e w3 rfl h3
            have s3 := S2.out.next h3
            have b3 := B2.out.trans (h3.mono B2.out.size)
            clear c0 c1 c2' c3 c4 c5 c6 c7 c8 c9 c10 h3 S2 B2
            obtain ⟨c0, c1, c2', c3, c4, c5, c6, c7, c8, c9, c10⟩ := s3.cells
            have S3 := Aside0.mk s3
            have B3 := Aside0.mk b3
            clear s3 b3
            cases hk : okB (fieldsL k n) nl t n sm re im fl mk its.length with
            | false =>
              rw [hl] at hk
              rw [hk]
              go_wp2
              go_ret
              exact ⟨by simp [chk, goodB, ho, ht, hl, hk], B3.out⟩
            | true =>
              rw [hl] at hk
              rw [hk]
              have hparts := fun W => parts_calls k W
              cases nl with
              | false =>
                by_cases hp : l2 ≤ mostL k
                · have hp2 : ¬ (mostL k : Int) < (l2 : Int) := by omega
                  go_wp2_with (go_at_call 143; (with_reducible refine (hparts _).mono ?_))
                  rintro e w4 ⟨rfl, d4⟩
                  have h4 := d4.below
                  have s4 := S3.out.next h4
                  have b4 := B3.out.trans (h4.mono B3.out.size)
                  clear c0 c1 c2' c3 c4 c5 c6 c7 c8 c9 c10 h4 S3 B3
                  obtain ⟨c0, c1, c2', c3, c4, c5, c6, c7, c8, c9, c10⟩ := s4.cells
                  have S4 := Aside0.mk s4
                  have B4 := Aside0.mk b4
                  clear s4 b4
                  go_wp2
                  go_ret
                  exact ⟨by simp [chk, goodB, ho, ht, hl, hk, hl6, HA.out, hp], B4.out⟩
                · have hp2 : (mostL k : Int) < (l2 : Int) := by omega
                  go_wp2_with (go_at_call 143; (with_reducible refine (hparts _).mono ?_))
                  rintro e w4 ⟨rfl, d4⟩
                  have h4 := d4.below
                  have s4 := S3.out.next h4
                  have b4 := B3.out.trans (h4.mono B3.out.size)
                  clear c0 c1 c2' c3 c4 c5 c6 c7 c8 c9 c10 h4 S3 B3
                  obtain ⟨c0, c1, c2', c3, c4, c5, c6, c7, c8, c9, c10⟩ := s4.cells
                  have S4 := Aside0.mk s4
                  have B4 := Aside0.mk b4
                  clear s4 b4
                  go_wp2
                  go_ret
                  exact ⟨by simp [chk, goodB, ho, ht, hl, hk, hl6, HA.out, hp], B4.out⟩
              | true =>
                by_cases h23 : k = 23
                · subst h23
                  go_wp2_with (go_at_call 142; (with_reducible refine (hbare _ _).mono ?_))
                  rintro e w4 ⟨he, h4⟩
                  have he2 : e = .returned (.bool (okB [48, 78] true t n sm re im fl mk i)) := he
                  clear he
                  have s4 := S3.out.next h4
                  have b4 := B3.out.trans (h4.mono B3.out.size)
                  clear c0 c1 c2' c3 c4 c5 c6 c7 c8 c9 c10 h4 S3 B3
                  obtain ⟨c0, c1, c2', c3, c4, c5, c6, c7, c8, c9, c10⟩ := s4.cells
                  have S4 := Aside0.mk s4
                  have B4 := Aside0.mk b4
                  clear s4 b4
                  cases hk2 : okB [48, 78] true t n sm re im fl mk i with
                  | false =>
                    rw [hk2] at he2
                    subst he2
                    go_wp2
                    go_ret
                    exact ⟨by simp [chk, goodB, ho, ht, hl, hk, hl6, HA.out, hk2], B4.out⟩
                  | true =>
                    rw [hk2] at he2
                    subst he2
                    go_wp2_with (go_at_call 143; (with_reducible refine (hparts _).mono ?_))
                    rintro e w5 ⟨rfl, d5⟩
                    have h5 := d5.below
                    have s5 := S4.out.next h5
                    have b5 := B4.out.trans (h5.mono B4.out.size)
                    clear c0 c1 c2' c3 c4 c5 c6 c7 c8 c9 c10 h5 S4 B4
                    obtain ⟨c0, c1, c2', c3, c4, c5, c6, c7, c8, c9, c10⟩ := s5.cells
                    have S5 := Aside0.mk s5
                    have B5 := Aside0.mk b5
                    clear s5 b5
                    by_cases hp : l2 = 0
                    · subst hp
                      go_wp2
                      go_ret
                      exact ⟨by simp [chk, goodB, ho, ht, hl, hk, hl6, HA.out, hk2], B5.out⟩
                    · have hp2 : (0 : Int) < (l2 : Int) := by omega
                      go_wp2
                      go_ret
                      exact ⟨by simp [chk, goodB, ho, ht, hl, hk, hl6, HA.out, hk2, hp], B5.out⟩
                · have g23 : (k == 23) = false := by simp [h23]
                  go_wp2_with (go_at_call 142; (with_reducible refine (hbare _ _).mono ?_))
                  rintro e w4 ⟨he, h4⟩
                  have he2 : e = .returned (.bool (okB [48] true t n sm re im fl mk i)) := he
                  clear he
                  have s4 := S3.out.next h4
                  have b4 := B3.out.trans (h4.mono B3.out.size)
                  clear c0 c1 c2' c3 c4 c5 c6 c7 c8 c9 c10 h4 S3 B3
                  obtain ⟨c0, c1, c2', c3, c4, c5, c6, c7, c8, c9, c10⟩ := s4.cells
                  have S4 := Aside0.mk s4
                  have B4 := Aside0.mk b4
                  clear s4 b4
                  cases hk2 : okB [48] true t n sm re im fl mk i with
                  | false =>
                    rw [hk2] at he2
                    subst he2
                    go_wp2
                    go_ret
                    exact ⟨by simp [chk, goodB, ho, ht, hl, hk, hl6, HA.out, hk2, h23], B4.out⟩
                  | true =>
                    rw [hk2] at he2
                    subst he2
                    go_wp2_with (go_at_call 143; (with_reducible refine (hparts _).mono ?_))
                    rintro e w5 ⟨rfl, d5⟩
                    have h5 := d5.below
                    have s5 := S4.out.next h5
                    have b5 := B4.out.trans (h5.mono B4.out.size)
                    clear c0 c1 c2' c3 c4 c5 c6 c7 c8 c9 c10 h5 S4 B4
                    obtain ⟨c0, c1, c2', c3, c4, c5, c6, c7, c8, c9, c10⟩ := s5.cells
                    have S5 := Aside0.mk s5
                    have B5 := Aside0.mk b5
                    clear s5 b5
                    by_cases hp : l2 = 0
                    · subst hp
                      go_wp2
                      go_ret
                      exact ⟨by simp [chk, goodB, ho, ht, hl, hk, hl6, HA.out, hk2, h23], B5.out⟩
                    · have hp2 : (0 : Int) < (l2 : Int) := by omega
                      go_wp2
                      go_ret
                      exact ⟨by simp [chk, goodB, ho, ht, hl, hk, hl6, HA.out, hk2, hp, h23], B5.out⟩
      · have hl2 : (64 : Int) < (l : Int) := by omega
        go_wp2
        go_ret
        exact ⟨by simp [chk, goodB, ho, ht, hl]; omega, B1.out⟩
    · have ht2 : (4096 : Int) < (t.size : Int) := by omega
      go_wp2
      go_ret
      exact ⟨by simp [chk, goodB, ho, ht], B1.out⟩
end Go.Proofs.YtlggimmfaflfnaaGreatDoor.TW
