/- QA2 SpecFields SpecOwn SpecCheck -/
import Derived.Test.YtimmafiodhncgaaGreatDoorM6
import Derived.Test.YtimmafiodhncgaaGreatDoorM4
import Derived.Deep.LoopGhost
section
/- the words of print A -/
end
section
/- Which fields of a spec count: kinds.fields, errataref04.fields; which specs are a kind's own. -/
set_option linter.unusedVariables false
set_option linter.unusedSimpArgs false
namespace Go.Proofs.YtimmafiodhncgaaGreatDoor.TW
open Go.RowKit Go.Shelf Go.Proofs.YtimmafiodhncgaaGreatDoorW.PrintWords Go.Proofs.YtimmafiodhncgaaGreatDoorW.PrintMore

def tableL : Nat → List UInt8
  | 1 => [78] | 2 => [84] | 3 => [82] | 4 => [82, 77] | 5 => [84] | 6 => [73, 78, 48] | 7 => [84, 70, 48] | 8 => [48] | 9 => [84, 48] | 10 => [84, 70, 48] | 11 => [78, 84] | 12 => [84, 73] | 13 => [84]
  | 14 => [84, 48] | 15 => [84] | 16 => [48] | 17 => [70] | 18 => [78] | 19 => [78, 82] | 20 => [] | 21 => [84, 70, 48] | 22 => [84, 78, 48] | 24 => [84, 70, 48] | 25 => [78, 84] | 26 => [84, 75, 73, 48] | _ => []
def boxL (n : Int) : List UInt8 := if n = 1 then [78, 83] else if n = 2 then [78, 82] else if n = 3 then [78, 84, 48] else []
/-- which fields of a spec count -/
def fieldsL (k n : Int) : List UInt8 := if k = 23 then boxL n else tableL k.toNat
theorem kinds26 (k : Int) (h1 : 1 ≤ k) (h2 : k ≤ 26) : k = 1 ∨ k = 2 ∨ k = 3 ∨ k = 4 ∨ k = 5 ∨ k = 6 ∨ k = 7 ∨ k = 8 ∨ k = 9 ∨ k = 10 ∨ k = 11 ∨ k = 12 ∨ k = 13 ∨ k = 14 ∨ k = 15 ∨ k = 16 ∨ k = 17 ∨ k = 18 ∨ k = 19 ∨ k = 20 ∨ k = 21 ∨ k = 22 ∨ k = 23 ∨ k = 24 ∨ k = 25 ∨ k = 26 := by omega
set_option maxHeartbeats 16000000 in
theorem fields_calls (k : Int) (nl : Bool) (t : ByteArray) (n sm : Int) (re im : Nat) (fl : Bool) (mk : Int) (A B : Option Addr) (l c l2 c2 : Nat) (w : World) (h1 : 1 ≤ k) (h2 : k ≤ 26) (h3 : k = 23 → 1 ≤ n ∧ n ≤ 3) :
    Calls Tryz.prog 69 #[spec k nl t n sm re im fl mk (.slice A l c) (.slice B l2 c2)] w fun e w' => e = .returned (.string ⟨(fieldsL k n).toArray⟩) ∧ Below w.heap.size w w' := by
  unfold spec
  by_cases h23 : k = 23
  · subst h23
    obtain ⟨n1, n3⟩ := h3 rfl
    have hbox : ∀ W, Calls Tryz.prog 127 #[.int .i16 n] W fun e w' => e = .returned (.string ⟨(fieldsL 23 n).toArray⟩) ∧ Drawn0 W w' := fun W => by
      have hn : n = 1 ∨ n = 2 ∨ n = 3 := by omega
      rcases hn with rfl | rfl | rfl
      · exact YtimmafiodhncgaaGreatDoor.QA.kinds_box.calls 1 ⟨(fieldsL 23 1).toArray⟩ W (by decide +kernel)
      · exact YtimmafiodhncgaaGreatDoor.QA.kinds_box.calls 2 ⟨(fieldsL 23 2).toArray⟩ W (by decide +kernel)
      · exact YtimmafiodhncgaaGreatDoor.QA.kinds_box.calls 3 ⟨(fieldsL 23 3).toArray⟩ W (by decide +kernel)
    go_enter Tryz.func69, Tryz.ntmps69
    go_wp2_with (go_at_call 127; (with_reducible refine (hbox _).mono ?_); rintro e w' ⟨rfl, hd⟩)
    go_wp2
    go_ret
    exact ⟨rfl, Below.trans (by go_grown) (hd.below.mono (by simp))⟩
  · rcases kinds26 k h1 h2 with rfl | rfl | rfl | rfl | rfl | rfl | rfl | rfl | rfl | rfl | rfl | rfl | rfl | rfl | rfl | rfl | rfl | rfl | rfl | rfl | rfl | rfl | rfl | rfl | rfl | rfl
    all_goals first
      | exact absurd rfl h23
      | (go_enter Tryz.func69, Tryz.ntmps69
         go_wp2
         go_ret
         exact ⟨rfl, by go_grown⟩)
set_option maxHeartbeats 32000000 in
theorem fields_ref (k : Int) (nl : Bool) (t : ByteArray) (n sm : Int) (re im : Nat) (fl : Bool) (mk : Int) (A B : Option Addr) (l c l2 c2 : Nat) (w : World) (h1 : 1 ≤ k) (h2 : k ≤ 26) :
    Calls Tryz.prog 172 #[spec k nl t n sm re im fl mk (.slice A l c) (.slice B l2 c2)] w fun e w' => e = .returned (.string ⟨(fieldsL k n).toArray⟩) ∧ Below w.heap.size w w' := by
  unfold spec
  by_cases h23 : k = 23
  · subst h23
    by_cases hn : 1 ≤ n ∧ n ≤ 3
    · obtain ⟨n1, n3⟩ := hn
      have hn : n = 1 ∨ n = 2 ∨ n = 3 := by omega
      rcases hn with rfl | rfl | rfl
      all_goals
        go_enter Tryz.func172, Tryz.ntmps172
        go_wp2
        go_ret
        exact ⟨rfl, by go_grown⟩
    · have hb : fieldsL 23 n = [] := by
        unfold fieldsL boxL
        rw [if_pos rfl, if_neg (by omega), if_neg (by omega), if_neg (by omega)]
      rw [hb]
      by_cases hn1 : 1 ≤ n
      · have hn3 : ¬ n ≤ 3 := fun h => hn ⟨hn1, h⟩
        go_enter Tryz.func172, Tryz.ntmps172
        go_wp2
        go_ret
        exact ⟨rfl, by go_grown⟩
      · go_enter Tryz.func172, Tryz.ntmps172
        go_wp2
        go_ret
        exact ⟨rfl, by go_grown⟩
  · rcases kinds26 k h1 h2 with rfl | rfl | rfl | rfl | rfl | rfl | rfl | rfl | rfl | rfl | rfl | rfl | rfl | rfl | rfl | rfl | rfl | rfl | rfl | rfl | rfl | rfl | rfl | rfl | rfl | rfl
    all_goals first
      | exact absurd rfl h23
      | (go_enter Tryz.func172, Tryz.ntmps172
         go_wp2
         go_ret
         exact ⟨rfl, by go_grown⟩)
end Go.Proofs.YtimmafiodhncgaaGreatDoor.TW
end
section
/- What a kind alone asks: kinds.own. -/
set_option linter.unusedVariables false
set_option linter.unusedSimpArgs false
namespace Go.Proofs.YtimmafiodhncgaaGreatDoor.TW
open Go.RowKit Go.Shelf Go.Proofs.YtimmafiodhncgaaGreatDoorW.PrintWords Go.Proofs.YtimmafiodhncgaaGreatDoorW.PrintMore

/-- has a spec what its kind alone asks? -/
def ownB (k : Int) (nl : Bool) (tl : Nat) (n : Int) (its : List ByteArray) : Bool :=
  if k = 5 then decide (tl = 4) else if k = 23 then decide (1 ≤ n ∧ n ≤ 3) else if k = 26 then (nl || (decide (its.length = 1) && !(its.headD ByteArray.empty).toList.isEmpty)) else decide (1 ≤ k ∧ k ≤ 26)
set_option maxHeartbeats 4000000 in
theorem own_calls (k : Int) (nl : Bool) (t : ByteArray) (n sm : Int) (re im : Nat) (fl : Bool) (mk : Int) (A B : Option Addr) (l c l2 c2 : Nat) (its : List ByteArray) (w : World) (hl : its.length = l) (hC : Kd.string.C w A l its) :
    Calls Tryz.prog 68 #[spec k nl t n sm re im fl mk (.slice A l c) (.slice B l2 c2)] w fun e w' => e = .returned (.bool (ownB k nl t.size n its)) ∧ Below w.heap.size w w' := by
  unfold spec
  by_cases h5 : k = 5
  · subst h5
    go_enter Tryz.func68, Tryz.ntmps68
    go_wp2
    go_ret
    refine ⟨?_, by go_grown⟩
    show Ending.returned (.bool _) = Ending.returned (.bool _)
    refine congrArg (fun b => Ending.returned (Value.bool b)) ?_
    rw [Bool.eq_iff_iff]
    simp [ownB]
    omega
  · by_cases h23 : k = 23
    · subst h23
      go_enter Tryz.func68, Tryz.ntmps68
      go_wp2
      all_goals
        go_ret
        refine ⟨?_, by go_grown⟩
        show Ending.returned (.bool _) = Ending.returned (.bool _)
        refine congrArg (fun b => Ending.returned (Value.bool b)) ?_
        rw [Bool.eq_iff_iff]
        simp [ownB]
        omega
    · by_cases h26 : k = 26
      · subst h26
        cases nl with
        | true =>
          go_enter Tryz.func68, Tryz.ntmps68
          go_wp2
          go_ret
          exact ⟨by simp [ownB], by go_grown⟩
        | false =>
          by_cases hl1 : l = 1
          · subst hl1
            obtain ⟨x, rfl⟩ : ∃ x, its = [x] := by
              match its, hl with
              | [x], _ => exact ⟨x, rfl⟩
            obtain ⟨ad, rfl, hx⟩ := Kd.at_string hC 0 (by omega) (by omega)
            rw [show (0 : Int).toNat = 0 from rfl, show rdOf ByteArray.empty [x] 0 = x from rfl] at hx
            have hx2 : w.cell? ad = some (.string x) := by
              have : ad.add 0 = ad := by unfold Addr.add; split <;> simp_all
              rw [this] at hx
              exact hx
            have hb := World.block_lt_of_cell? w _ hx2
            clear hx hC
            have hx3 : (w.alloc (.cells #[.int .u8 26, .bool false, .string t, .int .i16 n, .int .i8 sm, .float .f64 re, .float .f64 im, .bool fl, .int .u32 mk, .slice (some ad) 1 c, .slice B l2 c2] 52)).cell? ad = some (.string x) :=
              (World.cell?_of_block (Lib.alloc_old w _ _ hb)).trans hx2
            go_enter Tryz.func68, Tryz.ntmps68
            go_wp2
            all_goals
              go_ret
              exact ⟨by simp [ownB], by go_grown⟩
          · have hl2 : ((l : Int) == 1) = false := by simp; omega
            go_enter Tryz.func68, Tryz.ntmps68
            go_wp2
            go_ret
            exact ⟨by simp [ownB, hl, hl1], by go_grown⟩
      · have g5 : (k == 5) = false := by simp [h5]
        have g23 : (k == 23) = false := by simp [h23]
        have g26 : (k == 26) = false := by simp [h26]
        go_enter Tryz.func68, Tryz.ntmps68
        go_wp2
        all_goals
          go_ret
          refine ⟨?_, by go_grown⟩
          show Ending.returned (.bool _) = Ending.returned (.bool _)
          refine congrArg (fun b => Ending.returned (Value.bool b)) ?_
          rw [Bool.eq_iff_iff]
          simp [ownB, h5, h23, h26]
          omega
end Go.Proofs.YtimmafiodhncgaaGreatDoor.TW
end
section
/- kinds.Check: what is wrong with a spec. -/
set_option linter.unusedVariables false
set_option linter.unusedSimpArgs false
namespace Go.Proofs.YtimmafiodhncgaaGreatDoor.TW
open Go.RowKit Go.Shelf Go.Proofs.YtimmafiodhncgaaGreatDoorW.PrintWords Go.Proofs.YtimmafiodhncgaaGreatDoorW.PrintMore

def mostL (k : Int) : Nat := if k = 13 ∨ k = 14 ∨ k = 15 ∨ k = 17 ∨ k = 18 ∨ k = 20 ∨ k = 25 then 1 else if k = 16 ∨ k = 26 then 64 else 0
/-- what is wrong with a spec -/
def goodB (k : Int) (nl : Bool) (t : ByteArray) (n sm : Int) (re im : Nat) (fl : Bool) (mk : Int) (its : List ByteArray) : Bool :=
  ownB k nl t.size n its && decide (t.size ≤ 4096) && decide (its.length ≤ 64) && its.all (fun x => decide (x.size ≤ 4096)) && okB (fieldsL k n) nl t n sm re im fl mk its.length &&
    (!nl || okB (48 :: if k = 23 then [78] else []) nl t n sm re im fl mk its.length)
def chk (k : Int) (nl : Bool) (t : ByteArray) (n sm : Int) (re im : Nat) (fl : Bool) (mk : Int) (its : List ByteArray) (l2 : Nat) : Int :=
  if goodB k nl t n sm re im fl mk its then (if l2 ≤ (if nl then 0 else mostL k) then 0 else 41) else 40
/-- a spec's eleven cells in a block -/
def SpecAt (b : Nat) (k : Int) (nl : Bool) (t : ByteArray) (n sm : Int) (re im : Nat) (fl : Bool) (mk : Int) (it pa : Value) (W : World) : Prop :=
  W.heap[b]? = some (.cells #[.int .u8 k, .bool nl, .string t, .int .i16 n, .int .i8 sm, .float .f64 re, .float .f64 im, .bool fl, .int .u32 mk, it, pa] 52 (0, 0))
section
variable {b : Nat} {k : Int} {nl : Bool} {t : ByteArray} {n sm : Int} {re im : Nat} {fl : Bool} {mk : Int} {it pa : Value} {W : World}
theorem SpecAt.cells (h : SpecAt b k nl t n sm re im fl mk it pa W) :
    W.cell? ⟨b, 0, none⟩ = some (.int .u8 k) ∧ W.cell? ⟨b, 1, none⟩ = some (.bool nl) ∧ W.cell? ⟨b, 2, none⟩ = some (.string t) ∧ W.cell? ⟨b, 3, none⟩ = some (.int .i16 n) ∧ W.cell? ⟨b, 4, none⟩ = some (.int .i8 sm) ∧
    W.cell? ⟨b, 5, none⟩ = some (.float .f64 re) ∧ W.cell? ⟨b, 6, none⟩ = some (.float .f64 im) ∧ W.cell? ⟨b, 7, none⟩ = some (.bool fl) ∧ W.cell? ⟨b, 8, none⟩ = some (.int .u32 mk) ∧ W.cell? ⟨b, 9, none⟩ = some it ∧ W.cell? ⟨b, 10, none⟩ = some pa := by
  refine ⟨?_, ?_, ?_, ?_, ?_, ?_, ?_, ?_, ?_, ?_, ?_⟩ <;> (rw [Lib.cell_of_heap h]; rfl)
theorem SpecAt.next {V : World} (h : SpecAt b k nl t n sm re im fl mk it pa W) (hb : Below W.heap.size W V) : SpecAt b k nl t n sm re im fl mk it pa V :=
  (hb.block b (Array.getElem?_eq_some_iff.1 h).1).trans h
theorem SpecAt.lt (h : SpecAt b k nl t n sm re im fl mk it pa W) : b < W.heap.size := (Array.getElem?_eq_some_iff.1 h).1
theorem SpecAt.new (w : World) (k : Int) (nl : Bool) (t : ByteArray) (n sm : Int) (re im : Nat) (fl : Bool) (mk : Int) (it pa : Value) :
    SpecAt w.heap.size k nl t n sm re im fl mk it pa (w.alloc (.cells #[.int .u8 k, .bool nl, .string t, .int .i16 n, .int .i8 sm, .float .f64 re, .float .f64 im, .bool fl, .int .u32 mk, it, pa] 52)) := World.alloc_heap_new w _
end
theorem own_kind {k : Int} {nl : Bool} {tl : Nat} {n : Int} {its : List ByteArray} (h : ownB k nl tl n its = true) : 1 ≤ k ∧ k ≤ 26 ∧ (k = 23 → 1 ≤ n ∧ n ≤ 3) := by
  unfold ownB at h
  split at h
  · omega
  · split at h
    · simp at h; omega
    · split at h
      · omega
      · simp at h; omega
theorem rd_get (its : List ByteArray) (i : Nat) (h : i < its.length) : rdOf ByteArray.empty its (i : Int) = its[i] := by
  unfold rdOf
  simp [h]
theorem parts_calls (k : Int) (w : World) : Calls Tryz.prog 71 #[.int .u8 k] w fun e w' => e = .returned (.tuple #[.int .i64 0, .int .i64 (mostL k)]) ∧ Drawn0 w w' :=
  QA.kinds_Parts.calls 1 k 0 (mostL k) w (by
    unfold QA.kinds_Parts.f QA.kinds_Parts.j0 mostL
    repeat' split
    all_goals simp_all)
set_option maxHeartbeats 8000000 in
set_option maxRecDepth 100000 in
theorem check_calls (k : Int) (nl : Bool) (t : ByteArray) (n sm : Int) (re im : Nat) (fl : Bool) (mk : Int) (A B : Option Addr) (l c l2 c2 : Nat) (its : List ByteArray) (w : World) (hl : its.length = l) (hC : Kd.string.C w A l its) (hlb : l ≤ 140737488355328) :
    Calls Tryz.prog 39 #[spec k nl t n sm re im fl mk (.slice A l c) (.slice B l2 c2)] w fun e w' => e = .returned (.int .i64 (chk k nl t n sm re im fl mk its l2)) ∧ Below w.heap.size w w' := by
  have hown := fun W (hW : Below w.heap.size w W) => own_calls k nl t n sm re im fl mk A B l c l2 c2 its W hl (Kd.C_below hC hW)
  unfold spec at hown ⊢
  have hn := SpecAt.new w k nl t n sm re im fl mk (.slice A l c) (.slice B l2 c2)
  have hb0 : Below w.heap.size w (w.alloc (.cells #[.int .u8 k, .bool nl, .string t, .int .i16 n, .int .i8 sm, .float .f64 re, .float .f64 im, .bool fl, .int .u32 mk, .slice A l c, .slice B l2 c2] 52)) := (Below.refl _ w).alloc (Nat.le_refl _) _
  have HN := Aside0.mk hn
  have HB0 := Aside0.mk hb0
  clear hn hb0
  go_enter Tryz.func39, Tryz.ntmps39
  go_wp2_with (go_at_call 68; (with_reducible refine (hown _ HB0.out).mono ?_))
  rintro e w1 ⟨rfl, h1⟩
  have s1 := HN.out.next h1
  have b1 := HB0.out.trans (h1.mono HB0.out.size)
  obtain ⟨c0, c1, c2', c3, c4, c5, c6, c7, c8, c9, c10⟩ := s1.cells
  have S1 := Aside0.mk s1
  have B1 := Aside0.mk b1
  clear s1 b1 h1 HN HB0 hown
  cases ho : ownB k nl t.size n its with
  | false =>
    go_wp2
    go_ret
    exact ⟨by simp [chk, goodB, ho], B1.out⟩
  | true =>
    by_cases ht : t.size ≤ 4096
    · have ht2 : ¬ (4096 : Int) < (t.size : Int) := by omega
      by_cases hl6 : l ≤ 64
      · have hl2 : ¬ (64 : Int) < (l : Int) := by omega
        obtain ⟨h1k, h2k, h3k⟩ := own_kind ho
        go_wp2
        go_loopg [27] l (fun kq v27 wr => ∃ i : Nat, v27 = .int .i64 i ∧ i + kq = l ∧ wr = w1 ∧ Aside0 (its.take i |>.all (fun x => decide (x.size ≤ 4096))) )
        case atStart =>
          exact ⟨0, rfl, by omega, rfl, Aside0.mk (by simp)⟩
        case round =>
          obtain ⟨i, rfl, hik, rfl, HT⟩ := hrel
          by_cases hi : i < l
          · have hi2 : (i : Int) < (l : Int) := by omega
            obtain ⟨ad, rfl, hx⟩ := Kd.at_string (Kd.C_below hC B1.out) (i : Int) (by omega) hi2
            rw [show ((i : Int)).toNat = i from rfl, rd_get its i (by omega)] at hx
            by_cases hx4 : (its[i]'(by omega)).size ≤ 4096
            · have hx5 : ¬ (4096 : Int) < ((its[i]'(by omega)).size : Int) := by omega
              have hwi : wrap64 ((i : Int) + 1) = ((i + 1 : Nat) : Int) := by unfold wrap64; omega
              have hii : (0 ≤ (i : Int)) ∧ ((i : Int) < (l : Int)) := by omega
              go_wp2
              go_roundg (gk - 1)
              case measure => omega
              case rel => exact ⟨i + 1, by simp, by omega, rfl, Aside0.mk (by rw [List.take_add_one, List.all_append, HT.out]; simp [List.getElem?_eq_getElem (show i < its.length by omega), hx4])⟩
            · have hx5 : (4096 : Int) < ((its[i]'(by omega)).size : Int) := by omega
              have hii : (0 ≤ (i : Int)) ∧ ((i : Int) < (l : Int)) := by omega
              go_wp2
              go_ret
              refine ⟨?_, B1.out⟩
              have : its.all (fun x => decide (x.size ≤ 4096)) = false := by
                rw [List.all_eq_false]
                exact ⟨_, List.getElem_mem (show i < its.length by omega), by simpa using hx4⟩
              simp [chk, goodB, ho, ht, this]
          · obtain rfl : i = l := by omega
            have hall : its.all (fun x => decide (x.size ≤ 4096)) = true := by
              have := HT.out
              rwa [List.take_of_length_le (by omega)] at this
            have HA := Aside0.mk hall
            clear hall HT
            have hfields := fun W => fields_calls k nl t n sm re im fl mk A B i c l2 c2 W h1k h2k h3k
            have hbare := fun cnt W => bare_calls k nl t n sm re im fl mk A B i c l2 c2 cnt W
            unfold spec at hfields hbare
            go_wp2_with (go_at_call 69; (with_reducible refine (hfields _).mono ?_))
            rintro e w2 ⟨rfl, h2⟩
            have s2 := S1.out.next h2
            have b2 := B1.out.trans (h2.mono B1.out.size)
            clear c0 c1 c2' c3 c4 c5 c6 c7 c8 c9 c10 h2 S1 B1
            obtain ⟨c0, c1, c2', c3, c4, c5, c6, c7, c8, c9, c10⟩ := s2.cells
            have S2 := Aside0.mk s2
            have B2 := Aside0.mk b2
            clear s2 b2
            go_wp2_with (go_at_call 70; (with_reducible refine (hbare _ _).mono ?_))
            rintro e w3 rfl h3
            have s3 := S2.out.next h3
            have b3 := B2.out.trans (h3.mono B2.out.size)
            clear c0 c1 c2' c3 c4 c5 c6 c7 c8 c9 c10 h3 S2 B2
            obtain ⟨c0, c1, c2', c3, c4, c5, c6, c7, c8, c9, c10⟩ := s3.cells
            have S3 := Aside0.mk s3
            have B3 := Aside0.mk b3
            clear s3 b3
            cases hk : okB (fieldsL k n) nl t n sm re im fl mk its.length with
            | false =>
              rw [hl] at hk
              rw [hk]
              go_wp2
              go_ret
              exact ⟨by simp [chk, goodB, ho, ht, hl, hk], B3.out⟩
            | true =>
              rw [hl] at hk
              rw [hk]
              have hparts := fun W => parts_calls k W
              cases nl with
              | false =>
                by_cases hp : l2 ≤ mostL k
                · have hp2 : ¬ (mostL k : Int) < (l2 : Int) := by omega
                  go_wp2_with (go_at_call 71; (with_reducible refine (hparts _).mono ?_))
                  rintro e w4 ⟨rfl, d4⟩
                  have h4 := d4.below
                  have s4 := S3.out.next h4
                  have b4 := B3.out.trans (h4.mono B3.out.size)
                  clear c0 c1 c2' c3 c4 c5 c6 c7 c8 c9 c10 h4 S3 B3
                  obtain ⟨c0, c1, c2', c3, c4, c5, c6, c7, c8, c9, c10⟩ := s4.cells
                  have S4 := Aside0.mk s4
                  have B4 := Aside0.mk b4
                  clear s4 b4
                  go_wp2
                  go_ret
                  exact ⟨by simp [chk, goodB, ho, ht, hl, hk, hl6, HA.out, hp], B4.out⟩
                · have hp2 : (mostL k : Int) < (l2 : Int) := by omega
                  go_wp2_with (go_at_call 71; (with_reducible refine (hparts _).mono ?_))
                  rintro e w4 ⟨rfl, d4⟩
                  have h4 := d4.below
                  have s4 := S3.out.next h4
                  have b4 := B3.out.trans (h4.mono B3.out.size)
                  clear c0 c1 c2' c3 c4 c5 c6 c7 c8 c9 c10 h4 S3 B3
                  obtain ⟨c0, c1, c2', c3, c4, c5, c6, c7, c8, c9, c10⟩ := s4.cells
                  have S4 := Aside0.mk s4
                  have B4 := Aside0.mk b4
                  clear s4 b4
                  go_wp2
                  go_ret
                  exact ⟨by simp [chk, goodB, ho, ht, hl, hk, hl6, HA.out, hp], B4.out⟩
              | true =>
                by_cases h23 : k = 23
                · subst h23
                  go_wp2_with (go_at_call 70; (with_reducible refine (hbare _ _).mono ?_))
                  rintro e w4 ⟨he, h4⟩
                  have he2 : e = .returned (.bool (okB [48, 78] true t n sm re im fl mk i)) := he
                  clear he
                  have s4 := S3.out.next h4
                  have b4 := B3.out.trans (h4.mono B3.out.size)
                  clear c0 c1 c2' c3 c4 c5 c6 c7 c8 c9 c10 h4 S3 B3
                  obtain ⟨c0, c1, c2', c3, c4, c5, c6, c7, c8, c9, c10⟩ := s4.cells
                  have S4 := Aside0.mk s4
                  have B4 := Aside0.mk b4
                  clear s4 b4
                  cases hk2 : okB [48, 78] true t n sm re im fl mk i with
                  | false =>
                    rw [hk2] at he2
                    subst he2
                    go_wp2
                    go_ret
                    exact ⟨by simp [chk, goodB, ho, ht, hl, hk, hl6, HA.out, hk2], B4.out⟩
                  | true =>
                    rw [hk2] at he2
                    subst he2
                    go_wp2_with (go_at_call 71; (with_reducible refine (hparts _).mono ?_))
                    rintro e w5 ⟨rfl, d5⟩
                    have h5 := d5.below
                    have s5 := S4.out.next h5
                    have b5 := B4.out.trans (h5.mono B4.out.size)
                    clear c0 c1 c2' c3 c4 c5 c6 c7 c8 c9 c10 h5 S4 B4
                    obtain ⟨c0, c1, c2', c3, c4, c5, c6, c7, c8, c9, c10⟩ := s5.cells
                    have S5 := Aside0.mk s5
                    have B5 := Aside0.mk b5
                    clear s5 b5
                    by_cases hp : l2 = 0
                    · subst hp
                      go_wp2
                      go_ret
                      exact ⟨by simp [chk, goodB, ho, ht, hl, hk, hl6, HA.out, hk2], B5.out⟩
                    · have hp2 : (0 : Int) < (l2 : Int) := by omega
                      go_wp2
                      go_ret
                      exact ⟨by simp [chk, goodB, ho, ht, hl, hk, hl6, HA.out, hk2, hp], B5.out⟩
                · have g23 : (k == 23) = false := by simp [h23]
                  go_wp2_with (go_at_call 70; (with_reducible refine (hbare _ _).mono ?_))
                  rintro e w4 ⟨he, h4⟩
                  have he2 : e = .returned (.bool (okB [48] true t n sm re im fl mk i)) := he
                  clear he
                  have s4 := S3.out.next h4
                  have b4 := B3.out.trans (h4.mono B3.out.size)
                  clear c0 c1 c2' c3 c4 c5 c6 c7 c8 c9 c10 h4 S3 B3
                  obtain ⟨c0, c1, c2', c3, c4, c5, c6, c7, c8, c9, c10⟩ := s4.cells
                  have S4 := Aside0.mk s4
                  have B4 := Aside0.mk b4
                  clear s4 b4
                  cases hk2 : okB [48] true t n sm re im fl mk i with
                  | false =>
                    rw [hk2] at he2
                    subst he2
                    go_wp2
                    go_ret
                    exact ⟨by simp [chk, goodB, ho, ht, hl, hk, hl6, HA.out, hk2, h23], B4.out⟩
                  | true =>
                    rw [hk2] at he2
                    subst he2
                    go_wp2_with (go_at_call 71; (with_reducible refine (hparts _).mono ?_))
                    rintro e w5 ⟨rfl, d5⟩
                    have h5 := d5.below
                    have s5 := S4.out.next h5
                    have b5 := B4.out.trans (h5.mono B4.out.size)
                    clear c0 c1 c2' c3 c4 c5 c6 c7 c8 c9 c10 h5 S4 B4
                    obtain ⟨c0, c1, c2', c3, c4, c5, c6, c7, c8, c9, c10⟩ := s5.cells
                    have S5 := Aside0.mk s5
                    have B5 := Aside0.mk b5
                    clear s5 b5
                    by_cases hp : l2 = 0
                    · subst hp
                      go_wp2
                      go_ret
                      exact ⟨by simp [chk, goodB, ho, ht, hl, hk, hl6, HA.out, hk2, h23], B5.out⟩
                    · have hp2 : (0 : Int) < (l2 : Int) := by omega
                      go_wp2
                      go_ret
                      exact ⟨by simp [chk, goodB, ho, ht, hl, hk, hl6, HA.out, hk2, hp, h23], B5.out⟩
      · have hl2 : (64 : Int) < (l : Int) := by omega
        go_wp2
        go_ret
        exact ⟨by simp [chk, goodB, ho, ht, hl]; omega, B1.out⟩
    · have ht2 : (4096 : Int) < (t.size : Int) := by omega
      go_wp2
      go_ret
      exact ⟨by simp [chk, goodB, ho, ht], B1.out⟩
end Go.Proofs.YtimmafiodhncgaaGreatDoor.TW
end
