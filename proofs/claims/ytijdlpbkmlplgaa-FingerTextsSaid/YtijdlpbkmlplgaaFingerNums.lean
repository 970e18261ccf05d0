import Derived.Test.YtijdlpbkmlplgaaQG1
import Derived.Deep.RegionHeld3
import Derived.Deep.LoopGhost
import Derived.RangeFuncRecord
import Derived.Lib.ConvBytes
import Derived.Laws.Bits64
/- Apart: the walk. -/
set_option linter.unusedVariables false
set_option linter.unusedSimpArgs false
namespace Go.Proofs.Ytijdlpbkmlplgaa.TF
open Go.RowKit Go.Proofs.YtijdlpbkmlplgaaW.PrintWords Go.Proofs.YtijdlpbkmlplgaaW.PrintMore Go.Proofs.Ytijdlpbkmlplgaa.QG

/-- sixteen bytes, as the program holds them -/
def arr (xs : List Int) : Array Value := (xs.map (Value.int .u8)).toArray
theorem arr_size (xs : List Int) : (arr xs).size = xs.length := by simp [arr]
theorem arr_get (xs : List Int) (i : Nat) (h : i < xs.length) : (arr xs)[i]? = some (.int .u8 (xs.getD i 0)) := by
  simp [arr, List.getElem?_eq_getElem h, List.getD_eq_getElem?_getD]
theorem arr_lit (A : Array Value) (h : A.size = 16) : #[A[0], A[1], A[2], A[3], A[4], A[5], A[6], A[7], A[8], A[9], A[10], A[11], A[12], A[13], A[14], A[15]] = A := by
  apply Array.ext
  · simp [h]
  · intro i h1 h2
    have : i < 16 := by simpa using h1
    have h0 : i = 0 ∨ i = 1 ∨ i = 2 ∨ i = 3 ∨ i = 4 ∨ i = 5 ∨ i = 6 ∨ i = 7 ∨ i = 8 ∨ i = 9 ∨ i = 10 ∨ i = 11 ∨ i = 12 ∨ i = 13 ∨ i = 14 ∨ i = 15 := by omega
    rcases h0 with rfl | rfl | rfl | rfl | rfl | rfl | rfl | rfl | rfl | rfl | rfl | rfl | rfl | rfl | rfl | rfl <;> rfl
theorem index_arr43 (A : Array Value) (hA : A.size = 16) (i : Nat) (hi : i < 16) (v : Value) (hv : A[i]? = some v) (W : World) : Sem.run Try.prog (Instr.index 43 (.agg A) (.int .i64 i)) W = .ok v W := by
  have h1 : A[i]'(by omega) = v := by rw [Array.getElem?_eq_getElem (by omega)] at hv; exact Option.some.inj hv
  have ht := Try.underlying43
  have ht5 := Try.underlying5
  obtain ⟨i0, hi0, hz0, hz1, hz2⟩ := info_parts info5
  have hc : (0 ≤ (i : Int)) ∧ ((i : Int) < 16) := by omega
  simp [Instr.index, go_sem, ht, ht5, hc, hi, part, hi0, hz1, h1, hA, hv]
theorem cell_arr (w : World) (A B : Array Value) (t : TypeId) (i : Nat) (v : Value) (h : B[i]? = some v) : ((w.alloc (.cells A t)).alloc (.cells B t)).cell? ⟨w.heap.size + 1, i, none⟩ = some v := by
  have h1 := World.alloc_heap_new (w.alloc (.cells A t)) (.cells B t)
  rw [World.size_alloc] at h1
  simp only [World.cell?]
  rw [h1]
  exact h
/-- the bits of z below b that are set -/
def popN (z : Int) : Nat → Int
  | 0 => 0
  | b + 1 => popN z b + (z / 2 ^ b) % 2
/-- how many bits are unlike in the first n places -/
def apartN (xs ys : List Int) : Nat → Int
  | 0 => 0
  | i + 1 => apartN xs ys i + popN (Go.bits .xor .u8 (xs.getD i 0) (ys.getD i 0)) 8

theorem and1 (v : Int) (h0 : 0 ≤ v) (h1 : v < 256) : Go.bits .and .u8 v 1 = v % 2 := by
  have : ∀ a : Fin 256, Go.bits .and .u8 (a.val : Int) 1 = (a.val : Int) % 2 := by decide +kernel
  have h := this ⟨v.toNat, by omega⟩
  simp only at h
  rwa [show ((v.toNat : Nat) : Int) = v from by omega] at h
theorem div_bd (z : Int) (b : Nat) (h0 : 0 ≤ z) (h1 : z < 256) : 0 ≤ z / 2 ^ b ∧ z / 2 ^ b < 256 := by
  have hp : (0 : Int) < 2 ^ b := Int.pow_pos (by decide)
  have k1 : 0 ≤ z / 2 ^ b := Int.ediv_nonneg h0 (by omega)
  have k2 : z / 2 ^ b ≤ z := Int.ediv_le_self _ h0
  omega
theorem popN_bd (z : Int) (b : Nat) : 0 ≤ popN z b ∧ popN z b ≤ b := by
  induction b with
  | zero => simp [popN]
  | succ b ih =>
    unfold popN
    have h1 : 0 ≤ (z / 2 ^ b) % 2 := Int.emod_nonneg _ (by decide)
    have h2 : (z / 2 ^ b) % 2 < 2 := Int.emod_lt_of_pos _ (by decide)
    omega
theorem apartN_bd (xs ys : List Int) (i : Nat) : 0 ≤ apartN xs ys i ∧ apartN xs ys i ≤ 8 * i := by
  induction i with
  | zero => simp [apartN]
  | succ i ih =>
    unfold apartN
    have h := popN_bd (Go.bits .xor .u8 (xs.getD i 0) (ys.getD i 0)) 8
    omega

set_option maxRecDepth 100000 in
set_option maxHeartbeats 1000000 in
theorem apart_walk (xs ys : List Int) (hx : xs.length = 16) (hy : ys.length = 16) (hxor : ∀ i, i < 16 → ∀ x y, xs.getD i 0 = x → ys.getD i 0 = y → 0 ≤ Go.bits .xor .u8 x y ∧ Go.bits .xor .u8 x y < 256) (w : World) :
    Calls Try.prog 33 #[.agg (arr xs), .agg (arr ys)] w fun e w' => e = .returned (.int .i64 (apartN xs ys 16)) ∧ Below w.heap.size w w' := by
  have hA : (arr xs).size = 16 := by rw [arr_size, hx]
  have hB : (arr ys).size = 16 := by rw [arr_size, hy]
  obtain ⟨A, hAe⟩ : ∃ A, arr xs = A := ⟨_, rfl⟩
  obtain ⟨B, hBe⟩ : ∃ B, arr ys = B := ⟨_, rfl⟩
  have gA := fun i (h : i < 16) => arr_get xs i (by omega)
  have gB := fun i (h : i < 16) => arr_get ys i (by omega)
  rw [hAe] at hA gA ⊢
  rw [hBe] at hB gB ⊢
  have hAl := arr_lit A hA
  go_enter Try.func33, Try.ntmps33
  go_wp2
  obtain ⟨W0, hW0⟩ : ∃ W0, ((w.alloc (.cells A 43)).alloc (.cells B 43)) = W0 := ⟨_, rfl⟩
  have hBW : Below w.heap.size w W0 := by rw [← hW0]; exact ((Below.refl _ w).alloc (Nat.le_refl _) _).alloc (by simp) _
  rw [hW0]
  go_loopg [5, 10] 16 (fun kq v5 v10 wr => ∃ i : Nat, v10 = .int .i64 i ∧ i + kq = 16 ∧ v5 = .int .i64 (apartN xs ys i) ∧ wr = W0)
  case atStart => exact ⟨0, rfl, rfl, rfl, rfl⟩
  case round =>
    obtain ⟨i, rfl, hk, rfl, rfl⟩ := hrel
    by_cases hi : i < 16
    · obtain ⟨x, hx0⟩ : ∃ x, xs.getD i 0 = x := ⟨_, rfl⟩
      obtain ⟨y, hy0⟩ : ∃ y, ys.getD i 0 = y := ⟨_, rfl⟩
      have GA : Aside0 (A[i]? = some (.int .u8 x)) := ⟨by rw [← hx0]; exact gA i hi⟩
      have hBi : wr.cell? ⟨w.heap.size + 1, i, none⟩ = some (.int .u8 y) := by rw [← hW0]; exact cell_arr w A B 43 i _ (by rw [← hy0]; exact gB i hi)
      have hii : (0 ≤ (i : Int)) ∧ ((i : Int) < 16) := by omega
      clear gA gB
      go_wp2
      rw [index_arr43 A hA i hi _ GA.out]
      go_wp2
      go_loopg [5, 14] 8 (fun kq v5 v14 wq => ∃ b : Nat, v14 = .int .i64 b ∧ b + kq = 8 ∧ v5 = .int .i64 (apartN xs ys i + popN (Go.bits .xor .u8 x y) b) ∧ wq = wr)
      case atStart => exact ⟨0, rfl, rfl, by simp [popN], rfl⟩
      case round =>
        obtain ⟨b, rfl, hkb, rfl, rfl⟩ := hrel
        obtain ⟨z, hz⟩ : ∃ z, Go.bits .xor .u8 x y = z := ⟨_, rfl⟩
        rw [hz]
        have hzb : 0 ≤ z ∧ z < 256 := by rw [← hz]; exact hxor i hi x y hx0 hy0
        obtain ⟨S, hS⟩ : ∃ S, apartN xs ys i = S := ⟨_, rfl⟩
        obtain ⟨Q, hQ⟩ : ∃ Q, popN z b = Q := ⟨_, rfl⟩
        rw [hS, hQ]
        have b1 := apartN_bd xs ys i
        have b2 := popN_bd z b
        rw [hS] at b1
        rw [hQ] at b2
        by_cases hb : b < 8
        · have hd := div_bd z b hzb.1 hzb.2
          have ha := and1 (z / 2 ^ b) hd.1 hd.2
          have hm : (z / 2 ^ b) % 2 = 0 ∨ (z / 2 ^ b) % 2 = 1 := by have h1 : 0 ≤ (z / 2 ^ b) % 2 := Int.emod_nonneg _ (by decide); have h2 : (z / 2 ^ b) % 2 < 2 := Int.emod_lt_of_pos _ (by decide); omega
          have hw : wrap64 (S + Q + 1) = S + Q + 1 := by unfold wrap64; omega
          have hnx : popN z (b + 1) = Q + (z / 2 ^ b) % 2 := by rw [← hQ]; rfl
          rcases hm with hm | hm
          · rw [hm] at ha hnx
            have hbe : (Go.bits .and .u8 (z / 2 ^ b) 1 == 1) = false := by rw [ha]; rfl
            clear hd
            go_wp2
            go_roundg (gk - 1)
            case measure => omega
            case rel => exact ⟨b + 1, by simp, by omega, by rw [hS, hz, hnx]; simp, rfl⟩
          · rw [hm] at ha hnx
            have hbe : (Go.bits .and .u8 (z / 2 ^ b) 1 == 1) = true := by rw [ha]; rfl
            clear hd
            go_wp2
            go_roundg (gk - 1)
            case measure => omega
            case rel => exact ⟨b + 1, by simp, by omega, by rw [hS, hz, hnx]; simp; omega, rfl⟩
        · obtain rfl : b = 8 := by omega
          go_wp2
          go_roundg (15 - i)
          case measure => omega
          case rel => exact ⟨i + 1, by simp, by omega, by rw [← hS, ← hQ, ← hz, ← hx0, ← hy0]; rfl, rfl⟩
    · obtain rfl : i = 16 := by omega
      go_wp2
      go_ret
      exact ⟨rfl, hBW⟩
end Go.Proofs.Ytijdlpbkmlplgaa.TF
/- The document's Apart: the walk. -/
set_option linter.unusedVariables false
set_option linter.unusedSimpArgs false
namespace Go.Proofs.Ytijdlpbkmlplgaa.TF
open Go.RowKit Go.Proofs.YtijdlpbkmlplgaaW.PrintWords Go.Proofs.YtijdlpbkmlplgaaW.PrintMore Go.Proofs.Ytijdlpbkmlplgaa.QG

theorem cell_arr0 (w : World) (A B : Array Value) (t : TypeId) (i : Nat) (v : Value) (h : A[i]? = some v) : ((w.alloc (.cells A t)).alloc (.cells B t)).cell? ⟨w.heap.size, i, none⟩ = some v := by
  have h1 : ((w.alloc (.cells A t)).alloc (.cells B t)).heap[w.heap.size]? = some (.cells A t) := (Below.heap_alloc _ _ _ (by simp)).trans (World.alloc_heap_new w _)
  simp only [World.cell?]
  rw [h1]
  exact h
theorem two_mono (b d : Nat) : (2 : Int) ^ b ≤ 2 ^ (b + d) := by
  induction d with
  | zero => exact Int.le_refl _
  | succ d ih =>
    have e : (2 : Int) ^ (b + (d + 1)) = 2 ^ (b + d) * 2 := by rw [← Int.pow_succ]; rfl
    have hp : (0 : Int) < 2 ^ (b + d) := Int.pow_pos (by decide)
    omega
theorem div_step (z : Int) (b : Nat) : z / 2 ^ b / 2 = z / 2 ^ (b + 1) := by
  rw [Int.ediv_ediv_of_nonneg (Int.le_of_lt (Int.pow_pos (by decide))), Int.pow_succ]
theorem popN_end (z : Int) (b : Nat) (h0 : 0 ≤ z) (h : z / 2 ^ b = 0) : ∀ d, popN z (b + d) = popN z b := by
  intro d
  induction d with
  | zero => rfl
  | succ d ih =>
    show popN z (b + d) + (z / 2 ^ (b + d)) % 2 = _
    have e : z / 2 ^ (b + d) = 0 := by
      have : z < 2 ^ b := by
        have hp : (0 : Int) < 2 ^ b := Int.pow_pos (by decide)
        exact Int.lt_of_not_ge fun hge => by
          have := Int.ediv_le_ediv hp hge
          rw [Int.ediv_self (by omega), h] at this
          omega
      have h2 := two_mono b d
      exact Int.ediv_eq_zero_of_lt h0 (by omega)
    rw [ih, e]; simp
theorem div_eight (z : Int) (b : Nat) (h0 : 0 ≤ z) (h1 : z < 256) (hb : 8 ≤ b) : z / 2 ^ b = 0 := by
  have h2 := two_mono 8 (b - 8)
  rw [show 8 + (b - 8) = b from by omega] at h2
  have h3 : (2 : Int) ^ 8 = 256 := by decide
  exact Int.ediv_eq_zero_of_lt h0 (by omega)

set_option maxRecDepth 100000 in
set_option maxHeartbeats 1000000 in
theorem apart_ref (xs ys : List Int) (hx : xs.length = 16) (hy : ys.length = 16) (hxor : ∀ i, i < 16 → ∀ x y, xs.getD i 0 = x → ys.getD i 0 = y → 0 ≤ Go.bits .xor .u8 x y ∧ Go.bits .xor .u8 x y < 256) (w : World) :
    Calls Try.prog 34 #[.agg (arr xs), .agg (arr ys)] w fun e w' => e = .returned (.int .i64 (apartN xs ys 16)) ∧ Below w.heap.size w w' := by
  have hA : (arr xs).size = 16 := by rw [arr_size, hx]
  have hB : (arr ys).size = 16 := by rw [arr_size, hy]
  obtain ⟨A, hAe⟩ : ∃ A, arr xs = A := ⟨_, rfl⟩
  obtain ⟨B, hBe⟩ : ∃ B, arr ys = B := ⟨_, rfl⟩
  have gA := fun i (h : i < 16) => arr_get xs i (by omega)
  have gB := fun i (h : i < 16) => arr_get ys i (by omega)
  rw [hAe] at hA gA ⊢
  rw [hBe] at hB gB ⊢
  go_enter Try.func34, Try.ntmps34
  go_wp2
  obtain ⟨W0, hW0⟩ : ∃ W0, ((w.alloc (.cells A 42)).alloc (.cells B 42)) = W0 := ⟨_, rfl⟩
  have hBW : Below w.heap.size w W0 := by rw [← hW0]; exact ((Below.refl _ w).alloc (Nat.le_refl _) _).alloc (by simp) _
  rw [hW0]
  go_loopg [5, 6] 16 (fun kq v5 v6 wr => ∃ i : Nat, v6 = .int .i64 i ∧ i + kq = 16 ∧ v5 = .int .i64 (apartN xs ys i) ∧ ∃ m, wr = W0.drewN m)
  case atStart => exact ⟨0, rfl, rfl, rfl, 0, rfl⟩
  case round =>
    obtain ⟨i, rfl, hk, rfl, m, rfl⟩ := hrel
    by_cases hi : i < 16
    · obtain ⟨x, hx0⟩ : ∃ x, xs.getD i 0 = x := ⟨_, rfl⟩
      obtain ⟨y, hy0⟩ : ∃ y, ys.getD i 0 = y := ⟨_, rfl⟩
      have hAi : (W0.drewN m).cell? ⟨w.heap.size, i, none⟩ = some (.int .u8 x) := by rw [← hW0]; exact cell_arr0 w A B 42 i _ (by rw [← hx0]; exact gA i hi)
      have hBi : (W0.drewN m).cell? ⟨w.heap.size + 1, i, none⟩ = some (.int .u8 y) := by rw [← hW0]; exact cell_arr w A B 42 i _ (by rw [← hy0]; exact gB i hi)
      have HAB : Aside0 ((W0.drewN m).cell? ⟨w.heap.size, i, none⟩ = some (.int .u8 x) ∧ (W0.drewN m).cell? ⟨w.heap.size + 1, i, none⟩ = some (.int .u8 y)) := ⟨hAi, hBi⟩
      clear hAi hBi
      have hii : (0 : Int) ≤ (i : Int) := by omega
      have hij : (i : Int) < 16 := by omega
      have h1 : Try.prog.follows .mixedOrders = true := by kernel_rfl
      obtain ⟨z, hz⟩ : ∃ z, Go.bits .xor .u8 x y = z := ⟨_, rfl⟩
      have hzb : 0 ≤ z ∧ z < 256 := by rw [← hz]; exact hxor i hi x y hx0 hy0
      clear gA gB
      go_wp2
      go_region_held3 (fun V => V.cell? ⟨w.heap.size, i, none⟩ = some (.int .u8 x) ∧ V.cell? ⟨w.heap.size + 1, i, none⟩ = some (.int .u8 y)) (first | exact HAB.out | go_keep) (fail)
      go_wp2
      go_loopg [5, 7] 9 (fun kq v5 v7 wq => ∃ b : Nat, v7 = .int .u8 (z / 2 ^ b) ∧ b + kq = 9 ∧ v5 = .int .i64 (apartN xs ys i + popN z b) ∧ wq = (W0.drewN m).drew)
      case atStart => exact ⟨0, by simp, rfl, by simp [popN], rfl⟩
      case round =>
        obtain ⟨b, rfl, hkb, rfl, rfl⟩ := hrel
        have hd := div_bd z b hzb.1 hzb.2
        have hst := div_step z b
        obtain ⟨v, hv⟩ : ∃ v, z / 2 ^ b = v := ⟨_, rfl⟩
        obtain ⟨v2, hv2⟩ : ∃ v2, z / 2 ^ (b + 1) = v2 := ⟨_, rfl⟩
        have hnx : popN z (b + 1) = popN z b + v % 2 := by rw [← hv]; rfl
        obtain ⟨S, hS⟩ : ∃ S, apartN xs ys i = S := ⟨_, rfl⟩
        obtain ⟨Q, hQ⟩ : ∃ Q, popN z b = Q := ⟨_, rfl⟩
        have b1 := apartN_bd xs ys i
        have b2 := popN_bd z b
        rw [hS] at b1
        rw [hQ] at b2 hnx
        rw [hv] at hd hst ⊢
        rw [hv2] at hst
        rw [hS, hQ]
        have GE := Aside0.mk (show popN z 8 = Q ∨ 0 < v from by
          by_cases h0 : v = 0
          · left
            by_cases hb8 : b ≤ 8
            · have := popN_end z b hzb.1 (by rw [hv, h0]) (8 - b)
              rw [show b + (8 - b) = 8 from by omega] at this
              rw [this, hQ]
            · have h9 : b = 9 := by omega
              subst h9
              have h8 := popN_end z 8 hzb.1 (div_eight z 8 hzb.1 hzb.2 (Nat.le_refl _)) 1
              rw [← hQ, ← h8]
          · right; omega)
        have hvb : 0 < v → b < 8 := fun h => by
          refine Nat.lt_of_not_le fun hb8 => ?_
          have := div_eight z b hzb.1 hzb.2 hb8
          omega
        have GV := Aside0.mk hv2
        have GX := Aside0.mk hnx
        have GS := Aside0.mk hS
        clear hv hv2 hQ hnx hS
        by_cases hpos : 0 < v
        · have hm1 : Int.tmod v 2 = v % 2 := Int.tmod_eq_emod_of_nonneg (by omega)
          have hm2 : Int.tdiv v 2 = v2 := by rw [Int.tdiv_eq_ediv_of_nonneg (by omega)]; exact hst
          have hb8 := hvb hpos
          go_wp2
          go_roundg (gk - 1)
          case measure => omega
          case rel => exact ⟨b + 1, by rw [GV.out], by omega, by rw [GS.out, GX.out, Int.add_assoc], rfl⟩
        · go_wp2
          go_roundg (15 - i)
          case measure => omega
          case rel => exact ⟨i + 1, by simp, by omega, by rcases GE.out with h | h; exact (by rw [← GS.out, ← h, ← hz, ← hx0, ← hy0]; rfl); exact absurd h (by omega), m + 1, rfl⟩
    · obtain rfl : i = 16 := by omega
      go_wp2
      go_ret
      exact ⟨rfl, pw_below_drewN hBW m⟩
end Go.Proofs.Ytijdlpbkmlplgaa.TF
/- Of: the walk. -/
set_option linter.unusedVariables false
set_option linter.unusedSimpArgs false
namespace Go.Proofs.Ytijdlpbkmlplgaa.TF
open Go.RowKit Go.Proofs.YtijdlpbkmlplgaaW.PrintWords Go.Proofs.YtijdlpbkmlplgaaW.PrintMore Go.Proofs.Ytijdlpbkmlplgaa.QG

/-- the two numbers behind the first n bytes -/
def ofA (s : ByteArray) : Nat → Int
  | 0 => 14695981039346656037
  | i + 1 => IntKind.u64.wrap (Go.bits .xor .u64 (ofA s i) (bt s i) * 1099511628211)
def ofV (s : ByteArray) (c : Int) (i : Nat) : Int := IntKind.u64.wrap (Go.bits .xor .u64 c (bt s i) * 15485907322112368019)
def ofC (s : ByteArray) : Nat → Int
  | 0 => 2676404437206674845
  | i + 1 => Go.bits .xor .u64 (ofV s (ofC s i) i) (ofV s (ofC s i) i / 4294967296)
def byteAt (A : Int) (i : Nat) : Int := A / 2 ^ (56 - 8 * i) % 256
def ofRow (A C : Int) : Nat → List Int
  | 0 => [0, 0, 0, 0, 0, 0, 0, 0, 0, 0, 0, 0, 0, 0, 0, 0]
  | i + 1 => ((ofRow A C i).set i (byteAt A i)).set (8 + i) (byteAt C i)
theorem cell_box (w : World) (A : Array Value) (t : TypeId) (i : Nat) (v : Value) (h : A[i]? = some v) : (w.alloc (.cells A t)).cell? ⟨w.heap.size, i, none⟩ = some v := by
  have h1 := World.alloc_heap_new w (.cells A t)
  simp only [World.cell?]
  rw [h1]
  exact h
theorem frozen_box (w : World) (A : Array Value) (t : TypeId) (i : Nat) : (w.alloc (.cells A t)).frozen? ⟨w.heap.size, i, none⟩ = false := by
  have h1 := World.alloc_heap_new w (.cells A t)
  simp only [World.frozen?]
  rw [h1]
  simp
theorem arr_set (xs : List Int) (i : Nat) (v : Int) : (arr xs).setIfInBounds i (.int .u8 v) = arr (xs.set i v) := by
  simp [arr, List.map_set]
theorem arr_one (xs : List Int) : (arr xs).all (·.oneCell') = true := by
  simp [arr, Value.oneCell']
theorem ofRow_len (A C : Int) (i : Nat) : (ofRow A C i).length = 16 := by
  induction i with
  | zero => rfl
  | succ i ih => unfold ofRow; rw [List.length_set, List.length_set, ih]
theorem below_drewN' {B : Nat} {a w : World} (h : Below B a w) (n : Nat) : Below B a (w.drewN n) := h.trans ⟨rfl, rfl, rfl, Nat.le_refl _, fun _ _ => rfl⟩
theorem cell_bytes (W : World) (e : TypeId) (s : ByteArray) (i : Nat) (hi : i < s.size) : (Lib.bytesWorld W e s).cell? ⟨W.heap.size, i, none⟩ = some (.int .u8 (bt s i)) := by
  rw [Lib.bytesWorld_cell W e s i hi]
  have h' : i < s.data.toList.length := by rw [data_length]; exact hi
  rw [← rd_bytesOf]
  simp [rd, bytesOf, List.getD_eq_getElem?_getD, List.getElem?_eq_getElem h']

set_option maxRecDepth 100000 in
set_option maxHeartbeats 1000000 in
theorem of_walk (s : ByteArray) (hs : s.size ≤ 9223372036854775807) (w : World) :
    Calls Try.prog 27 #[.string s] w fun e w' => e = .returned (.agg (arr (ofRow (ofA s s.size) (ofC s s.size) 8))) ∧ Below w.heap.size w w' := by
  have kb := fun W => print_bytes (P := Try.prog) 9 80 5 Try.underlying9 Try.underlying80 Try.underlying5 s W
  go_enter Try.func27, Try.ntmps27
  go_wp2
  obtain ⟨Z, hZ⟩ : ∃ Z : Array Value, #[Value.int .u8 0, .int .u8 0, .int .u8 0, .int .u8 0, .int .u8 0, .int .u8 0, .int .u8 0, .int .u8 0, .int .u8 0, .int .u8 0, .int .u8 0, .int .u8 0, .int .u8 0, .int .u8 0, .int .u8 0, .int .u8 0] = Z := ⟨_, rfl⟩
  rw [hZ]
  obtain ⟨W0, hW0⟩ : ∃ W0, Lib.bytesWorld (w.alloc (.cells Z 43)) 5 s = W0 := ⟨_, rfl⟩
  rw [hW0]
  clear kb
  have hcb := fun i hi => cell_bytes (w.alloc (.cells Z 43)) 5 s i hi
  rw [hW0, World.size_alloc] at hcb
  go_loopg [3, 4, 12] s.size (fun kq v3 v4 v12 wr => ∃ i : Nat, v12 = .int .i64 i ∧ i + kq = s.size ∧ v3 = .int .u64 (ofA s i) ∧ v4 = .int .u64 (ofC s i) ∧ wr = W0)
  case atStart => exact ⟨0, rfl, by omega, rfl, rfl, rfl⟩
  case round =>
    obtain ⟨i, rfl, hk, rfl, rfl, rfl⟩ := hrel
    by_cases hi : i < s.size
    · have hc := hcb i hi
      clear hcb
      obtain ⟨x, hx⟩ : ∃ x, bt s i = x := ⟨_, rfl⟩
      obtain ⟨A, hA⟩ : ∃ A, ofA s i = A := ⟨_, rfl⟩
      obtain ⟨C, hC⟩ : ∃ C, ofC s i = C := ⟨_, rfl⟩
      rw [hx] at hc
      rw [hA, hC]
      have hii : (0 ≤ (i : Int)) ∧ ((i : Int) < s.size) := by omega
      have hwi : wrap64 ((i : Int) + 1) = ((i + 1 : Nat) : Int) := by unfold wrap64; omega
      have hbb : 0 ≤ x ∧ x < 256 := by have := bt_range s i; omega
      have hm : IntKind.u64.wrap x = x := by show x % 18446744073709551616 = x; omega
      go_wp2
      go_roundg (gk - 1)
      case measure => omega
      case rel => exact ⟨i + 1, by simp, by omega, by rw [← hA, ← hx]; rfl, by rw [← hC, ← hx]; rfl, rfl⟩
    · obtain rfl : i = s.size := by omega
      clear hcb
      obtain ⟨A, hA⟩ : ∃ A, ofA s s.size = A := ⟨_, rfl⟩
      obtain ⟨C, hC⟩ : ∃ C, ofC s s.size = C := ⟨_, rfl⟩
      rw [hA, hC]
      go_wp2
      have hZ' : Z = arr (ofRow A C 0) := by rw [← hZ]; rfl
      go_loopg [33] 8 (fun kq v33 wq => ∃ i m : Nat, v33 = .int .i64 i ∧ i + kq = 8 ∧ wq = (wr.drewN m).alloc (.cells (arr (ofRow A C i)) 43))
      case atStart => exact ⟨0, 0, rfl, rfl, by rw [hZ']; rfl⟩
      case round =>
        obtain ⟨i, m, rfl, hki, rfl⟩ := hrel
        by_cases hi8 : i < 8
        · have hii : (0 ≤ (i : Int)) ∧ ((i : Int) < 16) := by omega
          go_wp2
          have f1 : IntKind.i64.wrap (8 * (i : Int)) = 8 * (i : Int) := IntWalk.i64_in _ (by omega)
          have f2 : IntKind.i64.wrap (8 + (i : Int)) = ((8 + i : Nat) : Int) := by rw [IntWalk.i64_in _ (by omega)]; omega
          have f3 : IntKind.i64.wrap (56 - 8 * (i : Int)) = ((56 - 8 * i : Nat) : Int) := by rw [IntWalk.i64_in _ (by omega)]; omega
          obtain ⟨j, hj⟩ : ∃ j, 56 - 8 * i = j := ⟨_, rfl⟩
          obtain ⟨k, hk8⟩ : ∃ k, 8 + i = k := ⟨_, rfl⟩
          rw [hj] at f3
          rw [hk8] at f2
          obtain ⟨L, hL⟩ : ∃ L, arr (ofRow A C i) = L := ⟨_, rfl⟩
          rw [hL]
          have hk0 : (0 : Int) ≤ (k : Int) := by omega
          have hk1 : (k : Int) < 16 := by omega
          have hi0 : (0 : Int) ≤ (i : Int) := by omega
          have hi1 : (i : Int) < 16 := by omega
          have hj0 : (0 : Int) ≤ (j : Int) := by omega
          have hls : L.size = 16 := by rw [← hL, arr_size, ofRow_len]
          have h1 : Try.prog.follows .mixedOrders = true := by kernel_rfl
          obtain ⟨x, hLi⟩ : ∃ x, L[i]? = some (Value.int .u8 x) := ⟨_, by rw [← hL]; exact arr_get _ i (by rw [ofRow_len]; omega)⟩
          obtain ⟨y, hLk⟩ : ∃ y, L[k]? = some (Value.int .u8 y) := ⟨_, by rw [← hL]; exact arr_get _ k (by rw [ofRow_len]; omega)⟩
          have hik : i ≠ k := by omega
          have hki : k ≠ i := by omega
          obtain ⟨W1, hW1⟩ : ∃ W1, (wr.drewN m).alloc (.cells L 43) = W1 := ⟨_, rfl⟩
          rw [hW1]
          have c1 : W1.cell? ⟨wr.heap.size, i, none⟩ = some (Value.int .u8 x) := by rw [← hW1]; exact cell_box (wr.drewN m) L 43 i _ hLi
          have c2 : W1.cell? ⟨wr.heap.size, k, none⟩ = some (Value.int .u8 y) := by rw [← hW1]; exact cell_box (wr.drewN m) L 43 k _ hLk
          have z1 : W1.frozen? ⟨wr.heap.size, i, none⟩ = false := by rw [← hW1]; exact frozen_box (wr.drewN m) L 43 i
          have z2 : W1.frozen? ⟨wr.heap.size, k, none⟩ = false := by rw [← hW1]; exact frozen_box (wr.drewN m) L 43 k
          go_region
          have hfin : ((W1.setCell ⟨wr.heap.size, i, none⟩ (.int .u8 (A / 2 ^ j % 256))).setCell ⟨wr.heap.size, k, none⟩ (.int .u8 (C / 2 ^ j % 256))).drew = (wr.drewN (m + 1)).alloc (.cells (arr (ofRow A C (i + 1))) 43) := by
            rw [← hW1, ← hL]
            have hp : wr.heap.size = (wr.drewN m).heap.size := rfl
            rw [hp, World.setCell_alloc_at _ _ _ _ _ rfl, World.setCell_alloc_at _ _ _ _ _ rfl, arr_set _ _ _ , arr_set, ← hj, ← hk8]
            rfl
          rw [hfin]
          clear hfin c1 c2 z1 z2 hW1 hLi hLk hL hls f1 f2 f3
          go_wp2
          go_roundg (7 - i)
          case measure => omega
          case rel => exact ⟨i + 1, m + 1, by simp, by omega, rfl⟩
        · obtain rfl : i = 8 := by omega
          obtain ⟨W1, hW1⟩ : ∃ W1, (wr.drewN m).alloc (.cells (arr (ofRow A C 8)) 43) = W1 := ⟨_, rfl⟩
          rw [hW1]
          have hsz : wr.heap.size = w.heap.size + 2 := by rw [← hW0, Lib.bytesWorld_size, World.size_alloc]
          have hg1 : W1.heap[wr.heap.size]? = some (.cells (arr (ofRow A C 8)) 43) := by rw [← hW1]; exact World.alloc_heap_new (wr.drewN m) _
          have hg0 : W1.heap[w.heap.size]? = some (.cells Z 43) := by
            rw [← hW1]
            rw [Below.heap_alloc _ _ _ (show w.heap.size < (wr.drewN m).heap.size by show w.heap.size < wr.heap.size; omega)]
            show wr.heap[w.heap.size]? = _
            rw [← hW0, Lib.bytesWorld_at_old _ _ _ _ (by rw [World.size_alloc]; omega)]
            exact World.alloc_heap_new w _
          have hls : (arr (ofRow A C 8)).size = 16 := by rw [arr_size, ofRow_len]
          have hZs : Z.size = 16 := by rw [← hZ]; rfl
          have hinf : (Try.prog.info? 43).map (·.size) = some 16 := by kernel_rfl
          have hone : (arr (ofRow A C 8)).all (·.oneCell') = true := arr_one _
          obtain ⟨R, hR⟩ : ∃ R, arr (ofRow A C 8) = R := ⟨_, rfl⟩
          rw [hR] at hls hone hg1
          go_upto_region 17 with (fail)
          refine wp_region_list ?_
          refine wpList_load_row rfl 43 _ rfl _ rfl 43 R (0, 0) _ hg1 Try.underlying43 rfl (by rw [hls]; exact hinf) ?_
          refine wpList_store_row rfl 43 _ _ rfl _ R rfl rfl 43 Z hg0 (by rw [hls]; exact hinf) (by rw [hZs, hls]) hone ?_
          have hg2 := setRow_heap W1 w.heap.size Z R 43 (0, 0) hg0
          have hB2 : Below w.heap.size w (W1.setRow w.heap.size R) := by
            have b1 : Below w.heap.size w W1 := by
              rw [← hW1, ← hW0]
              exact (below_drewN' (bytes_below ((Below.refl _ w).alloc (Nat.le_refl _) _) (by rw [World.size_alloc]; omega) 5 s) m).alloc (by rw [hW0]; show w.heap.size ≤ wr.heap.size; omega) _
            exact b1.trans ⟨rfl, rfl, rfl, by rw [setRow_size]; exact Nat.le_refl _, fun i hi => setRow_other _ _ _ _ (by omega)⟩
          obtain ⟨W2, hW2⟩ : ∃ W2, W1.setRow w.heap.size R = W2 := ⟨_, rfl⟩
          rw [hW2] at hg2 hB2 ⊢
          have HG := Aside0.mk hg2
          have HI := Aside0.mk (show (Try.prog.info? 43).map (·.size) = some R.size by rw [hls]; exact hinf)
          have HB2 := Aside0.mk hB2
          have HR := Aside0.mk (show R = arr (ofRow (ofA s s.size) (ofC s s.size) 8) by rw [hA, hC, hR])
          clear hB2 hW2 hW1 hg0 hg1 hg2 hsz hZs hinf hone hZ' hZ hW0 hR hA hC
          go_wp2
          exact ⟨rfl, _, results_cell_row rfl _ W2 w.heap.size 43 R (0, 0) _ rfl HG.out Try.underlying43 rfl HI.out, by rw [HR.out], HB2.out⟩
end Go.Proofs.Ytijdlpbkmlplgaa.TF
/- The document's Of: the walk. -/
set_option linter.unusedVariables false
set_option linter.unusedSimpArgs false
namespace Go.Proofs.Ytijdlpbkmlplgaa.TF
open Go.RowKit Go.Proofs.YtijdlpbkmlplgaaW.PrintWords Go.Proofs.YtijdlpbkmlplgaaW.PrintMore Go.Proofs.Ytijdlpbkmlplgaa.QG

/-- what eight answers, as a walk reads it -/
def EightAns (A : Int) (w : World) (e : Ending) (w' : World) : Prop :=
  ∃ g cap, e = .returned (.slice (some ⟨g, 0, none⟩) 8 cap) ∧ w.heap.size ≤ g ∧ g < w'.heap.size ∧ (∀ j, j < 8 → w'.cell? ⟨g, j, none⟩ = some (.int .u8 (byteAt A j))) ∧ Below w.heap.size w w'

theorem cell_same {W V : World} {g j : Nat} (h : W.heap[g]? = V.heap[g]?) : W.cell? ⟨g, j, none⟩ = V.cell? ⟨g, j, none⟩ := by
  simp only [World.cell?, h]
/-- nothing but block p has turned, and p holds the row L -/
structure OnlyAt (p : Nat) (w W : World) (L : List Int) : Prop where
  os : W.os = w.os
  tape : W.tape = w.tape
  output : W.output = w.output
  size : W.heap.size = w.heap.size
  others : ∀ k, k ≠ p → W.heap[k]? = w.heap[k]?
  row : W.heap[p]? = some (.cells (arr L) 42)
theorem OnlyAt.start {p : Nat} {w : World} {L : List Int} (h : w.heap[p]? = some (.cells (arr L) 42)) : OnlyAt p w w L := ⟨rfl, rfl, rfl, rfl, fun _ _ => rfl, h⟩
theorem OnlyAt.cell {p : Nat} {w W : World} {L : List Int} (h : OnlyAt p w W L) (i : Nat) (hi : i < L.length) : ∃ x, W.cell? ⟨p, i, none⟩ = some (.int .u8 x) :=
  ⟨_, (cell_of_row W p i (arr L) 42 _ h.row).trans (arr_get L i hi)⟩
theorem OnlyAt.frozen {p : Nat} {w W : World} {L : List Int} (h : OnlyAt p w W L) (i : Nat) : W.frozen? ⟨p, i, none⟩ = false := by
  simp [World.frozen?, h.row]
theorem OnlyAt.set {p : Nat} {w W : World} {L : List Int} (h : OnlyAt p w W L) (i : Nat) (v : Int) : OnlyAt p w (W.setCell ⟨p, i, none⟩ (.int .u8 v)) (L.set i v) := by
  rw [setCell_eq_setRow W p i (arr L) 42 _ _ h.row, arr_set]
  exact ⟨h.os, h.tape, h.output, by rw [setRow_size]; exact h.size, fun k hk => (setRow_other W p k _ hk).trans (h.others k hk), setRow_heap W p _ _ 42 _ h.row⟩
theorem round_nums (i : Nat) (h : i < 8) : ∃ k, 8 + i = k ∧ ((0 ≤ (i : Int)) ∧ ((i : Int) < 16)) ∧ ((i : Int) < 8) ∧ IntKind.i64.wrap (8 + (i : Int)) = (k : Int) ∧ (0 : Int) ≤ (k : Int) ∧ (k : Int) < 16 ∧ i ≠ k ∧ k ≠ i := by
  refine ⟨8 + i, rfl, by omega, by omega, ?_, by omega, by omega, by omega, by omega⟩
  rw [IntWalk.i64_in _ (by omega)]; omega
theorem quo_eq (z : Int) : IntKind.u64.wrap (Int.tdiv (IntKind.u64.wrap z) 4294967296) = IntKind.u64.wrap z / 4294967296 := by
  have h : 0 ≤ IntKind.u64.wrap z ∧ IntKind.u64.wrap z < 18446744073709551616 := by
    show 0 ≤ z % 18446744073709551616 ∧ z % 18446744073709551616 < 18446744073709551616
    omega
  obtain ⟨v, hv⟩ : ∃ v, IntKind.u64.wrap z = v := ⟨_, rfl⟩
  rw [hv] at h ⊢
  rw [Int.tdiv_eq_ediv_of_nonneg h.1]
  show (v / 4294967296) % 18446744073709551616 = v / 4294967296
  omega

set_option maxRecDepth 100000 in
set_option maxHeartbeats 1000000 in
theorem of_ref (s : ByteArray) (hs : s.size ≤ 9223372036854775807) (hE : ∀ A, 0 ≤ A → A < 18446744073709551616 → ∀ w, Calls Try.prog 59 #[.int .u64 A] w (EightAns A w))
    (hbA : ∀ i, 0 ≤ ofA s i ∧ ofA s i < 18446744073709551616) (hbC : ∀ i, 0 ≤ ofC s i ∧ ofC s i < 18446744073709551616) (w : World) :
    Calls Try.prog 28 #[.string s] w fun e w' => e = .returned (.agg (arr (ofRow (ofA s s.size) (ofC s s.size) 8))) ∧ Below w.heap.size w w' := by
  go_enter Try.func28, Try.ntmps28
  go_wp2
  obtain ⟨Z, hZ⟩ : ∃ Z : Array Value, #[Value.int .u8 0, .int .u8 0, .int .u8 0, .int .u8 0, .int .u8 0, .int .u8 0, .int .u8 0, .int .u8 0, .int .u8 0, .int .u8 0, .int .u8 0, .int .u8 0, .int .u8 0, .int .u8 0, .int .u8 0, .int .u8 0] = Z := ⟨_, rfl⟩
  rw [hZ]
  obtain ⟨W0, hW0⟩ : ∃ W0, w.alloc (.cells Z 42) = W0 := ⟨_, rfl⟩
  rw [hW0]
  go_loopg [3, 4, 5] s.size (fun kq v3 v4 v5 wr => ∃ i : Nat, v5 = .int .i64 i ∧ i + kq = s.size ∧ v3 = .int .u64 (ofA s i) ∧ v4 = .int .u64 (ofC s i) ∧ wr = W0)
  case atStart => exact ⟨0, rfl, by omega, rfl, rfl, rfl⟩
  case round =>
    obtain ⟨i, rfl, hk, rfl, rfl, rfl⟩ := hrel
    by_cases hi : i < s.size
    · obtain ⟨x, hx⟩ : ∃ x, bt s i = x := ⟨_, rfl⟩
      obtain ⟨A, hA⟩ : ∃ A, ofA s i = A := ⟨_, rfl⟩
      obtain ⟨C, hC⟩ : ∃ C, ofC s i = C := ⟨_, rfl⟩
      rw [hA, hC]
      have hii : (0 ≤ (i : Int)) ∧ ((i : Int) < s.size) := by omega
      have hwi : wrap64 ((i : Int) + 1) = ((i + 1 : Nat) : Int) := by unfold wrap64; omega
      have hbb : 0 ≤ x ∧ x < 256 := by have := bt_range s i; omega
      have hm : IntKind.u64.wrap x = x := by show x % 18446744073709551616 = x; omega
      have hsx : ((s[i]'hi).toNat : Int) = x := by rw [← hx]; exact bt_at s i (by simpa using hi)
      go_wp2
      go_roundg (gk - 1)
      case measure => omega
      case rel => exact ⟨i + 1, by simp, by omega, by rw [← hA, ← hx]; rfl, by rw [quo_eq, ← hC, ← hx]; rfl, rfl⟩
    · obtain rfl : i = s.size := by omega
      have bA := hbA s.size
      have bC := hbC s.size
      clear hbA hbC
      obtain ⟨A, hA⟩ : ∃ A, ofA s s.size = A := ⟨_, rfl⟩
      obtain ⟨C, hC⟩ : ∃ C, ofC s s.size = C := ⟨_, rfl⟩
      rw [hA] at bA ⊢
      rw [hC] at bC ⊢
      have HA := Aside0.mk hA
      have HC := Aside0.mk hC
      clear hA hC
      have HEA := fun w => hE A bA.1 bA.2 w
      have HEC := fun w => hE C bC.1 bC.2 w
      clear hE
      go_wp2_with (go_at_call 59; (with_reducible refine (HEA _).mono ?_); rintro e w1 ⟨g1, c1, rfl, l1, u1, x1, b1⟩)
      clear HEA
      go_wp2_with (go_at_call 59; (with_reducible refine (HEC _).mono ?_); rintro e w2 ⟨g2, c2, rfl, l2, u2, x2, b2⟩)
      clear HEC
      have hp0 : w2.heap[wr.heap.size]? = some (.cells (arr (ofRow A C 0)) 42) := by
        have l0 : wr.heap.size < (wr.alloc (Obj.cells Z 42)).heap.size := by rw [World.size_alloc]; omega
        rw [b2.block _ (by omega), b1.block _ l0]
        have := World.alloc_heap_new wr (.cells Z 42)
        rw [this, ← hZ]
        rfl
      have hq0 : w2.heap[w.heap.size]? = some (.cells Z 42) := by
        have e0 : wr.heap.size = w.heap.size + 1 := by rw [← hW0, World.size_alloc]
        have l0 : w.heap.size < (wr.alloc (Obj.cells Z 42)).heap.size := by rw [World.size_alloc]; omega
        rw [b2.block _ (by omega), b1.block _ l0, Below.heap_alloc _ _ _ (by omega), ← hW0]
        exact World.alloc_heap_new w _
      have bw : Below w.heap.size w w2 := by
        have e0 : wr.heap.size = w.heap.size + 1 := by rw [← hW0, World.size_alloc]
        have l0 : w.heap.size ≤ (wr.alloc (Obj.cells Z 42)).heap.size := by rw [World.size_alloc]; omega
        refine Below.trans ?_ ((b1.mono l0).trans (b2.mono (by omega)))
        rw [← hW0]
        exact ((Below.refl _ w).alloc (Nat.le_refl _) _).alloc (by rw [World.size_alloc]; omega) _
      have hn1 : wr.heap.size ≠ g1 := by rw [World.size_alloc] at l1; omega
      have hn2 : wr.heap.size ≠ g2 := by rw [World.size_alloc] at l1; omega
      have hn0 : wr.heap.size ≠ w.heap.size := by rw [← hW0, World.size_alloc]; omega
      have hnp : w.heap.size < wr.heap.size := by rw [← hW0, World.size_alloc]; omega
      have hr1 : ∀ j, j < 8 → w2.cell? ⟨g1, j, none⟩ = some (.int .u8 (byteAt A j)) := fun j hj => by
        rw [cell_same (b2.block g1 u1)]; exact x1 j hj
      clear b1 b2 x1 l1 l2 hW0
      obtain ⟨p, hp⟩ : ∃ p, wr.heap.size = p := ⟨_, rfl⟩
      rw [hp] at hp0 hn1 hn2 hn0 hnp ⊢
      go_loopg [10] 8 (fun kq v10 wq => ∃ i : Nat, v10 = .int .i64 i ∧ i + kq = 8 ∧ Aside0 (OnlyAt p w2 wq (ofRow A C i)))
      case atStart => exact ⟨0, rfl, rfl, ⟨OnlyAt.start hp0⟩⟩
      case round =>
        obtain ⟨i, rfl, hki, HO⟩ := hrel
        by_cases hi8 : i < 8
        · have hlx : i < (ofRow A C i).length := by rw [ofRow_len]; omega
          have hly : 8 + i < (ofRow A C i).length := by rw [ofRow_len]; omega
          obtain ⟨k, hk8, hii, hi8', f2, hk0, hk1, hik, hki'⟩ := round_nums i hi8
          rw [hk8] at hly
          have hn1' : g1 ≠ p := Ne.symm hn1
          have hn2' : g2 ≠ p := Ne.symm hn2
          obtain ⟨x, cx⟩ := HO.out.cell i hlx
          obtain ⟨y, cy⟩ := HO.out.cell k hly
          have zx := HO.out.frozen i
          have zy := HO.out.frozen k
          have ca := (cell_same (HO.out.others g1 hn1')).trans (hr1 i hi8)
          have cc := (cell_same (HO.out.others g2 hn2')).trans (x2 i hi8)
          clear hr1 x2 hp0 hq0 hlx hly
          obtain ⟨a, ha⟩ : ∃ a, byteAt A i = a := ⟨_, rfl⟩
          obtain ⟨c, hc⟩ : ∃ c, byteAt C i = c := ⟨_, rfl⟩
          rw [ha] at ca
          rw [hc] at cc
          have Ha := Aside0.mk ha
          have Hc := Aside0.mk hc
          clear ha hc
          go_wp2
          clear f2
          go_roundg (7 - i)
          case measure => omega
          case rel =>
            refine ⟨i + 1, by simp, by omega, ⟨?_⟩⟩
            have := (HO.out.set i a).set k c
            rw [← Ha.out, ← Hc.out, ← hk8] at this
            rw [← Ha.out, ← Hc.out, ← hk8]
            exact this
        · obtain rfl : i = 8 := by omega
          have hp8 := HO.out.row
          have hq8 := (HO.out.others w.heap.size (Ne.symm hn0)).trans hq0
          obtain ⟨R, hR⟩ : ∃ R, arr (ofRow A C 8) = R := ⟨_, rfl⟩
          have hls : R.size = 16 := by rw [← hR, arr_size, ofRow_len]
          have hone : R.all (·.oneCell') = true := by rw [← hR]; exact arr_one _
          have hZs : Z.size = 16 := by rw [← hZ]; rfl
          have hinf : (Try.prog.info? 42).map (·.size) = some 16 := by kernel_rfl
          rw [hR] at hp8
          have hB3 : Below w.heap.size w (wr.setRow w.heap.size R) := by
            have b3 : Below w.heap.size w2 wr := ⟨HO.out.os, HO.out.tape, HO.out.output, Nat.le_of_eq HO.out.size.symm, fun k hk => HO.out.others k (by omega)⟩
            exact (bw.trans b3).trans ⟨rfl, rfl, rfl, by rw [setRow_size]; exact Nat.le_refl _, fun i hi => setRow_other _ _ _ _ (by omega)⟩
          go_upto_region 17 with (fail)
          refine wp_region_list ?_
          refine wpList_load_row rfl 42 _ rfl _ rfl 42 R (0, 0) _ hp8 Try.underlying42 rfl (by rw [hls]; exact hinf) ?_
          refine wpList_store_row rfl 42 _ _ rfl _ R rfl rfl 42 Z hq8 (by rw [hls]; exact hinf) (by rw [hZs, hls]) hone ?_
          have hg2 := setRow_heap wr w.heap.size Z R 42 (0, 0) hq8
          obtain ⟨W2, hW2⟩ : ∃ W2, wr.setRow w.heap.size R = W2 := ⟨_, rfl⟩
          rw [hW2] at hg2 hB3 ⊢
          have HG := Aside0.mk hg2
          have HI := Aside0.mk (show (Try.prog.info? 42).map (·.size) = some R.size by rw [hls]; exact hinf)
          have HB2 := Aside0.mk hB3
          have HR := Aside0.mk (show R = arr (ofRow (ofA s s.size) (ofC s s.size) 8) by rw [HA.out, HC.out, hR])
          clear hB3 hW2 hp8 hq8 hg2 hZs hinf hone hZ hR
          go_wp2
          exact ⟨rfl, _, results_cell_row rfl _ W2 w.heap.size 42 R (0, 0) _ rfl HG.out Try.underlying42 rfl HI.out, by rw [HR.out], HB2.out⟩
end Go.Proofs.Ytijdlpbkmlplgaa.TF
/- Of: the program's and the document's answer alike; eight's contract as a walk reads it; bounds. -/
set_option linter.unusedVariables false
set_option linter.unusedSimpArgs false
namespace Go.Proofs.Ytijdlpbkmlplgaa.TF
open Go.RowKit Go.Proofs.YtijdlpbkmlplgaaW.PrintWords Go.Proofs.YtijdlpbkmlplgaaW.PrintMore Go.Proofs.Ytijdlpbkmlplgaa.QG

theorem xor_u8 (a b : Int) (ha : 0 ≤ a ∧ a < 256) (hb : 0 ≤ b ∧ b < 256) : 0 ≤ Go.bits .xor .u8 a b ∧ Go.bits .xor .u8 a b < 256 := by
  show 0 ≤ IntKind.u8.wrap _ ∧ IntKind.u8.wrap _ < 256
  have : ∀ z : Int, 0 ≤ IntKind.u8.wrap z ∧ IntKind.u8.wrap z < 256 := fun z => by
    show 0 ≤ z % 256 ∧ z % 256 < 256
    omega
  exact this _
theorem xor_u64 (a b : Int) : 0 ≤ Go.bits .xor .u64 a b ∧ Go.bits .xor .u64 a b < 18446744073709551616 := by
  show 0 ≤ IntKind.u64.wrap _ ∧ IntKind.u64.wrap _ < 18446744073709551616
  have : ∀ z : Int, 0 ≤ IntKind.u64.wrap z ∧ IntKind.u64.wrap z < 18446744073709551616 := fun z => by
    rw [IntKind.wrap_u64]
    omega
  exact this _
theorem wrap_bd (z : Int) : 0 ≤ IntKind.u64.wrap z ∧ IntKind.u64.wrap z < 18446744073709551616 := by
  rw [IntKind.wrap_u64]
  omega
theorem ofA_bd (s : ByteArray) (i : Nat) : 0 ≤ ofA s i ∧ ofA s i < 18446744073709551616 := by
  cases i with
  | zero => unfold ofA; decide
  | succ i => unfold ofA; exact wrap_bd _
theorem ofC_bd (s : ByteArray) (i : Nat) : 0 ≤ ofC s i ∧ ofC s i < 18446744073709551616 := by
  cases i with
  | zero => unfold ofC; decide
  | succ i => unfold ofC; exact xor_u64 _ _
theorem eight_step (k : Nat) (x : Int) (L : List Int) (i : Int) (h0 : 0 ≤ i) (h1 : i < 8) (hL : L.length = 8) (hx : 0 ≤ x) (hx2 : x < 18446744073709551616) :
    errataref29_eight.l0 (k + 1) x L i = errataref29_eight.l0 k (x / 256) (L.set (7 - i).toNat (x % 256)) (i + 1) := by
  have w1 : wrap64 (7 - i) = 7 - i := by unfold wrap64; omega
  have w2 : wrap64 (i + 1) = i + 1 := by unfold wrap64; omega
  have w3 : IntKind.u64.wrap (Int.tdiv x 256) = x / 256 := by
    rw [Int.tdiv_eq_ediv_of_nonneg hx, IntKind.wrap_u64]
    omega
  rw [errataref29_eight.l0, w1, w2, w3, if_pos h1, if_pos (by omega), if_pos (by omega)]
def eightL (A : Int) : List Int := [byteAt A 0, byteAt A 1, byteAt A 2, byteAt A 3, byteAt A 4, byteAt A 5, byteAt A 6, byteAt A 7]
theorem eight_f (A : Int) (h0 : 0 ≤ A) (h1 : A < 18446744073709551616) : errataref29_eight.f 9 A = some (eightL A) := by
  unfold errataref29_eight.f
  rw [if_pos (by decide)]
  obtain ⟨a1, e1⟩ : ∃ a, a = A / 256 := ⟨_, rfl⟩
  obtain ⟨a2, e2⟩ : ∃ a, a = a1 / 256 := ⟨_, rfl⟩
  obtain ⟨a3, e3⟩ : ∃ a, a = a2 / 256 := ⟨_, rfl⟩
  obtain ⟨a4, e4⟩ : ∃ a, a = a3 / 256 := ⟨_, rfl⟩
  obtain ⟨a5, e5⟩ : ∃ a, a = a4 / 256 := ⟨_, rfl⟩
  obtain ⟨a6, e6⟩ : ∃ a, a = a5 / 256 := ⟨_, rfl⟩
  obtain ⟨a7, e7⟩ : ∃ a, a = a6 / 256 := ⟨_, rfl⟩
  obtain ⟨a8, e8⟩ : ∃ a, a = a7 / 256 := ⟨_, rfl⟩
  rw [eight_step 8 _ _ _ (by decide) (by decide) (by simp) h0 h1, ← e1,
    eight_step 7 _ _ _ (by decide) (by decide) (by simp) (by omega) (by omega), ← e2,
    eight_step 6 _ _ _ (by decide) (by decide) (by simp) (by omega) (by omega), ← e3,
    eight_step 5 _ _ _ (by decide) (by decide) (by simp) (by omega) (by omega), ← e4,
    eight_step 4 _ _ _ (by decide) (by decide) (by simp) (by omega) (by omega), ← e5,
    eight_step 3 _ _ _ (by decide) (by decide) (by simp) (by omega) (by omega), ← e6,
    eight_step 2 _ _ _ (by decide) (by decide) (by simp) (by omega) (by omega), ← e7,
    eight_step 1 _ _ _ (by decide) (by decide) (by simp) (by omega) (by omega), ← e8, errataref29_eight.l0, if_neg (by decide)]
  have d0 : byteAt A 7 = A % 256 := by show A / 1 % 256 = A % 256; omega
  have d1 : byteAt A 6 = a1 % 256 := by show A / 256 % 256 = _; omega
  have d2 : byteAt A 5 = a2 % 256 := by show A / 65536 % 256 = _; omega
  have d3 : byteAt A 4 = a3 % 256 := by show A / 16777216 % 256 = _; omega
  have d4 : byteAt A 3 = a4 % 256 := by show A / 4294967296 % 256 = _; omega
  have d5 : byteAt A 2 = a5 % 256 := by show A / 1099511627776 % 256 = _; omega
  have d6 : byteAt A 1 = a6 % 256 := by show A / 281474976710656 % 256 = _; omega
  have d7 : byteAt A 0 = a7 % 256 := by show A / 72057594037927936 % 256 = _; omega
  unfold eightL
  rw [d0, d1, d2, d3, d4, d5, d6, d7]
  rfl
theorem eight_calls (A : Int) (h0 : 0 ≤ A) (h1 : A < 18446744073709551616) (w : World) : Calls Try.prog 59 #[.int .u64 A] w (EightAns A w) := by
  refine (errataref29_eight.calls 9 A _ w (eight_f A h0 h1)).mono ?_
  rintro e w' ⟨v, rfl, hR, hB⟩
  obtain ⟨g, cap, rfl, hg, hl, _⟩ := Kd.R_form hR (by simp [eightL])
  obtain ⟨_, _, hC⟩ := Kd.R_reads' hR
  refine ⟨g, cap, rfl, hg, hl, fun j hj => ?_, hB⟩
  obtain ⟨ad, he, hc⟩ := Kd.at_int hC (j : Int) (by omega) (by simp [eightL]; omega)
  cases he
  rw [add_plain] at hc
  have e1 : ((j : Int)).toNat = j := by omega
  rw [e1] at hc
  rw [hc]
  have : rd (eightL A) (j : Int) = byteAt A j := by
    have : j = 0 ∨ j = 1 ∨ j = 2 ∨ j = 3 ∨ j = 4 ∨ j = 5 ∨ j = 6 ∨ j = 7 := by omega
    rcases this with rfl | rfl | rfl | rfl | rfl | rfl | rfl | rfl <;> rfl
  rw [this]
/-- WHAT Of ANSWERS, the program's and the document's. -/
def ofAns (s : ByteArray) : List Int := ofRow (ofA s s.size) (ofC s s.size) 8
theorem of_both (s : ByteArray) (hs : s.size ≤ 9223372036854775807) (w : World) :
    (Calls Try.prog 27 #[.string s] w fun e w' => e = .returned (.agg (arr (ofAns s))) ∧ Below w.heap.size w w') ∧
    (Calls Try.prog 28 #[.string s] w fun e w' => e = .returned (.agg (arr (ofAns s))) ∧ Below w.heap.size w w') :=
  ⟨of_walk s hs w, of_ref s hs eight_calls (ofA_bd s) (ofC_bd s) w⟩
end Go.Proofs.Ytijdlpbkmlplgaa.TF
