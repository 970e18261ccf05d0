/- PiecesFit -/
import Derived.Test.YtimmafiodhncgaaGreatDoorM31
import Derived.Test.YtimmafiodhncgaaGreatDoorM32
import Derived.Test.YtimmafiodhncgaaGreatDoorM3
/- The document's Pieces: what is taken of a text, rune by rune. -/
set_option linter.unusedVariables false
set_option linter.unusedSimpArgs false
namespace Go.Proofs.YtimmafiodhncgaaGreatDoor.TP
open Go.RowKit Go.Proofs.YtimmafiodhncgaaGreatDoor.TS Go.Proofs.YtimmafiodhncgaaGreatDoor.TR Go.Proofs.YtimmafiodhncgaaGreatDoorW.PrintWords Go.Proofs.YtimmafiodhncgaaGreatDoorW.PrintMore Go.Proofs.YtimmafiodhncgaaGreatDoor.QF

theorem pc_pos {p : Piece} (h : okPiece p) : 1 ≤ p.2.length := by
  unfold okPiece at h
  split at h
  · rw [h.2]; have := enc_ne; exact List.length_pos_iff.2 (enc_ne _)
  · omega
theorem tdiv_nat (n m : Nat) : Int.tdiv (n : Int) (m : Int) = ((n / m : Nat) : Int) := by rw [Int.tdiv_eq_ediv_of_nonneg (by omega)]; rfl
theorem tmod_nat (n m : Nat) : Int.tmod (n : Int) (m : Int) = ((n % m : Nat) : Int) := by rw [Int.tmod_eq_emod_of_nonneg (by omega)]; rfl
theorem w32 (n : Int) (h0 : 0 ≤ n) (h1 : n ≤ 2147483647) : wrap32 n = n := by unfold wrap32; omega
theorem w64' (n : Int) (h0 : 0 ≤ n) (h1 : n ≤ 9223372036854775807) : wrap64 n = n := by unfold wrap64; omega
theorem may_eq (r : Nat) : errataref01_may.f (r : Int) = some (may r) := by
  unfold errataref01_may.f may
  rw [if_pos (by omega)]
  by_cases h1 : (r : Int) ≤ 1114111
  · rw [if_pos h1]
    by_cases h2 : (r : Int) < 55296
    · rw [if_pos h2]; congr 1; simp; omega
    · rw [if_neg h2]; congr 1; rw [Bool.eq_iff_iff]; simp; omega
  · rw [if_neg h1]; congr 1; symm; simp; omega
theorem strOfNums_toList (xs : List Int) : (strOfNums xs).toList = xs.map fun n => UInt8.ofNat n.toNat := by rw [Lib.toList_data, strOfNums_data]
theorem coded_eq (r : Nat) (h : r ≤ 1114111) : ∃ b, errataref01_Coded.f (r : Int) = some b ∧ b.toList = enc r := by
  unfold errataref01_Coded.f enc
  have d1 : Int.tdiv (r : Int) 64 = ((r / 64 : Nat) : Int) := tdiv_nat r 64
  have d2 : Int.tdiv (r : Int) 4096 = ((r / 4096 : Nat) : Int) := tdiv_nat r 4096
  have d3 : Int.tdiv (r : Int) 262144 = ((r / 262144 : Nat) : Int) := tdiv_nat r 262144
  have m1 : Int.tmod (r : Int) 64 = ((r % 64 : Nat) : Int) := tmod_nat r 64
  rw [d1, d2, d3, m1, w32 ((r / 64 : Nat) : Int) (by omega) (by omega), w32 ((r / 4096 : Nat) : Int) (by omega) (by omega), w32 ((r / 262144 : Nat) : Int) (by omega) (by omega)]
  have m2 : Int.tmod ((r / 64 : Nat) : Int) 64 = ((r / 64 % 64 : Nat) : Int) := tmod_nat (r / 64) 64
  have m3 : Int.tmod ((r / 4096 : Nat) : Int) 64 = ((r / 4096 % 64 : Nat) : Int) := tmod_nat (r / 4096) 64
  rw [m2, m3, w32 (192 + ((r / 64 : Nat) : Int)) (by omega) (by omega), w32 (128 + ((r % 64 : Nat) : Int)) (by omega) (by omega), w32 (224 + ((r / 4096 : Nat) : Int)) (by omega) (by omega), w32 (128 + ((r / 64 % 64 : Nat) : Int)) (by omega) (by omega), w32 (240 + ((r / 262144 : Nat) : Int)) (by omega) (by omega), w32 (128 + ((r / 4096 % 64 : Nat) : Int)) (by omega) (by omega)]
  by_cases h1 : r < 128
  · rw [if_pos (show (r : Int) < 128 from by omega), if_pos h1]
    refine ⟨_, rfl, ?_⟩
    rw [strOfNums_toList]
    simp only [List.map_cons, List.map_nil]
    rw [show (((r : Int) % 256).toNat) = r from by omega]
  · rw [if_neg (show ¬ (r : Int) < 128 from by omega), if_neg h1]
    by_cases h2 : r < 2048
    · rw [if_pos (show (r : Int) < 2048 from by omega), if_pos h2]
      refine ⟨_, rfl, ?_⟩
      rw [strOfNums_toList]
      simp only [List.map_cons, List.map_nil]
      rw [show (((192 + ((r / 64 : Nat) : Int)) % 256).toNat) = 0xC0 + r / 64 from by omega, show (((128 + ((r % 64 : Nat) : Int)) % 256).toNat) = 0x80 + r % 64 from by omega]
    · rw [if_neg (show ¬ (r : Int) < 2048 from by omega), if_neg h2]
      by_cases h3 : r < 65536
      · rw [if_pos (show (r : Int) < 65536 from by omega), if_pos h3]
        refine ⟨_, rfl, ?_⟩
        rw [strOfNums_toList]
        simp only [List.map_cons, List.map_nil]
        rw [show (((224 + ((r / 4096 : Nat) : Int)) % 256).toNat) = 0xE0 + r / 4096 from by omega, show (((128 + ((r / 64 % 64 : Nat) : Int)) % 256).toNat) = 0x80 + r / 64 % 64 from by omega, show (((128 + ((r % 64 : Nat) : Int)) % 256).toNat) = 0x80 + r % 64 from by omega]
      · rw [if_neg (show ¬ (r : Int) < 65536 from by omega), if_neg h3]
        refine ⟨_, rfl, ?_⟩
        rw [strOfNums_toList]
        simp only [List.map_cons, List.map_nil]
        rw [show (((240 + ((r / 262144 : Nat) : Int)) % 256).toNat) = 0xF0 + r / 262144 from by omega, show (((128 + ((r / 4096 % 64 : Nat) : Int)) % 256).toNat) = 0x80 + r / 4096 % 64 from by omega, show (((128 + ((r / 64 % 64 : Nat) : Int)) % 256).toNat) = 0x80 + r / 64 % 64 from by omega, show (((128 + ((r % 64 : Nat) : Int)) % 256).toNat) = 0x80 + r % 64 from by omega]

theorem bt_g (e : ByteArray) (k : Nat) (h : k < e.size) : bt e (k : Int) = ((g e.data.toList k : Nat) : Int) := by
  unfold bt g
  rw [dif_pos (by simpa using h)]
  have hk : k < e.data.toList.length := by rw [TR.bytes_length]; exact h
  rw [List.getD_eq_getElem?_getD, List.getElem?_eq_getElem hk]
  rfl
theorem g_lt (l : List UInt8) (k : Nat) : g l k < 256 := (l.getD k 0).toNat_lt
/-- the number that n bytes at the front would tell -/
def rnum (l : List UInt8) : Nat → Nat
  | 1 => g l 0
  | 2 => r2 l
  | 3 => r3 l
  | _ => r4 l
theorem take1_some (l : List UInt8) (r w : Nat) (h : take1 l = (some r, w)) : 1 ≤ w ∧ w ≤ 4 ∧ r = rnum l w := by
  revert h
  unfold take1; repeat' split
  all_goals (intro h; simp at h)
  all_goals (obtain ⟨rfl, rfl⟩ := h; exact ⟨by omega, by omega, rfl⟩)
/-- does n bytes' number have these bytes for its form? -/
def fits (l : List UInt8) (n : Nat) : Prop := n ≤ l.length ∧ may (rnum l n) = true ∧ enc (rnum l n) = l.take n
instance (l : List UInt8) (n : Nat) : Decidable (fits l n) := inferInstanceAs (Decidable (_ ∧ _ ∧ _))
theorem fits_take1 (l : List UInt8) (n : Nat) (h1 : 1 ≤ n) (h : fits l n) : take1 l = (some (rnum l n), n) := by
  obtain ⟨hl, hm, he⟩ := h
  have e : l = enc (rnum l n) ++ l.drop n := by rw [he, List.take_append_drop]
  have hlen : (enc (rnum l n)).length = n := by rw [he, List.length_take]; omega
  have := take1_enc (rnum l n) (l.drop n) hm
  rw [← e, hlen] at this
  exact this
theorem take1_fits (l : List UInt8) (r w : Nat) (h0 : l ≠ []) (h : take1 l = (some r, w)) : fits l w := by
  obtain ⟨_, _, hr⟩ := take1_some l r w h
  have e1 : (take1 l).1 = some r := by rw [h]
  have e2 : (take1 l).2 = w := by rw [h]
  have hf := take1_form l r h0 e1
  have hm := take1_may l r e1
  have hl := take1_le l h0
  rw [e2] at hf hl
  subst hr
  exact ⟨hl, hm, hf.symm⟩
/-- what the rest of the search comes to -/
theorem begins_step (e : ByteArray) (n : Nat) (h1 : 1 ≤ n) (h4 : n ≤ 4) (hs : e.size ≤ 4) (h0 : 0 < e.size) (k : Nat) :
    errataref01_begins.l0 (k + 8) e n = if n ≤ e.size then (if fits e.data.toList n then some (((rnum e.data.toList n : Nat) : Int), (n : Int)) else errataref01_begins.l0 (k + 4 - (n - 1)) e ((n + 1 : Nat) : Int)) else some (0, 0) := by
  have hlen : e.data.toList.length = e.size := TR.bytes_length e
  have l0e : errataref01_begins.l0 (k + 8) e n = errataref01_begins.j1 (k + 7) e n (decide ((n : Int) ≤ (e.size : Int))) := by
    rw [errataref01_begins.l0, if_pos (by omega)]
  rw [l0e]
  by_cases hn : n ≤ e.size
  · rw [if_pos hn]
    have hd : decide ((n : Int) ≤ (e.size : Int)) = true := by simp; omega
    rw [hd]
    have hb0 := bt_g e 0 (by omega)
    have b0 := g_lt e.data.toList 0
    have b1 := g_lt e.data.toList 1
    have b2 := g_lt e.data.toList 2
    have b3 := g_lt e.data.toList 3
    have fin : ∀ (q : Nat), errataref01_begins.l1 (q + 1) e n ((rnum e.data.toList n : Nat) : Int) n = if fits e.data.toList n then some (((rnum e.data.toList n : Nat) : Int), (n : Int)) else errataref01_begins.l0 q e ((n + 1 : Nat) : Int) := by
      intro q
      have hr : rnum e.data.toList n ≤ 2097151 := by
        unfold rnum r2 r3 r4
        split <;> omega
      rw [errataref01_begins.l1, if_neg (by omega), may_eq]
      simp only [Option.bind_some]
      have hw : wrap64 ((n : Int) + 1) = ((n + 1 : Nat) : Int) := by rw [w64' _ (by omega) (by omega)]; rfl
      by_cases hm : may (rnum e.data.toList n) = true
      · rw [if_pos hm]
        obtain ⟨b, hb, hbl⟩ := coded_eq (rnum e.data.toList n) (may_le hm)
        rw [hb]
        simp only [Option.bind_some]
        rw [if_pos (by omega), if_pos (by omega), hbl, hw]
        have hex : (e.extract 0 ((n : Int)).toNat).toList = e.data.toList.take n := by
          rw [Lib.extract_toList]; simp
        rw [hex]
        by_cases he : enc (rnum e.data.toList n) = e.data.toList.take n
        · rw [if_pos he, if_pos ⟨by omega, hm, he⟩]
        · rw [if_neg he, if_neg (fun h => he h.2.2)]
      · rw [if_neg hm, if_neg (fun h => hm h.2.1), hw]
    have hc : n = 1 ∨ n = 2 ∨ n = 3 ∨ n = 4 := by omega
    have hbz : bt e (0 : Int) = ((g e.data.toList 0 : Nat) : Int) := hb0
    rcases hc with rfl | rfl | rfl | rfl
    · rw [errataref01_begins.j1, if_pos rfl, if_pos (by omega), if_neg (by omega), if_neg (by omega), if_neg (by omega), errataref01_begins.j2, hbz, w32 _ (by omega) (by omega)]
      exact fin (k + 4)
    · have hb1 := bt_g e 1 (by omega)
      have hb1' : bt e (1 : Int) = ((g e.data.toList 1 : Nat) : Int) := hb1
      have t0 : Int.tmod ((g e.data.toList 0 : Nat) : Int) 32 = ((g e.data.toList 0 % 32 : Nat) : Int) := tmod_nat _ 32
      have t1 : Int.tmod ((g e.data.toList 1 : Nat) : Int) 64 = ((g e.data.toList 1 % 64 : Nat) : Int) := tmod_nat _ 64
      rw [errataref01_begins.j1, if_pos rfl, if_pos (by omega), if_pos (by omega), errataref01_begins.j2, hbz, w32 ((g e.data.toList 0 : Nat) : Int) (by omega) (by omega), t0]
      rw [errataref01_begins.l1, if_pos (by omega), if_pos (by omega), if_pos (by omega), hb1', w32 ((g e.data.toList 1 : Nat) : Int) (by omega) (by omega), t1, w32 (64 * _) (by omega) (by omega), w32 _ (by omega) (by omega), w64' _ (by omega) (by omega)]
      have := fin (k + 3)
      rw [show (64 * ((g e.data.toList 0 % 32 : Nat) : Int) + ((g e.data.toList 1 % 64 : Nat) : Int)) = ((rnum e.data.toList 2 : Nat) : Int) from by show _ = ((r2 e.data.toList : Nat) : Int); unfold r2; omega]
      exact this
    · have hb1' : bt e (1 : Int) = ((g e.data.toList 1 : Nat) : Int) := bt_g e 1 (by omega)
      have hb2' : bt e (2 : Int) = ((g e.data.toList 2 : Nat) : Int) := bt_g e 2 (by omega)
      have t0 : Int.tmod ((g e.data.toList 0 : Nat) : Int) 16 = ((g e.data.toList 0 % 16 : Nat) : Int) := tmod_nat _ 16
      have t1 : Int.tmod ((g e.data.toList 1 : Nat) : Int) 64 = ((g e.data.toList 1 % 64 : Nat) : Int) := tmod_nat _ 64
      have t2 : Int.tmod ((g e.data.toList 2 : Nat) : Int) 64 = ((g e.data.toList 2 % 64 : Nat) : Int) := tmod_nat _ 64
      rw [errataref01_begins.j1, if_pos rfl, if_pos (by omega), if_neg (by omega), if_pos (by omega), errataref01_begins.j2, hbz, w32 ((g e.data.toList 0 : Nat) : Int) (by omega) (by omega), t0]
      rw [errataref01_begins.l1, if_pos (by omega), if_pos (by omega), if_pos (by omega), hb1', w32 ((g e.data.toList 1 : Nat) : Int) (by omega) (by omega), t1, w32 (64 * _) (by omega) (by omega), w32 _ (by omega) (by omega), w64' _ (by omega) (by omega)]
      rw [errataref01_begins.l1, if_pos (by omega), if_pos (by omega), if_pos (by omega), show (1 + 1 : Int) = 2 from rfl, hb2', w32 ((g e.data.toList 2 : Nat) : Int) (by omega) (by omega), t2, w32 (64 * _) (by omega) (by omega), w32 _ (by omega) (by omega), w64' _ (by omega) (by omega)]
      have := fin (k + 2)
      rw [show (64 * (64 * ((g e.data.toList 0 % 16 : Nat) : Int) + ((g e.data.toList 1 % 64 : Nat) : Int)) + ((g e.data.toList 2 % 64 : Nat) : Int)) = ((rnum e.data.toList 3 : Nat) : Int) from by show _ = ((r3 e.data.toList : Nat) : Int); unfold r3; omega]
      exact this
    · have hb1' : bt e (1 : Int) = ((g e.data.toList 1 : Nat) : Int) := bt_g e 1 (by omega)
      have hb2' : bt e (2 : Int) = ((g e.data.toList 2 : Nat) : Int) := bt_g e 2 (by omega)
      have hb3' : bt e (3 : Int) = ((g e.data.toList 3 : Nat) : Int) := bt_g e 3 (by omega)
      have t0 : Int.tmod ((g e.data.toList 0 : Nat) : Int) 8 = ((g e.data.toList 0 % 8 : Nat) : Int) := tmod_nat _ 8
      have t1 : Int.tmod ((g e.data.toList 1 : Nat) : Int) 64 = ((g e.data.toList 1 % 64 : Nat) : Int) := tmod_nat _ 64
      have t2 : Int.tmod ((g e.data.toList 2 : Nat) : Int) 64 = ((g e.data.toList 2 % 64 : Nat) : Int) := tmod_nat _ 64
      have t3 : Int.tmod ((g e.data.toList 3 : Nat) : Int) 64 = ((g e.data.toList 3 % 64 : Nat) : Int) := tmod_nat _ 64
      rw [errataref01_begins.j1, if_pos rfl, if_pos (by omega), if_neg (by omega), if_neg (by omega), if_pos (by omega), errataref01_begins.j2, hbz, w32 ((g e.data.toList 0 : Nat) : Int) (by omega) (by omega), t0]
      rw [errataref01_begins.l1, if_pos (by omega), if_pos (by omega), if_pos (by omega), hb1', w32 ((g e.data.toList 1 : Nat) : Int) (by omega) (by omega), t1, w32 (64 * _) (by omega) (by omega), w32 _ (by omega) (by omega), w64' _ (by omega) (by omega)]
      rw [errataref01_begins.l1, if_pos (by omega), if_pos (by omega), if_pos (by omega), show (1 + 1 : Int) = 2 from rfl, hb2', w32 ((g e.data.toList 2 : Nat) : Int) (by omega) (by omega), t2, w32 (64 * _) (by omega) (by omega), w32 _ (by omega) (by omega), w64' _ (by omega) (by omega)]
      rw [errataref01_begins.l1, if_pos (by omega), if_pos (by omega), if_pos (by omega), show (2 + 1 : Int) = 3 from rfl, hb3', w32 ((g e.data.toList 3 : Nat) : Int) (by omega) (by omega), t3, w32 (64 * _) (by omega) (by omega), w32 _ (by omega) (by omega), w64' _ (by omega) (by omega)]
      have := fin (k + 1)
      rw [show (64 * (64 * (64 * ((g e.data.toList 0 % 8 : Nat) : Int) + ((g e.data.toList 1 % 64 : Nat) : Int)) + ((g e.data.toList 2 % 64 : Nat) : Int)) + ((g e.data.toList 3 % 64 : Nat) : Int)) = ((rnum e.data.toList 4 : Nat) : Int) from by show _ = ((r4 e.data.toList : Nat) : Int); unfold r4; omega]
      exact this
  · rw [if_neg hn]
    have hd : decide ((n : Int) ≤ (e.size : Int)) = false := by simp; omega
    rw [hd, errataref01_begins.j1, if_neg (by simp)]
theorem not_fits_lt (l : List UInt8) (r w n : Nat) (h : take1 l = (some r, w)) (h1 : 1 ≤ n) (hn : n ≠ w) : ¬ fits l n := fun hf => by
  have := fits_take1 l n h1 hf
  rw [h] at this
  injection this with _ h2
  exact hn h2.symm
theorem not_fits_none (l : List UInt8) (n : Nat) (h : (take1 l).1 = none) (h1 : 1 ≤ n) : ¬ fits l n := fun hf => by
  have := fits_take1 l n h1 hf
  rw [this] at h; cases h
theorem begins_eq (e : ByteArray) (h0 : 0 < e.size) (hs : e.size ≤ 4) (k : Nat) :
    errataref01_begins.f (k + 40) e = some (match take1 e.data.toList with | (none, _) => (0, 0) | (some r, w) => ((r : Int), (w : Int))) := by
  have hne : e.data.toList ≠ [] := by intro h; have := TR.bytes_length e; rw [h] at this; simp at this; omega
  have hlen : e.data.toList.length = e.size := TR.bytes_length e
  have s1 := begins_step e 1 (by omega) (by omega) hs h0 (k + 32)
  have s2 := begins_step e 2 (by omega) (by omega) hs h0 (k + 28)
  have s3 := begins_step e 3 (by omega) (by omega) hs h0 (k + 23)
  have s4 := begins_step e 4 (by omega) (by omega) hs h0 (k + 17)
  have s5 : errataref01_begins.l0 (k + 18) e ((4 + 1 : Nat) : Int) = some (0, 0) := by
    rw [errataref01_begins.l0, if_neg (by omega), errataref01_begins.j1, if_neg (by simp)]
  have g1 : errataref01_begins.f (k + 40) e = errataref01_begins.l0 (k + 32 + 8) e ((1 : Nat) : Int) := rfl
  rw [g1, s1, if_pos (by omega)]
  cases ht : take1 e.data.toList with
  | mk o w =>
    cases o with
    | none =>
      have hn : (take1 e.data.toList).1 = none := by rw [ht]
      rw [if_neg (not_fits_none _ 1 hn (by omega))]
      show errataref01_begins.l0 (k + 28 + 8) e ((2 : Nat) : Int) = _
      rw [s2]
      by_cases z2 : 2 ≤ e.size
      · rw [if_pos z2, if_neg (not_fits_none _ 2 hn (by omega))]
        show errataref01_begins.l0 (k + 23 + 8) e ((3 : Nat) : Int) = _
        rw [s3]
        by_cases z3 : 3 ≤ e.size
        · rw [if_pos z3, if_neg (not_fits_none _ 3 hn (by omega))]
          show errataref01_begins.l0 (k + 17 + 8) e ((4 : Nat) : Int) = _
          rw [s4]
          by_cases z4 : 4 ≤ e.size
          · rw [if_pos z4, if_neg (not_fits_none _ 4 hn (by omega))]
            exact s5
          · rw [if_neg z4]
        · rw [if_neg z3]
      · rw [if_neg z2]
    | some r =>
      have hf := take1_fits _ r w hne ht
      obtain ⟨w1, w2, hr⟩ := take1_some _ r w ht
      have hwl : w ≤ e.size := by rw [← hlen]; exact hf.1
      have hc : w = 1 ∨ w = 2 ∨ w = 3 ∨ w = 4 := by omega
      rcases hc with rfl | rfl | rfl | rfl
      · rw [if_pos hf, hr]
      · rw [if_neg (not_fits_lt _ r 2 1 ht (by omega) (by omega))]
        show errataref01_begins.l0 (k + 28 + 8) e ((2 : Nat) : Int) = _
        rw [s2, if_pos hwl, if_pos hf, hr]
      · rw [if_neg (not_fits_lt _ r 3 1 ht (by omega) (by omega))]
        show errataref01_begins.l0 (k + 28 + 8) e ((2 : Nat) : Int) = _
        rw [s2, if_pos (by omega), if_neg (not_fits_lt _ r 3 2 ht (by omega) (by omega))]
        show errataref01_begins.l0 (k + 23 + 8) e ((3 : Nat) : Int) = _
        rw [s3, if_pos hwl, if_pos hf, hr]
      · rw [if_neg (not_fits_lt _ r 4 1 ht (by omega) (by omega))]
        show errataref01_begins.l0 (k + 28 + 8) e ((2 : Nat) : Int) = _
        rw [s2, if_pos (by omega), if_neg (not_fits_lt _ r 4 2 ht (by omega) (by omega))]
        show errataref01_begins.l0 (k + 23 + 8) e ((3 : Nat) : Int) = _
        rw [s3, if_pos (by omega), if_neg (not_fits_lt _ r 4 3 ht (by omega) (by omega))]
        show errataref01_begins.l0 (k + 17 + 8) e ((4 : Nat) : Int) = _
        rw [s4, if_pos hwl, if_pos hf, hr]

theorem g_take4 (l : List UInt8) (k : Nat) (h : k < 4) : g (l.take 4) k = g l k := by
  unfold g; simp only [List.getD_eq_getElem?_getD, List.getElem?_take]; rw [if_pos h]
theorem c_take4 (l : List UInt8) (k : Nat) (h : k < 4) : c (l.take 4) k = c l k := by
  unfold c; rw [g_take4 l k h]; congr 1; simp; omega
theorem take1_take4 (l : List UInt8) : take1 (l.take 4) = take1 l := by
  unfold take1 r2 r3 r4
  simp only [g_take4 l 0 (by omega), g_take4 l 1 (by omega), g_take4 l 2 (by omega), g_take4 l 3 (by omega), c_take4 l 1 (by omega), c_take4 l 2 (by omega), c_take4 l 3 (by omega)]

/-- the pieces of a text, as the document has them -/
def pS (s : ByteArray) : Nat → List Piece → List S73
  | _, [] => []
  | i, p :: t => ⟨(i : Int), s.extract i (i + p.2.length), rn p.1⟩ :: pS s (i + p.2.length) t
theorem mn_eq (s i : Nat) : mn (s : Int) ((i + 4 : Nat) : Int) = ((min s (i + 4) : Nat) : Int) := by unfold mn; split <;> omega
theorem window (s : ByteArray) (i : Nat) : (s.extract i (min s.size (i + 4))).data.toList = (s.data.toList.drop i).take 4 := by
  rw [Lib.extract_data]
  rcases Nat.le_total (i + 4) s.size with h | h
  · rw [Nat.min_eq_right h]; congr 1; omega
  · rw [Nat.min_eq_left h, List.take_of_length_le (by rw [List.length_drop, bytes_length]; omega), List.take_of_length_le (by rw [List.length_drop, bytes_length]; omega)]
theorem pieces_step (s : ByteArray) (i k : Nat) (acc : List S73) (o : Option Nat) (w : Nat) (ht : take1 (s.data.toList.drop i) = (o, w)) (q0 : ((i : Int) < (s.size : Int)) = True) (q1 : (0 ≤ (i : Int)) = True)
    (q2 : ((i : Int) ≤ ((min s.size (i + 4) : Nat) : Int)) = True) (q3 : (((min s.size (i + 4) : Nat) : Int) ≤ (s.size : Int)) = True) (q4 : ((i : Int) ≤ ((i + w : Nat) : Int)) = True) (q5 : (((i + w : Nat) : Int) ≤ (s.size : Int)) = True)
    (q6 : (acc.length < 4398046511104) = True) (w4 : wrap64 ((i : Int) + 4) = ((i + 4 : Nat) : Int)) (ww : wrap64 ((i : Int) + (w : Int)) = ((i + w : Nat) : Int)) (e1 : ((i : Int)).toNat = i) (e2 : (((min s.size (i + 4) : Nat) : Int)).toNat = min s.size (i + 4)) (e3 : (((i + w : Nat) : Int)).toNat = i + w)
    (hb : errataref01_begins.f k (s.extract i (min s.size (i + 4))) = some (match (o, w) with | (none, _) => (0, 0) | (some r, w) => ((r : Int), (w : Int)))) (hw1 : o = none → w = 1) (q7 : ((w : Int) = 0) = False) :
    errataref01_Pieces.l0 (k + 1) s acc (i : Int) = errataref01_Pieces.l0 k s (acc ++ [⟨(i : Int), s.extract i (i + w), rn o⟩]) ((i + w : Nat) : Int) := by
  rw [errataref01_Pieces.l0]
  simp only [q0, q1, w4, mn_eq, q2, q3, e1, e2, hb, if_true, Option.bind_some]
  cases o with
  | none =>
    obtain rfl := hw1 rfl
    have ww' : wrap64 ((i : Int) + 1) = ((i + 1 : Nat) : Int) := ww
    simp only [if_true, ww', q4, q5, q6, e3]
    rfl
  | some r =>
    simp only [q7, if_false, ww, q4, q5, q6, e3, if_true]
    rfl
theorem win_size (s : ByteArray) (i : Nat) (h : i < s.size) : 0 < (s.extract i (min s.size (i + 4))).size ∧ (s.extract i (min s.size (i + 4))).size ≤ 4 := by
  rw [ByteArray.size_extract]; omega
theorem pieces_l0 (s : ByteArray) (hs : s.size ≤ 1073741824) (d : Nat) : ∀ (i k : Nat) (acc : List S73), s.size - i = d → i ≤ s.size → d + 42 ≤ k → acc.length ≤ i →
    errataref01_Pieces.l0 k s acc (i : Int) = some (acc ++ pS s i (pieces (s.data.toList.drop i))) := by
  induction d using Nat.strongRecOn with
  | ind d ih =>
    intro i k acc hd hi hk hacc
    obtain ⟨k, rfl⟩ : ∃ m, k = m + 41 := ⟨k - 41, by omega⟩
    by_cases hlt : i < s.size
    · have hne := drop_ne s i hlt
      have hw := take1_width (s.data.toList.drop i)
      have hwl := take1_le _ hne
      rw [List.length_drop, bytes_length] at hwl
      have hn1 := take1_none (s.data.toList.drop i)
      rw [pieces_cons _ hne, pS]
      obtain ⟨o, w, ht⟩ : ∃ o w, take1 (s.data.toList.drop i) = (o, w) := ⟨_, _, rfl⟩
      rw [ht] at hw hwl hn1 ⊢
      simp only at hw hwl hn1 ⊢
      have hlen : ((s.data.toList.drop i).take w).length = w := by rw [List.length_take, List.length_drop, bytes_length]; omega
      have w4 : wrap64 ((i : Int) + 4) = ((i + 4 : Nat) : Int) := by rw [w64' _ (by omega) (by omega)]; omega
      have ww : wrap64 ((i : Int) + (w : Int)) = ((i + w : Nat) : Int) := by rw [w64' _ (by omega) (by omega)]; omega
      have q6 : acc.length < 4398046511104 := by omega
      have q0 : (i : Int) < (s.size : Int) := by omega
      have q2 : (i : Int) ≤ ((min s.size (i + 4) : Nat) : Int) := by omega
      have q3 : ((min s.size (i + 4) : Nat) : Int) ≤ (s.size : Int) := by omega
      have q4 : (i : Int) ≤ ((i + w : Nat) : Int) := by omega
      have q5 : ((i + w : Nat) : Int) ≤ (s.size : Int) := by omega
      have q7 : ¬ (w : Int) = 0 := by omega
      have e1 : ((i : Int)).toNat = i := by omega
      have e2 : (((min s.size (i + 4) : Nat) : Int)).toNat = min s.size (i + 4) := by omega
      have e3 : (((i + w : Nat) : Int)).toNat = i + w := by omega
      have q1 : 0 ≤ (i : Int) := by omega
      have n1 : s.size - (i + w) < d := by omega
      have n2 : i + w ≤ s.size := by omega
      have n3 : s.size - (i + w) + 42 ≤ k + 40 := by omega
      have n4 : (acc ++ [(⟨(i : Int), s.extract i (i + w), rn o⟩ : S73)]).length ≤ i + w := by rw [List.length_append]; show acc.length + 1 ≤ i + w; omega
      have hb := begins_eq (s.extract i (min s.size (i + 4))) (win_size s i hlt).1 (win_size s i hlt).2 k
      rw [window s i, take1_take4, ht] at hb
      have h2 := ih (s.size - (i + w)) n1 (i + w) (k + 40) (acc ++ [(⟨(i : Int), s.extract i (i + w), rn o⟩ : S73)]) rfl n2 n3 n4
      have st := pieces_step s i (k + 40) acc o w ht (eq_true q0) (eq_true q1) (eq_true q2) (eq_true q3) (eq_true q4) (eq_true q5) (eq_true q6) w4 ww e1 e2 e3 hb hn1 (eq_false q7)
      refine st.trans (h2.trans ?_)
      rw [List.append_assoc, hlen, List.drop_drop]
      rfl
    · have e : s.data.toList.drop i = [] := List.drop_of_length_le (by rw [bytes_length]; omega)
      rw [e, show k + 41 = (k + 40) + 1 from rfl, errataref01_Pieces.l0, if_neg (show ¬ (i : Int) < (s.size : Int) from by omega)]
      simp [pieces_nil, pS]
theorem pieces_eq (s : ByteArray) (hs : s.size ≤ 1073741824) (k : Nat) (hk : s.size + 42 ≤ k) : errataref01_Pieces.f k s = some (pS s 0 (pieces s.data.toList)) := by
  have := pieces_l0 s hs s.size 0 k [] (by omega) (by omega) (by omega) (by simp)
  simpa [errataref01_Pieces.f] using this

/-- a piece of the document's is a piece -/
def okS (s : ByteArray) (p : S73) : Prop := ∃ (pc : Piece) (i : Nat), okPiece pc ∧ p.f1.data.toList = pc.2 ∧ p.f2 = rn pc.1 ∧ p.f0 = i ∧ i < s.size ∧ bt p.f1 0 = bt s i
theorem pS_spec (s : ByteArray) : ∀ (ps : List Piece) (i : Nat), (∀ p ∈ ps, okPiece p) → s.data.toList.drop i = ps.flatMap (·.2) → i ≤ s.size →
    (∀ p ∈ pS s i ps, okS s p) ∧ (pS s i ps).map (fun p => (p.f0, p.f2)) = (runesFrom i ps).map (fun x => ((x.1 : Int), x.2)) := by
  intro ps
  induction ps with
  | nil => intro i _ _ _; exact ⟨by simp [pS], rfl⟩
  | cons p t ih =>
    intro i hok hd hi
    have h1 := pc_pos (hok p (by simp))
    have hlen : s.size - i = (p.2 ++ t.flatMap (·.2)).length := by rw [← List.flatMap_cons, ← hd, List.length_drop, bytes_length]
    rw [List.length_append] at hlen
    have hd2 : s.data.toList.drop (i + p.2.length) = t.flatMap (·.2) := by
      rw [← List.drop_drop, hd]; simp
    obtain ⟨a, b⟩ := ih (i + p.2.length) (fun q hq => hok q (by simp [hq])) hd2 (by omega)
    refine ⟨fun q hq => ?_, ?_⟩
    · simp only [pS, List.mem_cons] at hq
      rcases hq with rfl | hq
      · have hex : (s.extract i (i + p.2.length)).data.toList = p.2 := by
          rw [Lib.extract_data, hd]; simp
        have hexs : (s.extract i (i + p.2.length)).size = p.2.length := by rw [← bytes_length, hex]
        refine ⟨p, i, hok p (by simp), hex, rfl, rfl, by omega, ?_⟩
        have q1 := bt_g (s.extract i (i + p.2.length)) 0 (by omega)
        have q2 := bt_g s i (by omega)
        show bt _ (0 : Int) = _
        rw [show ((0 : Int)) = ((0 : Nat) : Int) from rfl, q1, q2, hex]
        congr 1
        have : g s.data.toList i = g (s.data.toList.drop i) 0 := by unfold g; simp [List.getElem?_drop]
        rw [this, hd]
        unfold g
        simp only [List.flatMap_cons, List.getD_eq_getElem?_getD]
        rw [List.getElem?_append_left (by omega)]
      · exact a q hq
    · simp only [pS, runesFrom, List.map_cons, b]

theorem rdP_at (L : List S73) (j : Nat) (h : j < L.length) : rd_T73 L (j : Int) = L[j] := by
  unfold rd_T73
  rw [show ((j : Int)).toNat = j from by omega, List.getD_eq_getElem?_getD, List.getElem?_eq_getElem h]; rfl
theorem pS_all (s : ByteArray) : (∀ p ∈ pS s 0 (pieces s.data.toList), okS s p) ∧ (pS s 0 (pieces s.data.toList)).map (fun p => (p.f0, p.f2)) = (runes s.data.toList).map (fun x => ((x.1 : Int), x.2)) :=
  pS_spec s (pieces s.data.toList) 0 (pieces_ok _) (by rw [List.drop_zero, pieces_flat]) (by omega)
end Go.Proofs.YtimmafiodhncgaaGreatDoor.TP
