import Derived.Test.YtijdlpbkmlplgaaLinesAlone
import Derived.Test.YtijdlpbkmlplgaaQL2
/- A quoted text by itself: its form, that it is read back by the program's Front and Unquote, and that nothing else is; that texts are shown apart. No function of the document's. -/
set_option linter.unusedVariables false
set_option linter.unusedSimpArgs false
namespace Go.Proofs.Ytijdlpbkmlplgaa.TL
open Go.RowKit Go.Proofs.Ytijdlpbkmlplgaa.TS Go.Proofs.Ytijdlpbkmlplgaa.TR Go.Proofs.Ytijdlpbkmlplgaa.TX Go.Proofs.YtijdlpbkmlplgaaW.PrintWords Go.Proofs.YtijdlpbkmlplgaaW.PrintMore Go.Proofs.Ytijdlpbkmlplgaa.QL

theorem enc_ints (r : Nat) (h : may r = true) : (enc r).map (fun b => ((b.toNat : Nat) : Int)) = Lib.encodeRuneZ (r : Int) := by
  have hr := may_le h
  have hs : r < 0xD800 ∨ 0xE000 ≤ r := by unfold may at h; simp at h; omega
  unfold enc
  by_cases h1 : r < 0x80
  · rw [if_pos h1, Lib.encodeRuneZ_one (by omega) (by omega)]
    simp only [List.map_cons, List.map_nil]; rw [ofN (by omega)]
  · rw [if_neg h1]
    by_cases h2 : r < 0x800
    · rw [if_pos h2, Lib.encodeRuneZ_two (by omega) (by omega)]
      simp only [List.map_cons, List.map_nil]; rw [ofN (by omega), ofN (by omega)]; rfl
    · rw [if_neg h2]
      by_cases h3 : r < 0x10000
      · rw [if_pos h3, Lib.encodeRuneZ_three (by omega)]
        simp only [List.map_cons, List.map_nil]; rw [ofN (by omega), ofN (by omega), ofN (by omega)]; rfl
      · have e : Lib.encodeRuneZ (r : Int) = [240 + (r : Int) / 262144, 128 + (r : Int) / 4096 % 64, 128 + (r : Int) / 64 % 64, 128 + (r : Int) % 64] := by
          unfold Lib.encodeRuneZ; rw [if_neg (show ¬ (0 ≤ (r : Int) ∧ (r : Int) ≤ 127) from by omega), if_neg (show ¬ (128 ≤ (r : Int) ∧ (r : Int) ≤ 2047) from by omega), if_neg (show ¬ ((2048 ≤ (r : Int) ∧ (r : Int) < 55296) ∨ (57343 < (r : Int) ∧ (r : Int) ≤ 65535)) from by omega), if_pos (show 65536 ≤ (r : Int) ∧ (r : Int) ≤ 1114111 from by omega)]
        rw [if_neg h3, e]
        simp only [List.map_cons, List.map_nil]; rw [ofN (by omega), ofN (by omega), ofN (by omega), ofN (by omega)]; rfl
theorem bytesOf_strOfNums (xs : List Int) (h : ∀ x ∈ xs, 0 ≤ x ∧ x < 256) : bytesOf (strOfNums xs) = xs := by
  rw [bytesOf_data, strOfNums_data, List.map_map]
  conv => rhs; rw [← List.map_id xs]
  refine List.map_congr_left (fun x hx => ?_)
  obtain ⟨h0, h1⟩ := h x hx
  show (((UInt8.ofNat x.toNat).toNat : Nat) : Int) = x
  rw [ofN (by omega)]; omega
theorem hexI_bd (n : Int) (h0 : 0 ≤ n) (h1 : n < 16) : 0 ≤ hexI n ∧ hexI n < 256 := by unfold hexI; split <;> omega
theorem bytesOf_length (b : ByteArray) : (bytesOf b).length = b.size := by rw [bytesOf_data, List.length_map, bytes_length]
theorem strOfNums_size (xs : List Int) : (strOfNums xs).size = xs.length := by
  rw [← bytes_length, strOfNums_data, List.length_map]
/-- the coded form of bytes, between the quotes -/
inductive Cd : List Int → List Int → Prop
  | nil : Cd [] []
  | raw (c : Int) (q b : List Int) : c ≠ 34 → c ≠ 92 → Cd q b → Cd (c :: q) (c :: b)
  | esc (c : Int) (q b : List Int) : c = 34 ∨ c = 92 → Cd q b → Cd (92 :: c :: q) (c :: b)
  | hex (a : Int) (q b : List Int) : 0 ≤ a → a < 256 → Cd q b → Cd (92 :: 120 :: hexI (a / 16) :: hexI (a % 16) :: q) (a :: b)
theorem Cd.append {q b q' b' : List Int} (h : Cd q b) (h' : Cd q' b') : Cd (q ++ q') (b ++ b') := by
  induction h with
  | nil => exact h'
  | raw c q b h1 h2 _ ih => exact .raw c _ _ h1 h2 ih
  | esc c q b h1 _ ih => exact .esc c _ _ h1 ih
  | hex a q b h1 h2 _ ih => exact .hex a _ _ h1 h2 ih
theorem Cd.raws (l : List Int) (h : ∀ c ∈ l, c ≠ 34 ∧ c ≠ 92) : Cd l l := by
  induction l with
  | nil => exact .nil
  | cons c l ih => exact .raw c _ _ (h c (by simp)).1 (h c (by simp)).2 (ih (fun d hd => h d (by simp [hd])))
theorem enc_plain (r : Nat) (h1 : r ≠ 34) (h2 : r ≠ 92) (hr : r ≤ 1114111) : ∀ c ∈ (enc r).map (fun b => ((b.toNat : Nat) : Int)), c ≠ 34 ∧ c ≠ 92 := by
  intro c hc
  obtain ⟨b, hb, rfl⟩ := List.mem_map.1 hc
  unfold enc at hb
  split at hb
  · simp only [List.mem_cons, List.not_mem_nil, or_false] at hb; subst hb; rw [ofN (by omega)]; omega
  · split at hb
    · simp only [List.mem_cons, List.not_mem_nil, or_false] at hb; rcases hb with rfl | rfl <;> rw [ofN (by omega)] <;> omega
    · split at hb
      · simp only [List.mem_cons, List.not_mem_nil, or_false] at hb; rcases hb with rfl | rfl | rfl <;> rw [ofN (by omega)] <;> omega
      · simp only [List.mem_cons, List.not_mem_nil, or_false] at hb; rcases hb with rfl | rfl | rfl | rfl <;> rw [ofN (by omega)] <;> omega
/-- a piece as it is shown -/
def shP (q : Int) (p : Piece) : List Int := shownI q ((g p.2 0 : Nat) : Int) (rn p.1)
theorem shown_pieces (q : Int) (s : ByteArray) : ∀ (ps : List Piece) (i : Nat), s.data.toList.drop i = ps.flatMap (·.2) → i ≤ s.size → (∀ p ∈ ps, okPiece p) → shownAll q s (runesFrom i ps) = ps.flatMap (shP q) := by
  intro ps
  induction ps with
  | nil => intro i _ _ _; rfl
  | cons p t ih =>
    intro i hd hi hok
    have hp := piece_pos (hok p (by simp))
    have hlen : s.size - i = (p.2 ++ t.flatMap (·.2)).length := by rw [← List.flatMap_cons, ← hd, List.length_drop, TR.bytes_length]
    rw [List.length_append] at hlen
    have hd2 : s.data.toList.drop (i + p.2.length) = t.flatMap (·.2) := by
      rw [← List.drop_drop, hd]; simp
    have hb : bt s (i : Int) = ((g p.2 0 : Nat) : Int) := by
      rw [bt_g s i (by omega)]
      have e1 : g s.data.toList i = g (s.data.toList.drop i) 0 := by unfold g; simp [List.getD_eq_getElem?_getD, List.getElem?_drop]
      rw [e1, hd]
      obtain ⟨a, l, hl⟩ := List.exists_cons_of_ne_nil (List.length_pos_iff.1 (show 0 < p.2.length from hp))
      rw [List.flatMap_cons, hl]; rfl
    rw [show runesFrom i (p :: t) = (i, rn p.1) :: runesFrom (i + p.2.length) t from rfl]
    have e2 : shownAll q s ((i, rn p.1) :: runesFrom (i + p.2.length) t) = shownI q (bt s (i : Int)) (rn p.1) ++ shownAll q s (runesFrom (i + p.2.length) t) := rfl
    rw [e2, ih _ hd2 (by omega) (fun p' h => hok p' (by simp [h])), List.flatMap_cons, hb]
    rfl
theorem shown_all (q : Int) (s : ByteArray) : shownAll q s (runes s.data.toList) = (pieces s.data.toList).flatMap (shP q) :=
  shown_pieces q s _ 0 (by rw [List.drop_zero, pieces_flat]) (by omega) (pieces_ok _)
theorem hexN (b : UInt8) : (0 : Int) ≤ ((b.toNat : Nat) : Int) ∧ ((b.toNat : Nat) : Int) < 256 := by have := b.toNat_lt; omega
/-- what a piece is: a byte or a small rune in hex, or a rune -/
theorem piece_cases (p : Piece) (h : okPiece p) : (∃ b : UInt8, p.2 = [b] ∧ (rn p.1 < 32 ∨ rn p.1 = 127)) ∨ ∃ r : Nat, p.1 = some r ∧ may r = true ∧ p.2 = enc r ∧ 32 ≤ r ∧ r ≠ 127 := by
  unfold okPiece at h
  cases hp : p.1 with
  | none =>
    rw [hp] at h
    simp only at h
    obtain ⟨b, hb1⟩ : ∃ b, p.2 = [b] := List.length_eq_one_iff.1 h
    exact Or.inl ⟨b, hb1, Or.inl (by decide)⟩
  | some r =>
    rw [hp] at h
    simp only at h
    obtain ⟨hm, he⟩ := h
    by_cases c1 : r < 32 ∨ r = 127
    · left
      have e1 : enc r = [UInt8.ofNat r] := by unfold enc; rw [if_pos (by omega)]
      refine ⟨UInt8.ofNat r, by rw [he, e1], ?_⟩
      show (r : Int) < 32 ∨ (r : Int) = 127
      omega
    · exact Or.inr ⟨r, rfl, hm, he, by omega, by omega⟩
theorem shP_hex (q : Int) (p : Piece) (b : UInt8) (h : p.2 = [b]) (hr : rn p.1 < 32 ∨ rn p.1 = 127) : shP q p = [92, 120, hexI (((b.toNat : Nat) : Int) / 16), hexI (((b.toNat : Nat) : Int) % 16)] := by
  unfold shP shownI
  rw [if_pos hr, h]; rfl
theorem shP_rune (q : Int) (p : Piece) (r : Nat) (h1 : p.1 = some r) (h2 : may r = true) (h3 : p.2 = enc r) (h4 : 32 ≤ r) (h5 : r ≠ 127) :
    shP q p = if (r : Int) = 92 ∨ (r : Int) = q then [92, (r : Int) % 256] else p.2.map (fun b => ((b.toNat : Nat) : Int)) := by
  unfold shP shownI
  rw [h1, if_neg (show ¬ (rn (some r) < 32 ∨ rn (some r) = 127) from by show ¬ ((r : Int) < 32 ∨ (r : Int) = 127); omega), h3, enc_ints r h2]
  rfl
theorem piece_coded (p : Piece) (h : okPiece p) : Cd (shP 34 p) (p.2.map (fun b => ((b.toNat : Nat) : Int))) := by
  rcases piece_cases p h with ⟨b, hb, hr⟩ | ⟨r, h1, h2, h3, h4, h5⟩
  · rw [shP_hex 34 p b hb hr, hb]
    exact .hex _ _ _ (hexN b).1 (hexN b).2 .nil
  · rw [shP_rune 34 p r h1 h2 h3 h4 h5]
    split
    · rename_i h34
      have e1 : enc r = [UInt8.ofNat r] := by unfold enc; rw [if_pos (by omega)]
      rw [h3, e1]
      simp only [List.map_cons, List.map_nil]
      rw [ofN (by omega), show (r : Int) % 256 = (r : Int) from by omega]
      exact .esc _ _ _ (by omega) .nil
    · rename_i h34
      rw [h3]
      exact .raws _ (enc_plain r (by omega) (by omega) (may_le h2))
theorem quote_coded (s : ByteArray) : Cd (shownAll 34 s (runes s.data.toList)) (bytesOf s) := by
  rw [shown_all, bytesOf_data]
  conv => rhs; rw [← pieces_flat s.data.toList]
  have hok := pieces_ok s.data.toList
  generalize pieces s.data.toList = ps at hok ⊢
  induction ps with
  | nil => exact .nil
  | cons p t ih =>
    rw [List.flatMap_cons, List.flatMap_cons, List.map_append]
    exact (piece_coded p (hok p (by simp))).append (ih (fun q hq => hok q (by simp [hq])))

theorem shown_bd (s : ByteArray) : ∀ x ∈ shownAll 34 s (runes s.data.toList), 0 ≤ x ∧ x < 256 := by
  have h0 : ∀ x ∈ bytesOf s, 0 ≤ x ∧ x < 256 := by
    intro x hx
    rw [bytesOf_data] at hx
    obtain ⟨b, _, rfl⟩ := List.mem_map.1 hx
    have := b.toNat_lt
    omega
  have h := quote_coded s
  generalize shownAll 34 s (runes s.data.toList) = q at h ⊢
  generalize bytesOf s = b at h h0
  induction h with
  | nil => simp
  | raw c q b h1 h2 _ ih =>
    intro x hx
    rcases List.mem_cons.1 hx with rfl | hx
    · exact h0 _ (by simp)
    · exact ih (fun y hy => h0 y (by simp [hy])) x hx
  | esc c q b h1 _ ih =>
    intro x hx
    rcases List.mem_cons.1 hx with rfl | hx
    · omega
    rcases List.mem_cons.1 hx with rfl | hx
    · omega
    · exact ih (fun y hy => h0 y (by simp [hy])) x hx
  | hex a q b h1 h2 _ ih =>
    intro x hx
    rcases List.mem_cons.1 hx with rfl | hx
    · omega
    rcases List.mem_cons.1 hx with rfl | hx
    · omega
    rcases List.mem_cons.1 hx with rfl | hx
    · exact hexI_bd _ (by omega) (by omega)
    rcases List.mem_cons.1 hx with rfl | hx
    · exact hexI_bd _ (by omega) (by omega)
    · exact ih (fun y hy => h0 y (by simp [hy])) x hx
theorem quoteB_bytes (s : ByteArray) : bytesOf (quoteB s) = 34 :: shownAll 34 s (runes s.data.toList) ++ [34] := by
  unfold quoteB
  refine bytesOf_strOfNums _ (fun x hx => ?_)
  have hb := shown_bd s
  simp only [List.cons_append, List.mem_cons, List.mem_append, List.not_mem_nil, or_false] at hx
  rcases hx with rfl | hx | rfl
  · omega
  · exact hb x hx
  · omega
theorem bt_list (x : ByteArray) (i : Nat) (pre rest : List Int) (c : Int) (h : bytesOf x = pre ++ c :: rest) (hi : i = pre.length) : i < x.size ∧ bt x (i : Int) = c := by
  have hs : i < x.size := by rw [← bytesOf_length, h, List.length_append]; simp; omega
  refine ⟨hs, ?_⟩
  rw [bt_g x i hs]
  have e : (bytesOf x)[i]? = some c := by rw [h, hi]; simp
  rw [bytesOf_data, List.getElem?_map] at e
  unfold g
  rw [List.getD_eq_getElem?_getD]
  cases q : x.data.toList[i]? with
  | none => rw [q] at e; cases e
  | some b => rw [q] at e; simpa using e
/-- the place of a digit, or -1 -/
def nibI (c : Int) : Int := Lib.indexByte (⟨#[48, 49, 50, 51, 52, 53, 54, 55, 56, 57, 97, 98, 99, 100, 101, 102]⟩ : ByteArray).data.toList c.toNat.toUInt8
theorem nibble_eq (c : Int) : text_nibble.f c = some (nibI c % 256, decide (nibI c ≥ 0)) := rfl
theorem nibI_hex (a : Fin 16) : nibI (hexI (a.val : Int)) = a.val := by
  revert a; decide +kernel
theorem nib_hex (a : Int) (h0 : 0 ≤ a) (h1 : a < 16) : text_nibble.f (hexI a) = some (a, true) := by
  have h := nibI_hex ⟨a.toNat, by omega⟩
  simp only at h
  rw [show ((a.toNat : Nat) : Int) = a from by omega] at h
  rw [nibble_eq, h, show a % 256 = a from by omega, decide_eq_true (show a ≥ 0 from h0)]
theorem or_hex (a : Fin 256) : Go.bits .or .u8 (((a.val : Int) / 16 * 16) % 256) ((a.val : Int) % 16) = (a.val : Int) := by
  revert a; decide +kernel
theorem or_hex' (a : Int) (h0 : 0 ≤ a) (h1 : a < 256) : Go.bits .or .u8 ((a / 16 * 16) % 256) (a % 16) = a := by
  have h := or_hex ⟨a.toNat, by omega⟩
  simp only at h
  rwa [show ((a.toNat : Nat) : Int) = a from by omega] at h

/-- the numbers near i, by themselves (no byte in sight: omega would unfold it) -/
theorem nums1 (i n m : Nat) (hi : i < n) (hn : n ≤ 1073741824) (hm : m ≤ i) : ((i : Int) < (n : Int)) = True ∧ (0 ≤ (i : Int)) = True ∧ (m < 140737488355328) = True ∧ wrap64 ((i : Int) + 1) = ((i + 1 : Nat) : Int) ∧ wrap64 ((i : Int) + 2) = ((i + 2 : Nat) : Int) ∧ wrap64 ((i : Int) + 3) = ((i + 3 : Nat) : Int) ∧ wrap64 ((i : Int) + 4) = ((i + 4 : Nat) : Int) ∧ wrap64 (((i + 3 : Nat) : Int) + 1) = ((i + 4 : Nat) : Int) ∧ wrap64 (((i + 1 : Nat) : Int) + 1) = ((i + 2 : Nat) : Int) :=
  ⟨eq_true (by omega), eq_true (by omega), eq_true (by omega), wn i 1 (i + 1) (by omega) (by omega), wn i 2 (i + 2) (by omega) (by omega), wn i 3 (i + 3) (by omega) (by omega), wn i 4 (i + 4) (by omega) (by omega), wn (i + 3) 1 (i + 4) (by omega) (by omega), wn (i + 1) 1 (i + 2) (by omega) (by omega)⟩
theorem nums2 (i n c : Nat) (hi : i + c < n) : (((i + c : Nat) : Int) < (n : Int)) = True ∧ (0 ≤ ((i + c : Nat) : Int)) = True := ⟨eq_true (by omega), eq_true (by omega)⟩
theorem nums3 (i n c : Nat) (hi : ¬ i + c < n) : (((i + c : Nat) : Int) < (n : Int)) = False := eq_false (by omega)

theorem fr_raw (x : ByteArray) (hx : x.size ≤ 1073741824) (acc : List Int) (i : Nat) (c : Int) (hi : i < x.size) (hb : bt x (i : Int) = c) (h1 : c ≠ 34) (h2 : c ≠ 92) (ha : acc.length ≤ i)
    {r : ByteArray × Int × Int} (h : Ev (fun k => text_Front.l0 k x (acc ++ [c]) ((i + 1 : Nat) : Int)) r) : Ev (fun k => text_Front.l0 k x acc (i : Int)) r := by
  have q0 : ((i : Int) < (x.size : Int)) = True := eq_true (by omega)
  have q1 : (0 ≤ (i : Int)) = True := eq_true (by omega)
  have q2 : (c = 34) = False := eq_false h1
  have q3 : (c = 92) = False := eq_false h2
  have q4 : (acc.length < 140737488355328) = True := eq_true (by omega)
  have w1 := wn i 1 (i + 1) (by omega) (by omega)
  refine Ev.step (fun k => ?_) h
  rw [text_Front.l0]
  simp only [q0, q1, q2, q3, q4, w1, hb, if_true, if_false]
theorem fr_esc (x : ByteArray) (hx : x.size ≤ 1073741824) (acc : List Int) (i : Nat) (c : Int) (hi : i + 1 < x.size) (hb : bt x (i : Int) = 92) (hc : bt x ((i + 1 : Nat) : Int) = c) (h1 : c ≠ 120) (ha : acc.length ≤ i)
    {r : ByteArray × Int × Int} (h : Ev (fun k => text_Front.l0 k x (acc ++ [c]) ((i + 2 : Nat) : Int)) r) : Ev (fun k => text_Front.l0 k x acc (i : Int)) r := by
  have q0 : ((i : Int) < (x.size : Int)) = True := eq_true (by omega)
  have q1 : (0 ≤ (i : Int)) = True := eq_true (by omega)
  have q5 : (((i + 1 : Nat) : Int) < (x.size : Int)) = True := eq_true (by omega)
  have q6 : (0 ≤ ((i + 1 : Nat) : Int)) = True := eq_true (by omega)
  have q4 : (acc.length < 140737488355328) = True := eq_true (by omega)
  have w1 := wn i 1 (i + 1) (by omega) (by omega)
  have w2 := wn (i + 1) 1 (i + 2) (by omega) (by omega)
  have e : (c == 120) = false := beq_eq_false_iff_ne.mpr h1
  have hj : Ev (fun k => text_Front.j2 k x acc (i : Int) false) r := by
    refine Ev.step (fun k => ?_) h
    rw [text_Front.j2]
    simp only [q4, q5, q6, w1, w2, hc, if_true, if_false, Bool.false_eq_true]
  refine Ev.step (fun k => ?_) hj
  rw [text_Front.l0]
  simp only [q0, q1, q5, q6, w1, hb, hc, e, if_true, if_false, show ((92 : Int) = 34) = False from by simp]
  split <;> rfl
theorem fr_hex (x : ByteArray) (hx : x.size ≤ 1073741824) (acc : List Int) (i : Nat) (a : Int) (hi : i + 3 < x.size) (hb : bt x (i : Int) = 92) (hc : bt x ((i + 1 : Nat) : Int) = 120)
    (hd : bt x ((i + 2 : Nat) : Int) = hexI (a / 16)) (he : bt x ((i + 3 : Nat) : Int) = hexI (a % 16)) (h1 : 0 ≤ a) (h2 : a < 256) (ha : acc.length ≤ i)
    {r : ByteArray × Int × Int} (h : Ev (fun k => text_Front.l0 k x (acc ++ [a]) ((i + 4 : Nat) : Int)) r) : Ev (fun k => text_Front.l0 k x acc (i : Int)) r := by
  obtain ⟨q0, q1, q4, w1, w2, w3, _, w4, w5⟩ := nums1 i x.size acc.length (Nat.lt_of_le_of_lt (Nat.le_add_right i 3) hi) hx ha
  obtain ⟨q5, q6⟩ := nums2 i x.size 1 (Nat.lt_of_le_of_lt (Nat.add_le_add_left (by decide) i) hi)
  obtain ⟨q7, q8⟩ := nums2 i x.size 2 (Nat.lt_of_le_of_lt (Nat.add_le_add_left (by decide) i) hi)
  obtain ⟨q9, q10⟩ := nums2 i x.size 3 hi
  have k1 : 0 ≤ a / 16 ∧ a / 16 < 16 ∧ 0 ≤ a % 16 ∧ a % 16 < 16 := by clear hb hc hd he h; omega
  have n1 := nib_hex (a / 16) k1.1 k1.2.1
  have n2 := nib_hex (a % 16) k1.2.2.1 k1.2.2.2
  have o := or_hex' a h1 h2
  have hj : Ev (fun k => text_Front.j2 k x acc (i : Int) true) r := by
    refine Ev.step (fun k => ?_) h
    rw [text_Front.j2]
    simp only [q4, q7, q8, q9, q10, w2, w3, w4, hd, he, n1, n2, o, if_true, Option.bind_some]
  refine Ev.step (fun k => ?_) hj
  rw [text_Front.l0]
  simp only [q0, q1, q5, q6, q9, w1, w3, hb, hc, if_true, if_false, show ((92 : Int) = 34) = False from by simp, show ((120 : Int) == 120) = true from rfl]
theorem fr_sim (x : ByteArray) (hx : x.size ≤ 1073741824) {q b : List Int} (hcd : Cd q b) : ∀ (pre rest : List Int) (i : Nat) (acc : List Int), bytesOf x = pre ++ (q ++ 34 :: rest) → i = pre.length → acc.length ≤ i →
    ∀ {r : ByteArray × Int × Int}, Ev (fun k => text_Front.l0 k x (acc ++ b) ((i + q.length : Nat) : Int)) r → Ev (fun k => text_Front.l0 k x acc (i : Int)) r := by
  induction hcd with
  | nil => intro pre rest i acc _ _ _ r h; simpa using h
  | raw c q b h1 h2 _ ih =>
    intro pre rest i acc hl hi ha r h
    obtain ⟨p1, p2⟩ := bt_list x i pre (q ++ 34 :: rest) c hl hi
    refine fr_raw x hx acc i c p1 p2 h1 h2 ha ?_
    refine ih (pre ++ [c]) rest (i + 1) (acc ++ [c]) (by rw [hl]; simp) (by simp; omega) (by simp; omega) ?_
    rw [List.append_assoc, show i + 1 + q.length = i + (c :: q).length from by simp; omega]
    exact h
  | esc c q b h1 _ ih =>
    intro pre rest i acc hl hi ha r h
    obtain ⟨p1, p2⟩ := bt_list x i pre (c :: q ++ 34 :: rest) 92 hl hi
    obtain ⟨p3, p4⟩ := bt_list x (i + 1) (pre ++ [92]) (q ++ 34 :: rest) c (by rw [hl]; simp) (by simp; omega)
    refine fr_esc x hx acc i c p3 p2 p4 (by omega) ha ?_
    refine ih (pre ++ [92, c]) rest (i + 2) (acc ++ [c]) (by rw [hl]; simp) (by simp; omega) (by simp; omega) ?_
    rw [List.append_assoc, show i + 2 + q.length = i + (92 :: c :: q).length from by simp; omega]
    exact h
  | hex a q b h1 h2 _ ih =>
    intro pre rest i acc hl hi ha r h
    obtain ⟨p1, p2⟩ := bt_list x i pre (120 :: hexI (a / 16) :: hexI (a % 16) :: q ++ 34 :: rest) 92 hl hi
    obtain ⟨p3, p4⟩ := bt_list x (i + 1) (pre ++ [92]) (hexI (a / 16) :: hexI (a % 16) :: q ++ 34 :: rest) 120 (by rw [hl]; simp) (by simp; omega)
    obtain ⟨p5, p6⟩ := bt_list x (i + 2) (pre ++ [92, 120]) (hexI (a % 16) :: q ++ 34 :: rest) (hexI (a / 16)) (by rw [hl]; simp) (by simp; omega)
    obtain ⟨p7, p8⟩ := bt_list x (i + 3) (pre ++ [92, 120, hexI (a / 16)]) (q ++ 34 :: rest) (hexI (a % 16)) (by rw [hl]; simp) (by simp; omega)
    refine fr_hex x hx acc i a p7 p2 p4 p6 p8 h1 h2 ha ?_
    refine ih (pre ++ [92, 120, hexI (a / 16), hexI (a % 16)]) rest (i + 4) (acc ++ [a]) (by rw [hl]; simp) (by simp; omega) (by simp; omega) ?_
    rw [List.append_assoc, show i + 4 + q.length = i + (92 :: 120 :: hexI (a / 16) :: hexI (a % 16) :: q).length from by simp; omega]
    exact h
/-- what Front answers: a text whose quoted form stands at the front, or the fault -/
def Good (x : ByteArray) (r : ByteArray × Int × Int) : Prop :=
  r = ((⟨#[]⟩ : ByteArray), 0, 4) ∨ ∃ (t : ByteArray) (n : Nat), r = (t, (n : Int), 0) ∧ n ≤ x.size ∧ quoteB t = x.extract 0 n ∧ t.size ≤ x.size
theorem fr_end (x : ByteArray) (hx : x.size ≤ 1073741824) (acc : List Int) (i : Nat) (hi : i < x.size) (hb : bt x (i : Int) = 34) (ha : acc.length ≤ i) :
    Ev (fun k => text_Front.l0 k x acc (i : Int)) (if quoteB (strOfNums acc) = x.extract 0 (i + 1) then (strOfNums acc, ((i + 1 : Nat) : Int), 0) else ((⟨#[]⟩ : ByteArray), 0, 4)) := by
  have q0 : ((i : Int) < (x.size : Int)) = True := eq_true (by omega)
  have q1 : (0 ≤ (i : Int)) = True := eq_true (by omega)
  have q6 : (0 ≤ ((i + 1 : Nat) : Int)) = True := eq_true (by omega)
  have q7 : (((i + 1 : Nat) : Int) ≤ (x.size : Int)) = True := eq_true (by omega)
  have w1 := wn i 1 (i + 1) (by omega) (by omega)
  have hq : text_Quote.f (strOfNums acc) = some (quoteB (strOfNums acc)) := by
    unfold text_Quote.f; rw [if_pos (by unfold small; rw [strOfNums_size]; omega)]
  have tn : (((i + 1 : Nat) : Int)).toNat = i + 1 := by omega
  refine Ev.step (fun k => ?_) (Ev.now _)
  rw [text_Front.l0]
  simp only [q0, q1, q6, q7, w1, hb, hq, tn, tl_inj, if_true, Option.bind_some]
  split <;> rfl
theorem fr_out (x : ByteArray) (i : Nat) (acc : List Int) (hi : ¬ i < x.size) : ∃ r, Ev (fun k => text_Front.l0 k x acc (i : Int)) r ∧ Good x r := by
  refine ⟨_, Ev.step (fun k => ?_) (Ev.now _), Or.inl rfl⟩
  rw [text_Front.l0, if_neg (by omega)]
theorem fr_mid (x : ByteArray) (hx : x.size ≤ 1073741824) (i : Nat) (acc : List Int) (hi : i < x.size) (ha : acc.length ≤ i)
    (ih : ∀ acc' : List Int, acc'.length ≤ i + 2 → i + 1 < x.size → ∃ r, Ev (fun k => text_Front.l0 k x acc' ((i + 2 : Nat) : Int)) r ∧ Good x r) :
    ∃ r, Ev (fun k => text_Front.j2 k x acc (i : Int) false) r ∧ Good x r := by
  obtain ⟨q0, q1, q4, w1, w2, w3, _, w4, w5⟩ := nums1 i x.size acc.length hi hx ha
  by_cases h1 : i + 1 < x.size
  · obtain ⟨q5, q6⟩ := nums2 i x.size 1 h1
    obtain ⟨r, hr, hg⟩ := ih (acc ++ [bt x ((i + 1 : Nat) : Int)]) (by rw [List.length_append]; exact Nat.le_trans (Nat.add_le_add_right ha 1) (Nat.le_succ _)) h1
    refine ⟨r, Ev.step (fun k => ?_) hr, hg⟩
    rw [text_Front.j2]
    simp only [q4, q5, q6, w1, w5, if_true, if_false, Bool.false_eq_true]
  · have q5 := nums3 i x.size 1 h1
    obtain ⟨r, hr, hg⟩ := fr_out x (i + 1) acc h1
    refine ⟨r, Ev.step (fun k => ?_) hr, hg⟩
    rw [text_Front.j2]
    simp only [q5, w1, if_false, Bool.false_eq_true]
theorem fr_two (x : ByteArray) (hx : x.size ≤ 1073741824) (i : Nat) (acc : List Int) (hi : i + 3 < x.size) (ha : acc.length ≤ i)
    (ih : ∀ acc' : List Int, acc'.length ≤ i + 4 → ∃ r, Ev (fun k => text_Front.l0 k x acc' ((i + 4 : Nat) : Int)) r ∧ Good x r) :
    ∃ r, Ev (fun k => text_Front.j2 k x acc (i : Int) true) r ∧ Good x r := by
  obtain ⟨q0, q1, q4, w1, w2, w3, _, w4, w5⟩ := nums1 i x.size acc.length (Nat.lt_of_le_of_lt (Nat.le_add_right i 3) hi) hx ha
  obtain ⟨q7, q8⟩ := nums2 i x.size 2 (Nat.lt_of_le_of_lt (Nat.add_le_add_left (by decide) i) hi)
  obtain ⟨q9, q10⟩ := nums2 i x.size 3 hi
  by_cases d1 : nibI (bt x ((i + 2 : Nat) : Int)) ≥ 0
  · by_cases d2 : nibI (bt x ((i + 3 : Nat) : Int)) ≥ 0
    · obtain ⟨r, hr, hg⟩ := ih (acc ++ [Go.bits .or .u8 (((nibI (bt x ((i + 2 : Nat) : Int)) % 256) * 16) % 256) (nibI (bt x ((i + 3 : Nat) : Int)) % 256)]) (by rw [List.length_append]; exact Nat.le_trans (Nat.add_le_add_right ha 1) (Nat.add_le_add_left (by decide) i))
      refine ⟨r, Ev.step (fun k => ?_) hr, hg⟩
      rw [text_Front.j2]
      simp only [q4, q7, q8, q9, q10, w2, w3, w4, nibble_eq, decide_eq_true d1, decide_eq_true d2, if_true, Option.bind_some]
    · refine ⟨_, Ev.step (fun k => ?_) (Ev.now _), Or.inl rfl⟩
      rw [text_Front.j2]
      simp only [q4, q7, q8, q9, q10, w2, w3, w4, nibble_eq, decide_eq_true d1, decide_eq_false d2, if_true, if_false, Bool.false_eq_true, Option.bind_some]
  · refine ⟨_, Ev.step (fun k => ?_) (Ev.now _), Or.inl rfl⟩
    rw [text_Front.j2]
    simp only [q4, q7, q8, q9, q10, w2, w3, w4, nibble_eq, decide_eq_false d1, if_true, if_false, Bool.false_eq_true, Option.bind_some]
theorem fr_back (x : ByteArray) (hx : x.size ≤ 1073741824) (i : Nat) (acc : List Int) (hi : i < x.size) (ha : acc.length ≤ i) (hb : bt x (i : Int) = 92)
    (mid : ∃ r, Ev (fun k => text_Front.j2 k x acc (i : Int) false) r ∧ Good x r) (two : i + 3 < x.size → ∃ r, Ev (fun k => text_Front.j2 k x acc (i : Int) true) r ∧ Good x r) :
    ∃ r, Ev (fun k => text_Front.l0 k x acc (i : Int)) r ∧ Good x r := by
  obtain ⟨q0, q1, q4, w1, w2, w3, _, w4, w5⟩ := nums1 i x.size acc.length hi hx ha
  have q92 : ((92 : Int) = 34) = False := by simp
  by_cases h3 : i + 3 < x.size
  · obtain ⟨q5, q6⟩ := nums2 i x.size 1 (Nat.lt_of_le_of_lt (Nat.add_le_add_left (by decide) i) h3)
    obtain ⟨q9, q10⟩ := nums2 i x.size 3 h3
    by_cases hc : bt x ((i + 1 : Nat) : Int) = 120
    · obtain ⟨r, hr, hg⟩ := two h3
      refine ⟨r, Ev.step (fun k => ?_) hr, hg⟩
      rw [text_Front.l0]
      simp only [q0, q1, q5, q6, q9, w1, w3, hb, hc, q92, if_true, if_false, show ((120 : Int) == 120) = true from rfl]
    · obtain ⟨r, hr, hg⟩ := mid
      refine ⟨r, Ev.step (fun k => ?_) hr, hg⟩
      rw [text_Front.l0]
      simp only [q0, q1, q5, q6, q9, w1, w3, hb, q92, beq_eq_false_iff_ne.mpr hc, if_true, if_false]
  · have q9 := nums3 i x.size 3 h3
    obtain ⟨r, hr, hg⟩ := mid
    refine ⟨r, Ev.step (fun k => ?_) hr, hg⟩
    rw [text_Front.l0]
    simp only [q0, q1, q9, w1, w3, hb, q92, if_true, if_false]
theorem fr_total (x : ByteArray) (hx : x.size ≤ 1073741824) (d : Nat) : ∀ (i : Nat) (acc : List Int), x.size - i ≤ d → acc.length ≤ i → i ≤ x.size → ∃ r, Ev (fun k => text_Front.l0 k x acc (i : Int)) r ∧ Good x r := by
  induction d with
  | zero => intro i acc hd _ _; exact fr_out x i acc (by omega)
  | succ d ih =>
    intro i acc hd ha hle
    by_cases hi : i < x.size
    · have ih1 : ∀ c, ∃ r, Ev (fun k => text_Front.l0 k x (acc ++ [c]) ((i + 1 : Nat) : Int)) r ∧ Good x r := fun c => ih (i + 1) _ (by omega) (by simp; omega) (by omega)
      have ih2 : ∀ acc' : List Int, acc'.length ≤ i + 2 → i + 1 < x.size → ∃ r, Ev (fun k => text_Front.l0 k x acc' ((i + 2 : Nat) : Int)) r ∧ Good x r := fun acc' hl hs => ih (i + 2) acc' (by omega) hl (by omega)
      have ih4 : i + 3 < x.size → ∀ acc' : List Int, acc'.length ≤ i + 4 → ∃ r, Ev (fun k => text_Front.l0 k x acc' ((i + 4 : Nat) : Int)) r ∧ Good x r := fun hs acc' hl => ih (i + 4) acc' (by omega) hl (by omega)
      have hsz : i + 1 ≤ x.size := hi
      have hsl : (strOfNums acc).size ≤ x.size := by rw [strOfNums_size]; omega
      generalize hb : bt x (i : Int) = c
      by_cases c1 : c = 34
      · subst c1
        refine ⟨_, fr_end x hx acc i hi hb ha, ?_⟩
        split
        · rename_i he
          exact Or.inr ⟨_, i + 1, rfl, hsz, he, hsl⟩
        · exact Or.inl rfl
      · by_cases c2 : c = 92
        · subst c2
          exact fr_back x hx i acc hi ha hb (fr_mid x hx i acc hi ha ih2) (fun h3 => fr_two x hx i acc h3 ha (ih4 h3))
        · obtain ⟨r, hr, hg⟩ := ih1 c
          exact ⟨r, fr_raw x hx acc i c hi hb c1 c2 ha hr, hg⟩
    · exact fr_out x i acc hi
theorem front_total (x : ByteArray) (hx : x.size ≤ 1073741824) : ∃ r, Ev (fun k => text_Front.f k x) r ∧ Good x r := by
  by_cases h0 : x.toList = ([] : List UInt8)
  · refine ⟨_, Ev.step (g := fun k => text_Front.f k x) (fun k => ?_) (Ev.now _), Or.inl rfl⟩
    rw [text_Front.f, if_pos h0, text_Front.j0, if_pos rfl]
  · have hs : 0 < x.size := by
      rw [← bytes_length]
      rw [Lib.toList_data] at h0
      exact List.length_pos_iff.2 h0
    have q0 : (0 < (x.size : Int)) = True := eq_true (by omega)
    by_cases hb : bt x 0 = 34
    · obtain ⟨r, hr, hg⟩ := fr_total x hx x.size 1 [] (by omega) (by simp) (by omega)
      refine ⟨r, Ev.step (g := fun k => text_Front.f k x) (fun k => ?_) hr, hg⟩
      rw [text_Front.f, if_neg h0]
      simp only [q0, hb, if_true]
      rw [text_Front.j0, if_neg (by decide)]
      rfl
    · refine ⟨_, Ev.step (g := fun k => text_Front.f k x) (fun k => ?_) (Ev.now _), Or.inl rfl⟩
      rw [text_Front.f, if_neg h0]
      simp only [q0, if_true]
      rw [text_Front.j0, if_pos (bne_iff_ne.mpr hb)]
/-- THE PROGRAM'S FRONT READS A QUOTED TEXT BACK. -/
theorem front_back (x t : ByteArray) (n : Nat) (hx : x.size ≤ 1073741824) (hn : n ≤ x.size) (h : quoteB t = x.extract 0 n) :
    Ev (fun k => text_Front.f k x) (t, (n : Int), 0) := by
  obtain ⟨rest, hl⟩ : ∃ rest, bytesOf x = bytesOf (quoteB t) ++ rest := by
    refine ⟨(bytesOf x).drop n, ?_⟩
    rw [h, bytesOf_data (x.extract 0 n), Lib.extract_data, bytesOf_data]
    rw [Nat.sub_zero, List.drop_zero, List.map_take, List.take_append_drop]
  have hn2 : n = (quoteB t).size := by rw [h, ByteArray.size_extract]; omega
  have hq := quoteB_bytes t
  have hl2 : bytesOf x = [34] ++ (shownAll 34 t (runes t.data.toList) ++ 34 :: rest) := by rw [hl, hq]; simp
  have hn3 : n = (shownAll 34 t (runes t.data.toList)).length + 2 := by rw [hn2, ← bytesOf_length, hq]; simp
  obtain ⟨b1, b2⟩ := bt_list x 0 [] (shownAll 34 t (runes t.data.toList) ++ 34 :: rest) 34 hl2 rfl
  obtain ⟨b3, b4⟩ := bt_list x (1 + (shownAll 34 t (runes t.data.toList)).length) ([34] ++ shownAll 34 t (runes t.data.toList)) rest 34 (by rw [hl2]; simp) (by simp; omega)
  have hlen : (bytesOf t).length ≤ (shownAll 34 t (runes t.data.toList)).length := by
    have hc := quote_coded t
    generalize shownAll 34 t (runes t.data.toList) = q at hc ⊢
    generalize bytesOf t = b at hc ⊢
    induction hc with
    | nil => simp
    | raw c q b _ _ _ ih => simp; exact ih
    | esc c q b _ _ ih => simp; omega
    | hex a q b _ _ _ ih => simp; omega
  have he := fr_end x hx (bytesOf t) _ b3 b4 (by omega)
  rw [strOfNums_bytesOf, if_pos (by rw [h, show 1 + (shownAll 34 t (runes t.data.toList)).length + 1 = n from by omega]), show 1 + (shownAll 34 t (runes t.data.toList)).length + 1 = n from by omega] at he
  have hr := fr_sim x hx (quote_coded t) [34] rest 1 [] hl2 rfl (by simp) (r := (t, (n : Int), 0)) he
  have h0 : ¬ x.toList = ([] : List UInt8) := by
    intro h0
    rw [Lib.toList_data] at h0
    have := bytes_length x
    rw [h0] at this
    simp at this; omega
  have q0 : (0 < (x.size : Int)) = True := eq_true (by omega)
  have b2' : bt x 0 = 34 := b2
  refine Ev.step (g := fun k => text_Front.f k x) (fun k => ?_) hr
  rw [text_Front.f, if_neg h0]
  simp only [q0, b2', if_true]
  rw [text_Front.j0, if_neg (by decide)]
  rfl
theorem extract_all (x : ByteArray) : x.extract 0 x.size = x := by
  apply ByteArray.ext
  apply Array.toList_inj.1
  rw [Lib.extract_data, Nat.sub_zero, List.drop_zero, ← bytes_length, List.take_length]
theorem quoteB_pos (t : ByteArray) : 2 ≤ (quoteB t).size := by
  rw [← bytesOf_length, quoteB_bytes]; simp
/-- what Unquote answers -/
def GoodU (y : ByteArray) (r : ByteArray × Int) : Prop := r = ((⟨#[]⟩ : ByteArray), 4) ∨ ∃ t : ByteArray, r = (t, 0) ∧ quoteB t = y ∧ t.size ≤ y.size
theorem unquote_of (x : ByteArray) (r : ByteArray × Int × Int) (hr : Ev (fun k => text_Front.f k x) r) :
    Ev (fun k => text_Unquote.f k x) (if r.2.2 = 0 then (if r.2.1 = (x.size : Int) then (r.1, 0) else ((⟨#[]⟩ : ByteArray), 4)) else ((⟨#[]⟩ : ByteArray), 4)) := by
  show Ev (fun k => (text_Front.f k x).bind fun bt173 => (if bt173.2.2 = 0 then (if bt173.2.1 = (x.size : Int) then (some (bt173.1, (0 : Int))) else (some ((⟨#[]⟩ : ByteArray), 4))) else (some ((⟨#[]⟩ : ByteArray), 4)))) _
  refine Ev.bind hr (f := fun _ bt173 => if bt173.2.2 = 0 then (if bt173.2.1 = (x.size : Int) then (some (bt173.1, (0 : Int))) else (some ((⟨#[]⟩ : ByteArray), 4))) else (some ((⟨#[]⟩ : ByteArray), 4))) (Ev.congr (fun k => ?_) (Ev.now _))
  split
  · split <;> rfl
  · rfl
theorem unquote_total (x : ByteArray) (hx : x.size ≤ 1073741824) : ∃ r, Ev (fun k => text_Unquote.f k x) r ∧ GoodU x r := by
  obtain ⟨r, hr, hg⟩ := front_total x hx
  refine ⟨_, unquote_of x r hr, ?_⟩
  rcases hg with rfl | ⟨t, n, rfl, hn, ht, hts⟩
  · exact Or.inl rfl
  · by_cases hnx : n = x.size
    · subst hnx
      rw [extract_all] at ht
      right
      refine ⟨t, ?_, ht, hts⟩
      rw [if_pos rfl, if_pos rfl]
    · left
      rw [if_pos rfl, if_neg (show ¬ ((n : Nat) : Int) = (x.size : Int) from by omega)]
theorem unquote_back (x t : ByteArray) (hx : x.size ≤ 1073741824) (h : quoteB t = x) : Ev (fun k => text_Unquote.f k x) (t, 0) := by
  have h1 := unquote_of x _ (front_back x t x.size hx (Nat.le_refl _) (by rw [extract_all]; exact h))
  rwa [if_pos rfl, if_pos rfl] at h1

/-! ### What is shown is runes of its own, and tells texts apart -/
def encI (r : Nat) : List Int := (enc r).map (fun b => ((b.toNat : Nat) : Int))
/-- runes that are shown by themselves -/
def Fine (R : List Nat) : Prop := ∀ r ∈ R, may r = true ∧ 32 ≤ r ∧ r ≠ 127
theorem encI_low (r : Nat) (h : r < 128) : encI r = [(r : Int)] := by
  unfold encI enc
  rw [if_pos (by omega), List.map_cons, List.map_nil, ofN (by omega)]
theorem may_low (r : Nat) (h : r < 128) : may r = true := by unfold may; simp; omega
theorem hexI_nat (n : Int) (h0 : 0 ≤ n) (h1 : n < 16) : ∃ r : Nat, hexI n = (r : Int) ∧ 32 ≤ r ∧ r < 127 := by
  unfold hexI
  split
  · exact ⟨(48 + n).toNat, by omega, by omega, by omega⟩
  · exact ⟨(87 + n).toNat, by omega, by omega, by omega⟩
theorem piece_fine (q : Int) (hq : q = 34 ∨ q = 92) (p : Piece) (h : okPiece p) : ∃ R, Fine R ∧ shP q p = R.flatMap encI := by
  rcases piece_cases p h with ⟨b, hb, hr⟩ | ⟨r, h1, h2, h3, h4, h5⟩
  · have hN := hexN b
    obtain ⟨x, hx, x1, x2⟩ := hexI_nat (((b.toNat : Nat) : Int) / 16) (by omega) (by omega)
    obtain ⟨y, hy, y1, y2⟩ := hexI_nat (((b.toNat : Nat) : Int) % 16) (by omega) (by omega)
    refine ⟨[92, 120, x, y], ?_, ?_⟩
    · intro r hr
      simp only [List.mem_cons, List.not_mem_nil, or_false] at hr
      rcases hr with rfl | rfl | rfl | rfl
      · exact ⟨may_low _ (by omega), by omega, by omega⟩
      · exact ⟨may_low _ (by omega), by omega, by omega⟩
      · exact ⟨may_low _ (by omega), by omega, by omega⟩
      · exact ⟨may_low _ (by omega), by omega, by omega⟩
    · rw [shP_hex q p b hb hr, hx, hy]
      simp only [List.flatMap_cons, List.flatMap_nil, List.append_nil]
      rw [encI_low 92 (by omega), encI_low 120 (by omega), encI_low x (by omega), encI_low y (by omega)]
      rfl
  · rw [shP_rune q p r h1 h2 h3 h4 h5]
    split
    · rename_i hc
      refine ⟨[92, r], ?_, ?_⟩
      · intro r' hr'
        simp only [List.mem_cons, List.not_mem_nil, or_false] at hr'
        rcases hr' with rfl | rfl
        · exact ⟨may_low _ (by omega), by omega, by omega⟩
        · exact ⟨h2, h4, h5⟩
      · simp only [List.flatMap_cons, List.flatMap_nil, List.append_nil]
        rw [encI_low 92 (by omega), encI_low r (by omega), show (r : Int) % 256 = (r : Int) from by omega]
        rfl
    · refine ⟨[r], ?_, ?_⟩
      · intro r' hr'
        simp only [List.mem_cons, List.not_mem_nil, or_false] at hr'
        subst hr'
        exact ⟨h2, h4, h5⟩
      · rw [h3]; simp [encI]
theorem shown_fine (q : Int) (hq : q = 34 ∨ q = 92) (s : ByteArray) : ∃ R, Fine R ∧ shownAll q s (runes s.data.toList) = R.flatMap encI := by
  rw [shown_all]
  have hok := pieces_ok s.data.toList
  generalize pieces s.data.toList = ps at hok ⊢
  induction ps with
  | nil => exact ⟨[], (fun _ h => by cases h), rfl⟩
  | cons p t ih =>
    obtain ⟨R, hR, e⟩ := ih (fun q hq => hok q (by simp [hq]))
    obtain ⟨R', hR', e'⟩ := piece_fine q hq p (hok p (by simp))
    refine ⟨R' ++ R, fun r hr => ?_, by rw [List.flatMap_cons, List.flatMap_append, e, e']⟩
    rcases List.mem_append.1 hr with h | h
    · exact hR' r h
    · exact hR r h
theorem ints_enc (R : List Nat) : strOfNums (R.flatMap encI) = ⟨(R.flatMap enc).toArray⟩ := by
  apply ByteArray.ext
  apply Array.toList_inj.1
  rw [strOfNums_data]
  show _ = R.flatMap enc
  induction R with
  | nil => rfl
  | cons r R ih =>
    rw [List.flatMap_cons, List.flatMap_cons, List.map_append, ih]
    congr 1
    unfold encI
    rw [List.map_map]
    conv => rhs; rw [← List.map_id (enc r)]
    refine List.map_congr_left (fun b _ => ?_)
    show UInt8.ofNat (((b.toNat : Nat) : Int)).toNat = b
    simp
theorem pieces_enc (R : List Nat) (h : ∀ r ∈ R, may r = true) : pieces (R.flatMap enc) = R.map (fun r => (some r, enc r)) := by
  induction R with
  | nil => rfl
  | cons r R ih =>
    rw [List.flatMap_cons, pieces_cons _ (by have := enc_ne r; simp [this]), take1_enc r _ (h r (by simp))]
    simp only [List.take_left, List.drop_left, List.map_cons]
    rw [ih (fun x hx => h x (by simp [hx]))]
theorem runesFrom_mem (ps : List Piece) : ∀ i x, x ∈ runesFrom i ps → ∃ p ∈ ps, x.2 = rn p.1 := by
  induction ps with
  | nil => intro i x hx; cases hx
  | cons p t ih =>
    intro i x hx
    rcases List.mem_cons.1 hx with rfl | hx
    · exact ⟨p, by simp, rfl⟩
    · obtain ⟨p', hp', e⟩ := ih _ x hx
      exact ⟨p', by simp [hp'], e⟩
theorem runes_fine (R : List Nat) (hR : Fine R) : ∀ x ∈ runes (R.flatMap enc), 32 ≤ x.2 ∧ x.2 ≠ 127 := by
  intro x hx
  unfold runes at hx
  rw [pieces_enc R (fun r hr => (hR r hr).1)] at hx
  obtain ⟨p, hp, e⟩ := runesFrom_mem _ _ x hx
  obtain ⟨r, hr, rfl⟩ := List.mem_map.1 hp
  have := hR r hr
  rw [e]
  show 32 ≤ (r : Int) ∧ (r : Int) ≠ 127
  omega
/-- WHAT IS SHOWN HAS NO RUNE BELOW 32, NOR 127, NOR A BREAK. -/
theorem show_runes (s : ByteArray) : ∀ x ∈ runes (showB s).data.toList, 32 ≤ x.2 ∧ x.2 ≠ 127 := by
  obtain ⟨R, hR, e⟩ := shown_fine 92 (Or.inr rfl) s
  unfold showB
  rw [e, ints_enc]
  exact runes_fine R hR
theorem quote_runes (s : ByteArray) : ∀ x ∈ runes (quoteB s).data.toList, 32 ≤ x.2 ∧ x.2 ≠ 127 := by
  obtain ⟨R, hR, e⟩ := shown_fine 34 (Or.inl rfl) s
  have e2 : (34 :: R.flatMap encI ++ [34]) = (34 :: R ++ [34]).flatMap encI := by
    rw [List.flatMap_append, List.flatMap_cons, List.flatMap_cons, List.flatMap_nil, List.append_nil, encI_low 34 (by omega)]; rfl
  unfold quoteB
  rw [e, e2, ints_enc]
  refine runes_fine _ (fun r hr => ?_)
  simp only [List.cons_append, List.mem_cons, List.mem_append, List.not_mem_nil, or_false] at hr
  rcases hr with rfl | hr | rfl
  · exact ⟨may_low _ (by omega), by omega, by omega⟩
  · exact hR r hr
  · exact ⟨may_low _ (by omega), by omega, by omega⟩
theorem breaks_quote (s : ByteArray) : breaksI (quoteB s) = [] := by
  unfold breaksI breaksAll
  rw [List.flatMap_eq_nil_iff]
  intro x hx
  have := quote_runes s x hx
  rw [if_neg (by omega)]

/-- the shown form of bytes -/
inductive Ce : List Int → List Int → Prop
  | nil : Ce [] []
  | raw (c : Int) (q b : List Int) : c ≠ 92 → Ce q b → Ce (c :: q) (c :: b)
  | esc (q b : List Int) : Ce q b → Ce (92 :: 92 :: q) (92 :: b)
  | hex (a : Int) (q b : List Int) : 0 ≤ a → a < 256 → Ce q b → Ce (92 :: 120 :: hexI (a / 16) :: hexI (a % 16) :: q) (a :: b)
theorem Ce.append {q b q' b' : List Int} (h : Ce q b) (h' : Ce q' b') : Ce (q ++ q') (b ++ b') := by
  induction h with
  | nil => exact h'
  | raw c q b h1 _ ih => exact .raw c _ _ h1 ih
  | esc q b _ ih => exact .esc _ _ ih
  | hex a q b h1 h2 _ ih => exact .hex a _ _ h1 h2 ih
theorem Ce.raws (l : List Int) (h : ∀ c ∈ l, c ≠ 92) : Ce l l := by
  induction l with
  | nil => exact .nil
  | cons c l ih => exact .raw c _ _ (h c (by simp)) (ih (fun d hd => h d (by simp [hd])))
theorem hexI_inj (a b : Int) (a0 : 0 ≤ a) (a1 : a < 16) (b0 : 0 ≤ b) (b1 : b < 16) (h : hexI a = hexI b) : a = b := by
  unfold hexI at h
  split at h <;> split at h <;> omega
theorem Ce.one {q b b' : List Int} (h : Ce q b) (h' : Ce q b') : b = b' := by
  induction h generalizing b' with
  | nil => cases h'; rfl
  | raw c q b h1 _ ih =>
    cases h' with
    | raw _ _ b2 _ h2 => rw [ih h2]
    | esc _ b2 h2 => exact absurd rfl h1
    | hex a _ b2 _ _ h2 => exact absurd rfl h1
  | esc q b _ ih =>
    cases h' with
    | raw _ _ b2 h2 _ => exact absurd rfl h2
    | esc _ b2 h2 => rw [ih h2]
  | hex a q b h1 h2 _ ih =>
    generalize hX : hexI (a / 16) = X at h'
    generalize hY : hexI (a % 16) = Y at h'
    cases h' with
    | raw _ _ b2 h2 _ => exact absurd rfl h2
    | hex a' _ b2 k1 k2 k3 =>
      have e1 := hexI_inj (a / 16) (a' / 16) (by omega) (by omega) (by omega) (by omega) hX
      have e2 := hexI_inj (a % 16) (a' % 16) (by omega) (by omega) (by omega) (by omega) hY
      rw [ih k3, show a = a' from by omega]
theorem piece_shown (p : Piece) (h : okPiece p) : Ce (shP 92 p) (p.2.map (fun b => ((b.toNat : Nat) : Int))) := by
  rcases piece_cases p h with ⟨b, hb, hr⟩ | ⟨r, h1, h2, h3, h4, h5⟩
  · rw [shP_hex 92 p b hb hr, hb]
    exact .hex _ _ _ (hexN b).1 (hexN b).2 .nil
  · rw [shP_rune 92 p r h1 h2 h3 h4 h5]
    split
    · rename_i h92
      obtain rfl : r = 92 := by omega
      rw [h3]
      exact .esc _ _ .nil
    · rename_i h92
      rw [h3]
      refine .raws _ (fun c hc => ?_)
      by_cases h34 : r = 34
      · subst h34
        have : c = 34 := by simpa [enc, ofN] using hc
        omega
      · exact (enc_plain r h34 (by omega) (may_le h2) c hc).2
theorem show_coded (s : ByteArray) : Ce (shownAll 92 s (runes s.data.toList)) (bytesOf s) := by
  rw [shown_all, bytesOf_data]
  conv => rhs; rw [← pieces_flat s.data.toList]
  have hok := pieces_ok s.data.toList
  generalize pieces s.data.toList = ps at hok ⊢
  induction ps with
  | nil => exact .nil
  | cons p t ih =>
    rw [List.flatMap_cons, List.flatMap_cons, List.map_append]
    exact (piece_shown p (hok p (by simp))).append (ih (fun q hq => hok q (by simp [hq])))
theorem encI_bd (r : Nat) : ∀ x ∈ encI r, 0 ≤ x ∧ x < 256 := by
  intro x hx
  obtain ⟨b, _, rfl⟩ := List.mem_map.1 hx
  exact hexN b
theorem show_bytes (s : ByteArray) : bytesOf (showB s) = shownAll 92 s (runes s.data.toList) := by
  obtain ⟨R, hR, e⟩ := shown_fine 92 (Or.inr rfl) s
  unfold showB
  refine bytesOf_strOfNums _ (fun x hx => ?_)
  rw [e] at hx
  obtain ⟨r, _, hx⟩ := List.mem_flatMap.1 hx
  exact encI_bd r x hx
/-- UNLIKE TEXTS ARE SHOWN UNLIKE. -/
theorem show_inj (s t : ByteArray) (h : showB s = showB t) : s = t := by
  have h1 := show_coded s
  have h2 := show_coded t
  rw [← show_bytes] at h1 h2
  rw [h] at h1
  have h3 := h1.one h2
  rw [← strOfNums_bytesOf s, ← strOfNums_bytesOf t, h3]
theorem showB_len (s : ByteArray) : (showB s).size ≤ 4 * s.size := by
  unfold showB
  rw [strOfNums_size]
  have h1 := shownAll_len 92 s (runes s.data.toList)
  have h2 := runes_le s
  omega
theorem quoteB_len (s : ByteArray) : (quoteB s).size ≤ 4 * s.size + 2 := by
  unfold quoteB
  rw [strOfNums_size]
  have h1 := shownAll_len 34 s (runes s.data.toList)
  have h2 := runes_le s
  simp only [List.cons_append, List.length_cons, List.length_append, List.length_nil]
  omega

end Go.Proofs.Ytijdlpbkmlplgaa.TL
