import Derived.Test.YtijdlpbkmlplgaaTextRef
import Derived.Test.YtijdlpbkmlplgaaQF4
import Derived.Test.YtijdlpbkmlplgaaQF5
/- A quoted text by itself: its form, and that the program's Front reads it back. -/
set_option linter.unusedVariables false
set_option linter.unusedSimpArgs false
namespace Go.Proofs.Ytijdlpbkmlplgaa.TL
open Go.RowKit Go.Proofs.Ytijdlpbkmlplgaa.TS Go.Proofs.Ytijdlpbkmlplgaa.TR Go.Proofs.Ytijdlpbkmlplgaa.TX Go.Proofs.YtijdlpbkmlplgaaW.PrintWords Go.Proofs.YtijdlpbkmlplgaaW.PrintMore Go.Proofs.Ytijdlpbkmlplgaa.QF

/-- the coded form of bytes, between the quotes -/
inductive Cd : List Int → List Int → Prop
  | nil : Cd [] []
  | raw (c : Int) (q b : List Int) : c ≠ 34 → c ≠ 92 → Cd q b → Cd (c :: q) (c :: b)
  | esc (c : Int) (q b : List Int) : c = 34 ∨ c = 92 → Cd q b → Cd (92 :: c :: q) (c :: b)
  | hex (a : Int) (q b : List Int) : 0 ≤ a → a < 256 → Cd q b → Cd (92 :: 120 :: hexI (a / 16) :: hexI (a % 16) :: q) (a :: b)
theorem Cd.append {q b q' b' : List Int} (h : Cd q b) (h' : Cd q' b') : Cd (q ++ q') (b ++ b') := by
  induction h with
  | nil => exact h'
  | raw c q b h1 h2 _ ih => exact .raw c _ _ h1 h2 ih
  | esc c q b h1 _ ih => exact .esc c _ _ h1 ih
  | hex a q b h1 h2 _ ih => exact .hex a _ _ h1 h2 ih
theorem Cd.raws (l : List Int) (h : ∀ c ∈ l, c ≠ 34 ∧ c ≠ 92) : Cd l l := by
  induction l with
  | nil => exact .nil
  | cons c l ih => exact .raw c _ _ (h c (by simp)).1 (h c (by simp)).2 (ih (fun d hd => h d (by simp [hd])))
theorem enc_plain (r : Nat) (h1 : r ≠ 34) (h2 : r ≠ 92) (hr : r ≤ 1114111) : ∀ c ∈ (enc r).map (fun b => ((b.toNat : Nat) : Int)), c ≠ 34 ∧ c ≠ 92 := by
  intro c hc
  obtain ⟨b, hb, rfl⟩ := List.mem_map.1 hc
  unfold enc at hb
  split at hb
  · simp only [List.mem_cons, List.not_mem_nil, or_false] at hb; subst hb; rw [ofN (by omega)]; omega
  · split at hb
    · simp only [List.mem_cons, List.not_mem_nil, or_false] at hb; rcases hb with rfl | rfl <;> rw [ofN (by omega)] <;> omega
    · split at hb
      · simp only [List.mem_cons, List.not_mem_nil, or_false] at hb; rcases hb with rfl | rfl | rfl <;> rw [ofN (by omega)] <;> omega
      · simp only [List.mem_cons, List.not_mem_nil, or_false] at hb; rcases hb with rfl | rfl | rfl | rfl <;> rw [ofN (by omega)] <;> omega
theorem bt0 (e : ByteArray) (b : UInt8) (t : List UInt8) (h : e.data.toList = b :: t) : bt e 0 = ((b.toNat : Nat) : Int) := by
  have hs : 0 < e.size := by rw [← bytes_length, h]; simp
  have := bt_g e 0 hs
  rw [h] at this
  exact this
theorem piece_coded (s : ByteArray) (p : S37) (h : okS s p) : Cd (shS true p) (p.f1.data.toList.map (fun b => ((b.toNat : Nat) : Int))) := by
  obtain ⟨pc, i, hok, hb, hr, _, _, _⟩ := h
  rw [hb]
  unfold shS
  rw [if_pos rfl]
  unfold okPiece at hok
  cases hp : pc.1 with
  | none =>
    rw [hp] at hok hr
    simp only at hok
    obtain ⟨b, hb1⟩ : ∃ b, pc.2 = [b] := List.length_eq_one_iff.1 hok
    rw [hb1] at hb ⊢
    have e := bt0 _ _ _ hb
    have hl := b.toNat_lt
    unfold shownI
    rw [if_pos (show p.f2 < 32 ∨ p.f2 = 127 from by rw [hr]; left; decide), e]
    exact .hex _ _ _ (by omega) (by omega) .nil
  | some r =>
    rw [hp] at hok hr
    simp only at hok
    obtain ⟨hm, he⟩ := hok
    have hr2 : p.f2 = (r : Int) := hr
    have hle := may_le hm
    rw [he] at hb ⊢
    unfold shownI
    rw [hr2]
    by_cases c1 : (r : Int) < 32 ∨ (r : Int) = 127
    · rw [if_pos c1]
      have e1 : enc r = [UInt8.ofNat r] := by unfold enc; rw [if_pos (by omega)]
      rw [e1] at hb ⊢
      have e := bt0 _ _ _ hb
      rw [ofN (by omega)] at e
      rw [e]
      simp only [List.map_cons, List.map_nil]
      rw [ofN (by omega)]
      exact .hex _ _ _ (by omega) (by omega) .nil
    · rw [if_neg c1]
      by_cases c2 : (r : Int) = 92 ∨ (r : Int) = 34
      · rw [if_pos c2]
        have e1 : enc r = [UInt8.ofNat r] := by unfold enc; rw [if_pos (by omega)]
        rw [e1]
        simp only [List.map_cons, List.map_nil]
        rw [ofN (by omega), show (r : Int) % 256 = (r : Int) from by omega]
        exact .esc _ _ _ (by omega) .nil
      · rw [if_neg c2, ← enc_ints r hm]
        exact .raws _ (enc_plain r (by omega) (by omega) hle)
theorem all_coded (s : ByteArray) (L : List S37) (h : ∀ p ∈ L, okS s p) : Cd (L.flatMap (shS true)) ((L.flatMap (fun p => p.f1.data.toList)).map (fun b => ((b.toNat : Nat) : Int))) := by
  induction L with
  | nil => exact .nil
  | cons p L ih =>
    rw [List.flatMap_cons, List.flatMap_cons, List.map_append]
    exact (piece_coded s p (h p (by simp))).append (ih (fun q hq => h q (by simp [hq])))
theorem pS_bytes (s : ByteArray) : ∀ (ps : List Piece) (i : Nat), s.data.toList.drop i = ps.flatMap (·.2) → i ≤ s.size → (pS s i ps).flatMap (fun p => p.f1.data.toList) = ps.flatMap (·.2) := by
  intro ps
  induction ps with
  | nil => intro i _ _; rfl
  | cons p t ih =>
    intro i hd hi
    have hlen : s.size - i = (p.2 ++ t.flatMap (·.2)).length := by rw [← List.flatMap_cons, ← hd, List.length_drop, bytes_length]
    rw [List.length_append] at hlen
    have hd2 : s.data.toList.drop (i + p.2.length) = t.flatMap (·.2) := by
      rw [← List.drop_drop, hd]; simp
    have e : (s.extract i (i + p.2.length)).data.toList = p.2 := by
      rw [Lib.extract_data, hd]; simp
    simp only [pS, List.flatMap_cons, e]
    rw [ih (i + p.2.length) hd2 (by omega)]
theorem quote_coded (s : ByteArray) : Cd (shownAll 34 s (runes s.data.toList)) (bytesOf s) := by
  have h := all_coded s _ (pS_all s).1
  rw [shS_map s true _ (pS_all s).1 _ (pS_all s).2, if_pos rfl, pS_bytes s _ 0 (by rw [List.drop_zero, pieces_flat]) (by omega), pieces_flat] at h
  exact h
theorem shown_bd (s : ByteArray) : ∀ x ∈ shownAll 34 s (runes s.data.toList), 0 ≤ x ∧ x < 256 := by
  have h0 : ∀ x ∈ bytesOf s, 0 ≤ x ∧ x < 256 := by
    intro x hx
    rw [bytesOf_data] at hx
    obtain ⟨b, _, rfl⟩ := List.mem_map.1 hx
    have := b.toNat_lt
    omega
  have h := quote_coded s
  generalize shownAll 34 s (runes s.data.toList) = q at h ⊢
  generalize bytesOf s = b at h h0
  induction h with
  | nil => simp
  | raw c q b h1 h2 _ ih =>
    intro x hx
    rcases List.mem_cons.1 hx with rfl | hx
    · exact h0 _ (by simp)
    · exact ih (fun y hy => h0 y (by simp [hy])) x hx
  | esc c q b h1 _ ih =>
    intro x hx
    rcases List.mem_cons.1 hx with rfl | hx
    · omega
    rcases List.mem_cons.1 hx with rfl | hx
    · omega
    · exact ih (fun y hy => h0 y (by simp [hy])) x hx
  | hex a q b h1 h2 _ ih =>
    intro x hx
    rcases List.mem_cons.1 hx with rfl | hx
    · omega
    rcases List.mem_cons.1 hx with rfl | hx
    · omega
    rcases List.mem_cons.1 hx with rfl | hx
    · exact hexI_bd _ (by omega) (by omega)
    rcases List.mem_cons.1 hx with rfl | hx
    · exact hexI_bd _ (by omega) (by omega)
    · exact ih (fun y hy => h0 y (by simp [hy])) x hx
theorem quoteB_bytes (s : ByteArray) : bytesOf (quoteB s) = 34 :: shownAll 34 s (runes s.data.toList) ++ [34] := by
  unfold quoteB
  refine bytesOf_strOfNums _ (fun x hx => ?_)
  have hb := shown_bd s
  simp only [List.cons_append, List.mem_cons, List.mem_append, List.not_mem_nil, or_false] at hx
  rcases hx with rfl | hx | rfl
  · omega
  · exact hb x hx
  · omega
theorem strOfNums_bytesOf (s : ByteArray) : strOfNums (bytesOf s) = s := by
  apply ByteArray.ext
  apply Array.toList_inj.1
  rw [strOfNums_data, bytesOf_data, List.map_map]
  conv => rhs; rw [← List.map_id s.data.toList]
  refine List.map_congr_left (fun b _ => ?_)
  show UInt8.ofNat (((b.toNat : Nat) : Int)).toNat = b
  simp
theorem bt_list (x : ByteArray) (i : Nat) (pre rest : List Int) (c : Int) (h : bytesOf x = pre ++ c :: rest) (hi : i = pre.length) : i < x.size ∧ bt x (i : Int) = c := by
  have hs : i < x.size := by rw [← bytesOf_length, h, List.length_append]; simp; omega
  refine ⟨hs, ?_⟩
  rw [bt_g x i hs]
  have e : (bytesOf x)[i]? = some c := by rw [h, hi]; simp
  rw [bytesOf_data, List.getElem?_map] at e
  unfold g
  rw [List.getD_eq_getElem?_getD]
  cases q : x.data.toList[i]? with
  | none => rw [q] at e; cases e
  | some b => rw [q] at e; simpa using e
theorem wn (i : Nat) (c : Int) (j : Nat) (hc : (i : Int) + c = (j : Int)) (hj : j ≤ 4611686018427387904) : wrap64 ((i : Int) + c) = (j : Int) := by
  rw [hc]; unfold wrap64; omega
end Go.Proofs.Ytijdlpbkmlplgaa.TL
/- The program's Front, as its printed function computes it: a quoted text at the front is read back, and nothing else is. -/
set_option linter.unusedVariables false
set_option linter.unusedSimpArgs false
namespace Go.Proofs.Ytijdlpbkmlplgaa.TL
open Go.RowKit Go.Proofs.Ytijdlpbkmlplgaa.TS Go.Proofs.Ytijdlpbkmlplgaa.TR Go.Proofs.Ytijdlpbkmlplgaa.TX Go.Proofs.YtijdlpbkmlplgaaW.PrintWords Go.Proofs.YtijdlpbkmlplgaaW.PrintMore Go.Proofs.Ytijdlpbkmlplgaa.QF

/-- the place of a digit, or -1 -/
def nibI (c : Int) : Int := Lib.indexByte (⟨#[48, 49, 50, 51, 52, 53, 54, 55, 56, 57, 97, 98, 99, 100, 101, 102]⟩ : ByteArray).data.toList c.toNat.toUInt8
theorem nibble_eq (c : Int) : text_nibble.f c = some (nibI c % 256, decide (nibI c ≥ 0)) := rfl
theorem nibI_hex (a : Fin 16) : nibI (hexI (a.val : Int)) = a.val := by
  revert a; decide +kernel
theorem nib_hex (a : Int) (h0 : 0 ≤ a) (h1 : a < 16) : text_nibble.f (hexI a) = some (a, true) := by
  have h := nibI_hex ⟨a.toNat, by omega⟩
  simp only at h
  rw [show ((a.toNat : Nat) : Int) = a from by omega] at h
  rw [nibble_eq, h, show a % 256 = a from by omega, decide_eq_true (show a ≥ 0 from h0)]
theorem or_hex (a : Fin 256) : Go.bits .or .u8 (((a.val : Int) / 16 * 16) % 256) ((a.val : Int) % 16) = (a.val : Int) := by
  revert a; decide +kernel
theorem or_hex' (a : Int) (h0 : 0 ≤ a) (h1 : a < 256) : Go.bits .or .u8 ((a / 16 * 16) % 256) (a % 16) = a := by
  have h := or_hex ⟨a.toNat, by omega⟩
  simp only at h
  rwa [show ((a.toNat : Nat) : Int) = a from by omega] at h

/-- the numbers near i, by themselves (no byte in sight: omega would unfold it) -/
theorem nums1 (i n m : Nat) (hi : i < n) (hn : n ≤ 1073741824) (hm : m ≤ i) : ((i : Int) < (n : Int)) = True ∧ (0 ≤ (i : Int)) = True ∧ (m < 140737488355328) = True ∧ wrap64 ((i : Int) + 1) = ((i + 1 : Nat) : Int) ∧ wrap64 ((i : Int) + 2) = ((i + 2 : Nat) : Int) ∧ wrap64 ((i : Int) + 3) = ((i + 3 : Nat) : Int) ∧ wrap64 ((i : Int) + 4) = ((i + 4 : Nat) : Int) ∧ wrap64 (((i + 3 : Nat) : Int) + 1) = ((i + 4 : Nat) : Int) ∧ wrap64 (((i + 1 : Nat) : Int) + 1) = ((i + 2 : Nat) : Int) :=
  ⟨eq_true (by omega), eq_true (by omega), eq_true (by omega), wn i 1 (i + 1) (by omega) (by omega), wn i 2 (i + 2) (by omega) (by omega), wn i 3 (i + 3) (by omega) (by omega), wn i 4 (i + 4) (by omega) (by omega), wn (i + 3) 1 (i + 4) (by omega) (by omega), wn (i + 1) 1 (i + 2) (by omega) (by omega)⟩
theorem nums2 (i n c : Nat) (hi : i + c < n) : (((i + c : Nat) : Int) < (n : Int)) = True ∧ (0 ≤ ((i + c : Nat) : Int)) = True := ⟨eq_true (by omega), eq_true (by omega)⟩
theorem nums3 (i n c : Nat) (hi : ¬ i + c < n) : (((i + c : Nat) : Int) < (n : Int)) = False := eq_false (by omega)

theorem fr_raw (x : ByteArray) (hx : x.size ≤ 1073741824) (acc : List Int) (i : Nat) (c : Int) (hi : i < x.size) (hb : bt x (i : Int) = c) (h1 : c ≠ 34) (h2 : c ≠ 92) (ha : acc.length ≤ i)
    {r : ByteArray × Int × Int} (h : Ev (fun k => text_Front.l0 k x (acc ++ [c]) ((i + 1 : Nat) : Int)) r) : Ev (fun k => text_Front.l0 k x acc (i : Int)) r := by
  have q0 : ((i : Int) < (x.size : Int)) = True := eq_true (by omega)
  have q1 : (0 ≤ (i : Int)) = True := eq_true (by omega)
  have q2 : (c = 34) = False := eq_false h1
  have q3 : (c = 92) = False := eq_false h2
  have q4 : (acc.length < 140737488355328) = True := eq_true (by omega)
  have w1 := wn i 1 (i + 1) (by omega) (by omega)
  refine Ev.step (fun k => ?_) h
  rw [text_Front.l0]
  simp only [q0, q1, q2, q3, q4, w1, hb, if_true, if_false]
theorem fr_esc (x : ByteArray) (hx : x.size ≤ 1073741824) (acc : List Int) (i : Nat) (c : Int) (hi : i + 1 < x.size) (hb : bt x (i : Int) = 92) (hc : bt x ((i + 1 : Nat) : Int) = c) (h1 : c ≠ 120) (ha : acc.length ≤ i)
    {r : ByteArray × Int × Int} (h : Ev (fun k => text_Front.l0 k x (acc ++ [c]) ((i + 2 : Nat) : Int)) r) : Ev (fun k => text_Front.l0 k x acc (i : Int)) r := by
  have q0 : ((i : Int) < (x.size : Int)) = True := eq_true (by omega)
  have q1 : (0 ≤ (i : Int)) = True := eq_true (by omega)
  have q5 : (((i + 1 : Nat) : Int) < (x.size : Int)) = True := eq_true (by omega)
  have q6 : (0 ≤ ((i + 1 : Nat) : Int)) = True := eq_true (by omega)
  have q4 : (acc.length < 140737488355328) = True := eq_true (by omega)
  have w1 := wn i 1 (i + 1) (by omega) (by omega)
  have w2 := wn (i + 1) 1 (i + 2) (by omega) (by omega)
  have e : (c == 120) = false := beq_eq_false_iff_ne.mpr h1
  have hj : Ev (fun k => text_Front.j2 k x acc (i : Int) false) r := by
    refine Ev.step (fun k => ?_) h
    rw [text_Front.j2]
    simp only [q4, q5, q6, w1, w2, hc, if_true, if_false, Bool.false_eq_true]
  refine Ev.step (fun k => ?_) hj
  rw [text_Front.l0]
  simp only [q0, q1, q5, q6, w1, hb, hc, e, if_true, if_false, show ((92 : Int) = 34) = False from by simp]
  split <;> rfl
theorem fr_hex (x : ByteArray) (hx : x.size ≤ 1073741824) (acc : List Int) (i : Nat) (a : Int) (hi : i + 3 < x.size) (hb : bt x (i : Int) = 92) (hc : bt x ((i + 1 : Nat) : Int) = 120)
    (hd : bt x ((i + 2 : Nat) : Int) = hexI (a / 16)) (he : bt x ((i + 3 : Nat) : Int) = hexI (a % 16)) (h1 : 0 ≤ a) (h2 : a < 256) (ha : acc.length ≤ i)
    {r : ByteArray × Int × Int} (h : Ev (fun k => text_Front.l0 k x (acc ++ [a]) ((i + 4 : Nat) : Int)) r) : Ev (fun k => text_Front.l0 k x acc (i : Int)) r := by
  obtain ⟨q0, q1, q4, w1, w2, w3, _, w4, w5⟩ := nums1 i x.size acc.length (Nat.lt_of_le_of_lt (Nat.le_add_right i 3) hi) hx ha
  obtain ⟨q5, q6⟩ := nums2 i x.size 1 (Nat.lt_of_le_of_lt (Nat.add_le_add_left (by decide) i) hi)
  obtain ⟨q7, q8⟩ := nums2 i x.size 2 (Nat.lt_of_le_of_lt (Nat.add_le_add_left (by decide) i) hi)
  obtain ⟨q9, q10⟩ := nums2 i x.size 3 hi
  have k1 : 0 ≤ a / 16 ∧ a / 16 < 16 ∧ 0 ≤ a % 16 ∧ a % 16 < 16 := by clear hb hc hd he h; omega
  have n1 := nib_hex (a / 16) k1.1 k1.2.1
  have n2 := nib_hex (a % 16) k1.2.2.1 k1.2.2.2
  have o := or_hex' a h1 h2
  have hj : Ev (fun k => text_Front.j2 k x acc (i : Int) true) r := by
    refine Ev.step (fun k => ?_) h
    rw [text_Front.j2]
    simp only [q4, q7, q8, q9, q10, w2, w3, w4, hd, he, n1, n2, o, if_true, Option.bind_some]
  refine Ev.step (fun k => ?_) hj
  rw [text_Front.l0]
  simp only [q0, q1, q5, q6, q9, w1, w3, hb, hc, if_true, if_false, show ((92 : Int) = 34) = False from by simp, show ((120 : Int) == 120) = true from rfl]
theorem fr_sim (x : ByteArray) (hx : x.size ≤ 1073741824) {q b : List Int} (hcd : Cd q b) : ∀ (pre rest : List Int) (i : Nat) (acc : List Int), bytesOf x = pre ++ (q ++ 34 :: rest) → i = pre.length → acc.length ≤ i →
    ∀ {r : ByteArray × Int × Int}, Ev (fun k => text_Front.l0 k x (acc ++ b) ((i + q.length : Nat) : Int)) r → Ev (fun k => text_Front.l0 k x acc (i : Int)) r := by
  induction hcd with
  | nil => intro pre rest i acc _ _ _ r h; simpa using h
  | raw c q b h1 h2 _ ih =>
    intro pre rest i acc hl hi ha r h
    obtain ⟨p1, p2⟩ := bt_list x i pre (q ++ 34 :: rest) c hl hi
    refine fr_raw x hx acc i c p1 p2 h1 h2 ha ?_
    refine ih (pre ++ [c]) rest (i + 1) (acc ++ [c]) (by rw [hl]; simp) (by simp; omega) (by simp; omega) ?_
    rw [List.append_assoc, show i + 1 + q.length = i + (c :: q).length from by simp; omega]
    exact h
  | esc c q b h1 _ ih =>
    intro pre rest i acc hl hi ha r h
    obtain ⟨p1, p2⟩ := bt_list x i pre (c :: q ++ 34 :: rest) 92 hl hi
    obtain ⟨p3, p4⟩ := bt_list x (i + 1) (pre ++ [92]) (q ++ 34 :: rest) c (by rw [hl]; simp) (by simp; omega)
    refine fr_esc x hx acc i c p3 p2 p4 (by omega) ha ?_
    refine ih (pre ++ [92, c]) rest (i + 2) (acc ++ [c]) (by rw [hl]; simp) (by simp; omega) (by simp; omega) ?_
    rw [List.append_assoc, show i + 2 + q.length = i + (92 :: c :: q).length from by simp; omega]
    exact h
  | hex a q b h1 h2 _ ih =>
    intro pre rest i acc hl hi ha r h
    obtain ⟨p1, p2⟩ := bt_list x i pre (120 :: hexI (a / 16) :: hexI (a % 16) :: q ++ 34 :: rest) 92 hl hi
    obtain ⟨p3, p4⟩ := bt_list x (i + 1) (pre ++ [92]) (hexI (a / 16) :: hexI (a % 16) :: q ++ 34 :: rest) 120 (by rw [hl]; simp) (by simp; omega)
    obtain ⟨p5, p6⟩ := bt_list x (i + 2) (pre ++ [92, 120]) (hexI (a % 16) :: q ++ 34 :: rest) (hexI (a / 16)) (by rw [hl]; simp) (by simp; omega)
    obtain ⟨p7, p8⟩ := bt_list x (i + 3) (pre ++ [92, 120, hexI (a / 16)]) (q ++ 34 :: rest) (hexI (a % 16)) (by rw [hl]; simp) (by simp; omega)
    refine fr_hex x hx acc i a p7 p2 p4 p6 p8 h1 h2 ha ?_
    refine ih (pre ++ [92, 120, hexI (a / 16), hexI (a % 16)]) rest (i + 4) (acc ++ [a]) (by rw [hl]; simp) (by simp; omega) (by simp; omega) ?_
    rw [List.append_assoc, show i + 4 + q.length = i + (92 :: 120 :: hexI (a / 16) :: hexI (a % 16) :: q).length from by simp; omega]
    exact h
/-- what Front answers: a text whose quoted form stands at the front, or the fault -/
def Good (x : ByteArray) (r : ByteArray × Int × Int) : Prop :=
  r = ((⟨#[]⟩ : ByteArray), 0, 4) ∨ ∃ (t : ByteArray) (n : Nat), r = (t, (n : Int), 0) ∧ n ≤ x.size ∧ quoteB t = x.extract 0 n ∧ t.size ≤ x.size
theorem tl_inj {a b : ByteArray} : a.toList = b.toList ↔ a = b := by
  constructor
  · intro h; rw [Lib.toList_data, Lib.toList_data] at h; exact ByteArray.ext (Array.toList_inj.1 h)
  · rintro rfl; rfl
theorem fr_end (x : ByteArray) (hx : x.size ≤ 1073741824) (acc : List Int) (i : Nat) (hi : i < x.size) (hb : bt x (i : Int) = 34) (ha : acc.length ≤ i) :
    Ev (fun k => text_Front.l0 k x acc (i : Int)) (if quoteB (strOfNums acc) = x.extract 0 (i + 1) then (strOfNums acc, ((i + 1 : Nat) : Int), 0) else ((⟨#[]⟩ : ByteArray), 0, 4)) := by
  have q0 : ((i : Int) < (x.size : Int)) = True := eq_true (by omega)
  have q1 : (0 ≤ (i : Int)) = True := eq_true (by omega)
  have q6 : (0 ≤ ((i + 1 : Nat) : Int)) = True := eq_true (by omega)
  have q7 : (((i + 1 : Nat) : Int) ≤ (x.size : Int)) = True := eq_true (by omega)
  have w1 := wn i 1 (i + 1) (by omega) (by omega)
  have hq : text_Quote.f (strOfNums acc) = some (quoteB (strOfNums acc)) := by
    unfold text_Quote.f; rw [if_pos (by unfold small; rw [strOfNums_size]; omega)]
  have tn : (((i + 1 : Nat) : Int)).toNat = i + 1 := by omega
  refine Ev.step (fun k => ?_) (Ev.now _)
  rw [text_Front.l0]
  simp only [q0, q1, q6, q7, w1, hb, hq, tn, tl_inj, if_true, Option.bind_some]
  split <;> rfl
theorem fr_out (x : ByteArray) (i : Nat) (acc : List Int) (hi : ¬ i < x.size) : ∃ r, Ev (fun k => text_Front.l0 k x acc (i : Int)) r ∧ Good x r := by
  refine ⟨_, Ev.step (fun k => ?_) (Ev.now _), Or.inl rfl⟩
  rw [text_Front.l0, if_neg (by omega)]
theorem fr_mid (x : ByteArray) (hx : x.size ≤ 1073741824) (i : Nat) (acc : List Int) (hi : i < x.size) (ha : acc.length ≤ i)
    (ih : ∀ acc' : List Int, acc'.length ≤ i + 2 → i + 1 < x.size → ∃ r, Ev (fun k => text_Front.l0 k x acc' ((i + 2 : Nat) : Int)) r ∧ Good x r) :
    ∃ r, Ev (fun k => text_Front.j2 k x acc (i : Int) false) r ∧ Good x r := by
  obtain ⟨q0, q1, q4, w1, w2, w3, _, w4, w5⟩ := nums1 i x.size acc.length hi hx ha
  by_cases h1 : i + 1 < x.size
  · obtain ⟨q5, q6⟩ := nums2 i x.size 1 h1
    obtain ⟨r, hr, hg⟩ := ih (acc ++ [bt x ((i + 1 : Nat) : Int)]) (by rw [List.length_append]; exact Nat.le_trans (Nat.add_le_add_right ha 1) (Nat.le_succ _)) h1
    refine ⟨r, Ev.step (fun k => ?_) hr, hg⟩
    rw [text_Front.j2]
    simp only [q4, q5, q6, w1, w5, if_true, if_false, Bool.false_eq_true]
  · have q5 := nums3 i x.size 1 h1
    obtain ⟨r, hr, hg⟩ := fr_out x (i + 1) acc h1
    refine ⟨r, Ev.step (fun k => ?_) hr, hg⟩
    rw [text_Front.j2]
    simp only [q5, w1, if_false, Bool.false_eq_true]
theorem fr_two (x : ByteArray) (hx : x.size ≤ 1073741824) (i : Nat) (acc : List Int) (hi : i + 3 < x.size) (ha : acc.length ≤ i)
    (ih : ∀ acc' : List Int, acc'.length ≤ i + 4 → ∃ r, Ev (fun k => text_Front.l0 k x acc' ((i + 4 : Nat) : Int)) r ∧ Good x r) :
    ∃ r, Ev (fun k => text_Front.j2 k x acc (i : Int) true) r ∧ Good x r := by
  obtain ⟨q0, q1, q4, w1, w2, w3, _, w4, w5⟩ := nums1 i x.size acc.length (Nat.lt_of_le_of_lt (Nat.le_add_right i 3) hi) hx ha
  obtain ⟨q7, q8⟩ := nums2 i x.size 2 (Nat.lt_of_le_of_lt (Nat.add_le_add_left (by decide) i) hi)
  obtain ⟨q9, q10⟩ := nums2 i x.size 3 hi
  by_cases d1 : nibI (bt x ((i + 2 : Nat) : Int)) ≥ 0
  · by_cases d2 : nibI (bt x ((i + 3 : Nat) : Int)) ≥ 0
    · obtain ⟨r, hr, hg⟩ := ih (acc ++ [Go.bits .or .u8 (((nibI (bt x ((i + 2 : Nat) : Int)) % 256) * 16) % 256) (nibI (bt x ((i + 3 : Nat) : Int)) % 256)]) (by rw [List.length_append]; exact Nat.le_trans (Nat.add_le_add_right ha 1) (Nat.add_le_add_left (by decide) i))
      refine ⟨r, Ev.step (fun k => ?_) hr, hg⟩
      rw [text_Front.j2]
      simp only [q4, q7, q8, q9, q10, w2, w3, w4, nibble_eq, decide_eq_true d1, decide_eq_true d2, if_true, Option.bind_some]
    · refine ⟨_, Ev.step (fun k => ?_) (Ev.now _), Or.inl rfl⟩
      rw [text_Front.j2]
      simp only [q4, q7, q8, q9, q10, w2, w3, w4, nibble_eq, decide_eq_true d1, decide_eq_false d2, if_true, if_false, Bool.false_eq_true, Option.bind_some]
  · refine ⟨_, Ev.step (fun k => ?_) (Ev.now _), Or.inl rfl⟩
    rw [text_Front.j2]
    simp only [q4, q7, q8, q9, q10, w2, w3, w4, nibble_eq, decide_eq_false d1, if_true, if_false, Bool.false_eq_true, Option.bind_some]
theorem fr_back (x : ByteArray) (hx : x.size ≤ 1073741824) (i : Nat) (acc : List Int) (hi : i < x.size) (ha : acc.length ≤ i) (hb : bt x (i : Int) = 92)
    (mid : ∃ r, Ev (fun k => text_Front.j2 k x acc (i : Int) false) r ∧ Good x r) (two : i + 3 < x.size → ∃ r, Ev (fun k => text_Front.j2 k x acc (i : Int) true) r ∧ Good x r) :
    ∃ r, Ev (fun k => text_Front.l0 k x acc (i : Int)) r ∧ Good x r := by
  obtain ⟨q0, q1, q4, w1, w2, w3, _, w4, w5⟩ := nums1 i x.size acc.length hi hx ha
  have q92 : ((92 : Int) = 34) = False := by simp
  by_cases h3 : i + 3 < x.size
  · obtain ⟨q5, q6⟩ := nums2 i x.size 1 (Nat.lt_of_le_of_lt (Nat.add_le_add_left (by decide) i) h3)
    obtain ⟨q9, q10⟩ := nums2 i x.size 3 h3
    by_cases hc : bt x ((i + 1 : Nat) : Int) = 120
    · obtain ⟨r, hr, hg⟩ := two h3
      refine ⟨r, Ev.step (fun k => ?_) hr, hg⟩
      rw [text_Front.l0]
      simp only [q0, q1, q5, q6, q9, w1, w3, hb, hc, q92, if_true, if_false, show ((120 : Int) == 120) = true from rfl]
    · obtain ⟨r, hr, hg⟩ := mid
      refine ⟨r, Ev.step (fun k => ?_) hr, hg⟩
      rw [text_Front.l0]
      simp only [q0, q1, q5, q6, q9, w1, w3, hb, q92, beq_eq_false_iff_ne.mpr hc, if_true, if_false]
  · have q9 := nums3 i x.size 3 h3
    obtain ⟨r, hr, hg⟩ := mid
    refine ⟨r, Ev.step (fun k => ?_) hr, hg⟩
    rw [text_Front.l0]
    simp only [q0, q1, q9, w1, w3, hb, q92, if_true, if_false]
theorem fr_total (x : ByteArray) (hx : x.size ≤ 1073741824) (d : Nat) : ∀ (i : Nat) (acc : List Int), x.size - i ≤ d → acc.length ≤ i → i ≤ x.size → ∃ r, Ev (fun k => text_Front.l0 k x acc (i : Int)) r ∧ Good x r := by
  induction d with
  | zero => intro i acc hd _ _; exact fr_out x i acc (by omega)
  | succ d ih =>
    intro i acc hd ha hle
    by_cases hi : i < x.size
    · have ih1 : ∀ c, ∃ r, Ev (fun k => text_Front.l0 k x (acc ++ [c]) ((i + 1 : Nat) : Int)) r ∧ Good x r := fun c => ih (i + 1) _ (by omega) (by simp; omega) (by omega)
      have ih2 : ∀ acc' : List Int, acc'.length ≤ i + 2 → i + 1 < x.size → ∃ r, Ev (fun k => text_Front.l0 k x acc' ((i + 2 : Nat) : Int)) r ∧ Good x r := fun acc' hl hs => ih (i + 2) acc' (by omega) hl (by omega)
      have ih4 : i + 3 < x.size → ∀ acc' : List Int, acc'.length ≤ i + 4 → ∃ r, Ev (fun k => text_Front.l0 k x acc' ((i + 4 : Nat) : Int)) r ∧ Good x r := fun hs acc' hl => ih (i + 4) acc' (by omega) hl (by omega)
      have hsz : i + 1 ≤ x.size := hi
      have hsl : (strOfNums acc).size ≤ x.size := by rw [strOfNums_size]; omega
      generalize hb : bt x (i : Int) = c
      by_cases c1 : c = 34
      · subst c1
        refine ⟨_, fr_end x hx acc i hi hb ha, ?_⟩
        split
        · rename_i he
          exact Or.inr ⟨_, i + 1, rfl, hsz, he, hsl⟩
        · exact Or.inl rfl
      · by_cases c2 : c = 92
        · subst c2
          exact fr_back x hx i acc hi ha hb (fr_mid x hx i acc hi ha ih2) (fun h3 => fr_two x hx i acc h3 ha (ih4 h3))
        · obtain ⟨r, hr, hg⟩ := ih1 c
          exact ⟨r, fr_raw x hx acc i c hi hb c1 c2 ha hr, hg⟩
    · exact fr_out x i acc hi
theorem front_total (x : ByteArray) (hx : x.size ≤ 1073741824) : ∃ r, Ev (fun k => text_Front.f k x) r ∧ Good x r := by
  by_cases h0 : x.toList = ([] : List UInt8)
  · refine ⟨_, Ev.step (g := fun k => text_Front.f k x) (fun k => ?_) (Ev.now _), Or.inl rfl⟩
    rw [text_Front.f, if_pos h0, text_Front.j0, if_pos rfl]
  · have hs : 0 < x.size := by
      rw [← bytes_length]
      rw [Lib.toList_data] at h0
      exact List.length_pos_iff.2 h0
    have q0 : (0 < (x.size : Int)) = True := eq_true (by omega)
    by_cases hb : bt x 0 = 34
    · obtain ⟨r, hr, hg⟩ := fr_total x hx x.size 1 [] (by omega) (by simp) (by omega)
      refine ⟨r, Ev.step (g := fun k => text_Front.f k x) (fun k => ?_) hr, hg⟩
      rw [text_Front.f, if_neg h0]
      simp only [q0, hb, if_true]
      rw [text_Front.j0, if_neg (by decide)]
      rfl
    · refine ⟨_, Ev.step (g := fun k => text_Front.f k x) (fun k => ?_) (Ev.now _), Or.inl rfl⟩
      rw [text_Front.f, if_neg h0]
      simp only [q0, if_true]
      rw [text_Front.j0, if_pos (bne_iff_ne.mpr hb)]
/-- THE PROGRAM'S FRONT READS A QUOTED TEXT BACK. -/
theorem front_back (x t : ByteArray) (n : Nat) (hx : x.size ≤ 1073741824) (hn : n ≤ x.size) (h : quoteB t = x.extract 0 n) :
    Ev (fun k => text_Front.f k x) (t, (n : Int), 0) := by
  obtain ⟨rest, hl⟩ : ∃ rest, bytesOf x = bytesOf (quoteB t) ++ rest := by
    refine ⟨(bytesOf x).drop n, ?_⟩
    rw [h, bytesOf_data (x.extract 0 n), Lib.extract_data, bytesOf_data]
    rw [Nat.sub_zero, List.drop_zero, List.map_take, List.take_append_drop]
  have hn2 : n = (quoteB t).size := by rw [h, ByteArray.size_extract]; omega
  have hq := quoteB_bytes t
  have hl2 : bytesOf x = [34] ++ (shownAll 34 t (runes t.data.toList) ++ 34 :: rest) := by rw [hl, hq]; simp
  have hn3 : n = (shownAll 34 t (runes t.data.toList)).length + 2 := by rw [hn2, ← bytesOf_length, hq]; simp
  obtain ⟨b1, b2⟩ := bt_list x 0 [] (shownAll 34 t (runes t.data.toList) ++ 34 :: rest) 34 hl2 rfl
  obtain ⟨b3, b4⟩ := bt_list x (1 + (shownAll 34 t (runes t.data.toList)).length) ([34] ++ shownAll 34 t (runes t.data.toList)) rest 34 (by rw [hl2]; simp) (by simp; omega)
  have hlen : (bytesOf t).length ≤ (shownAll 34 t (runes t.data.toList)).length := by
    have hc := quote_coded t
    generalize shownAll 34 t (runes t.data.toList) = q at hc ⊢
    generalize bytesOf t = b at hc ⊢
    induction hc with
    | nil => simp
    | raw c q b _ _ _ ih => simp; exact ih
    | esc c q b _ _ ih => simp; omega
    | hex a q b _ _ _ ih => simp; omega
  have he := fr_end x hx (bytesOf t) _ b3 b4 (by omega)
  rw [strOfNums_bytesOf, if_pos (by rw [h, show 1 + (shownAll 34 t (runes t.data.toList)).length + 1 = n from by omega]), show 1 + (shownAll 34 t (runes t.data.toList)).length + 1 = n from by omega] at he
  have hr := fr_sim x hx (quote_coded t) [34] rest 1 [] hl2 rfl (by simp) (r := (t, (n : Int), 0)) he
  have h0 : ¬ x.toList = ([] : List UInt8) := by
    intro h0
    rw [Lib.toList_data] at h0
    have := bytes_length x
    rw [h0] at this
    simp at this; omega
  have q0 : (0 < (x.size : Int)) = True := eq_true (by omega)
  have b2' : bt x 0 = 34 := b2
  refine Ev.step (g := fun k => text_Front.f k x) (fun k => ?_) hr
  rw [text_Front.f, if_neg h0]
  simp only [q0, b2', if_true]
  rw [text_Front.j0, if_neg (by decide)]
  rfl
end Go.Proofs.Ytijdlpbkmlplgaa.TL
/- The document's Front and Unquote: the same. -/
set_option linter.unusedVariables false
set_option linter.unusedSimpArgs false
namespace Go.Proofs.Ytijdlpbkmlplgaa.TL
open Go.RowKit Go.Proofs.Ytijdlpbkmlplgaa.TS Go.Proofs.Ytijdlpbkmlplgaa.TR Go.Proofs.Ytijdlpbkmlplgaa.TX Go.Proofs.YtijdlpbkmlplgaaW.PrintWords Go.Proofs.YtijdlpbkmlplgaaW.PrintMore Go.Proofs.Ytijdlpbkmlplgaa.QF

theorem digit_hex (a : Fin 16) : errataref01_digit.f 18 (hexI (a.val : Int)) = some (a.val : Int) := by
  revert a; decide +kernel
theorem Ev.from {α : Type} {g : Nat → Option α} {r : α} (hg : ∀ k, LeO (g k) (g (k + 1))) {k : Nat} (h : g k = some r) : Ev g r := Ev.of hg h
theorem dig_hex (a : Int) (h0 : 0 ≤ a) (h1 : a < 16) : Ev (fun k => errataref01_digit.f k (hexI a)) a := by
  have h := digit_hex ⟨a.toNat, by omega⟩
  simp only at h
  rw [show ((a.toNat : Nat) : Int) = a from by omega] at h
  exact Ev.of (fun k => errataref01_digit.mono _ k) h
theorem dig_l0 (c : Int) (d : Nat) : ∀ i : Nat, 16 - i ≤ d → i ≤ 16 → ∃ r : Int, Ev (fun k => errataref01_digit.l0 k c (i : Int)) r ∧ -1 ≤ r ∧ r < 16 := by
  have out : ∀ i : Nat, ¬ i < 16 → ∃ r : Int, Ev (fun k => errataref01_digit.l0 k c (i : Int)) r ∧ -1 ≤ r ∧ r < 16 := fun i hi => by
    refine ⟨-1, Ev.step (fun k => ?_) (Ev.now _), by omega, by omega⟩
    rw [errataref01_digit.l0, if_neg (by omega)]
  induction d with
  | zero => intro i hd hle; exact out i (by omega)
  | succ d ih =>
    intro i hd hle
    by_cases hi : i < 16
    · have q0 : ((i : Int) < 16) = True := eq_true (by omega)
      have q1 : (0 ≤ (i : Int)) = True := eq_true (by omega)
      have w1 := wn i 1 (i + 1) (by omega) (by omega)
      obtain ⟨r, hr, hb⟩ := ih (i + 1) (by omega) (by omega)
      have hi0 : -1 ≤ (i : Int) ∧ (i : Int) < 16 := by omega
      by_cases hc : bt (⟨#[48, 49, 50, 51, 52, 53, 54, 55, 56, 57, 97, 98, 99, 100, 101, 102]⟩ : ByteArray) (i : Int) = c
      · refine ⟨(i : Int), Ev.step (fun k => ?_) (Ev.now _), hi0⟩
        rw [errataref01_digit.l0]
        simp only [q0, q1, hc, if_true]
      · refine ⟨r, Ev.step (fun k => ?_) hr, hb⟩
        rw [errataref01_digit.l0]
        simp only [q0, q1, hc, w1, if_true, if_false]
    · exact out i hi
theorem dig_total (c : Int) : ∃ r : Int, Ev (fun k => errataref01_digit.f k c) r ∧ -1 ≤ r ∧ r < 16 := dig_l0 c 16 0 (by omega) (by omega)

/-! ### Unquote -/
theorem un_end (y : ByteArray) (hy : y.size ≤ 1073741824) (acc : List Int) (i : Nat) (hi : ¬ i + 1 < y.size) (hb : i ≤ y.size) (ha : acc.length ≤ i) :
    Ev (fun k => errataref01_Unquote.l0 k y acc (i : Int)) (if quoteB (strOfNums acc) = y then (strOfNums acc, 0) else ((⟨#[]⟩ : ByteArray), 4)) := by
  have w1 := wn i 1 (i + 1) (by omega) (by omega)
  have q0 := nums3 i y.size 1 hi
  have hs : (strOfNums acc).size ≤ 1073741824 := by rw [strOfNums_size]; omega
  have hq : Ev (fun k => errataref01_Quote.f k (strOfNums acc)) (quoteB (strOfNums acc)) := ⟨_, fun k hk => quote_eq _ hs k hk⟩
  refine Ev.step (fun k => ?_) (Ev.bind hq (f := fun _ t144 => if t144.toList = y.toList then some (strOfNums acc, 0) else some ((⟨#[]⟩ : ByteArray), 4)) (Ev.congr (fun k => ?_) (Ev.now _)))
  · rw [errataref01_Unquote.l0]
    simp only [w1, q0, if_false]
  · simp only [tl_inj]
    split <;> rfl
theorem un_push (y : ByteArray) (hy : y.size ≤ 1073741824) (acc : List Int) (i : Nat) (hi : i + 1 < y.size) (hc : bt y (i : Int) ≠ 92 ∨ ¬ i + 2 < y.size) (ha : acc.length ≤ i)
    {r : ByteArray × Int} (h : Ev (fun k => errataref01_Unquote.l0 k y (acc ++ [bt y (i : Int)]) ((i + 1 : Nat) : Int)) r) : Ev (fun k => errataref01_Unquote.l0 k y acc (i : Int)) r := by
  obtain ⟨q0, q1, q4, w1, w2, w3, _, w4, w5⟩ := nums1 i y.size acc.length (Nat.lt_of_succ_lt hi) hy ha
  obtain ⟨q5, q6⟩ := nums2 i y.size 1 hi
  have hj : Ev (fun k => errataref01_Unquote.j1 k y acc (i : Int) true) r := by
    refine Ev.step (fun k => ?_) h
    rw [errataref01_Unquote.j1]
    simp only [q0, q1, q4, w1, if_true]
  refine Ev.step (fun k => ?_) hj
  rw [errataref01_Unquote.l0]
  simp only [w1, q5, q0, q1, if_true]
  by_cases h92 : bt y (i : Int) = 92
  · rcases hc with hc | hc
    · exact absurd h92 hc
    · have q2 : (((i + 2 : Nat) : Int) ≥ (y.size : Int)) := by clear h92 hj h; omega
      simp only [h92, w2, if_true, decide_eq_true q2]
  · simp only [h92, if_false]
/-- where a backslash stands with room behind it -/
theorem un_slash (y : ByteArray) (hy : y.size ≤ 1073741824) (acc : List Int) (i : Nat) (hi : i + 2 < y.size) (hc : bt y (i : Int) = 92) (ha : acc.length ≤ i)
    {r : ByteArray × Int} (h : Ev (fun k => errataref01_Unquote.j1 k y acc (i : Int) false) r) : Ev (fun k => errataref01_Unquote.l0 k y acc (i : Int)) r := by
  obtain ⟨q0, q1, q4, w1, w2, w3, _, w4, w5⟩ := nums1 i y.size acc.length (Nat.lt_of_le_of_lt (Nat.le_add_right i 2) hi) hy ha
  obtain ⟨q5, q6⟩ := nums2 i y.size 1 (Nat.lt_of_le_of_lt (Nat.add_le_add_left (by decide) i) hi)
  have q2 : ¬ (((i + 2 : Nat) : Int) ≥ (y.size : Int)) := by clear hc h; omega
  refine Ev.step (fun k => ?_) h
  rw [errataref01_Unquote.l0]
  simp only [w1, q5, q0, q1, hc, w2, if_true, decide_eq_false q2]
theorem un_two (y : ByteArray) (hy : y.size ≤ 1073741824) (acc : List Int) (i : Nat) (hi : i + 2 < y.size) (ha : acc.length ≤ i)
    {r : ByteArray × Int} (h : Ev (fun k => errataref01_Unquote.l0 k y (acc ++ [bt y ((i + 1 : Nat) : Int)]) ((i + 2 : Nat) : Int)) r) : Ev (fun k => errataref01_Unquote.j2 k y acc (i : Int) false) r := by
  obtain ⟨q0, q1, q4, w1, w2, w3, _, w4, w5⟩ := nums1 i y.size acc.length (Nat.lt_of_le_of_lt (Nat.le_add_right i 2) hi) hy ha
  obtain ⟨q5, q6⟩ := nums2 i y.size 1 (Nat.lt_of_le_of_lt (Nat.add_le_add_left (by decide) i) hi)
  refine Ev.step (fun k => ?_) h
  rw [errataref01_Unquote.j2]
  simp only [w1, w5, q4, q5, q6, if_true, if_false, Bool.false_eq_true]
theorem un_four (y : ByteArray) (hy : y.size ≤ 1073741824) (acc : List Int) (i : Nat) (hi : i + 4 < y.size) (ha : acc.length ≤ i) (a b : Int)
    (h1 : Ev (fun k => errataref01_digit.f k (bt y ((i + 2 : Nat) : Int))) a) (h2 : Ev (fun k => errataref01_digit.f k (bt y ((i + 3 : Nat) : Int))) b)
    {r : ByteArray × Int} (h : Ev (fun k => errataref01_Unquote.l0 k y (acc ++ [(wrap64 ((wrap64 (16 * a)) + b)) % 256]) ((i + 4 : Nat) : Int)) r) : Ev (fun k => errataref01_Unquote.j2 k y acc (i : Int) true) r := by
  obtain ⟨q0, q1, q4, w1, w2, w3, _, w4, w5⟩ := nums1 i y.size acc.length (Nat.lt_of_le_of_lt (Nat.le_add_right i 4) hi) hy ha
  obtain ⟨q7, q8⟩ := nums2 i y.size 2 (Nat.lt_of_le_of_lt (Nat.add_le_add_left (by decide) i) hi)
  obtain ⟨q9, q10⟩ := nums2 i y.size 3 (Nat.lt_of_le_of_lt (Nat.add_le_add_left (by decide) i) hi)
  refine Ev.step (fun k => ?_) (Ev.bind h1 (f := fun k t150 => (errataref01_digit.f k (bt y ((i + 3 : Nat) : Int))).bind fun t151 => errataref01_Unquote.l0 k y (acc ++ [(wrap64 ((wrap64 (16 * t150)) + t151)) % 256]) ((i + 4 : Nat) : Int))
    (Ev.bind h2 (f := fun k t151 => errataref01_Unquote.l0 k y (acc ++ [(wrap64 ((wrap64 (16 * a)) + t151)) % 256]) ((i + 4 : Nat) : Int)) h))
  rw [errataref01_Unquote.j2]
  simp only [w2, w3, w4, q4, q7, q8, q9, q10, if_true]
/-- the gate: x and two digits behind it, with room -/
theorem un_gate_no (y : ByteArray) (hy : y.size ≤ 1073741824) (acc : List Int) (i : Nat) (hi : i + 2 < y.size) (ha : acc.length ≤ i) (hc : bt y ((i + 1 : Nat) : Int) ≠ 120 ∨ ¬ i + 4 < y.size)
    {r : ByteArray × Int} (h : Ev (fun k => errataref01_Unquote.j2 k y acc (i : Int) false) r) : Ev (fun k => errataref01_Unquote.j1 k y acc (i : Int) false) r := by
  obtain ⟨q0, q1, q4, w1, w2, w3, wf, w4, w5⟩ := nums1 i y.size acc.length (Nat.lt_of_le_of_lt (Nat.le_add_right i 2) hi) hy ha
  obtain ⟨q5, q6⟩ := nums2 i y.size 1 (Nat.lt_of_le_of_lt (Nat.add_le_add_left (by decide) i) hi)
  refine Ev.step (fun k => ?_) h
  rw [errataref01_Unquote.j1]
  simp only [w1, q5, q6, if_true, if_false, Bool.false_eq_true]
  by_cases hx : bt y ((i + 1 : Nat) : Int) = 120
  · rcases hc with hc | hc
    · exact absurd hx hc
    · simp only [hx, wf, nums3 i y.size 4 hc, if_true, if_false]
  · simp only [hx, if_false]
theorem un_gate (y : ByteArray) (hy : y.size ≤ 1073741824) (acc : List Int) (i : Nat) (hi : i + 4 < y.size) (ha : acc.length ≤ i) (hc : bt y ((i + 1 : Nat) : Int) = 120) (a b : Int)
    (h1 : Ev (fun k => errataref01_digit.f k (bt y ((i + 2 : Nat) : Int))) a) (h2 : Ev (fun k => errataref01_digit.f k (bt y ((i + 3 : Nat) : Int))) b)
    {r : ByteArray × Int} (h : Ev (fun k => errataref01_Unquote.j2 k y acc (i : Int) (decide (a ≥ 0 ∧ b ≥ 0))) r) : Ev (fun k => errataref01_Unquote.j1 k y acc (i : Int) false) r := by
  obtain ⟨q0, q1, q4, w1, w2, w3, wf, w4, w5⟩ := nums1 i y.size acc.length (Nat.lt_of_le_of_lt (Nat.le_add_right i 4) hi) hy ha
  obtain ⟨q5, q6⟩ := nums2 i y.size 1 (Nat.lt_of_le_of_lt (Nat.add_le_add_left (by decide) i) hi)
  obtain ⟨q7, q8⟩ := nums2 i y.size 2 (Nat.lt_of_le_of_lt (Nat.add_le_add_left (by decide) i) hi)
  obtain ⟨q9, q10⟩ := nums2 i y.size 3 (Nat.lt_of_le_of_lt (Nat.add_le_add_left (by decide) i) hi)
  obtain ⟨q11, q12⟩ := nums2 i y.size 4 hi
  by_cases ga : a ≥ 0
  · have e : decide (a ≥ 0 ∧ b ≥ 0) = decide (b ≥ 0) := by simp [ga]
    rw [e] at h
    refine Ev.step (fun k => ?_) (Ev.bind h1 (f := fun k t148 => if t148 ≥ 0 then (errataref01_digit.f k (bt y ((i + 3 : Nat) : Int))).bind fun t149 => errataref01_Unquote.j2 k y acc (i : Int) (decide (t149 ≥ 0)) else errataref01_Unquote.j2 k y acc (i : Int) false)
      (Ev.congr (fun k => if_pos ga) (Ev.bind h2 (f := fun k t149 => errataref01_Unquote.j2 k y acc (i : Int) (decide (t149 ≥ 0))) h)))
    rw [errataref01_Unquote.j1]
    simp only [w1, w2, w3, wf, hc, q5, q6, q7, q8, q9, q10, q11, if_true, if_false, Bool.false_eq_true]
  · have e : decide (a ≥ 0 ∧ b ≥ 0) = false := by simp [ga]
    rw [e] at h
    refine Ev.step (fun k => ?_) (Ev.bind h1 (f := fun k t148 => if t148 ≥ 0 then (errataref01_digit.f k (bt y ((i + 3 : Nat) : Int))).bind fun t149 => errataref01_Unquote.j2 k y acc (i : Int) (decide (t149 ≥ 0)) else errataref01_Unquote.j2 k y acc (i : Int) false)
      (Ev.congr (fun k => if_neg ga) h))
    rw [errataref01_Unquote.j1]
    simp only [w1, w2, w3, wf, hc, q5, q6, q7, q8, q9, q10, q11, if_true, if_false, Bool.false_eq_true]
theorem byte_of (a : Int) (h0 : 0 ≤ a) (h1 : a < 256) : (wrap64 ((wrap64 (16 * (a / 16))) + a % 16)) % 256 = a := by unfold wrap64; omega
theorem un_sim (y : ByteArray) (hy : y.size ≤ 1073741824) {q b : List Int} (hcd : Cd q b) : ∀ (pre : List Int) (i : Nat) (acc : List Int), bytesOf y = pre ++ (q ++ [34]) → i = pre.length → acc.length ≤ i →
    ∀ {r : ByteArray × Int}, Ev (fun k => errataref01_Unquote.l0 k y (acc ++ b) ((i + q.length : Nat) : Int)) r → Ev (fun k => errataref01_Unquote.l0 k y acc (i : Int)) r := by
  induction hcd with
  | nil => intro pre i acc _ _ _ r h; simpa using h
  | raw c q b h1 h2 _ ih =>
    intro pre i acc hl hi ha r h
    obtain ⟨p1, p2⟩ := bt_list y i pre (q ++ [34]) c (by rw [hl]; simp) hi
    have hsz : i + 1 < y.size := by rw [← bytesOf_length, hl, List.length_append]; simp; omega
    refine un_push y hy acc i hsz (Or.inl (by rw [p2]; exact h2)) ha ?_
    rw [p2]
    refine ih (pre ++ [c]) (i + 1) (acc ++ [c]) (by rw [hl]; simp) (by simp; omega) (by simp; omega) ?_
    rw [List.append_assoc, show i + 1 + q.length = i + (c :: q).length from by simp; omega]
    exact h
  | esc c q b h1 _ ih =>
    intro pre i acc hl hi ha r h
    obtain ⟨p1, p2⟩ := bt_list y i pre (c :: q ++ [34]) 92 (by rw [hl]; simp) hi
    obtain ⟨p3, p4⟩ := bt_list y (i + 1) (pre ++ [92]) (q ++ [34]) c (by rw [hl]; simp) (by simp; omega)
    have hsz : i + 2 < y.size := by rw [← bytesOf_length, hl, List.length_append]; simp; omega
    refine un_slash y hy acc i hsz p2 ha (un_gate_no y hy acc i hsz ha (Or.inl (by rw [p4]; omega)) (un_two y hy acc i hsz ha ?_))
    rw [p4]
    refine ih (pre ++ [92, c]) (i + 2) (acc ++ [c]) (by rw [hl]; simp) (by simp; omega) (by simp; omega) ?_
    rw [List.append_assoc, show i + 2 + q.length = i + (92 :: c :: q).length from by simp; omega]
    exact h
  | hex a q b h1 h2 _ ih =>
    intro pre i acc hl hi ha r h
    obtain ⟨p1, p2⟩ := bt_list y i pre (120 :: hexI (a / 16) :: hexI (a % 16) :: q ++ [34]) 92 (by rw [hl]; simp) hi
    obtain ⟨p3, p4⟩ := bt_list y (i + 1) (pre ++ [92]) (hexI (a / 16) :: hexI (a % 16) :: q ++ [34]) 120 (by rw [hl]; simp) (by simp; omega)
    obtain ⟨p5, p6⟩ := bt_list y (i + 2) (pre ++ [92, 120]) (hexI (a % 16) :: q ++ [34]) (hexI (a / 16)) (by rw [hl]; simp) (by simp; omega)
    obtain ⟨p7, p8⟩ := bt_list y (i + 3) (pre ++ [92, 120, hexI (a / 16)]) (q ++ [34]) (hexI (a % 16)) (by rw [hl]; simp) (by simp; omega)
    have hsz : i + 4 < y.size := by rw [← bytesOf_length, hl, List.length_append]; simp; omega
    have hsz2 : i + 2 < y.size := Nat.lt_of_le_of_lt (Nat.add_le_add_left (by decide) i) hsz
    have d1 := dig_hex (a / 16) (by omega) (by omega)
    have d2 := dig_hex (a % 16) (by omega) (by omega)
    rw [← p6] at d1
    rw [← p8] at d2
    refine un_slash y hy acc i hsz2 p2 ha (un_gate y hy acc i hsz ha p4 _ _ d1 d2 ?_)
    rw [decide_eq_true (show a / 16 ≥ 0 ∧ a % 16 ≥ 0 from ⟨Int.ediv_nonneg h1 (by decide), Int.emod_nonneg _ (by decide)⟩)]
    refine un_four y hy acc i hsz ha _ _ d1 d2 ?_
    rw [byte_of a h1 h2]
    refine ih (pre ++ [92, 120, hexI (a / 16), hexI (a % 16)]) (i + 4) (acc ++ [a]) (by rw [hl]; simp) (by simp; omega) (by simp; omega) ?_
    rw [List.append_assoc, show i + 4 + q.length = i + (92 :: 120 :: hexI (a / 16) :: hexI (a % 16) :: q).length from by simp; omega]
    exact h
/-- what Unquote answers -/
def GoodU (y : ByteArray) (r : ByteArray × Int) : Prop := r = ((⟨#[]⟩ : ByteArray), 4) ∨ ∃ t : ByteArray, r = (t, 0) ∧ quoteB t = y ∧ t.size ≤ y.size
theorem un_out (y : ByteArray) (hy : y.size ≤ 1073741824) (i : Nat) (acc : List Int) (hi : ¬ i + 1 < y.size) (hb : i ≤ y.size) (ha : acc.length ≤ i) : ∃ r, Ev (fun k => errataref01_Unquote.l0 k y acc (i : Int)) r ∧ GoodU y r := by
  refine ⟨_, un_end y hy acc i hi hb ha, ?_⟩
  split
  · rename_i h; exact Or.inr ⟨_, rfl, h, by rw [strOfNums_size]; omega⟩
  · exact Or.inl rfl
theorem un_l0 (y : ByteArray) (hy : y.size ≤ 1073741824) (d : Nat) : ∀ (i : Nat) (acc : List Int), y.size - i ≤ d → acc.length ≤ i → i ≤ y.size → ∃ r, Ev (fun k => errataref01_Unquote.l0 k y acc (i : Int)) r ∧ GoodU y r := by
  induction d with
  | zero => intro i acc hd ha hle; exact un_out y hy i acc (by omega) hle ha
  | succ d ih =>
    intro i acc hd ha hle
    by_cases hi : i + 1 < y.size
    · have ih1 : ∀ c, ∃ r, Ev (fun k => errataref01_Unquote.l0 k y (acc ++ [c]) ((i + 1 : Nat) : Int)) r ∧ GoodU y r := fun c => ih (i + 1) _ (by omega) (by simp; omega) (by omega)
      have ih2 : i + 2 < y.size → ∀ c, ∃ r, Ev (fun k => errataref01_Unquote.l0 k y (acc ++ [c]) ((i + 2 : Nat) : Int)) r ∧ GoodU y r := fun hs c => ih (i + 2) _ (by omega) (by simp; omega) (by omega)
      have ih4 : i + 4 < y.size → ∀ c, ∃ r, Ev (fun k => errataref01_Unquote.l0 k y (acc ++ [c]) ((i + 4 : Nat) : Int)) r ∧ GoodU y r := fun hs c => ih (i + 4) _ (by omega) (by simp; omega) (by omega)
      by_cases h1 : bt y (i : Int) = 92
      · by_cases h2 : i + 2 < y.size
        · have two : ∃ r, Ev (fun k => errataref01_Unquote.j2 k y acc (i : Int) false) r ∧ GoodU y r := by
            obtain ⟨r, hr, hg⟩ := ih2 h2 _
            exact ⟨r, un_two y hy acc i h2 ha hr, hg⟩
          by_cases h3 : bt y ((i + 1 : Nat) : Int) = 120
          · by_cases h4 : i + 4 < y.size
            · obtain ⟨a, ea, _⟩ := dig_total (bt y ((i + 2 : Nat) : Int))
              obtain ⟨b, eb, _⟩ := dig_total (bt y ((i + 3 : Nat) : Int))
              by_cases hab : a ≥ 0 ∧ b ≥ 0
              · obtain ⟨r, hr, hg⟩ := ih4 h4 _
                exact ⟨r, un_slash y hy acc i h2 h1 ha (un_gate y hy acc i h4 ha h3 a b ea eb (by rw [decide_eq_true hab]; exact un_four y hy acc i h4 ha a b ea eb hr)), hg⟩
              · obtain ⟨r, hr, hg⟩ := two
                exact ⟨r, un_slash y hy acc i h2 h1 ha (un_gate y hy acc i h4 ha h3 a b ea eb (by rw [decide_eq_false hab]; exact hr)), hg⟩
            · obtain ⟨r, hr, hg⟩ := two
              exact ⟨r, un_slash y hy acc i h2 h1 ha (un_gate_no y hy acc i h2 ha (Or.inr h4) hr), hg⟩
          · obtain ⟨r, hr, hg⟩ := two
            exact ⟨r, un_slash y hy acc i h2 h1 ha (un_gate_no y hy acc i h2 ha (Or.inl h3) hr), hg⟩
        · obtain ⟨r, hr, hg⟩ := ih1 _
          exact ⟨r, un_push y hy acc i hi (Or.inr h2) ha hr, hg⟩
      · obtain ⟨r, hr, hg⟩ := ih1 _
        exact ⟨r, un_push y hy acc i hi (Or.inl h1) ha hr, hg⟩
    · exact un_out y hy i acc hi hle ha
end Go.Proofs.Ytijdlpbkmlplgaa.TL
/- The document's Unquote and Front are the program's. -/
set_option linter.unusedVariables false
set_option linter.unusedSimpArgs false
namespace Go.Proofs.Ytijdlpbkmlplgaa.TL
open Go.RowKit Go.Proofs.Ytijdlpbkmlplgaa.TS Go.Proofs.Ytijdlpbkmlplgaa.TR Go.Proofs.Ytijdlpbkmlplgaa.TX Go.Proofs.YtijdlpbkmlplgaaW.PrintWords Go.Proofs.YtijdlpbkmlplgaaW.PrintMore Go.Proofs.Ytijdlpbkmlplgaa.QF

theorem coded_len {q b : List Int} (hc : Cd q b) : b.length ≤ q.length := by
  induction hc with
  | nil => simp
  | raw c q b _ _ _ ih => simp; exact ih
  | esc c q b _ _ ih => simp; omega
  | hex a q b _ _ _ ih => simp; omega
theorem unq_total (y : ByteArray) (hy : y.size ≤ 1073741824) (h1 : 1 ≤ y.size) : ∃ r, Ev (fun k => errataref01_Unquote.f k y) r ∧ GoodU y r := un_l0 y hy y.size 1 [] (by omega) (by simp) h1
/-- the document's Unquote reads a quoted text back -/
theorem unq_back (y t : ByteArray) (hy : y.size ≤ 1073741824) (h : quoteB t = y) : Ev (fun k => errataref01_Unquote.f k y) (t, 0) := by
  have hq := quoteB_bytes t
  rw [h] at hq
  have hl2 : bytesOf y = [34] ++ (shownAll 34 t (runes t.data.toList) ++ [34]) := by rw [hq]; simp
  have hn3 : y.size = (shownAll 34 t (runes t.data.toList)).length + 2 := by rw [← bytesOf_length, hq]; simp
  have hlen := coded_len (quote_coded t)
  have he := un_end y hy (bytesOf t) (1 + (shownAll 34 t (runes t.data.toList)).length) (by omega) (by omega) (by omega)
  rw [strOfNums_bytesOf, if_pos h] at he
  exact un_sim y hy (quote_coded t) [34] 1 [] hl2 rfl (by simp) he
theorem quoteB_pos (t : ByteArray) : 2 ≤ (quoteB t).size := by
  rw [← bytesOf_length, quoteB_bytes]; simp
/-- an empty text is no quoted form -/
theorem unq_empty (y : ByteArray) (h0 : y.size = 0) : Ev (fun k => errataref01_Unquote.f k y) ((⟨#[]⟩ : ByteArray), 4) := by
  have q0 : (wrap64 ((1 : Int) + 1) < (y.size : Int)) = False := eq_false (by rw [h0]; unfold wrap64; omega)
  have hz : strOfNums ([] : List Int) = (⟨#[]⟩ : ByteArray) := rfl
  have hs : (strOfNums ([] : List Int)).size ≤ 1073741824 := by rw [strOfNums_size]; simp
  have hq : Ev (fun k => errataref01_Quote.f k (strOfNums ([] : List Int))) (quoteB (strOfNums ([] : List Int))) := ⟨_, fun k hk => quote_eq _ hs k hk⟩
  refine Ev.step (g := fun k => errataref01_Unquote.f k y) (fun k => ?_) (Ev.bind hq (f := fun _ t144 => if t144.toList = y.toList then some (strOfNums ([] : List Int), 0) else some ((⟨#[]⟩ : ByteArray), 4)) (Ev.congr (fun k => ?_) (Ev.now _)))
  · rw [errataref01_Unquote.f, errataref01_Unquote.l0, if_neg (by rw [q0]; exact not_false)]
  · simp only [tl_inj]
    rw [if_neg]
    intro h
    have := quoteB_pos (strOfNums ([] : List Int))
    rw [h] at this
    omega
/-! ### Front -/
theorem rf_step (x : ByteArray) (hx : x.size ≤ 1073741824) (i : Nat) (hi : i < x.size) (c : Int) (hb : bt x (i : Int) = c) (h1 : c ≠ 34) (h2 : c ≠ 92)
    {r : ByteArray × Int × Int} (h : Ev (fun k => errataref01_Front.l0 k x ((i + 1 : Nat) : Int)) r) : Ev (fun k => errataref01_Front.l0 k x (i : Int)) r := by
  obtain ⟨q0, q1, _, w1, w2, w3, _, w4, w5⟩ := nums1 i x.size 0 hi hx (Nat.zero_le _)
  have hj : Ev (fun k => errataref01_Front.j1 k x (i : Int) true) r := by
    refine Ev.step (fun k => ?_) h
    rw [errataref01_Front.j1]
    simp only [q0, q1, w1, hb, if_true, if_false, eq_false h2]
  refine Ev.step (fun k => ?_) hj
  rw [errataref01_Front.l0]
  simp only [q0, q1, hb, bne_iff_ne.mpr h1, if_true]
theorem rf_slash (x : ByteArray) (hx : x.size ≤ 1073741824) (i : Nat) (hi : i < x.size) (hb : bt x (i : Int) = 92)
    {r : ByteArray × Int × Int} (h : Ev (fun k => errataref01_Front.l0 k x ((i + 2 : Nat) : Int)) r) : Ev (fun k => errataref01_Front.l0 k x (i : Int)) r := by
  obtain ⟨q0, q1, _, w1, w2, w3, _, w4, w5⟩ := nums1 i x.size 0 hi hx (Nat.zero_le _)
  have hj : Ev (fun k => errataref01_Front.j1 k x (i : Int) true) r := by
    refine Ev.step (fun k => ?_) h
    rw [errataref01_Front.j1]
    simp only [q0, q1, w1, w5, hb, if_true]
  refine Ev.step (fun k => ?_) hj
  rw [errataref01_Front.l0]
  simp only [q0, q1, hb, show ((92 : Int) != 34) = true from rfl, if_true]
theorem rf_out (x : ByteArray) (i : Nat) (hi : ¬ i < x.size) : Ev (fun k => errataref01_Front.l0 k x (i : Int)) ((⟨#[]⟩ : ByteArray), 0, 4) := by
  have hj : Ev (fun k => errataref01_Front.j1 k x (i : Int) false) ((⟨#[]⟩ : ByteArray), 0, 4) := by
    refine Ev.step (fun k => ?_) (Ev.now _)
    rw [errataref01_Front.j1, if_neg (by decide), if_pos (by omega)]
  refine Ev.step (fun k => ?_) hj
  rw [errataref01_Front.l0, if_neg (by omega)]
theorem rf_end (x : ByteArray) (hx : x.size ≤ 1073741824) (i : Nat) (hi : i < x.size) (hb : bt x (i : Int) = 34) {u : ByteArray × Int}
    (hu : Ev (fun k => errataref01_Unquote.f k (x.extract 0 (i + 1))) u) :
    Ev (fun k => errataref01_Front.l0 k x (i : Int)) (if u.2 = 0 then (u.1, ((i + 1 : Nat) : Int), 0) else ((⟨#[]⟩ : ByteArray), 0, u.2)) := by
  obtain ⟨q0, q1, _, w1, w2, w3, _, w4, w5⟩ := nums1 i x.size 0 hi hx (Nat.zero_le _)
  have q2 : ((i : Int) ≥ (x.size : Int)) = False := eq_false (by clear hb hu q0; omega)
  have q6 : (0 ≤ ((i + 1 : Nat) : Int)) = True := eq_true (by omega)
  have q7 : (((i + 1 : Nat) : Int) ≤ (x.size : Int)) = True := eq_true (by clear hb hu q0 q2; omega)
  have tn : (((i + 1 : Nat) : Int)).toNat = i + 1 := Int.toNat_natCast _
  have hj : Ev (fun k => errataref01_Front.j1 k x (i : Int) false) (if u.2 = 0 then (u.1, ((i + 1 : Nat) : Int), 0) else ((⟨#[]⟩ : ByteArray), 0, u.2)) := by
    refine Ev.step (fun k => ?_) (Ev.bind hu (f := fun _ bt176 => if bt176.2 = 0 then some (bt176.1, ((i + 1 : Nat) : Int), 0) else some ((⟨#[]⟩ : ByteArray), 0, bt176.2)) (Ev.congr (fun k => ?_) (Ev.now _)))
    · rw [errataref01_Front.j1]
      simp only [q2, q6, q7, w1, tn, if_true, if_false, Bool.false_eq_true]
    · split <;> rfl
  refine Ev.step (fun k => ?_) hj
  rw [errataref01_Front.l0]
  simp only [q0, q1, hb, show ((34 : Int) != 34) = false from rfl, if_true]
theorem hexI_plain (n : Int) (h0 : 0 ≤ n) (h1 : n < 16) : hexI n ≠ 34 ∧ hexI n ≠ 92 := by unfold hexI; split <;> omega
theorem rf_sim (x : ByteArray) (hx : x.size ≤ 1073741824) {q b : List Int} (hcd : Cd q b) : ∀ (pre rest : List Int) (i : Nat), bytesOf x = pre ++ (q ++ 34 :: rest) → i = pre.length →
    ∀ {r : ByteArray × Int × Int}, Ev (fun k => errataref01_Front.l0 k x ((i + q.length : Nat) : Int)) r → Ev (fun k => errataref01_Front.l0 k x (i : Int)) r := by
  induction hcd with
  | nil => intro pre rest i _ _ r h; simpa using h
  | raw c q b h1 h2 _ ih =>
    intro pre rest i hl hi r h
    obtain ⟨p1, p2⟩ := bt_list x i pre (q ++ 34 :: rest) c (by rw [hl]; simp) hi
    refine rf_step x hx i p1 c p2 h1 h2 ?_
    refine ih (pre ++ [c]) rest (i + 1) (by rw [hl]; simp) (by simp; omega) ?_
    rw [show i + 1 + q.length = i + (c :: q).length from by simp; omega]
    exact h
  | esc c q b h1 _ ih =>
    intro pre rest i hl hi r h
    obtain ⟨p1, p2⟩ := bt_list x i pre (c :: q ++ 34 :: rest) 92 (by rw [hl]; simp) hi
    refine rf_slash x hx i p1 p2 ?_
    refine ih (pre ++ [92, c]) rest (i + 2) (by rw [hl]; simp) (by simp; omega) ?_
    rw [show i + 2 + q.length = i + (92 :: c :: q).length from by simp; omega]
    exact h
  | hex a q b h1 h2 _ ih =>
    intro pre rest i hl hi r h
    obtain ⟨p1, p2⟩ := bt_list x i pre (120 :: hexI (a / 16) :: hexI (a % 16) :: q ++ 34 :: rest) 92 (by rw [hl]; simp) hi
    obtain ⟨p5, p6⟩ := bt_list x (i + 2) (pre ++ [92, 120]) (hexI (a % 16) :: q ++ 34 :: rest) (hexI (a / 16)) (by rw [hl]; simp) (by simp; omega)
    obtain ⟨p7, p8⟩ := bt_list x (i + 3) (pre ++ [92, 120, hexI (a / 16)]) (q ++ 34 :: rest) (hexI (a % 16)) (by rw [hl]; simp) (by simp; omega)
    have e1 := hexI_plain (a / 16) (by omega) (by omega)
    have e2 := hexI_plain (a % 16) (by omega) (by omega)
    refine rf_slash x hx i p1 p2 (rf_step x hx (i + 2) p5 _ p6 e1.1 e1.2 (rf_step x hx (i + 3) p7 _ p8 e2.1 e2.2 ?_))
    refine ih (pre ++ [92, 120, hexI (a / 16), hexI (a % 16)]) rest (i + 4) (by rw [hl]; simp) (by simp; omega) ?_
    rw [show i + 4 + q.length = i + (92 :: 120 :: hexI (a / 16) :: hexI (a % 16) :: q).length from by simp; omega]
    exact h
theorem rf_total (x : ByteArray) (hx : x.size ≤ 1073741824) (d : Nat) : ∀ (i : Nat), x.size - i ≤ d → ∃ r, Ev (fun k => errataref01_Front.l0 k x (i : Int)) r ∧ Good x r := by
  induction d with
  | zero => intro i hd; exact ⟨_, rf_out x i (by omega), Or.inl rfl⟩
  | succ d ih =>
    intro i hd
    by_cases hi : i < x.size
    · have ih1 := ih (i + 1) (by omega)
      have ih2 := ih (i + 2) (by omega)
      have hsz : i + 1 ≤ x.size := hi
      have hex : (x.extract 0 (i + 1)).size = i + 1 := by rw [ByteArray.size_extract]; omega
      have hex2 : (x.extract 0 (i + 1)).size ≤ 1073741824 := by rw [hex]; omega
      have hex1 : 1 ≤ (x.extract 0 (i + 1)).size := by rw [hex]; omega
      have hex3 : (x.extract 0 (i + 1)).size ≤ x.size := by rw [hex]; omega
      generalize hb : bt x (i : Int) = c
      by_cases c1 : c = 34
      · subst c1
        obtain ⟨u, hu, hg⟩ := unq_total (x.extract 0 (i + 1)) hex2 hex1
        refine ⟨_, rf_end x hx i hi hb hu, ?_⟩
        rcases hg with rfl | ⟨t, rfl, ht, hts⟩
        · exact Or.inl rfl
        · exact Or.inr ⟨t, i + 1, rfl, hsz, ht, Nat.le_trans hts hex3⟩
      · by_cases c2 : c = 92
        · subst c2
          obtain ⟨r, hr, hg⟩ := ih2
          exact ⟨r, rf_slash x hx i hi hb hr, hg⟩
        · obtain ⟨r, hr, hg⟩ := ih1
          exact ⟨r, rf_step x hx i hi c hb c1 c2 hr, hg⟩
    · exact ⟨_, rf_out x i hi, Or.inl rfl⟩
theorem refFront_total (x : ByteArray) (hx : x.size ≤ 1073741824) : ∃ r, Ev (fun k => errataref01_Front.f k x) r ∧ Good x r := rf_total x hx x.size 1 (by omega)
theorem refFront_back (x t : ByteArray) (n : Nat) (hx : x.size ≤ 1073741824) (hn : n ≤ x.size) (h : quoteB t = x.extract 0 n) : Ev (fun k => errataref01_Front.f k x) (t, (n : Int), 0) := by
  obtain ⟨rest, hl⟩ : ∃ rest, bytesOf x = bytesOf (quoteB t) ++ rest := by
    refine ⟨(bytesOf x).drop n, ?_⟩
    rw [h, bytesOf_data (x.extract 0 n), Lib.extract_data, bytesOf_data]
    rw [Nat.sub_zero, List.drop_zero, List.map_take, List.take_append_drop]
  have hn2 : n = (quoteB t).size := by rw [h, ByteArray.size_extract]; omega
  have hq := quoteB_bytes t
  have hl2 : bytesOf x = [34] ++ (shownAll 34 t (runes t.data.toList) ++ 34 :: rest) := by rw [hl, hq]; simp
  have hn3 : n = (shownAll 34 t (runes t.data.toList)).length + 2 := by rw [hn2, ← bytesOf_length, hq]; simp
  obtain ⟨b3, b4⟩ := bt_list x (1 + (shownAll 34 t (runes t.data.toList)).length) ([34] ++ shownAll 34 t (runes t.data.toList)) rest 34 (by rw [hl2]; simp) (by simp; omega)
  have e : 1 + (shownAll 34 t (runes t.data.toList)).length + 1 = n := by omega
  have hs : (x.extract 0 n).size ≤ 1073741824 := by rw [← h, ← hn2]; omega
  have hu := unq_back (x.extract 0 n) t hs h
  have he := rf_end x hx _ b3 b4 (u := (t, 0)) (by rw [e]; exact hu)
  rw [e, if_pos rfl] at he
  exact rf_sim x hx (quote_coded t) [34] rest 1 hl2 rfl he
/-- THE TWO FRONTS ANSWER THE SAME. -/
theorem fronts (x : ByteArray) (hx : x.size ≤ 1073741824) : ∃ r, Ev (fun k => text_Front.f k x) r ∧ Ev (fun k => errataref01_Front.f k x) r ∧ Good x r := by
  obtain ⟨r, hr, hg⟩ := front_total x hx
  obtain ⟨r', hr', hg'⟩ := refFront_total x hx
  rcases hg with rfl | ⟨t, n, rfl, hn, ht, hts⟩
  · rcases hg' with rfl | ⟨t, n, rfl, hn, ht, hts⟩
    · exact ⟨_, hr, hr', Or.inl rfl⟩
    · exact ⟨_, front_back x t n hx hn ht, hr', Or.inr ⟨t, n, rfl, hn, ht, hts⟩⟩
  · exact ⟨_, hr, refFront_back x t n hx hn ht, Or.inr ⟨t, n, rfl, hn, ht, hts⟩⟩
theorem extract_all (x : ByteArray) : x.extract 0 x.size = x := by
  apply ByteArray.ext
  apply Array.toList_inj.1
  rw [Lib.extract_data, Nat.sub_zero, List.drop_zero, ← bytes_length, List.take_length]
/-- THE TWO UNQUOTES ANSWER THE SAME. -/
theorem unquotes (x : ByteArray) (hx : x.size ≤ 1073741824) : ∃ u, Ev (fun k => text_Unquote.f k x) u ∧ Ev (fun k => errataref01_Unquote.f k x) u := by
  obtain ⟨r, hr, _, hg⟩ := fronts x hx
  have hT : Ev (fun k => text_Unquote.f k x) (if r.2.2 = 0 then (if r.2.1 = (x.size : Int) then (r.1, 0) else ((⟨#[]⟩ : ByteArray), 4)) else ((⟨#[]⟩ : ByteArray), 4)) := by
    show Ev (fun k => (text_Front.f k x).bind fun bt173 => (if bt173.2.2 = 0 then (if bt173.2.1 = (x.size : Int) then (some (bt173.1, (0 : Int))) else (some ((⟨#[]⟩ : ByteArray), 4))) else (some ((⟨#[]⟩ : ByteArray), 4)))) _
    refine Ev.bind hr (f := fun _ bt173 => if bt173.2.2 = 0 then (if bt173.2.1 = (x.size : Int) then (some (bt173.1, (0 : Int))) else (some ((⟨#[]⟩ : ByteArray), 4))) else (some ((⟨#[]⟩ : ByteArray), 4))) (Ev.congr (fun k => ?_) (Ev.now _))
    split
    · split <;> rfl
    · rfl
  by_cases h0 : x.size = 0
  · refine ⟨_, hT, ?_⟩
    have : (if r.2.2 = 0 then (if r.2.1 = (x.size : Int) then (r.1, 0) else ((⟨#[]⟩ : ByteArray), 4)) else ((⟨#[]⟩ : ByteArray), 4)) = ((⟨#[]⟩ : ByteArray), (4 : Int)) := by
      rcases hg with rfl | ⟨t, n, rfl, hn, ht, _⟩
      · rfl
      · exfalso
        have h2 := quoteB_pos t
        rw [ht, ByteArray.size_extract] at h2
        omega
    rw [this]
    exact unq_empty x h0
  · obtain ⟨u, hu, hgu⟩ := unq_total x hx (by omega)
    rcases hgu with rfl | ⟨t, rfl, ht, hts⟩
    · refine ⟨_, hT, ?_⟩
      have : (if r.2.2 = 0 then (if r.2.1 = (x.size : Int) then (r.1, 0) else ((⟨#[]⟩ : ByteArray), 4)) else ((⟨#[]⟩ : ByteArray), 4)) = ((⟨#[]⟩ : ByteArray), (4 : Int)) := by
        rcases hg with rfl | ⟨t, n, rfl, hn, ht, _⟩
        · rfl
        · by_cases hnx : n = x.size
          · exfalso
            subst hnx
            rw [extract_all] at ht
            obtain ⟨K1, hk1⟩ := unq_back x t hx ht
            obtain ⟨K2, hk2⟩ := hu
            have e1 := hk1 (max K1 K2) (by omega)
            have e2 := hk2 (max K1 K2) (by omega)
            have e3 := e1.symm.trans e2
            simp at e3
          · simp only [if_true]
            rw [if_neg (by omega)]
      rw [this]; exact hu
    · have hf := front_back x t x.size hx (Nat.le_refl _) (by rw [extract_all]; exact ht)
      refine ⟨_, ?_, hu⟩
      show Ev (fun k => (text_Front.f k x).bind fun bt173 => (if bt173.2.2 = 0 then (if bt173.2.1 = (x.size : Int) then (some (bt173.1, (0 : Int))) else (some ((⟨#[]⟩ : ByteArray), 4))) else (some ((⟨#[]⟩ : ByteArray), 4)))) _
      refine Ev.bind hf (f := fun _ bt173 => if bt173.2.2 = 0 then (if bt173.2.1 = (x.size : Int) then (some (bt173.1, (0 : Int))) else (some ((⟨#[]⟩ : ByteArray), 4))) else (some ((⟨#[]⟩ : ByteArray), 4))) (Ev.congr (fun k => ?_) (Ev.now _))
      rw [if_pos rfl, if_pos rfl]
end Go.Proofs.Ytijdlpbkmlplgaa.TL
