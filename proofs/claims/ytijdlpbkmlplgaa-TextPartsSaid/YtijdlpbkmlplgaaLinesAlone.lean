import Derived.Test.YtijdlpbkmlplgaaTextRunes
import Derived.Test.YtijdlpbkmlplgaaTextExt
import Derived.Test.YtijdlpbkmlplgaaQL1
/- Words, chunks and Wrap by themselves, without the document's functions. -/
set_option linter.unusedVariables false
set_option linter.unusedSimpArgs false
namespace Go.Proofs.Ytijdlpbkmlplgaa.TL
open Go.RowKit Go.Proofs.Ytijdlpbkmlplgaa.TS Go.Proofs.Ytijdlpbkmlplgaa.TR Go.Proofs.Ytijdlpbkmlplgaa.TX Go.Proofs.YtijdlpbkmlplgaaW.PrintWords Go.Proofs.YtijdlpbkmlplgaaW.PrintMore Go.Proofs.Ytijdlpbkmlplgaa.QL

theorem bt_g (e : ByteArray) (k : Nat) (h : k < e.size) : bt e (k : Int) = ((g e.data.toList k : Nat) : Int) := by
  unfold bt g
  rw [dif_pos (by simpa using h)]
  have hk : k < e.data.toList.length := by rw [TR.bytes_length]; exact h
  rw [List.getD_eq_getElem?_getD, List.getElem?_eq_getElem hk]
  rfl
theorem g_lt (l : List UInt8) (k : Nat) : g l k < 256 := (l.getD k 0).toNat_lt
theorem bytesOf_data (b : ByteArray) : bytesOf b = b.data.toList.map (fun b => ((b.toNat : Nat) : Int)) := rfl
theorem wn (i : Nat) (c : Int) (j : Nat) (hc : (i : Int) + c = (j : Int)) (hj : j ≤ 4611686018427387904) : wrap64 ((i : Int) + c) = (j : Int) := by
  rw [hc]; unfold wrap64; omega
theorem tl_inj {a b : ByteArray} : a.toList = b.toList ↔ a = b := by
  constructor
  · intro h; rw [Lib.toList_data, Lib.toList_data] at h; exact ByteArray.ext (Array.toList_inj.1 h)
  · rintro rfl; rfl
theorem strOfNums_bytesOf (s : ByteArray) : strOfNums (bytesOf s) = s := by
  apply ByteArray.ext
  apply Array.toList_inj.1
  rw [strOfNums_data, bytesOf_data, List.map_map]
  conv => rhs; rw [← List.map_id s.data.toList]
  refine List.map_congr_left (fun b _ => ?_)
  show UInt8.ofNat (((b.toNat : Nat) : Int)).toNat = b
  simp
theorem cutPos_le (width : Int) (e : Nat) (l : List (Nat × Int)) : ∀ n, (∀ x ∈ l, x.1 ≤ e) → cutPos width e l n ≤ e := by
  induction l with
  | nil => intro n _; exact Nat.le_refl _
  | cons x t ih =>
    intro n h
    unfold cutPos
    split
    · exact h x (by simp)
    · exact ih _ (fun y hy => h y (by simp [hy]))
theorem cutPos_ge (width : Int) (e a : Nat) (he : a ≤ e) (l : List (Nat × Int)) : ∀ n, (∀ x ∈ l, a ≤ x.1) → a ≤ cutPos width e l n := by
  induction l with
  | nil => intro n _; exact he
  | cons x t ih =>
    intro n h
    unfold cutPos
    split
    · exact h x (by simp)
    · exact ih _ (fun y hy => h y (by simp [hy]))
theorem runesFrom_ge (ps : List Piece) : ∀ i, ∀ x ∈ runesFrom i ps, i ≤ x.1 := by
  induction ps with
  | nil => intro i x hx; cases hx
  | cons p t ih =>
    intro i x hx
    rcases List.mem_cons.1 hx with rfl | hx
    · exact Nat.le_refl _
    · have := ih _ x hx; omega
theorem cutB_size (s : ByteArray) (width : Int) : (cutB s width).size = cutPos width s.size (runes s.data.toList) 0 := by
  unfold cutB
  have := cutPos_le width s.size (runes s.data.toList) 0 (fun x hx => by obtain ⟨i, r⟩ := x; exact Nat.le_of_lt (runes_ok s hx).1)
  rw [ByteArray.size_extract]; omega
theorem cutB_le (s : ByteArray) (width : Int) : (cutB s width).size ≤ s.size := by
  rw [cutB_size]
  exact cutPos_le width s.size (runes s.data.toList) 0 (fun x hx => by obtain ⟨i, r⟩ := x; exact Nat.le_of_lt (runes_ok s hx).1)
theorem cutB_pos (s : ByteArray) (width : Int) (hw : 4 ≤ width) (hs : 0 < s.size) : 0 < (cutB s width).size := by
  rw [cutB_size]
  have hst := runesFrom_step s 0 hs
  rw [List.drop_zero] at hst
  have hwp := width_pos s 0
  show 0 < cutPos width s.size (runesFrom 0 (pieces s.data.toList)) 0
  rw [hst, cutPos]
  have hb := wideI_bd (rn (take1 s.data.toList).1)
  simp only
  rw [if_neg (show ¬ (0 + wideI (rn (take1 s.data.toList).1) > width) from by omega)]
  exact cutPos_ge width s.size 1 hs _ _ (fun x hx => by have := runesFrom_ge _ _ x hx; omega)
def chunksN (width : Int) : Nat → ByteArray → List ByteArray
  | 0, _ => []
  | n + 1, w => if w.size = 0 then [] else cutB w width :: chunksN width n (w.extract (cutB w width).size w.size)
def chunks (width : Int) (w : ByteArray) : List ByteArray := chunksN width w.size w
theorem rest_size (w : ByteArray) (width : Int) : (w.extract (cutB w width).size w.size).size = w.size - (cutB w width).size := by rw [ByteArray.size_extract]; omega
theorem chunksN_enough (width : Int) (hw : 4 ≤ width) (n : Nat) : ∀ (m : Nat) (w : ByteArray), w.size ≤ n → w.size ≤ m → chunksN width n w = chunksN width m w := by
  induction n with
  | zero =>
    intro m w h1 _
    cases m with
    | zero => rfl
    | succ m => unfold chunksN; rw [if_pos (by omega)]
  | succ n ih =>
    intro m w h1 h2
    by_cases h0 : w.size = 0
    · cases m with
      | zero => unfold chunksN; rw [if_pos h0]
      | succ m => unfold chunksN; rw [if_pos h0, if_pos h0]
    · obtain ⟨m, rfl⟩ : ∃ q, m = q + 1 := ⟨m - 1, by omega⟩
      have hp := cutB_pos w width hw (by omega)
      have hr := rest_size w width
      simp only [chunksN, if_neg h0]
      rw [ih m _ (by omega) (by omega)]
theorem chunks_nil (width : Int) (w : ByteArray) (h : w.size = 0) : chunks width w = [] := by unfold chunks; rw [h]; rfl
theorem chunks_cons (width : Int) (hw : 4 ≤ width) (w : ByteArray) (h : w.size ≠ 0) : chunks width w = cutB w width :: chunks width (w.extract (cutB w width).size w.size) := by
  have hp := cutB_pos w width hw (by omega)
  have hr := rest_size w width
  obtain ⟨n, hn⟩ : ∃ n, w.size = n + 1 := ⟨w.size - 1, by omega⟩
  have e1 := chunksN_enough width hw n _ (w.extract (cutB w width).size w.size) (by omega) (Nat.le_refl _)
  have e0 : chunksN width w.size w = chunksN width (n + 1) w := by rw [hn]
  show chunksN width w.size w = _
  rw [e0, chunksN, if_neg h, e1]
  rfl
def isBl (b : UInt8) : Bool := b == 32 || b == 10
def segsN (s : ByteArray) : Nat → Nat → Nat → List ByteArray
  | 0, frm, i => [s.extract frm i]
  | d + 1, frm, i => if isBl (s.get! i) then s.extract frm i :: segsN s d (i + 1) (i + 1) else segsN s d frm (i + 1)
def segs (s : ByteArray) (frm i : Nat) : List ByteArray := segsN s (s.size - i) frm i
theorem segs_end (s : ByteArray) (frm : Nat) : segs s frm s.size = [s.extract frm s.size] := by unfold segs; rw [Nat.sub_self]; rfl
theorem segs_step (s : ByteArray) (frm i : Nat) (h : i < s.size) : segs s frm i = if isBl (s.get! i) then s.extract frm i :: segs s (i + 1) (i + 1) else segs s frm (i + 1) := by
  unfold segs
  obtain ⟨d, hd⟩ : ∃ d, s.size - i = d + 1 := ⟨s.size - i - 1, by omega⟩
  rw [hd, segsN, show s.size - (i + 1) = d from by omega]
theorem segs_skip (s : ByteArray) (frm : Nat) (w : Nat) : ∀ i, i + w ≤ s.size → (∀ j, j < w → isBl (s.get! (i + j)) = false) → segs s frm i = segs s frm (i + w) := by
  induction w with
  | zero => intro i _ _; rfl
  | succ w ih =>
    intro i hi h
    have h0 := h 0 (by omega)
    rw [Nat.add_zero] at h0
    rw [segs_step s frm i (by omega), h0, if_neg (by simp), ih (i + 1) (by omega) (fun j hj => by have := h (j + 1) (by omega); rwa [show i + (j + 1) = i + 1 + j from by omega] at this)]
    rw [show i + 1 + w = i + (w + 1) from by omega]
/-- what is taken of a rune: a blank is one byte; the bytes of what is no blank are none -/
theorem enc_blank (r : Nat) (hb : r ≠ 32 ∧ r ≠ 10) (hr : r ≤ 1114111) : ∀ b ∈ enc r, isBl b = false := by
  intro b hb'
  have key : ∀ n : Nat, n < 256 → n ≠ 32 → n ≠ 10 → isBl (UInt8.ofNat n) = false := by
    intro n hn h1 h2
    unfold isBl
    have e1 : UInt8.ofNat n ≠ 32 := fun e => h1 (by have := congrArg UInt8.toNat e; rw [ofN hn] at this; exact this)
    have e2 : UInt8.ofNat n ≠ 10 := fun e => h2 (by have := congrArg UInt8.toNat e; rw [ofN hn] at this; exact this)
    simp [e1, e2]
  unfold enc at hb'
  split at hb'
  · simp only [List.mem_cons, List.not_mem_nil, or_false] at hb'; subst hb'; exact key _ (by omega) hb.1 hb.2
  · split at hb'
    · simp only [List.mem_cons, List.not_mem_nil, or_false] at hb'; rcases hb' with rfl | rfl <;> exact key _ (by omega) (by omega) (by omega)
    · split at hb'
      · simp only [List.mem_cons, List.not_mem_nil, or_false] at hb'; rcases hb' with rfl | rfl | rfl <;> exact key _ (by omega) (by omega) (by omega)
      · simp only [List.mem_cons, List.not_mem_nil, or_false] at hb'; rcases hb' with rfl | rfl | rfl | rfl <;> exact key _ (by omega) (by omega) (by omega)
theorem take1_blank (l : List UInt8) (h : l ≠ []) :
    (TX.blank ((take1 l).1.getD 65533) = true → (take1 l).2 = 1 ∧ isBl (l.getD 0 0) = true) ∧ (TX.blank ((take1 l).1.getD 65533) = false → ∀ j, j < (take1 l).2 → isBl (l.getD j 0) = false) := by
  have hw := take1_le l h
  cases e : (take1 l).1 with
  | none =>
    have hw1 := take1_none l e
    refine ⟨fun hb => by simp [TX.blank] at hb, fun _ j hj => ?_⟩
    obtain rfl : j = 0 := by omega
    have hg : ¬ g l 0 < 0x80 := fun hg => by unfold take1 at e; rw [if_pos hg] at e; cases e
    unfold g at hg
    generalize l.getD 0 0 = b at hg
    unfold isBl
    have e1 : b ≠ 32 := fun e => hg (by rw [e]; decide)
    have e2 : b ≠ 10 := fun e => hg (by rw [e]; decide)
    simp [e1, e2]
  | some r =>
    have hf := take1_form l r h e
    have hm := may_le (take1_may l r e)
    have hl : (enc r).length = (take1 l).2 := by rw [← hf, List.length_take]; omega
    have hget : ∀ j, j < (take1 l).2 → l.getD j 0 = (enc r).getD j 0 := fun j hj => by
      rw [← hf, List.getD_eq_getElem?_getD, List.getD_eq_getElem?_getD, List.getElem?_take, if_pos hj]
    refine ⟨fun hb => ?_, fun hb j hj => ?_⟩
    · have hr : r = 32 ∨ r = 10 := by simpa [TX.blank] using hb
      have e1 : enc r = [UInt8.ofNat r] := by unfold enc; rw [if_pos (by omega)]
      rw [e1] at hl hget
      simp only [List.length_cons, List.length_nil] at hl
      refine ⟨by omega, ?_⟩
      rw [hget 0 (by omega)]
      rcases hr with rfl | rfl <;> decide
    · have hr : r ≠ 32 ∧ r ≠ 10 := by
        constructor
        · rintro rfl; simp [TX.blank] at hb
        · rintro rfl; simp [TX.blank] at hb
      rw [hget j hj]
      refine enc_blank r hr hm _ ?_
      rw [List.getD_eq_getElem?_getD, List.getElem?_eq_getElem (by omega)]
      exact List.getElem_mem _
def exts (s : ByteArray) (l : List (Nat × Nat)) : List ByteArray := l.map fun x => s.extract x.1 x.2
theorem spans_step (p : Nat → Bool) (s : ByteArray) (f pos : Nat) (st : Option Nat) (acc : List (Nat × Nat)) (h : pos < s.size) :
    Lib.spansFromP p s (f + 1) pos st acc = if p (Utf8.decode s pos).1 = true then Lib.spansFromP p s f (pos + (Utf8.decode s pos).2) none (match st with | some a => acc ++ [(a, pos)] | none => acc)
      else Lib.spansFromP p s f (pos + (Utf8.decode s pos).2) (some (st.getD pos)) acc := by
  cases st <;> simp [Lib.spansFromP, h]
theorem fields_from (s : ByteArray) (width : Int) (f : Nat) : ∀ (pos : Nat) (st : Option Nat) (acc : List (Nat × Nat)), s.size - pos ≤ f → pos ≤ s.size →
    (exts s (Lib.closeSpans s (Lib.spansFromP TX.blank s f pos st acc))).flatMap (chunks width) = (exts s acc).flatMap (chunks width) ++ (segs s (st.getD pos) pos).flatMap (chunks width) := by
  have fin : ∀ (st : Option Nat) (acc : List (Nat × Nat)), (exts s (Lib.closeSpans s (acc, st))).flatMap (chunks width) = (exts s acc).flatMap (chunks width) ++ (segs s (st.getD s.size) s.size).flatMap (chunks width) := by
    intro st acc
    rw [segs_end]
    cases st with
    | none =>
      have : chunks width (s.extract s.size s.size) = [] := chunks_nil _ _ (by rw [ByteArray.size_extract]; omega)
      simp only [Lib.closeSpans, Option.getD_none, List.flatMap_cons, List.flatMap_nil, this, List.append_nil]
    | some a => simp [Lib.closeSpans, exts]
  induction f with
  | zero =>
    intro pos st acc hf hp
    obtain rfl : pos = s.size := by omega
    exact fin st acc
  | succ f ih =>
    intro pos st acc hf hp
    by_cases hlt : pos < s.size
    · have hne := drop_ne s pos hlt
      have htb := take1_blank (s.data.toList.drop pos) hne
      have hwl := take1_le _ hne
      have hw1 := (take1_width (s.data.toList.drop pos)).1
      rw [List.length_drop, bytes_length] at hwl
      have hdec := decode_eq s pos
      rw [spans_step _ _ _ _ _ _ hlt]
      rw [hdec]
      simp only
      generalize take1 (s.data.toList.drop pos) = tk at htb hwl hw1
      have hgd : ∀ j, (s.data.toList.drop pos).getD j 0 = s.get! (pos + j) := fun j => (get_drop s pos j).symm
      cases hb : TX.blank (tk.1.getD 65533) with
      | true =>
        obtain ⟨h1, h2⟩ := htb.1 hb
        rw [hgd 0, Nat.add_zero] at h2
        rw [segs_step s _ pos hlt, h2, if_pos rfl, if_pos rfl, h1]
        cases st with
        | none =>
          simp only
          rw [ih (pos + 1) none acc (by omega) (by omega)]
          have : chunks width (s.extract pos pos) = [] := chunks_nil _ _ (by rw [ByteArray.size_extract]; omega)
          simp only [Option.getD_none, List.flatMap_cons, this, List.nil_append]
        | some a =>
          simp only
          rw [ih (pos + 1) none _ (by omega) (by omega)]
          simp [exts]
      | false =>
        have h2 := htb.2 hb
        have hskip := segs_skip s (st.getD pos) tk.2 pos (by omega) (fun j hj => by rw [← hgd j]; exact h2 j hj)
        rw [if_neg (by simp), hskip]
        exact ih (pos + tk.2) (some (st.getD pos)) acc (by omega) (by omega)
    · obtain rfl : pos = s.size := by omega
      rw [Lib.spansFromP_end _ _ _ _ _ _ (by omega)]
      exact fin st acc
theorem fields_segs (s : ByteArray) (width : Int) : (Lib.goFieldsP TX.blank s).flatMap (chunks width) = (segs s 0 0).flatMap (chunks width) := by
  have h := fields_from s width s.size 0 none [] (by omega) (by omega)
  exact h
theorem chunks_len (width : Int) (hw : 4 ≤ width) (n : Nat) : ∀ w : ByteArray, w.size ≤ n → (chunks width w).length ≤ w.size := by
  induction n with
  | zero => intro w h; rw [chunks_nil _ _ (by omega)]; simp
  | succ n ih =>
    intro w h
    by_cases h0 : w.size = 0
    · rw [chunks_nil _ _ h0]; simp
    · have hp := cutB_pos w width hw (by omega)
      have hr := rest_size w width
      have := ih (w.extract (cutB w width).size w.size) (by omega)
      rw [chunks_cons width hw w h0, List.length_cons]
      omega
theorem tl_nil (x : ByteArray) : x.toList = ([] : List UInt8) ↔ x.size = 0 := by
  rw [Lib.toList_data, ← bytes_length, List.length_eq_zero_iff]
theorem bt_get (s : ByteArray) (i : Nat) (h : i < s.size) : bt s (i : Int) = (((s.get! i).toNat : Nat) : Int) := by
  rw [bt_g s i h]
  have := g_drop s 0 i
  rw [Nat.zero_add, List.drop_zero] at this
  rw [this]
theorem segs_size (s : ByteArray) (width : Int) (hw : 4 ≤ width) (d : Nat) : ∀ frm i : Nat, s.size - i = d → i ≤ s.size → frm ≤ i → (((segs s frm i).map (·.size)).sum ≤ s.size - frm) := by
  induction d with
  | zero =>
    intro frm i hd hi hf
    obtain rfl : i = s.size := by omega
    rw [segs_end]; simp [ByteArray.size_extract]
  | succ d ih =>
    intro frm i hd hi hf
    rw [segs_step s frm i (by omega)]
    split
    · have := ih (i + 1) (i + 1) (by omega) (by omega) (Nat.le_refl _)
      simp only [List.map_cons, List.sum_cons, ByteArray.size_extract]; omega
    · exact ih frm (i + 1) (by omega) (by omega) (by omega)
theorem chunks_size (width : Int) (hw : 4 ≤ width) (n : Nat) : ∀ w : ByteArray, w.size ≤ n → (∀ c ∈ chunks width w, 1 ≤ c.size) ∧ ((chunks width w).map (·.size)).sum = w.size := by
  induction n with
  | zero => intro w h; rw [chunks_nil _ _ (by omega)]; simp; omega
  | succ n ih =>
    intro w h
    by_cases h0 : w.size = 0
    · rw [chunks_nil _ _ h0]; simp; omega
    · have hp := cutB_pos w width hw (by omega)
      have hcl := cutB_le w width
      have hr := rest_size w width
      obtain ⟨i1, i2⟩ := ih (w.extract (cutB w width).size w.size) (by omega)
      rw [chunks_cons width hw w h0]
      refine ⟨fun c hc => ?_, ?_⟩
      · rcases List.mem_cons.1 hc with rfl | hc
        · exact hp
        · exact i1 c hc
      · rw [List.map_cons, List.sum_cons, i2, hr]; omega
def joinB (l : List ByteArray) : ByteArray := ⟨(Lib.join (l.map (·.data.toList)) [32]).toArray⟩
theorem joinB_list (l : List ByteArray) : (joinB l).data.toList = Lib.join (l.map (·.data.toList)) [32] := rfl
theorem joinB_one (c : ByteArray) : bytesOf (joinB [c]) = bytesOf c := by
  rw [bytesOf_data, joinB_list, List.map_cons, List.map_nil, Lib.join_one, bytesOf_data]
theorem joinB_snoc (l : List ByteArray) (c : ByteArray) (h : l ≠ []) : bytesOf (joinB (l ++ [c])) = (bytesOf (joinB l) ++ [32]) ++ bytesOf c := by
  obtain ⟨x, t, rfl⟩ := List.exists_cons_of_ne_nil h
  rw [bytesOf_data, bytesOf_data, bytesOf_data, joinB_list, joinB_list]
  simp only [List.cons_append, List.map_cons, List.map_append, List.map_nil, Lib.join_cons, Lib.joinTail, List.flatten_append, List.flatten_cons, List.flatten_nil, List.append_nil]
  simp
theorem joinB_len (l : List ByteArray) : (joinB l).size ≤ (l.map (·.size)).sum + l.length := by
  cases l with
  | nil => show 0 ≤ _; omega
  | cons x t =>
    rw [← bytes_length, joinB_list, List.map_cons, Lib.join_cons, List.length_append, Lib.joinTail_length, bytes_length]
    have e : Lib.lens (t.map (·.data.toList)) = (t.map (·.size)).sum := by
      induction t with
      | nil => rfl
      | cons y t ih => rw [List.map_cons, List.map_cons, List.sum_cons, ← ih, ← bytes_length]; simp [Lib.lens]
    rw [e]
    simp
    omega
/-- one chunk: what is out, what is in the line, the line's width -/
def stepA (width : Int) (st : List ByteArray × List ByteArray × Int) (c : ByteArray) : List ByteArray × List ByteArray × Int :=
  if st.2.1 ≠ [] ∧ widthI c > width - st.2.2 - 1 then (st.1 ++ [joinB st.2.1], [c], widthI c)
  else (st.1, st.2.1 ++ [c], if st.2.1 = [] then widthI c else st.2.2 + 1 + widthI c)
def endA (st : List ByteArray × List ByteArray × Int) : List ByteArray := if st.2.1 = [] then st.1 else st.1 ++ [joinB st.2.1]
def InvA (B : Nat) (st : List ByteArray × List ByteArray × Int) : Prop := st.1.length + st.2.1.length ≤ B ∧ (st.2.1.map (·.size)).sum ≤ B ∧ 0 ≤ st.2.2 ∧ st.2.2 ≤ 5 * B ∧ (st.2.1 = [] → st.2.2 = 0)
theorem widthI_bd (c : ByteArray) : 0 ≤ widthI c ∧ widthI c ≤ 4 * c.size := by
  have h1 := sumW_bd (runes c.data.toList)
  have h2 := runes_le c
  unfold widthI; omega
theorem stepA_inv (width : Int) (B : Nat) (st : List ByteArray × List ByteArray × Int) (c : ByteArray) (h : InvA B st) (hc : 1 ≤ c.size) : InvA (B + c.size) (stepA width st c) := by
  obtain ⟨h1, h2, h3, h4, h5⟩ := h
  have hw := widthI_bd c
  unfold stepA
  split
  · rename_i hf
    have : 0 < st.2.1.length := List.length_pos_iff.2 hf.1
    refine ⟨?_, ?_, ?_, ?_, ?_⟩ <;> simp <;> omega
  · refine ⟨?_, ?_, ?_, ?_, ?_⟩
    · simp; omega
    · simp; omega
    · simp only; split <;> omega
    · simp only; split <;> omega
    · intro e; simp at e

def Room (width : Int) (st : List ByteArray × List ByteArray × Int) (room : Int) : Prop := st.2.1 ≠ [] → room = width - st.2.2
theorem new_room (width n : Int) (h1 : 4 ≤ width) (h2 : width ≤ 9223372036854775807) (h3 : 0 ≤ n) (h4 : n ≤ 8589934592) : wrap64 ((wrap64 (width + 1)) - (wrap64 (n + 1))) = width - n := by unfold wrap64; omega
theorem less_room (width N n : Int) (h1 : 4 ≤ width) (h2 : width ≤ 9223372036854775807) (h3 : 0 ≤ n) (h4 : n ≤ 8589934592) (h5 : 0 ≤ N) (h6 : N ≤ 8589934592) : wrap64 ((width - N) - (wrap64 (n + 1))) = width - (N + 1 + n) := by unfold wrap64; omega
/-- one chunk of the program's -/
theorem wrap_chunk (width : Int) (hw : 4 ≤ width) (hw2 : width ≤ 9223372036854775807) (word : ByteArray) (h0 : word.size ≠ 0) (hws : word.size ≤ 1073741824) (B : Nat) (hB : B ≤ 1073741824) (st : List ByteArray × List ByteArray × Int) (hI : InvA B st) (room : Int) (hR : Room width st room)
    (F : List ByteArray) (nF i : Int) :
    ∃ room', Room width (stepA width st (cutB word width)) room' ∧ ∀ r, Ev (fun k => text_Wrap.l1 k width (stepA width st (cutB word width)).1 (stepA width st (cutB word width)).2.1 room' (word.extract (cutB word width).size word.size) F nF i) r →
      Ev (fun k => text_Wrap.l1 k width st.1 st.2.1 room word F nF i) r := by
  obtain ⟨out, line, N⟩ := st
  obtain ⟨i1, i2, i3, i4, i5⟩ := hI
  simp only at i1 i2 i3 i4 i5 hR
  have hcl := cutB_le word width
  have hcp := cutB_pos word width hw (by omega)
  have hwb := widthI_bd (cutB word width)
  have hcut : text_Cut.f word width = some (cutB word width) := by unfold text_Cut.f; rw [if_pos (show small word.size from hws)]
  have hwid : text_Width.f (cutB word width) = some (widthI (cutB word width)) := by unfold text_Width.f; rw [if_pos (show small (cutB word width).size from Nat.le_trans hcl hws)]
  have q0 : (word.toList = ([] : List UInt8)) = False := eq_false (fun e => h0 ((tl_nil word).1 e))
  have q1 : (0 ≤ ((cutB word width).size : Int)) = True := eq_true (by omega)
  have q2 : (((cutB word width).size : Int) ≤ (word.size : Int)) = True := eq_true (by omega)
  have tn : (((cutB word width).size : Int)).toNat = (cutB word width).size := Int.toNat_natCast _
  have q3 : (line.length < 8796093022208) = True := eq_true (by omega)
  have q4 : (out.length < 8796093022208) = True := eq_true (by omega)
  have hjl := joinB_len line
  have hjoin : strings_Join.f line (⟨#[32]⟩ : ByteArray) = some (joinB line) := by
    unfold strings_Join.f
    rw [if_pos]
    · rfl
    · refine ⟨by omega, ?_⟩
      have e : (Lib.join (line.map (·.data.toList)) [32]).length = (joinB line).size := by rw [← joinB_list, bytes_length]
      show (Lib.join (line.map (·.data.toList)) [32]).length ≤ _
      rw [e]; omega
  have hn4 : widthI (cutB word width) ≤ 8589934592 := by omega
  have hN4 : N ≤ 8589934592 := by omega
  have hn0 := hwb.1
  clear i1 i2 i4 hwb hjl hcl hcp hws
  generalize widthI (cutB word width) = n at hwid hn4 hn0 ⊢
  generalize hc : cutB word width = c at *
  have hnr := new_room width n hw hw2 hn0 hn4
  by_cases hl : line = []
  · subst hl
    have es : stepA width (out, [], N) c = (out, [c], widthI c) := by unfold stepA; rw [if_neg (by simp)]; simp
    rw [es]
    have hwc : widthI c = n := by
      have : text_Width.f c = some (widthI c) ∨ ¬ small c.size := by unfold text_Width.f; split <;> simp_all
      rcases this with h | h
      · rw [h] at hwid; exact Option.some.inj hwid
      · unfold text_Width.f at hwid; rw [if_neg h] at hwid; cases hwid
    rw [hwc]
    refine ⟨width - n, fun _ => rfl, fun r h => ?_⟩
    have hj : Ev (fun k => text_Wrap.j2 k width out [] room (word.extract c.size word.size) c n F nF i false) r := by
      refine Ev.step (fun k => ?_) h
      rw [text_Wrap.j2]
      simp only [List.length_nil, hnr, List.nil_append, if_true, if_false, Bool.false_eq_true, show (((0 : Nat) : Int) = 0) = True from by simp, show ((0 : Nat) < 8796093022208) = True from by simp]
    refine Ev.step (fun k => ?_) hj
    rw [text_Wrap.l1]
    simp only [q0, q1, q2, tn, hcut, hwid, if_true, if_false, Option.bind_some, List.length_nil, show ¬ (((0 : Nat) : Int) > 0) from by simp]
  · have hlp : 0 < line.length := List.length_pos_iff.2 hl
    have q5 : ((line.length : Int) > 0) = True := eq_true (by omega)
    have q6 : ((line.length : Int) = 0) = False := eq_false (by omega)
    have q7 : (0 ≤ (line.length : Int)) = True := eq_true (by omega)
    have hroom : room = width - N := hR hl
    have hwc : widthI c = n := by
      have : text_Width.f c = some (widthI c) ∨ ¬ small c.size := by unfold text_Width.f; split <;> simp_all
      rcases this with h | h
      · rw [h] at hwid; exact Option.some.inj hwid
      · unfold text_Width.f at hwid; rw [if_neg h] at hwid; cases hwid
    by_cases hf : n ≥ room
    · have es : stepA width (out, line, N) c = (out ++ [joinB line], [c], n) := by
        unfold stepA; rw [if_pos ⟨hl, by simp only; rw [hwc]; omega⟩, hwc]
      rw [es]
      refine ⟨width - n, fun _ => rfl, fun r h => ?_⟩
      have hj : Ev (fun k => text_Wrap.j2 k width out line room (word.extract c.size word.size) c n F nF i true) r := by
        refine Ev.step (fun k => ?_) h
        rw [text_Wrap.j2]
        simp only [hjoin, q4, q7, hnr, if_true, Option.bind_some, Int.toNat_zero, List.take_zero, List.length_nil, List.nil_append, show (((0 : Nat) : Int) = 0) = True from by simp, show ((0 : Nat) < 8796093022208) = True from by simp]
      refine Ev.step (fun k => ?_) hj
      rw [text_Wrap.l1]
      simp only [q0, q1, q2, q5, tn, hcut, hwid, if_true, if_false, Option.bind_some, decide_eq_true hf]
    · have es : stepA width (out, line, N) c = (out, line ++ [c], N + 1 + n) := by
        unfold stepA; rw [if_neg (fun e => by have e2 := e.2; simp only [hwc] at e2; omega), hwc]; simp only [hl, if_false]
      rw [es]
      have hlr := less_room width N n hw hw2 hn0 hn4 i3 hN4
      rw [← hroom] at hlr
      refine ⟨width - (N + 1 + n), fun _ => rfl, fun r h => ?_⟩
      have hj : Ev (fun k => text_Wrap.j2 k width out line room (word.extract c.size word.size) c n F nF i false) r := by
        refine Ev.step (fun k => ?_) h
        rw [text_Wrap.j2]
        simp only [q3, q6, hlr, if_true, if_false, Bool.false_eq_true]
      refine Ev.step (fun k => ?_) hj
      rw [text_Wrap.l1]
      simp only [q0, q1, q2, q5, tn, hcut, hwid, if_true, if_false, Option.bind_some, decide_eq_false hf]
/-- a word of the program's -/
theorem wrap_word (width : Int) (hw : 4 ≤ width) (hw2 : width ≤ 9223372036854775807) (F : List ByteArray) (nF : Int) (i : Nat) (hi : i ≤ 1073741824) (n : Nat) : ∀ (word : ByteArray) (B : Nat) (st : List ByteArray × List ByteArray × Int) (room : Int), word.size ≤ n → B + word.size ≤ 1073741824 → InvA B st → Room width st room →
    ∃ room', Room width ((chunks width word).foldl (stepA width) st) room' ∧ InvA (B + word.size) ((chunks width word).foldl (stepA width) st) ∧
      ∀ r, Ev (fun k => text_Wrap.l0 k width ((chunks width word).foldl (stepA width) st).1 ((chunks width word).foldl (stepA width) st).2.1 room' F nF ((i + 1 : Nat) : Int)) r →
        Ev (fun k => text_Wrap.l1 k width st.1 st.2.1 room word F nF (i : Int)) r := by
  have w1 := wn i 1 (i + 1) (by omega) (by omega)
  have out : ∀ (word : ByteArray) (B : Nat) (st : List ByteArray × List ByteArray × Int) (room : Int), word.size = 0 → InvA B st → Room width st room →
    ∃ room', Room width ((chunks width word).foldl (stepA width) st) room' ∧ InvA (B + word.size) ((chunks width word).foldl (stepA width) st) ∧
      ∀ r, Ev (fun k => text_Wrap.l0 k width ((chunks width word).foldl (stepA width) st).1 ((chunks width word).foldl (stepA width) st).2.1 room' F nF ((i + 1 : Nat) : Int)) r →
        Ev (fun k => text_Wrap.l1 k width st.1 st.2.1 room word F nF (i : Int)) r := by
    intro word B st room h0 hI hR
    rw [chunks_nil _ _ h0, h0]
    refine ⟨room, hR, hI, fun r h => Ev.step (fun k => ?_) h⟩
    rw [text_Wrap.l1, if_pos ((tl_nil word).2 h0)]
    simp only [w1, List.foldl_nil]
  induction n with
  | zero => intro word B st room hn hB hI hR; exact out word B st room (by omega) hI hR
  | succ n ih =>
    intro word B st room hn hB hI hR
    by_cases h0 : word.size = 0
    · exact out word B st room h0 hI hR
    · have hws : word.size ≤ 1073741824 := by omega
      have hB2 : B ≤ 1073741824 := by omega
      have hcl := cutB_le word width
      have hcp := cutB_pos word width hw (by omega)
      have hr := rest_size word width
      have hrn : (word.extract (cutB word width).size word.size).size ≤ n := by omega
      have hrB : B + (cutB word width).size + (word.extract (cutB word width).size word.size).size ≤ 1073741824 := by rw [hr]; omega
      have heq : B + (cutB word width).size + (word.extract (cutB word width).size word.size).size = B + word.size := by rw [hr]; omega
      obtain ⟨room1, hR1, hstep⟩ := wrap_chunk width hw hw2 word h0 hws B hB2 st hI room hR F nF (i : Int)
      have hI1 := stepA_inv width B st (cutB word width) hI hcp
      obtain ⟨room2, hR2, hI2, hgo⟩ := ih _ _ _ room1 hrn hrB hI1 hR1
      rw [chunks_cons width hw word h0, List.foldl_cons]
      rw [heq] at hI2
      exact ⟨room2, hR2, hI2, fun r h => hstep r (hgo r h)⟩
/-- all words of the program's -/
theorem wrap_words (width : Int) (hw : 4 ≤ width) (hw2 : width ≤ 9223372036854775807) (F : List ByteArray) (hF : F.length ≤ 1073741824) (d : Nat) : ∀ (i : Nat) (B : Nat) (st : List ByteArray × List ByteArray × Int) (room : Int), F.length - i = d → i ≤ F.length → B + ((F.drop i).map (·.size)).sum ≤ 1073741824 → InvA B st → Room width st room →
    Ev (fun k => text_Wrap.l0 k width st.1 st.2.1 room F (F.length : Int) (i : Int)) (endA (((F.drop i).flatMap (chunks width)).foldl (stepA width) st), 0) := by
  induction d with
  | zero =>
    intro i B st room hd hi hB hI hR
    obtain ⟨out, line, N⟩ := st
    obtain ⟨i1, i2, i3, i4, i5⟩ := hI
    simp only at i1 i2
    rw [List.drop_of_length_le (by omega)]
    have q0 : ((i : Int) < (F.length : Int)) = False := eq_false (by omega)
    simp only [List.flatMap_nil, List.foldl_nil, endA]
    by_cases hl : line = []
    · subst hl
      refine Ev.step (fun k => ?_) (Ev.now _)
      rw [text_Wrap.l0]
      simp only [q0, if_false, if_true, List.length_nil, show ¬ (((0 : Nat) : Int) > 0) from by simp]
    · have q5 : ((line.length : Int) > 0) = True := eq_true (by have := List.length_pos_iff.2 hl; omega)
      have hB' : B ≤ 1073741824 := by omega
      have hjl := joinB_len line
      have q4 : (out.length < 8796093022208) = True := eq_true (by omega)
      have hjoin : strings_Join.f line (⟨#[32]⟩ : ByteArray) = some (joinB line) := by
        unfold strings_Join.f
        rw [if_pos]
        · rfl
        · refine ⟨by omega, ?_⟩
          have e : (Lib.join (line.map (·.data.toList)) [32]).length = (joinB line).size := by rw [← joinB_list, bytes_length]
          show (Lib.join (line.map (·.data.toList)) [32]).length ≤ _
          rw [e]; omega
      refine Ev.step (fun k => ?_) (Ev.now _)
      rw [text_Wrap.l0]
      simp only [q0, q4, q5, hjoin, hl, if_false, if_true, Option.bind_some]
  | succ d ih =>
    intro i B st room hd hi hB hI hR
    have hlt : i < F.length := by omega
    have e1 : F.drop i = F[i] :: F.drop (i + 1) := List.drop_eq_getElem_cons hlt
    have hrd : rdOf ByteArray.empty F (i : Int) = F[i] := by
      unfold rdOf
      rw [Int.toNat_natCast, List.getD_eq_getElem?_getD, List.getElem?_eq_getElem hlt]; rfl
    rw [e1, List.map_cons, List.sum_cons] at hB
    rw [e1, List.flatMap_cons, List.foldl_append]
    obtain ⟨room', hR', hI', hgo⟩ := wrap_word width hw hw2 F (F.length : Int) i (by omega) F[i].size F[i] B st room (Nat.le_refl _) (by omega) hI hR
    have h2 := ih (i + 1) (B + F[i].size) _ room' (by omega) (by omega) (by omega) hI' hR'
    have h3 := hgo _ h2
    have q0 : ((i : Int) < (F.length : Int)) = True := eq_true (by omega)
    have q1 : (0 ≤ (i : Int)) = True := eq_true (by omega)
    refine Ev.step (fun k => ?_) h3
    rw [text_Wrap.l0]
    simp only [q0, q1, hrd, if_true]
theorem stepA_ne (width : Int) (st : List ByteArray × List ByteArray × Int) (c : ByteArray) : (stepA width st c).2.1 ≠ [] := by unfold stepA; split <;> simp
theorem inv0 : InvA 0 (([] : List ByteArray), ([] : List ByteArray), (0 : Int)) := ⟨by simp, by simp, by simp, by simp, fun _ => rfl⟩
theorem fold_inv (width : Int) (L : List ByteArray) (h1 : ∀ c ∈ L, 1 ≤ c.size) : ∀ (B : Nat) (st : List ByteArray × List ByteArray × Int), InvA B st → InvA (B + (L.map (·.size)).sum) (L.foldl (stepA width) st) := by
  induction L with
  | nil => intro B st h; simpa using h
  | cons c t ih =>
    intro B st h
    have h2 := ih (fun x hx => h1 x (by simp [hx])) _ _ (stepA_inv width B st c h (h1 c (by simp)))
    rw [List.map_cons, List.sum_cons, List.foldl_cons, ← Nat.add_assoc]
    exact h2
theorem endA_len (B : Nat) (st : List ByteArray × List ByteArray × Int) (h : InvA B st) : (endA st).length ≤ B := by
  have h1 := h.1
  unfold endA
  split
  · omega
  · rename_i hl
    have := List.length_pos_iff.2 hl
    simp; omega
theorem flat_size (width : Int) (hw : 4 ≤ width) (F : List ByteArray) : (∀ c ∈ F.flatMap (chunks width), 1 ≤ c.size) ∧ ((F.flatMap (chunks width)).map (·.size)).sum = (F.map (·.size)).sum := by
  induction F with
  | nil => simp
  | cons w t ih =>
    obtain ⟨c1, c2⟩ := chunks_size width hw w.size w (Nat.le_refl _)
    refine ⟨fun c hc => ?_, ?_⟩
    · rw [List.flatMap_cons, List.mem_append] at hc
      rcases hc with hc | hc
      · exact c1 c hc
      · exact ih.1 c hc
    · rw [List.flatMap_cons, List.map_append, List.sum_append, ih.2, c2, List.map_cons, List.sum_cons]
theorem len_le_sum (L : List ByteArray) (h : ∀ c ∈ L, 1 ≤ c.size) : L.length ≤ (L.map (·.size)).sum := by
  induction L with
  | nil => simp
  | cons c t ih => have h1 := h c (by simp); have := ih (fun x hx => h x (by simp [hx])); simp; omega
theorem spans_len (s : ByteArray) (p : Nat → Bool) (f : Nat) : ∀ (pos : Nat) (st : Option Nat) (acc : List (Nat × Nat)), (Lib.closeSpans s (Lib.spansFromP p s f pos st acc)).length ≤ acc.length + f + 1 := by
  have fin : ∀ (st : Option Nat) (acc : List (Nat × Nat)), (Lib.closeSpans s (acc, st)).length ≤ acc.length + 1 := by
    intro st acc
    cases st <;> simp [Lib.closeSpans]
  induction f with
  | zero => intro pos st acc; exact fin st acc
  | succ f ih =>
    intro pos st acc
    by_cases h : pos < s.size
    · rw [spans_step _ _ _ _ _ _ h]
      split
      · cases st with
        | none => have := ih (pos + (Utf8.decode s pos).2) none acc; simp only; omega
        | some a => have := ih (pos + (Utf8.decode s pos).2) none (acc ++ [(a, pos)]); rw [List.length_append] at this; simp only [List.length_cons, List.length_nil] at this; simp only; omega
      · have := ih (pos + (Utf8.decode s pos).2) (some (st.getD pos)) acc; omega
    · rw [Lib.spansFromP_end _ _ _ _ _ _ h]
      have := fin st acc; omega
/-- what Wrap answers -/
def wrapL (s : ByteArray) (width : Int) : List ByteArray × Int := if width < 4 then ([], 1) else (endA (((segs s 0 0).flatMap (chunks width)).foldl (stepA width) ([], [], 0)), 0)
theorem segs_facts (s : ByteArray) (width : Int) (hw : 4 ≤ width) (hs : s.size ≤ 1073741000) : (∀ c ∈ (segs s 0 0).flatMap (chunks width), 1 ≤ c.size) ∧ (((segs s 0 0).flatMap (chunks width)).map (·.size)).sum ≤ s.size := by
  obtain ⟨f1, f2⟩ := flat_size width hw (segs s 0 0)
  have := segs_size s width hw s.size 0 0 (by omega) (by omega) (Nat.le_refl _)
  exact ⟨f1, by rw [f2]; omega⟩
theorem wrap_eq (s : ByteArray) (hs : s.size ≤ 1073741000) (width : Int) (hw2 : width ≤ 9223372036854775807) : Ev (fun k => text_Wrap.f k s width) (wrapL s width) := by
  unfold wrapL
  by_cases h4 : width < 4
  · rw [if_pos h4]
    refine Ev.congr (fun k => ?_) (Ev.now _)
    rw [text_Wrap.f, if_pos h4]
  · rw [if_neg h4]
    have hw : 4 ≤ width := by omega
    obtain ⟨f1, f2⟩ := segs_facts s width hw hs
    have hfs := fields_segs s width
    have hsum := (flat_size width hw (Lib.goFieldsP TX.blank s)).2
    rw [hfs] at hsum
    have hFl : (Lib.goFieldsP TX.blank s).length ≤ 1073741824 := by
      have := spans_len s TX.blank s.size 0 none []
      unfold Lib.goFieldsP Lib.spansOfP
      rw [List.length_map]
      simp only [List.length_nil] at this
      omega
    have hff : strings_FieldsFunc.f s = some (Lib.goFieldsP TX.blank s) := by unfold strings_FieldsFunc.f; rw [if_pos (show small s.size by unfold small; omega)]
    have h := wrap_words width hw hw2 (Lib.goFieldsP TX.blank s) hFl _ 0 0 ([], [], 0) 0 rfl (by omega) (by rw [List.drop_zero]; omega) inv0 (fun e => absurd rfl e)
    rw [List.drop_zero, hfs] at h
    refine Ev.congr (fun k => ?_) h
    rw [text_Wrap.f, if_neg h4, hff]
    rfl
theorem wrapL_len (s : ByteArray) (hs : s.size ≤ 1073741000) (width : Int) : (wrapL s width).1.length ≤ 1073741824 := by
  unfold wrapL
  split
  · simp
  · have hw : 4 ≤ width := by omega
    obtain ⟨f1, f2⟩ := segs_facts s width hw hs
    have := endA_len _ _ (fold_inv width _ f1 0 _ inv0)
    simp only; omega
theorem same_l0 (l : List ByteArray) (hl : l.length ≤ 1073741824) (d : Nat) : ∀ i : Nat, l.length - i = d → i ≤ l.length → Ev (fun k => erratalaw01_sameTexts.l0 k l l (i : Int)) true := by
  induction d with
  | zero =>
    intro i hd hi
    refine Ev.step (fun k => ?_) (Ev.now _)
    rw [erratalaw01_sameTexts.l0, if_neg (by omega)]
  | succ d ih =>
    intro i hd hi
    have q0 : ((i : Int) < (l.length : Int)) = True := eq_true (by omega)
    have q1 : (0 ≤ (i : Int)) = True := eq_true (by omega)
    have w1 := wn i 1 (i + 1) (by omega) (by omega)
    refine Ev.step (fun k => ?_) (ih (i + 1) (by omega) (by omega))
    rw [erratalaw01_sameTexts.l0]
    simp only [q0, q1, w1, if_true]
theorem same_eq (l : List ByteArray) (hl : l.length ≤ 1073741824) : Ev (fun k => erratalaw01_sameTexts.f k l l) true := by
  refine Ev.congr (fun k => ?_) (same_l0 l hl l.length 0 (by omega) (by omega))
  rw [erratalaw01_sameTexts.f, if_pos rfl]; rfl
end Go.Proofs.Ytijdlpbkmlplgaa.TL
