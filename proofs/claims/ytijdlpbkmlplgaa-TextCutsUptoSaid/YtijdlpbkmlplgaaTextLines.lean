import Derived.Test.YtijdlpbkmlplgaaTextRef
import Derived.Test.YtijdlpbkmlplgaaQF3
import Derived.Test.YtijdlpbkmlplgaaQF4
import Derived.Test.YtijdlpbkmlplgaaQF5
/- The document's Cut is the program's. -/
set_option linter.unusedVariables false
set_option linter.unusedSimpArgs false
namespace Go.Proofs.Ytijdlpbkmlplgaa.TL
open Go.RowKit Go.Proofs.Ytijdlpbkmlplgaa.TS Go.Proofs.Ytijdlpbkmlplgaa.TR Go.Proofs.Ytijdlpbkmlplgaa.TX Go.Proofs.YtijdlpbkmlplgaaW.PrintWords Go.Proofs.YtijdlpbkmlplgaaW.PrintMore Go.Proofs.Ytijdlpbkmlplgaa.QF

theorem cut_step (s : ByteArray) (width n m : Int) (i k : Nat) (b : ByteArray) (o : Option Nat) (w : Nat) (q0 : ((i : Int) < (s.size : Int)) = True) (q1 : (0 ≤ (i : Int)) = True)
    (q2 : ((i : Int) ≤ ((min s.size (i + 4) : Nat) : Int)) = True) (q3 : (((min s.size (i + 4) : Nat) : Int) ≤ (s.size : Int)) = True) (q4 : ((i : Int) ≤ ((i + w : Nat) : Int)) = True) (q5 : (((i + w : Nat) : Int) ≤ (s.size : Int)) = True)
    (q6 : ((i : Int) ≤ (s.size : Int)) = True) (w4 : wrap64 ((i : Int) + 4) = ((i + 4 : Nat) : Int)) (ww : wrap64 ((i : Int) + (w : Int)) = ((i + w : Nat) : Int)) (e1 : ((i : Int)).toNat = i) (e2 : (((min s.size (i + 4) : Nat) : Int)).toNat = min s.size (i + 4)) (e3 : (((i + w : Nat) : Int)).toNat = i + w)
    (hb : errataref01_begins.f k (s.extract i (min s.size (i + 4))) = some (match (o, w) with | (none, _) => (0, 0) | (some r, w) => ((r : Int), (w : Int)))) (hw1 : o = none → w = 1) (q7 : ((w : Int) = 0) = False)
    (hsh : errataref01_shown.f k (i : Int) (s.extract i (i + w)) (rn o) false = some (b, m)) (wm : wrap64 (n + m) = n + m) :
    errataref01_Cut.l0 (k + 1) s width n (i : Int) = if n + m > width then some (s.extract 0 i) else errataref01_Cut.l0 k s width (n + m) ((i + w : Nat) : Int) := by
  rw [errataref01_Cut.l0]
  simp only [q0, q1, w4, mn_eq, q2, q3, e1, e2, hb, if_true, Option.bind_some]
  cases o with
  | none =>
    obtain rfl := hw1 rfl
    have ww' : wrap64 ((i : Int) + 1) = ((i + 1 : Nat) : Int) := ww
    have hsh' : errataref01_shown.f k (i : Int) (s.extract i (i + 1)) (-1) false = some (b, m) := hsh
    simp only [if_true, ww', q4, q5, q6, e3, hsh', wm, Option.bind_some]
  | some r =>
    have hsh' : errataref01_shown.f k (i : Int) (s.extract i (i + w)) (r : Int) false = some (b, m) := hsh
    simp only [q7, if_false, ww, q4, q5, q6, e3, if_true, hsh', wm, Option.bind_some]
theorem first_ok (s : ByteArray) (i w : Nat) (o : Option Nat) (hlt : i < s.size) (ht : take1 (s.data.toList.drop i) = (o, w)) (hw : w ≤ s.size - i) : okS s ⟨(i : Int), s.extract i (i + w), rn o⟩ := by
  have h := (pS_spec s (pieces (s.data.toList.drop i)) i (pieces_ok _) (pieces_flat _).symm (by omega)).1
  rw [pieces_cons _ (drop_ne s i hlt), ht] at h
  have hlen : ((s.data.toList.drop i).take w).length = w := by rw [List.length_take, List.length_drop, bytes_length]; omega
  have := h _ (by simp only [pS]; exact List.mem_cons_self)
  simp only [hlen] at this
  exact this
theorem cut_l0 (s : ByteArray) (hs : s.size ≤ 1073741824) (width : Int) (d : Nat) : ∀ (i : Nat) (n : Int), s.size - i = d → i ≤ s.size → 0 ≤ n → n ≤ 4 * i →
    Ev (fun k => errataref01_Cut.l0 k s width n (i : Int)) (s.extract 0 (cutPos width s.size (runesFrom i (pieces (s.data.toList.drop i))) n)) := by
  induction d using Nat.strongRecOn with
  | ind d ih =>
    intro i n hd hi hn0 hn
    by_cases hlt : i < s.size
    · have hne := drop_ne s i hlt
      have hw := take1_width (s.data.toList.drop i)
      have hwl := take1_le _ hne
      rw [List.length_drop, bytes_length] at hwl
      have hn1 := take1_none (s.data.toList.drop i)
      rw [pieces_cons _ hne]
      obtain ⟨o, w, ht⟩ : ∃ o w, take1 (s.data.toList.drop i) = (o, w) := ⟨_, _, rfl⟩
      rw [ht] at hw hwl hn1 ⊢
      simp only at hw hwl hn1 ⊢
      have hok := first_ok s i w o hlt ht hwl
      have hlen : ((s.data.toList.drop i).take w).length = w := by rw [List.length_take, List.length_drop, bytes_length]; omega
      have w4 : wrap64 ((i : Int) + 4) = ((i + 4 : Nat) : Int) := by rw [w64' _ (by omega) (by omega)]; omega
      have ww : wrap64 ((i : Int) + (w : Int)) = ((i + w : Nat) : Int) := by rw [w64' _ (by omega) (by omega)]; omega
      have q0 : (i : Int) < (s.size : Int) := by omega
      have q2 : (i : Int) ≤ ((min s.size (i + 4) : Nat) : Int) := by omega
      have q3 : ((min s.size (i + 4) : Nat) : Int) ≤ (s.size : Int) := by omega
      have q4 : (i : Int) ≤ ((i + w : Nat) : Int) := by omega
      have q5 : ((i + w : Nat) : Int) ≤ (s.size : Int) := by omega
      have q6 : (i : Int) ≤ (s.size : Int) := by omega
      have q7 : ¬ (w : Int) = 0 := by omega
      have e1 : ((i : Int)).toNat = i := by omega
      have e2 : (((min s.size (i + 4) : Nat) : Int)).toNat = min s.size (i + 4) := by omega
      have e3 : (((i + w : Nat) : Int)).toNat = i + w := by omega
      have q1 : 0 ≤ (i : Int) := by omega
      have n1 : s.size - (i + w) < d := by omega
      have n2 : i + w ≤ s.size := by omega
      have hm := wideI_bd (rn o)
      obtain ⟨m, hm2⟩ : ∃ m, wideI (rn o) = m := ⟨_, rfl⟩
      rw [hm2] at hm
      have n3 : 0 ≤ n + m := by omega
      have n4 : n + m ≤ 4 * ((i + w : Nat) : Int) := by omega
      have wm : wrap64 (n + m) = n + m := w64' _ n3 (by omega)
      have hext : runesFrom i ((o, (s.data.toList.drop i).take w) :: pieces ((s.data.toList.drop i).drop w)) = (i, rn o) :: runesFrom (i + w) (pieces (s.data.toList.drop (i + w))) := by
        simp only [runesFrom, hlen, List.drop_drop]
      obtain ⟨K, hK⟩ := ih (s.size - (i + w)) n1 (i + w) (n + m) rfl n2 n3 n4
      refine ⟨K + 41, fun k hk => ?_⟩
      obtain ⟨k, rfl⟩ : ∃ j, k = j + 41 := ⟨k - 41, by omega⟩
      have hb := begins_eq (s.extract i (min s.size (i + 4))) (win_size s i hlt).1 (win_size s i hlt).2 k
      rw [window s i, take1_take4, ht] at hb
      obtain ⟨b, hb1, _⟩ := shown_eq s _ hok false (k + 39)
      rw [if_neg (by simp)] at hb1
      have hb2 : errataref01_shown.f (k + 40) (i : Int) (s.extract i (i + w)) (rn o) false = some (b, m) := by rw [← hm2]; exact hb1
      have st := cut_step s width n m i (k + 40) b o w (eq_true q0) (eq_true q1) (eq_true q2) (eq_true q3) (eq_true q4) (eq_true q5) (eq_true q6) w4 ww e1 e2 e3 hb hn1 (eq_false q7) hb2 wm
      refine st.trans ?_
      rw [hext, cutPos]
      simp only [hm2]
      by_cases hgt : n + m > width
      · rw [if_pos hgt, if_pos hgt]
      · rw [if_neg hgt, if_neg hgt]
        exact hK (k + 40) (by omega)
    · have e : s.data.toList.drop i = [] := List.drop_of_length_le (by rw [bytes_length]; omega)
      rw [e, pieces_nil]
      refine Ev.step (fun k => ?_) (Ev.now _)
      rw [errataref01_Cut.l0, if_neg (show ¬ (i : Int) < (s.size : Int) from by omega)]
      simp only [runesFrom, cutPos, extract_whole]
theorem cut_eq (s : ByteArray) (hs : s.size ≤ 1073741824) (width : Int) : Ev (fun k => errataref01_Cut.f k s width) (cutB s width) := by
  have h := cut_l0 s hs width s.size 0 0 (by omega) (by omega) (by omega) (by omega)
  rw [List.drop_zero] at h
  exact h
end Go.Proofs.Ytijdlpbkmlplgaa.TL
/- A text's words by themselves: the chunks of a word; the fields of the library are the document's segments; the document's words are the chunks of the segments. -/
set_option linter.unusedVariables false
set_option linter.unusedSimpArgs false
namespace Go.Proofs.Ytijdlpbkmlplgaa.TL
open Go.RowKit Go.Proofs.Ytijdlpbkmlplgaa.TS Go.Proofs.Ytijdlpbkmlplgaa.TR Go.Proofs.Ytijdlpbkmlplgaa.TX Go.Proofs.YtijdlpbkmlplgaaW.PrintWords Go.Proofs.YtijdlpbkmlplgaaW.PrintMore Go.Proofs.Ytijdlpbkmlplgaa.QF

/-! ### Cut's length -/
theorem cutPos_le (width : Int) (e : Nat) (l : List (Nat × Int)) : ∀ n, (∀ x ∈ l, x.1 ≤ e) → cutPos width e l n ≤ e := by
  induction l with
  | nil => intro n _; exact Nat.le_refl _
  | cons x t ih =>
    intro n h
    unfold cutPos
    split
    · exact h x (by simp)
    · exact ih _ (fun y hy => h y (by simp [hy]))
theorem cutPos_ge (width : Int) (e a : Nat) (he : a ≤ e) (l : List (Nat × Int)) : ∀ n, (∀ x ∈ l, a ≤ x.1) → a ≤ cutPos width e l n := by
  induction l with
  | nil => intro n _; exact he
  | cons x t ih =>
    intro n h
    unfold cutPos
    split
    · exact h x (by simp)
    · exact ih _ (fun y hy => h y (by simp [hy]))
theorem runesFrom_ge (ps : List Piece) : ∀ i, ∀ x ∈ runesFrom i ps, i ≤ x.1 := by
  induction ps with
  | nil => intro i x hx; cases hx
  | cons p t ih =>
    intro i x hx
    rcases List.mem_cons.1 hx with rfl | hx
    · exact Nat.le_refl _
    · have := ih _ x hx; omega
theorem cutB_size (s : ByteArray) (width : Int) : (cutB s width).size = cutPos width s.size (runes s.data.toList) 0 := by
  unfold cutB
  have := cutPos_le width s.size (runes s.data.toList) 0 (fun x hx => by obtain ⟨i, r⟩ := x; exact Nat.le_of_lt (runes_ok s hx).1)
  rw [ByteArray.size_extract]; omega
theorem cutB_le (s : ByteArray) (width : Int) : (cutB s width).size ≤ s.size := by
  rw [cutB_size]
  exact cutPos_le width s.size (runes s.data.toList) 0 (fun x hx => by obtain ⟨i, r⟩ := x; exact Nat.le_of_lt (runes_ok s hx).1)
theorem cutB_pos (s : ByteArray) (width : Int) (hw : 4 ≤ width) (hs : 0 < s.size) : 0 < (cutB s width).size := by
  rw [cutB_size]
  have hst := runesFrom_step s 0 hs
  rw [List.drop_zero] at hst
  have hwp := width_pos s 0
  show 0 < cutPos width s.size (runesFrom 0 (pieces s.data.toList)) 0
  rw [hst, cutPos]
  have hb := wideI_bd (rn (take1 s.data.toList).1)
  simp only
  rw [if_neg (show ¬ (0 + wideI (rn (take1 s.data.toList).1) > width) from by omega)]
  exact cutPos_ge width s.size 1 hs _ _ (fun x hx => by have := runesFrom_ge _ _ x hx; omega)
/-! ### The chunks of a word -/
def chunksN (width : Int) : Nat → ByteArray → List ByteArray
  | 0, _ => []
  | n + 1, w => if w.size = 0 then [] else cutB w width :: chunksN width n (w.extract (cutB w width).size w.size)
def chunks (width : Int) (w : ByteArray) : List ByteArray := chunksN width w.size w
theorem rest_size (w : ByteArray) (width : Int) : (w.extract (cutB w width).size w.size).size = w.size - (cutB w width).size := by rw [ByteArray.size_extract]; omega
theorem chunksN_enough (width : Int) (hw : 4 ≤ width) (n : Nat) : ∀ (m : Nat) (w : ByteArray), w.size ≤ n → w.size ≤ m → chunksN width n w = chunksN width m w := by
  induction n with
  | zero =>
    intro m w h1 _
    cases m with
    | zero => rfl
    | succ m => unfold chunksN; rw [if_pos (by omega)]
  | succ n ih =>
    intro m w h1 h2
    by_cases h0 : w.size = 0
    · cases m with
      | zero => unfold chunksN; rw [if_pos h0]
      | succ m => unfold chunksN; rw [if_pos h0, if_pos h0]
    · obtain ⟨m, rfl⟩ : ∃ q, m = q + 1 := ⟨m - 1, by omega⟩
      have hp := cutB_pos w width hw (by omega)
      have hr := rest_size w width
      simp only [chunksN, if_neg h0]
      rw [ih m _ (by omega) (by omega)]
theorem chunks_nil (width : Int) (w : ByteArray) (h : w.size = 0) : chunks width w = [] := by unfold chunks; rw [h]; rfl
theorem chunks_cons (width : Int) (hw : 4 ≤ width) (w : ByteArray) (h : w.size ≠ 0) : chunks width w = cutB w width :: chunks width (w.extract (cutB w width).size w.size) := by
  have hp := cutB_pos w width hw (by omega)
  have hr := rest_size w width
  obtain ⟨n, hn⟩ : ∃ n, w.size = n + 1 := ⟨w.size - 1, by omega⟩
  have e1 := chunksN_enough width hw n _ (w.extract (cutB w width).size w.size) (by omega) (Nat.le_refl _)
  have e0 : chunksN width w.size w = chunksN width (n + 1) w := by rw [hn]
  show chunksN width w.size w = _
  rw [e0, chunksN, if_neg h, e1]
  rfl
/-! ### The segments of a text, byte by byte -/
def isBl (b : UInt8) : Bool := b == 32 || b == 10
def segsN (s : ByteArray) : Nat → Nat → Nat → List ByteArray
  | 0, frm, i => [s.extract frm i]
  | d + 1, frm, i => if isBl (s.get! i) then s.extract frm i :: segsN s d (i + 1) (i + 1) else segsN s d frm (i + 1)
def segs (s : ByteArray) (frm i : Nat) : List ByteArray := segsN s (s.size - i) frm i
theorem segs_end (s : ByteArray) (frm : Nat) : segs s frm s.size = [s.extract frm s.size] := by unfold segs; rw [Nat.sub_self]; rfl
theorem segs_step (s : ByteArray) (frm i : Nat) (h : i < s.size) : segs s frm i = if isBl (s.get! i) then s.extract frm i :: segs s (i + 1) (i + 1) else segs s frm (i + 1) := by
  unfold segs
  obtain ⟨d, hd⟩ : ∃ d, s.size - i = d + 1 := ⟨s.size - i - 1, by omega⟩
  rw [hd, segsN, show s.size - (i + 1) = d from by omega]
theorem segs_skip (s : ByteArray) (frm : Nat) (w : Nat) : ∀ i, i + w ≤ s.size → (∀ j, j < w → isBl (s.get! (i + j)) = false) → segs s frm i = segs s frm (i + w) := by
  induction w with
  | zero => intro i _ _; rfl
  | succ w ih =>
    intro i hi h
    have h0 := h 0 (by omega)
    rw [Nat.add_zero] at h0
    rw [segs_step s frm i (by omega), h0, if_neg (by simp), ih (i + 1) (by omega) (fun j hj => by have := h (j + 1) (by omega); rwa [show i + (j + 1) = i + 1 + j from by omega] at this)]
    rw [show i + 1 + w = i + (w + 1) from by omega]
/-- what is taken of a rune: a blank is one byte; the bytes of what is no blank are none -/
theorem enc_blank (r : Nat) (hb : r ≠ 32 ∧ r ≠ 10) (hr : r ≤ 1114111) : ∀ b ∈ enc r, isBl b = false := by
  intro b hb'
  have key : ∀ n : Nat, n < 256 → n ≠ 32 → n ≠ 10 → isBl (UInt8.ofNat n) = false := by
    intro n hn h1 h2
    unfold isBl
    have e1 : UInt8.ofNat n ≠ 32 := fun e => h1 (by have := congrArg UInt8.toNat e; rw [ofN hn] at this; exact this)
    have e2 : UInt8.ofNat n ≠ 10 := fun e => h2 (by have := congrArg UInt8.toNat e; rw [ofN hn] at this; exact this)
    simp [e1, e2]
  unfold enc at hb'
  split at hb'
  · simp only [List.mem_cons, List.not_mem_nil, or_false] at hb'; subst hb'; exact key _ (by omega) hb.1 hb.2
  · split at hb'
    · simp only [List.mem_cons, List.not_mem_nil, or_false] at hb'; rcases hb' with rfl | rfl <;> exact key _ (by omega) (by omega) (by omega)
    · split at hb'
      · simp only [List.mem_cons, List.not_mem_nil, or_false] at hb'; rcases hb' with rfl | rfl | rfl <;> exact key _ (by omega) (by omega) (by omega)
      · simp only [List.mem_cons, List.not_mem_nil, or_false] at hb'; rcases hb' with rfl | rfl | rfl | rfl <;> exact key _ (by omega) (by omega) (by omega)
theorem take1_blank (l : List UInt8) (h : l ≠ []) :
    (TX.blank ((take1 l).1.getD 65533) = true → (take1 l).2 = 1 ∧ isBl (l.getD 0 0) = true) ∧ (TX.blank ((take1 l).1.getD 65533) = false → ∀ j, j < (take1 l).2 → isBl (l.getD j 0) = false) := by
  have hw := take1_le l h
  cases e : (take1 l).1 with
  | none =>
    have hw1 := take1_none l e
    refine ⟨fun hb => by simp [TX.blank] at hb, fun _ j hj => ?_⟩
    obtain rfl : j = 0 := by omega
    have hg : ¬ g l 0 < 0x80 := fun hg => by unfold take1 at e; rw [if_pos hg] at e; cases e
    unfold g at hg
    generalize l.getD 0 0 = b at hg
    unfold isBl
    have e1 : b ≠ 32 := fun e => hg (by rw [e]; decide)
    have e2 : b ≠ 10 := fun e => hg (by rw [e]; decide)
    simp [e1, e2]
  | some r =>
    have hf := take1_form l r h e
    have hm := may_le (take1_may l r e)
    have hl : (enc r).length = (take1 l).2 := by rw [← hf, List.length_take]; omega
    have hget : ∀ j, j < (take1 l).2 → l.getD j 0 = (enc r).getD j 0 := fun j hj => by
      rw [← hf, List.getD_eq_getElem?_getD, List.getD_eq_getElem?_getD, List.getElem?_take, if_pos hj]
    refine ⟨fun hb => ?_, fun hb j hj => ?_⟩
    · have hr : r = 32 ∨ r = 10 := by simpa [TX.blank] using hb
      have e1 : enc r = [UInt8.ofNat r] := by unfold enc; rw [if_pos (by omega)]
      rw [e1] at hl hget
      simp only [List.length_cons, List.length_nil] at hl
      refine ⟨by omega, ?_⟩
      rw [hget 0 (by omega)]
      rcases hr with rfl | rfl <;> decide
    · have hr : r ≠ 32 ∧ r ≠ 10 := by
        constructor
        · rintro rfl; simp [TX.blank] at hb
        · rintro rfl; simp [TX.blank] at hb
      rw [hget j hj]
      refine enc_blank r hr hm _ ?_
      rw [List.getD_eq_getElem?_getD, List.getElem?_eq_getElem (by omega)]
      exact List.getElem_mem _
def exts (s : ByteArray) (l : List (Nat × Nat)) : List ByteArray := l.map fun x => s.extract x.1 x.2
theorem spans_step (p : Nat → Bool) (s : ByteArray) (f pos : Nat) (st : Option Nat) (acc : List (Nat × Nat)) (h : pos < s.size) :
    Lib.spansFromP p s (f + 1) pos st acc = if p (Utf8.decode s pos).1 = true then Lib.spansFromP p s f (pos + (Utf8.decode s pos).2) none (match st with | some a => acc ++ [(a, pos)] | none => acc)
      else Lib.spansFromP p s f (pos + (Utf8.decode s pos).2) (some (st.getD pos)) acc := by
  cases st <;> simp [Lib.spansFromP, h]
theorem fields_from (s : ByteArray) (width : Int) (f : Nat) : ∀ (pos : Nat) (st : Option Nat) (acc : List (Nat × Nat)), s.size - pos ≤ f → pos ≤ s.size →
    (exts s (Lib.closeSpans s (Lib.spansFromP TX.blank s f pos st acc))).flatMap (chunks width) = (exts s acc).flatMap (chunks width) ++ (segs s (st.getD pos) pos).flatMap (chunks width) := by
  have fin : ∀ (st : Option Nat) (acc : List (Nat × Nat)), (exts s (Lib.closeSpans s (acc, st))).flatMap (chunks width) = (exts s acc).flatMap (chunks width) ++ (segs s (st.getD s.size) s.size).flatMap (chunks width) := by
    intro st acc
    rw [segs_end]
    cases st with
    | none =>
      have : chunks width (s.extract s.size s.size) = [] := chunks_nil _ _ (by rw [ByteArray.size_extract]; omega)
      simp only [Lib.closeSpans, Option.getD_none, List.flatMap_cons, List.flatMap_nil, this, List.append_nil]
    | some a => simp [Lib.closeSpans, exts]
  induction f with
  | zero =>
    intro pos st acc hf hp
    obtain rfl : pos = s.size := by omega
    exact fin st acc
  | succ f ih =>
    intro pos st acc hf hp
    by_cases hlt : pos < s.size
    · have hne := drop_ne s pos hlt
      have htb := take1_blank (s.data.toList.drop pos) hne
      have hwl := take1_le _ hne
      have hw1 := (take1_width (s.data.toList.drop pos)).1
      rw [List.length_drop, bytes_length] at hwl
      have hdec := decode_eq s pos
      rw [spans_step _ _ _ _ _ _ hlt]
      rw [hdec]
      simp only
      generalize take1 (s.data.toList.drop pos) = tk at htb hwl hw1
      have hgd : ∀ j, (s.data.toList.drop pos).getD j 0 = s.get! (pos + j) := fun j => (get_drop s pos j).symm
      cases hb : TX.blank (tk.1.getD 65533) with
      | true =>
        obtain ⟨h1, h2⟩ := htb.1 hb
        rw [hgd 0, Nat.add_zero] at h2
        rw [segs_step s _ pos hlt, h2, if_pos rfl, if_pos rfl, h1]
        cases st with
        | none =>
          simp only
          rw [ih (pos + 1) none acc (by omega) (by omega)]
          have : chunks width (s.extract pos pos) = [] := chunks_nil _ _ (by rw [ByteArray.size_extract]; omega)
          simp only [Option.getD_none, List.flatMap_cons, this, List.nil_append]
        | some a =>
          simp only
          rw [ih (pos + 1) none _ (by omega) (by omega)]
          simp [exts]
      | false =>
        have h2 := htb.2 hb
        have hskip := segs_skip s (st.getD pos) tk.2 pos (by omega) (fun j hj => by rw [← hgd j]; exact h2 j hj)
        rw [if_neg (by simp), hskip]
        exact ih (pos + tk.2) (some (st.getD pos)) acc (by omega) (by omega)
    · obtain rfl : pos = s.size := by omega
      rw [Lib.spansFromP_end _ _ _ _ _ _ (by omega)]
      exact fin st acc
theorem fields_segs (s : ByteArray) (width : Int) : (Lib.goFieldsP TX.blank s).flatMap (chunks width) = (segs s 0 0).flatMap (chunks width) := by
  have h := fields_from s width s.size 0 none [] (by omega) (by omega)
  exact h
end Go.Proofs.Ytijdlpbkmlplgaa.TL
/- Wrap: the program's and the document's, each as one fold over the chunks of the words. -/
set_option linter.unusedVariables false
set_option linter.unusedSimpArgs false
namespace Go.Proofs.Ytijdlpbkmlplgaa.TL
open Go.RowKit Go.Proofs.Ytijdlpbkmlplgaa.TS Go.Proofs.Ytijdlpbkmlplgaa.TR Go.Proofs.Ytijdlpbkmlplgaa.TX Go.Proofs.YtijdlpbkmlplgaaW.PrintWords Go.Proofs.YtijdlpbkmlplgaaW.PrintMore Go.Proofs.Ytijdlpbkmlplgaa.QF

/-! ### The document's words -/
theorem chunks_len (width : Int) (hw : 4 ≤ width) (n : Nat) : ∀ w : ByteArray, w.size ≤ n → (chunks width w).length ≤ w.size := by
  induction n with
  | zero => intro w h; rw [chunks_nil _ _ (by omega)]; simp
  | succ n ih =>
    intro w h
    by_cases h0 : w.size = 0
    · rw [chunks_nil _ _ h0]; simp
    · have hp := cutB_pos w width hw (by omega)
      have hr := rest_size w width
      have := ih (w.extract (cutB w width).size w.size) (by omega)
      rw [chunks_cons width hw w h0, List.length_cons]
      omega
theorem tl_nil (x : ByteArray) : x.toList = ([] : List UInt8) ↔ x.size = 0 := by
  rw [Lib.toList_data, ← bytes_length, List.length_eq_zero_iff]
theorem bt_get (s : ByteArray) (i : Nat) (h : i < s.size) : bt s (i : Int) = (((s.get! i).toNat : Nat) : Int) := by
  rw [bt_g s i h]
  have := g_drop s 0 i
  rw [Nat.zero_add, List.drop_zero] at this
  rw [this]
theorem wordsl1 (s : ByteArray) (hs : s.size ≤ 1073741824) (width : Int) (hw : 4 ≤ width) (i : Nat) (hi : i ≤ s.size) (n : Nat) : ∀ (w : ByteArray) (acc : List ByteArray), w.size ≤ n → acc.length + w.size ≤ 1073741824 →
    ∀ {r : List ByteArray}, Ev (fun k => errataref01_words.l0 k s width (acc ++ chunks width w) ((i + 1 : Nat) : Int) ((i + 1 : Nat) : Int)) r → Ev (fun k => errataref01_words.l1 k s width acc (i : Int) w) r := by
  have w1 := wn i 1 (i + 1) (by omega) (by omega)
  induction n with
  | zero =>
    intro w acc hn hb r h
    have h0 : w.size = 0 := by omega
    rw [chunks_nil _ _ h0, List.append_nil] at h
    refine Ev.step (fun k => ?_) h
    rw [errataref01_words.l1, if_pos ((tl_nil w).2 h0)]
    simp only [w1]
  | succ n ih =>
    intro w acc hn hb r h
    by_cases h0 : w.size = 0
    · rw [chunks_nil _ _ h0, List.append_nil] at h
      refine Ev.step (fun k => ?_) h
      rw [errataref01_words.l1, if_pos ((tl_nil w).2 h0)]
      simp only [w1]
    · have hws : w.size ≤ 1073741824 := by omega
      have q1 : (acc.length < 8796093022208) = True := eq_true (by omega)
      have hp := cutB_pos w width hw (by omega)
      have hcl := cutB_le w width
      have hr := rest_size w width
      have hrn : (w.extract (cutB w width).size w.size).size ≤ n := by omega
      have hlen : (acc ++ [cutB w width]).length + (w.extract (cutB w width).size w.size).size ≤ 1073741824 := by rw [List.length_append, hr]; simp; omega
      rw [chunks_cons width hw w h0] at h
      have h2 := ih (w.extract (cutB w width).size w.size) (acc ++ [cutB w width]) hrn hlen (r := r) (by rw [List.append_assoc, List.singleton_append]; exact h)
      clear hlen hrn hr
      have q2 : (0 ≤ ((cutB w width).size : Int)) = True := eq_true (by omega)
      have q3 : (((cutB w width).size : Int) ≤ (w.size : Int)) = True := eq_true (by omega)
      have tn : (((cutB w width).size : Int)).toNat = (cutB w width).size := Int.toNat_natCast _
      have q4 : (w.toList = ([] : List UInt8)) = False := eq_false (fun e => h0 ((tl_nil w).1 e))
      refine Ev.step (fun k => ?_) (Ev.bind (cut_eq w hws width) (f := fun k t229 => if acc.length < 8796093022208 then (if 0 ≤ (t229.size : Int) then (if (t229.size : Int) ≤ (w.size : Int) then (errataref01_words.l1 k s width (acc ++ [t229]) (i : Int) (w.extract ((t229.size : Int) : Int).toNat w.size)) else (none)) else (none)) else (none)) (Ev.congr (fun k => ?_) h2))
      · rw [errataref01_words.l1]
        simp only [q4, if_false]
      · simp only [q1, q2, q3, tn, if_true]
theorem wordsl0 (s : ByteArray) (hs : s.size ≤ 1073741824) (width : Int) (hw : 4 ≤ width) (d : Nat) : ∀ (frm i : Nat) (acc : List ByteArray), s.size - i = d → i ≤ s.size → frm ≤ i → acc.length ≤ frm →
    Ev (fun k => errataref01_words.l0 k s width acc (frm : Int) (i : Int)) (acc ++ (segs s frm i).flatMap (chunks width)) := by
  -- a segment that ends at i
  have seg : ∀ (frm i : Nat) (acc : List ByteArray) (r : List ByteArray), i ≤ s.size → frm ≤ i → acc.length ≤ frm →
      Ev (fun k => errataref01_words.l0 k s width (acc ++ chunks width (s.extract frm i)) ((i + 1 : Nat) : Int) ((i + 1 : Nat) : Int)) r → Ev (fun k => errataref01_words.j1 k s width acc (frm : Int) (i : Int) false) r := by
    intro frm i acc r hi hf ha h
    have hsz : (s.extract frm i).size = i - frm := by rw [ByteArray.size_extract]; omega
    have h2 := wordsl1 s hs width hw i hi (s.extract frm i).size (s.extract frm i) acc (Nat.le_refl _) (by omega) h
    have q1 : (0 ≤ (frm : Int)) = True := eq_true (by omega)
    have q2 : ((frm : Int) ≤ (i : Int)) = True := eq_true (by omega)
    have q3 : ((i : Int) ≤ (s.size : Int)) = True := eq_true (by omega)
    refine Ev.step (fun k => ?_) h2
    rw [errataref01_words.j1]
    simp only [q1, q2, q3, Int.toNat_natCast, if_true, if_false, Bool.false_eq_true]
  have hlen : ∀ (frm i : Nat) (acc : List ByteArray), frm ≤ i → i ≤ s.size → acc.length ≤ frm → (acc ++ chunks width (s.extract frm i)).length ≤ i := by
    intro frm i acc h1 h2 h3
    have hsz : (s.extract frm i).size = i - frm := by rw [ByteArray.size_extract]; omega
    have := chunks_len width hw _ (s.extract frm i) (Nat.le_refl _)
    rw [List.length_append]; omega
  induction d with
  | zero =>
    intro frm i acc hd hi hf ha
    obtain rfl : i = s.size := by omega
    rw [segs_end, List.flatMap_cons, List.flatMap_nil, List.append_nil]
    have hend : Ev (fun k => errataref01_words.l0 k s width (acc ++ chunks width (s.extract frm s.size)) ((s.size + 1 : Nat) : Int) ((s.size + 1 : Nat) : Int)) (acc ++ chunks width (s.extract frm s.size)) := by
      refine Ev.step (fun k => ?_) (Ev.now _)
      rw [errataref01_words.l0, if_neg (by omega)]
    refine Ev.step (fun k => ?_) (seg frm s.size acc _ (Nat.le_refl _) hf ha hend)
    rw [errataref01_words.l0, if_pos (by omega), if_neg (by omega)]
  | succ d ih =>
    intro frm i acc hd hi hf ha
    have hlt : i < s.size := by omega
    have hbt := bt_get s i hlt
    have w1 := wn i 1 (i + 1) (by omega) (by omega)
    have q0 : ((i : Int) ≤ (s.size : Int)) = True := eq_true (by omega)
    have q1 : ((i : Int) < (s.size : Int)) = True := eq_true (by omega)
    have q2 : (0 ≤ (i : Int)) = True := eq_true (by omega)
    rw [segs_step s frm i hlt]
    by_cases hb : isBl (s.get! i) = true
    · rw [if_pos hb, List.flatMap_cons, ← List.append_assoc]
      have h2 := ih (i + 1) (i + 1) (acc ++ chunks width (s.extract frm i)) (by omega) (by omega) (Nat.le_refl _) (Nat.le_succ_of_le (hlen frm i acc hf hi ha))
      have h3 := seg frm i acc _ hi hf ha h2
      refine Ev.step (fun k => ?_) h3
      rw [errataref01_words.l0]
      simp only [q0, q1, q2, hbt, if_true]
      unfold isBl at hb
      generalize s.get! i = b at hb
      rcases (Bool.or_eq_true _ _).mp hb with hb | hb
      · obtain rfl := eq_of_beq hb
        rw [if_pos (by decide)]
      · obtain rfl := eq_of_beq hb
        rw [if_neg (by decide)]
        rfl
    · rw [if_neg hb]
      have h2 := ih frm (i + 1) acc (by omega) (by omega) (by omega) ha
      have h3 : Ev (fun k => errataref01_words.j1 k s width acc (frm : Int) (i : Int) true) (acc ++ (segs s frm (i + 1)).flatMap (chunks width)) := by
        refine Ev.step (fun k => ?_) h2
        rw [errataref01_words.j1]
        simp only [w1, if_true]
      refine Ev.step (fun k => ?_) h3
      rw [errataref01_words.l0]
      simp only [q0, q1, q2, hbt, if_true]
      unfold isBl at hb
      generalize s.get! i = b at hb
      have e : ¬ (b = 32 ∨ b = 10) := fun e => hb (by rcases e with rfl | rfl <;> decide)
      have hn : ∀ c : UInt8, b ≠ c → ¬ ((b.toNat : Nat) : Int) = ((c.toNat : Nat) : Int) := fun c hc e => hc (UInt8.toNat_inj.1 (by omega))
      have e1 : ¬ ((b.toNat : Nat) : Int) = 32 := hn 32 (fun q => e (.inl q))
      have e2 : ((b.toNat : Nat) : Int) ≠ 10 := hn 10 (fun q => e (.inr q))
      rw [if_neg e1, bne_iff_ne.mpr e2]
theorem words_eq (s : ByteArray) (hs : s.size ≤ 1073741824) (width : Int) (hw : 4 ≤ width) : Ev (fun k => errataref01_words.f k s width) ((segs s 0 0).flatMap (chunks width)) :=
  wordsl0 s hs width hw s.size 0 0 [] (by omega) (by omega) (Nat.le_refl _) (by simp)
theorem segs_size (s : ByteArray) (width : Int) (hw : 4 ≤ width) (d : Nat) : ∀ frm i : Nat, s.size - i = d → i ≤ s.size → frm ≤ i → (((segs s frm i).map (·.size)).sum ≤ s.size - frm) := by
  induction d with
  | zero =>
    intro frm i hd hi hf
    obtain rfl : i = s.size := by omega
    rw [segs_end]; simp [ByteArray.size_extract]
  | succ d ih =>
    intro frm i hd hi hf
    rw [segs_step s frm i (by omega)]
    split
    · have := ih (i + 1) (i + 1) (by omega) (by omega) (Nat.le_refl _)
      simp only [List.map_cons, List.sum_cons, ByteArray.size_extract]; omega
    · exact ih frm (i + 1) (by omega) (by omega) (by omega)
theorem chunks_size (width : Int) (hw : 4 ≤ width) (n : Nat) : ∀ w : ByteArray, w.size ≤ n → (∀ c ∈ chunks width w, 1 ≤ c.size) ∧ ((chunks width w).map (·.size)).sum = w.size := by
  induction n with
  | zero => intro w h; rw [chunks_nil _ _ (by omega)]; simp; omega
  | succ n ih =>
    intro w h
    by_cases h0 : w.size = 0
    · rw [chunks_nil _ _ h0]; simp; omega
    · have hp := cutB_pos w width hw (by omega)
      have hcl := cutB_le w width
      have hr := rest_size w width
      obtain ⟨i1, i2⟩ := ih (w.extract (cutB w width).size w.size) (by omega)
      rw [chunks_cons width hw w h0]
      refine ⟨fun c hc => ?_, ?_⟩
      · rcases List.mem_cons.1 hc with rfl | hc
        · exact hp
        · exact i1 c hc
      · rw [List.map_cons, List.sum_cons, i2, hr]; omega
end Go.Proofs.Ytijdlpbkmlplgaa.TL
/- Wrap, on both sides, is one fold over the chunks. -/
set_option linter.unusedVariables false
set_option linter.unusedSimpArgs false
namespace Go.Proofs.Ytijdlpbkmlplgaa.TL
open Go.RowKit Go.Proofs.Ytijdlpbkmlplgaa.TS Go.Proofs.Ytijdlpbkmlplgaa.TR Go.Proofs.Ytijdlpbkmlplgaa.TX Go.Proofs.YtijdlpbkmlplgaaW.PrintWords Go.Proofs.YtijdlpbkmlplgaaW.PrintMore Go.Proofs.Ytijdlpbkmlplgaa.QF

def joinB (l : List ByteArray) : ByteArray := ⟨(Lib.join (l.map (·.data.toList)) [32]).toArray⟩
theorem joinB_list (l : List ByteArray) : (joinB l).data.toList = Lib.join (l.map (·.data.toList)) [32] := rfl
theorem joinB_one (c : ByteArray) : bytesOf (joinB [c]) = bytesOf c := by
  rw [bytesOf_data, joinB_list, List.map_cons, List.map_nil, Lib.join_one, bytesOf_data]
theorem joinB_snoc (l : List ByteArray) (c : ByteArray) (h : l ≠ []) : bytesOf (joinB (l ++ [c])) = (bytesOf (joinB l) ++ [32]) ++ bytesOf c := by
  obtain ⟨x, t, rfl⟩ := List.exists_cons_of_ne_nil h
  rw [bytesOf_data, bytesOf_data, bytesOf_data, joinB_list, joinB_list]
  simp only [List.cons_append, List.map_cons, List.map_append, List.map_nil, Lib.join_cons, Lib.joinTail, List.flatten_append, List.flatten_cons, List.flatten_nil, List.append_nil]
  simp
theorem joinB_len (l : List ByteArray) : (joinB l).size ≤ (l.map (·.size)).sum + l.length := by
  cases l with
  | nil => show 0 ≤ _; omega
  | cons x t =>
    rw [← bytes_length, joinB_list, List.map_cons, Lib.join_cons, List.length_append, Lib.joinTail_length, bytes_length]
    have e : Lib.lens (t.map (·.data.toList)) = (t.map (·.size)).sum := by
      induction t with
      | nil => rfl
      | cons y t ih => rw [List.map_cons, List.map_cons, List.sum_cons, ← ih, ← bytes_length]; simp [Lib.lens]
    rw [e]
    simp
    omega
/-- one chunk: what is out, what is in the line, the line's width -/
def stepA (width : Int) (st : List ByteArray × List ByteArray × Int) (c : ByteArray) : List ByteArray × List ByteArray × Int :=
  if st.2.1 ≠ [] ∧ widthI c > width - st.2.2 - 1 then (st.1 ++ [joinB st.2.1], [c], widthI c)
  else (st.1, st.2.1 ++ [c], if st.2.1 = [] then widthI c else st.2.2 + 1 + widthI c)
def endA (st : List ByteArray × List ByteArray × Int) : List ByteArray := if st.2.1 = [] then st.1 else st.1 ++ [joinB st.2.1]
def InvA (B : Nat) (st : List ByteArray × List ByteArray × Int) : Prop := st.1.length + st.2.1.length ≤ B ∧ (st.2.1.map (·.size)).sum ≤ B ∧ 0 ≤ st.2.2 ∧ st.2.2 ≤ 5 * B ∧ (st.2.1 = [] → st.2.2 = 0)
theorem widthI_bd (c : ByteArray) : 0 ≤ widthI c ∧ widthI c ≤ 4 * c.size := by
  have h1 := sumW_bd (runes c.data.toList)
  have h2 := runes_le c
  unfold widthI; omega
theorem stepA_inv (width : Int) (B : Nat) (st : List ByteArray × List ByteArray × Int) (c : ByteArray) (h : InvA B st) (hc : 1 ≤ c.size) : InvA (B + c.size) (stepA width st c) := by
  obtain ⟨h1, h2, h3, h4, h5⟩ := h
  have hw := widthI_bd c
  unfold stepA
  split
  · rename_i hf
    have : 0 < st.2.1.length := List.length_pos_iff.2 hf.1
    refine ⟨?_, ?_, ?_, ?_, ?_⟩ <;> simp <;> omega
  · refine ⟨?_, ?_, ?_, ?_, ?_⟩
    · simp; omega
    · simp; omega
    · simp only; split <;> omega
    · simp only; split <;> omega
    · intro e; simp at e

/-! ### The program's -/
def Room (width : Int) (st : List ByteArray × List ByteArray × Int) (room : Int) : Prop := st.2.1 ≠ [] → room = width - st.2.2
theorem new_room (width n : Int) (h1 : 4 ≤ width) (h2 : width ≤ 9223372036854775807) (h3 : 0 ≤ n) (h4 : n ≤ 8589934592) : wrap64 ((wrap64 (width + 1)) - (wrap64 (n + 1))) = width - n := by unfold wrap64; omega
theorem less_room (width N n : Int) (h1 : 4 ≤ width) (h2 : width ≤ 9223372036854775807) (h3 : 0 ≤ n) (h4 : n ≤ 8589934592) (h5 : 0 ≤ N) (h6 : N ≤ 8589934592) : wrap64 ((width - N) - (wrap64 (n + 1))) = width - (N + 1 + n) := by unfold wrap64; omega
/-- one chunk of the program's -/
theorem wrap_chunk (width : Int) (hw : 4 ≤ width) (hw2 : width ≤ 9223372036854775807) (word : ByteArray) (h0 : word.size ≠ 0) (hws : word.size ≤ 1073741824) (B : Nat) (hB : B ≤ 1073741824) (st : List ByteArray × List ByteArray × Int) (hI : InvA B st) (room : Int) (hR : Room width st room)
    (F : List ByteArray) (nF i : Int) :
    ∃ room', Room width (stepA width st (cutB word width)) room' ∧ ∀ r, Ev (fun k => text_Wrap.l1 k width (stepA width st (cutB word width)).1 (stepA width st (cutB word width)).2.1 room' (word.extract (cutB word width).size word.size) F nF i) r →
      Ev (fun k => text_Wrap.l1 k width st.1 st.2.1 room word F nF i) r := by
  obtain ⟨out, line, N⟩ := st
  obtain ⟨i1, i2, i3, i4, i5⟩ := hI
  simp only at i1 i2 i3 i4 i5 hR
  have hcl := cutB_le word width
  have hcp := cutB_pos word width hw (by omega)
  have hwb := widthI_bd (cutB word width)
  have hcut : text_Cut.f word width = some (cutB word width) := by unfold text_Cut.f; rw [if_pos (show small word.size from hws)]
  have hwid : text_Width.f (cutB word width) = some (widthI (cutB word width)) := by unfold text_Width.f; rw [if_pos (show small (cutB word width).size from Nat.le_trans hcl hws)]
  have q0 : (word.toList = ([] : List UInt8)) = False := eq_false (fun e => h0 ((tl_nil word).1 e))
  have q1 : (0 ≤ ((cutB word width).size : Int)) = True := eq_true (by omega)
  have q2 : (((cutB word width).size : Int) ≤ (word.size : Int)) = True := eq_true (by omega)
  have tn : (((cutB word width).size : Int)).toNat = (cutB word width).size := Int.toNat_natCast _
  have q3 : (line.length < 8796093022208) = True := eq_true (by omega)
  have q4 : (out.length < 8796093022208) = True := eq_true (by omega)
  have hjl := joinB_len line
  have hjoin : strings_Join.f line (⟨#[32]⟩ : ByteArray) = some (joinB line) := by
    unfold strings_Join.f
    rw [if_pos]
    · rfl
    · refine ⟨by omega, ?_⟩
      have e : (Lib.join (line.map (·.data.toList)) [32]).length = (joinB line).size := by rw [← joinB_list, bytes_length]
      show (Lib.join (line.map (·.data.toList)) [32]).length ≤ _
      rw [e]; omega
  have hn4 : widthI (cutB word width) ≤ 8589934592 := by omega
  have hN4 : N ≤ 8589934592 := by omega
  have hn0 := hwb.1
  clear i1 i2 i4 hwb hjl hcl hcp hws
  generalize widthI (cutB word width) = n at hwid hn4 hn0 ⊢
  generalize hc : cutB word width = c at *
  have hnr := new_room width n hw hw2 hn0 hn4
  by_cases hl : line = []
  · subst hl
    have es : stepA width (out, [], N) c = (out, [c], widthI c) := by unfold stepA; rw [if_neg (by simp)]; simp
    rw [es]
    have hwc : widthI c = n := by
      have : text_Width.f c = some (widthI c) ∨ ¬ small c.size := by unfold text_Width.f; split <;> simp_all
      rcases this with h | h
      · rw [h] at hwid; exact Option.some.inj hwid
      · unfold text_Width.f at hwid; rw [if_neg h] at hwid; cases hwid
    rw [hwc]
    refine ⟨width - n, fun _ => rfl, fun r h => ?_⟩
    have hj : Ev (fun k => text_Wrap.j2 k width out [] room (word.extract c.size word.size) c n F nF i false) r := by
      refine Ev.step (fun k => ?_) h
      rw [text_Wrap.j2]
      simp only [List.length_nil, hnr, List.nil_append, if_true, if_false, Bool.false_eq_true, show (((0 : Nat) : Int) = 0) = True from by simp, show ((0 : Nat) < 8796093022208) = True from by simp]
    refine Ev.step (fun k => ?_) hj
    rw [text_Wrap.l1]
    simp only [q0, q1, q2, tn, hcut, hwid, if_true, if_false, Option.bind_some, List.length_nil, show ¬ (((0 : Nat) : Int) > 0) from by simp]
  · have hlp : 0 < line.length := List.length_pos_iff.2 hl
    have q5 : ((line.length : Int) > 0) = True := eq_true (by omega)
    have q6 : ((line.length : Int) = 0) = False := eq_false (by omega)
    have q7 : (0 ≤ (line.length : Int)) = True := eq_true (by omega)
    have hroom : room = width - N := hR hl
    have hwc : widthI c = n := by
      have : text_Width.f c = some (widthI c) ∨ ¬ small c.size := by unfold text_Width.f; split <;> simp_all
      rcases this with h | h
      · rw [h] at hwid; exact Option.some.inj hwid
      · unfold text_Width.f at hwid; rw [if_neg h] at hwid; cases hwid
    by_cases hf : n ≥ room
    · have es : stepA width (out, line, N) c = (out ++ [joinB line], [c], n) := by
        unfold stepA; rw [if_pos ⟨hl, by simp only; rw [hwc]; omega⟩, hwc]
      rw [es]
      refine ⟨width - n, fun _ => rfl, fun r h => ?_⟩
      have hj : Ev (fun k => text_Wrap.j2 k width out line room (word.extract c.size word.size) c n F nF i true) r := by
        refine Ev.step (fun k => ?_) h
        rw [text_Wrap.j2]
        simp only [hjoin, q4, q7, hnr, if_true, Option.bind_some, Int.toNat_zero, List.take_zero, List.length_nil, List.nil_append, show (((0 : Nat) : Int) = 0) = True from by simp, show ((0 : Nat) < 8796093022208) = True from by simp]
      refine Ev.step (fun k => ?_) hj
      rw [text_Wrap.l1]
      simp only [q0, q1, q2, q5, tn, hcut, hwid, if_true, if_false, Option.bind_some, decide_eq_true hf]
    · have es : stepA width (out, line, N) c = (out, line ++ [c], N + 1 + n) := by
        unfold stepA; rw [if_neg (fun e => by have e2 := e.2; simp only [hwc] at e2; omega), hwc]; simp only [hl, if_false]
      rw [es]
      have hlr := less_room width N n hw hw2 hn0 hn4 i3 hN4
      rw [← hroom] at hlr
      refine ⟨width - (N + 1 + n), fun _ => rfl, fun r h => ?_⟩
      have hj : Ev (fun k => text_Wrap.j2 k width out line room (word.extract c.size word.size) c n F nF i false) r := by
        refine Ev.step (fun k => ?_) h
        rw [text_Wrap.j2]
        simp only [q3, q6, hlr, if_true, if_false, Bool.false_eq_true]
      refine Ev.step (fun k => ?_) hj
      rw [text_Wrap.l1]
      simp only [q0, q1, q2, q5, tn, hcut, hwid, if_true, if_false, Option.bind_some, decide_eq_false hf]
/-- a word of the program's -/
theorem wrap_word (width : Int) (hw : 4 ≤ width) (hw2 : width ≤ 9223372036854775807) (F : List ByteArray) (nF : Int) (i : Nat) (hi : i ≤ 1073741824) (n : Nat) : ∀ (word : ByteArray) (B : Nat) (st : List ByteArray × List ByteArray × Int) (room : Int), word.size ≤ n → B + word.size ≤ 1073741824 → InvA B st → Room width st room →
    ∃ room', Room width ((chunks width word).foldl (stepA width) st) room' ∧ InvA (B + word.size) ((chunks width word).foldl (stepA width) st) ∧
      ∀ r, Ev (fun k => text_Wrap.l0 k width ((chunks width word).foldl (stepA width) st).1 ((chunks width word).foldl (stepA width) st).2.1 room' F nF ((i + 1 : Nat) : Int)) r →
        Ev (fun k => text_Wrap.l1 k width st.1 st.2.1 room word F nF (i : Int)) r := by
  have w1 := wn i 1 (i + 1) (by omega) (by omega)
  have out : ∀ (word : ByteArray) (B : Nat) (st : List ByteArray × List ByteArray × Int) (room : Int), word.size = 0 → InvA B st → Room width st room →
    ∃ room', Room width ((chunks width word).foldl (stepA width) st) room' ∧ InvA (B + word.size) ((chunks width word).foldl (stepA width) st) ∧
      ∀ r, Ev (fun k => text_Wrap.l0 k width ((chunks width word).foldl (stepA width) st).1 ((chunks width word).foldl (stepA width) st).2.1 room' F nF ((i + 1 : Nat) : Int)) r →
        Ev (fun k => text_Wrap.l1 k width st.1 st.2.1 room word F nF (i : Int)) r := by
    intro word B st room h0 hI hR
    rw [chunks_nil _ _ h0, h0]
    refine ⟨room, hR, hI, fun r h => Ev.step (fun k => ?_) h⟩
    rw [text_Wrap.l1, if_pos ((tl_nil word).2 h0)]
    simp only [w1, List.foldl_nil]
  induction n with
  | zero => intro word B st room hn hB hI hR; exact out word B st room (by omega) hI hR
  | succ n ih =>
    intro word B st room hn hB hI hR
    by_cases h0 : word.size = 0
    · exact out word B st room h0 hI hR
    · have hws : word.size ≤ 1073741824 := by omega
      have hB2 : B ≤ 1073741824 := by omega
      have hcl := cutB_le word width
      have hcp := cutB_pos word width hw (by omega)
      have hr := rest_size word width
      have hrn : (word.extract (cutB word width).size word.size).size ≤ n := by omega
      have hrB : B + (cutB word width).size + (word.extract (cutB word width).size word.size).size ≤ 1073741824 := by rw [hr]; omega
      have heq : B + (cutB word width).size + (word.extract (cutB word width).size word.size).size = B + word.size := by rw [hr]; omega
      obtain ⟨room1, hR1, hstep⟩ := wrap_chunk width hw hw2 word h0 hws B hB2 st hI room hR F nF (i : Int)
      have hI1 := stepA_inv width B st (cutB word width) hI hcp
      obtain ⟨room2, hR2, hI2, hgo⟩ := ih _ _ _ room1 hrn hrB hI1 hR1
      rw [chunks_cons width hw word h0, List.foldl_cons]
      rw [heq] at hI2
      exact ⟨room2, hR2, hI2, fun r h => hstep r (hgo r h)⟩
/-- all words of the program's -/
theorem wrap_words (width : Int) (hw : 4 ≤ width) (hw2 : width ≤ 9223372036854775807) (F : List ByteArray) (hF : F.length ≤ 1073741824) (d : Nat) : ∀ (i : Nat) (B : Nat) (st : List ByteArray × List ByteArray × Int) (room : Int), F.length - i = d → i ≤ F.length → B + ((F.drop i).map (·.size)).sum ≤ 1073741824 → InvA B st → Room width st room →
    Ev (fun k => text_Wrap.l0 k width st.1 st.2.1 room F (F.length : Int) (i : Int)) (endA (((F.drop i).flatMap (chunks width)).foldl (stepA width) st), 0) := by
  induction d with
  | zero =>
    intro i B st room hd hi hB hI hR
    obtain ⟨out, line, N⟩ := st
    obtain ⟨i1, i2, i3, i4, i5⟩ := hI
    simp only at i1 i2
    rw [List.drop_of_length_le (by omega)]
    have q0 : ((i : Int) < (F.length : Int)) = False := eq_false (by omega)
    simp only [List.flatMap_nil, List.foldl_nil, endA]
    by_cases hl : line = []
    · subst hl
      refine Ev.step (fun k => ?_) (Ev.now _)
      rw [text_Wrap.l0]
      simp only [q0, if_false, if_true, List.length_nil, show ¬ (((0 : Nat) : Int) > 0) from by simp]
    · have q5 : ((line.length : Int) > 0) = True := eq_true (by have := List.length_pos_iff.2 hl; omega)
      have hB' : B ≤ 1073741824 := by omega
      have hjl := joinB_len line
      have q4 : (out.length < 8796093022208) = True := eq_true (by omega)
      have hjoin : strings_Join.f line (⟨#[32]⟩ : ByteArray) = some (joinB line) := by
        unfold strings_Join.f
        rw [if_pos]
        · rfl
        · refine ⟨by omega, ?_⟩
          have e : (Lib.join (line.map (·.data.toList)) [32]).length = (joinB line).size := by rw [← joinB_list, bytes_length]
          show (Lib.join (line.map (·.data.toList)) [32]).length ≤ _
          rw [e]; omega
      refine Ev.step (fun k => ?_) (Ev.now _)
      rw [text_Wrap.l0]
      simp only [q0, q4, q5, hjoin, hl, if_false, if_true, Option.bind_some]
  | succ d ih =>
    intro i B st room hd hi hB hI hR
    have hlt : i < F.length := by omega
    have e1 : F.drop i = F[i] :: F.drop (i + 1) := List.drop_eq_getElem_cons hlt
    have hrd : rdOf ByteArray.empty F (i : Int) = F[i] := by
      unfold rdOf
      rw [Int.toNat_natCast, List.getD_eq_getElem?_getD, List.getElem?_eq_getElem hlt]; rfl
    rw [e1, List.map_cons, List.sum_cons] at hB
    rw [e1, List.flatMap_cons, List.foldl_append]
    obtain ⟨room', hR', hI', hgo⟩ := wrap_word width hw hw2 F (F.length : Int) i (by omega) F[i].size F[i] B st room (Nat.le_refl _) (by omega) hI hR
    have h2 := ih (i + 1) (B + F[i].size) _ room' (by omega) (by omega) (by omega) hI' hR'
    have h3 := hgo _ h2
    have q0 : ((i : Int) < (F.length : Int)) = True := eq_true (by omega)
    have q1 : (0 ≤ (i : Int)) = True := eq_true (by omega)
    refine Ev.step (fun k => ?_) h3
    rw [text_Wrap.l0]
    simp only [q0, q1, hrd, if_true]
end Go.Proofs.Ytijdlpbkmlplgaa.TL
/- The two Wraps answer the same; and the plain law of TextCuts. -/
set_option linter.unusedVariables false
set_option linter.unusedSimpArgs false
namespace Go.Proofs.Ytijdlpbkmlplgaa.TL
open Go.RowKit Go.Proofs.Ytijdlpbkmlplgaa.TS Go.Proofs.Ytijdlpbkmlplgaa.TR Go.Proofs.Ytijdlpbkmlplgaa.TX Go.Proofs.YtijdlpbkmlplgaaW.PrintWords Go.Proofs.YtijdlpbkmlplgaaW.PrintMore Go.Proofs.Ytijdlpbkmlplgaa.QF

theorem wrefs (width N n : Int) (h1 : 4 ≤ width) (h2 : width ≤ 9223372036854775807) (h3 : 0 ≤ n) (h4 : n ≤ 8589934592) (h5 : 0 ≤ N) (h6 : N ≤ 8589934592) :
    wrap64 ((wrap64 (width - N)) - 1) = width - N - 1 ∧ wrap64 (0 + n) = n ∧ wrap64 ((wrap64 (N + 1)) + n) = N + 1 + n ∧ wrap64 (N + n) = N + n := by
  refine ⟨?_, ?_, ?_, ?_⟩ <;> unfold wrap64 <;> omega
/-- one chunk of the document's -/
theorem rwrap_chunk (width : Int) (hw : 4 ≤ width) (hw2 : width ≤ 9223372036854775807) (L : List ByteArray) (i : Nat) (hi : i < L.length) (hL : L.length ≤ 1073741824) (c : ByteArray) (hc : L[i] = c) (B : Nat) (hB : B + c.size ≤ 1073741824) (st : List ByteArray × List ByteArray × Int) (hI : InvA B st) (h0 : i = 0 ↔ st.2.1 = [])
    {r : List ByteArray × Int} (h : Ev (fun k => errataref01_Wrap.l0 k width (stepA width st c).1 (bytesOf (joinB (stepA width st c).2.1)) L (stepA width st c).2.2 ((i + 1 : Nat) : Int)) r) :
    Ev (fun k => errataref01_Wrap.l0 k width st.1 (bytesOf (joinB st.2.1)) L st.2.2 (i : Int)) r := by
  obtain ⟨out, line, N⟩ := st
  obtain ⟨i1, i2, i3, i4, i5⟩ := hI
  simp only at i1 i2 i3 i4 i5 h0 ⊢
  have hip' : line ≠ [] → ((i : Int) > 0) = True := fun hl => eq_true (by have : i ≠ 0 := fun e => hl (h0.1 e); clear h; omega)
  have hrd : rdOf ByteArray.empty L (i : Int) = c := by
    unfold rdOf
    rw [Int.toNat_natCast, List.getD_eq_getElem?_getD, List.getElem?_eq_getElem hi, hc]; rfl
  have hwb := widthI_bd c
  have hjl := joinB_len line
  have hbl : (bytesOf (joinB line)).length = (joinB line).size := bytesOf_length _
  have hwid : Ev (fun k => errataref01_Width.f k c) (widthI c) := ⟨_, fun k hk => width_eq c (by omega) k hk⟩
  have q0 : ((i : Int) < (L.length : Int)) = True := eq_true (by omega)
  have q1 : (0 ≤ (i : Int)) = True := eq_true (by omega)
  have q2 : (out.length < 8796093022208) = True := eq_true (by omega)
  have q3 : (([] : List Int).length + c.size < 140737488355328) = True := eq_true (by simp; omega)
  have q4 : ((bytesOf (joinB line)).length < 140737488355328) = True := eq_true (by omega)
  have q5 : ((bytesOf (joinB line) ++ [32]).length + c.size < 140737488355328) = True := eq_true (by rw [List.length_append]; simp only [List.length_cons, List.length_nil]; omega)
  have q6 : ((bytesOf (joinB line)).length + c.size < 140737488355328) = True := eq_true (by omega)
  have w1 := wn i 1 (i + 1) (by omega) (by omega)
  have hn4 : widthI c ≤ 8589934592 := by omega
  have hN4 : N ≤ 8589934592 := by omega
  obtain ⟨v1, v2, v3, v4⟩ := wrefs width N (widthI c) hw hw2 hwb.1 hn4 i3 hN4
  by_cases hl : line = []
  · subst hl
    have hi0 : i = 0 := h0.2 rfl
    subst hi0
    have hN0 : N = 0 := i5 rfl
    subst hN0
    have es : stepA width (out, [], 0) c = (out, [c], widthI c) := by unfold stepA; rw [if_neg (by simp)]; simp
    rw [es] at h
    simp only at h
    rw [joinB_one] at h
    have e0 : bytesOf (joinB []) = [] := rfl
    have hj : Ev (fun k => errataref01_Wrap.j1 k width out (bytesOf (joinB [])) L 0 ((0 : Nat) : Int) (widthI c) false) r := by
      refine Ev.step (fun k => ?_) h
      rw [errataref01_Wrap.j1]
      rw [e0] at q6 ⊢
      simp only [q0, q1, q6, hrd, w1, v2, List.nil_append, if_true, if_false, Bool.false_eq_true, show ¬ (((0 : Nat) : Int) > 0) from by simp]
    refine Ev.step (fun k => ?_) (Ev.bind hwid (f := fun k t211 => if ((0 : Nat) : Int) > 0 then (errataref01_Wrap.j1 k width out (bytesOf (joinB [])) L 0 ((0 : Nat) : Int) t211 (decide (t211 > (wrap64 ((wrap64 (width - 0)) - 1))))) else (errataref01_Wrap.j1 k width out (bytesOf (joinB [])) L 0 ((0 : Nat) : Int) t211 false)) (Ev.congr (fun k => ?_) hj))
    · rw [errataref01_Wrap.l0]
      simp only [q0, q1, hrd, if_true]
    · rw [if_neg (by simp)]
  · have hip := hip' hl
    clear hjl hbl hwb
    by_cases hf : widthI c > width - N - 1
    · have es : stepA width (out, line, N) c = (out ++ [joinB line], [c], widthI c) := by unfold stepA; rw [if_pos ⟨hl, hf⟩]
      rw [es] at h
      simp only at h
      rw [joinB_one] at h
      have hj : Ev (fun k => errataref01_Wrap.j1 k width out (bytesOf (joinB line)) L N (i : Int) (widthI c) true) r := by
        refine Ev.step (fun k => ?_) h
        rw [errataref01_Wrap.j1]
        simp only [q0, q1, q2, q3, hrd, w1, v2, strOfNums_bytesOf, List.nil_append, if_true]
      refine Ev.step (fun k => ?_) (Ev.bind hwid (f := fun k t211 => if (i : Int) > 0 then (errataref01_Wrap.j1 k width out (bytesOf (joinB line)) L N (i : Int) t211 (decide (t211 > (wrap64 ((wrap64 (width - N)) - 1))))) else (errataref01_Wrap.j1 k width out (bytesOf (joinB line)) L N (i : Int) t211 false)) (Ev.congr (fun k => ?_) hj))
      · rw [errataref01_Wrap.l0]
        simp only [q0, q1, hrd, if_true]
      · simp only [hip, if_true, v1, decide_eq_true hf]
    · have es : stepA width (out, line, N) c = (out, line ++ [c], N + 1 + widthI c) := by unfold stepA; rw [if_neg (fun e => hf e.2)]; simp only [hl, if_false]
      rw [es] at h
      simp only at h
      rw [joinB_snoc line c hl] at h
      have hj : Ev (fun k => errataref01_Wrap.j1 k width out (bytesOf (joinB line)) L N (i : Int) (widthI c) false) r := by
        refine Ev.step (fun k => ?_) h
        rw [errataref01_Wrap.j1]
        simp only [q0, q1, q4, q5, hip, hrd, w1, v3, if_true, if_false, Bool.false_eq_true, Option.bind_some]
      refine Ev.step (fun k => ?_) (Ev.bind hwid (f := fun k t211 => if (i : Int) > 0 then (errataref01_Wrap.j1 k width out (bytesOf (joinB line)) L N (i : Int) t211 (decide (t211 > (wrap64 ((wrap64 (width - N)) - 1))))) else (errataref01_Wrap.j1 k width out (bytesOf (joinB line)) L N (i : Int) t211 false)) (Ev.congr (fun k => ?_) hj))
      · rw [errataref01_Wrap.l0]
        simp only [q0, q1, hrd, if_true]
      · simp only [hip, if_true, v1, decide_eq_false hf]
theorem stepA_ne (width : Int) (st : List ByteArray × List ByteArray × Int) (c : ByteArray) : (stepA width st c).2.1 ≠ [] := by unfold stepA; split <;> simp
theorem rwrap_all (width : Int) (hw : 4 ≤ width) (hw2 : width ≤ 9223372036854775807) (L : List ByteArray) (hL : L.length ≤ 1073741824) (h1 : ∀ c ∈ L, 1 ≤ c.size) (d : Nat) : ∀ (i : Nat) (B : Nat) (st : List ByteArray × List ByteArray × Int), L.length - i = d → i ≤ L.length → B + ((L.drop i).map (·.size)).sum ≤ 1073741824 → InvA B st → (i = 0 ↔ st.2.1 = []) →
    Ev (fun k => errataref01_Wrap.l0 k width st.1 (bytesOf (joinB st.2.1)) L st.2.2 (i : Int)) (endA ((L.drop i).foldl (stepA width) st), 0) := by
  induction d with
  | zero =>
    intro i B st hd hi hB hI h0
    obtain ⟨out, line, N⟩ := st
    obtain ⟨i1, i2, i3, i4, i5⟩ := hI
    simp only at i1 h0
    rw [List.drop_of_length_le (by omega)]
    have q0 : ((i : Int) < (L.length : Int)) = False := eq_false (by omega)
    have q2 : (out.length < 8796093022208) = True := eq_true (by omega)
    simp only [List.foldl_nil, endA]
    refine Ev.step (fun k => ?_) (Ev.now _)
    rw [errataref01_Wrap.l0]
    by_cases hl : line = []
    · have q6 : ((L.length : Int) > 0) = False := eq_false (by have := h0.2 hl; omega)
      simp only [q0, q6, hl, if_true, if_false]
    · have q5 : ((L.length : Int) > 0) = True := eq_true (by have : i ≠ 0 := fun e => hl (h0.1 e); omega)
      simp only [q0, q2, q5, hl, strOfNums_bytesOf, if_true, if_false]
  | succ d ih =>
    intro i B st hd hi hB hI h0
    have hlt : i < L.length := by omega
    have e1 : L.drop i = L[i] :: L.drop (i + 1) := List.drop_eq_getElem_cons hlt
    rw [e1, List.map_cons, List.sum_cons] at hB
    rw [e1, List.foldl_cons]
    have hI' := stepA_inv width B st L[i] hI (h1 _ (List.getElem_mem hlt))
    have h2 := ih (i + 1) (B + L[i].size) (stepA width st L[i]) (by omega) (by omega) (by omega) hI' ⟨fun e => by omega, fun e => absurd e (stepA_ne width st L[i])⟩
    exact rwrap_chunk width hw hw2 L i hlt hL L[i] rfl B (by omega) st hI h0 h2
theorem inv0 : InvA 0 (([] : List ByteArray), ([] : List ByteArray), (0 : Int)) := ⟨by simp, by simp, by simp, by simp, fun _ => rfl⟩
theorem fold_inv (width : Int) (L : List ByteArray) (h1 : ∀ c ∈ L, 1 ≤ c.size) : ∀ (B : Nat) (st : List ByteArray × List ByteArray × Int), InvA B st → InvA (B + (L.map (·.size)).sum) (L.foldl (stepA width) st) := by
  induction L with
  | nil => intro B st h; simpa using h
  | cons c t ih =>
    intro B st h
    have h2 := ih (fun x hx => h1 x (by simp [hx])) _ _ (stepA_inv width B st c h (h1 c (by simp)))
    rw [List.map_cons, List.sum_cons, List.foldl_cons, ← Nat.add_assoc]
    exact h2
theorem endA_len (B : Nat) (st : List ByteArray × List ByteArray × Int) (h : InvA B st) : (endA st).length ≤ B := by
  have h1 := h.1
  unfold endA
  split
  · omega
  · rename_i hl
    have := List.length_pos_iff.2 hl
    simp; omega
theorem flat_size (width : Int) (hw : 4 ≤ width) (F : List ByteArray) : (∀ c ∈ F.flatMap (chunks width), 1 ≤ c.size) ∧ ((F.flatMap (chunks width)).map (·.size)).sum = (F.map (·.size)).sum := by
  induction F with
  | nil => simp
  | cons w t ih =>
    obtain ⟨c1, c2⟩ := chunks_size width hw w.size w (Nat.le_refl _)
    refine ⟨fun c hc => ?_, ?_⟩
    · rw [List.flatMap_cons, List.mem_append] at hc
      rcases hc with hc | hc
      · exact c1 c hc
      · exact ih.1 c hc
    · rw [List.flatMap_cons, List.map_append, List.sum_append, ih.2, c2, List.map_cons, List.sum_cons]
theorem len_le_sum (L : List ByteArray) (h : ∀ c ∈ L, 1 ≤ c.size) : L.length ≤ (L.map (·.size)).sum := by
  induction L with
  | nil => simp
  | cons c t ih => have h1 := h c (by simp); have := ih (fun x hx => h x (by simp [hx])); simp; omega
theorem spans_len (s : ByteArray) (p : Nat → Bool) (f : Nat) : ∀ (pos : Nat) (st : Option Nat) (acc : List (Nat × Nat)), (Lib.closeSpans s (Lib.spansFromP p s f pos st acc)).length ≤ acc.length + f + 1 := by
  have fin : ∀ (st : Option Nat) (acc : List (Nat × Nat)), (Lib.closeSpans s (acc, st)).length ≤ acc.length + 1 := by
    intro st acc
    cases st <;> simp [Lib.closeSpans]
  induction f with
  | zero => intro pos st acc; exact fin st acc
  | succ f ih =>
    intro pos st acc
    by_cases h : pos < s.size
    · rw [spans_step _ _ _ _ _ _ h]
      split
      · cases st with
        | none => have := ih (pos + (Utf8.decode s pos).2) none acc; simp only; omega
        | some a => have := ih (pos + (Utf8.decode s pos).2) none (acc ++ [(a, pos)]); rw [List.length_append] at this; simp only [List.length_cons, List.length_nil] at this; simp only; omega
      · have := ih (pos + (Utf8.decode s pos).2) (some (st.getD pos)) acc; omega
    · rw [Lib.spansFromP_end _ _ _ _ _ _ h]
      have := fin st acc; omega
/-- what Wrap answers -/
def wrapL (s : ByteArray) (width : Int) : List ByteArray × Int := if width < 4 then ([], 1) else (endA (((segs s 0 0).flatMap (chunks width)).foldl (stepA width) ([], [], 0)), 0)
theorem segs_facts (s : ByteArray) (width : Int) (hw : 4 ≤ width) (hs : s.size ≤ 1073741000) : (∀ c ∈ (segs s 0 0).flatMap (chunks width), 1 ≤ c.size) ∧ (((segs s 0 0).flatMap (chunks width)).map (·.size)).sum ≤ s.size := by
  obtain ⟨f1, f2⟩ := flat_size width hw (segs s 0 0)
  have := segs_size s width hw s.size 0 0 (by omega) (by omega) (Nat.le_refl _)
  exact ⟨f1, by rw [f2]; omega⟩
theorem rwrap_eq (s : ByteArray) (hs : s.size ≤ 1073741000) (width : Int) (hw2 : width ≤ 9223372036854775807) : Ev (fun k => errataref01_Wrap.f k s width) (wrapL s width) := by
  unfold wrapL
  by_cases h4 : width < 4
  · rw [if_pos h4]
    refine Ev.congr (fun k => ?_) (Ev.now _)
    rw [errataref01_Wrap.f, if_pos h4]
  · rw [if_neg h4]
    have hw : 4 ≤ width := by omega
    obtain ⟨f1, f2⟩ := segs_facts s width hw hs
    have hlen := len_le_sum _ f1
    have h := rwrap_all width hw hw2 _ (by omega) f1 _ 0 0 ([], [], 0) rfl (by omega) (by rw [List.drop_zero]; omega) inv0 ⟨fun _ => rfl, fun _ => rfl⟩
    rw [List.drop_zero] at h
    refine Ev.congr (fun k => ?_) (Ev.bind (words_eq s (by omega) width hw) (f := fun k t204 => errataref01_Wrap.l0 k width ([] : List ByteArray) ([] : List Int) t204 0 0) h)
    rw [errataref01_Wrap.f, if_neg h4]
theorem wrap_eq (s : ByteArray) (hs : s.size ≤ 1073741000) (width : Int) (hw2 : width ≤ 9223372036854775807) : Ev (fun k => text_Wrap.f k s width) (wrapL s width) := by
  unfold wrapL
  by_cases h4 : width < 4
  · rw [if_pos h4]
    refine Ev.congr (fun k => ?_) (Ev.now _)
    rw [text_Wrap.f, if_pos h4]
  · rw [if_neg h4]
    have hw : 4 ≤ width := by omega
    obtain ⟨f1, f2⟩ := segs_facts s width hw hs
    have hfs := fields_segs s width
    have hsum := (flat_size width hw (Lib.goFieldsP TX.blank s)).2
    rw [hfs] at hsum
    have hFl : (Lib.goFieldsP TX.blank s).length ≤ 1073741824 := by
      have := spans_len s TX.blank s.size 0 none []
      unfold Lib.goFieldsP Lib.spansOfP
      rw [List.length_map]
      simp only [List.length_nil] at this
      omega
    have hff : strings_FieldsFunc.f s = some (Lib.goFieldsP TX.blank s) := by unfold strings_FieldsFunc.f; rw [if_pos (show small s.size by unfold small; omega)]
    have h := wrap_words width hw hw2 (Lib.goFieldsP TX.blank s) hFl _ 0 0 ([], [], 0) 0 rfl (by omega) (by rw [List.drop_zero]; omega) inv0 (fun e => absurd rfl e)
    rw [List.drop_zero, hfs] at h
    refine Ev.congr (fun k => ?_) h
    rw [text_Wrap.f, if_neg h4, hff]
    rfl
theorem wrapL_len (s : ByteArray) (hs : s.size ≤ 1073741000) (width : Int) : (wrapL s width).1.length ≤ 1073741824 := by
  unfold wrapL
  split
  · simp
  · have hw : 4 ≤ width := by omega
    obtain ⟨f1, f2⟩ := segs_facts s width hw hs
    have := endA_len _ _ (fold_inv width _ f1 0 _ inv0)
    simp only; omega
/-! ### sameTexts, and what the law does with the lines -/
theorem same_l0 (l : List ByteArray) (hl : l.length ≤ 1073741824) (d : Nat) : ∀ i : Nat, l.length - i = d → i ≤ l.length → Ev (fun k => erratalaw01_sameTexts.l0 k l l (i : Int)) true := by
  induction d with
  | zero =>
    intro i hd hi
    refine Ev.step (fun k => ?_) (Ev.now _)
    rw [erratalaw01_sameTexts.l0, if_neg (by omega)]
  | succ d ih =>
    intro i hd hi
    have q0 : ((i : Int) < (l.length : Int)) = True := eq_true (by omega)
    have q1 : (0 ≤ (i : Int)) = True := eq_true (by omega)
    have w1 := wn i 1 (i + 1) (by omega) (by omega)
    refine Ev.step (fun k => ?_) (ih (i + 1) (by omega) (by omega))
    rw [erratalaw01_sameTexts.l0]
    simp only [q0, q1, w1, if_true]
theorem same_eq (l : List ByteArray) (hl : l.length ≤ 1073741824) : Ev (fun k => erratalaw01_sameTexts.f k l l) true := by
  refine Ev.congr (fun k => ?_) (same_l0 l hl l.length 0 (by omega) (by omega))
  rw [erratalaw01_sameTexts.f, if_pos rfl]; rfl
theorem cuts_l1 (l : List ByteArray) (hl : l.length ≤ 1073741824) (d : Nat) : ∀ (i : Nat) (x : List ByteArray), 20 - i = d → i ≤ 20 → x.length = l.length + i → Ev (fun k => erratalaw01_TextCuts.l1 k l x l (i : Int)) true := by
  induction d with
  | zero =>
    intro i x hd hi hx
    have q0 : ((i : Int) < 20) = False := eq_false (by omega)
    have q1 : ((x.length : Int) = (wrap64 ((l.length : Int) + 20))) = True := eq_true (by rw [wn l.length 20 (l.length + 20) (by omega) (by omega)]; omega)
    refine Ev.step (fun k => ?_) (Ev.bind (same_eq l hl) (f := fun _ t281 => some t281) (Ev.now true))
    rw [erratalaw01_TextCuts.l1]
    simp only [q0, q1, if_true, if_false]
  | succ d ih =>
    intro i x hd hi hx
    have q0 : ((i : Int) < 20) = True := eq_true (by omega)
    have q1 : (x.length < 8796093022208) = True := eq_true (by omega)
    have w1 := wn i 1 (i + 1) (by omega) (by omega)
    refine Ev.step (fun k => ?_) (ih (i + 1) (x ++ [(⟨#[126]⟩ : ByteArray)]) (by omega) (by omega) (by rw [List.length_append]; simp; omega))
    rw [erratalaw01_TextCuts.l1]
    simp only [q0, q1, w1, if_true]
theorem cuts_l0 (l : List ByteArray) (hl : l.length ≤ 1073741824) (d : Nat) : ∀ (i : Nat) (x : List ByteArray), x.length - i = d → i ≤ x.length → x.length = l.length → Ev (fun k => erratalaw01_TextCuts.l0 k l x l (i : Int)) true := by
  induction d with
  | zero =>
    intro i x hd hi hx
    have q0 : ((i : Int) < (x.length : Int)) = False := eq_false (by omega)
    refine Ev.step (fun k => ?_) (cuts_l1 l hl 20 0 x rfl (by omega) (by omega))
    rw [erratalaw01_TextCuts.l0]
    simp only [q0, if_false]
    rfl
  | succ d ih =>
    intro i x hd hi hx
    have q0 : ((i : Int) < (x.length : Int)) = True := eq_true (by omega)
    have q1 : (0 ≤ (i : Int)) = True := eq_true (by omega)
    have w1 := wn i 1 (i + 1) (by omega) (by omega)
    refine Ev.step (fun k => ?_) (ih (i + 1) (x.set ((i : Int)).toNat (⟨#[126]⟩ : ByteArray)) (by rw [List.length_set]; omega) (by rw [List.length_set]; omega) (by rw [List.length_set]; exact hx))
    rw [erratalaw01_TextCuts.l0]
    simp only [q0, q1, w1, if_true]
/-- THE PLAIN LAW OF TextCuts. -/
theorem cuts_pure (s : ByteArray) (width : Int) (hs : s.size ≤ 1048576) (hw2 : width ≤ 9223372036854775807) : Ev (fun k => erratalaw01_TextCuts.f k s width) true := by
  have hs1 : s.size ≤ 1073741824 := by omega
  have hs2 : s.size ≤ 1073741000 := by omega
  have hcut : text_Cut.f s width = some (cutB s width) := by unfold text_Cut.f; rw [if_pos (show small s.size from hs1)]
  have hlen := wrapL_len s hs2 width
  have hR := rwrap_eq s hs2 width hw2
  have hT := wrap_eq s hs2 width hw2
  generalize wrapL s width = W at hlen hR hT
  obtain ⟨l, e⟩ := W
  simp only at hlen
  have hsame := same_eq l hlen
  have hj : Ev (fun k => erratalaw01_TextCuts.j0 k l l l false) true := by
    refine Ev.step (fun k => ?_) (cuts_l0 l hlen l.length 0 l (by omega) (by omega) rfl)
    rw [erratalaw01_TextCuts.j0, if_neg (by decide)]
    rfl
  obtain ⟨K1, h1⟩ := cut_eq s hs1 width
  obtain ⟨K2, h2⟩ := hR
  obtain ⟨K3, h3⟩ := hT
  obtain ⟨K4, h4⟩ := hsame
  obtain ⟨K5, h5⟩ := hj
  refine ⟨K1 + K2 + K3 + K4 + K5, fun k hk => ?_⟩
  have f1 : errataref01_Cut.f k s width = some (cutB s width) := h1 k (by omega)
  have f2 : errataref01_Wrap.f k s width = some (l, e) := h2 k (by omega)
  have f3 : text_Wrap.f k s width = some (l, e) := h3 k (by omega)
  have f4 : erratalaw01_sameTexts.f k l l = some true := h4 k (by omega)
  have f5 : erratalaw01_TextCuts.j0 k l l l false = some true := h5 k (by omega)
  show erratalaw01_TextCuts.f k s width = some true
  unfold erratalaw01_TextCuts.f
  rw [hcut, f1]
  simp only [Option.bind_some, if_true, f2, f3, f4, Bool.not_true, f5]
end Go.Proofs.Ytijdlpbkmlplgaa.TL
