/- Texts side by side: what is taken of a text that is cut, or that stands ahead of a blank; the width of joined chunks; the segments of joined chunks. No program in sight. -/
import Derived.Test.YtijdlpbkmlplgaaLinesAlone
set_option linter.unusedVariables false
set_option linter.unusedSimpArgs false
namespace Go.Proofs.Ytijdlpbkmlplgaa.TL
open Go.RowKit Go.Proofs.Ytijdlpbkmlplgaa.TS Go.Proofs.Ytijdlpbkmlplgaa.TR Go.Proofs.Ytijdlpbkmlplgaa.TX Go.Proofs.YtijdlpbkmlplgaaW.PrintWords Go.Proofs.YtijdlpbkmlplgaaW.PrintMore

theorem enc_high (r : Nat) (hr : r ≤ 1114111) (h : 2 ≤ (enc r).length) : ∀ b ∈ enc r, 128 ≤ b.toNat := by
  intro b hb
  unfold enc at h hb
  split at hb
  · rename_i h1; rw [if_pos h1] at h; simp at h
  · split at hb
    · simp only [List.mem_cons, List.not_mem_nil, or_false] at hb; rcases hb with rfl | rfl <;> rw [ofN (by omega)] <;> omega
    · split at hb
      · simp only [List.mem_cons, List.not_mem_nil, or_false] at hb; rcases hb with rfl | rfl | rfl <;> rw [ofN (by omega)] <;> omega
      · simp only [List.mem_cons, List.not_mem_nil, or_false] at hb; rcases hb with rfl | rfl | rfl | rfl <;> rw [ofN (by omega)] <;> omega
theorem take1_of_some (l : List UInt8) (h : l ≠ []) (r : Nat) (e : (take1 l).1 = some r) : take1 l = (some r, (enc r).length) ∧ ∃ t, l = enc r ++ t ∧ may r = true := by
  have hf := take1_form l r h e
  have hm := take1_may l r e
  have hl : l = enc r ++ l.drop (take1 l).2 := by rw [← hf, List.take_append_drop]
  refine ⟨?_, _, hl, hm⟩
  have := take1_enc r (l.drop (take1 l).2) hm
  rw [← hl] at this
  exact this
theorem take1_of_none (l : List UInt8) (e : (take1 l).1 = none) : take1 l = (none, 1) := Prod.ext e (take1_none l e)
/-- what is taken ahead of a byte below 128 -/
theorem take1_app (a b : List UInt8) (c0 : UInt8) (hc : c0.toNat < 128) (ha : a ≠ []) : take1 (a ++ c0 :: b) = take1 a := by
  cases e : (take1 a).1 with
  | some r =>
    obtain ⟨h1, t, ht, hm⟩ := take1_of_some a ha r e
    rw [h1]
    conv => lhs; rw [ht, List.append_assoc]
    exact take1_enc r _ hm
  | none =>
    rw [take1_of_none a e]
    refine take1_of_none _ ?_
    cases e2 : (take1 (a ++ c0 :: b)).1 with
    | none => rfl
    | some r =>
      exfalso
      obtain ⟨_, t, ht, hm⟩ := take1_of_some (a ++ c0 :: b) (by simp) r e2
      by_cases hl : (enc r).length ≤ a.length
      · have hp : enc r <+: a := by
          refine List.prefix_of_prefix_length_le ⟨t, ht.symm⟩ (List.prefix_append a _) hl
        exact (take1_none_iff a ha).1 e r hm hp
      · have hal : 0 < a.length := List.length_pos_iff.2 ha
        have hget : (enc r)[a.length]? = some c0 := by
          have : (a ++ c0 :: b)[a.length]? = (enc r)[a.length]? := by rw [ht, List.getElem?_append_left (by omega)]
          rw [← this, List.getElem?_append_right (Nat.le_refl _), Nat.sub_self]; rfl
        have := enc_high r (may_le hm) (by omega) c0 (List.mem_of_getElem? hget)
        omega
/-- what is taken of a text's beginning -/
theorem take1_take (l : List UInt8) (m : Nat) (h : l ≠ []) (hm : (take1 l).2 ≤ m) : take1 (l.take m) = take1 l := by
  have hw := (take1_width l).1
  have hne : l.take m ≠ [] := by
    intro e
    rcases List.take_eq_nil_iff.1 e with h0 | h0
    · first | exact h h0 | omega
    · first | exact h h0 | omega
  cases e : (take1 l).1 with
  | some r =>
    obtain ⟨h1, t, ht, hmay⟩ := take1_of_some l h r e
    rw [h1] at hm ⊢
    simp only at hm
    have : l.take m = enc r ++ t.take (m - (enc r).length) := by
      conv => lhs; rw [ht]
      rw [List.take_append, List.take_of_length_le hm]
    rw [this]
    exact take1_enc r _ hmay
  | none =>
    rw [take1_of_none l e]
    refine take1_of_none _ ?_
    refine (take1_none_iff _ hne).2 (fun r hr hp => ?_)
    exact (take1_none_iff l h).1 e r hr (hp.trans (List.take_prefix _ _))
theorem take1_one (c0 : UInt8) (b : List UInt8) (hc : c0.toNat < 128) : take1 (c0 :: b) = (some c0.toNat, 1) := by
  unfold take1
  rw [g_cons0, if_pos hc]
theorem pieces_app (c0 : UInt8) (b : List UInt8) (hc : c0.toNat < 128) (a : List UInt8) : pieces (a ++ c0 :: b) = pieces a ++ (some c0.toNat, [c0]) :: pieces b := by
  refine pieces_ind (P := fun a => pieces (a ++ c0 :: b) = pieces a ++ (some c0.toNat, [c0]) :: pieces b) ?_ (fun a h ih => ?_) a
  · rw [pieces_nil, List.nil_append, List.nil_append, pieces_cons _ (by simp), take1_one c0 b hc]
    rfl
  · have hw := take1_le a h
    rw [pieces_cons _ (by simp), take1_app a b c0 hc h, pieces_cons a h, List.cons_append, List.take_append_of_le_length hw, List.drop_append_of_le_length hw, ih]
/-- the width of bytes -/
def widthL (l : List UInt8) : Int := ((pieces l).map fun p => wideI (rn p.1)).sum
theorem sumW_runes (ps : List Piece) : ∀ i, sumW (runesFrom i ps) = (ps.map fun p => wideI (rn p.1)).sum := by
  induction ps with
  | nil => intro i; rfl
  | cons p t ih => intro i; simp only [runesFrom, sumW_cons, ih, List.map_cons, List.sum_cons]
theorem widthI_L (s : ByteArray) : widthI s = widthL s.data.toList := sumW_runes _ 0
theorem widthL_app (a b : List UInt8) : widthL (a ++ 32 :: b) = widthL a + 1 + widthL b := by
  unfold widthL
  rw [pieces_app 32 b (by decide) a, List.map_append, List.sum_append, List.map_cons, List.sum_cons]
  have : wideI (rn (some (32 : UInt8).toNat)) = 1 := by decide
  simp only [this]
  omega
/-- a text cut between two pieces -/
theorem pieces_prefix (l : List UInt8) : ∀ ps rest : List Piece, pieces l = ps ++ rest → pieces (l.take (ps.map (fun p => p.2.length)).sum) = ps := by
  refine pieces_ind (P := fun l => ∀ ps rest : List Piece, pieces l = ps ++ rest → pieces (l.take (ps.map (fun p => p.2.length)).sum) = ps) ?_ (fun l h ih => ?_) l
  · intro ps rest hp
    rw [pieces_nil] at hp
    obtain rfl : ps = [] := (List.append_eq_nil_iff.1 hp.symm).1
    simp [pieces_nil]
  · intro ps rest hp
    cases ps with
    | nil => simp [pieces_nil]
    | cons p t =>
      rw [pieces_cons l h, List.cons_append] at hp
      have hw := take1_le l h
      have hw1 := (take1_width l).1
      injection hp with hp1 hp2
      subst hp1
      have h2 := ih t rest hp2
      have hlen : (l.take (take1 l).2).length = (take1 l).2 := by rw [List.length_take]; omega
      simp only [List.map_cons, List.sum_cons, hlen]
      generalize (t.map (fun p => p.2.length)).sum = m at h2 ⊢
      have hne : l.take ((take1 l).2 + m) ≠ [] := by
        intro e
        rcases List.take_eq_nil_iff.1 e with h0 | h0
        · first | exact h h0 | omega
        · first | exact h h0 | omega
      have ht := take1_take l ((take1 l).2 + m) h (by omega)
      rw [pieces_cons _ hne, ht, List.take_take, Nat.min_eq_left (by omega)]
      have hd : (l.take ((take1 l).2 + m)).drop (take1 l).2 = (l.drop (take1 l).2).take m := by rw [List.drop_take]; congr 1; omega
      rw [hd, h2]
theorem cut_split (width : Int) : ∀ (ps : List Piece) (i : Nat) (n : Int), n ≤ width → ∃ ps' rest, ps = ps' ++ rest ∧ cutPos width (i + (ps.map (fun p => p.2.length)).sum) (runesFrom i ps) n = i + (ps'.map (fun p => p.2.length)).sum ∧ n + (ps'.map fun p => wideI (rn p.1)).sum ≤ width := by
  intro ps
  induction ps with
  | nil => intro i n hn; exact ⟨[], [], rfl, rfl, by simpa using hn⟩
  | cons p t ih =>
    intro i n hn
    simp only [runesFrom, cutPos]
    by_cases h : n + wideI (rn p.1) > width
    · rw [if_pos h]
      exact ⟨[], p :: t, rfl, by simp, by simpa using hn⟩
    · rw [if_neg h]
      obtain ⟨ps', rest, h1, h2, h3⟩ := ih (i + p.2.length) (n + wideI (rn p.1)) (by omega)
      refine ⟨p :: ps', rest, by rw [h1]; rfl, ?_, ?_⟩
      · rw [List.map_cons, List.sum_cons, List.map_cons, List.sum_cons, ← Nat.add_assoc, ← Nat.add_assoc]
        exact h2
      · rw [List.map_cons, List.sum_cons]; omega
theorem pieces_lens (l : List UInt8) : ((pieces l).map (fun p => p.2.length)).sum = l.length := by
  have h := congrArg List.length (pieces_flat l)
  rw [List.length_flatMap] at h
  exact h
/-- what is cut is no wider than it may be -/
theorem cut_width (s : ByteArray) (width : Int) (h0 : 0 ≤ width) : widthI (cutB s width) ≤ width := by
  obtain ⟨ps', rest, h1, h2, h3⟩ := cut_split width (pieces s.data.toList) 0 0 h0
  rw [pieces_lens, bytes_length, Nat.zero_add, Nat.zero_add] at h2
  have h4 := pieces_prefix s.data.toList ps' rest h1
  rw [widthI_L]
  unfold widthL cutB
  rw [Lib.extract_data, List.drop_zero, Nat.sub_zero]
  show ((pieces (s.data.toList.take (cutPos width s.size (runesFrom 0 (pieces s.data.toList)) 0))).map fun p => wideI (rn p.1)).sum ≤ width
  rw [h2, h4]
  omega
theorem cut_whole (c : ByteArray) (width : Int) (h : widthI c ≤ width) : cutB c width = c := by
  unfold cutB
  rw [cutPos_all width c.size _ 0 (fun _ => by unfold widthI at h; omega), extract_whole]
theorem chunks_self (c : ByteArray) (width : Int) (hw : 4 ≤ width) (h : widthI c ≤ width) (h0 : c.size ≠ 0) : chunks width c = [c] := by
  rw [chunks_cons width hw c h0, cut_whole c width h, chunks_nil]
  rw [ByteArray.size_extract]; omega
/-- the chunks of a word: none is too wide; together they are the word -/
theorem chunks_facts (width : Int) (hw : 4 ≤ width) (n : Nat) : ∀ w : ByteArray, w.size ≤ n → (∀ c ∈ chunks width w, widthI c ≤ width) ∧ (chunks width w).flatMap (·.data.toList) = w.data.toList := by
  induction n with
  | zero =>
    intro w h
    rw [chunks_nil _ _ (by omega)]
    refine ⟨by simp, ?_⟩
    have : w.data.toList = [] := List.length_eq_zero_iff.1 (by rw [bytes_length]; omega)
    rw [this]; rfl
  | succ n ih =>
    intro w h
    by_cases h0 : w.size = 0
    · rw [chunks_nil _ _ h0]
      refine ⟨by simp, ?_⟩
      have : w.data.toList = [] := List.length_eq_zero_iff.1 (by rw [bytes_length]; omega)
      rw [this]; rfl
    · have hp := cutB_pos w width hw (by omega)
      have hcl := cutB_le w width
      have hr := rest_size w width
      have hrn : (w.extract (cutB w width).size w.size).size ≤ n := by omega
      obtain ⟨i1, i2⟩ := ih _ hrn
      rw [chunks_cons width hw w h0]
      refine ⟨fun c hc => ?_, ?_⟩
      · rcases List.mem_cons.1 hc with rfl | hc
        · exact cut_width w width (by omega)
        · exact i1 c hc
      · rw [List.flatMap_cons, i2, Lib.extract_data]
        have e : (cutB w width).data.toList = w.data.toList.take (cutB w width).size := by
          rw [cutB_size]
          unfold cutB
          rw [Lib.extract_data, List.drop_zero, Nat.sub_zero]
        rw [e, List.take_of_length_le (l := w.data.toList.drop _) (by rw [List.length_drop, bytes_length]; omega), List.take_append_drop]
/-! ### Segments, on lists -/
def segL : List UInt8 → List (List UInt8)
  | [] => [[]]
  | b :: t => if isBl b = true then [] :: segL t else (b :: (segL t).headD []) :: (segL t).tail
theorem segL_ne (l : List UInt8) : segL l ≠ [] := by
  cases l with
  | nil => simp [segL]
  | cons b t => unfold segL; split <;> simp
theorem segL_eta (l : List UInt8) : (segL l).headD [] :: (segL l).tail = segL l := by
  have := segL_ne l
  cases h : segL l with
  | nil => exact absurd h this
  | cons x t => rfl
theorem segL_flat (l : List UInt8) : (segL l).flatten = l.filter (fun b => !isBl b) := by
  induction l with
  | nil => rfl
  | cons b t ih =>
    unfold segL
    by_cases h : isBl b = true
    · rw [if_pos h, List.flatten_cons, List.nil_append, ih, List.filter_cons, h]; rfl
    · rw [if_neg h, List.flatten_cons, List.cons_append, ← List.flatten_cons, segL_eta, ih, List.filter_cons]
      simp only [Bool.not_eq_true] at h
      rw [h]; rfl
theorem segL_plain (l : List UInt8) : ∀ w ∈ segL l, ∀ b ∈ w, isBl b = false := by
  induction l with
  | nil => intro w hw b hb; simp [segL] at hw; subst hw; cases hb
  | cons c t ih =>
    intro w hw b hb
    unfold segL at hw
    by_cases h : isBl c = true
    · rw [if_pos h] at hw
      rcases List.mem_cons.1 hw with rfl | hw
      · cases hb
      · exact ih w hw b hb
    · rw [if_neg h] at hw
      rcases List.mem_cons.1 hw with rfl | hw
      · rcases List.mem_cons.1 hb with rfl | hb
        · simpa using h
        · refine ih ((segL t).headD []) ?_ b hb
          have := segL_eta t
          rw [← this]; exact List.mem_cons_self
      · exact ih w (List.mem_of_mem_tail hw) b hb
/-- a word without blanks, ahead of a text -/
theorem segL_word (w l : List UInt8) (h : ∀ b ∈ w, isBl b = false) : segL (w ++ l) = (w ++ (segL l).headD []) :: (segL l).tail := by
  induction w with
  | nil => rw [List.nil_append, List.nil_append, segL_eta]
  | cons b t ih =>
    rw [List.cons_append, segL, if_neg (by rw [h b (by simp)]; simp), ih (fun c hc => h c (by simp [hc]))]
    rfl
theorem segL_join (ws : List (List UInt8)) (h : ∀ w ∈ ws, ∀ b ∈ w, isBl b = false) (hne : ws ≠ []) : segL (Lib.join ws [32]) = ws := by
  induction ws with
  | nil => exact absurd rfl hne
  | cons w t ih =>
    cases t with
    | nil =>
      rw [Lib.join_one]
      have := segL_word w [] (h w (by simp))
      rw [List.append_nil] at this
      rw [this]; simp [segL]
    | cons x r =>
      have e : Lib.join (w :: x :: r) [32] = w ++ 32 :: Lib.join (x :: r) [32] := by
        rw [Lib.join_cons, Lib.join_cons]
        simp [Lib.joinTail]
      rw [e, segL_word w _ (h w (by simp)), segL, if_pos (by decide), ih (fun y hy => h y (by simp [hy])) (by simp)]
      simp
/-- the segments of a text are those of its bytes -/
theorem segs_L (s : ByteArray) (d : Nat) : ∀ frm i : Nat, s.size - i = d → i ≤ s.size → frm ≤ i →
    (segs s frm i).map (·.data.toList) = ((s.data.toList.drop frm).take (i - frm) ++ (segL (s.data.toList.drop i)).headD []) :: (segL (s.data.toList.drop i)).tail := by
  induction d with
  | zero =>
    intro frm i hd hi hf
    obtain rfl : i = s.size := by omega
    have e : s.data.toList.drop s.size = [] := List.drop_of_length_le (by rw [bytes_length]; exact Nat.le_refl _)
    rw [segs_end, e]
    simp [segL, Lib.extract_data]
  | succ d ih =>
    intro frm i hd hi hf
    have hlt : i < s.size := by omega
    have hget : s.data.toList.drop i = s.get! i :: s.data.toList.drop (i + 1) := by
      have h1 : i < s.data.toList.length := by rw [bytes_length]; exact hlt
      rw [List.drop_eq_getElem_cons h1]
      congr 1
      have := get_drop s 0 i
      rw [Nat.zero_add, List.drop_zero, List.getD_eq_getElem?_getD, List.getElem?_eq_getElem h1] at this
      exact this.symm
    rw [segs_step s frm i hlt, hget, segL]
    by_cases hb : isBl (s.get! i) = true
    · rw [if_pos hb, if_pos hb, List.map_cons, ih (i + 1) (i + 1) (by omega) (by omega) (Nat.le_refl _), Nat.sub_self, List.take_zero, List.nil_append, segL_eta, Lib.extract_data]
      simp
    · rw [if_neg hb, if_neg hb, ih frm (i + 1) (by omega) (by omega) (by omega)]
      simp only [List.headD_cons, List.tail_cons]
      congr 1
      have h2 : (s.data.toList.drop frm).take (i + 1 - frm) = (s.data.toList.drop frm).take (i - frm) ++ [s.get! i] := by
        rw [show i + 1 - frm = (i - frm) + 1 from by omega, List.take_add_one]
        congr 1
        rw [List.getElem?_drop, show frm + (i - frm) = i from by omega]
        have h1 : i < s.data.toList.length := by rw [bytes_length]; exact hlt
        have := get_drop s 0 i
        rw [Nat.zero_add, List.drop_zero, List.getD_eq_getElem?_getD, List.getElem?_eq_getElem h1] at this
        rw [List.getElem?_eq_getElem h1, this]; rfl
      rw [h2, List.append_assoc]; rfl
theorem segs_all (s : ByteArray) : (segs s 0 0).map (·.data.toList) = segL s.data.toList := by
  rw [segs_L s s.size 0 0 (by omega) (by omega) (Nat.le_refl _), List.drop_zero, Nat.sub_self, List.take_zero, List.nil_append, segL_eta]
end Go.Proofs.Ytijdlpbkmlplgaa.TL
