/- Parts of a text by themselves: between two places where a rune begins lies one piece; cuts; what is left behind a cut. No program in sight. -/
import Derived.Test.YtijdlpbkmlplgaaTextJoin
import Derived.Test.YtijdlpbkmlplgaaPartsEnd
set_option linter.unusedVariables false
set_option linter.unusedSimpArgs false
namespace Go.Proofs.Ytijdlpbkmlplgaa.TL
open Go.RowKit Go.Proofs.Ytijdlpbkmlplgaa.TS Go.Proofs.Ytijdlpbkmlplgaa.TR Go.Proofs.Ytijdlpbkmlplgaa.TX Go.Proofs.YtijdlpbkmlplgaaW.PrintWords Go.Proofs.YtijdlpbkmlplgaaW.PrintMore

def lens (ps : List Piece) : Nat := (ps.map (fun p => p.2.length)).sum
def wides (ps : List Piece) : Int := (ps.map fun p => wideI (rn p.1)).sum
theorem lens_cons (p : Piece) (t : List Piece) : lens (p :: t) = p.2.length + lens t := by simp [lens]
theorem wides_cons (p : Piece) (t : List Piece) : wides (p :: t) = wideI (rn p.1) + wides t := by simp [wides]
theorem lens_append (a b : List Piece) : lens (a ++ b) = lens a + lens b := by simp [lens]
theorem wides_nonneg (ps : List Piece) : 0 ≤ wides ps := by
  induction ps with
  | nil => exact Int.le_refl _
  | cons p t ih => rw [wides_cons]; have := wideI_bd (rn p.1); omega
theorem pieces_drop (ps : List Piece) : ∀ (l : List UInt8) (rest : List Piece), pieces l = ps ++ rest → pieces (l.drop (lens ps)) = rest := by
  induction ps with
  | nil => intro l rest h; simpa [lens] using h
  | cons p t ih =>
    intro l rest h
    have hne : l ≠ [] := by intro e; subst e; rw [pieces_nil] at h; cases h
    rw [pieces_cons l hne, List.cons_append] at h
    injection h with h1 h2
    have hlen : p.2.length = (take1 l).2 := by rw [← h1]; have := take1_le l hne; simp only [List.length_take]; omega
    rw [lens_cons, hlen, ← List.drop_drop]
    exact ih _ rest h2
theorem split_runes (ps : List Piece) : ∀ (k : Nat) (pre : List (Nat × Int)) (l : Nat) (r : Int) (suf : List (Nat × Int)), runesFrom k ps = pre ++ (l, r) :: suf →
    ∃ A p t, ps = A ++ p :: t ∧ l = k + lens A ∧ r = rn p.1 ∧ suf = runesFrom (l + p.2.length) t := by
  induction ps with
  | nil => intro k pre l r suf h; cases pre <;> cases h
  | cons p t ih =>
    intro k pre l r suf h
    have e : runesFrom k (p :: t) = (k, rn p.1) :: runesFrom (k + p.2.length) t := rfl
    rw [e] at h
    cases pre with
    | nil =>
      injection h with h1 h2
      injection h1 with h3 h4
      exact ⟨[], p, t, rfl, by simp [lens, h3], h4.symm, by rw [← h2, h3]⟩
    | cons x pre =>
      injection h with h1 h2
      obtain ⟨A, q, u, e1, e2, e3, e4⟩ := ih _ pre l r suf h2
      exact ⟨p :: A, q, u, by rw [e1]; rfl, by rw [lens_cons]; omega, e3, e4⟩
theorem valid_may (r : Nat) (h : may r = true) : Utf8.valid (r : Int) = true := by
  unfold may at h
  unfold Utf8.valid
  simp only [Bool.or_eq_true, Bool.and_eq_true, decide_eq_true_eq] at h ⊢
  omega
theorem encode_enc (r : Nat) (h : may r = true) : (Utf8.encode (r : Int)).data.toList = enc r := by
  have hv := valid_may r h
  have hc : (if Utf8.valid (r : Int) = true then (r : Int).toNat else Utf8.runeError) = r := by rw [if_pos hv, Int.toNat_natCast]
  simp only [Utf8.encode, hc]
  unfold enc
  by_cases h1 : r < 128
  · simp only [if_pos h1]
  · by_cases h2 : r < 2048
    · simp only [if_neg h1, if_pos h2]
    · by_cases h3 : r < 65536
      · simp only [if_neg h1, if_neg h2, if_pos h3]
      · simp only [if_neg h1, if_neg h2, if_neg h3]
theorem rn_enc (r : Nat) (h : may r = true) : (Utf8.encode (rn (some r))).data.toList = enc r := by
  have e : rn (some r) = (r : Int) := rfl
  rw [e]
  exact encode_enc r h
theorem bytes_ext {a b : ByteArray} (h : a.data.toList = b.data.toList) : a = b := ByteArray.ext (Array.toList_inj.1 h)
/-- BETWEEN TWO PLACES LIES ONE PIECE. -/
theorem piece_of (s : ByteArray) (A t : List Piece) (p : Piece) (h : pieces s.data.toList = A ++ p :: t) : PieceAt s (lens A) (lens A + p.2.length) (rn p.1) := by
  have hok : okPiece p := pieces_ok s.data.toList p (by rw [h]; simp)
  have hpos := piece_pos hok
  have htot : lens A + (p.2.length + lens t) = s.size := by rw [← lens_cons, ← lens_append, ← h, ← TR.bytes_length]; exact pieces_lens _
  have hd := pieces_drop A _ _ h
  have hp := pieces_prefix _ [p] t hd
  simp only [List.map_cons, List.map_nil, List.sum_cons, List.sum_nil, Nat.add_zero] at hp
  have hb : (s.data.toList.drop (lens A)).take p.2.length = p.2 := by
    have := pieces_flat ((s.data.toList.drop (lens A)).take p.2.length)
    rw [hp] at this
    simpa using this.symm
  have he : (s.extract (lens A) (lens A + p.2.length)).data.toList = p.2 := by rw [Lib.extract_data, Nat.add_sub_cancel_left]; exact hb
  refine ⟨by omega, by omega, fun hr => ?_, fun hr => ?_, ?_⟩
  · unfold okPiece at hok
    cases hp1 : p.1 with
    | none => rw [hp1] at hok; rw [← TR.bytes_length, he]; exact hok
    | some r => rw [hp1] at hr; exact absurd hr (by show ¬ (r : Int) < 0; omega)
  · unfold okPiece at hok
    cases hp1 : p.1 with
    | none => rw [hp1] at hr; exact absurd hr (by decide)
    | some r =>
      rw [hp1] at hok
      refine bytes_ext ?_
      rw [he, hok.2]
      exact (rn_enc r hok.1).symm
  · rw [widthI_L, he]
    unfold widthL
    rw [hb] at hp
    rw [hp]
    simp
theorem parts_A2 (s : ByteArray) (p : List (Nat × Int)) (l0 : Nat) (r0 : Int) (i : Nat) (r : Int) (h : (p ++ [(l0, r0)]) ++ [(i, r)] <+: runes s.data.toList) : PieceAt s l0 i r0 := by
  obtain ⟨u, hu⟩ := h
  rw [List.append_assoc, List.append_assoc] at hu
  obtain ⟨A, q, t, e1, e2, e3, e4⟩ := split_runes _ 0 p l0 r0 ((i, r) :: u) hu.symm
  have hi : i = l0 + q.2.length := by
    cases t with
    | nil => cases e4
    | cons q' t' => injection e4 with e5 _; injection e5
  rw [Nat.zero_add] at e2
  rw [hi, e2, e3]
  exact piece_of s A t q e1
theorem parts_A3 (s : ByteArray) : (runes s.data.toList = [] ∧ s.toList = ([] : List UInt8)) ∨ ∃ p l0 r0, runes s.data.toList = p ++ [(l0, r0)] ∧ s.toList ≠ ([] : List UInt8) ∧ PieceAt s l0 s.size r0 := by
  rcases List.eq_nil_or_concat (runes s.data.toList) with h | ⟨p, ⟨l0, r0⟩, h⟩
  · left
    refine ⟨h, ?_⟩
    rw [tl_nil, ← TR.bytes_length]
    have hl : (pieces s.data.toList).length = 0 := by rw [← runesFrom_length 0]; unfold runes at h; rw [h]; rfl
    have h2 := pieces_lens s.data.toList
    rw [List.length_eq_zero_iff.1 hl] at h2
    simpa using h2.symm
  · right
    rw [List.concat_eq_append] at h
    obtain ⟨A, q, t, e1, e2, e3, e4⟩ := split_runes _ 0 p l0 r0 [] h
    have ht : t = [] := by
      cases t with
      | nil => rfl
      | cons q' t' => cases e4
    subst ht
    rw [Nat.zero_add] at e2
    have hp := piece_of s A [] q e1
    have htot : lens A + q.2.length = s.size := by
      have h1 : lens (A ++ [q]) = s.size := by rw [← e1, ← TR.bytes_length]; exact pieces_lens _
      rw [lens_append, lens_cons] at h1
      have h0 : lens [] = 0 := rfl
      omega
    rw [htot, ← e2, ← e3] at hp
    refine ⟨p, l0, r0, h, ?_, hp⟩
    rw [Ne, tl_nil]
    have := hp.lt
    have := hp.le
    omega
/-- where a text is cut, whatever the width -/
theorem cut_split2 (width : Int) : ∀ (ps : List Piece) (i : Nat) (n : Int), ∃ ps' rest, ps = ps' ++ rest ∧ cutPos width (i + lens ps) (runesFrom i ps) n = i + lens ps' ∧ (ps' ≠ [] → n + wides ps' ≤ width) ∧ (∀ p t, rest = p :: t → n + wides ps' + wideI (rn p.1) > width) := by
  intro ps
  induction ps with
  | nil => intro i n; exact ⟨[], [], rfl, rfl, fun h => absurd rfl h, fun p t h => by cases h⟩
  | cons p t ih =>
    intro i n
    simp only [runesFrom, cutPos]
    by_cases h : n + wideI (rn p.1) > width
    · rw [if_pos h]
      refine ⟨[], p :: t, rfl, by simp [lens], fun h => absurd rfl h, fun q u e => ?_⟩
      injection e with e1 e2
      subst e1
      have : wides [] = 0 := rfl
      omega
    · rw [if_neg h]
      obtain ⟨ps', rest, h1, h2, h3, h4⟩ := ih (i + p.2.length) (n + wideI (rn p.1))
      refine ⟨p :: ps', rest, by rw [h1]; rfl, ?_, fun _ => ?_, fun q u e => ?_⟩
      · rw [lens_cons, lens_cons, ← Nat.add_assoc, ← Nat.add_assoc]
        exact h2
      · rw [wides_cons]
        by_cases hn : ps' = []
        · subst hn
          have : wides [] = 0 := rfl
          omega
        · have := h3 hn
          omega
      · have := h4 q u e
        rw [wides_cons]; omega
theorem cutPos_mono (a b : Int) (hab : a ≤ b) : ∀ (ps : List Piece) (i : Nat) (n : Int) (e : Nat), i + lens ps ≤ e → cutPos a e (runesFrom i ps) n ≤ cutPos b e (runesFrom i ps) n := by
  intro ps
  induction ps with
  | nil => intro i n e _; exact Nat.le_refl _
  | cons p t ih =>
    intro i n e he
    rw [lens_cons] at he
    simp only [runesFrom, cutPos]
    by_cases h : n + wideI (rn p.1) > b
    · rw [if_pos h, if_pos (by omega)]; exact Nat.le_refl _
    · rw [if_neg h]
      by_cases h' : n + wideI (rn p.1) > a
      · rw [if_pos h']
        exact cutPos_ge b e i (by omega) _ _ (fun x hx => by have := runesFrom_ge t _ x hx; omega)
      · rw [if_neg h']
        exact ih _ _ e (by omega)
theorem cutB_mono (s : ByteArray) (a b : Int) (hab : a ≤ b) : (cutB s a).size ≤ (cutB s b).size := by
  rw [cutB_size, cutB_size]
  exact cutPos_mono a b hab _ 0 0 s.size (by rw [Nat.zero_add, ← TR.bytes_length]; exact Nat.le_of_eq (pieces_lens _))
theorem cutB_front (s : ByteArray) (w : Int) : s.extract 0 (cutB s w).size = cutB s w := by
  have h := cutB_size s w
  rw [h]
  unfold cutB
  rfl
theorem cutB_within (s : ByteArray) (a b : Int) (hab : a ≤ b) : (cutB s b).extract 0 (cutB s a).size = cutB s a := by
  have h := cutB_mono s a b hab
  have ea := cutB_front s a
  have eb := cutB_front s b
  generalize (cutB s a).size = m at h ea ⊢
  generalize (cutB s b).size = n at h eb
  rw [← ea, ← eb]
  apply bytes_ext
  simp only [Lib.extract_data, List.drop_zero, Nat.sub_zero, List.take_take]
  rw [Nat.min_eq_left h]
/-- A CUT: its width, and what stands behind it. -/
theorem cut_all (s : ByteArray) (w : Int) : widthI (cutB s w) ≤ max w 0 ∧
    (∀ i r, [] ++ [(i, r)] <+: runes (s.extract (cutB s w).size s.size).data.toList → wideI r > w - widthI (cutB s w)) ∧ (runes (s.extract (cutB s w).size s.size).data.toList = [] → cutB s w = s) := by
  obtain ⟨ps', rest, h1, h2, h3, h4⟩ := cut_split2 w (pieces s.data.toList) 0 0
  have hl : lens (pieces s.data.toList) = s.size := by rw [← TR.bytes_length]; exact pieces_lens _
  rw [hl, Nat.zero_add, Nat.zero_add] at h2
  have hsz : (cutB s w).size = lens ps' := (cutB_size s w).trans h2
  have hpre := pieces_prefix s.data.toList ps' rest h1
  have hwd : widthI (cutB s w) = wides ps' := by
    rw [widthI_L]
    unfold widthL cutB
    rw [Lib.extract_data, List.drop_zero, Nat.sub_zero]
    show ((pieces (s.data.toList.take (cutPos w s.size (runesFrom 0 (pieces s.data.toList)) 0))).map fun p => wideI (rn p.1)).sum = _
    rw [h2]
    unfold lens
    rw [hpre]
    rfl
  have hrest : (s.extract (cutB s w).size s.size).data.toList = s.data.toList.drop (lens ps') := by
    rw [Lib.extract_data, hsz]
    refine List.take_of_length_le ?_
    rw [List.length_drop, TR.bytes_length]
    exact Nat.le_refl _
  have hdrop := pieces_drop ps' _ rest h1
  rw [hrest, hwd]
  unfold runes
  rw [hdrop]
  refine ⟨?_, fun i r hp => ?_, fun hn => ?_⟩
  · by_cases hn : ps' = []
    · subst hn
      have : wides [] = 0 := rfl
      omega
    · have := h3 hn
      omega
  · cases rest with
    | nil => obtain ⟨u, hu⟩ := hp; cases hu
    | cons p t =>
      have := h4 p t rfl
      obtain ⟨u, hu⟩ := hp
      injection hu with e1 _
      injection e1 with _ e2
      rw [e2]
      omega
  · cases rest with
    | cons p t => cases hn
    | nil =>
      rw [List.append_nil] at h1
      rw [← cutB_front s w, hsz, ← h1, hl]
      exact extract_whole s
end Go.Proofs.Ytijdlpbkmlplgaa.TL
