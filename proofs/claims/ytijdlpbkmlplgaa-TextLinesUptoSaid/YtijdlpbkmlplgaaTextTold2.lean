/- The plain law of TextLines, put together. -/
import Derived.Test.YtijdlpbkmlplgaaTextTold
set_option linter.unusedVariables false
set_option linter.unusedSimpArgs false
namespace Go.Proofs.Ytijdlpbkmlplgaa.TL
open Go.RowKit Go.Proofs.Ytijdlpbkmlplgaa.TS Go.Proofs.Ytijdlpbkmlplgaa.TR Go.Proofs.Ytijdlpbkmlplgaa.TX Go.Proofs.YtijdlpbkmlplgaaW.PrintWords Go.Proofs.YtijdlpbkmlplgaaW.PrintMore Go.Proofs.Ytijdlpbkmlplgaa.QL

theorem groups_size (G : List (List ByteArray)) (h : ∀ c ∈ G.flatten, 1 ≤ c.size) : ((G.map joinB).map (·.size)).sum ≤ 2 * (G.flatten.map (·.size)).sum := by
  induction G with
  | nil => simp
  | cons g t ih =>
    have i1 := ih (fun c hc => h c (by rw [List.flatten_cons]; exact List.mem_append_right _ hc))
    have h1 := joinB_len g
    have h2 := len_le_sum g (fun c hc => h c (by rw [List.flatten_cons]; exact List.mem_append_left _ hc))
    rw [List.map_cons, List.map_cons, List.sum_cons, List.flatten_cons, List.map_append, List.sum_append]
    omega
theorem lines_pure (s : ByteArray) (width : Int) (hs : s.size ≤ 1048576) (hw2 : width ≤ 9223372036854775807) : Ev (fun k => erratalaw01_TextLines.f k s width) true := by
  have hs2 : s.size ≤ 1073741000 := by omega
  obtain ⟨K0, h0⟩ : Ev (fun k => erratalaw01_works.f k) true := Ev.of (fun k => erratalaw01_works.mono k) works_true
  have hT := wrap_eq s hs2 width hw2
  by_cases h4 : width < 4
  · have e : wrapL s width = ([], 1) := by unfold wrapL; rw [if_pos h4]
    rw [e] at hT
    obtain ⟨K1, h1⟩ := hT
    refine ⟨K0 + K1, fun k hk => ?_⟩
    have f0 : erratalaw01_works.f k = some true := h0 k (by omega)
    have f1 : text_Wrap.f k s width = some ([], 1) := h1 k (by omega)
    show erratalaw01_TextLines.f k s width = some true
    unfold erratalaw01_TextLines.f
    rw [f0, f1]
    simp only [Option.bind_some, if_true, if_pos h4]
    rfl
  · have hw : 4 ≤ width := by omega
    obtain ⟨G, hG1, hG2, hG3, hG4⟩ := wrap_groups s width hw
    obtain ⟨fC, _⟩ := allC_facts s width hw
    have hsum : ((allC s width).map (·.size)).sum ≤ s.size := (segs_facts s width hw hs2).2
    have hgs := groups_size G (fun c hc => (fC c (by rw [← hG4]; exact hc)).1)
    rw [hG4] at hgs
    have hlen := wrapL_len s hs2 width
    have hag := wrap_again s width hw
    have hpl := plain_again s width hw
    have hjl := joinB_len (G.map joinB)
    have hl2 : (G.map joinB).length ≤ ((allC s width).map (·.size)).sum := by
      have h1 := len_le_sum (allC s width) (fun c hc => (fC c hc).1)
      have h2 : G.length ≤ G.flatten.length := by
        have : ∀ G : List (List ByteArray), (∀ g ∈ G, g ≠ []) → G.length ≤ G.flatten.length := by
          intro G
          induction G with
          | nil => intro _; simp
          | cons g t ih =>
            intro h
            have := ih (fun x hx => h x (by simp [hx]))
            have h3 := List.length_pos_iff.2 (h g (by simp))
            rw [List.flatten_cons, List.length_append, List.length_cons]; omega
        exact this G (fun g hg => (hG2 g hg).1)
      rw [hG4] at h2
      rw [List.length_map]; omega
    rw [hG1] at hT hlen hag hpl
    simp only at hlen hag hpl
    have hC : (G.map (fun g => g.headD ByteArray.empty)).length = (G.map joinB).length := by simp
    have hjs : (joinB (G.map joinB)).size ≤ 1073741000 := by omega
    have hsl : ((G.map joinB).map (·.size)).sum ≤ 1073741824 := by omega
    have hj := joined_eq (G.map joinB) hlen hsl
    have hA := wrap_eq (joinB (G.map joinB)) hjs width hw2
    rw [hag] at hA
    have hsame := same_eq (G.map joinB) hlen
    have hp1 := plain_eq (joinB (G.map joinB)) (by omega)
    have hp2 := plain_eq s (by omega)
    rw [hpl] at hp1
    have hok : ∀ (i : Nat) (hi : i < (G.map joinB).length), LineOk width (G.map joinB)[i] ((G.map (fun g => g.headD ByteArray.empty))[i]'(by omega)) := by
      intro i hi
      rw [List.getElem_map, List.getElem_map]
      have hgi : i < G.length := by simpa using hi
      have hmem : G[i] ∈ G := List.getElem_mem hgi
      obtain ⟨hne, hwd⟩ := hG2 _ hmem
      have hall : ∀ y ∈ G[i], 1 ≤ y.size ∧ plainC y := fun y hy => by
        have := fC y (by rw [← hG4]; exact List.mem_flatten.2 ⟨_, hmem, hy⟩)
        exact ⟨this.1, this.2.2⟩
      have hsz : (joinB G[i]).size ≤ 1073741824 := by
        have h1 : (joinB G[i]).size ≤ ((G.map joinB).map (·.size)).sum := by
          have : ∀ (l : List Nat) (x : Nat), x ∈ l → x ≤ l.sum := by
            intro l x hx
            induction l with
            | nil => cases hx
            | cons y t ih => rcases List.mem_cons.1 hx with rfl | hx <;> simp only [List.sum_cons]; omega; have := ih hx; omega
          exact this _ _ (List.mem_map.2 ⟨_, List.mem_map.2 ⟨_, hmem, rfl⟩, rfl⟩)
        omega
      generalize G[i] = g at *
      obtain ⟨c, t, rfl⟩ := List.exists_cons_of_ne_nil hne
      exact line_ok width c t hsz hwd hall
    have hch : ∀ (i : Nat) (hi : i + 1 < (G.map joinB).length), widthI ((G.map (fun g => g.headD ByteArray.empty))[i + 1]'(by omega)) > width - widthI ((G.map joinB)[i]'(by omega)) - 1 := by
      intro i hi
      rw [List.getElem_map, List.getElem_map]
      have hgi : i + 1 < G.length := by simpa using hi
      exact hG3 i _ _ (List.getElem?_eq_getElem (by omega)) (List.getElem?_eq_getElem hgi)
    have hL := lines_l0 width hw hw2 (G.map joinB) _ hlen hC hok hch (G.map joinB).length 0 (by omega) (by omega)
    have hj0 : Ev (fun k => erratalaw01_TextLines.j0 k width (G.map joinB) false) true := by
      refine Ev.step (fun k => ?_) hL
      rw [erratalaw01_TextLines.j0, if_neg (by decide)]
      rfl
    clear hL hok hch hC hgs hjl hl2 hsl hjs hsum hlen hag hpl hG1 hG2 hG3 hG4 fC
    generalize G.map joinB = L at *
    obtain ⟨K1, h1⟩ := hT
    obtain ⟨K2, h2⟩ := hj
    obtain ⟨K3, h3⟩ := hA
    obtain ⟨K4, h4'⟩ := hsame
    obtain ⟨K5, h5⟩ := hp1
    obtain ⟨K6, h6⟩ := hp2
    obtain ⟨K7, h7⟩ := hj0
    refine ⟨K0 + K1 + K2 + K3 + K4 + K5 + K6 + K7, fun k hk => ?_⟩
    have f0 : erratalaw01_works.f k = some true := h0 k (by omega)
    have f1 : text_Wrap.f k s width = some (L, 0) := h1 k (by omega)
    have f2 : erratalaw01_joined.f k L = some (joinB L) := h2 k (by omega)
    have f3 : text_Wrap.f k (joinB L) width = some (L, 0) := h3 k (by omega)
    have f4 : erratalaw01_sameTexts.f k L L = some true := h4' k (by omega)
    have f5 : erratalaw01_plain.f k (joinB L) = some (plainB s) := h5 k (by omega)
    have f6 : erratalaw01_plain.f k s = some (plainB s) := h6 k (by omega)
    have f7 : erratalaw01_TextLines.j0 k width L false = some true := h7 k (by omega)
    show erratalaw01_TextLines.f k s width = some true
    unfold erratalaw01_TextLines.f
    rw [f0, f1]
    simp only [Option.bind_some, if_true, if_neg h4, f2, f3, f4, f5, f6, bne_self_eq_false, f7]
end Go.Proofs.Ytijdlpbkmlplgaa.TL
