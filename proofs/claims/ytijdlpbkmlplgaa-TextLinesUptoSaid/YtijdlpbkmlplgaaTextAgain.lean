/- What the lines of Wrap are: groups of chunks; parted again they are the same; no byte of a word is lost. Plain; then the printed 'joined' and 'plain'. -/
import Derived.Test.YtijdlpbkmlplgaaTextJoin
import Derived.Test.YtijdlpbkmlplgaaQL1
set_option linter.unusedVariables false
set_option linter.unusedSimpArgs false
namespace Go.Proofs.Ytijdlpbkmlplgaa.TL
open Go.RowKit Go.Proofs.Ytijdlpbkmlplgaa.TS Go.Proofs.Ytijdlpbkmlplgaa.TR Go.Proofs.Ytijdlpbkmlplgaa.TX Go.Proofs.YtijdlpbkmlplgaaW.PrintWords Go.Proofs.YtijdlpbkmlplgaaW.PrintMore Go.Proofs.Ytijdlpbkmlplgaa.QL

/-- the chunks of a text -/
def allC (s : ByteArray) (width : Int) : List ByteArray := (segs s 0 0).flatMap (chunks width)
def plainC (c : ByteArray) : Prop := ∀ b ∈ c.data.toList, isBl b = false
theorem allC_facts (s : ByteArray) (width : Int) (hw : 4 ≤ width) : (∀ c ∈ allC s width, 1 ≤ c.size ∧ widthI c ≤ width ∧ plainC c) ∧ (allC s width).flatMap (·.data.toList) = s.data.toList.filter (fun b => !isBl b) := by
  have hs := segs_all s
  have key : ∀ ws : List ByteArray, (∀ w ∈ ws, plainC w) → (∀ c ∈ ws.flatMap (chunks width), 1 ≤ c.size ∧ widthI c ≤ width ∧ plainC c) ∧ (ws.flatMap (chunks width)).flatMap (·.data.toList) = ws.flatMap (·.data.toList) := by
    intro ws
    induction ws with
    | nil => intro _; simp
    | cons w t ih =>
      intro h
      obtain ⟨i1, i2⟩ := ih (fun x hx => h x (by simp [hx]))
      obtain ⟨c1, c2⟩ := chunks_facts width hw w.size w (Nat.le_refl _)
      have c3 := (chunks_size width hw w.size w (Nat.le_refl _)).1
      refine ⟨fun c hc => ?_, ?_⟩
      · rw [List.flatMap_cons, List.mem_append] at hc
        rcases hc with hc | hc
        · refine ⟨c3 c hc, c1 c hc, fun b hb => h w (by simp) b ?_⟩
          rw [← c2]
          exact List.mem_flatMap.2 ⟨c, hc, hb⟩
        · exact i1 c hc
      · rw [List.flatMap_cons, List.flatMap_append, i2, c2, List.flatMap_cons]
  have hp : ∀ w ∈ segs s 0 0, plainC w := by
    intro w hw'
    refine segL_plain s.data.toList w.data.toList ?_
    rw [← hs]
    exact List.mem_map.2 ⟨w, hw', rfl⟩
  obtain ⟨k1, k2⟩ := key _ hp
  refine ⟨k1, ?_⟩
  unfold allC
  rw [k2, ← segL_flat, ← hs, List.flatMap_def]
/-- one chunk, in groups -/
def stepG (width : Int) (st : List (List ByteArray) × List ByteArray × Int) (c : ByteArray) : List (List ByteArray) × List ByteArray × Int :=
  if st.2.1 ≠ [] ∧ widthI c > width - st.2.2 - 1 then (st.1 ++ [st.2.1], [c], widthI c)
  else (st.1, st.2.1 ++ [c], if st.2.1 = [] then widthI c else st.2.2 + 1 + widthI c)
def endG (st : List (List ByteArray) × List ByteArray × Int) : List (List ByteArray) := if st.2.1 = [] then st.1 else st.1 ++ [st.2.1]
theorem stepG_A (width : Int) (L : List ByteArray) : ∀ st : List (List ByteArray) × List ByteArray × Int, L.foldl (stepA width) (st.1.map joinB, st.2.1, st.2.2) = ((L.foldl (stepG width) st).1.map joinB, (L.foldl (stepG width) st).2.1, (L.foldl (stepG width) st).2.2) := by
  induction L with
  | nil => intro st; rfl
  | cons c t ih =>
    intro st
    rw [List.foldl_cons, List.foldl_cons, ← ih]
    congr 1
    unfold stepA stepG
    simp only
    split
    · simp
    · rfl
theorem endG_A (st : List (List ByteArray) × List ByteArray × Int) : endA (st.1.map joinB, st.2.1, st.2.2) = (endG st).map joinB := by
  unfold endA endG
  simp only
  split
  · rfl
  · simp
theorem widthI_snoc (l : List ByteArray) (c : ByteArray) (h : l ≠ []) : widthI (joinB (l ++ [c])) = widthI (joinB l) + 1 + widthI c := by
  have e : (joinB (l ++ [c])).data.toList = (joinB l).data.toList ++ 32 :: c.data.toList := by
    obtain ⟨x, t, rfl⟩ := List.exists_cons_of_ne_nil h
    rw [joinB_list, joinB_list]
    simp only [List.cons_append, List.map_cons, List.map_append, List.map_nil, Lib.join_cons, Lib.joinTail, List.flatten_append, List.flatten_cons, List.flatten_nil, List.append_nil]
    simp
  rw [widthI_L, widthI_L, widthI_L, e, widthL_app]
theorem joinB_single (c : ByteArray) : joinB [c] = c := by
  apply ByteArray.ext
  apply Array.toList_inj.1
  rw [joinB_list, List.map_cons, List.map_nil, Lib.join_one]
def ChainG (width : Int) (G : List (List ByteArray)) : Prop := ∀ (i : Nat) (g h : List ByteArray), G[i]? = some g → G[i + 1]? = some h → widthI (h.headD ByteArray.empty) > width - widthI (joinB g) - 1
theorem chain_snoc (width : Int) (G : List (List ByteArray)) (g h : List ByteArray) (hc : ChainG width (G ++ [g])) (hn : widthI (h.headD ByteArray.empty) > width - widthI (joinB g) - 1) : ChainG width (G ++ [g] ++ [h]) := by
  intro i a b ha hb
  by_cases h1 : i + 1 < (G ++ [g]).length
  · rw [List.getElem?_append_left (by omega)] at ha
    rw [List.getElem?_append_left h1] at hb
    exact hc i a b ha hb
  · have hb' := hb
    have hlen : i + 1 < (G ++ [g] ++ [h]).length := (List.getElem?_eq_some_iff.1 hb).1
    simp only [List.length_append, List.length_cons, List.length_nil] at h1 hlen
    have hi : i = G.length := by omega
    subst hi
    rw [List.getElem?_append_right (by simp)] at hb
    simp at hb
    rw [List.getElem?_append_left (by simp), List.getElem?_append_right (Nat.le_refl _)] at ha
    simp at ha
    subst ha hb
    exact hn
theorem chain_last (width : Int) (G : List (List ByteArray)) (g g' : List ByteArray) (hc : ChainG width (G ++ [g])) (hh : g'.headD ByteArray.empty = g.headD ByteArray.empty) : ChainG width (G ++ [g']) := by
  intro i a b ha hb
  have hlen : i + 1 < (G ++ [g']).length := (List.getElem?_eq_some_iff.1 hb).1
  simp only [List.length_append, List.length_cons, List.length_nil] at hlen
  have ha2 : (G ++ [g])[i]? = some a := by
    rw [List.getElem?_append_left (by omega)] at ha ⊢
    exact ha
  by_cases h1 : i + 1 < G.length
  · rw [List.getElem?_append_left h1] at hb
    exact hc i a b ha2 (by rw [List.getElem?_append_left h1]; exact hb)
  · have hi : i + 1 = G.length := by omega
    rw [hi, List.getElem?_append_right (Nat.le_refl _)] at hb
    simp at hb
    subst hb
    rw [hh]
    exact hc i a g ha2 (by rw [hi, List.getElem?_append_right (Nat.le_refl _)]; simp)
def InvG (width : Int) (done : List ByteArray) (st : List (List ByteArray) × List ByteArray × Int) : Prop :=
  (∀ g ∈ endG st, g ≠ [] ∧ widthI (joinB g) ≤ width) ∧ (st.2.1 = [] → st.1 = []) ∧ (st.2.1 ≠ [] → st.2.2 = widthI (joinB st.2.1)) ∧ ChainG width (endG st) ∧ (endG st).flatten = done
theorem stepG_inv (width : Int) (done : List ByteArray) (st : List (List ByteArray) × List ByteArray × Int) (c : ByteArray) (hI : InvG width done st) (hc : widthI c ≤ width) : InvG width (done ++ [c]) (stepG width st c) := by
  obtain ⟨G, line, N⟩ := st
  obtain ⟨h1, h2, h3, h4, h5⟩ := hI
  simp only at h2 h3
  unfold stepG
  simp only
  by_cases hl : line = []
  · subst hl
    have hG := h2 rfl
    subst hG
    rw [if_neg (by simp)]
    simp only [endG, if_true, List.flatten_nil] at h5
    subst h5
    refine ⟨?_, by simp, ?_, ?_, ?_⟩
    · intro g hg
      simp [endG] at hg
      subst hg
      exact ⟨by simp, by rw [joinB_single]; exact hc⟩
    · intro _; simp [joinB_single]
    · intro i a b ha hb
      simp [endG] at hb
    · simp [endG]
  · have hN := h3 hl
    have he : endG (G, line, N) = G ++ [line] := by unfold endG; simp only [hl, if_false]
    rw [he] at h1 h4 h5
    by_cases hf : widthI c > width - N - 1
    · rw [if_pos ⟨hl, hf⟩]
      have he2 : endG (G ++ [line], [c], widthI c) = G ++ [line] ++ [[c]] := by unfold endG; simp
      refine ⟨?_, by simp, ?_, ?_, ?_⟩
      · rw [he2]
        intro g hg
        rcases List.mem_append.1 hg with hg | hg
        · exact h1 g hg
        · simp at hg; subst hg; exact ⟨by simp, by rw [joinB_single]; exact hc⟩
      · intro _; simp [joinB_single]
      · rw [he2]
        exact chain_snoc width G line [c] h4 (by rw [List.headD_cons, ← hN]; exact hf)
      · rw [he2, List.flatten_append, h5]; simp
    · rw [if_neg (fun e => hf e.2)]
      have he2 : endG (G, line ++ [c], if line = [] then widthI c else N + 1 + widthI c) = G ++ [line ++ [c]] := by unfold endG; simp
      have hws := widthI_snoc line c hl
      refine ⟨?_, by simp, ?_, ?_, ?_⟩
      · rw [he2]
        intro g hg
        rcases List.mem_append.1 hg with hg | hg
        · exact h1 g (List.mem_append_left _ hg)
        · simp at hg; subst hg; exact ⟨by simp, by rw [hws]; omega⟩
      · intro _; simp only [hl, if_false]; rw [hws, hN]
      · rw [he2]
        refine chain_last width G line (line ++ [c]) h4 ?_
        obtain ⟨x, t, rfl⟩ := List.exists_cons_of_ne_nil hl
        rfl
      · rw [he2, List.flatten_append, ← h5, List.flatten_append]; simp
theorem foldG_inv (width : Int) (L : List ByteArray) (h : ∀ c ∈ L, widthI c ≤ width) : ∀ (done : List ByteArray) (st : List (List ByteArray) × List ByteArray × Int), InvG width done st → InvG width (done ++ L) (L.foldl (stepG width) st) := by
  induction L with
  | nil => intro done st hI; simpa using hI
  | cons c t ih =>
    intro done st hI
    have := ih (fun x hx => h x (by simp [hx])) _ _ (stepG_inv width done st c hI (h c (by simp)))
    rw [List.append_assoc, List.singleton_append] at this
    exact this
theorem invG0 (width : Int) : InvG width [] (([] : List (List ByteArray)), ([] : List ByteArray), (0 : Int)) :=
  ⟨by simp [endG], fun _ => rfl, by simp, by intro i a b ha hb; simp [endG] at ha, rfl⟩
/-- THE LINES OF WRAP ARE GROUPS OF CHUNKS. -/
theorem wrap_groups (s : ByteArray) (width : Int) (hw : 4 ≤ width) : ∃ G : List (List ByteArray), wrapL s width = (G.map joinB, 0) ∧ (∀ g ∈ G, g ≠ [] ∧ widthI (joinB g) ≤ width) ∧ ChainG width G ∧ G.flatten = allC s width := by
  have hI := foldG_inv width (allC s width) (fun c hc => ((allC_facts s width hw).1 c hc).2.1) [] _ (invG0 width)
  rw [List.nil_append] at hI
  refine ⟨_, ?_, hI.1, hI.2.2.2.1, hI.2.2.2.2⟩
  unfold wrapL
  rw [if_neg (by omega)]
  have := stepG_A width (allC s width) ([], [], 0)
  show (endA ((allC s width).foldl (stepA width) ([], [], 0)), (0 : Int)) = _
  rw [show (([] : List ByteArray), ([] : List ByteArray), (0 : Int)) = ((([] : List (List ByteArray)), ([] : List ByteArray), (0 : Int)).1.map joinB, [], 0) from rfl, this, endG_A]
theorem joinB_append (a b : List ByteArray) (ha : a ≠ []) (hb : b ≠ []) : (joinB (a ++ b)).data.toList = (joinB a).data.toList ++ 32 :: (joinB b).data.toList := by
  obtain ⟨x, t, rfl⟩ := List.exists_cons_of_ne_nil ha
  obtain ⟨y, r, rfl⟩ := List.exists_cons_of_ne_nil hb
  rw [joinB_list, joinB_list, joinB_list]
  simp only [List.cons_append, List.map_cons, List.map_append, Lib.join_cons, Lib.joinTail, List.flatten_append, List.flatten_cons]
  simp
theorem joinB_groups (G : List (List ByteArray)) (h : ∀ g ∈ G, g ≠ []) : joinB (G.map joinB) = joinB G.flatten := by
  induction G with
  | nil => rfl
  | cons g t ih =>
    cases t with
    | nil => simp [joinB_single]
    | cons g2 r =>
      have ih' := ih (fun x hx => h x (by simp [hx]))
      apply ByteArray.ext
      apply Array.toList_inj.1
      have hne : (g2 :: r).flatten ≠ [] := by
        intro e
        have := h g2 (by simp)
        rw [List.flatten_cons] at e
        exact this (List.append_eq_nil_iff.1 e).1
      rw [List.flatten_cons, joinB_append g _ (h g (by simp)) hne, ← ih', List.map_cons]
      have := joinB_append [joinB g] ((g2 :: r).map joinB) (by simp) (by simp)
      rw [joinB_single] at this
      exact this
theorem bytes_inj (a b : List ByteArray) (h : a.map (·.data.toList) = b.map (·.data.toList)) : a = b := by
  have : Function.Injective (fun x : ByteArray => x.data.toList) := fun x y e => ByteArray.ext (Array.toList_inj.1 e)
  exact (List.map_inj_right (fun x y e => this e)).1 h
/-- the chunks of joined chunks -/
theorem allC_join (C : List ByteArray) (width : Int) (hw : 4 ≤ width) (h : ∀ c ∈ C, 1 ≤ c.size ∧ widthI c ≤ width ∧ plainC c) : allC (joinB C) width = C := by
  unfold allC
  cases hC : C with
  | nil =>
    have e : segs (joinB []) 0 0 = [ByteArray.empty] := by
      apply bytes_inj
      rw [segs_all]; rfl
    rw [e, List.flatMap_cons, List.flatMap_nil, chunks_nil _ _ rfl]
    rfl
  | cons c t =>
    rw [← hC]
    have e : segs (joinB C) 0 0 = C := by
      apply bytes_inj
      rw [segs_all, joinB_list]
      refine segL_join _ (fun w hw' => ?_) (by rw [hC]; simp)
      obtain ⟨x, hx, rfl⟩ := List.mem_map.1 hw'
      exact (h x hx).2.2
    rw [e]
    clear e hC
    induction C with
    | nil => rfl
    | cons x r ih =>
      rw [List.flatMap_cons, ih (fun y hy => h y (by simp [hy])), chunks_self x width hw (h x (by simp)).2.1 (by have := (h x (by simp)).1; omega)]
      rfl
/-- PARTED AGAIN THEY ARE THE SAME LINES. -/
theorem wrap_again (s : ByteArray) (width : Int) (hw : 4 ≤ width) : wrapL (joinB (wrapL s width).1) width = wrapL s width := by
  obtain ⟨G, h1, h2, h3, h4⟩ := wrap_groups s width hw
  have e : joinB (wrapL s width).1 = joinB (allC s width) := by
    rw [h1, ← h4]; exact joinB_groups G (fun g hg => (h2 g hg).1)
  rw [e]
  have := allC_join (allC s width) width hw (allC_facts s width hw).1
  unfold wrapL
  rw [if_neg (by omega), if_neg (by omega)]
  show (endA ((allC (joinB (allC s width)) width).foldl (stepA width) ([], [], 0)), (0 : Int)) = (endA ((allC s width).foldl (stepA width) ([], [], 0)), 0)
  rw [this]
def plainB (s : ByteArray) : ByteArray := ⟨(s.data.toList.filter (fun b => !isBl b)).toArray⟩
/-- NO BYTE OF A WORD IS LOST. -/
theorem plain_again (s : ByteArray) (width : Int) (hw : 4 ≤ width) : plainB (joinB (wrapL s width).1) = plainB s := by
  obtain ⟨G, h1, h2, h3, h4⟩ := wrap_groups s width hw
  have e : joinB (wrapL s width).1 = joinB (allC s width) := by
    rw [h1, ← h4]; exact joinB_groups G (fun g hg => (h2 g hg).1)
  obtain ⟨f1, f2⟩ := allC_facts s width hw
  have g2 := (allC_facts (joinB (allC s width)) width hw).2
  rw [allC_join _ width hw f1] at g2
  unfold plainB
  rw [e, ← g2, f2]
end Go.Proofs.Ytijdlpbkmlplgaa.TL
