/- The plain law of TextLines. -/
import Derived.Test.YtijdlpbkmlplgaaTextJoined
import Derived.Test.YtijdlpbkmlplgaaQL4
set_option linter.unusedVariables false
set_option linter.unusedSimpArgs false
namespace Go.Proofs.Ytijdlpbkmlplgaa.TL
open Go.RowKit Go.Proofs.Ytijdlpbkmlplgaa.TS Go.Proofs.Ytijdlpbkmlplgaa.TR Go.Proofs.Ytijdlpbkmlplgaa.TX Go.Proofs.YtijdlpbkmlplgaaW.PrintWords Go.Proofs.YtijdlpbkmlplgaaW.PrintMore Go.Proofs.Ytijdlpbkmlplgaa.QL

theorem works_true : erratalaw01_works.f 60 = some true := by decide +kernel
theorem bt_at_list (s : ByteArray) (i : Nat) (b : UInt8) (h : s.data.toList[i]? = some b) : i < s.size ∧ bt s (i : Int) = ((b.toNat : Nat) : Int) := by
  have h1 := (List.getElem?_eq_some_iff.1 h).1
  rw [bytes_length] at h1
  refine ⟨h1, ?_⟩
  rw [bt_g s i h1]
  unfold g
  rw [List.getD_eq_getElem?_getD, h]; rfl
theorem nb32 (b : UInt8) (h : isBl b = false) : ((b.toNat : Nat) : Int) ≠ 32 := by
  intro e
  have : b = 32 := UInt8.toNat_inj.1 (by have : (32 : UInt8).toNat = 32 := rfl; omega)
  subst this
  exact absurd h (by decide)
/-- what a line is -/
structure LineOk (width : Int) (x c : ByteArray) : Prop where
  small : x.size ≤ 1073741824
  cpos : 1 ≤ c.size
  cle : c.size ≤ x.size
  wide : widthI x ≤ width
  head : ∀ j, j < c.size → bt x (j : Int) ≠ 32
  stop : c.size = x.size ∨ bt x (c.size : Int) = 32
  last : bt x ((x.size - 1 : Nat) : Int) ≠ 32
  cut : x.extract 0 c.size = c
theorem line_ok (width : Int) (c : ByteArray) (t : List ByteArray) (hs : (joinB (c :: t)).size ≤ 1073741824) (hw : widthI (joinB (c :: t)) ≤ width) (h : ∀ y ∈ c :: t, 1 ≤ y.size ∧ plainC y) : LineOk width (joinB (c :: t)) c := by
  have hc := h c (by simp)
  have hb : ∃ r, (joinB (c :: t)).data.toList = c.data.toList ++ r ∧ (r = [] ∨ ∃ q, r = 32 :: q) := by
    cases t with
    | nil => exact ⟨[], by rw [joinB_single, List.append_nil], Or.inl rfl⟩
    | cons y r =>
      refine ⟨32 :: (joinB (y :: r)).data.toList, ?_, Or.inr ⟨_, rfl⟩⟩
      have := joinB_append [c] (y :: r) (by simp) (by simp)
      rw [joinB_single] at this
      exact this
  obtain ⟨r, hr, hrr⟩ := hb
  have hlen : (joinB (c :: t)).size = c.size + r.length := by rw [← bytes_length, hr, List.length_append, bytes_length]
  have hcl : c.data.toList.length = c.size := bytes_length c
  refine ⟨hs, hc.1, by omega, hw, ?_, ?_, ?_, ?_⟩
  · intro j hj
    have hj2 : j < c.data.toList.length := by omega
    obtain ⟨_, e⟩ := bt_at_list (joinB (c :: t)) j (c.data.toList[j]'hj2) (by rw [hr, List.getElem?_append_left hj2, List.getElem?_eq_getElem hj2])
    rw [e]
    exact nb32 _ (hc.2 _ (List.getElem_mem hj2))
  · rcases hrr with rfl | ⟨q, rfl⟩
    · left; simp at hlen; omega
    · right
      obtain ⟨_, e⟩ := bt_at_list (joinB (c :: t)) c.size 32 (by rw [hr, List.getElem?_append_right (by omega), hcl, Nat.sub_self]; rfl)
      rw [e]; rfl
  · obtain ⟨init, l, hl⟩ : ∃ init l, c :: t = init ++ [l] := ⟨(c :: t).dropLast, (c :: t).getLast (by simp), (List.dropLast_concat_getLast (by simp)).symm⟩
    have hl2 := h l (by rw [hl]; simp)
    have hpre : ∃ pre, (joinB (c :: t)).data.toList = pre ++ l.data.toList := by
      rw [hl]
      cases init with
      | nil => exact ⟨[], by rw [List.nil_append, joinB_single, List.nil_append]⟩
      | cons y r2 =>
        have := joinB_append (y :: r2) [l] (by simp) (by simp)
        rw [joinB_single] at this
        exact ⟨(joinB (y :: r2)).data.toList ++ [32], by rw [this]; simp⟩
    obtain ⟨pre, hp⟩ := hpre
    have hll : l.data.toList.length = l.size := bytes_length l
    have hsz : (joinB (c :: t)).size = pre.length + l.size := by rw [← bytes_length, hp, List.length_append, hll]
    have hl1 := hl2.1
    have hj : l.size - 1 < l.data.toList.length := by omega
    obtain ⟨_, e⟩ := bt_at_list (joinB (c :: t)) ((joinB (c :: t)).size - 1) (l.data.toList[l.size - 1]'hj) (by
      rw [hp, hsz, List.getElem?_append_right (by omega), show pre.length + l.size - 1 - pre.length = l.size - 1 from by omega, List.getElem?_eq_getElem hj])
    rw [e]
    exact nb32 _ (hl2.2 _ (List.getElem_mem hj))
  · apply ByteArray.ext
    apply Array.toList_inj.1
    rw [Lib.extract_data, List.drop_zero, Nat.sub_zero, hr, ← hcl, List.take_left]
theorem lines_l1 (width : Int) (L : List ByteArray) (i : Nat) (hi : i < L.length) (x c : ByteArray) (hx : rdOf ByteArray.empty L (i : Int) = x) (hk : LineOk width x c) (d : Nat) : ∀ j : Nat, c.size - j = d → j ≤ c.size → ∀ {r : Bool}, Ev (fun k => erratalaw01_TextLines.j4 k width L (i : Int) (c.size : Int)) r → Ev (fun k => erratalaw01_TextLines.l1 k width L (i : Int) (j : Int)) r := by
  obtain ⟨k1, k2, k3, k4, k5, k6, k7, k8⟩ := hk
  have q0 : (0 ≤ (i : Int)) = True := eq_true (by omega)
  have q1 : ((i : Int) < (L.length : Int)) = True := eq_true (by omega)
  induction d with
  | zero =>
    intro j hd hj r h
    obtain rfl : j = c.size := by omega
    refine Ev.step (fun k => ?_) h
    rw [erratalaw01_TextLines.l1]
    simp only [q0, q1, hx, if_true]
    rcases k6 with k6 | k6
    · rw [if_neg (by omega)]
    · by_cases hlt : ((c.size : Int) < (x.size : Int))
      · rw [if_pos hlt, if_pos (by omega), if_pos k6]
      · rw [if_neg hlt]
  | succ d ih =>
    intro j hd hj r h
    have hb := k5 j (by omega)
    have q2 : ((j : Int) < (x.size : Int)) = True := eq_true (by omega)
    have q3 : (0 ≤ (j : Int)) = True := eq_true (by omega)
    have w1 := wn j 1 (j + 1) (by omega) (by omega)
    refine Ev.step (fun k => ?_) (ih (j + 1) (by omega) (by omega) h)
    rw [erratalaw01_TextLines.l1]
    simp only [q0, q1, q2, q3, hx, w1, if_true, eq_false hb, if_false]
theorem lines_l0 (width : Int) (hw : 4 ≤ width) (hw2 : width ≤ 9223372036854775807) (L C : List ByteArray) (hL : L.length ≤ 1073741824) (hC : C.length = L.length) (hok : ∀ (i : Nat) (hi : i < L.length), LineOk width L[i] (C[i]'(by omega)))
    (hch : ∀ (i : Nat) (hi : i + 1 < L.length), widthI (C[i + 1]'(by omega)) > width - widthI (L[i]'(by omega)) - 1) (d : Nat) : ∀ i : Nat, L.length - i = d → i ≤ L.length → Ev (fun k => erratalaw01_TextLines.l0 k width L (i : Int)) true := by
  induction d with
  | zero =>
    intro i hd hi
    refine Ev.step (fun k => ?_) (Ev.now _)
    rw [erratalaw01_TextLines.l0, if_neg (by omega)]
  | succ d ih =>
    intro i hd hi
    have hlt : i < L.length := by omega
    have hx := rd_at L i hlt
    have hk := hok i hlt
    have h2 := ih (i + 1) (by omega) (by omega)
    have w1 := wn i 1 (i + 1) (by omega) (by omega)
    have q0 : ((i : Int) < (L.length : Int)) = True := eq_true (by omega)
    have q1 : (0 ≤ (i : Int)) = True := eq_true (by omega)
    have hj2 : Ev (fun k => erratalaw01_TextLines.j2 k width L (i : Int) false) true := by
      by_cases h0 : i = 0
      · subst h0
        refine Ev.step (fun k => ?_) h2
        rw [erratalaw01_TextLines.j2]
        simp only [w1, if_false, Bool.false_eq_true, show ¬ (((0 : Nat) : Int) > 0) from by simp]
      · obtain ⟨m, rfl⟩ : ∃ m, i = m + 1 := ⟨i - 1, by omega⟩
        have hm : m < L.length := by omega
        have hxm := rd_at L m hm
        have hkm := hok m hm
        have hcc := hch m hlt
        have hj4 : Ev (fun k => erratalaw01_TextLines.j4 k width L ((m + 1 : Nat) : Int) ((C[m + 1]'(by omega)).size : Int)) true := by
          obtain ⟨k1, k2, k3, k4, k5, k6, k7, k8⟩ := hk
          have k1m := hkm.small
          have hbc := widthI_bd (C[m + 1]'(by omega))
          have hbm := widthI_bd (L[m]'hm)
          generalize (C[m + 1]'(by omega)) = c at *
          generalize (L[m + 1]'hlt) = x at *
          generalize (L[m]'hm) = y at *
          have e1 : text_Width.f y = some (widthI y) := by unfold text_Width.f; rw [if_pos (show small y.size from k1m)]
          have e2 : text_Width.f c = some (widthI c) := by unfold text_Width.f; rw [if_pos (show small c.size from Nat.le_trans k3 k1)]
          have wm : wrap64 (((m + 1 : Nat) : Int) - 1) = (m : Int) := by unfold wrap64; omega
          have q2 : (0 ≤ (m : Int)) = True := eq_true (by omega)
          have q3 : ((m : Int) < (L.length : Int)) = True := eq_true (by omega)
          have q4 : (0 ≤ (c.size : Int)) = True := eq_true (by omega)
          have q5 : ((c.size : Int) ≤ (x.size : Int)) = True := eq_true (by omega)
          have ww : wrap64 (width - widthI c) = width - widthI c := by unfold wrap64; omega
          have q6 : (widthI y < width - widthI c) = False := eq_false (by omega)
          refine Ev.step (fun k => ?_) h2
          rw [erratalaw01_TextLines.j4]
          simp only [wm, q0, q1, q2, q3, q4, q5, q6, hx, hxm, e1, e2, ww, w1, k8, Int.toNat_natCast, if_true, if_false, Option.bind_some]
        have hl1 := lines_l1 width L (m + 1) hlt _ _ hx hk (C[m + 1]'(by omega)).size 0 (by omega) (by omega) hj4
        have q7 : (((m + 1 : Nat) : Int) > 0) = True := eq_true (by omega)
        refine Ev.step (fun k => ?_) hl1
        rw [erratalaw01_TextLines.j2]
        simp only [q7, if_true, if_false, Bool.false_eq_true]
        rfl
    obtain ⟨k1, k2, k3, k4, k5, k6, k7, k8⟩ := hk
    have kb := k5 0 (by omega)
    generalize (C[i]'(by omega)) = c at *
    generalize (L[i]'hlt) = x at *
    have hxp : 1 ≤ x.size := by omega
    have e1 : text_Width.f x = some (widthI x) := by unfold text_Width.f; rw [if_pos (show small x.size from k1)]
    have q2 : (x.toList = ([] : List UInt8)) = False := eq_false (fun e => by have := (tl_nil x).1 e; omega)
    have q3 : (0 < (x.size : Int)) = True := eq_true (by omega)
    have wm : wrap64 ((x.size : Int) - 1) = ((x.size - 1 : Nat) : Int) := by unfold wrap64; omega
    have q4 : (0 ≤ ((x.size - 1 : Nat) : Int)) = True := eq_true (by omega)
    have q5 : (((x.size - 1 : Nat) : Int) < (x.size : Int)) = True := eq_true (by omega)
    have q6 : (bt x 0 = 32) = False := eq_false kb
    have q7 : (bt x ((x.size - 1 : Nat) : Int) = 32) = False := eq_false k7
    have q8 : decide (widthI x > width) = false := decide_eq_false (by omega)
    refine Ev.step (fun k => ?_) hj2
    rw [erratalaw01_TextLines.l0]
    simp only [q0, q1, hx, e1, q2, q3, wm, q4, q5, q6, q7, q8, if_true, if_false, Option.bind_some]
end Go.Proofs.Ytijdlpbkmlplgaa.TL
