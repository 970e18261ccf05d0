/- FitPlain -/
import Derived.Test.YtimmafiodhncgaaGreatDoorM33
import Derived.Test.YtimmafiodhncgaaGreatDoorM34
import Derived.Test.YtimmafiodhncgaaGreatDoorM3
/- The plain law of LinesFit: what the printed law computes is true, whatever texts of at most a million letters come. -/
set_option linter.unusedVariables false
set_option linter.unusedSimpArgs false
namespace Go.Proofs.YtimmafiodhncgaaGreatDoor.TF2
open Go.RowKit Go.Proofs.YtimmafiodhncgaaGreatDoor.TS Go.Proofs.YtimmafiodhncgaaGreatDoor.TR Go.Proofs.YtimmafiodhncgaaGreatDoor.TX Go.Proofs.YtimmafiodhncgaaGreatDoor.TP Go.Proofs.YtimmafiodhncgaaGreatDoorW.PrintWords Go.Proofs.YtimmafiodhncgaaGreatDoorW.PrintMore Go.Proofs.YtimmafiodhncgaaGreatDoor.QF

theorem rdOf_at (l : List ByteArray) (i : Nat) (h : i < l.length) : rdOf ByteArray.empty l (i : Int) = l[i] := by
  unfold rdOf
  rw [Int.toNat_natCast, List.getD_eq_getElem?_getD, List.getElem?_eq_getElem h]; rfl
theorem w64s (i : Nat) (h : i ≤ 1073741825) : wrap64 ((i : Int) + 1) = ((i + 1 : Nat) : Int) := by unfold wrap64; omega
theorem pS_len' (s : ByteArray) : (pS s 0 (pieces s.data.toList)).length = (runes s.data.toList).length := by
  have h := congrArg List.length (pS_all s).2
  simpa using h
theorem pS_at (s : ByteArray) (j : Nat) (h : j < (runes s.data.toList).length) : (rd_T73 (pS s 0 (pieces s.data.toList)) (j : Int)).f0 = ((runes s.data.toList)[j].1 : Int) := by
  have hl : j < (pS s 0 (pieces s.data.toList)).length := by rw [pS_len']; exact h
  rw [rdP_at _ j hl]
  have e := congrArg (fun (l : List (Int × Int)) => l[j]?) (pS_all s).2
  simp only [List.getElem?_map] at e
  rw [List.getElem?_eq_getElem hl, List.getElem?_eq_getElem h] at e
  simp only [Option.map_some, Option.some.injEq, Prod.mk.injEq] at e
  exact e.1
theorem pieces_ev (s : ByteArray) (hs : s.size ≤ 1073741824) : Ev (fun k => errataref01_Pieces.f k s) (pS s 0 (pieces s.data.toList)) := ⟨s.size + 42, fun k hk => pieces_eq s hs k hk⟩
theorem fit_l0 (l0 : List ByteArray) (width : Int) (hw : 1 ≤ width) (hw2 : width ≤ 9223372036854775807) (hl : l0.length ≤ 1073741824) (hs : ∀ s ∈ l0, s.size ≤ 1073741824) (d : Nat) : ∀ (i : Nat) (acc : List ByteArray), l0.length - i = d → i ≤ l0.length → acc.length = i →
    Ev (fun k => errataref15_Fit.l0 k l0 width acc (i : Int)) (acc ++ (l0.drop i).map (fit1 width), 0) := by
  induction d with
  | zero =>
    intro i acc hd hi ha
    refine Ev.step (fun k => ?_) (Ev.now _)
    rw [errataref15_Fit.l0, if_neg (show ¬ (i : Int) < (l0.length : Int) from by omega), List.drop_of_length_le (by omega), List.map_nil, List.append_nil]
  | succ d ih =>
    intro i acc hd hi ha
    have hlt : i < l0.length := by omega
    have hsz := hs _ (List.getElem_mem hlt)
    have hstep := ih (i + 1) (acc ++ [fit1 width l0[i]]) (by omega) (by omega) (by simp; omega)
    have hE : (acc ++ [fit1 width l0[i]]) ++ (l0.drop (i + 1)).map (fit1 width) = acc ++ (l0.drop i).map (fit1 width) := by
      rw [List.append_assoc, List.drop_eq_getElem_cons hlt]; rfl
    rw [hE] at hstep
    have q0 : (i : Int) < (l0.length : Int) := by omega
    have q1 : (0 : Int) ≤ (i : Int) := by omega
    have q2 : acc.length < 8796093022208 := by omega
    obtain ⟨s, hsv⟩ : ∃ s, l0[i] = s := ⟨_, rfl⟩
    rw [hsv] at hsz hstep
    have hp := pieces_ev s hsz
    have hn := pS_len' s
    have hbd := endOf_bd width s
    refine Ev.step (fun k => ?_) (Ev.bind hp (f := fun k t => if (t.length : Int) ≤ width then errataref15_Fit.l0 k l0 width (acc ++ [s]) ((i + 1 : Nat) : Int) else
      if 0 ≤ wrap64 (width - 1) then if wrap64 (width - 1) < (t.length : Int) then if 0 ≤ (rd_T73 t (wrap64 (width - 1))).f0 then if (rd_T73 t (wrap64 (width - 1))).f0 ≤ (s.size : Int) then
      if (s.extract 0 ((rd_T73 t (wrap64 (width - 1))).f0 : Int).toNat).size + 1 ≤ 9223372036854775807 then
      errataref15_Fit.l0 k l0 width (acc ++ [s.extract 0 ((rd_T73 t (wrap64 (width - 1))).f0 : Int).toNat ++ (⟨#[126]⟩ : ByteArray)]) ((i + 1 : Nat) : Int) else none else none else none else none else none) ?_)
    · rw [errataref15_Fit.l0]
      simp only [q0, q1, q2, if_true, rdOf_at l0 i hlt, hsv, w64s i (by omega)]
    · by_cases hc : width < ((runes s.data.toList).length : Int)
      · refine Ev.congr (fun k => ?_) hstep
        have hj : width.toNat - 1 < (runes s.data.toList).length := by omega
        have hwj : wrap64 (width - 1) = ((width.toNat - 1 : Nat) : Int) := by unfold wrap64; omega
        have hend : endOf width (runes s.data.toList) = ((runes s.data.toList)[width.toNat - 1].1 : Int) := by
          unfold endOf
          rw [if_pos (by omega), List.getD_eq_getElem?_getD, List.getElem?_eq_getElem hj]; rfl
        have hf : fit1 width s = s.extract 0 (endOf width (runes s.data.toList)).toNat ++ (⟨#[126]⟩ : ByteArray) := by unfold fit1; rw [if_pos hc]
        rw [hf, hwj, pS_at s _ hj, ← hend, hn]
        have c1 : ¬ ((runes s.data.toList).length : Int) ≤ width := by omega
        have c2 : (0 : Int) ≤ ((width.toNat - 1 : Nat) : Int) := by omega
        have c3 : ((width.toNat - 1 : Nat) : Int) < ((runes s.data.toList).length : Int) := by omega
        have c4 : (s.extract 0 (endOf width (runes s.data.toList)).toNat).size + 1 ≤ 9223372036854775807 := by rw [ByteArray.size_extract]; omega
        rw [if_neg c1, if_pos c2, if_pos c3, if_pos hbd.1, if_pos hbd.2, if_pos c4]
      · refine Ev.congr (fun k => ?_) hstep
        have hf : fit1 width s = s := by unfold fit1; rw [if_neg hc]
        rw [hf, hn, if_pos (by omega)]
theorem fit_ev (l0 : List ByteArray) (width : Int) (hw2 : width ≤ 9223372036854775807) (hl : l0.length ≤ 1073741824) (hs : ∀ s ∈ l0, s.size ≤ 1073741824) :
    Ev (fun k => errataref15_Fit.f k l0 width) (if width < 1 then ([], 1) else (l0.map (fit1 width), 0)) := by
  by_cases h : width < 1
  · rw [if_pos h]
    refine Ev.congr (fun k => ?_) (Ev.now _)
    rw [errataref15_Fit.f, if_pos h]
  · rw [if_neg h]
    have := fit_l0 l0 width (by omega) hw2 hl hs l0.length 0 [] rfl (by omega) rfl
    rw [List.drop_zero, List.nil_append] at this
    refine Ev.congr (fun k => ?_) this
    rw [errataref15_Fit.f, if_neg h]; rfl
theorem own_fit (l0 : List ByteArray) (width : Int) (hl : l0.length ≤ 1073741824) (hs : ∀ s ∈ l0, s.size ≤ 1073741824) : lines_Fit.f l0 width = some (if width < 1 then ([], 1) else (l0.map (fit1 width), 0)) := by
  unfold lines_Fit.f
  split
  · rfl
  · rw [if_pos ⟨hl, hs⟩]
theorem same_l0 (l : List ByteArray) (hl : l.length ≤ 1073741824) (d : Nat) : ∀ (i : Nat), l.length - i = d → i ≤ l.length → Ev (fun k => errataref15_Same.l0 k l l (i : Int)) true := by
  induction d with
  | zero =>
    intro i hd hi
    refine Ev.step (fun k => ?_) (Ev.now _)
    rw [errataref15_Same.l0, if_neg (show ¬ (i : Int) < (l.length : Int) from by omega)]
  | succ d ih =>
    intro i hd hi
    refine Ev.step (fun k => ?_) (ih (i + 1) (by omega) (by omega))
    have q0 : (i : Int) < (l.length : Int) := by omega
    have q1 : (0 : Int) ≤ (i : Int) := by omega
    rw [errataref15_Same.l0]
    simp only [q0, q1, if_true, w64s i (by omega)]
theorem same_ev (l : List ByteArray) (hl : l.length ≤ 1073741824) : Ev (fun k => errataref15_Same.f k l l) true := by
  refine Ev.congr (fun k => ?_) (same_l0 l hl _ 0 rfl (by omega))
  rw [errataref15_Same.f, if_pos rfl]; rfl
theorem spoil_l1 (d : Nat) : ∀ (X : List ByteArray) (j : Nat), 40 - j = d → j ≤ 40 → X.length ≤ 1073741824 + j → Ev (fun k => erratalaw15_spoil.l1 k X (j : Int)) () := by
  induction d with
  | zero =>
    intro X j hd hj hX
    refine Ev.step (fun k => ?_) (Ev.now _)
    rw [erratalaw15_spoil.l1, if_neg (show ¬ (j : Int) < 40 from by omega)]
  | succ d ih =>
    intro X j hd hj hX
    refine Ev.step (fun k => ?_) (ih (X ++ [(⟨#[94]⟩ : ByteArray)]) (j + 1) (by omega) (by omega) (by simp; omega))
    have q0 : (j : Int) < 40 := by omega
    have q2 : X.length < 8796093022208 := by omega
    rw [erratalaw15_spoil.l1]
    simp only [q0, q2, if_true, w64s j (by omega)]
theorem spoil_l0 (d : Nat) : ∀ (X : List ByteArray) (i : Nat), X.length - i = d → i ≤ X.length → X.length ≤ 1073741824 → Ev (fun k => erratalaw15_spoil.l0 k X (i : Int)) () := by
  induction d with
  | zero =>
    intro X i hd hi hX
    refine Ev.step (fun k => ?_) (spoil_l1 40 X 0 rfl (by omega) (by omega))
    rw [erratalaw15_spoil.l0, if_neg (show ¬ (i : Int) < (X.length : Int) from by omega)]; rfl
  | succ d ih =>
    intro X i hd hi hX
    refine Ev.step (fun k => ?_) (ih (X.set ((i : Int)).toNat (⟨#[126]⟩ : ByteArray)) (i + 1) (by rw [List.length_set]; omega) (by rw [List.length_set]; omega) (by rw [List.length_set]; exact hX))
    have q0 : (i : Int) < (X.length : Int) := by omega
    have q1 : (0 : Int) ≤ (i : Int) := by omega
    rw [erratalaw15_spoil.l0]
    simp only [q0, q1, if_true, w64s i (by omega)]
theorem spoil_ev (X : List ByteArray) (hX : X.length ≤ 1073741824) : Ev (fun k => erratalaw15_spoil.f k X) () := by
  refine Ev.congr (fun k => ?_) (spoil_l0 _ X 0 rfl (by omega) hX)
  rw [erratalaw15_spoil.f]; rfl
/-- a text with a sign ahead of it -/
def turn (s : ByteArray) : ByteArray := (⟨#[60]⟩ : ByteArray) ++ s
theorem turn_size (s : ByteArray) : (turn s).size = 1 + s.size := by unfold turn; rw [ByteArray.size_append]; rfl
theorem law_l0 (l0 : List ByteArray) (width : Int) (hw2 : width ≤ 9223372036854775807) (R C : List ByteArray) (hR : C = R) (hRl : R.length ≤ 1073741824) (hl : l0.length ≤ 1073741823) (hs : ∀ s ∈ l0, s.size ≤ 1073741823) (d : Nat) :
    ∀ (i : Nat) (X acc : List ByteArray), l0.length - i = d → i ≤ l0.length → X.take i = acc → acc = (l0.take i).map turn → X.length = l0.length + 1 → Ev (fun k => erratalaw15_LinesFit.l0 k l0 width X R C acc (i : Int)) true := by
  subst hR
  induction d with
  | zero =>
    intro i X acc hd hi ha hacc hX
    obtain rfl : i = l0.length := by omega
    rw [List.take_length] at hacc
    have hok : ∀ s ∈ l0.map turn, s.size ≤ 1073741824 := fun s h => by
      obtain ⟨t, ht, rfl⟩ := List.mem_map.1 h
      have := hs t ht
      rw [turn_size]; omega
    have hll : (l0.map turn).length ≤ 1073741824 := by rw [List.length_map]; omega
    have q1 : (0 : Int) ≤ (l0.length : Int) := by omega
    have q2 : (l0.length : Int) ≤ (X.length : Int) := by omega
    have e1 : X.take ((l0.length : Int) : Int).toNat = l0.map turn := by rw [Int.toNat_natCast, ha, hacc]
    have hF := fit_ev (l0.map turn) width hw2 hll hok
    obtain ⟨p, hp⟩ : ∃ p, (if width < 1 then (([] : List ByteArray), (1 : Int)) else ((l0.map turn).map (fit1 width), 0)) = p := ⟨_, rfl⟩
    have hpl : p.1.length ≤ 1073741824 := by
      rw [← hp]; split
      · simp
      · simp only [List.length_map]; omega
    rw [hp] at hF
    refine Ev.step (fun k => ?_) (Ev.bind hF (f := fun k bt198 => if p.2 = bt198.2 then ((errataref15_Same.f k p.1 bt198.1).bind fun t202 => (if t202 = true then ((errataref15_Same.f k C C).bind fun t203 => (if t203 = true then some true else (some false))) else (some false))) else (some false)) ?_)
    · rw [erratalaw15_LinesFit.l0, if_neg (show ¬ ((l0.length : Nat) : Int) < (l0.length : Int) from by omega), if_pos q1, if_pos q2, e1, own_fit _ width hll hok, hp, hacc]
      rfl
    · refine Ev.congr (fun k => by rw [if_pos rfl]) ?_
      refine Ev.bind (same_ev p.1 hpl) (f := fun k t202 => (if t202 = true then ((errataref15_Same.f k C C).bind fun t203 => (if t203 = true then some true else (some false))) else (some false))) ?_
      refine Ev.congr (fun k => by rw [if_pos rfl]) ?_
      exact Ev.bind (same_ev C hRl) (f := fun k t203 => (if t203 = true then some true else (some false))) (Ev.congr (fun k => by rw [if_pos rfl]) (Ev.now _))
  | succ d ih =>
    intro i X acc hd hi ha hacc hX
    have hlt : i < l0.length := by omega
    have hsz := hs _ (List.getElem_mem hlt)
    have q0 : (i : Int) < (l0.length : Int) := by omega
    have q1 : (0 : Int) ≤ (i : Int) := by omega
    have q2 : 1 + (l0[i]).size ≤ 9223372036854775807 := by omega
    have q3 : (i : Int) < (X.length : Int) := by omega
    have hal : acc.length = i := by rw [hacc, List.length_map, List.length_take]; omega
    have q4 : acc.length < 8796093022208 := by omega
    refine Ev.step (fun k => ?_) (ih (i + 1) (X.set ((i : Int)).toNat (turn l0[i])) (acc ++ [turn l0[i]]) (by omega) (by omega) ?_ ?_ (by rw [List.length_set]; exact hX))
    · rw [erratalaw15_LinesFit.l0]
      simp only [q0, q1, q2, q3, q4, if_true, rdOf_at l0 i hlt, w64s i (by omega)]
      rfl
    · rw [Int.toNat_natCast, List.take_add_one, List.getElem?_set_self (by omega), ← ha, List.take_set_of_le (Nat.le_refl _)]
      rfl
    · rw [hacc, List.take_add_one (l := l0), List.getElem?_eq_getElem hlt]
      simp only [Option.toList_some, List.map_append, List.map_cons, List.map_nil]
theorem fits_pure (l0 : List ByteArray) (width : Int) (hw2 : width ≤ 9223372036854775807) (hl : l0.length ≤ 1073741822) (hs : ∀ s ∈ l0, s.size ≤ 1073741823) : Ev (fun k => erratalaw15_LinesFit.f k l0 width) true := by
  have hs' : ∀ s ∈ l0, s.size ≤ 1073741824 := fun s h => by have := hs s h; omega
  have hll : l0.length ≤ 1073741824 := by omega
  obtain ⟨y, hy⟩ : ∃ y, l0 ++ [(⟨#[35]⟩ : ByteArray)] = y := ⟨_, rfl⟩
  have hyl : y.length = l0.length + 1 := by rw [← hy]; simp
  have hyt : y.take ((l0.length : Int) : Int).toNat = l0 := by rw [Int.toNat_natCast, ← hy]; simp
  have hya : (rdOf ByteArray.empty y (l0.length : Int)).toList = [35] := by
    rw [rdOf_at y _ (by omega)]
    have : y[l0.length]'(by omega) = (⟨#[35]⟩ : ByteArray) := by subst hy; simp
    rw [this, Lib.toList_data]
  have hF := fit_ev l0 width hw2 hll hs'
  obtain ⟨p, hp⟩ : ∃ p, (if width < 1 then (([] : List ByteArray), (1 : Int)) else (l0.map (fit1 width), 0)) = p := ⟨_, rfl⟩
  have hpl : p.1.length ≤ 1073741824 := by
    rw [← hp]; split
    · simp
    · simp only [List.length_map]; omega
  rw [hp] at hF
  have q0 : ([] : List ByteArray).length + l0.length < 8796093022208 := by simp; omega
  have q1 : ([] ++ l0 : List ByteArray).length < 8796093022208 := by simp; omega
  have q2 : (0 : Int) ≤ (l0.length : Int) := by omega
  have q3 : (l0.length : Int) ≤ (y.length : Int) := by omega
  have q4 : (l0.length : Int) < (y.length : Int) := by omega
  have hj1 : Ev (fun k => erratalaw15_LinesFit.j1 k l0 width y p.1 p.1 false) true := by
    refine Ev.step (fun k => ?_) (law_l0 l0 width hw2 p.1 p.1 rfl hpl (by omega) hs l0.length 0 y [] rfl (by omega) rfl rfl hyl)
    rw [erratalaw15_LinesFit.j1, if_neg (by simp)]; rfl
  have hj0 : Ev (fun k => erratalaw15_LinesFit.j0 k l0 width y p.1 p.1 p.1 false) true := by
    refine Ev.step (fun k => ?_) (Ev.bind (spoil_ev p.1 hpl) (f := fun k _ => ((errataref15_Same.f k p.1 p.1).bind fun t178 => (if t178 = true then (((errataref15_Same.f k l0 l0).bind fun t183 => (erratalaw15_LinesFit.j1 k l0 width y p.1 p.1 (!t183)))) else (erratalaw15_LinesFit.j1 k l0 width y p.1 p.1 true)))) ?_)
    · rw [erratalaw15_LinesFit.j0, if_neg (by simp)]
      simp only [q2, q3, if_true, hyt]
    · refine Ev.bind (same_ev p.1 hpl) (f := fun k t178 => (if t178 = true then (((errataref15_Same.f k l0 l0).bind fun t183 => (erratalaw15_LinesFit.j1 k l0 width y p.1 p.1 (!t183)))) else (erratalaw15_LinesFit.j1 k l0 width y p.1 p.1 true))) ?_
      refine Ev.congr (fun k => by rw [if_pos rfl]) ?_
      exact Ev.bind (same_ev l0 hll) (f := fun k t183 => erratalaw15_LinesFit.j1 k l0 width y p.1 p.1 (!t183)) hj1
  refine Ev.congr (fun k => ?_) (Ev.bind hF (f := fun k bt159 => (if p.2 = bt159.2 then ((errataref15_Same.f k p.1 bt159.1).bind fun t171 => (if t171 = true then ((errataref15_Same.f k l0 l0).bind fun t176 => (if t176 = true then (erratalaw15_LinesFit.j0 k l0 width y p.1 bt159.1 p.1 false) else (erratalaw15_LinesFit.j0 k l0 width y p.1 bt159.1 p.1 true))) else (erratalaw15_LinesFit.j0 k l0 width y p.1 bt159.1 p.1 true))) else (erratalaw15_LinesFit.j0 k l0 width y p.1 bt159.1 p.1 true))) ?_)
  · have hap : (([] ++ l0 : List ByteArray) ++ [(⟨#[35]⟩ : ByteArray)]) = y := by rw [List.nil_append]; exact hy
    rw [erratalaw15_LinesFit.f, Option.bind_some, if_pos q0, Option.bind_some, if_pos q1, Option.bind_some, hap, if_pos q2, if_pos q3, hyt, own_fit l0 width hll hs', hp, Option.bind_some]
    simp only [Option.bind_some, q4, if_true, hya, bne_self_eq_false]
  · refine Ev.congr (fun k => by rw [if_pos rfl]) ?_
    refine Ev.bind (same_ev p.1 hpl) (f := fun k t171 => (if t171 = true then ((errataref15_Same.f k l0 l0).bind fun t176 => (if t176 = true then (erratalaw15_LinesFit.j0 k l0 width y p.1 p.1 p.1 false) else (erratalaw15_LinesFit.j0 k l0 width y p.1 p.1 p.1 true))) else (erratalaw15_LinesFit.j0 k l0 width y p.1 p.1 p.1 true))) ?_
    refine Ev.congr (fun k => by rw [if_pos rfl]) ?_
    refine Ev.bind (same_ev l0 hll) (f := fun k t176 => (if t176 = true then (erratalaw15_LinesFit.j0 k l0 width y p.1 p.1 p.1 false) else (erratalaw15_LinesFit.j0 k l0 width y p.1 p.1 p.1 true))) ?_
    exact Ev.congr (fun k => by rw [if_pos rfl]) hj0
end Go.Proofs.YtimmafiodhncgaaGreatDoor.TF2
