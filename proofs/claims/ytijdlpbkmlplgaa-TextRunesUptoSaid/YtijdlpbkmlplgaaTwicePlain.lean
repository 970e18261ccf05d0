/- The plain law of TextRunes' tail: the document's breaks are the program's; rows of numbers are the same as themselves; a row that is written over and grown by twenty is no other's. -/
import Derived.Test.YtijdlpbkmlplgaaPiecesAlone
import Derived.Test.YtijdlpbkmlplgaaTwicePure
set_option linter.unusedVariables false
set_option linter.unusedSimpArgs false
namespace Go.Proofs.Ytijdlpbkmlplgaa.TP
open Go.RowKit Go.Proofs.Ytijdlpbkmlplgaa.TS Go.Proofs.Ytijdlpbkmlplgaa.TR Go.Proofs.Ytijdlpbkmlplgaa.TX Go.Proofs.YtijdlpbkmlplgaaW.PrintWords Go.Proofs.YtijdlpbkmlplgaaW.PrintMore Go.Proofs.Ytijdlpbkmlplgaa.QP

theorem wn (i : Nat) (c : Int) (j : Nat) (hc : (i : Int) + c = (j : Int)) (hj : j ≤ 4611686018427387904) : wrap64 ((i : Int) + c) = (j : Int) := by
  rw [hc]; unfold wrap64; omega
def brk (L : List S37) : List Int := L.flatMap fun p => if p.f2 < 0 then [p.f0] else []
theorem breaks_l0 (L : List S37) (hL : L.length ≤ 1073741824) (d : Nat) : ∀ (j : Nat) (out : List Int), L.length - j = d → j ≤ L.length → out.length ≤ j →
    Ev (fun k => errataref01_Breaks.l0 k out L (j : Int)) (out ++ brk (L.drop j)) := by
  induction d with
  | zero =>
    intro j out hd hj _
    have e : L.drop j = [] := List.drop_eq_nil_of_le (by omega)
    rw [e, show brk [] = [] from rfl, List.append_nil]
    refine Ev.step (fun k => ?_) (Ev.now _)
    rw [errataref01_Breaks.l0, if_neg (by omega)]
  | succ d ih =>
    intro j out hd hj ho
    have hlt : j < L.length := by omega
    have q0 : ((j : Int) < (L.length : Int)) = True := eq_true (by omega)
    have q1 : (0 ≤ (j : Int)) = True := eq_true (by omega)
    have q2 : (out.length < 17592186044416) = True := eq_true (by omega)
    have w1 := wn j 1 (j + 1) (by omega) (by omega)
    have hr := rd37_at L j hlt
    have hd2 : L.drop j = L[j] :: L.drop (j + 1) := List.drop_eq_getElem_cons hlt
    rw [hd2]
    by_cases hb : (L[j]).f2 < 0
    · have h := ih (j + 1) (out ++ [(L[j]).f0]) (by omega) (by omega) (by simp; omega)
      have e : out ++ brk (L[j] :: L.drop (j + 1)) = (out ++ [(L[j]).f0]) ++ brk (L.drop (j + 1)) := by
        unfold brk
        rw [List.flatMap_cons, if_pos hb, List.append_assoc]
      rw [e]
      refine Ev.step (fun k => ?_) h
      rw [errataref01_Breaks.l0]
      simp only [q0, q1, q2, w1, hr, hb, if_true]
    · have h := ih (j + 1) out (by omega) (by omega) (by omega)
      have e : out ++ brk (L[j] :: L.drop (j + 1)) = out ++ brk (L.drop (j + 1)) := by
        unfold brk
        rw [List.flatMap_cons, if_neg hb, List.nil_append]
      rw [e]
      refine Ev.step (fun k => ?_) h
      rw [errataref01_Breaks.l0]
      simp only [q0, q1, w1, hr, hb, if_true, if_false]
theorem brk_eq (s : ByteArray) : brk (pS s 0 (pieces s.data.toList)) = breaksI s := by
  have h := (pS_all s).2
  have e1 : brk (pS s 0 (pieces s.data.toList)) = ((pS s 0 (pieces s.data.toList)).map (fun p => (p.f0, p.f2))).flatMap (fun x => if x.2 < 0 then [x.1] else []) := by
    unfold brk
    rw [List.flatMap_map]
  rw [e1, h, List.flatMap_map]
  rfl
theorem refBreaks_eq (s : ByteArray) (hs : s.size ≤ 1048576) : Ev (fun k => errataref01_Breaks.f k s) (breaksI s) := by
  have hp : Ev (fun k => errataref01_Pieces.f k s) (pS s 0 (pieces s.data.toList)) := ⟨s.size + 42, fun k hk => pieces_eq s (by omega) k hk⟩
  have hl := pS_len s
  have h := breaks_l0 (pS s 0 (pieces s.data.toList)) (by omega) _ 0 [] rfl (by omega) (by simp)
  rw [List.drop_zero, List.nil_append, brk_eq] at h
  refine Ev.bind hp (f := fun k t123 => errataref01_Breaks.l0 k ([] : List Int) t123 0) h
theorem same_l0 (l : List Int) (hl : l.length ≤ 1073741824) (d : Nat) : ∀ i : Nat, l.length - i = d → i ≤ l.length → Ev (fun k => erratalaw01_sameInts.l0 k l l (i : Int)) true := by
  induction d with
  | zero =>
    intro i hd hi
    refine Ev.step (fun k => ?_) (Ev.now _)
    rw [erratalaw01_sameInts.l0, if_neg (by omega)]
  | succ d ih =>
    intro i hd hi
    have q0 : ((i : Int) < (l.length : Int)) = True := eq_true (by omega)
    have q1 : (0 ≤ (i : Int)) = True := eq_true (by omega)
    have w1 := wn i 1 (i + 1) (by omega) (by omega)
    refine Ev.step (fun k => ?_) (ih (i + 1) (by omega) (by omega))
    rw [erratalaw01_sameInts.l0]
    simp only [q0, q1, w1, if_true]
theorem same_eq (l : List Int) (hl : l.length ≤ 1073741824) : Ev (fun k => erratalaw01_sameInts.f k l l) true := by
  refine Ev.congr (fun k => ?_) (same_l0 l hl _ 0 rfl (by omega))
  show erratalaw01_sameInts.f k l l = erratalaw01_sameInts.l0 k l l ((0 : Nat) : Int)
  unfold erratalaw01_sameInts.f
  rw [if_pos rfl]
  rfl
theorem tail_l1 (L : List Int) (hL : L.length ≤ 1073741824) (d : Nat) : ∀ (X : List Int) (j : Nat), 20 - j = d → j ≤ 20 → X.length = L.length + j → Ev (fun k => TR.erratalaw01_TextRunes.l1 k L X L (j : Int)) true := by
  induction d with
  | zero =>
    intro X j hd hj hX
    have q0 : ((j : Int) < 20) = False := eq_false (by omega)
    have q1 : ((X.length : Int) = wrap64 ((L.length : Int) + 20)) = True := eq_true (by rw [wn L.length 20 (L.length + 20) (by omega) (by omega)]; omega)
    obtain ⟨K, hK⟩ := same_eq L hL
    refine ⟨K + 1, fun k hk => ?_⟩
    obtain ⟨k', rfl⟩ : ∃ k', k = k' + 1 := ⟨k - 1, by omega⟩
    have h1 : erratalaw01_sameInts.f k' L L = some true := hK k' (by omega)
    show TR.erratalaw01_TextRunes.l1 (k' + 1) L X L (j : Int) = some true
    rw [TR.erratalaw01_TextRunes.l1]
    simp only [q0, q1, if_true, if_false, h1, Option.bind_some]
  | succ d ih =>
    intro X j hd hj hX
    have q0 : ((j : Int) < 20) = True := eq_true (by omega)
    have q1 : (X.length < 17592186044416) = True := eq_true (by omega)
    have w1 := wn j 1 (j + 1) (by omega) (by omega)
    refine Ev.step (fun k => ?_) (ih (X ++ [(-9 : Int)]) (j + 1) (by omega) (by omega) (by simp; omega))
    rw [TR.erratalaw01_TextRunes.l1]
    simp only [q0, q1, w1, if_true]
theorem tail_l0 (L : List Int) (hL : L.length ≤ 1073741824) (d : Nat) : ∀ (X : List Int) (i : Nat), X.length - i = d → i ≤ X.length → X.length = L.length → Ev (fun k => TR.erratalaw01_TextRunes.l0 k L X L (i : Int)) true := by
  induction d with
  | zero =>
    intro X i hd hi hX
    have q0 : ((i : Int) < (X.length : Int)) = False := eq_false (by omega)
    refine Ev.step (fun k => ?_) (tail_l1 L hL 20 X 0 rfl (by omega) (by omega))
    rw [TR.erratalaw01_TextRunes.l0]
    simp only [q0, if_false]
    rfl
  | succ d ih =>
    intro X i hd hi hX
    have q0 : ((i : Int) < (X.length : Int)) = True := eq_true (by omega)
    have q1 : (0 ≤ (i : Int)) = True := eq_true (by omega)
    have w1 := wn i 1 (i + 1) (by omega) (by omega)
    refine Ev.step (fun k => ?_) (ih (X.set ((i : Int)).toNat (-9)) (i + 1) (by rw [List.length_set]; omega) (by rw [List.length_set]; omega) (by rw [List.length_set]; exact hX))
    rw [TR.erratalaw01_TextRunes.l0]
    simp only [q0, q1, w1, if_true]
/-- THE TAIL ANSWERS YES. -/
theorem tail_pure (s : ByteArray) (stop : Int) (hs : s.size ≤ 1048576) : ∃ k, TR.erratalaw01_TextRunes.f k s stop = some true := by
  have hl : (breaksI s).length ≤ 1048576 := by
    unfold breaksI
    have h1 := breaksAll_len (runes s.data.toList)
    have h2 := runes_le s
    omega
  have hb : text_Breaks.f s = some (breaksI s) := by unfold text_Breaks.f; rw [if_pos (by unfold small; omega)]
  obtain ⟨K1, h1⟩ := refBreaks_eq s hs
  obtain ⟨K2, h2⟩ := same_eq (breaksI s) (by omega)
  have h3 := tail_l0 (breaksI s) (by omega) _ (breaksI s) 0 rfl (by omega) rfl
  have hj : Ev (fun k => TR.erratalaw01_TextRunes.j0 k (breaksI s) (breaksI s) (breaksI s) false) true := by
    refine Ev.step (fun k => ?_) h3
    rw [TR.erratalaw01_TextRunes.j0, if_neg (by decide)]
    rfl
  obtain ⟨K3, h4⟩ := hj
  refine ⟨K1 + K2 + K3, ?_⟩
  have f1 : errataref01_Breaks.f (K1 + K2 + K3) s = some (breaksI s) := h1 _ (by omega)
  have f2 : erratalaw01_sameInts.f (K1 + K2 + K3) (breaksI s) (breaksI s) = some true := h2 _ (by omega)
  have f3 : TR.erratalaw01_TextRunes.j0 (K1 + K2 + K3) (breaksI s) (breaksI s) (breaksI s) false = some true := h4 _ (by omega)
  unfold TR.erratalaw01_TextRunes.f
  rw [f1]
  simp only [Option.bind_some, hb, f2, if_true, Bool.not_true, f3]
end Go.Proofs.Ytijdlpbkmlplgaa.TP
