/- The printed 'joined' and 'plain' of the laws, as they answer. -/
import Derived.Test.YtijdlpbkmlplgaaTextAgain
import Derived.Test.YtijdlpbkmlplgaaQL3
set_option linter.unusedVariables false
set_option linter.unusedSimpArgs false
namespace Go.Proofs.Ytijdlpbkmlplgaa.TL
open Go.RowKit Go.Proofs.Ytijdlpbkmlplgaa.TS Go.Proofs.Ytijdlpbkmlplgaa.TR Go.Proofs.Ytijdlpbkmlplgaa.TX Go.Proofs.YtijdlpbkmlplgaaW.PrintWords Go.Proofs.YtijdlpbkmlplgaaW.PrintMore Go.Proofs.Ytijdlpbkmlplgaa.QL

theorem rd_at (L : List ByteArray) (i : Nat) (h : i < L.length) : rdOf ByteArray.empty L (i : Int) = L[i] := by
  unfold rdOf
  rw [Int.toNat_natCast, List.getD_eq_getElem?_getD, List.getElem?_eq_getElem h]; rfl
theorem joined_l0 (l : List ByteArray) (hl : l.length ≤ 1073741824) (hs : (l.map (·.size)).sum ≤ 1073741824) (d : Nat) : ∀ i : Nat, l.length - i = d → i ≤ l.length → Ev (fun k => erratalaw01_joined.l0 k l (bytesOf (joinB (l.take i))) (i : Int)) (joinB l) := by
  induction d with
  | zero =>
    intro i hd hi
    obtain rfl : i = l.length := by omega
    refine Ev.step (fun k => ?_) (Ev.now _)
    rw [erratalaw01_joined.l0, if_neg (by omega), List.take_length, strOfNums_bytesOf]
  | succ d ih =>
    intro i hd hi
    have hlt : i < l.length := by omega
    have htk : l.take (i + 1) = l.take i ++ [l[i]] := by rw [List.take_add_one, List.getElem?_eq_getElem hlt]; rfl
    have hsz : ((l.take i).map (·.size)).sum + l[i].size ≤ 1073741824 := by
      have h1 : ((l.take (i + 1)).map (·.size)).sum ≤ (l.map (·.size)).sum := by
        conv => rhs; rw [← List.take_append_drop (i + 1) l]
        rw [List.map_append, List.sum_append]; omega
      rw [htk, List.map_append, List.sum_append] at h1
      simp only [List.map_cons, List.map_nil, List.sum_cons, List.sum_nil, Nat.add_zero] at h1
      exact Nat.le_trans h1 hs
    have hjl := joinB_len (l.take i)
    have htl : (l.take i).length = i := by rw [List.length_take]; omega
    have hbl : (bytesOf (joinB (l.take i))).length = (joinB (l.take i)).size := bytesOf_length _
    have hB : (bytesOf (joinB (l.take i))).length ≤ 2147483648 := by rw [hbl]; omega
    have hls : l[i].size ≤ 1073741824 := by omega
    clear hjl hbl hsz
    have q0 : ((i : Int) < (l.length : Int)) = True := eq_true (by clear hB hls; omega)
    have q1 : (0 ≤ (i : Int)) = True := eq_true (by clear hB hls; omega)
    have w1 := wn i 1 (i + 1) (by clear hB hls; omega) (by clear hB hls; omega)
    have q2 : ((bytesOf (joinB (l.take i))).length < 140737488355328) = True := eq_true (Nat.lt_of_le_of_lt hB (by decide))
    have q3 : ((bytesOf (joinB (l.take i)) ++ [32]).length + l[i].size < 140737488355328) = True := eq_true (by rw [List.length_append]; exact Nat.lt_of_le_of_lt (Nat.add_le_add (Nat.add_le_add hB (Nat.le_refl 1)) hls) (by decide))
    have q4 : ((bytesOf (joinB (l.take i))).length + l[i].size < 140737488355328) = True := eq_true (Nat.lt_of_le_of_lt (Nat.add_le_add hB hls) (by decide))
    have hrd := rd_at l i hlt
    have h2 := ih (i + 1) (by clear hB hls; omega) (by clear hB hls; omega)
    clear hB hls
    by_cases h0 : i = 0
    · subst h0
      have e0 : bytesOf (joinB (l.take 0)) = [] := rfl
      rw [htk, List.take_zero, List.nil_append, joinB_one] at h2
      rw [e0] at q4 ⊢
      refine Ev.step (fun k => ?_) h2
      rw [erratalaw01_joined.l0]
      simp only [q0, q1, q4, hrd, w1, List.nil_append, if_true, if_false, show ¬ (((0 : Nat) : Int) > 0) from by simp]
    · have q5 : ((i : Int) > 0) = True := eq_true (by omega)
      have hne : l.take i ≠ [] := fun e => by have := congrArg List.length e; rw [htl] at this; exact h0 this
      rw [htk, joinB_snoc _ _ hne] at h2
      refine Ev.step (fun k => ?_) h2
      rw [erratalaw01_joined.l0]
      simp only [q0, q1, q2, q3, q5, hrd, w1, if_true, Option.bind_some]
theorem joined_eq (l : List ByteArray) (hl : l.length ≤ 1073741824) (hs : (l.map (·.size)).sum ≤ 1073741824) : Ev (fun k => erratalaw01_joined.f k l) (joinB l) := joined_l0 l hl hs l.length 0 (by omega) (by omega)
theorem plain_l0 (s : ByteArray) (hs : s.size ≤ 1073741824) (d : Nat) : ∀ i : Nat, s.size - i = d → i ≤ s.size →
    Ev (fun k => erratalaw01_plain.l0 k s (((s.data.toList.take i).filter (fun b => !isBl b)).map (fun b => ((b.toNat : Nat) : Int))) (i : Int)) (plainB s) := by
  induction d with
  | zero =>
    intro i hd hi
    have e : s.data.toList.take i = s.data.toList := List.take_of_length_le (by rw [bytes_length]; omega)
    refine Ev.step (fun k => ?_) (Ev.now _)
    rw [erratalaw01_plain.l0, if_neg (by omega), e]
    exact congrArg some (strOfNums_bytesOf (plainB s))
  | succ d ih =>
    intro i hd hi
    have hlt : i < s.size := by omega
    have hbt := bt_get s i hlt
    have q0 : ((i : Int) < (s.size : Int)) = True := eq_true (by omega)
    have q1 : (0 ≤ (i : Int)) = True := eq_true (by omega)
    have w1 := wn i 1 (i + 1) (by omega) (by omega)
    have h1 : i < s.data.toList.length := by rw [bytes_length]; exact hlt
    have hg : s.data.toList[i]'h1 = s.get! i := by
      have := get_drop s 0 i
      rw [Nat.zero_add, List.drop_zero, List.getD_eq_getElem?_getD, List.getElem?_eq_getElem h1] at this
      exact this.symm
    have htk : s.data.toList.take (i + 1) = s.data.toList.take i ++ [s.get! i] := by rw [List.take_add_one, List.getElem?_eq_getElem h1, hg]; rfl
    have hlen : (((s.data.toList.take i).filter (fun b => !isBl b)).map (fun b => ((b.toNat : Nat) : Int))).length < 140737488355328 := by
      rw [List.length_map]
      have := List.length_filter_le (fun b => !isBl b) (s.data.toList.take i)
      rw [List.length_take, bytes_length] at this
      omega
    have h2 := ih (i + 1) (by omega) (by omega)
    rw [htk, List.filter_append, List.map_append] at h2
    generalize ((s.data.toList.take i).filter (fun b => !isBl b)).map (fun b => ((b.toNat : Nat) : Int)) = acc at hlen h2 ⊢
    have q2 := eq_true hlen
    generalize s.get! i = b at hbt h2
    by_cases hb : isBl b = true
    · have ef : ([b].filter (fun b => !isBl b)).map (fun b => ((b.toNat : Nat) : Int)) = [] := by simp [List.filter_cons, hb]
      rw [ef, List.append_nil] at h2
      refine Ev.step (fun k => ?_) h2
      rw [erratalaw01_plain.l0]
      simp only [q0, q1, hbt, w1, if_true]
      unfold isBl at hb
      rcases (Bool.or_eq_true _ _).mp hb with hb | hb
      · obtain rfl := eq_of_beq hb
        rw [if_pos (by decide)]
      · obtain rfl := eq_of_beq hb
        rw [if_neg (by decide), if_pos (by decide)]
    · have ef : ([b].filter (fun b => !isBl b)).map (fun b => ((b.toNat : Nat) : Int)) = [((b.toNat : Nat) : Int)] := by simp only [Bool.not_eq_true] at hb; simp [List.filter_cons, hb]
      rw [ef] at h2
      refine Ev.step (fun k => ?_) h2
      rw [erratalaw01_plain.l0]
      simp only [q0, q1, q2, hbt, w1, if_true]
      unfold isBl at hb
      have e : ¬ (b = 32 ∨ b = 10) := fun e => hb (by rcases e with rfl | rfl <;> decide)
      have hn : ∀ c : UInt8, b ≠ c → ¬ ((b.toNat : Nat) : Int) = ((c.toNat : Nat) : Int) := fun c hc e => hc (UInt8.toNat_inj.1 (by omega))
      have e1 : ¬ ((b.toNat : Nat) : Int) = 32 := hn 32 (fun q => e (.inl q))
      have e2 : ¬ ((b.toNat : Nat) : Int) = 10 := hn 10 (fun q => e (.inr q))
      rw [if_neg e1, if_neg e2]
theorem plain_eq (s : ByteArray) (hs : s.size ≤ 1073741824) : Ev (fun k => erratalaw01_plain.f k s) (plainB s) := plain_l0 s hs s.size 0 (by omega) (by omega)
end Go.Proofs.Ytijdlpbkmlplgaa.TL
