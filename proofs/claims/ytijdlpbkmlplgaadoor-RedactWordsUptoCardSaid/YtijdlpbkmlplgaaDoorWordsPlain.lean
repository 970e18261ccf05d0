/- The document's Seal, parted, fresh: what their printed functions come to. -/
import Derived.Test.YtijdlpbkmlplgaaDoorQA2
import Derived.Test.YtijdlpbkmlplgaaDoorPart2
set_option linter.unusedVariables false
set_option linter.unusedSimpArgs false
namespace Go.Proofs.YtijdlpbkmlplgaaDoor.TQ
open Go.RowKit Go.Proofs.YtijdlpbkmlplgaaDoorW.PrintWords Go.Proofs.YtijdlpbkmlplgaaDoorW.PrintMore Go.Proofs.YtijdlpbkmlplgaaDoor.QA Go.Proofs.YtijdlpbkmlplgaaDoor.TB

def ints (l : List UInt8) : List Int := l.map fun b => ((b.toNat : Nat) : Int)
theorem str_ints (l : List UInt8) : strOfNums (ints l) = ofL l := by
  show (⟨_⟩ : ByteArray) = ⟨_⟩
  congr 1
  simp only [ints, List.map_map]
  congr 1
  conv => rhs; rw [← List.map_id l]
  refine List.map_congr_left fun b _ => ?_
  simp
theorem bt_drop {s : ByteArray} {i : Nat} {x : UInt8} {t : List UInt8} (h : s.data.toList.drop i = x :: t) : i < s.size ∧ bt s (i : Int) = ((x.toNat : Nat) : Int) ∧ s.data.toList.drop (i + 1) = t := by
  have hi : i < s.data.toList.length := by
    apply Nat.lt_of_not_le
    intro hle
    rw [List.drop_of_length_le hle] at h
    cases h
  have hs : i < s.size := by simpa using hi
  rw [List.drop_eq_getElem_cons hi] at h
  injection h with h1 h2
  refine ⟨hs, ?_, h2⟩
  unfold bt
  rw [dif_pos (show ((i : Int)).toNat < s.size from hs)]
  rw [← h1]
  rfl
theorem drop_end {s : ByteArray} {i : Nat} (h : s.data.toList.drop i = []) : s.size ≤ i := by
  have := List.drop_eq_nil_iff.1 h
  simpa using this
theorem wrap_nat (i : Nat) (h : i < 4611686018427387904) : wrap64 ((i : Int) + 1) = ((i + 1 : Nat) : Int) := by unfold wrap64; omega
theorem ints_app (a b : List UInt8) : ints (a ++ b) = ints a ++ ints b := by simp [ints]
theorem ints_len (a : List UInt8) : (ints a).length = a.length := by simp [ints]
theorem int_ne {x c : UInt8} (h : x ≠ c) : ¬ ((x.toNat : Nat) : Int) = ((c.toNat : Nat) : Int) := fun e => h (UInt8.toNat_inj.1 (Int.ofNat.inj e))
theorem seal_l0 (s : ByteArray) (hs : s.size ≤ 1073741824) : ∀ (rest : List UInt8) (i : Nat) (acc : List UInt8), s.data.toList.drop i = rest → i ≤ s.size → acc.length ≤ i + 1 →
    Ev (fun k => errataref20_Seal.l0 k s (ints acc) (i : Int)) (ofL (acc ++ rest.filter (· != 15) ++ [15])) := by
  intro rest
  induction rest with
  | nil =>
    intro i acc h hi ha
    have hi2 := drop_end h
    have hl : (ints acc).length < 140737488355328 := by rw [ints_len]; omega
    refine Ev.step (fun k => ?_) (Ev.now _)
    simp only [errataref20_Seal.l0]
    rw [if_neg (show ¬ (i : Int) < (s.size : Int) by omega), if_pos hl]
    congr 1
    rw [show (15 : Int) = (((15 : UInt8).toNat : Nat) : Int) from rfl]
    rw [show ints acc ++ [(((15 : UInt8).toNat : Nat) : Int)] = ints (acc ++ [15]) by rw [ints_app]; rfl, str_ints]
    simp
  | cons x t ih =>
    intro i acc h hi ha
    obtain ⟨h1, h2, h3⟩ := bt_drop h
    have hl : (ints acc).length < 140737488355328 := by rw [ints_len]; omega
    by_cases hx : x = 15
    · subst hx
      have := ih (i + 1) acc h3 h1 (by omega)
      rw [List.filter_cons_of_neg (by simp)]
      refine Ev.step (fun k => ?_) this
      simp only [errataref20_Seal.l0]
      rw [if_pos (show (i : Int) < (s.size : Int) by omega), if_pos (show (0 : Int) ≤ (i : Int) by omega), h2, if_pos (show (((15 : UInt8).toNat : Nat) : Int) = 15 from rfl), wrap_nat i (by omega)]
    · have := ih (i + 1) (acc ++ [x]) h3 h1 (by simp; omega)
      rw [List.filter_cons_of_pos (by simp [hx])]
      rw [show acc ++ (x :: t.filter (· != 15)) ++ [15] = acc ++ [x] ++ t.filter (· != 15) ++ [15] by simp]
      refine Ev.step (fun k => ?_) this
      simp only [errataref20_Seal.l0]
      have hx2 : ¬ ((x.toNat : Nat) : Int) = 15 := int_ne hx
      rw [if_pos (show (i : Int) < (s.size : Int) by omega), if_pos (show (0 : Int) ≤ (i : Int) by omega), h2, if_neg hx2, if_pos hl, wrap_nat i (by omega), ints_app]
      rfl
theorem seal_ev (s : ByteArray) (hs : s.size ≤ 1073741824) : Ev (fun k => errataref20_Seal.f k s) (ofL (14 :: s.data.toList.filter (· != 15) ++ [15])) :=
  seal_l0 s hs _ 0 [14] (by simp) (Nat.zero_le _) (by simp)

theorem secs_len (o : Option (List UInt8)) (l : List UInt8) : (secsL o l).length ≤ l.length + 1 := by
  induction l generalizing o with
  | nil => cases o <;> simp [secsL]
  | cons x t ih =>
    cases o with
    | none => simp only [secsL]; split <;> (have := ih (some []); have := ih none; simp; omega)
    | some a => simp only [secsL]; split <;> (first | (have := ih none; simp; omega) | (have := ih (some (a ++ [x])); simp; omega))
/-- bytes x7 .. i of s -/
theorem extract_ofL (s : ByteArray) (a b : Nat) : s.extract a b = ofL ((s.data.toList.drop a).take (b - a)) := by
  apply ByteArray.ext
  apply Array.ext'
  simp [ofL, ByteArray.data_extract, Array.toList_extract, List.extract_eq_take_drop]
theorem parted_l0 (s : ByteArray) (hs : s.size ≤ 1073741824) : ∀ (rest : List UInt8) (i : Nat) (acc : List UInt8) (x5 : List ByteArray) (o : Option Nat) (from_ : Nat), s.data.toList.drop i = rest → i ≤ s.size → acc.length ≤ i → x5.length ≤ i →
    (∀ f, o = some f → f ≤ i ∧ from_ = f) →
    Ev (fun k => errataref20_parted.l0 k s (ints acc) x5 o.isSome (from_ : Int) (i : Int)) (ofL (acc ++ cleanL o.isSome rest), x5 ++ (secsL (o.map fun f => (s.data.toList.drop f).take (i - f)) rest).map ofL) := by
  intro rest
  induction rest with
  | nil =>
    intro i acc x5 o f h hi ha h5 ho
    have hi2 := drop_end h
    obtain rfl : i = s.size := by omega
    have hl5 : x5.length < 8796093022208 := by omega
    refine Ev.step (fun k => ?_) (Ev.now _)
    simp only [errataref20_parted.l0]
    rw [if_neg (show ¬ (s.size : Int) < (s.size : Int) by omega)]
    cases o with
    | none => simp [secsL, cleanL, str_ints]
    | some f0 =>
      obtain ⟨hf, rfl⟩ := ho f0 rfl
      rw [if_pos (show (some f).isSome = true from rfl), if_pos (show (0 : Int) ≤ (f : Int) by omega), if_pos (show (f : Int) ≤ (s.size : Int) by omega), if_pos hl5]
      rw [str_ints, show (f : Int).toNat = f from rfl, extract_ofL]
      simp [secsL, cleanL]
  | cons x t ih =>
    intro i acc x5 o f h hi ha h5 ho
    obtain ⟨h1, h2, h3⟩ := bt_drop h
    have hl5 : x5.length < 8796093022208 := by omega
    have hl : (ints acc).length < 140737488355328 := by rw [ints_len]; omega
    cases o with
    | none =>
      by_cases hx : x = 14
      · subst hx
        have := ih (i + 1) (acc ++ [14]) x5 (some (i + 1)) (i + 1) h3 h1 (by simp; omega) (by omega) (fun f e => by cases e; exact ⟨Nat.le_refl _, rfl⟩)
        rw [show acc ++ cleanL (Option.isSome (none : Option Nat)) (14 :: t) = acc ++ [14] ++ cleanL true t by simp [cleanL], show secsL (Option.map (fun f => (s.data.toList.drop f).take (i - f)) none) (14 :: t) = secsL (some []) t by simp [secsL]]
        simp only [Option.isSome_some, Option.map_some, Nat.sub_self, List.take_zero] at this
        refine Ev.step (fun k => ?_) this
        simp only [errataref20_parted.l0]
        rw [if_pos (show (i : Int) < (s.size : Int) by omega), if_neg (show ¬ Option.isSome (none : Option Nat) = true by simp), if_pos (show (0 : Int) ≤ (i : Int) by omega), if_pos hl, Option.bind_some, h2, if_pos (show (((14 : UInt8).toNat : Nat) : Int) = 14 from rfl), wrap_nat i (by omega), ints_app]
        rfl
      · have := ih (i + 1) (acc ++ [x]) x5 none f h3 h1 (by simp; omega) (by omega) (fun f e => by cases e)
        rw [show acc ++ cleanL (Option.isSome (none : Option Nat)) (x :: t) = acc ++ [x] ++ cleanL false t by simp [cleanL, hx], show secsL (Option.map (fun f => (s.data.toList.drop f).take (i - f)) none) (x :: t) = secsL none t by simp [secsL, hx]]
        simp only [Option.isSome_none, Option.map_none] at this
        refine Ev.step (fun k => ?_) this
        simp only [errataref20_parted.l0]
        have hx2 : ¬ ((x.toNat : Nat) : Int) = 14 := int_ne hx
        rw [if_pos (show (i : Int) < (s.size : Int) by omega), if_neg (show ¬ Option.isSome (none : Option Nat) = true by simp), if_pos (show (0 : Int) ≤ (i : Int) by omega), if_pos hl, Option.bind_some, h2, if_neg hx2, wrap_nat i (by omega), ints_app]
        rfl
    | some f0 =>
      obtain ⟨hf, rfl⟩ := ho f0 rfl
      by_cases hx : x = 15
      · subst hx
        have := ih (i + 1) (acc ++ [15]) (x5 ++ [s.extract f i]) none f h3 h1 (by simp; omega) (by simp; omega) (fun f e => by cases e)
        rw [show acc ++ cleanL (Option.isSome (some f)) (15 :: t) = acc ++ [15] ++ cleanL false t by simp [cleanL], show secsL (Option.map (fun f => (s.data.toList.drop f).take (i - f)) (some f)) (15 :: t) = (s.data.toList.drop f).take (i - f) :: secsL none t by simp [secsL], List.map_cons, ← extract_ofL,
          show x5 ++ (s.extract f i :: (secsL none t).map ofL) = x5 ++ [s.extract f i] ++ (secsL none t).map ofL by simp]
        simp only [Option.isSome_none, Option.map_none] at this
        refine Ev.step (fun k => ?_) this
        simp only [errataref20_parted.l0]
        rw [if_pos (show (i : Int) < (s.size : Int) by omega), if_pos (show Option.isSome (some f) = true from rfl), if_pos (show (0 : Int) ≤ (i : Int) by omega), h2, if_pos (show (((15 : UInt8).toNat : Nat) : Int) = 15 from rfl), if_pos (show (0 : Int) ≤ (f : Int) by omega), if_pos (show (f : Int) ≤ (i : Int) by omega), if_pos (show (i : Int) ≤ (s.size : Int) by omega), if_pos hl5, if_pos hl, wrap_nat i (by omega), ints_app]
        rfl
      · have := ih (i + 1) acc x5 (some f) f h3 h1 (by omega) (by omega) (fun f' e => by cases e; exact ⟨by omega, rfl⟩)
        have hlen : i < s.data.toList.length := by simpa using h1
        have hext : (s.data.toList.drop f).take (i + 1 - f) = (s.data.toList.drop f).take (i - f) ++ [x] := by
          rw [show i + 1 - f = (i - f) + 1 by omega, List.take_add_one]
          congr 1
          rw [List.getElem?_drop, show f + (i - f) = i by omega]
          have : s.data.toList[i]? = some x := by
            have h' := congrArg List.head? h
            rw [List.head?_drop] at h'
            exact h'
          rw [this]; rfl
        rw [show acc ++ cleanL (Option.isSome (some f)) (x :: t) = acc ++ cleanL true t by simp [cleanL, hx], show secsL (Option.map (fun f => (s.data.toList.drop f).take (i - f)) (some f)) (x :: t) = secsL (some ((s.data.toList.drop f).take (i + 1 - f))) t by rw [hext]; simp [secsL, hx]]
        simp only [Option.isSome_some, Option.map_some] at this
        refine Ev.step (fun k => ?_) this
        simp only [errataref20_parted.l0]
        have hx2 : ¬ ((x.toNat : Nat) : Int) = 15 := int_ne hx
        rw [if_pos (show (i : Int) < (s.size : Int) by omega), if_pos (show Option.isSome (some f) = true from rfl), if_pos (show (0 : Int) ≤ (i : Int) by omega), h2, if_neg hx2, wrap_nat i (by omega)]
        rfl
theorem parted_ev (s : ByteArray) (hs : s.size ≤ 1073741824) : Ev (fun k => errataref20_parted.f k s) (ofL (cleanL false s.data.toList), secsB none s.data.toList) := by
  have := parted_l0 s hs _ 0 [] [] none 0 rfl (Nat.zero_le _) (by simp) (by simp) (fun f e => by cases e)
  exact this
theorem texts_l0 (l : List ByteArray) (hl : l.length ≤ 4611686018427387903) : ∀ d i, i + d = l.length → Ev (fun k => erratalaw20_texts.l0 k l l (i : Int)) true := by
  intro d
  induction d with
  | zero =>
    intro i hi
    refine Ev.step (fun k => ?_) (Ev.now _)
    simp only [erratalaw20_texts.l0]
    rw [if_neg (by omega)]
  | succ d ih =>
    intro i hi
    refine Ev.step (fun k => ?_) (ih (i + 1) (by omega))
    simp only [erratalaw20_texts.l0]
    rw [if_pos (by omega), if_pos (show (0 : Int) ≤ (i : Int) by omega), if_pos (by omega), wrap_nat i (by omega)]
    rfl
theorem texts_ev (l : List ByteArray) (hl : l.length ≤ 4611686018427387903) : Ev (fun k => erratalaw20_texts.f k l l) true := by
  refine Ev.congr (fun k => ?_) (texts_l0 l hl l.length 0 (by omega))
  unfold erratalaw20_texts.f
  rw [if_pos rfl]
  rfl
theorem fresh_l1 (l2 : List ByteArray) (h2 : l2.length ≤ 1073741825) : ∀ d i (l0 : List ByteArray), i + d = 20 → l0.length = l2.length + i → Ev (fun k => erratalaw20_fresh.l1 k l0 l2 l2 (i : Int)) true := by
  intro d
  induction d with
  | zero =>
    intro i l0 hi hl
    refine Ev.step (fun k => ?_) (Ev.bind (texts_ev l2 (by omega)) (f := fun k t138 => if t138 = true then some ((l0.length : Int) == wrap64 ((l2.length : Int) + 20)) else some false) ?_)
    · simp only [erratalaw20_fresh.l1]
      rw [if_neg (by omega)]
    · refine Ev.congr (fun k => ?_) (Ev.now true)
      rw [if_pos rfl]
      congr 1
      rw [show wrap64 ((l2.length : Int) + 20) = (l2.length : Int) + 20 by unfold wrap64; omega]
      simp; omega
  | succ d ih =>
    intro i l0 hi hl
    refine Ev.step (fun k => ?_) (ih (i + 1) (l0 ++ [⟨#[98, 101, 104, 105, 110, 100]⟩]) (by omega) (by simp; omega))
    simp only [erratalaw20_fresh.l1]
    rw [if_pos (by omega), if_pos (by omega), wrap_nat i (by omega)]
theorem fresh_l0 (l2 : List ByteArray) (h2 : l2.length ≤ 1073741825) : ∀ d i (l0 : List ByteArray), i + d = l2.length → l0.length = l2.length → Ev (fun k => erratalaw20_fresh.l0 k l0 l2 l2 (i : Int)) true := by
  intro d
  induction d with
  | zero =>
    intro i l0 hi hl
    refine Ev.step (fun k => ?_) (fresh_l1 l2 h2 20 0 l0 rfl (by omega))
    simp only [erratalaw20_fresh.l0]
    rw [if_neg (by omega)]
    rfl
  | succ d ih =>
    intro i l0 hi hl
    refine Ev.step (fun k => ?_) (ih (i + 1) (l0.set i ⟨#[115, 112, 111, 105, 108, 116]⟩) (by omega) (by simp; omega))
    simp only [erratalaw20_fresh.l0]
    rw [if_pos (by omega), if_pos (show (0 : Int) ≤ (i : Int) by omega), wrap_nat i (by omega)]
    rfl
theorem fresh_ev (l : List ByteArray) (h : l.length ≤ 1073741825) : Ev (fun k => erratalaw20_fresh.f k l l l) true := by
  refine Ev.congr (fun k => rfl) ?_
  refine Ev.bind (texts_ev l (by omega)) (f := fun k t132 => (if t132 = true then ((erratalaw20_texts.f k l l).bind fun t133 => (erratalaw20_fresh.j0 k l l l (!t133))) else (erratalaw20_fresh.j0 k l l l true))) ?_
  refine Ev.congr (fun k => if_pos rfl) ?_
  refine Ev.bind (texts_ev l (by omega)) (f := fun k t133 => erratalaw20_fresh.j0 k l l l (!t133)) ?_
  refine Ev.step (fun k => ?_) (fresh_l0 l h l.length 0 l (by omega) rfl)
  simp only [erratalaw20_fresh.j0]
  rw [if_neg (by simp)]
  rfl
end Go.Proofs.YtijdlpbkmlplgaaDoor.TQ
