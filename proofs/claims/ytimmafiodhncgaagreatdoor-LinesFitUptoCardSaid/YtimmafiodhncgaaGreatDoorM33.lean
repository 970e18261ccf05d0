/- QF3 -/
import Derived.Test.YtimmafiodhncgaaGreatDoorFX
import Derived.Test.YtimmafiodhncgaaGreatDoorM32
-- Written by wip/tools/myprint.py of this seat's repo: the kit's print, with contracts of our own for some functions.
namespace Go.Proofs.YtimmafiodhncgaaGreatDoor.QF
open Go.RowKit Go.Proofs.YtimmafiodhncgaaGreatDoor.TX Go.Proofs.YtimmafiodhncgaaGreatDoorW.PrintWords Go.Proofs.YtimmafiodhncgaaGreatDoorW.PrintLast Go.Proofs.YtimmafiodhncgaaGreatDoorW.PrintMore
attribute [local go_sem] max2_int min2_int max_two min_two max_three min_three max_four min_four   -- for this text's walks alone
set_option linter.unusedVariables false
set_option linter.unusedSimpArgs false

/-! ### erratalaw15_LinesFit: function 5 -/
mutual
def erratalaw15_LinesFit.j0 : Nat → List ByteArray → Int → List ByteArray → List ByteArray → List ByteArray → List ByteArray → Bool → Option (Bool)
  | 0, _, _, _, _, _, _, _ => none
  | k + 1, x0, x1, x5, x6, x8, x10, x72 => if x72 = true then (some false) else ((erratalaw15_spoil.f k x6).bind fun _ => ((errataref15_Same.f k x10 x8).bind fun t178 => (if t178 = true then (if 0 ≤ (x0.length : Int) then (if (x0.length : Int) ≤ (x5.length : Int) then ((errataref15_Same.f k (x5.take ((x0.length : Int) : Int).toNat) x0).bind fun t183 => (erratalaw15_LinesFit.j1 k x0 x1 x5 x8 x10 (!t183))) else (none)) else (none)) else (erratalaw15_LinesFit.j1 k x0 x1 x5 x8 x10 true))))
def erratalaw15_LinesFit.j1 : Nat → List ByteArray → Int → List ByteArray → List ByteArray → List ByteArray → Bool → Option (Bool)
  | 0, _, _, _, _, _, _ => none
  | k + 1, x0, x1, x5, x8, x10, x87 => if x87 = true then (some false) else (erratalaw15_LinesFit.l0 k x0 x1 x5 x8 x10 ([] : List ByteArray) 0)
def erratalaw15_LinesFit.l0 : Nat → List ByteArray → Int → List ByteArray → List ByteArray → List ByteArray → List ByteArray → Int → Option (Bool)
  | 0, _, _, _, _, _, _, _ => none
  | k + 1, x0, x1, x5, x8, x10, x12, x13 => if x13 < (x0.length : Int) then (if 0 ≤ x13 then (if 1 + (rdOf ByteArray.empty x0 x13).size ≤ 9223372036854775807 then (if x13 < (x5.length : Int) then (if x12.length < 8796093022208 then (erratalaw15_LinesFit.l0 k x0 x1 (x5.set (x13 : Int).toNat ((⟨#[60]⟩ : ByteArray) ++ (rdOf ByteArray.empty x0 x13))) x8 x10 (x12 ++ [(⟨#[60]⟩ : ByteArray) ++ (rdOf ByteArray.empty x0 x13)]) (wrap64 (x13 + 1))) else (none)) else (none)) else (none)) else (none)) else (if 0 ≤ (x0.length : Int) then (if (x0.length : Int) ≤ (x5.length : Int) then ((lines_Fit.f (x5.take ((x0.length : Int) : Int).toNat) x1).bind fun bt194 => ((errataref15_Fit.f k x12 x1).bind fun bt198 => (if bt194.2 = bt198.2 then ((errataref15_Same.f k bt194.1 bt198.1).bind fun t202 => (if t202 = true then ((errataref15_Same.f k x10 x8).bind fun t203 => (if t203 = true then ((erratalaw15_awake.f).bind fun t204 => (some t204)) else (some false))) else (some false))) else (some false)))) else (none)) else (none))
end
def erratalaw15_LinesFit.f (k : Nat) (l0 : List ByteArray) (a1 : Int) : Option (Bool) := (some (([] : List ByteArray) : List ByteArray)).bind fun y142 => (if y142.length + l0.length < 8796093022208 then ((some (y142 ++ l0 : List ByteArray)).bind fun y145 => (if y145.length < 8796093022208 then ((some (y145 ++ [(⟨#[35]⟩ : ByteArray)] : List ByteArray)).bind fun y148 => (if 0 ≤ (l0.length : Int) then (if (l0.length : Int) ≤ (y148.length : Int) then ((lines_Fit.f (y148.take ((l0.length : Int) : Int).toNat) a1).bind fun bt155 => ((errataref15_Fit.f k l0 a1).bind fun bt159 => ((lines_Fit.f (y148.take ((l0.length : Int) : Int).toNat) a1).bind fun bt167 => (if bt155.2 = bt159.2 then ((errataref15_Same.f k bt155.1 bt159.1).bind fun t171 => (if t171 = true then ((errataref15_Same.f k (y148.take ((l0.length : Int) : Int).toNat) l0).bind fun t176 => (if t176 = true then (if (l0.length : Int) < (y148.length : Int) then (erratalaw15_LinesFit.j0 k l0 a1 y148 bt155.1 bt159.1 bt167.1 ((rdOf ByteArray.empty y148 (l0.length : Int)).toList != ([35] : List UInt8))) else (none)) else (erratalaw15_LinesFit.j0 k l0 a1 y148 bt155.1 bt159.1 bt167.1 true))) else (erratalaw15_LinesFit.j0 k l0 a1 y148 bt155.1 bt159.1 bt167.1 true))) else (erratalaw15_LinesFit.j0 k l0 a1 y148 bt155.1 bt159.1 bt167.1 true))))) else (none)) else (none))) else (none))) else (none))
theorem erratalaw15_LinesFit.mono_l : ∀ k, (∀ y0 y1 y2 y3 y4 y5 y6, LeO (erratalaw15_LinesFit.j0 k y0 y1 y2 y3 y4 y5 y6) (erratalaw15_LinesFit.j0 (k + 1) y0 y1 y2 y3 y4 y5 y6)) ∧ (∀ y0 y1 y2 y3 y4 y5, LeO (erratalaw15_LinesFit.j1 k y0 y1 y2 y3 y4 y5) (erratalaw15_LinesFit.j1 (k + 1) y0 y1 y2 y3 y4 y5)) ∧ (∀ y0 y1 y2 y3 y4 y5 y6, LeO (erratalaw15_LinesFit.l0 k y0 y1 y2 y3 y4 y5 y6) (erratalaw15_LinesFit.l0 (k + 1) y0 y1 y2 y3 y4 y5 y6))
  | 0 => ⟨fun _ _ _ _ _ _ _ r h => by simp [erratalaw15_LinesFit.j0] at h, fun _ _ _ _ _ _ r h => by simp [erratalaw15_LinesFit.j1] at h, fun _ _ _ _ _ _ _ r h => by simp [erratalaw15_LinesFit.l0] at h⟩
  | k + 1 => by
    obtain ⟨ih0, ih1, ih2⟩ := erratalaw15_LinesFit.mono_l k
    refine ⟨?_, ?_, ?_⟩
    · intro y0 y1 y2 y3 y4 y5 y6
      unfold erratalaw15_LinesFit.j0
      repeat' first
      | (with_reducible exact ih0 _ _ _ _ _ _ _)
      | (with_reducible exact ih1 _ _ _ _ _ _)
      | (with_reducible exact ih2 _ _ _ _ _ _ _)
      | (with_reducible exact erratalaw15_spoil.mono _ _)
      | (with_reducible exact errataref15_Fit.mono _ _ _)
      | (with_reducible exact errataref15_Same.mono _ _ _)
      | (with_reducible exact LeO.refl _)
      | (with_reducible exact LeO.none _)
      | (with_reducible refine LeO.ite ?_ ?_)
      | (with_reducible refine LeO.bind ?_ (fun _ => ?_))
      | exact ih0 _ _ _ _ _ _ _
      | exact ih1 _ _ _ _ _ _
      | exact ih2 _ _ _ _ _ _ _
      | exact erratalaw15_spoil.mono _ _
      | exact errataref15_Fit.mono _ _ _
      | exact errataref15_Same.mono _ _ _
      | exact LeO.none _
      | refine LeO.ite ?_ ?_
      | refine LeO.bind ?_ (fun _ => ?_)
    · intro y0 y1 y2 y3 y4 y5
      unfold erratalaw15_LinesFit.j1
      repeat' first
      | (with_reducible exact ih0 _ _ _ _ _ _ _)
      | (with_reducible exact ih1 _ _ _ _ _ _)
      | (with_reducible exact ih2 _ _ _ _ _ _ _)
      | (with_reducible exact erratalaw15_spoil.mono _ _)
      | (with_reducible exact errataref15_Fit.mono _ _ _)
      | (with_reducible exact errataref15_Same.mono _ _ _)
      | (with_reducible exact LeO.refl _)
      | (with_reducible exact LeO.none _)
      | (with_reducible refine LeO.ite ?_ ?_)
      | (with_reducible refine LeO.bind ?_ (fun _ => ?_))
      | exact ih0 _ _ _ _ _ _ _
      | exact ih1 _ _ _ _ _ _
      | exact ih2 _ _ _ _ _ _ _
      | exact erratalaw15_spoil.mono _ _
      | exact errataref15_Fit.mono _ _ _
      | exact errataref15_Same.mono _ _ _
      | exact LeO.none _
      | refine LeO.ite ?_ ?_
      | refine LeO.bind ?_ (fun _ => ?_)
    · intro y0 y1 y2 y3 y4 y5 y6
      unfold erratalaw15_LinesFit.l0
      repeat' first
      | (with_reducible exact ih0 _ _ _ _ _ _ _)
      | (with_reducible exact ih1 _ _ _ _ _ _)
      | (with_reducible exact ih2 _ _ _ _ _ _ _)
      | (with_reducible exact erratalaw15_spoil.mono _ _)
      | (with_reducible exact errataref15_Fit.mono _ _ _)
      | (with_reducible exact errataref15_Same.mono _ _ _)
      | (with_reducible exact LeO.refl _)
      | (with_reducible exact LeO.none _)
      | (with_reducible refine LeO.ite ?_ ?_)
      | (with_reducible refine LeO.bind ?_ (fun _ => ?_))
      | exact ih0 _ _ _ _ _ _ _
      | exact ih1 _ _ _ _ _ _
      | exact ih2 _ _ _ _ _ _ _
      | exact erratalaw15_spoil.mono _ _
      | exact errataref15_Fit.mono _ _ _
      | exact errataref15_Same.mono _ _ _
      | exact LeO.none _
      | refine LeO.ite ?_ ?_
      | refine LeO.bind ?_ (fun _ => ?_)
theorem erratalaw15_LinesFit.mono : ∀ a0 a1 k, LeO (erratalaw15_LinesFit.f k a0 a1) (erratalaw15_LinesFit.f (k + 1) a0 a1) := by
  intro a0 a1 k
  obtain ⟨ih0, ih1, ih2⟩ := erratalaw15_LinesFit.mono_l k
  unfold erratalaw15_LinesFit.f
  repeat' first
      | (with_reducible exact ih0 _ _ _ _ _ _ _)
      | (with_reducible exact ih1 _ _ _ _ _ _)
      | (with_reducible exact ih2 _ _ _ _ _ _ _)
      | (with_reducible exact erratalaw15_spoil.mono _ _)
      | (with_reducible exact errataref15_Fit.mono _ _ _)
      | (with_reducible exact errataref15_Same.mono _ _ _)
      | (with_reducible exact LeO.refl _)
      | (with_reducible exact LeO.none _)
      | (with_reducible refine LeO.ite ?_ ?_)
      | (with_reducible refine LeO.bind ?_ (fun _ => ?_))
      | exact ih0 _ _ _ _ _ _ _
      | exact ih1 _ _ _ _ _ _
      | exact ih2 _ _ _ _ _ _ _
      | exact erratalaw15_spoil.mono _ _
      | exact errataref15_Fit.mono _ _ _
      | exact errataref15_Same.mono _ _ _
      | exact LeO.none _
      | refine LeO.ite ?_ ?_
      | refine LeO.bind ?_ (fun _ => ?_)
set_option maxHeartbeats 8000000 in
set_option maxRecDepth 100000 in
theorem erratalaw15_LinesFit.calls (k : Nat) (A0 : Option Addr) (c0 : Nat) (l0 : List ByteArray) (a1 : Int) (r : Bool) (w : World) (htab : Go.Proofs.YtimmafiodhncgaaGreatDoor.TX.TabA w) (hr0 : Kd.C Kd.string w A0 l0.length l0) (hc0 : l0.length ≤ c0) (h : erratalaw15_LinesFit.f k l0 a1 = some r) :
    Calls Tryz.prog 5 #[.slice A0 l0.length c0, .int .i64 a1] w fun e w' => e = .returned (.bool r) ∧ Below w.heap.size w w' := by
  have HTab := Aside0.mk htab
  clear htab
  have HR0 := Aside0.mk hr0
  have HC0 := Aside0.mk hc0
  clear hr0 hc0
  have HB := Aside0.mk (Below.refl w.heap.size w)
  have H : ((some (([] : List ByteArray) : List ByteArray)).bind fun y142 => (if y142.length + l0.length < 8796093022208 then ((some (y142 ++ l0 : List ByteArray)).bind fun y145 => (if y145.length < 8796093022208 then ((some (y145 ++ [(⟨#[35]⟩ : ByteArray)] : List ByteArray)).bind fun y148 => (if 0 ≤ (l0.length : Int) then (if (l0.length : Int) ≤ (y148.length : Int) then ((lines_Fit.f (y148.take ((l0.length : Int) : Int).toNat) a1).bind fun bt155 => ((errataref15_Fit.f k l0 a1).bind fun bt159 => ((lines_Fit.f (y148.take ((l0.length : Int) : Int).toNat) a1).bind fun bt167 => (if bt155.2 = bt159.2 then ((errataref15_Same.f k bt155.1 bt159.1).bind fun t171 => (if t171 = true then ((errataref15_Same.f k (y148.take ((l0.length : Int) : Int).toNat) l0).bind fun t176 => (if t176 = true then (if (l0.length : Int) < (y148.length : Int) then (erratalaw15_LinesFit.j0 k l0 a1 y148 bt155.1 bt159.1 bt167.1 ((rdOf ByteArray.empty y148 (l0.length : Int)).toList != ([35] : List UInt8))) else (none)) else (erratalaw15_LinesFit.j0 k l0 a1 y148 bt155.1 bt159.1 bt167.1 true))) else (erratalaw15_LinesFit.j0 k l0 a1 y148 bt155.1 bt159.1 bt167.1 true))) else (erratalaw15_LinesFit.j0 k l0 a1 y148 bt155.1 bt159.1 bt167.1 true))))) else (none)) else (none))) else (none))) else (none))) = some r := h
  clear h
  obtain ⟨y142, hy142⟩ : ∃ y_ : List ByteArray, y_ = (([] : List ByteArray)) := ⟨_, rfl⟩
  replace H : (if y142.length + l0.length < 8796093022208 then ((some (y142 ++ l0 : List ByteArray)).bind fun y145 => (if y145.length < 8796093022208 then ((some (y145 ++ [(⟨#[35]⟩ : ByteArray)] : List ByteArray)).bind fun y148 => (if 0 ≤ (l0.length : Int) then (if (l0.length : Int) ≤ (y148.length : Int) then ((lines_Fit.f (y148.take ((l0.length : Int) : Int).toNat) a1).bind fun bt155 => ((errataref15_Fit.f k l0 a1).bind fun bt159 => ((lines_Fit.f (y148.take ((l0.length : Int) : Int).toNat) a1).bind fun bt167 => (if bt155.2 = bt159.2 then ((errataref15_Same.f k bt155.1 bt159.1).bind fun t171 => (if t171 = true then ((errataref15_Same.f k (y148.take ((l0.length : Int) : Int).toNat) l0).bind fun t176 => (if t176 = true then (if (l0.length : Int) < (y148.length : Int) then (erratalaw15_LinesFit.j0 k l0 a1 y148 bt155.1 bt159.1 bt167.1 ((rdOf ByteArray.empty y148 (l0.length : Int)).toList != ([35] : List UInt8))) else (none)) else (erratalaw15_LinesFit.j0 k l0 a1 y148 bt155.1 bt159.1 bt167.1 true))) else (erratalaw15_LinesFit.j0 k l0 a1 y148 bt155.1 bt159.1 bt167.1 true))) else (erratalaw15_LinesFit.j0 k l0 a1 y148 bt155.1 bt159.1 bt167.1 true))))) else (none)) else (none))) else (none))) else (none)) = some r := by first | (rw [hy142]; with_reducible exact H) | (have H2_ := (Option.bind_some _ _).symm.trans H; rw [hy142]; with_reducible exact H2_) | (have H2_ := (Option.bind_some _ _).symm.trans H; with_reducible exact H2_) | with_reducible exact H | (rw [hy142]; exact H) | exact H
  have Ny142 := Aside0.mk hy142
  clear hy142
  by_cases c3 : y142.length + l0.length < 8796093022208
  · rw [if_pos c3] at H
    have LMc3 := Aside0.mk c3
    clear c3
    obtain ⟨y145, hy145⟩ : ∃ y_ : List ByteArray, y_ = (y142 ++ l0) := ⟨_, rfl⟩
    replace H : (if y145.length < 8796093022208 then ((some (y145 ++ [(⟨#[35]⟩ : ByteArray)] : List ByteArray)).bind fun y148 => (if 0 ≤ (l0.length : Int) then (if (l0.length : Int) ≤ (y148.length : Int) then ((lines_Fit.f (y148.take ((l0.length : Int) : Int).toNat) a1).bind fun bt155 => ((errataref15_Fit.f k l0 a1).bind fun bt159 => ((lines_Fit.f (y148.take ((l0.length : Int) : Int).toNat) a1).bind fun bt167 => (if bt155.2 = bt159.2 then ((errataref15_Same.f k bt155.1 bt159.1).bind fun t171 => (if t171 = true then ((errataref15_Same.f k (y148.take ((l0.length : Int) : Int).toNat) l0).bind fun t176 => (if t176 = true then (if (l0.length : Int) < (y148.length : Int) then (erratalaw15_LinesFit.j0 k l0 a1 y148 bt155.1 bt159.1 bt167.1 ((rdOf ByteArray.empty y148 (l0.length : Int)).toList != ([35] : List UInt8))) else (none)) else (erratalaw15_LinesFit.j0 k l0 a1 y148 bt155.1 bt159.1 bt167.1 true))) else (erratalaw15_LinesFit.j0 k l0 a1 y148 bt155.1 bt159.1 bt167.1 true))) else (erratalaw15_LinesFit.j0 k l0 a1 y148 bt155.1 bt159.1 bt167.1 true))))) else (none)) else (none))) else (none)) = some r := by first | (rw [hy145]; with_reducible exact H) | (have H2_ := (Option.bind_some _ _).symm.trans H; rw [hy145]; with_reducible exact H2_) | (have H2_ := (Option.bind_some _ _).symm.trans H; with_reducible exact H2_) | with_reducible exact H | (rw [hy145]; exact H) | exact H
    have Ny145 := Aside0.mk hy145
    clear hy145
    by_cases c4 : y145.length < 8796093022208
    · rw [if_pos c4] at H
      have LMc4 := Aside0.mk c4
      clear c4
      obtain ⟨y148, hy148⟩ : ∃ y_ : List ByteArray, y_ = (y145 ++ [(⟨#[35]⟩ : ByteArray)]) := ⟨_, rfl⟩
      replace H : (if 0 ≤ (l0.length : Int) then (if (l0.length : Int) ≤ (y148.length : Int) then ((lines_Fit.f (y148.take ((l0.length : Int) : Int).toNat) a1).bind fun bt155 => ((errataref15_Fit.f k l0 a1).bind fun bt159 => ((lines_Fit.f (y148.take ((l0.length : Int) : Int).toNat) a1).bind fun bt167 => (if bt155.2 = bt159.2 then ((errataref15_Same.f k bt155.1 bt159.1).bind fun t171 => (if t171 = true then ((errataref15_Same.f k (y148.take ((l0.length : Int) : Int).toNat) l0).bind fun t176 => (if t176 = true then (if (l0.length : Int) < (y148.length : Int) then (erratalaw15_LinesFit.j0 k l0 a1 y148 bt155.1 bt159.1 bt167.1 ((rdOf ByteArray.empty y148 (l0.length : Int)).toList != ([35] : List UInt8))) else (none)) else (erratalaw15_LinesFit.j0 k l0 a1 y148 bt155.1 bt159.1 bt167.1 true))) else (erratalaw15_LinesFit.j0 k l0 a1 y148 bt155.1 bt159.1 bt167.1 true))) else (erratalaw15_LinesFit.j0 k l0 a1 y148 bt155.1 bt159.1 bt167.1 true))))) else (none)) else (none)) = some r := by first | (rw [hy148]; with_reducible exact H) | (have H2_ := (Option.bind_some _ _).symm.trans H; rw [hy148]; with_reducible exact H2_) | (have H2_ := (Option.bind_some _ _).symm.trans H; with_reducible exact H2_) | with_reducible exact H | (rw [hy148]; exact H) | exact H
      have Ny148 := Aside0.mk hy148
      clear hy148
      by_cases c5 : 0 ≤ (l0.length : Int)
      · rw [if_pos c5] at H
        have c5b0 := eq_true c5
        have c5b1 : decide (0 ≤ (l0.length : Int)) = true := decide_eq_true c5
        clear c5
        by_cases c6 : (l0.length : Int) ≤ (y148.length : Int)
        · rw [if_pos c6] at H
          have c6b0 := eq_true c6
          have c6b1 : decide ((l0.length : Int) ≤ (y148.length : Int)) = true := decide_eq_true c6
          clear c6
          obtain ⟨y151, hy151⟩ : ∃ y_ : List ByteArray, y_ = (y148.take ((l0.length : Int) : Int).toNat) := ⟨_, rfl⟩
          replace H : ((lines_Fit.f y151 a1).bind fun bt155 => ((errataref15_Fit.f k l0 a1).bind fun bt159 => ((lines_Fit.f (y148.take ((l0.length : Int) : Int).toNat) a1).bind fun bt167 => (if bt155.2 = bt159.2 then ((errataref15_Same.f k bt155.1 bt159.1).bind fun t171 => (if t171 = true then ((errataref15_Same.f k (y148.take ((l0.length : Int) : Int).toNat) l0).bind fun t176 => (if t176 = true then (if (l0.length : Int) < (y148.length : Int) then (erratalaw15_LinesFit.j0 k l0 a1 y148 bt155.1 bt159.1 bt167.1 ((rdOf ByteArray.empty y148 (l0.length : Int)).toList != ([35] : List UInt8))) else (none)) else (erratalaw15_LinesFit.j0 k l0 a1 y148 bt155.1 bt159.1 bt167.1 true))) else (erratalaw15_LinesFit.j0 k l0 a1 y148 bt155.1 bt159.1 bt167.1 true))) else (erratalaw15_LinesFit.j0 k l0 a1 y148 bt155.1 bt159.1 bt167.1 true))))) = some r := by first | (rw [hy151]; with_reducible exact H) | (have H2_ := (Option.bind_some _ _).symm.trans H; rw [hy151]; with_reducible exact H2_) | (have H2_ := (Option.bind_some _ _).symm.trans H; with_reducible exact H2_) | with_reducible exact H | (rw [hy151]; exact H) | exact H
          have Ny151 := Aside0.mk hy151
          clear hy151
          replace H := Option.bind_eq_some_iff.mp H
          obtain ⟨⟨t155, t156⟩, A70, H⟩ := H
          replace H : ((errataref15_Fit.f k l0 a1).bind fun bt159 => ((lines_Fit.f (y148.take ((l0.length : Int) : Int).toNat) a1).bind fun bt167 => (if t156 = bt159.2 then ((errataref15_Same.f k t155 bt159.1).bind fun t171 => (if t171 = true then ((errataref15_Same.f k (y148.take ((l0.length : Int) : Int).toNat) l0).bind fun t176 => (if t176 = true then (if (l0.length : Int) < (y148.length : Int) then (erratalaw15_LinesFit.j0 k l0 a1 y148 t155 bt159.1 bt167.1 ((rdOf ByteArray.empty y148 (l0.length : Int)).toList != ([35] : List UInt8))) else (none)) else (erratalaw15_LinesFit.j0 k l0 a1 y148 t155 bt159.1 bt167.1 true))) else (erratalaw15_LinesFit.j0 k l0 a1 y148 t155 bt159.1 bt167.1 true))) else (erratalaw15_LinesFit.j0 k l0 a1 y148 t155 bt159.1 bt167.1 true)))) = some r := H
          have A7 := Aside0.mk A70
          clear A70
          replace H := Option.bind_eq_some_iff.mp H
          obtain ⟨⟨t159, t160⟩, A80, H⟩ := H
          replace H : ((lines_Fit.f (y148.take ((l0.length : Int) : Int).toNat) a1).bind fun bt167 => (if t156 = t160 then ((errataref15_Same.f k t155 t159).bind fun t171 => (if t171 = true then ((errataref15_Same.f k (y148.take ((l0.length : Int) : Int).toNat) l0).bind fun t176 => (if t176 = true then (if (l0.length : Int) < (y148.length : Int) then (erratalaw15_LinesFit.j0 k l0 a1 y148 t155 t159 bt167.1 ((rdOf ByteArray.empty y148 (l0.length : Int)).toList != ([35] : List UInt8))) else (none)) else (erratalaw15_LinesFit.j0 k l0 a1 y148 t155 t159 bt167.1 true))) else (erratalaw15_LinesFit.j0 k l0 a1 y148 t155 t159 bt167.1 true))) else (erratalaw15_LinesFit.j0 k l0 a1 y148 t155 t159 bt167.1 true))) = some r := H
          have A8 := Aside0.mk A80
          clear A80
          have c9b0 := eq_true (of_decide_eq_true (by first | (with_reducible assumption) | assumption) : 0 ≤ (l0.length : Int))
          have c10b0 := eq_true (of_decide_eq_true (by first | (with_reducible assumption) | assumption) : (l0.length : Int) ≤ (y148.length : Int))
          have hy163 : y151 = (y148.take ((l0.length : Int) : Int).toNat) := Ny151.out
          replace H : ((lines_Fit.f y151 a1).bind fun bt167 => (if t156 = t160 then ((errataref15_Same.f k t155 t159).bind fun t171 => (if t171 = true then ((errataref15_Same.f k (y148.take ((l0.length : Int) : Int).toNat) l0).bind fun t176 => (if t176 = true then (if (l0.length : Int) < (y148.length : Int) then (erratalaw15_LinesFit.j0 k l0 a1 y148 t155 t159 bt167.1 ((rdOf ByteArray.empty y148 (l0.length : Int)).toList != ([35] : List UInt8))) else (none)) else (erratalaw15_LinesFit.j0 k l0 a1 y148 t155 t159 bt167.1 true))) else (erratalaw15_LinesFit.j0 k l0 a1 y148 t155 t159 bt167.1 true))) else (erratalaw15_LinesFit.j0 k l0 a1 y148 t155 t159 bt167.1 true))) = some r := by first | (rw [hy163]; with_reducible exact H) | (have H2_ := (Option.bind_some _ _).symm.trans H; rw [hy163]; with_reducible exact H2_) | (have H2_ := (Option.bind_some _ _).symm.trans H; with_reducible exact H2_) | with_reducible exact H | (rw [hy163]; exact H) | exact H
          have Ny163 := Aside0.mk hy163
          clear hy163
          replace H := Option.bind_eq_some_iff.mp H
          obtain ⟨⟨t167, t168⟩, A110, H⟩ := H
          replace H : (if t156 = t160 then ((errataref15_Same.f k t155 t159).bind fun t171 => (if t171 = true then ((errataref15_Same.f k (y148.take ((l0.length : Int) : Int).toNat) l0).bind fun t176 => (if t176 = true then (if (l0.length : Int) < (y148.length : Int) then (erratalaw15_LinesFit.j0 k l0 a1 y148 t155 t159 t167 ((rdOf ByteArray.empty y148 (l0.length : Int)).toList != ([35] : List UInt8))) else (none)) else (erratalaw15_LinesFit.j0 k l0 a1 y148 t155 t159 t167 true))) else (erratalaw15_LinesFit.j0 k l0 a1 y148 t155 t159 t167 true))) else (erratalaw15_LinesFit.j0 k l0 a1 y148 t155 t159 t167 true)) = some r := H
          have A11 := Aside0.mk A110
          clear A110
          have HC12 := Aside0.mk H
          clear H
          go_enter Tryz.func5, Tryz.ntmps5
          go_upto_region 5 with (first | ((with_reducible refine gate_dst (N := 18) rfl ?_); (try (refine gate_guard (by rfl) ?_; dsimp only)); refine Kd.R_lit Kd.string _ 9 ?hg (N := 18) ?hd (xs := ([] : List ByteArray)) (inner := []) (ok := fun _ => True) (okp := fun _ => True) ?hr ?hp (fun _ hk => hk) trivial (Below.refl _ _) (Nat.le_refl _) (by simp) ?_; (case hd => rfl); (case hg => rfl); (case hr => first | (go_simp; done) | (go_simp; rfl)); (case hp => exact (Reps.none _ _)); intro v143 w13 ho14 hb hg_ hnew_; clear hg_ hnew_; (first | rw [← Ny142.out] at ho14 | (simp only [Int.reduceToNat] at ho14; rw [← Ny142.out] at ho14)); have n0_ := Aside0.mk (Kd.R_lower ho14 (below_size (by repeat (first | (with_reducible first | exact HB.out | apply below_alloc | apply pw_below_drewN | apply below_drew1) | exact HB.out)))); have n1_ := Aside0.mk (below_step (by repeat (first | (with_reducible first | exact HB.out | apply below_alloc | apply pw_below_drewN | apply below_drew1) | exact HB.out)) hb); clear HB; have HO144 := n0_; have HB := n1_; clear n0_ n1_; clear hb ho14) | ((with_reducible refine gate_builtin (b := .append) (xs := #[.tmp 18, .tmp 19]) rfl ?_); (try (refine gate_guard (by rfl) ?_; dsimp only)); at_builtin; refine Kd.R_append_rows Kd.string (w0 := w) w.heap.size rfl (.tmp 18) (.tmp 19) 32 9 (.string ⟨#[]⟩) 16 rfl Tryz.underlying32 info9 rfl (by decide) (by omega) v143 y142 l0 _ _ _ (fun _ => True) (fun _ => False) rfl rfl ?aO ?aR (fun _ _ h => h) (fun _ h => h.elim) ?aF ?aB ?aS ?aL ?_; (case aR => repeat (first | exact (Kd.C_below HR0.out HB.out) | (with_reducible refine Kd.C_alloc ?_ _) | (with_reducible refine Kd.C_drewN ?_ _) | (with_reducible refine Kd.C_drew ?_))); (case aB => exact (by repeat (first | (with_reducible first | exact HB.out | apply below_alloc | apply pw_below_drewN | apply below_drew1) | exact HB.out))); (case aF => exact (fun _ _ => trivial)); (case aO => exact (by (with_reducible repeat (first | apply Kd.R_alloc | apply Kd.R_drewN | apply Kd.R_drew)); exact HO144.out)); (case aS => exact (below_size (by repeat (first | (with_reducible first | exact HB.out | apply below_alloc | apply pw_below_drewN | apply below_drew1) | exact HB.out)))); (case aL => have := LMc3.out; omega); intro v146 w15 ho hb hg hat; rw [← Ny145.out] at ho; have n0_ := Aside0.mk (hb); have n1_ := Aside0.mk (ho); clear HB; clear HO144; have HB := n0_; have HO147 := n1_; clear n0_ n1_; clear ho hb hg hat) | ((with_reducible refine gate_builtin (b := .append) (xs := #[.tmp 20, .tmp 21]) rfl ?_); (try (refine gate_guard (by rfl) ?_; dsimp only)); at_builtin; refine Kd.R_append Kd.string (w0 := w) w.heap.size rfl (.tmp 20) (.tmp 21) 32 9 (.string ⟨#[]⟩) 16 rfl Tryz.underlying32 info9 rfl (by decide) (by omega) v146 y145 (⟨#[35]⟩ : ByteArray) [.string (⟨#[35]⟩ : ByteArray)] (fun _ => True) (fun _ => False) rfl rfl ?aP (fun _ hk => hk.elim) ?aF ?aO ?aB ?aS ?aL ?_; (case aP => exact rfl); (case aB => exact (by repeat (first | (with_reducible first | exact HB.out | apply below_alloc | apply pw_below_drewN | apply below_drew1) | exact HB.out))); (case aF => exact (fun _ _ => trivial)); (case aO => exact (by (with_reducible repeat (first | apply Kd.R_alloc | apply Kd.R_drewN | apply Kd.R_drew)); exact HO147.out)); (case aS => exact (below_size (by repeat (first | (with_reducible first | exact HB.out | apply below_alloc | apply pw_below_drewN | apply below_drew1) | exact HB.out)))); (case aL => have := LMc4.out; omega); intro v149 w16 ho hb hg hat; rw [← Ny148.out] at ho; have n0_ := Aside0.mk (hb); have n1_ := Aside0.mk (ho); clear HB; clear HO147; have HB := n0_; have HO150 := n1_; clear n0_ n1_; clear ho hb hg hat; obtain ⟨Ao18, co18, eo18⟩ := Kd.R_slice HO150.out; subst eo18; have q17 : ((l0.length : Int) : Int) ≤ ((y148.length : Int) : Int) := of_decide_eq_true (by first | (with_reducible assumption) | assumption); obtain ⟨i017, hi017, _, hsz17, _⟩ := info_parts info9; have hroom17 : y148.length ≤ co18 := (Kd.R_reads' HO150.out).2.1; have hC17 : Kd.C Kd.string _ Ao18 y148.length y148 := (Kd.R_reads' HO150.out).2.2; have hcut17 := cut_to (P := Tryz.prog) 32 9 .i64 Tryz.underlying32 hi017 Ao18 y148.length co18 (l0.length : Int) (of_decide_eq_true (by first | (with_reducible assumption) | assumption)) q17 hroom17; have hr17 := Kd.C_take (m := ((l0.length : Int) : Int).toNat) hC17 (by omega); have hy17 : y151.length = ((l0.length : Int) : Int).toNat := (by rw [Ny151.out, List.length_take]; omega); rw [← Ny151.out] at hr17; rw [← hy17] at hcut17; have HR154 := Aside0.mk hr17; have HC154 := Aside0.mk (show y151.length ≤ co18 from by omega); clear hr17 hC17 hroom17 hi017 hsz17; have KY17 := Aside0.mk hy17; clear hy17; have KL17 := Aside0.mk (show ((l0.length : Int) : Int).toNat ≤ y148.length from by omega); replace q17 := eq_true q17) | ((with_reducible refine gate_callee (f := 17) rfl ?_); refine goesL_ (some 29) rfl rfl Tryz.func17 (by kernel_rfl) rfl #[.slice Ao18 y151.length co18, .int .i64 a1] rfl (by (try simp only [List.map_toArray, List.map_cons, List.map_nil]); first | done | rfl | (simp only [List.length_drop, List.length_take]; rfl)) ?_; (with_reducible refine (lines_Fit.calls _ _ y151 a1 t155 t156 _ ?side1 ?side2 A7.out).mono ?_); (case side1 => repeat (first | exact (by repeat (first | (with_reducible exact HR154.out) | (with_reducible refine Kd.C_alloc ?_ _) | (with_reducible refine Kd.C_drewN ?_ _) | (with_reducible refine Kd.C_drew ?_) | exact HR154.out)) | (with_reducible refine Kd.C_alloc ?_ _) | (with_reducible refine Kd.C_drewN ?_ _) | (with_reducible refine Kd.C_drew ?_))); (case side2 => exact HC154.out); rintro e w19 ⟨v157, rfl, ho0, hb⟩; refine ⟨_, rfl, ?_⟩; have n0_ := Aside0.mk (Kd.R_elder' (by (with_reducible repeat (first | apply Kd.R_alloc | apply Kd.R_drewN | apply Kd.R_drew)); exact HO150.out) (Kd.R_base ho0) hb); have n1_ := Aside0.mk (Kd.R_lower (Kd.R_new' ho0 (Kd.R_lt (by (with_reducible repeat (first | apply Kd.R_alloc | apply Kd.R_drewN | apply Kd.R_drew)); exact HO150.out))) (below_size (by repeat (first | (with_reducible first | exact HB.out | apply below_alloc | apply pw_below_drewN | apply below_drew1) | exact HB.out)))); have n2_ := Aside0.mk (Kd.C_below (by repeat (first | (with_reducible exact HR154.out) | (with_reducible refine Kd.C_alloc ?_ _) | (with_reducible refine Kd.C_drewN ?_ _) | (with_reducible refine Kd.C_drew ?_) | exact HR154.out)) hb); have n3_ := Aside0.mk (below_step (by repeat (first | (with_reducible first | exact HB.out | apply below_alloc | apply pw_below_drewN | apply below_drew1) | exact HB.out)) hb); clear HO150; clear HR154; clear HB; have HO150 := n0_; have HO158 := n1_; have HR154 := n2_; have HB := n3_; clear n0_ n1_ n2_ n3_; (try clear hb); (try clear hb2); (try clear hk); (try clear hi); (try clear ho0)) | ((with_reducible refine gate_callee (f := 18) rfl ?_); refine goesL_ (some 35) rfl rfl Tryz.func18 (by kernel_rfl) rfl #[.slice A0 l0.length c0, .int .i64 a1] rfl (by (try simp only [List.map_toArray, List.map_cons, List.map_nil]); first | done | rfl | (simp only [List.length_drop, List.length_take]; rfl)) ?_; (with_reducible refine (errataref15_Fit.calls k _ _ l0 a1 t159 t160 _ ?side1 ?side2 A8.out).mono ?_); (case side1 => repeat (first | exact (Kd.C_below HR0.out HB.out) | (with_reducible refine Kd.C_alloc ?_ _) | (with_reducible refine Kd.C_drewN ?_ _) | (with_reducible refine Kd.C_drew ?_))); (case side2 => exact HC0.out); rintro e w20 ⟨v161, rfl, ho0, hb⟩; refine ⟨_, rfl, ?_⟩; have n0_ := Aside0.mk (Kd.R_elder' (by (with_reducible repeat (first | apply Kd.R_alloc | apply Kd.R_drewN | apply Kd.R_drew)); exact HO150.out) (Kd.R_base ho0) hb); have n1_ := Aside0.mk (Kd.R_elder' (by (with_reducible repeat (first | apply Kd.R_alloc | apply Kd.R_drewN | apply Kd.R_drew)); exact HO158.out) (Kd.R_base ho0) hb); have n2_ := Aside0.mk (Kd.R_lower (Kd.R_new' (Kd.R_new' ho0 (Kd.R_lt (by (with_reducible repeat (first | apply Kd.R_alloc | apply Kd.R_drewN | apply Kd.R_drew)); exact HO150.out))) (Kd.R_lt (by (with_reducible repeat (first | apply Kd.R_alloc | apply Kd.R_drewN | apply Kd.R_drew)); exact HO158.out))) (below_size (by repeat (first | (with_reducible first | exact HB.out | apply below_alloc | apply pw_below_drewN | apply below_drew1) | exact HB.out)))); have n3_ := Aside0.mk (Kd.C_below (by repeat (first | (with_reducible exact HR154.out) | (with_reducible refine Kd.C_alloc ?_ _) | (with_reducible refine Kd.C_drewN ?_ _) | (with_reducible refine Kd.C_drew ?_) | exact HR154.out)) hb); have n4_ := Aside0.mk (below_step (by repeat (first | (with_reducible first | exact HB.out | apply below_alloc | apply pw_below_drewN | apply below_drew1) | exact HB.out)) hb); clear HO150; clear HO158; clear HR154; clear HB; have HO150 := n0_; have HO158 := n1_; have HO162 := n2_; have HR154 := n3_; have HB := n4_; clear n0_ n1_ n2_ n3_ n4_; (try clear hb); (try clear hb2); (try clear hk); (try clear hi); (try clear ho0); have q21 : ((l0.length : Int) : Int) ≤ ((y148.length : Int) : Int) := of_decide_eq_true (by first | (with_reducible assumption) | assumption); obtain ⟨i021, hi021, _, hsz21, _⟩ := info_parts info9; have hroom21 : y148.length ≤ co18 := (Kd.R_reads' HO150.out).2.1; have hC21 : Kd.C Kd.string _ Ao18 y148.length y148 := (Kd.R_reads' HO150.out).2.2; have hcut21 := cut_to (P := Tryz.prog) 32 9 .i64 Tryz.underlying32 hi021 Ao18 y148.length co18 (l0.length : Int) (of_decide_eq_true (by first | (with_reducible assumption) | assumption)) q21 hroom21; have hr21 := Kd.C_take (m := ((l0.length : Int) : Int).toNat) hC21 (by omega); have hy21 : y151.length = ((l0.length : Int) : Int).toNat := (by rw [Ny163.out, List.length_take]; omega); rw [← Ny163.out] at hr21; rw [← hy21] at hcut21; have HR166 := Aside0.mk hr21; have HC166 := Aside0.mk (show y151.length ≤ co18 from by omega); clear hr21 hC21 hroom21 hi021 hsz21; have KY21 := Aside0.mk hy21; clear hy21; have KL21 := Aside0.mk (show ((l0.length : Int) : Int).toNat ≤ y148.length from by omega); replace q21 := eq_true q21) | ((with_reducible refine gate_callee (f := 17) rfl ?_); refine goesL_ (some 44) rfl rfl Tryz.func17 (by kernel_rfl) rfl #[.slice Ao18 y151.length co18, .int .i64 a1] rfl (by (try simp only [List.map_toArray, List.map_cons, List.map_nil]); first | done | rfl | (simp only [List.length_drop, List.length_take]; rfl)) ?_; (with_reducible refine (lines_Fit.calls _ _ y151 a1 t167 t168 _ ?side1 ?side2 A11.out).mono ?_); (case side1 => repeat (first | exact (by repeat (first | (with_reducible exact HR166.out) | (with_reducible refine Kd.C_alloc ?_ _) | (with_reducible refine Kd.C_drewN ?_ _) | (with_reducible refine Kd.C_drew ?_) | exact HR166.out)) | (with_reducible refine Kd.C_alloc ?_ _) | (with_reducible refine Kd.C_drewN ?_ _) | (with_reducible refine Kd.C_drew ?_))); (case side2 => exact HC166.out); rintro e w22 ⟨v169, rfl, ho0, hb⟩; refine ⟨_, rfl, ?_⟩; have n0_ := Aside0.mk (Kd.R_elder' (by (with_reducible repeat (first | apply Kd.R_alloc | apply Kd.R_drewN | apply Kd.R_drew)); exact HO150.out) (Kd.R_base ho0) hb); have n1_ := Aside0.mk (Kd.R_elder' (by (with_reducible repeat (first | apply Kd.R_alloc | apply Kd.R_drewN | apply Kd.R_drew)); exact HO158.out) (Kd.R_base ho0) hb); have n2_ := Aside0.mk (Kd.R_elder' (by (with_reducible repeat (first | apply Kd.R_alloc | apply Kd.R_drewN | apply Kd.R_drew)); exact HO162.out) (Kd.R_base ho0) hb); have n3_ := Aside0.mk (Kd.R_lower (Kd.R_new' (Kd.R_new' (Kd.R_new' ho0 (Kd.R_lt (by (with_reducible repeat (first | apply Kd.R_alloc | apply Kd.R_drewN | apply Kd.R_drew)); exact HO150.out))) (Kd.R_lt (by (with_reducible repeat (first | apply Kd.R_alloc | apply Kd.R_drewN | apply Kd.R_drew)); exact HO158.out))) (Kd.R_lt (by (with_reducible repeat (first | apply Kd.R_alloc | apply Kd.R_drewN | apply Kd.R_drew)); exact HO162.out))) (below_size (by repeat (first | (with_reducible first | exact HB.out | apply below_alloc | apply pw_below_drewN | apply below_drew1) | exact HB.out)))); have n4_ := Aside0.mk (Kd.C_below (by repeat (first | (with_reducible exact HR154.out) | (with_reducible refine Kd.C_alloc ?_ _) | (with_reducible refine Kd.C_drewN ?_ _) | (with_reducible refine Kd.C_drew ?_) | exact HR154.out)) hb); have n5_ := Aside0.mk (Kd.C_below (by repeat (first | (with_reducible exact HR166.out) | (with_reducible refine Kd.C_alloc ?_ _) | (with_reducible refine Kd.C_drewN ?_ _) | (with_reducible refine Kd.C_drew ?_) | exact HR166.out)) hb); have n6_ := Aside0.mk (below_step (by repeat (first | (with_reducible first | exact HB.out | apply below_alloc | apply pw_below_drewN | apply below_drew1) | exact HB.out)) hb); clear HO150; clear HO158; clear HO162; clear HR154; clear HR166; clear HB; have HO150 := n0_; have HO158 := n1_; have HO162 := n2_; have HO170 := n3_; have HR154 := n4_; have HR166 := n5_; have HB := n6_; clear n0_ n1_ n2_ n3_ n4_ n5_ n6_; (try clear hb); (try clear hb2); (try clear hk); (try clear hi); (try clear ho0)))
          (try simp only [Act.put, List.setIfInBounds_toArray, List.set_cons_zero, List.set_cons_succ])
          go_cut [72] (fun v72 wc => ∃ (kq : Nat) (x72_11 : Bool), v72 = .bool x72_11 ∧ Aside0 (erratalaw15_LinesFit.j0 kq l0 a1 y148 t155 t159 t167 x72_11 = some r) ∧ Aside0 (kq ≤ k) ∧ Aside0 (Kd.R Kd.string 9 wc w.heap.size (fun k_ => some k_ ≠ (v157 : Value).ownBlock ∧ some k_ ≠ (v161 : Value).ownBlock ∧ some k_ ≠ (v169 : Value).ownBlock) (.slice Ao18 y148.length co18) y148) ∧ Aside0 (Kd.R Kd.string 9 wc w.heap.size (fun k_ => some k_ ≠ ((.slice Ao18 y148.length co18) : Value).ownBlock ∧ some k_ ≠ (v161 : Value).ownBlock ∧ some k_ ≠ (v169 : Value).ownBlock) v157 t155) ∧ Aside0 (Kd.R Kd.string 9 wc w.heap.size (fun k_ => some k_ ≠ ((.slice Ao18 y148.length co18) : Value).ownBlock ∧ some k_ ≠ (v157 : Value).ownBlock ∧ some k_ ≠ (v169 : Value).ownBlock) v161 t159) ∧ Aside0 (Kd.R Kd.string 9 wc w.heap.size (fun k_ => some k_ ≠ ((.slice Ao18 y148.length co18) : Value).ownBlock ∧ some k_ ≠ (v157 : Value).ownBlock ∧ some k_ ≠ (v161 : Value).ownBlock) v169 t167) ∧ Aside0 (Kd.C Kd.string wc Ao18 y151.length y151) ∧ Aside0 (Kd.C Kd.string wc Ao18 y151.length y151) ∧ Aside0 (Below w.heap.size w wc))
          case first =>
            have H := HC12.out
            clear HC12
            by_cases c23 : t156 = t160
            · rw [if_pos c23] at H
              have c23b0 : (t156 == t160) = true := beq_iff_eq.mpr c23
              have c23b1 : (t156 != t160) = false := bne_eq_false_iff_eq.mpr c23
              clear c23
              (first | rw [c23b0] | (simp only [i64_w, i32_w]; rw [c23b0]) | skip)
              replace H := Option.bind_eq_some_iff.mp H
              obtain ⟨t171, A240, H⟩ := H
              replace H : (if t171 = true then ((errataref15_Same.f k (y148.take ((l0.length : Int) : Int).toNat) l0).bind fun t176 => (if t176 = true then (if (l0.length : Int) < (y148.length : Int) then (erratalaw15_LinesFit.j0 k l0 a1 y148 t155 t159 t167 ((rdOf ByteArray.empty y148 (l0.length : Int)).toList != ([35] : List UInt8))) else (none)) else (erratalaw15_LinesFit.j0 k l0 a1 y148 t155 t159 t167 true))) else (erratalaw15_LinesFit.j0 k l0 a1 y148 t155 t159 t167 true)) = some r := H
              have A24 := Aside0.mk A240
              clear A240
              by_cases c25 : t171 = true
              · subst c25
                have H1 : ((errataref15_Same.f k (y148.take ((l0.length : Int) : Int).toNat) l0).bind fun t176 => (if t176 = true then (if (l0.length : Int) < (y148.length : Int) then (erratalaw15_LinesFit.j0 k l0 a1 y148 t155 t159 t167 ((rdOf ByteArray.empty y148 (l0.length : Int)).toList != ([35] : List UInt8))) else (none)) else (erratalaw15_LinesFit.j0 k l0 a1 y148 t155 t159 t167 true))) = some r := by rw [if_pos rfl] at H; exact H
                clear H
                have H := H1
                clear H1
                have c26b0 := eq_true (of_decide_eq_true (by first | (with_reducible assumption) | assumption) : 0 ≤ (l0.length : Int))
                have c27b0 := eq_true (of_decide_eq_true (by first | (with_reducible assumption) | assumption) : (l0.length : Int) ≤ (y148.length : Int))
                have hy172 : y151 = (y148.take ((l0.length : Int) : Int).toNat) := Ny151.out
                replace H : ((errataref15_Same.f k y151 l0).bind fun t176 => (if t176 = true then (if (l0.length : Int) < (y148.length : Int) then (erratalaw15_LinesFit.j0 k l0 a1 y148 t155 t159 t167 ((rdOf ByteArray.empty y148 (l0.length : Int)).toList != ([35] : List UInt8))) else (none)) else (erratalaw15_LinesFit.j0 k l0 a1 y148 t155 t159 t167 true))) = some r := by first | (rw [hy172]; with_reducible exact H) | (have H2_ := (Option.bind_some _ _).symm.trans H; rw [hy172]; with_reducible exact H2_) | (have H2_ := (Option.bind_some _ _).symm.trans H; with_reducible exact H2_) | with_reducible exact H | (rw [hy172]; exact H) | exact H
                have Ny172 := Aside0.mk hy172
                clear hy172
                replace H := Option.bind_eq_some_iff.mp H
                obtain ⟨t176, A280, H⟩ := H
                replace H : (if t176 = true then (if (l0.length : Int) < (y148.length : Int) then (erratalaw15_LinesFit.j0 k l0 a1 y148 t155 t159 t167 ((rdOf ByteArray.empty y148 (l0.length : Int)).toList != ([35] : List UInt8))) else (none)) else (erratalaw15_LinesFit.j0 k l0 a1 y148 t155 t159 t167 true)) = some r := H
                have A28 := Aside0.mk A280
                clear A280
                by_cases c29 : t176 = true
                · subst c29
                  have H1 : (if (l0.length : Int) < (y148.length : Int) then (erratalaw15_LinesFit.j0 k l0 a1 y148 t155 t159 t167 ((rdOf ByteArray.empty y148 (l0.length : Int)).toList != ([35] : List UInt8))) else (none)) = some r := by rw [if_pos rfl] at H; exact H
                  clear H
                  have H := H1
                  clear H1
                  by_cases c30 : (l0.length : Int) < (y148.length : Int)
                  · rw [if_pos c30] at H
                    have c30b0 : decide ((l0.length : Int) < (y148.length : Int)) = true := decide_eq_true c30
                    have c30b1 : decide (l0.length < y148.length) = true := decide_eq_true (Int.ofNat_lt.mp c30)
                    clear c30
                    have H' := Aside0.mk H
                    clear H
                    obtain ⟨Ao31, co31, eo31⟩ := Kd.R_slice HO158.out
                    subst eo31
                    obtain ⟨Ao32, co32, eo32⟩ := Kd.R_slice HO162.out
                    subst eo32
                    go_wp2_with (first | (go_at_call 19; (with_reducible refine (errataref15_Same.calls k _ _ t155 _ _ t159 true _ ?side1 ?side2 ?side3 ?side4 A24.out).mono ?_); (case side1 => repeat (first | exact (Kd.R_reads' HO158.out).2.2 | (with_reducible refine Kd.C_alloc ?_ _) | (with_reducible refine Kd.C_drewN ?_ _) | (with_reducible refine Kd.C_drew ?_))); (case side2 => exact (Kd.R_reads' HO158.out).2.1); (case side3 => repeat (first | exact (Kd.R_reads' HO162.out).2.2 | (with_reducible refine Kd.C_alloc ?_ _) | (with_reducible refine Kd.C_drewN ?_ _) | (with_reducible refine Kd.C_drew ?_))); (case side4 => exact (Kd.R_reads' HO162.out).2.1); rintro e w' ⟨rfl, ⟨nd, rfl⟩⟩; have q33 : ((l0.length : Int) : Int) ≤ ((y148.length : Int) : Int) := of_decide_eq_true (by first | (with_reducible assumption) | assumption); obtain ⟨i033, hi033, _, hsz33, _⟩ := info_parts info9; have hroom33 : y148.length ≤ co18 := (Kd.R_reads' HO150.out).2.1; have hC33 : Kd.C Kd.string _ Ao18 y148.length y148 := (Kd.R_reads' HO150.out).2.2; have hcut33 := cut_to (P := Tryz.prog) 32 9 .i64 Tryz.underlying32 hi033 Ao18 y148.length co18 (l0.length : Int) (of_decide_eq_true (by first | (with_reducible assumption) | assumption)) q33 hroom33; have hr33 := Kd.C_take (m := ((l0.length : Int) : Int).toNat) hC33 (by omega); have hy33 : y151.length = ((l0.length : Int) : Int).toNat := (by rw [Ny172.out, List.length_take]; omega); rw [← Ny172.out] at hr33; rw [← hy33] at hcut33; have HR175 := Aside0.mk hr33; have HC175 := Aside0.mk (show y151.length ≤ co18 from by omega); clear hr33 hC33 hroom33 hi033 hsz33; have KY33 := Aside0.mk hy33; clear hy33; have KL33 := Aside0.mk (show ((l0.length : Int) : Int).toNat ≤ y148.length from by omega); replace q33 := eq_true q33) | (go_at_call 19; (with_reducible refine (errataref15_Same.calls k _ _ y151 _ _ l0 true _ ?side1 ?side2 ?side3 ?side4 A28.out).mono ?_); (case side1 => repeat (first | exact (by repeat (first | (with_reducible exact HR175.out) | (with_reducible refine Kd.C_alloc ?_ _) | (with_reducible refine Kd.C_drewN ?_ _) | (with_reducible refine Kd.C_drew ?_) | exact HR175.out)) | (with_reducible refine Kd.C_alloc ?_ _) | (with_reducible refine Kd.C_drewN ?_ _) | (with_reducible refine Kd.C_drew ?_))); (case side2 => exact HC175.out); (case side3 => repeat (first | exact (Kd.C_below HR0.out (by repeat (first | (with_reducible first | exact HB.out | apply below_alloc | apply pw_below_drewN | apply below_drew1) | exact HB.out))) | (with_reducible refine Kd.C_alloc ?_ _) | (with_reducible refine Kd.C_drewN ?_ _) | (with_reducible refine Kd.C_drew ?_))); (case side4 => exact HC0.out); rintro e w' ⟨rfl, ⟨nd, rfl⟩⟩; have p177 : 0 ≤ ((l0.length : Int) : Int) := of_decide_eq_true (by first | (with_reducible assumption) | assumption); have q177 : (l0.length : Int) < (y148.length : Int) := of_decide_eq_true (by first | (with_reducible assumption) | assumption); obtain ⟨ad177, e177, hx177_0⟩ := Kd.at_string (Kd.R_reads' HO150.out).2.2 (l0.length : Int) p177 q177; cases e177; (try simp only [Go.IntWalk.toNatUp] at hx177_0); replace p177 := eq_true p177; replace q177 := eq_true q177))
                    go_meet
                    case rel => exact ⟨_, (((rdOf ByteArray.empty y148 (l0.length : Int)).toList != ([35] : List UInt8))), (by first | rfl | (simp; done) | (simp [*]; done)), H', ⟨by first | omega | exact Nat.le_refl _⟩, ⟨by (with_reducible repeat (first | apply Kd.R_alloc | apply Kd.R_drewN | apply Kd.R_drew)); exact Kd.R_mono HO150.out (fun _ hk => ⟨hk.1.1.2, ⟨hk.1.2, hk.2⟩⟩)⟩, ⟨by (with_reducible repeat (first | apply Kd.R_alloc | apply Kd.R_drewN | apply Kd.R_drew)); exact Kd.R_mono HO158.out (fun _ hk => ⟨hk.1.1.2, ⟨hk.1.2, hk.2⟩⟩)⟩, ⟨by (with_reducible repeat (first | apply Kd.R_alloc | apply Kd.R_drewN | apply Kd.R_drew)); exact Kd.R_mono HO162.out (fun _ hk => ⟨hk.1.1.2, ⟨hk.1.2, hk.2⟩⟩)⟩, ⟨by (with_reducible repeat (first | apply Kd.R_alloc | apply Kd.R_drewN | apply Kd.R_drew)); exact Kd.R_mono HO170.out (fun _ hk => ⟨hk.1.1.2, ⟨hk.1.2, hk.2⟩⟩)⟩, ⟨by repeat (first | (with_reducible exact HR154.out) | (with_reducible refine Kd.C_alloc ?_ _) | (with_reducible refine Kd.C_drewN ?_ _) | (with_reducible refine Kd.C_drew ?_) | exact HR154.out)⟩, ⟨by repeat (first | (with_reducible exact HR166.out) | (with_reducible refine Kd.C_alloc ?_ _) | (with_reducible refine Kd.C_drewN ?_ _) | (with_reducible refine Kd.C_drew ?_) | exact HR166.out)⟩, ⟨by repeat (first | (with_reducible first | exact HB.out | apply below_alloc | apply pw_below_drewN | apply below_drew1) | exact HB.out)⟩⟩
                  · rw [if_neg c30] at H
                    exact absurd H (by simp)
                · replace c29 := Bool.eq_false_iff.mpr c29
                  subst c29
                  have H1 : (erratalaw15_LinesFit.j0 k l0 a1 y148 t155 t159 t167 true) = some r := by rw [if_neg (show ¬ (false = true) by decide)] at H; exact H
                  clear H
                  have H := H1
                  clear H1
                  have H' := Aside0.mk H
                  clear H
                  obtain ⟨Ao34, co34, eo34⟩ := Kd.R_slice HO158.out
                  subst eo34
                  obtain ⟨Ao35, co35, eo35⟩ := Kd.R_slice HO162.out
                  subst eo35
                  go_wp2_with (first | (go_at_call 19; (with_reducible refine (errataref15_Same.calls k _ _ t155 _ _ t159 true _ ?side1 ?side2 ?side3 ?side4 A24.out).mono ?_); (case side1 => repeat (first | exact (Kd.R_reads' HO158.out).2.2 | (with_reducible refine Kd.C_alloc ?_ _) | (with_reducible refine Kd.C_drewN ?_ _) | (with_reducible refine Kd.C_drew ?_))); (case side2 => exact (Kd.R_reads' HO158.out).2.1); (case side3 => repeat (first | exact (Kd.R_reads' HO162.out).2.2 | (with_reducible refine Kd.C_alloc ?_ _) | (with_reducible refine Kd.C_drewN ?_ _) | (with_reducible refine Kd.C_drew ?_))); (case side4 => exact (Kd.R_reads' HO162.out).2.1); rintro e w' ⟨rfl, ⟨nd, rfl⟩⟩; have q36 : ((l0.length : Int) : Int) ≤ ((y148.length : Int) : Int) := of_decide_eq_true (by first | (with_reducible assumption) | assumption); obtain ⟨i036, hi036, _, hsz36, _⟩ := info_parts info9; have hroom36 : y148.length ≤ co18 := (Kd.R_reads' HO150.out).2.1; have hC36 : Kd.C Kd.string _ Ao18 y148.length y148 := (Kd.R_reads' HO150.out).2.2; have hcut36 := cut_to (P := Tryz.prog) 32 9 .i64 Tryz.underlying32 hi036 Ao18 y148.length co18 (l0.length : Int) (of_decide_eq_true (by first | (with_reducible assumption) | assumption)) q36 hroom36; have hr36 := Kd.C_take (m := ((l0.length : Int) : Int).toNat) hC36 (by omega); have hy36 : y151.length = ((l0.length : Int) : Int).toNat := (by rw [Ny172.out, List.length_take]; omega); rw [← Ny172.out] at hr36; rw [← hy36] at hcut36; have HR175 := Aside0.mk hr36; have HC175 := Aside0.mk (show y151.length ≤ co18 from by omega); clear hr36 hC36 hroom36 hi036 hsz36; have KY36 := Aside0.mk hy36; clear hy36; have KL36 := Aside0.mk (show ((l0.length : Int) : Int).toNat ≤ y148.length from by omega); replace q36 := eq_true q36) | (go_at_call 19; (with_reducible refine (errataref15_Same.calls k _ _ y151 _ _ l0 false _ ?side1 ?side2 ?side3 ?side4 A28.out).mono ?_); (case side1 => repeat (first | exact (by repeat (first | (with_reducible exact HR175.out) | (with_reducible refine Kd.C_alloc ?_ _) | (with_reducible refine Kd.C_drewN ?_ _) | (with_reducible refine Kd.C_drew ?_) | exact HR175.out)) | (with_reducible refine Kd.C_alloc ?_ _) | (with_reducible refine Kd.C_drewN ?_ _) | (with_reducible refine Kd.C_drew ?_))); (case side2 => exact HC175.out); (case side3 => repeat (first | exact (Kd.C_below HR0.out (by repeat (first | (with_reducible first | exact HB.out | apply below_alloc | apply pw_below_drewN | apply below_drew1) | exact HB.out))) | (with_reducible refine Kd.C_alloc ?_ _) | (with_reducible refine Kd.C_drewN ?_ _) | (with_reducible refine Kd.C_drew ?_))); (case side4 => exact HC0.out); rintro e w' ⟨rfl, ⟨nd, rfl⟩⟩))
                  go_meet
                  case rel => exact ⟨_, (true), (by first | rfl | (simp; done) | (simp [*]; done)), H', ⟨by first | omega | exact Nat.le_refl _⟩, ⟨by (with_reducible repeat (first | apply Kd.R_alloc | apply Kd.R_drewN | apply Kd.R_drew)); exact Kd.R_mono HO150.out (fun _ hk => ⟨hk.1.1.2, ⟨hk.1.2, hk.2⟩⟩)⟩, ⟨by (with_reducible repeat (first | apply Kd.R_alloc | apply Kd.R_drewN | apply Kd.R_drew)); exact Kd.R_mono HO158.out (fun _ hk => ⟨hk.1.1.2, ⟨hk.1.2, hk.2⟩⟩)⟩, ⟨by (with_reducible repeat (first | apply Kd.R_alloc | apply Kd.R_drewN | apply Kd.R_drew)); exact Kd.R_mono HO162.out (fun _ hk => ⟨hk.1.1.2, ⟨hk.1.2, hk.2⟩⟩)⟩, ⟨by (with_reducible repeat (first | apply Kd.R_alloc | apply Kd.R_drewN | apply Kd.R_drew)); exact Kd.R_mono HO170.out (fun _ hk => ⟨hk.1.1.2, ⟨hk.1.2, hk.2⟩⟩)⟩, ⟨by repeat (first | (with_reducible exact HR154.out) | (with_reducible refine Kd.C_alloc ?_ _) | (with_reducible refine Kd.C_drewN ?_ _) | (with_reducible refine Kd.C_drew ?_) | exact HR154.out)⟩, ⟨by repeat (first | (with_reducible exact HR166.out) | (with_reducible refine Kd.C_alloc ?_ _) | (with_reducible refine Kd.C_drewN ?_ _) | (with_reducible refine Kd.C_drew ?_) | exact HR166.out)⟩, ⟨by repeat (first | (with_reducible first | exact HB.out | apply below_alloc | apply pw_below_drewN | apply below_drew1) | exact HB.out)⟩⟩
              · replace c25 := Bool.eq_false_iff.mpr c25
                subst c25
                have H1 : (erratalaw15_LinesFit.j0 k l0 a1 y148 t155 t159 t167 true) = some r := by rw [if_neg (show ¬ (false = true) by decide)] at H; exact H
                clear H
                have H := H1
                clear H1
                have H' := Aside0.mk H
                clear H
                obtain ⟨Ao37, co37, eo37⟩ := Kd.R_slice HO158.out
                subst eo37
                obtain ⟨Ao38, co38, eo38⟩ := Kd.R_slice HO162.out
                subst eo38
                go_wp2_with (first | (go_at_call 19; (with_reducible refine (errataref15_Same.calls k _ _ t155 _ _ t159 false _ ?side1 ?side2 ?side3 ?side4 A24.out).mono ?_); (case side1 => repeat (first | exact (Kd.R_reads' HO158.out).2.2 | (with_reducible refine Kd.C_alloc ?_ _) | (with_reducible refine Kd.C_drewN ?_ _) | (with_reducible refine Kd.C_drew ?_))); (case side2 => exact (Kd.R_reads' HO158.out).2.1); (case side3 => repeat (first | exact (Kd.R_reads' HO162.out).2.2 | (with_reducible refine Kd.C_alloc ?_ _) | (with_reducible refine Kd.C_drewN ?_ _) | (with_reducible refine Kd.C_drew ?_))); (case side4 => exact (Kd.R_reads' HO162.out).2.1); rintro e w' ⟨rfl, ⟨nd, rfl⟩⟩))
                go_meet
                case rel => exact ⟨_, (true), (by first | rfl | (simp; done) | (simp [*]; done)), H', ⟨by first | omega | exact Nat.le_refl _⟩, ⟨by (with_reducible repeat (first | apply Kd.R_alloc | apply Kd.R_drewN | apply Kd.R_drew)); exact Kd.R_mono HO150.out (fun _ hk => ⟨hk.1.1.2, ⟨hk.1.2, hk.2⟩⟩)⟩, ⟨by (with_reducible repeat (first | apply Kd.R_alloc | apply Kd.R_drewN | apply Kd.R_drew)); exact Kd.R_mono HO158.out (fun _ hk => ⟨hk.1.1.2, ⟨hk.1.2, hk.2⟩⟩)⟩, ⟨by (with_reducible repeat (first | apply Kd.R_alloc | apply Kd.R_drewN | apply Kd.R_drew)); exact Kd.R_mono HO162.out (fun _ hk => ⟨hk.1.1.2, ⟨hk.1.2, hk.2⟩⟩)⟩, ⟨by (with_reducible repeat (first | apply Kd.R_alloc | apply Kd.R_drewN | apply Kd.R_drew)); exact Kd.R_mono HO170.out (fun _ hk => ⟨hk.1.1.2, ⟨hk.1.2, hk.2⟩⟩)⟩, ⟨by repeat (first | (with_reducible exact HR154.out) | (with_reducible refine Kd.C_alloc ?_ _) | (with_reducible refine Kd.C_drewN ?_ _) | (with_reducible refine Kd.C_drew ?_) | exact HR154.out)⟩, ⟨by repeat (first | (with_reducible exact HR166.out) | (with_reducible refine Kd.C_alloc ?_ _) | (with_reducible refine Kd.C_drewN ?_ _) | (with_reducible refine Kd.C_drew ?_) | exact HR166.out)⟩, ⟨by repeat (first | (with_reducible first | exact HB.out | apply below_alloc | apply pw_below_drewN | apply below_drew1) | exact HB.out)⟩⟩
            · rw [if_neg c23] at H
              have c23b0 : (t156 == t160) = false := beq_eq_false_iff_ne.mpr c23
              have c23b1 : (t156 != t160) = true := bne_iff_ne.mpr c23
              (first | rw [c23b0] | (simp only [i64_w, i32_w]; rw [c23b0]) | skip)
              have H' := Aside0.mk H
              clear H
              go_wp2
              go_meet
              case rel => exact ⟨_, (true), (by first | rfl | (simp; done) | (simp [*]; done)), H', ⟨by first | omega | exact Nat.le_refl _⟩, ⟨by (with_reducible repeat (first | apply Kd.R_alloc | apply Kd.R_drewN | apply Kd.R_drew)); exact Kd.R_mono HO150.out (fun _ hk => ⟨hk.1.1.2, ⟨hk.1.2, hk.2⟩⟩)⟩, ⟨by (with_reducible repeat (first | apply Kd.R_alloc | apply Kd.R_drewN | apply Kd.R_drew)); exact Kd.R_mono HO158.out (fun _ hk => ⟨hk.1.1.2, ⟨hk.1.2, hk.2⟩⟩)⟩, ⟨by (with_reducible repeat (first | apply Kd.R_alloc | apply Kd.R_drewN | apply Kd.R_drew)); exact Kd.R_mono HO162.out (fun _ hk => ⟨hk.1.1.2, ⟨hk.1.2, hk.2⟩⟩)⟩, ⟨by (with_reducible repeat (first | apply Kd.R_alloc | apply Kd.R_drewN | apply Kd.R_drew)); exact Kd.R_mono HO170.out (fun _ hk => ⟨hk.1.1.2, ⟨hk.1.2, hk.2⟩⟩)⟩, ⟨by repeat (first | (with_reducible exact HR154.out) | (with_reducible refine Kd.C_alloc ?_ _) | (with_reducible refine Kd.C_drewN ?_ _) | (with_reducible refine Kd.C_drew ?_) | exact HR154.out)⟩, ⟨by repeat (first | (with_reducible exact HR166.out) | (with_reducible refine Kd.C_alloc ?_ _) | (with_reducible refine Kd.C_drewN ?_ _) | (with_reducible refine Kd.C_drew ?_) | exact HR166.out)⟩, ⟨by repeat (first | (with_reducible first | exact HB.out | apply below_alloc | apply pw_below_drewN | apply below_drew1) | exact HB.out)⟩⟩
          case rest =>
            clear HC12
            try clear c1
            try clear p1
            try clear q1
            try clear hx1
            try clear c2
            try clear p2
            try clear q2
            try clear c3
            try clear q3
            try clear c4
            try clear c5
            try clear c5b0
            try clear c5b1
            try clear c6
            try clear c6b0
            try clear c6b1
            try clear c9
            try clear c9b0
            try clear c10
            try clear c10b0
            try clear c17
            try clear p17
            try clear q17
            try clear hx17
            try clear c18
            try clear q21
            try clear c23
            try clear c23b0
            try clear c23b1
            try clear c25
            try clear c26
            try clear c26b0
            try clear c27
            try clear c27b0
            try clear c29
            try clear c30
            try clear c30b0
            try clear c30b1
            try clear q33
            try clear q36
            try clear hx177_0
            try clear p177
            try clear q17
            try clear q177
            try clear q21
            try clear q33
            try clear q36
            obtain ⟨kq, x72_11, rfl, HA, HJ11, HO_5, HO_6, HO_8, HO_10, HR154, HR166, HB⟩ := hcut
            cases kq with
            | zero => exact absurd HA.out (by simp [erratalaw15_LinesFit.j0])
            | succ kj11 =>
              have H := HA.out
              clear HA
              simp only [erratalaw15_LinesFit.j0] at H
              by_cases c39 : x72_11 = true
              · subst c39
                have H1 : (some false) = some r := by rw [if_pos rfl] at H; exact H
                clear H
                have H := H1
                clear H1
                obtain rfl := Option.some.inj H
                go_wp2
                go_ret
                exact ⟨by first | rfl | (simp [errW_none, errW_some] <;> rfl) | (simp [*, errW_none, errW_some] <;> rfl), by repeat (first | (with_reducible first | exact HB.out | apply below_alloc | apply pw_below_drewN | apply below_drew1) | exact HB.out)⟩
              · replace c39 := Bool.eq_false_iff.mpr c39
                subst c39
                have H1 : ((erratalaw15_spoil.f kj11 t155).bind fun _ => ((errataref15_Same.f kj11 t167 t159).bind fun t178 => (if t178 = true then (if 0 ≤ (l0.length : Int) then (if (l0.length : Int) ≤ (y148.length : Int) then ((errataref15_Same.f kj11 (y148.take ((l0.length : Int) : Int).toNat) l0).bind fun t183 => (erratalaw15_LinesFit.j1 kj11 l0 a1 y148 t159 t167 (!t183))) else (none)) else (none)) else (erratalaw15_LinesFit.j1 kj11 l0 a1 y148 t159 t167 true)))) = some r := by rw [if_neg (show ¬ (false = true) by decide)] at H; exact H
                clear H
                have H := H1
                clear H1
                replace H := Option.bind_eq_some_iff.mp H
                obtain ⟨_, A400, H⟩ := H
                replace H : ((errataref15_Same.f kj11 t167 t159).bind fun t178 => (if t178 = true then (if 0 ≤ (l0.length : Int) then (if (l0.length : Int) ≤ (y148.length : Int) then ((errataref15_Same.f kj11 (y148.take ((l0.length : Int) : Int).toNat) l0).bind fun t183 => (erratalaw15_LinesFit.j1 kj11 l0 a1 y148 t159 t167 (!t183))) else (none)) else (none)) else (erratalaw15_LinesFit.j1 kj11 l0 a1 y148 t159 t167 true))) = some r := H
                have A40 := Aside0.mk A400
                clear A400
                have HC41 := Aside0.mk H
                clear H
                obtain ⟨Ao42, co42, eo42⟩ := Kd.R_slice HO_6.out
                subst eo42
                go_upto_region 8 with (first | ((with_reducible refine gate_callee (f := 20) rfl ?_); refine goesL_ (some 74) rfl rfl Tryz.func20 (by kernel_rfl) rfl #[.slice Ao42 t155.length co42] rfl (by (try simp only [List.map_toArray, List.map_cons, List.map_nil]); first | done | rfl | (simp only [List.length_drop, List.length_take]; rfl)) ?_; (with_reducible refine (erratalaw15_spoil.calls kj11 (fun k_ => some k_ = (.slice Ao42 t155.length co42 : Value).ownBlock) (.slice Ao42 t155.length co42) t155  w _ ?side1 ?side2 A40.out).mono ?_); (case side1 => repeat (first | (with_reducible first | exact HB.out | apply below_alloc | apply pw_below_drewN | apply below_drew1) | exact HB.out)); (case side2 => exact Kd.R_tight rfl HO_6.out); rintro e w43 ⟨rfl, hb, hkp⟩; refine ⟨_, rfl, ?_⟩; have n0_ := Aside0.mk (Kd.R_mono (ok' := fun k_ => some k_ ≠ (v161 : Value).ownBlock ∧ some k_ ≠ (v169 : Value).ownBlock) (Kd.R_keptB (HO_5.out) hkp (fun k_ hk_ hs_ => (hk_.1) hs_)) (fun k_ hk_ => ⟨hk_.1.2.1, hk_.1.2.2⟩)); have n1_ := Aside0.mk (Kd.R_mono (ok' := fun k_ => some k_ ≠ (.slice Ao18 y148.length co18 : Value).ownBlock ∧ some k_ ≠ (v169 : Value).ownBlock) (Kd.R_keptB (HO_8.out) hkp (fun k_ hk_ hs_ => (hk_.2.1) hs_)) (fun k_ hk_ => ⟨hk_.1.1, hk_.1.2.2⟩)); have n2_ := Aside0.mk (Kd.R_mono (ok' := fun k_ => some k_ ≠ (.slice Ao18 y148.length co18 : Value).ownBlock ∧ some k_ ≠ (v161 : Value).ownBlock) (Kd.R_keptB (HO_10.out) hkp (fun k_ hk_ hs_ => (hk_.2.1) hs_)) (fun k_ hk_ => ⟨hk_.1.1, hk_.1.2.2⟩)); have n3_ := Aside0.mk (hb); clear HO_5; clear HO_8; clear HO_10; clear HB; clear HO_6; have HO_5 := n0_; have HO_8 := n1_; have HO_10 := n2_; have HB := n3_; clear n0_ n1_ n2_ n3_; (try clear hb); (try clear hkp)))
                (try simp only [Act.put, List.setIfInBounds_toArray, List.set_cons_zero, List.set_cons_succ])
                go_cut [87] (fun v87 wc => ∃ (kq : Nat) (x87_40 : Bool), v87 = .bool x87_40 ∧ Aside0 (erratalaw15_LinesFit.j1 kq l0 a1 y148 t159 t167 x87_40 = some r) ∧ Aside0 (kq ≤ kj11) ∧ Aside0 (Kd.R Kd.string 9 wc w.heap.size (fun k_ => some k_ ≠ (v161 : Value).ownBlock ∧ some k_ ≠ (v169 : Value).ownBlock) (.slice Ao18 y148.length co18) y148) ∧ Aside0 (Kd.R Kd.string 9 wc w.heap.size (fun k_ => some k_ ≠ ((.slice Ao18 y148.length co18) : Value).ownBlock ∧ some k_ ≠ (v169 : Value).ownBlock) v161 t159) ∧ Aside0 (Kd.R Kd.string 9 wc w.heap.size (fun k_ => some k_ ≠ ((.slice Ao18 y148.length co18) : Value).ownBlock ∧ some k_ ≠ (v161 : Value).ownBlock) v169 t167) ∧ Aside0 (Below w.heap.size w wc))
                case first =>
                  have H := HC41.out
                  clear HC41
                  replace H := Option.bind_eq_some_iff.mp H
                  obtain ⟨t178, A440, H⟩ := H
                  replace H : (if t178 = true then (if 0 ≤ (l0.length : Int) then (if (l0.length : Int) ≤ (y148.length : Int) then ((errataref15_Same.f kj11 (y148.take ((l0.length : Int) : Int).toNat) l0).bind fun t183 => (erratalaw15_LinesFit.j1 kj11 l0 a1 y148 t159 t167 (!t183))) else (none)) else (none)) else (erratalaw15_LinesFit.j1 kj11 l0 a1 y148 t159 t167 true)) = some r := H
                  have A44 := Aside0.mk A440
                  clear A440
                  by_cases c45 : t178 = true
                  · subst c45
                    have H1 : (if 0 ≤ (l0.length : Int) then (if (l0.length : Int) ≤ (y148.length : Int) then ((errataref15_Same.f kj11 (y148.take ((l0.length : Int) : Int).toNat) l0).bind fun t183 => (erratalaw15_LinesFit.j1 kj11 l0 a1 y148 t159 t167 (!t183))) else (none)) else (none)) = some r := by rw [if_pos rfl] at H; exact H
                    clear H
                    have H := H1
                    clear H1
                    by_cases c46 : 0 ≤ (l0.length : Int)
                    · rw [if_pos c46] at H
                      have c46b0 := eq_true c46
                      have c46b1 : decide (0 ≤ (l0.length : Int)) = true := decide_eq_true c46
                      clear c46
                      by_cases c47 : (l0.length : Int) ≤ (y148.length : Int)
                      · rw [if_pos c47] at H
                        have c47b0 := eq_true c47
                        have c47b1 : decide ((l0.length : Int) ≤ (y148.length : Int)) = true := decide_eq_true c47
                        clear c47
                        have hy179 : y151 = (y148.take ((l0.length : Int) : Int).toNat) := Ny151.out
                        replace H : ((errataref15_Same.f kj11 y151 l0).bind fun t183 => (erratalaw15_LinesFit.j1 kj11 l0 a1 y148 t159 t167 (!t183))) = some r := by first | (rw [hy179]; with_reducible exact H) | (have H2_ := (Option.bind_some _ _).symm.trans H; rw [hy179]; with_reducible exact H2_) | (have H2_ := (Option.bind_some _ _).symm.trans H; with_reducible exact H2_) | with_reducible exact H | (rw [hy179]; exact H) | exact H
                        have Ny179 := Aside0.mk hy179
                        clear hy179
                        replace H := Option.bind_eq_some_iff.mp H
                        obtain ⟨t183, A480, H⟩ := H
                        replace H : (erratalaw15_LinesFit.j1 kj11 l0 a1 y148 t159 t167 (!t183)) = some r := H
                        have A48 := Aside0.mk A480
                        clear A480
                        have H' := Aside0.mk H
                        clear H
                        obtain ⟨Ao49, co49, eo49⟩ := Kd.R_slice HO_10.out
                        subst eo49
                        obtain ⟨Ao50, co50, eo50⟩ := Kd.R_slice HO_8.out
                        subst eo50
                        go_wp2_with (first | ((with_reducible refine gate_callee (f := 19) rfl ?_); refine goesL_ (some 77) rfl rfl Tryz.func19 (by kernel_rfl) rfl #[.slice Ao49 t167.length co49, .slice Ao50 t159.length co50] rfl (by (try simp only [List.map_toArray, List.map_cons, List.map_nil]); first | done | rfl | (simp only [List.length_drop, List.length_take]; rfl)) ?_; (with_reducible refine (errataref15_Same.calls kj11 _ _ t167 _ _ t159 true _ ?side1 ?side2 ?side3 ?side4 A44.out).mono ?_); (case side1 => repeat (first | exact (Kd.R_reads' HO_10.out).2.2 | (with_reducible refine Kd.C_alloc ?_ _) | (with_reducible refine Kd.C_drewN ?_ _) | (with_reducible refine Kd.C_drew ?_))); (case side2 => exact (Kd.R_reads' HO_10.out).2.1); (case side3 => repeat (first | exact (Kd.R_reads' HO_8.out).2.2 | (with_reducible refine Kd.C_alloc ?_ _) | (with_reducible refine Kd.C_drewN ?_ _) | (with_reducible refine Kd.C_drew ?_))); (case side4 => exact (Kd.R_reads' HO_8.out).2.1); rintro e w' ⟨rfl, ⟨nd, rfl⟩⟩; refine ⟨_, rfl, ?_⟩; have q51 : ((l0.length : Int) : Int) ≤ ((y148.length : Int) : Int) := of_decide_eq_true (by first | (with_reducible assumption) | assumption); obtain ⟨i051, hi051, _, hsz51, _⟩ := info_parts info9; have hroom51 : y148.length ≤ co18 := (Kd.R_reads' HO_5.out).2.1; have hC51 : Kd.C Kd.string _ Ao18 y148.length y148 := (Kd.R_reads' HO_5.out).2.2; have hcut51 := cut_to (P := Tryz.prog) 32 9 .i64 Tryz.underlying32 hi051 Ao18 y148.length co18 (l0.length : Int) (of_decide_eq_true (by first | (with_reducible assumption) | assumption)) q51 hroom51; have hr51 := Kd.C_take (m := ((l0.length : Int) : Int).toNat) hC51 (by omega); have hy51 : y151.length = ((l0.length : Int) : Int).toNat := (by rw [Ny179.out, List.length_take]; omega); rw [← Ny179.out] at hr51; rw [← hy51] at hcut51; have HR182 := Aside0.mk hr51; have HC182 := Aside0.mk (show y151.length ≤ co18 from by omega); clear hr51 hC51 hroom51 hi051 hsz51; have KY51 := Aside0.mk hy51; clear hy51; have KL51 := Aside0.mk (show ((l0.length : Int) : Int).toNat ≤ y148.length from by omega); replace q51 := eq_true q51) | (go_at_call 19; (with_reducible refine (errataref15_Same.calls kj11 _ _ y151 _ _ l0 t183 _ ?side1 ?side2 ?side3 ?side4 A48.out).mono ?_); (case side1 => repeat (first | exact (by repeat (first | (with_reducible exact HR182.out) | (with_reducible refine Kd.C_alloc ?_ _) | (with_reducible refine Kd.C_drewN ?_ _) | (with_reducible refine Kd.C_drew ?_) | exact HR182.out)) | (with_reducible refine Kd.C_alloc ?_ _) | (with_reducible refine Kd.C_drewN ?_ _) | (with_reducible refine Kd.C_drew ?_))); (case side2 => exact HC182.out); (case side3 => repeat (first | exact (Kd.C_below HR0.out (by repeat (first | (with_reducible first | exact HB.out | apply below_alloc | apply pw_below_drewN | apply below_drew1) | exact HB.out))) | (with_reducible refine Kd.C_alloc ?_ _) | (with_reducible refine Kd.C_drewN ?_ _) | (with_reducible refine Kd.C_drew ?_))); (case side4 => exact HC0.out); rintro e w' ⟨rfl, ⟨nd, rfl⟩⟩))
                        go_meet
                        case rel => exact ⟨_, (!t183), (by first | rfl | (simp; done) | (simp [*]; done)), H', ⟨by have := HJ11.out; first | omega | exact Nat.le_refl _⟩, ⟨by (with_reducible repeat (first | apply Kd.R_alloc | apply Kd.R_drewN | apply Kd.R_drew)); exact HO_5.out⟩, ⟨by (with_reducible repeat (first | apply Kd.R_alloc | apply Kd.R_drewN | apply Kd.R_drew)); exact HO_8.out⟩, ⟨by (with_reducible repeat (first | apply Kd.R_alloc | apply Kd.R_drewN | apply Kd.R_drew)); exact HO_10.out⟩, ⟨by repeat (first | (with_reducible first | exact HB.out | apply below_alloc | apply pw_below_drewN | apply below_drew1) | exact HB.out)⟩⟩
                      · rw [if_neg c47] at H
                        exact absurd H (by simp)
                    · rw [if_neg c46] at H
                      exact absurd H (by simp)
                  · replace c45 := Bool.eq_false_iff.mpr c45
                    subst c45
                    have H1 : (erratalaw15_LinesFit.j1 kj11 l0 a1 y148 t159 t167 true) = some r := by rw [if_neg (show ¬ (false = true) by decide)] at H; exact H
                    clear H
                    have H := H1
                    clear H1
                    have H' := Aside0.mk H
                    clear H
                    obtain ⟨Ao52, co52, eo52⟩ := Kd.R_slice HO_10.out
                    subst eo52
                    obtain ⟨Ao53, co53, eo53⟩ := Kd.R_slice HO_8.out
                    subst eo53
                    go_wp2_with (first | ((with_reducible refine gate_callee (f := 19) rfl ?_); refine goesL_ (some 77) rfl rfl Tryz.func19 (by kernel_rfl) rfl #[.slice Ao52 t167.length co52, .slice Ao53 t159.length co53] rfl (by (try simp only [List.map_toArray, List.map_cons, List.map_nil]); first | done | rfl | (simp only [List.length_drop, List.length_take]; rfl)) ?_; (with_reducible refine (errataref15_Same.calls kj11 _ _ t167 _ _ t159 false _ ?side1 ?side2 ?side3 ?side4 A44.out).mono ?_); (case side1 => repeat (first | exact (Kd.R_reads' HO_10.out).2.2 | (with_reducible refine Kd.C_alloc ?_ _) | (with_reducible refine Kd.C_drewN ?_ _) | (with_reducible refine Kd.C_drew ?_))); (case side2 => exact (Kd.R_reads' HO_10.out).2.1); (case side3 => repeat (first | exact (Kd.R_reads' HO_8.out).2.2 | (with_reducible refine Kd.C_alloc ?_ _) | (with_reducible refine Kd.C_drewN ?_ _) | (with_reducible refine Kd.C_drew ?_))); (case side4 => exact (Kd.R_reads' HO_8.out).2.1); rintro e w' ⟨rfl, ⟨nd, rfl⟩⟩; refine ⟨_, rfl, ?_⟩))
                    go_meet
                    case rel => exact ⟨_, (true), (by first | rfl | (simp; done) | (simp [*]; done)), H', ⟨by have := HJ11.out; first | omega | exact Nat.le_refl _⟩, ⟨by (with_reducible repeat (first | apply Kd.R_alloc | apply Kd.R_drewN | apply Kd.R_drew)); exact HO_5.out⟩, ⟨by (with_reducible repeat (first | apply Kd.R_alloc | apply Kd.R_drewN | apply Kd.R_drew)); exact HO_8.out⟩, ⟨by (with_reducible repeat (first | apply Kd.R_alloc | apply Kd.R_drewN | apply Kd.R_drew)); exact HO_10.out⟩, ⟨by repeat (first | (with_reducible first | exact HB.out | apply below_alloc | apply pw_below_drewN | apply below_drew1) | exact HB.out)⟩⟩
                case rest =>
                  clear HC41
                  try clear c1
                  try clear p1
                  try clear q1
                  try clear hx1
                  try clear c2
                  try clear p2
                  try clear q2
                  try clear c3
                  try clear q3
                  try clear c4
                  try clear c5
                  try clear c5b0
                  try clear c5b1
                  try clear q5
                  try clear c6
                  try clear c6b0
                  try clear c6b1
                  try clear c9
                  try clear c9b0
                  try clear c10
                  try clear c10b0
                  try clear c17
                  try clear p17
                  try clear q17
                  try clear hx17
                  try clear c18
                  try clear c19
                  try clear c20
                  try clear q21
                  try clear c23
                  try clear c23b0
                  try clear c23b1
                  try clear c25
                  try clear c26
                  try clear c26b0
                  try clear c27
                  try clear c27b0
                  try clear c29
                  try clear c30
                  try clear c30b0
                  try clear c30b1
                  try clear q33
                  try clear q36
                  try clear c39
                  try clear c45
                  try clear c46
                  try clear c46b0
                  try clear c46b1
                  try clear c47
                  try clear c47b0
                  try clear c47b1
                  try clear q51
                  try clear hx177_0
                  try clear p1
                  try clear p17
                  try clear p177
                  try clear p2
                  try clear q1
                  try clear q17
                  try clear q177
                  try clear q2
                  try clear q21
                  try clear q3
                  try clear q33
                  try clear q36
                  try clear q51
                  obtain ⟨kq, x87_40, rfl, HA, HJ40, HO_5, HO_8, HO_10, HB⟩ := hcut
                  cases kq with
                  | zero => exact absurd HA.out (by simp [erratalaw15_LinesFit.j1])
                  | succ kj40 =>
                    have H := HA.out
                    clear HA
                    simp only [erratalaw15_LinesFit.j1] at H
                    by_cases c54 : x87_40 = true
                    · subst c54
                      have H1 : (some false) = some r := by rw [if_pos rfl] at H; exact H
                      clear H
                      have H := H1
                      clear H1
                      obtain rfl := Option.some.inj H
                      go_wp2
                      go_ret
                      exact ⟨by first | rfl | (simp [errW_none, errW_some] <;> rfl) | (simp [*, errW_none, errW_some] <;> rfl), by repeat (first | (with_reducible first | exact HB.out | apply below_alloc | apply pw_below_drewN | apply below_drew1) | exact HB.out)⟩
                    · replace c54 := Bool.eq_false_iff.mpr c54
                      subst c54
                      have H1 : (erratalaw15_LinesFit.l0 kj40 l0 a1 y148 t159 t167 ([] : List ByteArray) 0) = some r := by rw [if_neg (show ¬ (false = true) by decide)] at H; exact H
                      clear H
                      have H := H1
                      clear H1
                      have H' := Aside0.mk H
                      clear H
                      go_wp2
                      go_loopg [12, 13] kj40 (fun kq v12 v13 w' => ∃ (x5_3 : List ByteArray) (x12_3 : List ByteArray) (x13_3 : Int), v13 = .int .i64 x13_3 ∧ Aside0 (erratalaw15_LinesFit.l0 kq l0 a1 x5_3 t159 t167 x12_3 x13_3 = some r) ∧ Aside0 (kq ≤ kj40) ∧ Aside0 (Kd.R Kd.string 9 w' w.heap.size (fun k_ => some k_ ≠ (v161 : Value).ownBlock ∧ some k_ ≠ (v169 : Value).ownBlock ∧ some k_ ≠ (v12 : Value).ownBlock) (.slice Ao18 y148.length co18) x5_3) ∧ Aside0 (Kd.R Kd.string 9 w' w.heap.size (fun k_ => some k_ ≠ ((.slice Ao18 y148.length co18) : Value).ownBlock ∧ some k_ ≠ (v169 : Value).ownBlock ∧ some k_ ≠ (v12 : Value).ownBlock) v161 t159) ∧ Aside0 (Kd.R Kd.string 9 w' w.heap.size (fun k_ => some k_ ≠ ((.slice Ao18 y148.length co18) : Value).ownBlock ∧ some k_ ≠ (v161 : Value).ownBlock ∧ some k_ ≠ (v12 : Value).ownBlock) v169 t167) ∧ Aside0 (Kd.R Kd.string 9 w' w.heap.size (fun k_ => some k_ ≠ ((.slice Ao18 y148.length co18) : Value).ownBlock ∧ some k_ ≠ (v161 : Value).ownBlock ∧ some k_ ≠ (v169 : Value).ownBlock) v12 x12_3) ∧ Aside0 (Below w.heap.size w w'))
                      case atStart => exact ⟨(y148), (([] : List ByteArray)), (0), (by first | rfl | (simp; done) | (simp [*]; done)), H', ⟨Nat.le_refl _⟩, ⟨by (with_reducible repeat (first | apply Kd.R_alloc | apply Kd.R_drewN | apply Kd.R_drew)); exact Kd.R_mono HO_5.out (fun _ hk => ⟨hk.1, ⟨hk.2, (by simp [Value.ownBlock])⟩⟩)⟩, ⟨by (with_reducible repeat (first | apply Kd.R_alloc | apply Kd.R_drewN | apply Kd.R_drew)); exact Kd.R_mono HO_8.out (fun _ hk => ⟨hk.1, ⟨hk.2, (by simp [Value.ownBlock])⟩⟩)⟩, ⟨by (with_reducible repeat (first | apply Kd.R_alloc | apply Kd.R_drewN | apply Kd.R_drew)); exact Kd.R_mono HO_10.out (fun _ hk => ⟨hk.1, ⟨hk.2, (by simp [Value.ownBlock])⟩⟩)⟩, ⟨by first | exact Kd.R_nil _ _ _ _ _ | exact Kd.N_nil _ _ _ _ _ | exact Kd.V_nil _ _ _ _ _ | exact Kd.Q_nil _ _ _ _ _ | exact Kd.S_nil _ _ _ _ _⟩, ⟨by repeat (first | (with_reducible first | exact HB.out | apply below_alloc | apply pw_below_drewN | apply below_drew1) | exact HB.out)⟩⟩
                      case round =>
                        clear H'
                        try clear c1
                        try clear p1
                        try clear q1
                        try clear hx1
                        try clear c2
                        try clear p2
                        try clear q2
                        try clear c3
                        try clear q3
                        try clear c4
                        try clear c5
                        try clear c5b0
                        try clear c5b1
                        try clear q5
                        try clear c6
                        try clear c6b0
                        try clear c6b1
                        try clear c9
                        try clear c9b0
                        try clear c10
                        try clear c10b0
                        try clear c17
                        try clear p17
                        try clear q17
                        try clear hx17
                        try clear c18
                        try clear c19
                        try clear c20
                        try clear q21
                        try clear c23
                        try clear c23b0
                        try clear c23b1
                        try clear c25
                        try clear c26
                        try clear c26b0
                        try clear c27
                        try clear c27b0
                        try clear c29
                        try clear c30
                        try clear c30b0
                        try clear c30b1
                        try clear q33
                        try clear q36
                        try clear c39
                        try clear c45
                        try clear c46
                        try clear c46b0
                        try clear c46b1
                        try clear c47
                        try clear c47b0
                        try clear c47b1
                        try clear q51
                        try clear c54
                        try clear hx177_0
                        try clear p1
                        try clear p17
                        try clear p177
                        try clear p2
                        try clear q1
                        try clear q17
                        try clear q177
                        try clear q2
                        try clear q21
                        try clear q3
                        try clear q33
                        try clear q36
                        try clear q5
                        try clear q51
                        obtain ⟨x5_3, x12_3, x13_3, rfl, HA, HK3, HO_5, HO_8, HO_10, HO_12, HB⟩ := hrel
                        have hl5_3 := (Kd.R_reads' HO_5.out).1
                        rw [hl5_3] at HO_5
                        (try simp only [hl5_3])
                        (try simp only [hl5_3] at HO_8)
                        (try simp only [hl5_3] at HO_10)
                        (try simp only [hl5_3] at HO_12)
                        cases gk with
                        | zero => exact absurd HA.out (by simp [erratalaw15_LinesFit.l0])
                        | succ k3 =>
                          have H := HA.out
                          clear HA
                          simp only [erratalaw15_LinesFit.l0] at H
                          by_cases c55 : x13_3 < (l0.length : Int)
                          · rw [if_pos c55] at H
                            have c55b0 : decide (x13_3 < (l0.length : Int)) = true := decide_eq_true c55
                            clear c55
                            by_cases c56 : 0 ≤ x13_3
                            · rw [if_pos c56] at H
                              have c56b0 : decide (0 ≤ x13_3) = true := decide_eq_true c56
                              clear c56
                              by_cases c57 : 1 + (rdOf ByteArray.empty l0 x13_3).size ≤ 9223372036854775807
                              · rw [if_pos c57] at H
                                have c57b0 := eq_true c57
                                have c57b1 : decide (1 + (rdOf ByteArray.empty l0 x13_3).size ≤ 9223372036854775807) = true := decide_eq_true c57
                                try have c57b2 : (9223372036854775807 < 1 + (rdOf ByteArray.empty l0 x13_3).size) = False := eq_false (Nat.not_lt.2 c57)
                                by_cases c58 : x13_3 < (x5_3.length : Int)
                                · rw [if_pos c58] at H
                                  have c58b0 : decide (x13_3 < (x5_3.length : Int)) = true := decide_eq_true c58
                                  clear c58
                                  obtain ⟨y185, hy185⟩ : ∃ y_ : List ByteArray, y_ = (x5_3.set (x13_3 : Int).toNat ((⟨#[60]⟩ : ByteArray) ++ (rdOf ByteArray.empty l0 x13_3))) := ⟨_, rfl⟩
                                  replace H : (if x12_3.length < 8796093022208 then (erratalaw15_LinesFit.l0 k3 l0 a1 y185 t159 t167 (x12_3 ++ [(⟨#[60]⟩ : ByteArray) ++ (rdOf ByteArray.empty l0 x13_3)]) (wrap64 (x13_3 + 1))) else (none)) = some r := by first | (rw [hy185]; with_reducible exact H) | (have H2_ := (Option.bind_some _ _).symm.trans H; rw [hy185]; with_reducible exact H2_) | (have H2_ := (Option.bind_some _ _).symm.trans H; with_reducible exact H2_) | with_reducible exact H | (rw [hy185]; exact H) | exact H
                                  have Ny185 := Aside0.mk hy185
                                  clear hy185
                                  by_cases c60 : x12_3.length < 8796093022208
                                  · rw [if_pos c60] at H
                                    have LMc60 := Aside0.mk c60
                                    clear c60
                                    obtain ⟨y187, hy187⟩ : ∃ y_ : List ByteArray, y_ = (x12_3 ++ [(⟨#[60]⟩ : ByteArray) ++ (rdOf ByteArray.empty l0 x13_3)]) := ⟨_, rfl⟩
                                    replace H : (erratalaw15_LinesFit.l0 k3 l0 a1 y185 t159 t167 y187 (wrap64 (x13_3 + 1))) = some r := by first | (rw [hy187]; with_reducible exact H) | (have H2_ := (Option.bind_some _ _).symm.trans H; rw [hy187]; with_reducible exact H2_) | (have H2_ := (Option.bind_some _ _).symm.trans H; with_reducible exact H2_) | with_reducible exact H | (rw [hy187]; exact H) | exact H
                                    have Ny187 := Aside0.mk hy187
                                    clear hy187
                                    have H' := Aside0.mk H
                                    clear H
                                    have p184 : 0 ≤ (x13_3 : Int) := of_decide_eq_true (by first | (with_reducible assumption) | assumption)
                                    have q184 : x13_3 < (l0.length : Int) := of_decide_eq_true (by first | (with_reducible assumption) | assumption)
                                    obtain ⟨ad184, e184, hx184_0⟩ := Kd.at_string HR0.out x13_3 p184 q184
                                    cases e184
                                    replace hx184_0 := (HB.out.cell (World.block_lt_of_cell? w _ hx184_0)).trans hx184_0
                                    replace p184 := eq_true p184
                                    replace q184 := eq_true q184
                                    have p59 : 0 ≤ (x13_3 : Int) := of_decide_eq_true (by first | (with_reducible assumption) | assumption)
                                    have q59 : (x13_3 : Int) < ((x5_3.length : Int) : Int) := of_decide_eq_true (by first | (with_reducible assumption) | assumption)
                                    obtain ⟨go59, co59, eo59, gb59, gl59, cl59, HG59⟩ := Kd.R_form HO_5.out (by omega)
                                    (first | cases eo59 | (injection eo59 with ea_ en_ ec_; (first | subst ea_ | (injection ea_ with ea_; subst ea_)); subst ec_; clear en_))
                                    have GB59 := Aside0.mk gb59
                                    have GG59 := Aside0.mk HG59
                                    clear gb59 gl59 HG59
                                    obtain ⟨hx59_0, hf59_0⟩ := Kd.R_celln (⟨#[]⟩ : ByteArray) HO_5.out (x13_3 : Int) p59 q59
                                    replace p59 := eq_true p59
                                    replace q59 := eq_true q59
                                    have HP61 := Kd.R_putg HO_5.out (x13_3 : Int) ((⟨#[60]⟩ : ByteArray) ++ (rdOf ByteArray.empty l0 x13_3))
                                    go_wp2_with (first | ((with_reducible refine gate_store (t := 9) (p := 101) rfl ?_); refine store_event (t := 9) (p := 101) (v := ?vo_w62) (w1 := (wr.setCell ⟨go59, (x13_3 : Int).toNat, none⟩ (.string ((⟨#[60]⟩ : ByteArray) ++ (rdOf ByteArray.empty l0 x13_3))))) ?hg ?ho ?hn ?hr ?_; (case ho => rfl); (case hg => rfl); (case hn => rfl); (case hr => first | (go_simp; done) | (go_simp; rfl)); intro w62 hw; have hg : wr.grownBy w62 (some go59) := (by rw [hw]; exact HP61.2); have hp_ : Kd.R Kd.string 9 w62 w.heap.size (fun k_ => some k_ ≠ (v161 : Value).ownBlock ∧ some k_ ≠ (v169 : Value).ownBlock ∧ some k_ ≠ (u12 : Value).ownBlock) (.slice (some ⟨go59, 0, none⟩) x5_3.length co18) y185 := (by rw [hw, Ny185.out]; exact HP61.1); clear HP61; have n0_ := Aside0.mk (hp_); have n1_ := Aside0.mk (Kd.R_after (v := (.slice (some ⟨go59, 0, none⟩) x5_3.length co18)) (v1 := (.slice (some ⟨go59, 0, none⟩) x5_3.length co18)) (ok := (fun k_ => some k_ ≠ (v169 : Value).ownBlock ∧ some k_ ≠ (u12 : Value).ownBlock)) (by (with_reducible repeat (first | apply Kd.R_alloc | apply Kd.R_drewN | apply Kd.R_drew)); exact Kd.R_mono HO_8.out (fun _ hk => ⟨⟨hk.2.1, hk.2.2⟩, hk.1⟩)) hg (.inl rfl)); have n2_ := Aside0.mk (Kd.R_after (v := (.slice (some ⟨go59, 0, none⟩) x5_3.length co18)) (v1 := (.slice (some ⟨go59, 0, none⟩) x5_3.length co18)) (ok := (fun k_ => some k_ ≠ (v161 : Value).ownBlock ∧ some k_ ≠ (u12 : Value).ownBlock)) (by (with_reducible repeat (first | apply Kd.R_alloc | apply Kd.R_drewN | apply Kd.R_drew)); exact Kd.R_mono HO_10.out (fun _ hk => ⟨⟨hk.2.1, hk.2.2⟩, hk.1⟩)) hg (.inl rfl)); have n3_ := Aside0.mk (Kd.R_after (v := (.slice (some ⟨go59, 0, none⟩) x5_3.length co18)) (v1 := (.slice (some ⟨go59, 0, none⟩) x5_3.length co18)) (ok := (fun k_ => some k_ ≠ (v161 : Value).ownBlock ∧ some k_ ≠ (v169 : Value).ownBlock)) (by (with_reducible repeat (first | apply Kd.R_alloc | apply Kd.R_drewN | apply Kd.R_drew)); exact Kd.R_mono HO_12.out (fun _ hk => ⟨⟨hk.2.1, hk.2.2⟩, hk.1⟩)) hg (.inl rfl)); have n4_ := Aside0.mk ((by rw [hw]; exact below_set (HB.out) GB59.out : Below w.heap.size w w62)); clear HO_5; clear HO_8; clear HO_10; clear HO_12; clear HB; have HO_5 := n0_; have HO_8 := n1_; have HO_10 := n2_; have HO_12 := n3_; have HB := n4_; clear n0_ n1_ n2_ n3_ n4_; clear hg hw hp_; have p186 : 0 ≤ (x13_3 : Int) := of_decide_eq_true (by first | (with_reducible assumption) | assumption); have q186 : x13_3 < (l0.length : Int) := of_decide_eq_true (by first | (with_reducible assumption) | assumption); obtain ⟨ad186, e186, hx186_0⟩ := Kd.at_string HR0.out x13_3 p186 q186; obtain rfl : ad184 = ad186 := (by injection e186); replace hx186_0 := (HB.out.cell (World.block_lt_of_cell? w _ hx186_0)).trans hx186_0; replace p186 := eq_true p186; replace q186 := eq_true q186) | ((with_reducible refine gate_builtin (b := .append) (xs := #[.tmp 102, .tmp 108]) rfl ?_); (try (refine gate_guard (by rfl) ?_; dsimp only)); at_builtin; refine Kd.R_append Kd.string (w0 := w) w.heap.size rfl (.tmp 102) (.tmp 108) 32 9 (.string ⟨#[]⟩) 16 rfl Tryz.underlying32 info9 rfl (by decide) (by omega) u12 x12_3 ((⟨#[60]⟩ : ByteArray) ++ (rdOf ByteArray.empty l0 x13_3)) [.string ((⟨#[60]⟩ : ByteArray) ++ (rdOf ByteArray.empty l0 x13_3))] (fun k_ => some k_ ≠ (.slice (some ⟨go59, 0, none⟩) x5_3.length co18 : Value).ownBlock ∧ some k_ ≠ (v161 : Value).ownBlock ∧ some k_ ≠ (v169 : Value).ownBlock) (fun _ => False) rfl rfl ?aP (fun _ hk => hk.elim) ?aF ?aO ?aB ?aS ?aL ?_; (case aP => exact rfl); (case aB => exact (by repeat (first | (with_reducible first | exact HB.out | apply below_alloc | apply pw_below_drewN | apply below_drew1) | exact HB.out))); (case aF => exact (fun k_ hk => ⟨Kd.fresh' (Kd.R_lt (by (with_reducible repeat (first | apply Kd.R_alloc | apply Kd.R_drewN | apply Kd.R_drew)); exact HO_5.out)) k_ hk, Kd.fresh' (Kd.R_lt (by (with_reducible repeat (first | apply Kd.R_alloc | apply Kd.R_drewN | apply Kd.R_drew)); exact HO_8.out)) k_ hk, Kd.fresh' (Kd.R_lt (by (with_reducible repeat (first | apply Kd.R_alloc | apply Kd.R_drewN | apply Kd.R_drew)); exact HO_10.out)) k_ hk⟩)); (case aO => exact (by (with_reducible repeat (first | apply Kd.R_alloc | apply Kd.R_drewN | apply Kd.R_drew)); exact Kd.R_mono HO_12.out (fun _ hk => ⟨hk.2, ⟨hk.1.1, hk.1.2⟩⟩))); (case aS => exact (below_size (by repeat (first | (with_reducible first | exact HB.out | apply below_alloc | apply pw_below_drewN | apply below_drew1) | exact HB.out)))); (case aL => have := LMc60.out; omega); intro v188 w63 ho hb hg hat; rw [← Ny187.out] at ho; have n0_ := Aside0.mk (Kd.R_after (ok := (fun k_ => some k_ ≠ (v161 : Value).ownBlock ∧ some k_ ≠ (v169 : Value).ownBlock)) (by (with_reducible repeat (first | apply Kd.R_alloc | apply Kd.R_drewN | apply Kd.R_drew)); exact Kd.R_mono HO_5.out (fun _ hk => ⟨⟨hk.1, hk.2.1⟩, hk.2.2⟩)) hg hat); have n1_ := Aside0.mk (Kd.R_after (ok := (fun k_ => some k_ ≠ (.slice (some ⟨go59, 0, none⟩) x5_3.length co18 : Value).ownBlock ∧ some k_ ≠ (v169 : Value).ownBlock)) (by (with_reducible repeat (first | apply Kd.R_alloc | apply Kd.R_drewN | apply Kd.R_drew)); exact Kd.R_mono HO_8.out (fun _ hk => ⟨⟨hk.2, hk.1.1⟩, hk.1.2⟩)) hg hat); have n2_ := Aside0.mk (Kd.R_after (ok := (fun k_ => some k_ ≠ (.slice (some ⟨go59, 0, none⟩) x5_3.length co18 : Value).ownBlock ∧ some k_ ≠ (v161 : Value).ownBlock)) (by (with_reducible repeat (first | apply Kd.R_alloc | apply Kd.R_drewN | apply Kd.R_drew)); exact Kd.R_mono HO_10.out (fun _ hk => ⟨⟨hk.2, hk.1.1⟩, hk.1.2⟩)) hg hat); have n3_ := Aside0.mk (hb); have n4_ := Aside0.mk (ho); clear HO_5; clear HO_8; clear HO_10; clear HB; clear HO_12; have HO_5 := n0_; have HO_8 := n1_; have HO_10 := n2_; have HB := n3_; have HO189 := n4_; clear n0_ n1_ n2_ n3_ n4_; clear ho hb hg hat))
                                    (try simp only [← hl5_3])
                                    go_roundg k3
                                    case measure => have := HJ11.out; have := HJ40.out; have := HK3.out; omega
                                    case rel => exact ⟨(y185), (y187), (wrap64 (x13_3 + 1)), (by first | rfl | (simp; done) | (simp [*]; done)), H', ⟨by have := HJ11.out; have := HJ40.out; have := HK3.out; omega⟩, ⟨by (try simp only [hl5_3]); (with_reducible repeat (first | apply Kd.R_alloc | apply Kd.R_drewN | apply Kd.R_drew)); exact Kd.R_mono HO_5.out (fun _ hk => ⟨hk.1.1, ⟨hk.1.2, hk.2⟩⟩)⟩, ⟨by (try simp only [hl5_3]); (with_reducible repeat (first | apply Kd.R_alloc | apply Kd.R_drewN | apply Kd.R_drew)); exact Kd.R_mono HO_8.out (fun _ hk => ⟨hk.1.1, ⟨hk.1.2, hk.2⟩⟩)⟩, ⟨by (try simp only [hl5_3]); (with_reducible repeat (first | apply Kd.R_alloc | apply Kd.R_drewN | apply Kd.R_drew)); exact Kd.R_mono HO_10.out (fun _ hk => ⟨hk.1.1, ⟨hk.1.2, hk.2⟩⟩)⟩, ⟨by (try simp only [hl5_3]); (with_reducible repeat (first | apply Kd.R_alloc | apply Kd.R_drewN | apply Kd.R_drew)); exact HO189.out⟩, ⟨by repeat (first | (with_reducible first | exact HB.out | apply below_alloc | apply pw_below_drewN | apply below_drew1) | exact HB.out)⟩⟩
                                  · rw [if_neg c60] at H
                                    exact absurd H (by simp)
                                · rw [if_neg c58] at H
                                  exact absurd H (by simp)
                              · rw [if_neg c57] at H
                                exact absurd H (by simp)
                            · rw [if_neg c56] at H
                              exact absurd H (by simp)
                          · rw [if_neg c55] at H
                            have c55b0 : decide (x13_3 < (l0.length : Int)) = false := decide_eq_false c55
                            clear c55
                            by_cases c64 : 0 ≤ (l0.length : Int)
                            · rw [if_pos c64] at H
                              have c64b0 := eq_true c64
                              have c64b1 : decide (0 ≤ (l0.length : Int)) = true := decide_eq_true c64
                              clear c64
                              by_cases c65 : (l0.length : Int) ≤ (x5_3.length : Int)
                              · rw [if_pos c65] at H
                                have c65b0 := eq_true c65
                                have c65b1 : decide ((l0.length : Int) ≤ (x5_3.length : Int)) = true := decide_eq_true c65
                                clear c65
                                obtain ⟨y190, hy190⟩ : ∃ y_ : List ByteArray, y_ = (x5_3.take ((l0.length : Int) : Int).toNat) := ⟨_, rfl⟩
                                replace H : ((lines_Fit.f y190 a1).bind fun bt194 => ((errataref15_Fit.f k3 x12_3 a1).bind fun bt198 => (if bt194.2 = bt198.2 then ((errataref15_Same.f k3 bt194.1 bt198.1).bind fun t202 => (if t202 = true then ((errataref15_Same.f k3 t167 t159).bind fun t203 => (if t203 = true then ((erratalaw15_awake.f).bind fun t204 => (some t204)) else (some false))) else (some false))) else (some false)))) = some r := by first | (rw [hy190]; with_reducible exact H) | (have H2_ := (Option.bind_some _ _).symm.trans H; rw [hy190]; with_reducible exact H2_) | (have H2_ := (Option.bind_some _ _).symm.trans H; with_reducible exact H2_) | with_reducible exact H | (rw [hy190]; exact H) | exact H
                                have Ny190 := Aside0.mk hy190
                                clear hy190
                                replace H := Option.bind_eq_some_iff.mp H
                                obtain ⟨⟨t194, t195⟩, A660, H⟩ := H
                                replace H : ((errataref15_Fit.f k3 x12_3 a1).bind fun bt198 => (if t195 = bt198.2 then ((errataref15_Same.f k3 t194 bt198.1).bind fun t202 => (if t202 = true then ((errataref15_Same.f k3 t167 t159).bind fun t203 => (if t203 = true then ((erratalaw15_awake.f).bind fun t204 => (some t204)) else (some false))) else (some false))) else (some false))) = some r := H
                                have A66 := Aside0.mk A660
                                clear A660
                                replace H := Option.bind_eq_some_iff.mp H
                                obtain ⟨⟨t198, t199⟩, A670, H⟩ := H
                                replace H : (if t195 = t199 then ((errataref15_Same.f k3 t194 t198).bind fun t202 => (if t202 = true then ((errataref15_Same.f k3 t167 t159).bind fun t203 => (if t203 = true then ((erratalaw15_awake.f).bind fun t204 => (some t204)) else (some false))) else (some false))) else (some false)) = some r := H
                                have A67 := Aside0.mk A670
                                clear A670
                                by_cases c68 : t195 = t199
                                · rw [if_pos c68] at H
                                  have c68b0 : (t195 == t199) = true := beq_iff_eq.mpr c68
                                  have c68b1 : (t195 != t199) = false := bne_eq_false_iff_eq.mpr c68
                                  clear c68
                                  replace H := Option.bind_eq_some_iff.mp H
                                  obtain ⟨t202, A690, H⟩ := H
                                  replace H : (if t202 = true then ((errataref15_Same.f k3 t167 t159).bind fun t203 => (if t203 = true then ((erratalaw15_awake.f).bind fun t204 => (some t204)) else (some false))) else (some false)) = some r := H
                                  have A69 := Aside0.mk A690
                                  clear A690
                                  by_cases c70 : t202 = true
                                  · subst c70
                                    have H1 : ((errataref15_Same.f k3 t167 t159).bind fun t203 => (if t203 = true then ((erratalaw15_awake.f).bind fun t204 => (some t204)) else (some false))) = some r := by rw [if_pos rfl] at H; exact H
                                    clear H
                                    have H := H1
                                    clear H1
                                    replace H := Option.bind_eq_some_iff.mp H
                                    obtain ⟨t203, A710, H⟩ := H
                                    replace H : (if t203 = true then ((erratalaw15_awake.f).bind fun t204 => (some t204)) else (some false)) = some r := H
                                    have A71 := Aside0.mk A710
                                    clear A710
                                    by_cases c72 : t203 = true
                                    · subst c72
                                      have H1 : ((erratalaw15_awake.f).bind fun t204 => (some t204)) = some r := by rw [if_pos rfl] at H; exact H
                                      clear H
                                      have H := H1
                                      clear H1
                                      replace H := Option.bind_eq_some_iff.mp H
                                      obtain ⟨t204, A730, H⟩ := H
                                      replace H : (some t204) = some r := H
                                      have A73 := Aside0.mk A730
                                      clear A730
                                      obtain rfl := Option.some.inj H
                                      have q74 : ((l0.length : Int) : Int) ≤ ((x5_3.length : Int) : Int) := of_decide_eq_true (by first | (with_reducible assumption) | assumption)
                                      obtain ⟨i074, hi074, _, hsz74, _⟩ := info_parts info9
                                      have hroom74 : x5_3.length ≤ co18 := (Kd.R_reads' HO_5.out).2.1
                                      have hC74 : Kd.C Kd.string _ Ao18 x5_3.length x5_3 := (Kd.R_reads' HO_5.out).2.2
                                      have hcut74 := cut_to (P := Tryz.prog) 32 9 .i64 Tryz.underlying32 hi074 Ao18 x5_3.length co18 (l0.length : Int) (of_decide_eq_true (by first | (with_reducible assumption) | assumption)) q74 hroom74
                                      have hr74 := Kd.C_take (m := ((l0.length : Int) : Int).toNat) hC74 (by omega)
                                      have hy74 : y190.length = ((l0.length : Int) : Int).toNat := (by rw [Ny190.out, List.length_take]; omega)
                                      rw [← Ny190.out] at hr74
                                      rw [← hy74] at hcut74
                                      have HR193 := Aside0.mk hr74
                                      have HC193 := Aside0.mk (show y190.length ≤ co18 from by omega)
                                      clear hr74 hC74 hroom74 hi074 hsz74
                                      have KY74 := Aside0.mk hy74
                                      clear hy74
                                      have KL74 := Aside0.mk (show ((l0.length : Int) : Int).toNat ≤ x5_3.length from by omega)
                                      replace q74 := eq_true q74
                                      go_wp2_with (first | ((with_reducible refine gate_callee (f := 17) rfl ?_); refine goesL_ (some 116) rfl rfl Tryz.func17 (by kernel_rfl) rfl #[.slice Ao18 y190.length co18, .int .i64 a1] rfl (by (try simp only [List.map_toArray, List.map_cons, List.map_nil]); first | done | rfl | (simp only [List.length_drop, List.length_take]; rfl)) ?_; (with_reducible refine (lines_Fit.calls _ _ y190 a1 t194 t195 _ ?side1 ?side2 A66.out).mono ?_); (case side1 => repeat (first | exact (by repeat (first | (with_reducible exact HR193.out) | (with_reducible refine Kd.C_alloc ?_ _) | (with_reducible refine Kd.C_drewN ?_ _) | (with_reducible refine Kd.C_drew ?_) | exact HR193.out)) | (with_reducible refine Kd.C_alloc ?_ _) | (with_reducible refine Kd.C_drewN ?_ _) | (with_reducible refine Kd.C_drew ?_))); (case side2 => exact HC193.out); rintro e w75 ⟨v196, rfl, ho0, hb⟩; refine ⟨_, rfl, ?_⟩; have n0_ := Aside0.mk (Kd.R_elder' (by (with_reducible repeat (first | apply Kd.R_alloc | apply Kd.R_drewN | apply Kd.R_drew)); exact HO_5.out) (Kd.R_base ho0) hb); have n1_ := Aside0.mk (Kd.R_elder' (by (with_reducible repeat (first | apply Kd.R_alloc | apply Kd.R_drewN | apply Kd.R_drew)); exact HO_8.out) (Kd.R_base ho0) hb); have n2_ := Aside0.mk (Kd.R_elder' (by (with_reducible repeat (first | apply Kd.R_alloc | apply Kd.R_drewN | apply Kd.R_drew)); exact HO_10.out) (Kd.R_base ho0) hb); have n3_ := Aside0.mk (Kd.R_elder' (by (with_reducible repeat (first | apply Kd.R_alloc | apply Kd.R_drewN | apply Kd.R_drew)); exact HO_12.out) (Kd.R_base ho0) hb); have n4_ := Aside0.mk (Kd.R_lower (Kd.R_new' (Kd.R_new' (Kd.R_new' (Kd.R_new' ho0 (Kd.R_lt (by (with_reducible repeat (first | apply Kd.R_alloc | apply Kd.R_drewN | apply Kd.R_drew)); exact HO_5.out))) (Kd.R_lt (by (with_reducible repeat (first | apply Kd.R_alloc | apply Kd.R_drewN | apply Kd.R_drew)); exact HO_8.out))) (Kd.R_lt (by (with_reducible repeat (first | apply Kd.R_alloc | apply Kd.R_drewN | apply Kd.R_drew)); exact HO_10.out))) (Kd.R_lt (by (with_reducible repeat (first | apply Kd.R_alloc | apply Kd.R_drewN | apply Kd.R_drew)); exact HO_12.out))) (below_size (by repeat (first | (with_reducible first | exact HB.out | apply below_alloc | apply pw_below_drewN | apply below_drew1) | exact HB.out)))); have n5_ := Aside0.mk (Kd.C_below (by repeat (first | (with_reducible exact HR193.out) | (with_reducible refine Kd.C_alloc ?_ _) | (with_reducible refine Kd.C_drewN ?_ _) | (with_reducible refine Kd.C_drew ?_) | exact HR193.out)) hb); have n6_ := Aside0.mk (below_step (by repeat (first | (with_reducible first | exact HB.out | apply below_alloc | apply pw_below_drewN | apply below_drew1) | exact HB.out)) hb); clear HO_5; clear HO_8; clear HO_10; clear HO_12; clear HR193; clear HB; have HO_5 := n0_; have HO_8 := n1_; have HO_10 := n2_; have HO_12 := n3_; have HO197 := n4_; have HR193 := n5_; have HB := n6_; clear n0_ n1_ n2_ n3_ n4_ n5_ n6_; (try clear hb); (try clear hb2); (try clear hk); (try clear hi); (try clear ho0); obtain ⟨Ao76, co76, eo76⟩ := Kd.R_slice HO_12.out; subst eo76) | ((with_reducible refine gate_callee (f := 18) rfl ?_); refine goesL_ (some 122) rfl rfl Tryz.func18 (by kernel_rfl) rfl #[.slice Ao76 x12_3.length co76, .int .i64 a1] rfl (by (try simp only [List.map_toArray, List.map_cons, List.map_nil]); first | done | rfl | (simp only [List.length_drop, List.length_take]; rfl)) ?_; (with_reducible refine (errataref15_Fit.calls k3 _ _ x12_3 a1 t198 t199 _ ?side1 ?side2 A67.out).mono ?_); (case side1 => repeat (first | exact (Kd.R_reads' HO_12.out).2.2 | (with_reducible refine Kd.C_alloc ?_ _) | (with_reducible refine Kd.C_drewN ?_ _) | (with_reducible refine Kd.C_drew ?_))); (case side2 => exact (Kd.R_reads' HO_12.out).2.1); rintro e w77 ⟨v200, rfl, ho0, hb⟩; refine ⟨_, rfl, ?_⟩; have n0_ := Aside0.mk (Kd.R_elder' (by (with_reducible repeat (first | apply Kd.R_alloc | apply Kd.R_drewN | apply Kd.R_drew)); exact HO_5.out) (Kd.R_base ho0) hb); have n1_ := Aside0.mk (Kd.R_elder' (by (with_reducible repeat (first | apply Kd.R_alloc | apply Kd.R_drewN | apply Kd.R_drew)); exact HO_8.out) (Kd.R_base ho0) hb); have n2_ := Aside0.mk (Kd.R_elder' (by (with_reducible repeat (first | apply Kd.R_alloc | apply Kd.R_drewN | apply Kd.R_drew)); exact HO_10.out) (Kd.R_base ho0) hb); have n3_ := Aside0.mk (Kd.R_elder' (by (with_reducible repeat (first | apply Kd.R_alloc | apply Kd.R_drewN | apply Kd.R_drew)); exact HO_12.out) (Kd.R_base ho0) hb); have n4_ := Aside0.mk (Kd.R_elder' (by (with_reducible repeat (first | apply Kd.R_alloc | apply Kd.R_drewN | apply Kd.R_drew)); exact HO197.out) (Kd.R_base ho0) hb); have n5_ := Aside0.mk (Kd.R_lower (Kd.R_new' (Kd.R_new' (Kd.R_new' (Kd.R_new' (Kd.R_new' ho0 (Kd.R_lt (by (with_reducible repeat (first | apply Kd.R_alloc | apply Kd.R_drewN | apply Kd.R_drew)); exact HO_5.out))) (Kd.R_lt (by (with_reducible repeat (first | apply Kd.R_alloc | apply Kd.R_drewN | apply Kd.R_drew)); exact HO_8.out))) (Kd.R_lt (by (with_reducible repeat (first | apply Kd.R_alloc | apply Kd.R_drewN | apply Kd.R_drew)); exact HO_10.out))) (Kd.R_lt (by (with_reducible repeat (first | apply Kd.R_alloc | apply Kd.R_drewN | apply Kd.R_drew)); exact HO_12.out))) (Kd.R_lt (by (with_reducible repeat (first | apply Kd.R_alloc | apply Kd.R_drewN | apply Kd.R_drew)); exact HO197.out))) (below_size (by repeat (first | (with_reducible first | exact HB.out | apply below_alloc | apply pw_below_drewN | apply below_drew1) | exact HB.out)))); have n6_ := Aside0.mk (Kd.C_below (by repeat (first | (with_reducible exact HR193.out) | (with_reducible refine Kd.C_alloc ?_ _) | (with_reducible refine Kd.C_drewN ?_ _) | (with_reducible refine Kd.C_drew ?_) | exact HR193.out)) hb); have n7_ := Aside0.mk (below_step (by repeat (first | (with_reducible first | exact HB.out | apply below_alloc | apply pw_below_drewN | apply below_drew1) | exact HB.out)) hb); clear HO_5; clear HO_8; clear HO_10; clear HO_12; clear HO197; clear HR193; clear HB; have HO_5 := n0_; have HO_8 := n1_; have HO_10 := n2_; have HO_12 := n3_; have HO197 := n4_; have HO201 := n5_; have HR193 := n6_; have HB := n7_; clear n0_ n1_ n2_ n3_ n4_ n5_ n6_ n7_; (try clear hb); (try clear hb2); (try clear hk); (try clear hi); (try clear ho0); obtain ⟨Ao78, co78, eo78⟩ := Kd.R_slice HO197.out; subst eo78; obtain ⟨Ao79, co79, eo79⟩ := Kd.R_slice HO201.out; subst eo79) | (go_at_call 19; (with_reducible refine (errataref15_Same.calls k3 _ _ t194 _ _ t198 true _ ?side1 ?side2 ?side3 ?side4 A69.out).mono ?_); (case side1 => repeat (first | exact (Kd.R_reads' HO197.out).2.2 | (with_reducible refine Kd.C_alloc ?_ _) | (with_reducible refine Kd.C_drewN ?_ _) | (with_reducible refine Kd.C_drew ?_))); (case side2 => exact (Kd.R_reads' HO197.out).2.1); (case side3 => repeat (first | exact (Kd.R_reads' HO201.out).2.2 | (with_reducible refine Kd.C_alloc ?_ _) | (with_reducible refine Kd.C_drewN ?_ _) | (with_reducible refine Kd.C_drew ?_))); (case side4 => exact (Kd.R_reads' HO201.out).2.1); rintro e w' ⟨rfl, ⟨nd, rfl⟩⟩; obtain ⟨Ao80, co80, eo80⟩ := Kd.R_slice HO_10.out; subst eo80; obtain ⟨Ao81, co81, eo81⟩ := Kd.R_slice HO_8.out; subst eo81) | (go_at_call 19; (with_reducible refine (errataref15_Same.calls k3 _ _ t167 _ _ t159 true _ ?side1 ?side2 ?side3 ?side4 A71.out).mono ?_); (case side1 => repeat (first | exact (Kd.R_reads' HO_10.out).2.2 | (with_reducible refine Kd.C_alloc ?_ _) | (with_reducible refine Kd.C_drewN ?_ _) | (with_reducible refine Kd.C_drew ?_))); (case side2 => exact (Kd.R_reads' HO_10.out).2.1); (case side3 => repeat (first | exact (Kd.R_reads' HO_8.out).2.2 | (with_reducible refine Kd.C_alloc ?_ _) | (with_reducible refine Kd.C_drewN ?_ _) | (with_reducible refine Kd.C_drew ?_))); (case side4 => exact (Kd.R_reads' HO_8.out).2.1); rintro e w' ⟨rfl, ⟨nd, rfl⟩⟩) | (go_at_call 21; (with_reducible refine (erratalaw15_awake.calls t204 _ (HTab.out.stays (by repeat (first | (with_reducible first | exact HB.out | apply below_alloc | apply pw_below_drewN | apply below_drew1) | exact HB.out))) A73.out).mono ?_); rintro e w82 ⟨rfl, hb⟩; have n0_ := Aside0.mk (Kd.R_below (by (with_reducible repeat (first | apply Kd.R_alloc | apply Kd.R_drewN | apply Kd.R_drew)); exact HO_5.out) hb); have n1_ := Aside0.mk (Kd.R_below (by (with_reducible repeat (first | apply Kd.R_alloc | apply Kd.R_drewN | apply Kd.R_drew)); exact HO_8.out) hb); have n2_ := Aside0.mk (Kd.R_below (by (with_reducible repeat (first | apply Kd.R_alloc | apply Kd.R_drewN | apply Kd.R_drew)); exact HO_10.out) hb); have n3_ := Aside0.mk (Kd.R_below (by (with_reducible repeat (first | apply Kd.R_alloc | apply Kd.R_drewN | apply Kd.R_drew)); exact HO_12.out) hb); have n4_ := Aside0.mk (Kd.R_below (by (with_reducible repeat (first | apply Kd.R_alloc | apply Kd.R_drewN | apply Kd.R_drew)); exact HO197.out) hb); have n5_ := Aside0.mk (Kd.R_below (by (with_reducible repeat (first | apply Kd.R_alloc | apply Kd.R_drewN | apply Kd.R_drew)); exact HO201.out) hb); have n6_ := Aside0.mk (Kd.C_below (by repeat (first | (with_reducible exact HR193.out) | (with_reducible refine Kd.C_alloc ?_ _) | (with_reducible refine Kd.C_drewN ?_ _) | (with_reducible refine Kd.C_drew ?_) | exact HR193.out)) hb); have n7_ := Aside0.mk (below_step (by repeat (first | (with_reducible first | exact HB.out | apply below_alloc | apply pw_below_drewN | apply below_drew1) | exact HB.out)) hb); clear HO_5; clear HO_8; clear HO_10; clear HO_12; clear HO197; clear HO201; clear HR193; clear HB; have HO_5 := n0_; have HO_8 := n1_; have HO_10 := n2_; have HO_12 := n3_; have HO197 := n4_; have HO201 := n5_; have HR193 := n6_; have HB := n7_; clear n0_ n1_ n2_ n3_ n4_ n5_ n6_ n7_; (try clear hb); (try clear hb2); (try clear hk); (try clear hi)))
                                      go_ret
                                      exact ⟨by first | rfl | (simp [errW_none, errW_some] <;> rfl) | (simp [*, errW_none, errW_some] <;> rfl), by repeat (first | (with_reducible first | exact HB.out | apply below_alloc | apply pw_below_drewN | apply below_drew1) | exact HB.out)⟩
                                    · replace c72 := Bool.eq_false_iff.mpr c72
                                      subst c72
                                      have H1 : (some false) = some r := by rw [if_neg (show ¬ (false = true) by decide)] at H; exact H
                                      clear H
                                      have H := H1
                                      clear H1
                                      obtain rfl := Option.some.inj H
                                      have q83 : ((l0.length : Int) : Int) ≤ ((x5_3.length : Int) : Int) := of_decide_eq_true (by first | (with_reducible assumption) | assumption)
                                      obtain ⟨i083, hi083, _, hsz83, _⟩ := info_parts info9
                                      have hroom83 : x5_3.length ≤ co18 := (Kd.R_reads' HO_5.out).2.1
                                      have hC83 : Kd.C Kd.string _ Ao18 x5_3.length x5_3 := (Kd.R_reads' HO_5.out).2.2
                                      have hcut83 := cut_to (P := Tryz.prog) 32 9 .i64 Tryz.underlying32 hi083 Ao18 x5_3.length co18 (l0.length : Int) (of_decide_eq_true (by first | (with_reducible assumption) | assumption)) q83 hroom83
                                      have hr83 := Kd.C_take (m := ((l0.length : Int) : Int).toNat) hC83 (by omega)
                                      have hy83 : y190.length = ((l0.length : Int) : Int).toNat := (by rw [Ny190.out, List.length_take]; omega)
                                      rw [← Ny190.out] at hr83
                                      rw [← hy83] at hcut83
                                      have HR193 := Aside0.mk hr83
                                      have HC193 := Aside0.mk (show y190.length ≤ co18 from by omega)
                                      clear hr83 hC83 hroom83 hi083 hsz83
                                      have KY83 := Aside0.mk hy83
                                      clear hy83
                                      have KL83 := Aside0.mk (show ((l0.length : Int) : Int).toNat ≤ x5_3.length from by omega)
                                      replace q83 := eq_true q83
                                      go_wp2_with (first | ((with_reducible refine gate_callee (f := 17) rfl ?_); refine goesL_ (some 116) rfl rfl Tryz.func17 (by kernel_rfl) rfl #[.slice Ao18 y190.length co18, .int .i64 a1] rfl (by (try simp only [List.map_toArray, List.map_cons, List.map_nil]); first | done | rfl | (simp only [List.length_drop, List.length_take]; rfl)) ?_; (with_reducible refine (lines_Fit.calls _ _ y190 a1 t194 t195 _ ?side1 ?side2 A66.out).mono ?_); (case side1 => repeat (first | exact (by repeat (first | (with_reducible exact HR193.out) | (with_reducible refine Kd.C_alloc ?_ _) | (with_reducible refine Kd.C_drewN ?_ _) | (with_reducible refine Kd.C_drew ?_) | exact HR193.out)) | (with_reducible refine Kd.C_alloc ?_ _) | (with_reducible refine Kd.C_drewN ?_ _) | (with_reducible refine Kd.C_drew ?_))); (case side2 => exact HC193.out); rintro e w84 ⟨v196, rfl, ho0, hb⟩; refine ⟨_, rfl, ?_⟩; have n0_ := Aside0.mk (Kd.R_elder' (by (with_reducible repeat (first | apply Kd.R_alloc | apply Kd.R_drewN | apply Kd.R_drew)); exact HO_5.out) (Kd.R_base ho0) hb); have n1_ := Aside0.mk (Kd.R_elder' (by (with_reducible repeat (first | apply Kd.R_alloc | apply Kd.R_drewN | apply Kd.R_drew)); exact HO_8.out) (Kd.R_base ho0) hb); have n2_ := Aside0.mk (Kd.R_elder' (by (with_reducible repeat (first | apply Kd.R_alloc | apply Kd.R_drewN | apply Kd.R_drew)); exact HO_10.out) (Kd.R_base ho0) hb); have n3_ := Aside0.mk (Kd.R_elder' (by (with_reducible repeat (first | apply Kd.R_alloc | apply Kd.R_drewN | apply Kd.R_drew)); exact HO_12.out) (Kd.R_base ho0) hb); have n4_ := Aside0.mk (Kd.R_lower (Kd.R_new' (Kd.R_new' (Kd.R_new' (Kd.R_new' ho0 (Kd.R_lt (by (with_reducible repeat (first | apply Kd.R_alloc | apply Kd.R_drewN | apply Kd.R_drew)); exact HO_5.out))) (Kd.R_lt (by (with_reducible repeat (first | apply Kd.R_alloc | apply Kd.R_drewN | apply Kd.R_drew)); exact HO_8.out))) (Kd.R_lt (by (with_reducible repeat (first | apply Kd.R_alloc | apply Kd.R_drewN | apply Kd.R_drew)); exact HO_10.out))) (Kd.R_lt (by (with_reducible repeat (first | apply Kd.R_alloc | apply Kd.R_drewN | apply Kd.R_drew)); exact HO_12.out))) (below_size (by repeat (first | (with_reducible first | exact HB.out | apply below_alloc | apply pw_below_drewN | apply below_drew1) | exact HB.out)))); have n5_ := Aside0.mk (Kd.C_below (by repeat (first | (with_reducible exact HR193.out) | (with_reducible refine Kd.C_alloc ?_ _) | (with_reducible refine Kd.C_drewN ?_ _) | (with_reducible refine Kd.C_drew ?_) | exact HR193.out)) hb); have n6_ := Aside0.mk (below_step (by repeat (first | (with_reducible first | exact HB.out | apply below_alloc | apply pw_below_drewN | apply below_drew1) | exact HB.out)) hb); clear HO_5; clear HO_8; clear HO_10; clear HO_12; clear HR193; clear HB; have HO_5 := n0_; have HO_8 := n1_; have HO_10 := n2_; have HO_12 := n3_; have HO197 := n4_; have HR193 := n5_; have HB := n6_; clear n0_ n1_ n2_ n3_ n4_ n5_ n6_; (try clear hb); (try clear hb2); (try clear hk); (try clear hi); (try clear ho0); obtain ⟨Ao85, co85, eo85⟩ := Kd.R_slice HO_12.out; subst eo85) | ((with_reducible refine gate_callee (f := 18) rfl ?_); refine goesL_ (some 122) rfl rfl Tryz.func18 (by kernel_rfl) rfl #[.slice Ao85 x12_3.length co85, .int .i64 a1] rfl (by (try simp only [List.map_toArray, List.map_cons, List.map_nil]); first | done | rfl | (simp only [List.length_drop, List.length_take]; rfl)) ?_; (with_reducible refine (errataref15_Fit.calls k3 _ _ x12_3 a1 t198 t199 _ ?side1 ?side2 A67.out).mono ?_); (case side1 => repeat (first | exact (Kd.R_reads' HO_12.out).2.2 | (with_reducible refine Kd.C_alloc ?_ _) | (with_reducible refine Kd.C_drewN ?_ _) | (with_reducible refine Kd.C_drew ?_))); (case side2 => exact (Kd.R_reads' HO_12.out).2.1); rintro e w86 ⟨v200, rfl, ho0, hb⟩; refine ⟨_, rfl, ?_⟩; have n0_ := Aside0.mk (Kd.R_elder' (by (with_reducible repeat (first | apply Kd.R_alloc | apply Kd.R_drewN | apply Kd.R_drew)); exact HO_5.out) (Kd.R_base ho0) hb); have n1_ := Aside0.mk (Kd.R_elder' (by (with_reducible repeat (first | apply Kd.R_alloc | apply Kd.R_drewN | apply Kd.R_drew)); exact HO_8.out) (Kd.R_base ho0) hb); have n2_ := Aside0.mk (Kd.R_elder' (by (with_reducible repeat (first | apply Kd.R_alloc | apply Kd.R_drewN | apply Kd.R_drew)); exact HO_10.out) (Kd.R_base ho0) hb); have n3_ := Aside0.mk (Kd.R_elder' (by (with_reducible repeat (first | apply Kd.R_alloc | apply Kd.R_drewN | apply Kd.R_drew)); exact HO_12.out) (Kd.R_base ho0) hb); have n4_ := Aside0.mk (Kd.R_elder' (by (with_reducible repeat (first | apply Kd.R_alloc | apply Kd.R_drewN | apply Kd.R_drew)); exact HO197.out) (Kd.R_base ho0) hb); have n5_ := Aside0.mk (Kd.R_lower (Kd.R_new' (Kd.R_new' (Kd.R_new' (Kd.R_new' (Kd.R_new' ho0 (Kd.R_lt (by (with_reducible repeat (first | apply Kd.R_alloc | apply Kd.R_drewN | apply Kd.R_drew)); exact HO_5.out))) (Kd.R_lt (by (with_reducible repeat (first | apply Kd.R_alloc | apply Kd.R_drewN | apply Kd.R_drew)); exact HO_8.out))) (Kd.R_lt (by (with_reducible repeat (first | apply Kd.R_alloc | apply Kd.R_drewN | apply Kd.R_drew)); exact HO_10.out))) (Kd.R_lt (by (with_reducible repeat (first | apply Kd.R_alloc | apply Kd.R_drewN | apply Kd.R_drew)); exact HO_12.out))) (Kd.R_lt (by (with_reducible repeat (first | apply Kd.R_alloc | apply Kd.R_drewN | apply Kd.R_drew)); exact HO197.out))) (below_size (by repeat (first | (with_reducible first | exact HB.out | apply below_alloc | apply pw_below_drewN | apply below_drew1) | exact HB.out)))); have n6_ := Aside0.mk (Kd.C_below (by repeat (first | (with_reducible exact HR193.out) | (with_reducible refine Kd.C_alloc ?_ _) | (with_reducible refine Kd.C_drewN ?_ _) | (with_reducible refine Kd.C_drew ?_) | exact HR193.out)) hb); have n7_ := Aside0.mk (below_step (by repeat (first | (with_reducible first | exact HB.out | apply below_alloc | apply pw_below_drewN | apply below_drew1) | exact HB.out)) hb); clear HO_5; clear HO_8; clear HO_10; clear HO_12; clear HO197; clear HR193; clear HB; have HO_5 := n0_; have HO_8 := n1_; have HO_10 := n2_; have HO_12 := n3_; have HO197 := n4_; have HO201 := n5_; have HR193 := n6_; have HB := n7_; clear n0_ n1_ n2_ n3_ n4_ n5_ n6_ n7_; (try clear hb); (try clear hb2); (try clear hk); (try clear hi); (try clear ho0); obtain ⟨Ao87, co87, eo87⟩ := Kd.R_slice HO197.out; subst eo87; obtain ⟨Ao88, co88, eo88⟩ := Kd.R_slice HO201.out; subst eo88) | (go_at_call 19; (with_reducible refine (errataref15_Same.calls k3 _ _ t194 _ _ t198 true _ ?side1 ?side2 ?side3 ?side4 A69.out).mono ?_); (case side1 => repeat (first | exact (Kd.R_reads' HO197.out).2.2 | (with_reducible refine Kd.C_alloc ?_ _) | (with_reducible refine Kd.C_drewN ?_ _) | (with_reducible refine Kd.C_drew ?_))); (case side2 => exact (Kd.R_reads' HO197.out).2.1); (case side3 => repeat (first | exact (Kd.R_reads' HO201.out).2.2 | (with_reducible refine Kd.C_alloc ?_ _) | (with_reducible refine Kd.C_drewN ?_ _) | (with_reducible refine Kd.C_drew ?_))); (case side4 => exact (Kd.R_reads' HO201.out).2.1); rintro e w' ⟨rfl, ⟨nd, rfl⟩⟩; obtain ⟨Ao89, co89, eo89⟩ := Kd.R_slice HO_10.out; subst eo89; obtain ⟨Ao90, co90, eo90⟩ := Kd.R_slice HO_8.out; subst eo90) | (go_at_call 19; (with_reducible refine (errataref15_Same.calls k3 _ _ t167 _ _ t159 false _ ?side1 ?side2 ?side3 ?side4 A71.out).mono ?_); (case side1 => repeat (first | exact (Kd.R_reads' HO_10.out).2.2 | (with_reducible refine Kd.C_alloc ?_ _) | (with_reducible refine Kd.C_drewN ?_ _) | (with_reducible refine Kd.C_drew ?_))); (case side2 => exact (Kd.R_reads' HO_10.out).2.1); (case side3 => repeat (first | exact (Kd.R_reads' HO_8.out).2.2 | (with_reducible refine Kd.C_alloc ?_ _) | (with_reducible refine Kd.C_drewN ?_ _) | (with_reducible refine Kd.C_drew ?_))); (case side4 => exact (Kd.R_reads' HO_8.out).2.1); rintro e w' ⟨rfl, ⟨nd, rfl⟩⟩))
                                      go_ret
                                      exact ⟨by first | rfl | (simp [errW_none, errW_some] <;> rfl) | (simp [*, errW_none, errW_some] <;> rfl), by repeat (first | (with_reducible first | exact HB.out | apply below_alloc | apply pw_below_drewN | apply below_drew1) | exact HB.out)⟩
                                  · replace c70 := Bool.eq_false_iff.mpr c70
                                    subst c70
                                    have H1 : (some false) = some r := by rw [if_neg (show ¬ (false = true) by decide)] at H; exact H
                                    clear H
                                    have H := H1
                                    clear H1
                                    obtain rfl := Option.some.inj H
                                    have q91 : ((l0.length : Int) : Int) ≤ ((x5_3.length : Int) : Int) := of_decide_eq_true (by first | (with_reducible assumption) | assumption)
                                    obtain ⟨i091, hi091, _, hsz91, _⟩ := info_parts info9
                                    have hroom91 : x5_3.length ≤ co18 := (Kd.R_reads' HO_5.out).2.1
                                    have hC91 : Kd.C Kd.string _ Ao18 x5_3.length x5_3 := (Kd.R_reads' HO_5.out).2.2
                                    have hcut91 := cut_to (P := Tryz.prog) 32 9 .i64 Tryz.underlying32 hi091 Ao18 x5_3.length co18 (l0.length : Int) (of_decide_eq_true (by first | (with_reducible assumption) | assumption)) q91 hroom91
                                    have hr91 := Kd.C_take (m := ((l0.length : Int) : Int).toNat) hC91 (by omega)
                                    have hy91 : y190.length = ((l0.length : Int) : Int).toNat := (by rw [Ny190.out, List.length_take]; omega)
                                    rw [← Ny190.out] at hr91
                                    rw [← hy91] at hcut91
                                    have HR193 := Aside0.mk hr91
                                    have HC193 := Aside0.mk (show y190.length ≤ co18 from by omega)
                                    clear hr91 hC91 hroom91 hi091 hsz91
                                    have KY91 := Aside0.mk hy91
                                    clear hy91
                                    have KL91 := Aside0.mk (show ((l0.length : Int) : Int).toNat ≤ x5_3.length from by omega)
                                    replace q91 := eq_true q91
                                    go_wp2_with (first | ((with_reducible refine gate_callee (f := 17) rfl ?_); refine goesL_ (some 116) rfl rfl Tryz.func17 (by kernel_rfl) rfl #[.slice Ao18 y190.length co18, .int .i64 a1] rfl (by (try simp only [List.map_toArray, List.map_cons, List.map_nil]); first | done | rfl | (simp only [List.length_drop, List.length_take]; rfl)) ?_; (with_reducible refine (lines_Fit.calls _ _ y190 a1 t194 t195 _ ?side1 ?side2 A66.out).mono ?_); (case side1 => repeat (first | exact (by repeat (first | (with_reducible exact HR193.out) | (with_reducible refine Kd.C_alloc ?_ _) | (with_reducible refine Kd.C_drewN ?_ _) | (with_reducible refine Kd.C_drew ?_) | exact HR193.out)) | (with_reducible refine Kd.C_alloc ?_ _) | (with_reducible refine Kd.C_drewN ?_ _) | (with_reducible refine Kd.C_drew ?_))); (case side2 => exact HC193.out); rintro e w92 ⟨v196, rfl, ho0, hb⟩; refine ⟨_, rfl, ?_⟩; have n0_ := Aside0.mk (Kd.R_elder' (by (with_reducible repeat (first | apply Kd.R_alloc | apply Kd.R_drewN | apply Kd.R_drew)); exact HO_5.out) (Kd.R_base ho0) hb); have n1_ := Aside0.mk (Kd.R_elder' (by (with_reducible repeat (first | apply Kd.R_alloc | apply Kd.R_drewN | apply Kd.R_drew)); exact HO_8.out) (Kd.R_base ho0) hb); have n2_ := Aside0.mk (Kd.R_elder' (by (with_reducible repeat (first | apply Kd.R_alloc | apply Kd.R_drewN | apply Kd.R_drew)); exact HO_10.out) (Kd.R_base ho0) hb); have n3_ := Aside0.mk (Kd.R_elder' (by (with_reducible repeat (first | apply Kd.R_alloc | apply Kd.R_drewN | apply Kd.R_drew)); exact HO_12.out) (Kd.R_base ho0) hb); have n4_ := Aside0.mk (Kd.R_lower (Kd.R_new' (Kd.R_new' (Kd.R_new' (Kd.R_new' ho0 (Kd.R_lt (by (with_reducible repeat (first | apply Kd.R_alloc | apply Kd.R_drewN | apply Kd.R_drew)); exact HO_5.out))) (Kd.R_lt (by (with_reducible repeat (first | apply Kd.R_alloc | apply Kd.R_drewN | apply Kd.R_drew)); exact HO_8.out))) (Kd.R_lt (by (with_reducible repeat (first | apply Kd.R_alloc | apply Kd.R_drewN | apply Kd.R_drew)); exact HO_10.out))) (Kd.R_lt (by (with_reducible repeat (first | apply Kd.R_alloc | apply Kd.R_drewN | apply Kd.R_drew)); exact HO_12.out))) (below_size (by repeat (first | (with_reducible first | exact HB.out | apply below_alloc | apply pw_below_drewN | apply below_drew1) | exact HB.out)))); have n5_ := Aside0.mk (Kd.C_below (by repeat (first | (with_reducible exact HR193.out) | (with_reducible refine Kd.C_alloc ?_ _) | (with_reducible refine Kd.C_drewN ?_ _) | (with_reducible refine Kd.C_drew ?_) | exact HR193.out)) hb); have n6_ := Aside0.mk (below_step (by repeat (first | (with_reducible first | exact HB.out | apply below_alloc | apply pw_below_drewN | apply below_drew1) | exact HB.out)) hb); clear HO_5; clear HO_8; clear HO_10; clear HO_12; clear HR193; clear HB; have HO_5 := n0_; have HO_8 := n1_; have HO_10 := n2_; have HO_12 := n3_; have HO197 := n4_; have HR193 := n5_; have HB := n6_; clear n0_ n1_ n2_ n3_ n4_ n5_ n6_; (try clear hb); (try clear hb2); (try clear hk); (try clear hi); (try clear ho0); obtain ⟨Ao93, co93, eo93⟩ := Kd.R_slice HO_12.out; subst eo93) | ((with_reducible refine gate_callee (f := 18) rfl ?_); refine goesL_ (some 122) rfl rfl Tryz.func18 (by kernel_rfl) rfl #[.slice Ao93 x12_3.length co93, .int .i64 a1] rfl (by (try simp only [List.map_toArray, List.map_cons, List.map_nil]); first | done | rfl | (simp only [List.length_drop, List.length_take]; rfl)) ?_; (with_reducible refine (errataref15_Fit.calls k3 _ _ x12_3 a1 t198 t199 _ ?side1 ?side2 A67.out).mono ?_); (case side1 => repeat (first | exact (Kd.R_reads' HO_12.out).2.2 | (with_reducible refine Kd.C_alloc ?_ _) | (with_reducible refine Kd.C_drewN ?_ _) | (with_reducible refine Kd.C_drew ?_))); (case side2 => exact (Kd.R_reads' HO_12.out).2.1); rintro e w94 ⟨v200, rfl, ho0, hb⟩; refine ⟨_, rfl, ?_⟩; have n0_ := Aside0.mk (Kd.R_elder' (by (with_reducible repeat (first | apply Kd.R_alloc | apply Kd.R_drewN | apply Kd.R_drew)); exact HO_5.out) (Kd.R_base ho0) hb); have n1_ := Aside0.mk (Kd.R_elder' (by (with_reducible repeat (first | apply Kd.R_alloc | apply Kd.R_drewN | apply Kd.R_drew)); exact HO_8.out) (Kd.R_base ho0) hb); have n2_ := Aside0.mk (Kd.R_elder' (by (with_reducible repeat (first | apply Kd.R_alloc | apply Kd.R_drewN | apply Kd.R_drew)); exact HO_10.out) (Kd.R_base ho0) hb); have n3_ := Aside0.mk (Kd.R_elder' (by (with_reducible repeat (first | apply Kd.R_alloc | apply Kd.R_drewN | apply Kd.R_drew)); exact HO_12.out) (Kd.R_base ho0) hb); have n4_ := Aside0.mk (Kd.R_elder' (by (with_reducible repeat (first | apply Kd.R_alloc | apply Kd.R_drewN | apply Kd.R_drew)); exact HO197.out) (Kd.R_base ho0) hb); have n5_ := Aside0.mk (Kd.R_lower (Kd.R_new' (Kd.R_new' (Kd.R_new' (Kd.R_new' (Kd.R_new' ho0 (Kd.R_lt (by (with_reducible repeat (first | apply Kd.R_alloc | apply Kd.R_drewN | apply Kd.R_drew)); exact HO_5.out))) (Kd.R_lt (by (with_reducible repeat (first | apply Kd.R_alloc | apply Kd.R_drewN | apply Kd.R_drew)); exact HO_8.out))) (Kd.R_lt (by (with_reducible repeat (first | apply Kd.R_alloc | apply Kd.R_drewN | apply Kd.R_drew)); exact HO_10.out))) (Kd.R_lt (by (with_reducible repeat (first | apply Kd.R_alloc | apply Kd.R_drewN | apply Kd.R_drew)); exact HO_12.out))) (Kd.R_lt (by (with_reducible repeat (first | apply Kd.R_alloc | apply Kd.R_drewN | apply Kd.R_drew)); exact HO197.out))) (below_size (by repeat (first | (with_reducible first | exact HB.out | apply below_alloc | apply pw_below_drewN | apply below_drew1) | exact HB.out)))); have n6_ := Aside0.mk (Kd.C_below (by repeat (first | (with_reducible exact HR193.out) | (with_reducible refine Kd.C_alloc ?_ _) | (with_reducible refine Kd.C_drewN ?_ _) | (with_reducible refine Kd.C_drew ?_) | exact HR193.out)) hb); have n7_ := Aside0.mk (below_step (by repeat (first | (with_reducible first | exact HB.out | apply below_alloc | apply pw_below_drewN | apply below_drew1) | exact HB.out)) hb); clear HO_5; clear HO_8; clear HO_10; clear HO_12; clear HO197; clear HR193; clear HB; have HO_5 := n0_; have HO_8 := n1_; have HO_10 := n2_; have HO_12 := n3_; have HO197 := n4_; have HO201 := n5_; have HR193 := n6_; have HB := n7_; clear n0_ n1_ n2_ n3_ n4_ n5_ n6_ n7_; (try clear hb); (try clear hb2); (try clear hk); (try clear hi); (try clear ho0); obtain ⟨Ao95, co95, eo95⟩ := Kd.R_slice HO197.out; subst eo95; obtain ⟨Ao96, co96, eo96⟩ := Kd.R_slice HO201.out; subst eo96) | (go_at_call 19; (with_reducible refine (errataref15_Same.calls k3 _ _ t194 _ _ t198 false _ ?side1 ?side2 ?side3 ?side4 A69.out).mono ?_); (case side1 => repeat (first | exact (Kd.R_reads' HO197.out).2.2 | (with_reducible refine Kd.C_alloc ?_ _) | (with_reducible refine Kd.C_drewN ?_ _) | (with_reducible refine Kd.C_drew ?_))); (case side2 => exact (Kd.R_reads' HO197.out).2.1); (case side3 => repeat (first | exact (Kd.R_reads' HO201.out).2.2 | (with_reducible refine Kd.C_alloc ?_ _) | (with_reducible refine Kd.C_drewN ?_ _) | (with_reducible refine Kd.C_drew ?_))); (case side4 => exact (Kd.R_reads' HO201.out).2.1); rintro e w' ⟨rfl, ⟨nd, rfl⟩⟩))
                                    go_ret
                                    exact ⟨by first | rfl | (simp [errW_none, errW_some] <;> rfl) | (simp [*, errW_none, errW_some] <;> rfl), by repeat (first | (with_reducible first | exact HB.out | apply below_alloc | apply pw_below_drewN | apply below_drew1) | exact HB.out)⟩
                                · rw [if_neg c68] at H
                                  have c68b0 : (t195 == t199) = false := beq_eq_false_iff_ne.mpr c68
                                  have c68b1 : (t195 != t199) = true := bne_iff_ne.mpr c68
                                  obtain rfl := Option.some.inj H
                                  have q97 : ((l0.length : Int) : Int) ≤ ((x5_3.length : Int) : Int) := of_decide_eq_true (by first | (with_reducible assumption) | assumption)
                                  obtain ⟨i097, hi097, _, hsz97, _⟩ := info_parts info9
                                  have hroom97 : x5_3.length ≤ co18 := (Kd.R_reads' HO_5.out).2.1
                                  have hC97 : Kd.C Kd.string _ Ao18 x5_3.length x5_3 := (Kd.R_reads' HO_5.out).2.2
                                  have hcut97 := cut_to (P := Tryz.prog) 32 9 .i64 Tryz.underlying32 hi097 Ao18 x5_3.length co18 (l0.length : Int) (of_decide_eq_true (by first | (with_reducible assumption) | assumption)) q97 hroom97
                                  have hr97 := Kd.C_take (m := ((l0.length : Int) : Int).toNat) hC97 (by omega)
                                  have hy97 : y190.length = ((l0.length : Int) : Int).toNat := (by rw [Ny190.out, List.length_take]; omega)
                                  rw [← Ny190.out] at hr97
                                  rw [← hy97] at hcut97
                                  have HR193 := Aside0.mk hr97
                                  have HC193 := Aside0.mk (show y190.length ≤ co18 from by omega)
                                  clear hr97 hC97 hroom97 hi097 hsz97
                                  have KY97 := Aside0.mk hy97
                                  clear hy97
                                  have KL97 := Aside0.mk (show ((l0.length : Int) : Int).toNat ≤ x5_3.length from by omega)
                                  replace q97 := eq_true q97
                                  go_wp2_with (first | ((with_reducible refine gate_callee (f := 17) rfl ?_); refine goesL_ (some 116) rfl rfl Tryz.func17 (by kernel_rfl) rfl #[.slice Ao18 y190.length co18, .int .i64 a1] rfl (by (try simp only [List.map_toArray, List.map_cons, List.map_nil]); first | done | rfl | (simp only [List.length_drop, List.length_take]; rfl)) ?_; (with_reducible refine (lines_Fit.calls _ _ y190 a1 t194 t195 _ ?side1 ?side2 A66.out).mono ?_); (case side1 => repeat (first | exact (by repeat (first | (with_reducible exact HR193.out) | (with_reducible refine Kd.C_alloc ?_ _) | (with_reducible refine Kd.C_drewN ?_ _) | (with_reducible refine Kd.C_drew ?_) | exact HR193.out)) | (with_reducible refine Kd.C_alloc ?_ _) | (with_reducible refine Kd.C_drewN ?_ _) | (with_reducible refine Kd.C_drew ?_))); (case side2 => exact HC193.out); rintro e w98 ⟨v196, rfl, ho0, hb⟩; refine ⟨_, rfl, ?_⟩; have n0_ := Aside0.mk (Kd.R_elder' (by (with_reducible repeat (first | apply Kd.R_alloc | apply Kd.R_drewN | apply Kd.R_drew)); exact HO_5.out) (Kd.R_base ho0) hb); have n1_ := Aside0.mk (Kd.R_elder' (by (with_reducible repeat (first | apply Kd.R_alloc | apply Kd.R_drewN | apply Kd.R_drew)); exact HO_8.out) (Kd.R_base ho0) hb); have n2_ := Aside0.mk (Kd.R_elder' (by (with_reducible repeat (first | apply Kd.R_alloc | apply Kd.R_drewN | apply Kd.R_drew)); exact HO_10.out) (Kd.R_base ho0) hb); have n3_ := Aside0.mk (Kd.R_elder' (by (with_reducible repeat (first | apply Kd.R_alloc | apply Kd.R_drewN | apply Kd.R_drew)); exact HO_12.out) (Kd.R_base ho0) hb); have n4_ := Aside0.mk (Kd.R_lower (Kd.R_new' (Kd.R_new' (Kd.R_new' (Kd.R_new' ho0 (Kd.R_lt (by (with_reducible repeat (first | apply Kd.R_alloc | apply Kd.R_drewN | apply Kd.R_drew)); exact HO_5.out))) (Kd.R_lt (by (with_reducible repeat (first | apply Kd.R_alloc | apply Kd.R_drewN | apply Kd.R_drew)); exact HO_8.out))) (Kd.R_lt (by (with_reducible repeat (first | apply Kd.R_alloc | apply Kd.R_drewN | apply Kd.R_drew)); exact HO_10.out))) (Kd.R_lt (by (with_reducible repeat (first | apply Kd.R_alloc | apply Kd.R_drewN | apply Kd.R_drew)); exact HO_12.out))) (below_size (by repeat (first | (with_reducible first | exact HB.out | apply below_alloc | apply pw_below_drewN | apply below_drew1) | exact HB.out)))); have n5_ := Aside0.mk (Kd.C_below (by repeat (first | (with_reducible exact HR193.out) | (with_reducible refine Kd.C_alloc ?_ _) | (with_reducible refine Kd.C_drewN ?_ _) | (with_reducible refine Kd.C_drew ?_) | exact HR193.out)) hb); have n6_ := Aside0.mk (below_step (by repeat (first | (with_reducible first | exact HB.out | apply below_alloc | apply pw_below_drewN | apply below_drew1) | exact HB.out)) hb); clear HO_5; clear HO_8; clear HO_10; clear HO_12; clear HR193; clear HB; have HO_5 := n0_; have HO_8 := n1_; have HO_10 := n2_; have HO_12 := n3_; have HO197 := n4_; have HR193 := n5_; have HB := n6_; clear n0_ n1_ n2_ n3_ n4_ n5_ n6_; (try clear hb); (try clear hb2); (try clear hk); (try clear hi); (try clear ho0); obtain ⟨Ao99, co99, eo99⟩ := Kd.R_slice HO_12.out; subst eo99) | ((with_reducible refine gate_callee (f := 18) rfl ?_); refine goesL_ (some 122) rfl rfl Tryz.func18 (by kernel_rfl) rfl #[.slice Ao99 x12_3.length co99, .int .i64 a1] rfl (by (try simp only [List.map_toArray, List.map_cons, List.map_nil]); first | done | rfl | (simp only [List.length_drop, List.length_take]; rfl)) ?_; (with_reducible refine (errataref15_Fit.calls k3 _ _ x12_3 a1 t198 t199 _ ?side1 ?side2 A67.out).mono ?_); (case side1 => repeat (first | exact (Kd.R_reads' HO_12.out).2.2 | (with_reducible refine Kd.C_alloc ?_ _) | (with_reducible refine Kd.C_drewN ?_ _) | (with_reducible refine Kd.C_drew ?_))); (case side2 => exact (Kd.R_reads' HO_12.out).2.1); rintro e w100 ⟨v200, rfl, ho0, hb⟩; refine ⟨_, rfl, ?_⟩; have n0_ := Aside0.mk (Kd.R_elder' (by (with_reducible repeat (first | apply Kd.R_alloc | apply Kd.R_drewN | apply Kd.R_drew)); exact HO_5.out) (Kd.R_base ho0) hb); have n1_ := Aside0.mk (Kd.R_elder' (by (with_reducible repeat (first | apply Kd.R_alloc | apply Kd.R_drewN | apply Kd.R_drew)); exact HO_8.out) (Kd.R_base ho0) hb); have n2_ := Aside0.mk (Kd.R_elder' (by (with_reducible repeat (first | apply Kd.R_alloc | apply Kd.R_drewN | apply Kd.R_drew)); exact HO_10.out) (Kd.R_base ho0) hb); have n3_ := Aside0.mk (Kd.R_elder' (by (with_reducible repeat (first | apply Kd.R_alloc | apply Kd.R_drewN | apply Kd.R_drew)); exact HO_12.out) (Kd.R_base ho0) hb); have n4_ := Aside0.mk (Kd.R_elder' (by (with_reducible repeat (first | apply Kd.R_alloc | apply Kd.R_drewN | apply Kd.R_drew)); exact HO197.out) (Kd.R_base ho0) hb); have n5_ := Aside0.mk (Kd.R_lower (Kd.R_new' (Kd.R_new' (Kd.R_new' (Kd.R_new' (Kd.R_new' ho0 (Kd.R_lt (by (with_reducible repeat (first | apply Kd.R_alloc | apply Kd.R_drewN | apply Kd.R_drew)); exact HO_5.out))) (Kd.R_lt (by (with_reducible repeat (first | apply Kd.R_alloc | apply Kd.R_drewN | apply Kd.R_drew)); exact HO_8.out))) (Kd.R_lt (by (with_reducible repeat (first | apply Kd.R_alloc | apply Kd.R_drewN | apply Kd.R_drew)); exact HO_10.out))) (Kd.R_lt (by (with_reducible repeat (first | apply Kd.R_alloc | apply Kd.R_drewN | apply Kd.R_drew)); exact HO_12.out))) (Kd.R_lt (by (with_reducible repeat (first | apply Kd.R_alloc | apply Kd.R_drewN | apply Kd.R_drew)); exact HO197.out))) (below_size (by repeat (first | (with_reducible first | exact HB.out | apply below_alloc | apply pw_below_drewN | apply below_drew1) | exact HB.out)))); have n6_ := Aside0.mk (Kd.C_below (by repeat (first | (with_reducible exact HR193.out) | (with_reducible refine Kd.C_alloc ?_ _) | (with_reducible refine Kd.C_drewN ?_ _) | (with_reducible refine Kd.C_drew ?_) | exact HR193.out)) hb); have n7_ := Aside0.mk (below_step (by repeat (first | (with_reducible first | exact HB.out | apply below_alloc | apply pw_below_drewN | apply below_drew1) | exact HB.out)) hb); clear HO_5; clear HO_8; clear HO_10; clear HO_12; clear HO197; clear HR193; clear HB; have HO_5 := n0_; have HO_8 := n1_; have HO_10 := n2_; have HO_12 := n3_; have HO197 := n4_; have HO201 := n5_; have HR193 := n6_; have HB := n7_; clear n0_ n1_ n2_ n3_ n4_ n5_ n6_ n7_; (try clear hb); (try clear hb2); (try clear hk); (try clear hi); (try clear ho0)))
                                  go_ret
                                  exact ⟨by first | rfl | (simp [errW_none, errW_some] <;> rfl) | (simp [*, errW_none, errW_some] <;> rfl), by repeat (first | (with_reducible first | exact HB.out | apply below_alloc | apply pw_below_drewN | apply below_drew1) | exact HB.out)⟩
                              · rw [if_neg c65] at H
                                exact absurd H (by simp)
                            · rw [if_neg c64] at H
                              exact absurd H (by simp)
        · rw [if_neg c6] at H
          exact absurd H (by simp)
      · rw [if_neg c5] at H
        exact absurd H (by simp)
    · rw [if_neg c4] at H
      exact absurd H (by simp)
  · rw [if_neg c3] at H
    exact absurd H (by simp)

end Go.Proofs.YtimmafiodhncgaaGreatDoor.QF
