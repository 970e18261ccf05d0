/- SpecRef -/
import Derived.Test.YtimmafiodhncgaaGreatDoorM7
/- errataref04: has, bare. -/
set_option linter.unusedVariables false
set_option linter.unusedSimpArgs false
namespace Go.Proofs.YtimmafiodhncgaaGreatDoor.TW
open Go.RowKit Go.Shelf Go.Proofs.YtimmafiodhncgaaGreatDoorW.PrintWords Go.Proofs.YtimmafiodhncgaaGreatDoorW.PrintMore

theorem hasL_cons (b : UInt8) (l : List UInt8) (c : UInt8) : hasL (b :: l) c = (b == c || hasL l c) := by
  have := Lib.indexByte_ge l c
  unfold hasL
  rw [Lib.indexByte]
  by_cases h : b = c
  · subst h; simp
  · have hb : (b == c) = false := by simp [h]
    rw [hb]
    by_cases h1 : Lib.indexByte l c = -1
    · rw [h1]; simp
    · have h2 : (Lib.indexByte l c == -1) = false := by simp [h1]
      simp only [h2]
      simp
      omega
theorem has_loop (cnt : ByteArray) (c : UInt8) : ∀ (k i : Nat), i + k = cnt.size → i ≤ 1000 → cnt.size ≤ 1000 → QA.errataref04_has.l0 (k + 1) cnt c.toNat i = some (hasL (cnt.data.toList.drop i) c)
  | 0, i, h, _, _ => by
    have h1 : ¬ ((i : Int) < (cnt.size : Int)) := by omega
    have h2 : cnt.data.toList.drop i = [] := by
      rw [List.drop_eq_nil_iff]
      have : cnt.data.toList.length = cnt.size := by simp
      omega
    rw [h2]
    show (if (i : Int) < (cnt.size : Int) then _ else some false) = some (hasL [] c)
    rw [if_neg h1]
    rfl
  | k + 1, i, h, hi, hs => by
    have h1 : ((i : Int) < (cnt.size : Int)) := by omega
    have h0 : (0 : Int) ≤ (i : Int) := by omega
    have hl : i < cnt.data.toList.length := by
      have : cnt.data.toList.length = cnt.size := by simp
      omega
    have hb : bt cnt (i : Int) = ((cnt.data.toList[i]'hl).toNat : Int) := (bt_at cnt (i : Int) (by omega)).symm
    have ih := has_loop cnt c k (i + 1) (by omega) (by omega) hs
    have hw : wrap64 ((i : Int) + 1) = ((i + 1 : Nat) : Int) := by unfold wrap64; omega
    show (if (i : Int) < (cnt.size : Int) then (if (0 : Int) ≤ (i : Int) then (if bt cnt i = (c.toNat : Int) then some true else QA.errataref04_has.l0 (k + 1) cnt c.toNat (wrap64 ((i : Int) + 1))) else none) else some false) = _
    rw [if_pos h1, if_pos h0, hb, List.drop_eq_getElem_cons hl, hasL_cons, hw, ih]
    by_cases hc : cnt.data.toList[i]'hl = c
    · rw [hc, if_pos rfl]
      simp
    · rw [if_neg (fun h => hc (UInt8.toNat_inj.1 (by exact_mod_cast h)))]
      rw [show (cnt.data.toList[i]'hl == c) = false from by simpa using hc]
      simp
theorem refhas_calls (cnt : ByteArray) (c : UInt8) (hs : cnt.size ≤ 1000) (w : World) : Calls Tryz.prog 213 #[.string cnt, .int .u8 c.toNat] w fun e w' => e = .returned (.bool (hasL cnt.data.toList c)) ∧ ∃ m, w' = w.drewN m :=
  (QA.errataref04_has.calls (cnt.size + 1) cnt c.toNat _ w (has_loop cnt c cnt.size 0 (by omega) (by omega) hs)).mono fun e w' h => ⟨h.1, h.2.out⟩
theorem okB_split (cnt : List UInt8) (nl : Bool) (t : ByteArray) (n sm : Int) (re im : Nat) (fl : Bool) (mk : Int) (l : Nat) : okB cnt nl t n sm re im fl mk l =
    (((t.toList.isEmpty || hasL cnt 84) && (n == 0 || hasL cnt 78) && (sm == 0 || hasL cnt 83)) && ((((re : Int) == 0 || hasL cnt 82) && ((im : Int) == 0 || hasL cnt 77)) && ((!fl || hasL cnt 70) && (mk == 0 || hasL cnt 75) && ((l : Int) == 0 || hasL cnt 73) && (!nl || hasL cnt 48)))) := by
  unfold okB
  simp only [Bool.and_assoc]
set_option maxHeartbeats 8000000 in
set_option maxRecDepth 100000 in
theorem refbare_calls (k : Int) (nl : Bool) (t : ByteArray) (n sm : Int) (re im : Nat) (fl : Bool) (mk : Int) (A B : Option Addr) (l c l2 c2 : Nat) (cnt : ByteArray) (hs : cnt.size ≤ 1000) (w : World) :
    Calls Tryz.prog 171 #[spec k nl t n sm re im fl mk (.slice A l c) (.slice B l2 c2), .string cnt] w fun e w' => e = .returned (.bool (okB cnt.data.toList nl t n sm re im fl mk l)) ∧ Below w.heap.size w w' := by
  have hbits := bits_run
  have hbelow : ∀ o m, Below w.heap.size w ((w.alloc o).drewN m) := fun o m =>
    have hb0 : Below w.heap.size w (w.alloc o) := (Below.refl _ w).alloc (Nat.le_refl _) _
    hb0.trans ((Drawn0.below ⟨⟨m, rfl⟩⟩).mono hb0.size)
  have h84 : ∀ W, Calls Tryz.prog 213 #[.string cnt, .int .u8 84] W fun e w' => e = .returned (.bool (hasL cnt.data.toList 84)) ∧ ∃ m, w' = W.drewN m := fun W => refhas_calls cnt 84 hs W
  have h78 : ∀ W, Calls Tryz.prog 213 #[.string cnt, .int .u8 78] W fun e w' => e = .returned (.bool (hasL cnt.data.toList 78)) ∧ ∃ m, w' = W.drewN m := fun W => refhas_calls cnt 78 hs W
  have h83 : ∀ W, Calls Tryz.prog 213 #[.string cnt, .int .u8 83] W fun e w' => e = .returned (.bool (hasL cnt.data.toList 83)) ∧ ∃ m, w' = W.drewN m := fun W => refhas_calls cnt 83 hs W
  have h82 : ∀ W, Calls Tryz.prog 213 #[.string cnt, .int .u8 82] W fun e w' => e = .returned (.bool (hasL cnt.data.toList 82)) ∧ ∃ m, w' = W.drewN m := fun W => refhas_calls cnt 82 hs W
  have h77 : ∀ W, Calls Tryz.prog 213 #[.string cnt, .int .u8 77] W fun e w' => e = .returned (.bool (hasL cnt.data.toList 77)) ∧ ∃ m, w' = W.drewN m := fun W => refhas_calls cnt 77 hs W
  have h70 : ∀ W, Calls Tryz.prog 213 #[.string cnt, .int .u8 70] W fun e w' => e = .returned (.bool (hasL cnt.data.toList 70)) ∧ ∃ m, w' = W.drewN m := fun W => refhas_calls cnt 70 hs W
  have h75 : ∀ W, Calls Tryz.prog 213 #[.string cnt, .int .u8 75] W fun e w' => e = .returned (.bool (hasL cnt.data.toList 75)) ∧ ∃ m, w' = W.drewN m := fun W => refhas_calls cnt 75 hs W
  have h73 : ∀ W, Calls Tryz.prog 213 #[.string cnt, .int .u8 73] W fun e w' => e = .returned (.bool (hasL cnt.data.toList 73)) ∧ ∃ m, w' = W.drewN m := fun W => refhas_calls cnt 73 hs W
  have h48 : ∀ W, Calls Tryz.prog 213 #[.string cnt, .int .u8 48] W fun e w' => e = .returned (.bool (hasL cnt.data.toList 48)) ∧ ∃ m, w' = W.drewN m := fun W => refhas_calls cnt 48 hs W
  obtain ⟨eT, hT⟩ : ∃ b, hasL cnt.data.toList 84 = b := ⟨_, rfl⟩
  obtain ⟨eN, hN⟩ : ∃ b, hasL cnt.data.toList 78 = b := ⟨_, rfl⟩
  obtain ⟨eS, hS⟩ : ∃ b, hasL cnt.data.toList 83 = b := ⟨_, rfl⟩
  obtain ⟨eR, hR⟩ : ∃ b, hasL cnt.data.toList 82 = b := ⟨_, rfl⟩
  obtain ⟨eM, hM⟩ : ∃ b, hasL cnt.data.toList 77 = b := ⟨_, rfl⟩
  obtain ⟨eF, hF⟩ : ∃ b, hasL cnt.data.toList 70 = b := ⟨_, rfl⟩
  obtain ⟨eK, hK⟩ : ∃ b, hasL cnt.data.toList 75 = b := ⟨_, rfl⟩
  obtain ⟨eI, hI⟩ : ∃ b, hasL cnt.data.toList 73 = b := ⟨_, rfl⟩
  obtain ⟨eZ, hZ⟩ : ∃ b, hasL cnt.data.toList 48 = b := ⟨_, rfl⟩
  rw [hT] at h84
  rw [hN] at h78
  rw [hS] at h83
  rw [hR] at h82
  rw [hM] at h77
  rw [hF] at h70
  rw [hK] at h75
  rw [hI] at h73
  rw [hZ] at h48
  have HT := Aside0.mk hT
  have HN := Aside0.mk hN
  have HS := Aside0.mk hS
  have HR := Aside0.mk hR
  have HM := Aside0.mk hM
  have HF := Aside0.mk hF
  have HK := Aside0.mk hK
  have HI := Aside0.mk hI
  have HZ := Aside0.mk hZ
  clear hT hN hS hR hM hF hK hI hZ
  unfold spec
  go_enter Tryz.func171, Tryz.ntmps171
  go_upto_region 1 with (fail)
  go_cut [32] (fun v32 wc => ∃ m, v32 = .bool (!((t.toList.isEmpty || eT) && (n == 0 || eN) && (sm == 0 || eS))) ∧ wc = (w.alloc (.cells #[.int .u8 k, .bool nl, .string t, .int .i16 n, .int .i8 sm, .float .f64 re, .float .f64 im, .bool fl, .int .u32 mk, .slice A l c, .slice B l2 c2] 52)).drewN m)
  case first =>
    go_wp2_with (go_at_call 213; (first | (with_reducible refine (h84 _).mono ?_) | (with_reducible refine (h78 _).mono ?_) | (with_reducible refine (h83 _).mono ?_)); rintro e w' ⟨rfl, ⟨m, rfl⟩⟩)
    all_goals subst_vars
    all_goals go_meet
    all_goals
      first
      | (with_reducible refine ⟨_, ?_, rfl⟩)
      | (refine ⟨0, ?_, rfl⟩)
    all_goals
      refine congrArg Value.bool ?_
      first
      | (simp [*, bne]; done)
      | (simp_all [bne]; done)
  case rest =>
    clear h84 h78 h83
    obtain ⟨m, rfl, rfl⟩ := hcut
    cases hp : ((t.toList.isEmpty || eT) && (n == 0 || eN) && (sm == 0 || eS)) with
    | false =>
      go_wp2
      go_ret
      refine ⟨?_, hbelow _ _⟩
      rw [okB_split, HT.out, HN.out, HS.out, hp]; rfl
    | true =>
      have HP := Aside0.mk hp
      clear hp
      go_upto_region 3 with (fail)
      go_cut [52] (fun v52 wc => ∃ m, v52 = .bool (!(((re : Int) == 0 || eR) && ((im : Int) == 0 || eM))) ∧ wc = (w.alloc (.cells #[.int .u8 k, .bool nl, .string t, .int .i16 n, .int .i8 sm, .float .f64 re, .float .f64 im, .bool fl, .int .u32 mk, .slice A l c, .slice B l2 c2] 52)).drewN m)
      case first =>
        go_wp2_with (go_at_call 213; (first | (with_reducible refine (h82 _).mono ?_) | (with_reducible refine (h77 _).mono ?_)); rintro e w' ⟨rfl, ⟨m, rfl⟩⟩)
        all_goals subst_vars
        all_goals go_meet
        all_goals
          first
          | (with_reducible refine ⟨_, ?_, rfl⟩)
          | (refine ⟨_, ?_, rfl⟩)
        all_goals
          refine congrArg Value.bool ?_
          first
          | (simp [*, bne]; done)
          | (simp_all [bne]; done)
      case rest =>
        clear h82 h77
        obtain ⟨m2, rfl, rfl⟩ := hcut
        cases hp2 : (((re : Int) == 0 || eR) && ((im : Int) == 0 || eM)) with
        | false =>
          go_wp2
          go_ret
          refine ⟨?_, hbelow _ _⟩
          rw [okB_split, HR.out, HM.out, hp2]; simp
        | true =>
          have HP2 := Aside0.mk hp2
          clear hp2
          go_wp2_with (go_at_call 213; (first | (with_reducible refine (h70 _).mono ?_) | (with_reducible refine (h75 _).mono ?_) | (with_reducible refine (h73 _).mono ?_) | (with_reducible refine (h48 _).mono ?_)); rintro e w' ⟨rfl, ⟨m, rfl⟩⟩)
          all_goals subst_vars
          all_goals go_ret
          all_goals refine ⟨?_, hbelow _ _⟩
          all_goals
            refine congrArg (fun b => Ending.returned (Value.bool b)) ?_
            rw [okB_split, HT.out, HN.out, HS.out, HR.out, HM.out, HF.out, HK.out, HI.out, HZ.out, HP.out, HP2.out]
            first
            | (simp [*, bne]; done)
            | (simp_all [bne]; done)
end Go.Proofs.YtimmafiodhncgaaGreatDoor.TW
