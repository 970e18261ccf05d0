/- SpecRefCheck ItoaSeven -/
import Derived.Test.YtimmafiodhncgaaGreatDoorM10
import Derived.Deep.RegionHeld3
import Derived.BigQuiet
import Derived.Test.YtimmafiodhncgaaGreatDoorM9
section
/- errataref04.Check: the same verdict. -/
set_option linter.unusedVariables false
set_option linter.unusedSimpArgs false
namespace Go.Proofs.YtimmafiodhncgaaGreatDoor.TW
open Go.RowKit Go.Shelf Go.Proofs.YtimmafiodhncgaaGreatDoorW.PrintWords Go.Proofs.YtimmafiodhncgaaGreatDoorW.PrintMore

theorem fieldsL_size (k n : Int) : (⟨(fieldsL k n).toArray⟩ : ByteArray).size ≤ 1000 := by
  show (fieldsL k n).toArray.size ≤ 1000
  rw [List.size_toArray]
  unfold fieldsL
  split
  · unfold boxL; repeat' split
    all_goals simp
  · unfold tableL; split <;> simp
theorem refparts_calls (k : Int) (w : World) : Calls Tryz.prog 173 #[.int .u8 k] w fun e w' => e = .returned (.tuple #[.int .i64 0, .int .i64 (mostL k)]) ∧ Drawn0 w w' :=
  QA.errataref04_Parts.calls 1 k 0 (mostL k) w (by
    unfold QA.errataref04_Parts.f QA.errataref04_Parts.j0 mostL
    repeat' split
    all_goals simp_all)
theorem ownB_range {k : Int} {nl : Bool} {tl : Nat} {n : Int} {its : List ByteArray} (h : ¬ (1 ≤ k ∧ k ≤ 26)) : ownB k nl tl n its = false := by
  cases ho : ownB k nl tl n its with
  | false => rfl
  | true => have := own_kind ho; omega
theorem chk_bad {k : Int} {nl : Bool} {t : ByteArray} {n sm : Int} {re im : Nat} {fl : Bool} {mk : Int} {its : List ByteArray} {l2 : Nat} (h : ownB k nl t.size n its = false) : chk k nl t n sm re im fl mk its l2 = 40 := by
  simp [chk, goodB, h]
theorem addr_zero (ad : Addr) : ad.add 0 = ad := by unfold Addr.add; split <;> simp_all
theorem SpecAt.drewN {b : Nat} {k : Int} {nl : Bool} {t : ByteArray} {n sm : Int} {re im : Nat} {fl : Bool} {mk : Int} {it pa : Value} {W : World} (h : SpecAt b k nl t n sm re im fl mk it pa W) (m : Nat) : SpecAt b k nl t n sm re im fl mk it pa (W.drewN m) := h
theorem below_drewN {n : Nat} {w W : World} (h : Below n w W) (hn : n ≤ W.heap.size) (m : Nat) : Below n w (W.drewN m) := h.trans ((Drawn0.below ⟨⟨m, rfl⟩⟩).mono hn)
set_option maxHeartbeats 8000000 in
set_option maxRecDepth 100000 in
theorem refcheck_calls (k : Int) (nl : Bool) (t : ByteArray) (n sm : Int) (re im : Nat) (fl : Bool) (mk : Int) (A B : Option Addr) (l c l2 c2 : Nat) (its : List ByteArray) (w : World) (hl : its.length = l) (hC : Kd.string.C w A l its) (hlb : l ≤ 140737488355328) :
    Calls Tryz.prog 148 #[spec k nl t n sm re im fl mk (.slice A l c) (.slice B l2 c2)] w fun e w' => e = .returned (.int .i64 (chk k nl t n sm re im fl mk its l2)) ∧ Below w.heap.size w w' := by
  have hfields := fun W => fields_ref k nl t n sm re im fl mk A B l c l2 c2 W
  have hbare := fun cnt h W => refbare_calls k nl t n sm re im fl mk A B l c l2 c2 cnt h W
  have hparts := fun W => refparts_calls k W
  unfold spec at hfields hbare ⊢
  have hn := SpecAt.new w k nl t n sm re im fl mk (.slice A l c) (.slice B l2 c2)
  have hb0 : Below w.heap.size w (w.alloc (.cells #[.int .u8 k, .bool nl, .string t, .int .i16 n, .int .i8 sm, .float .f64 re, .float .f64 im, .bool fl, .int .u32 mk, .slice A l c, .slice B l2 c2] 52)) := (Below.refl _ w).alloc (Nat.le_refl _) _
  have S0 := Aside0.mk hn
  have B0 := Aside0.mk hb0
  have hbelow : ∀ m, Below w.heap.size w ((w.alloc (.cells #[.int .u8 k, .bool nl, .string t, .int .i16 n, .int .i8 sm, .float .f64 re, .float .f64 im, .bool fl, .int .u32 mk, .slice A l c, .slice B l2 c2] 52)).drewN m) := fun m => below_drewN hb0 hb0.size m
  clear hn hb0
  by_cases hk1 : k < 1
  · go_enter Tryz.func148, Tryz.ntmps148
    go_wp2
    go_quiet (fail)
    go_wp2
    go_ret
    exact ⟨by rw [chk_bad (ownB_range (by omega))]; rfl, hbelow _⟩
  · have hd1 : decide (k < (1 : Int)) = false := by simp; omega
    by_cases hk26 : 26 < k
    · go_enter Tryz.func148, Tryz.ntmps148
      go_wp2
      go_quiet (fail)
      go_wp2
      go_ret
      exact ⟨by rw [chk_bad (ownB_range (by omega))]; rfl, hbelow _⟩
    · have hd2 : decide ((26 : Int) < k) = false := by simp; omega
      by_cases ht : t.size ≤ 4096
      · have ht2 : decide ((4096 : Int) < (t.size : Int)) = false := by simp; omega
        by_cases hl6 : l ≤ 64
        · have hl2 : decide ((64 : Int) < (l : Int)) = false := by simp; omega
          go_enter Tryz.func148, Tryz.ntmps148
          have S1 := Aside0.mk (S0.out.drewN 1)
          have B1 := Aside0.mk (hbelow 1)
          clear S0 B0 hbelow
          go_wp2
          obtain ⟨c0, c1, c2', c3, c4, c5, c6, c7, c8, c9, c10⟩ := S1.out.cells
          go_region_held3 (fun V => V.cell? ⟨w.heap.size, 0, none⟩ = some (.int .u8 k) ∧ V.cell? ⟨w.heap.size, 1, none⟩ = some (.bool nl) ∧ V.cell? ⟨w.heap.size, 2, none⟩ = some (.string t) ∧ V.cell? ⟨w.heap.size, 3, none⟩ = some (.int .i16 n) ∧ V.cell? ⟨w.heap.size, 4, none⟩ = some (.int .i8 sm) ∧ V.cell? ⟨w.heap.size, 5, none⟩ = some (.float .f64 re) ∧ V.cell? ⟨w.heap.size, 6, none⟩ = some (.float .f64 im) ∧ V.cell? ⟨w.heap.size, 7, none⟩ = some (.bool fl) ∧ V.cell? ⟨w.heap.size, 8, none⟩ = some (.int .u32 mk) ∧ V.cell? ⟨w.heap.size, 9, none⟩ = some (.slice A l c) ∧ V.cell? ⟨w.heap.size, 10, none⟩ = some (.slice B l2 c2)) (first | exact ⟨c0, c1, c2', c3, c4, c5, c6, c7, c8, c9, c10⟩) (first | (go_at_call 172; (with_reducible refine (hfields _ (by omega) (by omega)).mono ?_); rintro e w2 ⟨rfl, h2⟩; have s2 := SpecAt.next S1.out h2; have b2 := Below.trans B1.out (h2.mono B1.out.size); clear c0 c1 c2' c3 c4 c5 c6 c7 c8 c9 c10; obtain ⟨c0, c1, c2', c3, c4, c5, c6, c7, c8, c9, c10⟩ := s2.cells) | (go_at_call 171; (with_reducible refine (hbare _ (fieldsL_size _ _) _).mono ?_); rintro e w3 ⟨rfl, h3⟩; have s3 := SpecAt.next s2 h3; have b3 := Below.trans b2 (h3.mono b2.size); clear c0 c1 c2' c3 c4 c5 c6 c7 c8 c9 c10; obtain ⟨c0, c1, c2', c3, c4, c5, c6, c7, c8, c9, c10⟩ := s3.cells))
          rename_i hheld
          clear hheld h2 h3 s2 b2
          have S3 := Aside0.mk s3
          have B3 := Aside0.mk b3
          clear s3 b3
          cases hk : okB (fieldsL k n) nl t n sm re im fl mk l with
          | false =>
            go_wp2
            go_ret
            exact ⟨by simp [chk, goodB, hk, hl], B3.out⟩
          | true =>
            have HK := Aside0.mk hk
            clear hk hfields
            go_wp2
            go_loopg [3] l (fun kq v3 wr => ∃ i : Nat, v3 = .int .i64 i ∧ i + kq = l ∧ wr = w3 ∧ Aside0 (its.take i |>.all (fun x => decide (x.size ≤ 4096))) )
            case atStart =>
              exact ⟨0, rfl, by omega, rfl, Aside0.mk (by simp)⟩
            case round =>
              obtain ⟨i, rfl, hik, rfl, HT⟩ := hrel
              by_cases hi : i < l
              · have hi2 : (i : Int) < (l : Int) := by omega
                obtain ⟨ad, rfl, hx⟩ := Kd.at_string (Kd.C_below hC B3.out) (i : Int) (by omega) hi2
                rw [show ((i : Int)).toNat = i from rfl, rd_get its i (by omega)] at hx
                by_cases hx4 : (its[i]'(by omega)).size ≤ 4096
                · have hx5 : ¬ (4096 : Int) < ((its[i]'(by omega)).size : Int) := by omega
                  have hwi : wrap64 ((i : Int) + 1) = ((i + 1 : Nat) : Int) := by unfold wrap64; omega
                  have hii : (0 ≤ (i : Int)) ∧ ((i : Int) < (l : Int)) := by omega
                  go_wp2
                  go_roundg (gk - 1)
                  case measure => omega
                  case rel => exact ⟨i + 1, by simp, by omega, rfl, Aside0.mk (by rw [List.take_add_one, List.all_append, HT.out]; simp [List.getElem?_eq_getElem (show i < its.length by omega), hx4])⟩
                · have hx5 : (4096 : Int) < ((its[i]'(by omega)).size : Int) := by omega
                  have hii : (0 ≤ (i : Int)) ∧ ((i : Int) < (l : Int)) := by omega
                  go_wp2
                  go_ret
                  refine ⟨?_, B3.out⟩
                  have : its.all (fun x => decide (x.size ≤ 4096)) = false := by
                    rw [List.all_eq_false]
                    exact ⟨_, List.getElem_mem (show i < its.length by omega), by simpa using hx4⟩
                  simp [chk, goodB, ht, this]
              · obtain rfl : i = l := by omega
                have hall : its.all (fun x => decide (x.size ≤ 4096)) = true := by
                  have := HT.out
                  rwa [List.take_of_length_le (by omega)] at this
                have HA := Aside0.mk hall
                clear hall HT
                go_upto_region 8 with (fail)
                go_cut [93] (fun v93 wc => ∃ m, v93 = .bool (!(ownB k nl t.size n its)) ∧ wc = wr.drewN m)
                case first =>
                  by_cases h5 : k = 5
                  · subst h5
                    by_cases ht4 : t.size = 4
                    · have g4 : ((t.size : Int) != 4) = false := by simp [bne, ht4]
                      go_wp2
                      all_goals (try subst_vars)
                      all_goals go_meet
                      all_goals exact ⟨0, congrArg Value.bool (by simp [ownB, *]), rfl⟩
                    · have g4 : ((t.size : Int) != 4) = true := by simp [bne]; omega
                      go_wp2
                      all_goals (try subst_vars)
                      all_goals go_meet
                      all_goals exact ⟨0, congrArg Value.bool (by simp [ownB, *]), rfl⟩
                  · have g5 : (k == 5) = false := by simp [h5]
                    by_cases h23 : k = 23
                    · subst h23
                      by_cases hn1 : n < 1
                      · have g1 : decide (n < (1 : Int)) = true := by simp [hn1]
                        go_wp2
                        all_goals (try subst_vars)
                        all_goals go_meet
                        all_goals exact ⟨0, congrArg Value.bool (by simp [ownB, *]), rfl⟩
                      · have g1 : decide (n < (1 : Int)) = false := by simp; omega
                        go_wp2
                        all_goals (try subst_vars)
                        all_goals go_meet
                        all_goals exact ⟨0, congrArg Value.bool (by simp [ownB, *]), rfl⟩
                    · have g23 : (k == 23) = false := by simp [h23]
                      by_cases h26 : k = 26
                      · subst h26
                        cases nl with
                        | true =>
                          go_wp2
                          all_goals (try subst_vars)
                          all_goals go_meet
                          all_goals exact ⟨0, congrArg Value.bool (by simp [ownB, *]), rfl⟩
                        | false =>
                          by_cases hl1 : i = 1
                          · subst hl1
                            obtain ⟨x, rfl⟩ : ∃ x, its = [x] := by
                              match its, hl with
                              | [x], _ => exact ⟨x, rfl⟩
                            obtain ⟨ad, rfl, hx⟩ := Kd.at_string (Kd.C_below hC B3.out) 0 (by omega) (by omega)
                            rw [show (0 : Int).toNat = 0 from rfl, show rdOf ByteArray.empty [x] 0 = x from rfl] at hx
                            have hz : ad.add 0 = ad := addr_zero ad
                            rw [hz] at hx
                            clear hz
                            go_wp2
                            all_goals (try subst_vars)
                            all_goals go_meet
                            all_goals exact ⟨0, congrArg Value.bool (by simp [ownB, *]), rfl⟩
                          · have gl : ((i : Int) != 1) = true := by simp [bne]; omega
                            go_wp2
                            all_goals (try subst_vars)
                            all_goals go_meet
                            all_goals exact ⟨0, congrArg Value.bool (by simp [ownB, *]), rfl⟩
                      · have g26 : (k == 26) = false := by simp [h26]
                        go_wp2
                        all_goals (try subst_vars)
                        all_goals go_meet
                        all_goals exact ⟨0, congrArg Value.bool (by simp [ownB, *]), rfl⟩
                case rest =>
                  obtain ⟨m, rfl, rfl⟩ := hcut
                  have s4 := S3.out.drewN m
                  have b4 := below_drewN B3.out B3.out.size m
                  clear c0 c1 c2' c3 c4 c5 c6 c7 c8 c9 c10 S3 B3
                  obtain ⟨w4, hw4⟩ : ∃ w4, wr.drewN m = w4 := ⟨_, rfl⟩
                  rw [hw4] at s4 b4 ⊢
                  obtain ⟨c0, c1, c2', c3, c4, c5, c6, c7, c8, c9, c10⟩ := s4.cells
                  have S4 := Aside0.mk s4
                  have B4 := Aside0.mk b4
                  clear s4 b4 hw4
                  cases ho : ownB k nl t.size n its with
                  | false =>
                    go_wp2
                    go_ret
                    exact ⟨by rw [chk_bad ho]; rfl, B4.out⟩
                  | true =>
                    have HO := Aside0.mk ho
                    clear ho
                    cases nl with
                    | false =>
                      go_wp2_with (go_at_call 173; (with_reducible refine (hparts _).mono ?_))
                      rintro e w5 ⟨rfl, d5⟩
                      have h5' := d5.below
                      have s5 := S4.out.next h5'
                      have b5 := B4.out.trans (h5'.mono B4.out.size)
                      clear c0 c1 c2' c3 c4 c5 c6 c7 c8 c9 c10 h5' S4 B4
                      obtain ⟨c0, c1, c2', c3, c4, c5, c6, c7, c8, c9, c10⟩ := s5.cells
                      have S5 := Aside0.mk s5
                      have B5 := Aside0.mk b5
                      clear s5 b5
                      by_cases hp : l2 ≤ mostL k
                      · have hp2 : ¬ (mostL k : Int) < (l2 : Int) := by omega
                        go_wp2
                        go_ret
                        exact ⟨by simp [chk, goodB, HO.out, ht, hl, HK.out, hl6, HA.out, hp], B5.out⟩
                      · have hp2 : (mostL k : Int) < (l2 : Int) := by omega
                        go_wp2
                        go_ret
                        exact ⟨by simp [chk, goodB, HO.out, ht, hl, HK.out, hl6, HA.out, hp], B5.out⟩
                    | true =>
                      by_cases h23 : k = 23
                      · subst h23
                        have hb2 := fun W => hbare ⟨#[48, 78]⟩ (by decide) W
                        rw [show (⟨#[48, 78]⟩ : ByteArray).data.toList = [48, 78] from rfl] at hb2
                        cases hk2 : okB [48, 78] true t n sm re im fl mk i with
                        | false =>
                          rw [hk2] at hb2
                          go_wp2_with (go_at_call 171; (with_reducible refine (hb2 _).mono ?_); rintro e w5 ⟨rfl, h5'⟩; have B5 := Aside0.mk (B4.out.trans (h5'.mono B4.out.size)))
                          go_ret
                          exact ⟨by simp [chk, goodB, HO.out, ht, hl, HK.out, hl6, HA.out, hk2], B5.out⟩
                        | true =>
                          rw [hk2] at hb2
                          go_wp2_with (go_at_call 171; (with_reducible refine (hb2 _).mono ?_); rintro e w6 ⟨rfl, h6'⟩; have s6 := S4.out.next h6'; have b6 := B4.out.trans (h6'.mono B4.out.size); clear c0 c1 c2' c3 c4 c5 c6 c7 c8 c9 c10 h6' S4 B4; obtain ⟨c0, c1, c2', c3, c4, c5, c6, c7, c8, c9, c10⟩ := s6.cells; have S6 := Aside0.mk s6; have B6 := Aside0.mk b6; clear s6 b6)
                          (with_reducible refine (hparts _).mono ?_)
                          rintro e w7 ⟨rfl, d7⟩
                          have h7' := d7.below
                          have s7 := S6.out.next h7'
                          have b7 := B6.out.trans (h7'.mono B6.out.size)
                          clear c0 c1 c2' c3 c4 c5 c6 c7 c8 c9 c10 h7' S6 B6
                          obtain ⟨c0, c1, c2', c3, c4, c5, c6, c7, c8, c9, c10⟩ := s7.cells
                          have S7 := Aside0.mk s7
                          have B7 := Aside0.mk b7
                          clear s7 b7
                          by_cases hp : l2 = 0
                          · subst hp
                            go_wp2
                            all_goals go_ret
                            all_goals exact ⟨by simp [chk, goodB, HO.out, ht, hl, HK.out, hl6, HA.out, hk2], B7.out⟩
                          · have hp2 : (0 : Int) < (l2 : Int) := by omega
                            go_wp2
                            all_goals go_ret
                            all_goals exact ⟨by simp [chk, goodB, HO.out, ht, hl, HK.out, hl6, HA.out, hk2, hp], B7.out⟩
                      · have g23 : (k == 23) = false := by simp [h23]
                        have g23' : (k != 23) = true := by simp [bne, h23]
                        have hb2 := fun W => hbare ⟨#[48]⟩ (by decide) W
                        rw [show (⟨#[48]⟩ : ByteArray).data.toList = [48] from rfl] at hb2
                        cases hk2 : okB [48] true t n sm re im fl mk i with
                        | false =>
                          rw [hk2] at hb2
                          go_wp2_with (go_at_call 171; (with_reducible refine (hb2 _).mono ?_); rintro e w5 ⟨rfl, h5'⟩; have B5 := Aside0.mk (B4.out.trans (h5'.mono B4.out.size)))
                          go_ret
                          exact ⟨by simp [chk, goodB, HO.out, ht, hl, HK.out, hl6, HA.out, hk2, h23], B5.out⟩
                        | true =>
                          rw [hk2] at hb2
                          go_wp2_with (go_at_call 171; (with_reducible refine (hb2 _).mono ?_); rintro e w6 ⟨rfl, h6'⟩; have s6 := S4.out.next h6'; have b6 := B4.out.trans (h6'.mono B4.out.size); clear c0 c1 c2' c3 c4 c5 c6 c7 c8 c9 c10 h6' S4 B4; obtain ⟨c0, c1, c2', c3, c4, c5, c6, c7, c8, c9, c10⟩ := s6.cells; have S6 := Aside0.mk s6; have B6 := Aside0.mk b6; clear s6 b6)
                          (with_reducible refine (hparts _).mono ?_)
                          rintro e w7 ⟨rfl, d7⟩
                          have h7' := d7.below
                          have s7 := S6.out.next h7'
                          have b7 := B6.out.trans (h7'.mono B6.out.size)
                          clear c0 c1 c2' c3 c4 c5 c6 c7 c8 c9 c10 h7' S6 B6
                          obtain ⟨c0, c1, c2', c3, c4, c5, c6, c7, c8, c9, c10⟩ := s7.cells
                          have S7 := Aside0.mk s7
                          have B7 := Aside0.mk b7
                          clear s7 b7
                          by_cases hp : l2 = 0
                          · subst hp
                            go_wp2
                            all_goals go_ret
                            all_goals exact ⟨by simp [chk, goodB, HO.out, ht, hl, HK.out, hl6, HA.out, hk2, h23], B7.out⟩
                          · have hp2 : (0 : Int) < (l2 : Int) := by omega
                            go_wp2
                            all_goals go_ret
                            all_goals exact ⟨by simp [chk, goodB, HO.out, ht, hl, HK.out, hl6, HA.out, hk2, h23, hp], B7.out⟩
        · have hl2 : (64 : Int) < (l : Int) := by omega
          go_enter Tryz.func148, Tryz.ntmps148
          go_wp2
          go_quiet (fail)
          go_wp2
          go_ret
          exact ⟨by simp [chk, goodB, hl, hl6], hbelow _⟩
      · have ht2 : (4096 : Int) < (t.size : Int) := by omega
        go_enter Tryz.func148, Tryz.ntmps148
        go_wp2
        go_quiet (fail)
        go_wp2
        go_ret
        exact ⟨by simp [chk, goodB, ht], hbelow _⟩
end Go.Proofs.YtimmafiodhncgaaGreatDoor.TW
end
section
/- strconv.Itoa(7). -/
set_option linter.unusedVariables false
set_option linter.unusedSimpArgs false
namespace Go.Proofs.YtimmafiodhncgaaGreatDoor.TK
open Go.RowKit Go.Shelf Go.Proofs.YtimmafiodhncgaaGreatDoorW.PrintWords Go.Proofs.YtimmafiodhncgaaGreatDoorW.PrintMore Go.Proofs.YtimmafiodhncgaaGreatDoor.TF Go.Proofs.YtimmafiodhncgaaGreatDoor.TW

theorem small_seven (w : World) : Calls Tryz.prog 192 #[.int .i64 7] w fun e w' => e = .returned (.string ⟨#[55]⟩) ∧ w' = w := by
  go_enter Tryz.func192, Tryz.ntmps192
  go_wp2
  go_ret
  exact ⟨by kernel_rfl, rfl⟩
theorem formatInt_seven (w : World) : Calls Tryz.prog 161 #[.int .i64 7, .int .i64 10] w fun e w' => e = .returned (.string ⟨#[55]⟩) ∧ w' = w := by
  go_enter Tryz.func161, Tryz.ntmps161
  go_wp2_with (go_at_call 192; (with_reducible refine (small_seven _).mono ?_); rintro e w' ⟨rfl, rfl⟩)
  go_ret
  exact ⟨by kernel_rfl, rfl⟩
theorem itoa_seven0 (w : World) : Calls Tryz.prog 133 #[.int .i64 7] w fun e w' => e = .returned (.string ⟨#[55]⟩) ∧ w' = w := by
  go_enter Tryz.func133, Tryz.ntmps133
  go_wp2_with (go_at_call 161; (with_reducible refine (formatInt_seven _).mono ?_); rintro e w' ⟨rfl, rfl⟩)
  go_ret
  exact ⟨by kernel_rfl, rfl⟩
theorem itoa_seven (w : World) : Calls Tryz.prog 83 #[.int .i64 7] w fun e w' => e = .returned (.string ⟨#[55]⟩) ∧ w' = w := by
  go_enter Tryz.func83, Tryz.ntmps83
  go_wp2_with (go_at_call 133; (with_reducible refine (itoa_seven0 _).mono ?_); rintro e w' ⟨rfl, rfl⟩)
  go_ret
  exact ⟨by kernel_rfl, rfl⟩
end Go.Proofs.YtimmafiodhncgaaGreatDoor.TK
end
