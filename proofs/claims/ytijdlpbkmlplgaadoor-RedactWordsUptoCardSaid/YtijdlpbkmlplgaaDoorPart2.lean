/- redact.part: the walk. -/
import Derived.Test.YtijdlpbkmlplgaaDoorPart
set_option linter.unusedVariables false
set_option linter.unusedSimpArgs false
namespace Go.Proofs.YtijdlpbkmlplgaaDoor.TB
open Go.RowKit Go.Shelf Go.Proofs.YtijdlpbkmlplgaaDoorW.PrintWords Go.Proofs.YtijdlpbkmlplgaaDoorW.PrintMore

theorem bl (s : ByteArray) : s.data.toList.length = s.size := by rw [Array.length_toList]; rfl
theorem builder_block {w : World} {B b : Nat} {bs : List Value} (h : Lib.IsBuilderF 55 5 B b bs w) : ∃ c, w.heap[b]? = some (.cells c 55 (0, 0)) := by
  rcases h with ⟨_, v, h, _⟩ | ⟨_, v, h, _⟩ <;> exact ⟨_, h⟩
set_option maxRecDepth 100000 in
set_option maxHeartbeats 2000000 in
theorem part_walk (s : ByteArray) (hs : s.size ≤ 1073741824) (w : World) :
    Calls Tryd.prog 21 #[.string s] w fun e w' => ∃ v, e = .returned (.tuple #[.string (ofL (cleanL false s.data.toList)), v]) ∧
      w'.ownsRow w.heap.size 9 1 v (secsB none s.data.toList).length ((secsB none s.data.toList).map Value.string) ∧ Below w.heap.size w w' := by
  obtain ⟨i0, hi, hz0, hz1, hz2⟩ := info_parts infoStr
  go_enter Tryd.func21, Tryd.ntmps21
  go_wp2
  go_step3
  go_wp2
  go_step3
  go_wp2
  obtain ⟨W0, hW0⟩ : ∃ W0, w.alloc (.cells #[.pointer none, .slice none 0 0] 55) = W0 := ⟨_, rfl⟩
  rw [hW0]
  have hb0 : Lib.IsBuilderF 55 5 w.heap.size w.heap.size [] W0 := .inl ⟨Nat.le_refl _, _, by rw [← hW0]; exact World.alloc_heap_new w _, World.ownsRowF_nil _ _ _ _, by simp [Value.ownBlock]⟩
  have hB0 : Below w.heap.size w W0 := by rw [← hW0]; exact (Below.refl _ w).alloc (Nat.le_refl _) _
  clear hW0
  go_loopg [0, 5] (s.size + 1) (fun kq v0 v5 wr => ∃ (rest bs : List UInt8) (secs : List ByteArray), v0 = .string (ofL rest) ∧ rest.length + 1 = kq ∧ rest.length ≤ s.size ∧ bs.length + rest.length ≤ s.size ∧ secs.length + rest.length ≤ s.size ∧
    Aside0 (Lib.IsBuilderF 55 5 w.heap.size w.heap.size (Lib.byteCells bs) wr) ∧ Aside0 (wr.ownsRow w.heap.size 9 1 v5 secs.length (secs.map Value.string)) ∧ Aside0 (Below w.heap.size w wr) ∧
    Aside0 (bs ++ cleanL false rest = cleanL false s.data.toList) ∧ Aside0 (secs ++ secsB none rest = secsB none s.data.toList))
  case atStart =>
    exact ⟨s.data.toList, [], [], by rw [ofL_data], by rw [Array.length_toList]; rfl, by rw [Array.length_toList]; exact Nat.le_refl _, by rw [bl]; simp, by rw [bl]; simp, Aside0.mk hb0, Aside0.mk (World.ownsRow_nil _ _ _ _), Aside0.mk hB0, Aside0.mk rfl, Aside0.mk rfl⟩
  case round =>
    clear hb0 hB0
    obtain ⟨rest, bs, secs, rfl, hkq, hr1, hr2, hr3, HB, HO, HW, HC, HS⟩ := hrel
    have hI : ∀ (l : List UInt8) (c : Int) (W : World), Calls Tryd.prog 33 #[.string (ofL l), .int .u8 c] W fun e w' => e = .returned (.int .i64 (Lib.indexByte l c.toNat.toUInt8)) ∧ w' = W := fun l c W => Tryd.strings_IndexByte (ofL l) c W
    have hg := Lib.indexByte_ge rest 14
    by_cases hk : Lib.indexByte rest 14 < 0
    · have h14 : ∀ W, Calls Tryd.prog 33 #[.string (ofL rest), .int .u8 14] W fun e w' => e = .returned (.int .i64 (-1)) ∧ w' = W := fun W => by
        have := hI rest 14 W
        rw [show Lib.indexByte rest (14 : Int).toNat.toUInt8 = -1 from by show Lib.indexByte rest 14 = -1; omega] at this
        exact this
      obtain ⟨c1, c2⟩ := out_none rest hk
      clear hI hk hg
      have hBs := HW.out.size
      go_wp2_with (go_at_call 33; (with_reducible refine (h14 _).mono ?_); rintro e w' ⟨rfl, rfl⟩)
      go_wp2_with (go_at_call 34; (with_reducible refine (write_string w.heap.size w.heap.size (Lib.byteCells bs) (ofL rest) _ HB.out (by rw [Lib.byteCells_length, ofL_size]; omega) hBs).mono ?_); rintro e w2 ⟨rfl, b2, b3, b4⟩)
      have hb2 : Lib.IsBuilderF 55 5 w.heap.size w.heap.size (Lib.byteCells (cleanL false s.data.toList)) w2 := by
        rw [← HC.out, c1, Lib.byteCells_append]
        exact .inr b2
      have ho2 : w2.ownsRow w.heap.size 9 1 u5 (secsB none s.data.toList).length ((secsB none s.data.toList).map Value.string) := by
        rw [← HS.out, show secsB none rest = [] from by simp [secsB, c2], List.append_nil]
        obtain ⟨cb, hcb⟩ := builder_block HB.out
        exact own_others HO.out b4 hcb
      have hw2 : Below w.heap.size w w2 := HW.out.trans b3
      clear b2 b3 b4 HB HO HW HC HS c1 c2 h14 hkq hr1 hr2 hr3
      go_wp2_with (go_at_call 36; (with_reducible refine (Tryd.Builder_String_any_k w.heap.size w.heap.size _ _ hb2 hw2.size).mono ?_); rintro e w3 ⟨rfl, d2, d3, d4⟩)
      go_wp2
      rw [Exit.noGoto_ret]
      go_ret2
      obtain ⟨cb, hcb⟩ := builder_block hb2
      exact ⟨_, rfl, own_others ho2 d4 hcb, hw2.trans d3⟩
    · obtain ⟨k, hk1⟩ := Int.eq_ofNat_of_zero_le (by omega : 0 ≤ Lib.indexByte rest 14)
      obtain ⟨e1, e2, e3⟩ := out_some rest k hk1
      have h14 : ∀ W, Calls Tryd.prog 33 #[.string (ofL rest), .int .u8 14] W fun e w' => e = .returned (.int .i64 (k : Int)) ∧ w' = W := fun W => by
        have := hI rest 14 W
        rw [show Lib.indexByte rest (14 : Int).toNat.toUInt8 = (k : Int) from hk1] at this
        exact this
      have hBs := HW.out.size
      have g1 : 0 ≤ (k : Int) + 1 := by omega
      have g2 : ((k : Int) + 1) ≤ ((ofL rest).size : Int) := by rw [ofL_size]; omega
      have g3 : ¬ ((k : Int) < 0) := by omega
      have g4 : IntKind.i64.wrap ((k : Int) + 1) = ((k + 1 : Nat) : Int) := by simp only [IntKind.wrap, IntKind.signed, IntKind.bits]; simp; omega
      go_wp2_with (go_at_call 33; (with_reducible refine (h14 _).mono ?_); rintro e w' ⟨rfl, rfl⟩)
      go_wp2_with (fail)
      have x1 : (ofL rest).extract 0 (k + 1) = ofL (rest.take (k + 1)) := take_ofL _ _
      have x2 : (ofL rest).extract (k + 1) (ofL rest).size = ofL (rest.drop (k + 1)) := drop_ofL _ _
      rw [x1]
      (with_reducible refine (write_string w.heap.size w.heap.size (Lib.byteCells bs) (ofL (rest.take (k + 1))) _ HB.out (by rw [Lib.byteCells_length, ofL_size, List.length_take]; omega) hBs).mono ?_)
      rintro e w2 ⟨rfl, b2, b3, b4⟩
      obtain ⟨mid, hmid⟩ : ∃ mid, rest.drop (k + 1) = mid := ⟨_, rfl⟩
      have hml : mid.length + (k + 1) = rest.length := by rw [← hmid, List.length_drop]; omega
      have hcl : ∃ bs1, bs ++ rest.take (k + 1) = bs1 ∧ bs1.length = bs.length + (k + 1) ∧ bs1 ++ cleanL true mid = cleanL false s.data.toList := ⟨_, rfl, by rw [List.length_append, List.length_take]; omega, by rw [← HC.out, e2, hmid, List.append_assoc]⟩
      obtain ⟨bs1, hbs1, hbl, hbc⟩ := hcl
      have b5 : Lib.BuilderAtF 55 5 w.heap.size w.heap.size (.pointer (some ⟨w.heap.size, 0, none⟩)) (Lib.byteCells bs1) w2 := by
        rw [← hbs1, Lib.byteCells_append]
        exact b2
      have hsc : secs ++ (secsL (some []) mid).map ofL = secsB none s.data.toList := by rw [← HS.out]; simp only [secsB]; rw [e3, hmid]
      obtain ⟨cb, hcb⟩ := builder_block HB.out
      have ho2 := own_others HO.out b4 hcb
      have hw2 : Below w.heap.size w w2 := HW.out.trans b3
      have HB2 := Aside0.mk b5
      have HO2 := Aside0.mk ho2
      have HW2 := Aside0.mk hw2
      rw [hmid] at x2
      clear x1 b2 b3 b4 b5 ho2 hw2 HB HO HW HC HS e1 e2 e3 h14 hk1 hcb
      have hBs2 := HW2.out.size
      have hg15 := Lib.indexByte_ge mid 15
      by_cases hq : Lib.indexByte mid 15 < 0
      · have h15 : ∀ W, Calls Tryd.prog 33 #[.string (ofL mid), .int .u8 15] W fun e w' => e = .returned (.int .i64 (-1)) ∧ w' = W := fun W => by
          have := hI mid 15 W
          rw [show Lib.indexByte mid (15 : Int).toNat.toUInt8 = -1 from by show Lib.indexByte mid 15 = -1; omega] at this
          exact this
        obtain ⟨c1, c2⟩ := in_none mid [] hq
        clear hI hq hg15
        go_wp2_with (fail)
        (with_reducible refine (h15 _).mono ?_)
        rintro e w' ⟨rfl, rfl⟩
        go_wp2_with (at_builtin; refine wpList_append_own _ rfl _ _ 26 rfl w.heap.size 9 i0 (.string .empty) 1 16 Tryd.underlying26 hi hz0 hz1 hz2 rfl (by decide) _ _ _ rfl (HO2.out.alloc _) ⟨w'.heap.size, 0, none⟩ 1 1 [.string (ofL mid)] rfl rfl ?c1 ?c2 ?c3 ?c4 ?c5 ?_)
        case c1 =>
          intro j u hj
          match j, hj with
          | 0, hj => simp at hj; subst hj; simp [Addr.add]
        case c2 => intro u hu; simp at hu; subst hu; rfl
        case c3 => unfold maxLen; omega
        case c4 => omega
        case c5 => simp; omega
        intro v' w3 hown' hgrow _
        have b6 := builder_grown (HB2.out.alloc _) (HO2.out.alloc _) hgrow
        have hw3 : Below w.heap.size w w3 := (HW2.out.alloc hBs2 _).grown hgrow (by simp; omega) (fun k hk => (HO2.out.lt k hk).1)
        have hb2 : Lib.IsBuilderF 55 5 w.heap.size w.heap.size (Lib.byteCells (cleanL false s.data.toList)) w3 := by
          rw [← hbc, c1, List.append_nil]
          exact .inr b6
        have ho3 : w3.ownsRow w.heap.size 9 1 v' (secsB none s.data.toList).length ((secsB none s.data.toList).map Value.string) := by
          rw [← hsc, c2]
          simpa using hown'
        clear hown' hgrow b6 HB2 HO2 HW2 hbc hsc hbs1 hbl hmid x2 c1 c2 h15
        go_wp2_with (go_at_call 36; (with_reducible refine (Tryd.Builder_String_any_k w.heap.size w.heap.size _ _ hb2 hw3.size).mono ?_); rintro e w4 ⟨rfl, d2, d3, d4⟩)
        go_wp2
        rw [Exit.noGoto_ret]
        go_ret2
        obtain ⟨cb2, hcb2⟩ := builder_block hb2
        exact ⟨_, rfl, own_others ho3 d4 hcb2, hw3.trans d3⟩
      · obtain ⟨q, hq1⟩ := Int.eq_ofNat_of_zero_le (by omega : 0 ≤ Lib.indexByte mid 15)
        obtain ⟨e1, e2, e3⟩ := in_some mid [] q hq1
        have h15 : ∀ W, Calls Tryd.prog 33 #[.string (ofL mid), .int .u8 15] W fun e w' => e = .returned (.int .i64 (q : Int)) ∧ w' = W := fun W => by
          have := hI mid 15 W
          rw [show Lib.indexByte mid (15 : Int).toNat.toUInt8 = (q : Int) from hq1] at this
          exact this
        have k1 : 0 ≤ (q : Int) + 1 := by omega
        have k2 : ((q : Int) + 1) ≤ ((ofL mid).size : Int) := by rw [ofL_size]; omega
        have k3 : ¬ ((q : Int) < 0) := by omega
        have k4 : IntKind.i64.wrap ((q : Int) + 1) = ((q + 1 : Nat) : Int) := by simp only [IntKind.wrap, IntKind.signed, IntKind.bits]; simp; omega
        have k5 : (q : Int) ≤ ((ofL mid).size : Int) := by rw [ofL_size]; omega
        have x3 : (ofL mid).extract 0 q = ofL (mid.take q) := take_ofL _ _
        have x4 : (ofL mid).extract (q + 1) (ofL mid).size = ofL (mid.drop (q + 1)) := drop_ofL _ _
        clear hI hq hg15 hq1
        go_wp2_with (fail)
        (with_reducible refine (h15 _).mono ?_)
        rintro e w' ⟨rfl, rfl⟩
        go_wp2_with (at_builtin; refine wpList_append_own _ rfl _ _ 26 rfl w.heap.size 9 i0 (.string .empty) 1 16 Tryd.underlying26 hi hz0 hz1 hz2 rfl (by decide) _ _ _ rfl (HO2.out.alloc _) ⟨w'.heap.size, 0, none⟩ 1 1 [.string (ofL (mid.take q))] rfl rfl ?c1 ?c2 ?c3 ?c4 ?c5 ?_)
        case c1 =>
          intro j u hj
          match j, hj with
          | 0, hj => simp at hj; subst hj; simp [Addr.add]
        case c2 => intro u hu; simp at hu; subst hu; rfl
        case c3 => unfold maxLen; omega
        case c4 => omega
        case c5 => simp; omega
        intro v' w3 hown' hgrow _
        have b6 := builder_grown (HB2.out.alloc _) (HO2.out.alloc _) hgrow
        have hw3 : Below w.heap.size w w3 := (HW2.out.alloc hBs2 _).grown hgrow (by simp; omega) (fun k hk => (HO2.out.lt k hk).1)
        have hown3 : w3.ownsRow w.heap.size 9 1 v' (secs ++ [ofL (mid.take q)]).length ((secs ++ [ofL (mid.take q)]).map Value.string) := by
          simpa using hown'
        have HB3 := Aside0.mk b6
        have HO3 := Aside0.mk hown3
        have HW3 := Aside0.mk hw3
        have hBs3 := hw3.size
        have HI3 := Aside0.mk (show Lib.IsBuilderF 55 5 w.heap.size w.heap.size (Lib.byteCells bs1) w3 from .inr HB3.out)
        clear hown' hgrow b6 hw3 hown3 HB2 HO2 HW2 h15
        go_wp2_with (go_at_call 35; (with_reducible refine (write_byte w.heap.size w.heap.size (Lib.byteCells bs1) 15 _ HI3.out (by rw [Lib.byteCells_length]; omega) hBs3).mono ?_); rintro e w4 ⟨rfl, d2, d3, d4⟩)
        have ho4 := own_others HO3.out d4 (builder_block HI3.out).choose_spec
        have hw4 : Below w.heap.size w w4 := HW3.out.trans d3
        have HB4 := Aside0.mk d2
        have HO4 := Aside0.mk ho4
        have HW4 := Aside0.mk hw4
        clear d2 d3 d4 ho4 hw4 HB3 HO3 HW3
        go_wp2
        go_roundg ((mid.drop (q + 1)).length + 1)
        case measure => rw [List.length_drop]; omega
        case rel =>
          refine ⟨mid.drop (q + 1), bs1 ++ [15], secs ++ [ofL (mid.take q)], ?_, rfl, ?_, ?_, ?_, Aside0.mk (.inr ?_), HO4, HW4, Aside0.mk ?_, Aside0.mk ?_⟩
          · first | rfl | rw [x4]
          · rw [List.length_drop]; omega
          · rw [List.length_drop]; simp; omega
          · rw [List.length_drop]; simp; omega
          · rw [Lib.byteCells_append]; exact HB4.out
          · rw [← hbc, e2]; simp
          · rw [← hsc, e3]; simp [secsB]
end Go.Proofs.YtijdlpbkmlplgaaDoor.TB
