/- RedactWords: the walk of the law. -/
import Derived.Test.YtijdlpbkmlplgaaDoorWordsBase
import Derived.Deep.LoopGhost
set_option linter.unusedVariables false
set_option linter.unusedSimpArgs false
namespace Go.Proofs.YtijdlpbkmlplgaaDoor.TW
open Go.RowKit Go.Shelf Go.Proofs.YtijdlpbkmlplgaaDoorW.PrintWords Go.Proofs.YtijdlpbkmlplgaaDoorW.PrintMore

/-- a cell of a block that stays -/
theorem cell_on {W V : World} {g i : Nat} {v : Value} (h : W.cell? ⟨g, i, none⟩ = some v) (hb : Below W.heap.size W V) : V.cell? ⟨g, i, none⟩ = some v :=
  (World.cell?_of_block (hb.block g (World.block_lt_of_cell? W _ h))).trans h
theorem secs_small (s : ByteArray) (hs : s.size ≤ 1073741824) : (TB.secsB none s.data.toList).length ≤ 1073741825 := by
  have h := TQ.secs_len none s.data.toList
  have h9 : s.data.toList.length = s.size := by simp
  unfold TB.secsB
  rw [List.length_map]
  omega
set_option maxHeartbeats 16000000 in
set_option maxRecDepth 100000 in
theorem words_walk (s : ByteArray) (k : Int) (nl : Bool) (t : ByteArray) (n sm : Int) (re im : Nat) (fl : Bool) (mk : Int) (A B : Option Addr) (c d : Nat) (its : List ByteArray) (ps : List Int) (m : Int) (w : World)
    (hs : s.size ≤ 1073741824) (hb1 : its.length ≤ 1073741824) (hb2 : ps.length ≤ 1073741824) (hC : Kd.string.C w A its.length its) (hP : (Kd.int .i64).C w B ps.length ps) (hm : w.cell? ⟨1, 0, none⟩ = some (.int .i64 m)) :
    Calls Tryd.prog 3 #[.string s, spec k nl t n sm re im fl mk (.slice A its.length c) (.slice B ps.length d)] w fun e w' => e = .returned (.bool true) ∧ Below w.heap.size w w' := by
  obtain ⟨K, N, T, M, I, P, E, hI1, hP1, hown, href⟩ := bare_any k nl t n sm re im fl mk its ps hb1 hb2
  have htwin := fun W hC hP => twin_calls k nl t n sm re im fl mk A B its.length c ps.length d its ps W rfl hC rfl hP (by omega) (by omega)
  have hsameX := fun A B A' B' c d c' d' W hC hC' hP hP' => same_calls k nl t n sm re im fl mk A B A' B' its.length c c' ps.length d d' its ps W rfl hC hC' rfl hP hP' (by omega) (by omega)
  have hsameB := fun A B A' B' c d c' d' W hC hC' hP hP' => same_calls K N T M 0 0 0 false 0 A B A' B' I.length c c' P.length d d' I P W rfl hC hC' rfl hP hP' (by omega) (by omega)
  have hPb : P.length ≤ 1073741824 := Nat.le_trans hP1 hb2
  unfold spec at htwin hsameX hsameB hown href ⊢
  have HTw := Aside0.mk htwin
  have HSX := Aside0.mk hsameX
  have HSB := Aside0.mk hsameB
  have HOw := Aside0.mk hown
  have HRe := Aside0.mk href
  clear htwin hsameX hsameB hown href
  have x0 : Cam w.heap.size k nl t n sm re im fl mk A B c d its ps (w.alloc (.cells #[.int .u8 k, .bool nl, .string t, .int .i16 n, .int .i8 sm, .float .f64 re, .float .f64 im, .bool fl, .int .u32 mk, .slice A its.length c, .slice B ps.length d] 29)) := ⟨SpecAt.new w k nl t n sm re im fl mk _ _, Kd.C_below hC ((Below.refl _ w).alloc (Nat.le_refl _) _), Kd.C_below hP ((Below.refl _ w).alloc (Nat.le_refl _) _)⟩
  have hB0 : Below w.heap.size w (w.alloc (.cells #[.int .u8 k, .bool nl, .string t, .int .i16 n, .int .i8 sm, .float .f64 re, .float .f64 im, .bool fl, .int .u32 mk, .slice A its.length c, .slice B ps.length d] 29)) := (Below.refl _ w).alloc (Nat.le_refl _) _
  have hn0 : w.heap.size + 1 = (w.alloc (.cells #[.int .u8 k, .bool nl, .string t, .int .i16 n, .int .i8 sm, .float .f64 re, .float .f64 im, .bool fl, .int .u32 mk, .slice A its.length c, .slice B ps.length d] 29)).heap.size := (World.size_alloc _ _).symm
  obtain ⟨n0, hn⟩ : ∃ n0, w.heap.size = n0 := ⟨_, rfl⟩
  obtain ⟨V0, hV0⟩ : ∃ V, w.alloc (.cells #[.int .u8 k, .bool nl, .string t, .int .i16 n, .int .i8 sm, .float .f64 re, .float .f64 im, .bool fl, .int .u32 mk, .slice A its.length c, .slice B ps.length d] 29) = V := ⟨_, rfl⟩
  rw [hV0] at x0 hB0 hn0
  rw [hn] at x0 hB0 hn0 ⊢
  have hm0 : V0.cell? ⟨1, 0, none⟩ = some (.int .i64 m) := (World.cell?_of_block (hB0.block 1 (by rw [← hn]; exact World.block_lt_of_cell? w _ hm))).trans hm
  have X0 := Aside0.mk x0
  have B0 := Aside0.mk hB0
  have M0 := Aside0.mk hm0
  have HN0 := Aside0.mk hn0
  obtain ⟨c0, c1, c2, c3, c4, c5, c6, c7, c8, c9, c10⟩ := x0.at_.cells
  clear x0 hB0 hm hm0 hC hP hn0
  have hfl := fun (W : World) (a : Addr) (x : Nat) => run_store Tryd.prog W a (.float .f64 x) .plain rfl
  go_enter Tryd.func3, Tryd.ntmps3
  go_upto_region 1 with (fail)
  clear hV0
  go_wp2_with (go_at_call 4; (with_reducible refine (HTw.out _ X0.out.cI X0.out.cP).mono ?_))
  rintro e w1 ⟨v10, v11, rfl, oi, op, h1⟩
  obtain ⟨A1, c1', rfl⟩ := own_slice oi
  obtain ⟨B1, d1', rfl⟩ := own_slice op
  clear c0 c1 c2 c3 c4 c5 c6 c7 c8 c9 c10 HTw
  -- the copy lies in a block
  have q1 : Spc w1.heap.size 0 k nl t n sm re im fl mk A1 B1 c1' d1' its ps (w1.alloc (.cells #[.int .u8 k, .bool nl, .string t, .int .i16 n, .int .i8 sm, .float .f64 re, .float .f64 im, .bool fl, .int .u32 mk, .slice A1 its.length c1', .slice B1 ps.length d1'] 29)) := ⟨SpecAt.new w1 _ _ _ _ _ _ _ _ _ _ _, (own_base oi (Nat.zero_le _)).alloc _, (own_base op (Nat.zero_le _)).alloc _⟩
  have bw1 : Below V0.heap.size V0 (w1.alloc (.cells #[.int .u8 k, .bool nl, .string t, .int .i16 n, .int .i8 sm, .float .f64 re, .float .f64 im, .bool fl, .int .u32 mk, .slice A1 its.length c1', .slice B1 ps.length d1'] 29)) := h1.alloc h1.size _
  have x1 := X0.out.next bw1
  have m1 := cell_on M0.out bw1
  have bb1 := B0.out.trans (bw1.mono (show n0 ≤ V0.heap.size by have := HN0.out; omega))
  have s1 : n0 < w1.heap.size := by have := h1.size; have := HN0.out; omega
  obtain ⟨b1, hb1'⟩ : ∃ b, w1.heap.size = b := ⟨_, rfl⟩
  obtain ⟨V1, hV1⟩ : ∃ V, w1.alloc (.cells #[.int .u8 k, .bool nl, .string t, .int .i16 n, .int .i8 sm, .float .f64 re, .float .f64 im, .bool fl, .int .u32 mk, .slice A1 its.length c1', .slice B1 ps.length d1'] 29) = V := ⟨_, rfl⟩
  rw [hV1] at q1 x1 m1 bb1
  rw [hb1'] at q1 s1
  have z1 : b1 < V1.heap.size := q1.at_.lt
  obtain ⟨c0, c1, c2, c3, c4, c5, c6, c7, c8, c9, c10⟩ := x1.at_.cells
  have Q1 := Aside0.mk q1
  have X1 := Aside0.mk x1
  have M1 := Aside0.mk m1
  have BB1 := Aside0.mk bb1
  clear q1 x1 m1 bb1 bw1 h1 oi op X0 B0 M0 HN0
  go_upto_region 2 with (fail)
  clear hV1 hb1'
  go_wp2_with (go_at_call 5; (with_reducible refine (HRe.out _ _ _ _ _ X1.out.cI X1.out.cP).mono ?_))
  rintro e w2 ⟨A2, c2', B2, d2', rfl, oi, op, h1⟩
  clear c0 c1 c2 c3 c4 c5 c6 c7 c8 c9 c10 HRe
  -- what the document wants
  have q2 : Spc w2.heap.size V1.heap.size K N T M 0 0 0 false 0 A2 B2 c2' d2' I P (w2.alloc (.cells #[.int .u8 K, .bool N, .string T, .int .i16 M, .int .i8 0, .float .f64 0, .float .f64 0, .bool false, .int .u32 0, .slice A2 I.length c2', .slice B2 P.length d2'] 29)) := ⟨SpecAt.new w2 _ _ _ _ _ _ _ _ _ _ _, oi.alloc _, op.alloc _⟩
  have bw2 : Below V1.heap.size V1 (w2.alloc (.cells #[.int .u8 K, .bool N, .string T, .int .i16 M, .int .i8 0, .float .f64 0, .float .f64 0, .bool false, .int .u32 0, .slice A2 I.length c2', .slice B2 P.length d2'] 29)) := h1.alloc h1.size _
  have x2 := X1.out.next bw2
  have y2 := Q1.out.next bw2
  have m2 := cell_on M1.out bw2
  have bb2 := BB1.out.trans (bw2.mono (show n0 ≤ V1.heap.size by omega))
  have s2 : b1 < w2.heap.size := by have := h1.size; omega
  obtain ⟨b2, hb2'⟩ : ∃ b, w2.heap.size = b := ⟨_, rfl⟩
  obtain ⟨V2, hV2⟩ : ∃ V, w2.alloc (.cells #[.int .u8 K, .bool N, .string T, .int .i16 M, .int .i8 0, .float .f64 0, .float .f64 0, .bool false, .int .u32 0, .slice A2 I.length c2', .slice B2 P.length d2'] 29) = V := ⟨_, rfl⟩
  rw [hV2] at q2 x2 y2 m2 bb2
  rw [hb2'] at q2 s2
  have z2 : b2 < V2.heap.size := q2.at_.lt
  obtain ⟨c0, c1, c2, c3, c4, c5, c6, c7, c8, c9, c10⟩ := y2.at_.cells
  have Q2 := Aside0.mk q2
  have Y2 := Aside0.mk y2
  have X2 := Aside0.mk x2
  have M2 := Aside0.mk m2
  have BB2 := Aside0.mk bb2
  clear q2 y2 x2 m2 bb2 bw2 h1 oi op X1 Q1 M1 BB1
  go_upto_region 3 with (fail)
  clear hV2 hb2'
  go_wp2_with (go_at_call 6; (with_reducible refine (HOw.out _ _ _ _ _ _ Y2.out.items Y2.out.parts).mono ?_))
  rintro e w3 ⟨A3, c3', B3, d3', rfl, oi, op, h1⟩
  clear c0 c1 c2 c3 c4 c5 c6 c7 c8 c9 c10
  -- what the program makes, once
  have q3 : Spc w3.heap.size V2.heap.size K N T M 0 0 0 false 0 A3 B3 c3' d3' I P (w3.alloc (.cells #[.int .u8 K, .bool N, .string T, .int .i16 M, .int .i8 0, .float .f64 0, .float .f64 0, .bool false, .int .u32 0, .slice A3 I.length c3', .slice B3 P.length d3'] 29)) := ⟨SpecAt.new w3 _ _ _ _ _ _ _ _ _ _ _, oi.alloc _, op.alloc _⟩
  have bw3 : Below V2.heap.size V2 (w3.alloc (.cells #[.int .u8 K, .bool N, .string T, .int .i16 M, .int .i8 0, .float .f64 0, .float .f64 0, .bool false, .int .u32 0, .slice A3 I.length c3', .slice B3 P.length d3'] 29)) := h1.alloc h1.size _
  have y3 := Y2.out.next bw3
  have l3 : (∀ g, (Value.slice A3 I.length c3').ownBlock = some g → g < w3.heap.size) ∧ (∀ g, (Value.slice B3 P.length d3').ownBlock = some g → g < w3.heap.size) := ⟨fun g hg => (oi.lt g hg).2, fun g hg => (op.lt g hg).2⟩
  have s3 : V2.heap.size ≤ w3.heap.size := h1.size
  have hsz3 : w3.heap.size + 1 = (w3.alloc (.cells #[.int .u8 K, .bool N, .string T, .int .i16 M, .int .i8 0, .float .f64 0, .float .f64 0, .bool false, .int .u32 0, .slice A3 I.length c3', .slice B3 P.length d3'] 29)).heap.size := (World.size_alloc _ _).symm
  obtain ⟨b3, hb3'⟩ : ∃ b, w3.heap.size = b := ⟨_, rfl⟩
  obtain ⟨V3, hV3⟩ : ∃ V, w3.alloc (.cells #[.int .u8 K, .bool N, .string T, .int .i16 M, .int .i8 0, .float .f64 0, .float .f64 0, .bool false, .int .u32 0, .slice A3 I.length c3', .slice B3 P.length d3'] 29) = V := ⟨_, rfl⟩
  rw [hV3] at q3 y3 bw3 hsz3
  rw [hb3'] at q3 s3 l3 hsz3
  obtain ⟨c0, c1, c2, c3, c4, c5, c6, c7, c8, c9, c10⟩ := y3.at_.cells
  have Q3 := Aside0.mk q3
  have Y3 := Aside0.mk y3
  have W3 := Aside0.mk bw3
  have L3 := Aside0.mk l3
  have Z3 := Aside0.mk hsz3
  clear q3 y3 bw3 l3 h1 oi op hsz3
  go_upto_region 4 with (fail)
  clear hV3 hb3'
  go_wp2_with (go_at_call 6; (with_reducible refine (HOw.out _ _ _ _ _ _ Y3.out.items Y3.out.parts).mono ?_))
  rintro e w4 ⟨A4, c4', B4, d4', rfl, oi, op, h1⟩
  clear c0 c1 c2 c3 c4 c5 c6 c7 c8 c9 c10
  -- and twice
  have q4 : Spc w4.heap.size V3.heap.size K N T M 0 0 0 false 0 A4 B4 c4' d4' I P (w4.alloc (.cells #[.int .u8 K, .bool N, .string T, .int .i16 M, .int .i8 0, .float .f64 0, .float .f64 0, .bool false, .int .u32 0, .slice A4 I.length c4', .slice B4 P.length d4'] 29)) := ⟨SpecAt.new w4 _ _ _ _ _ _ _ _ _ _ _, oi.alloc _, op.alloc _⟩
  have bw4 : Below V3.heap.size V3 (w4.alloc (.cells #[.int .u8 K, .bool N, .string T, .int .i16 M, .int .i8 0, .float .f64 0, .float .f64 0, .bool false, .int .u32 0, .slice A4 I.length c4', .slice B4 P.length d4'] 29)) := h1.alloc h1.size _
  have y4 := Q3.out.next bw4
  have u4 := W3.out.trans (bw4.mono W3.out.size)
  have s4 : V3.heap.size ≤ w4.heap.size := h1.size
  obtain ⟨b4, hb4'⟩ : ∃ b, w4.heap.size = b := ⟨_, rfl⟩
  obtain ⟨V4, hV4⟩ : ∃ V, w4.alloc (.cells #[.int .u8 K, .bool N, .string T, .int .i16 M, .int .i8 0, .float .f64 0, .float .f64 0, .bool false, .int .u32 0, .slice A4 I.length c4', .slice B4 P.length d4'] 29) = V := ⟨_, rfl⟩
  rw [hV4] at q4 y4 u4
  rw [hb4'] at q4 s4
  have v2 := Q2.out.next u4
  obtain ⟨c0, c1, c2, c3, c4, c5, c6, c7, c8, c9, c10⟩ := y4.at_.cells
  obtain ⟨a0, a1, a2, a3, a4, a5, a6, a7, a8, a9, a10⟩ := v2.at_.cells
  have Q4 := Aside0.mk q4
  have Y4 := Aside0.mk y4
  have V2' := Aside0.mk v2
  have U4 := Aside0.mk u4
  clear q4 y4 u4 v2 bw4 h1 oi op Q3 W3 Y3 HOw
  go_upto_region 5 with (fail)
  clear hV4 hb4'
  go_wp2_with (go_at_call 7; (with_reducible refine (HSB.out _ _ _ _ _ _ _ _ _ Y4.out.cI V2'.out.cI Y4.out.cP V2'.out.cP).mono ?_))
  rintro e w5 ⟨rfl, h1⟩
  clear c0 c1 c2 c3 c4 c5 c6 c7 c8 c9 c10 a0 a1 a2 a3 a4 a5 a6 a7 a8 a9 a10
  have q5 := Q4.out.next h1
  have y5 := Y4.out.next h1
  have v5 := V2'.out.next h1
  have u5 := U4.out.trans (h1.mono U4.out.size)
  obtain ⟨c0, c1, c2, c3, c4, c5, c6, c7, c8, c9, c10⟩ := q5.at_.cells
  obtain ⟨a0, a1, a2, a3, a4, a5, a6, a7, a8, a9, a10⟩ := v5.at_.cells
  have Q5 := Aside0.mk q5
  have Y5 := Aside0.mk y5
  have V5 := Aside0.mk v5
  have U5 := Aside0.mk u5
  clear q5 y5 v5 u5 h1 Q4 Y4 V2' U4
  go_wp2_with (go_at_call 7; (with_reducible refine (HSB.out _ _ _ _ _ _ _ _ _ Q5.out.cI V5.out.cI Q5.out.cP V5.out.cP).mono ?_))
  rintro e w6 ⟨rfl, h1⟩
  clear c0 c1 c2 c3 c4 c5 c6 c7 c8 c9 c10 a0 a1 a2 a3 a4 a5 a6 a7 a8 a9 a10
  have q6 := Q5.out.next h1
  have y6 := Y5.out.next h1
  have u6 := U5.out.trans (h1.mono U5.out.size)
  have x6 := X2.out.next u6
  have i6 := Y2.out.next u6
  obtain ⟨c0, c1, c2, c3, c4, c5, c6, c7, c8, c9, c10⟩ := i6.at_.cells
  obtain ⟨a0, a1, a2, a3, a4, a5, a6, a7, a8, a9, a10⟩ := x6.at_.cells
  have Q6 := Aside0.mk q6
  have Y6 := Aside0.mk y6
  have U6 := Aside0.mk u6
  have X6 := Aside0.mk x6
  have I6 := Aside0.mk i6
  clear q6 y6 u6 x6 i6 h1 Q5 Y5 V5 U5
  go_wp2_with (go_at_call 7; (with_reducible refine (HSX.out _ _ _ _ _ _ _ _ _ I6.out.cI X6.out.cI I6.out.cP X6.out.cP).mono ?_))
  rintro e w7 ⟨rfl, h1⟩
  clear c0 c1 c2 c3 c4 c5 c6 c7 c8 c9 c10 a0 a1 a2 a3 a4 a5 a6 a7 a8 a9 a10
  have q7 := Q6.out.next h1
  have y7 := Y6.out.next h1
  have u7 := U6.out.trans (h1.mono U6.out.size)
  obtain ⟨c0, c1, c2, c3, c4, c5, c6, c7, c8, c9, c10⟩ := y7.at_.cells
  have Q7 := Aside0.mk q7
  have Y7 := Aside0.mk y7
  have U7 := Aside0.mk u7
  clear q7 y7 u7 h1 Q6 Y6 U6 X6 I6
  have p7 := Y7.out.parts
  have i7 := Y7.out.items
  have PP := Aside0.mk p7
  have II := Aside0.mk i7
  clear p7 i7
  go_upto_region 7 with (fail)
  go_cut [12] from 14 (fun v12 wc => v12 = .int .i64 0 ∧ w7 = wc)
  case first =>
    go_wp2_with (fail)
    go_meet
    exact ⟨rfl, rfl⟩
  case rest =>
  obtain ⟨rfl, rfl⟩ := hcut
  go_wp2_with (fail)
  go_loopg [12] P.length (fun kq v12 wr => ∃ i : Nat, v12 = .int .i64 i ∧ i + kq = P.length ∧ Aside0 (But V2.heap.size b3 w7 wr) ∧ Aside0 (∃ P', P'.length = P.length ∧ wr.ownsRow V2.heap.size 3 1 (.slice B3 P.length d3') P.length (encs (Value.int .i64) P')) ∧ Aside0 (wr.ownsRow V2.heap.size 9 1 (.slice A3 I.length c3') I.length (encs Value.string I)))
  case atStart => exact ⟨0, rfl, by omega, Aside0.mk (But.refl _ _ _), Aside0.mk ⟨P, rfl, PP.out⟩, II⟩
  case round =>
    clear c0 c1 c2 c3 c4 c5 c6 c7 c8 c9 c10 PP II
    obtain ⟨i, rfl, hik, HBt, HPP, HII⟩ := hrel
    have o3 := HBt.out.spec Y7.out.at_ (Nat.le_refl _)
    have k10 := o3.cells.2.2.2.2.2.2.2.2.2.2
    by_cases hi : i < P.length
    · have hi2 : (i : Int) < (P.length : Int) := by omega
      obtain ⟨P', hP', op⟩ := HPP.out
      obtain ⟨g, rfl⟩ := own_some op (by omega)
      have hat := (own_at_of (d := (0 : Int)) op (i : Int) (by omega) hi2)
      obtain ⟨hx, hf⟩ := hat
      rw [show ((i : Int)).toNat = i from rfl] at hx hf
      have hst := (own_store_of (enc := Value.int .i64) op (i : Int) (-3)).1
      rw [show ((i : Int)).toNat = i from rfl] at hst
      have hg1 := (op.lt g rfl).1
      have hg2 := L3.out.2 g rfl
      have hit := ownsRow_setCell_other (a := ⟨g, i, none⟩) HII.out (own_kinds op HII.out (by decide) rfl) (.int .i64 (-3))
      have hbt := HBt.out.set (i := i) (.int .i64 (-3)) hg1 hg2
      have HST := Aside0.mk hst
      have HIT := Aside0.mk hit
      have HBT := Aside0.mk hbt
      clear hst hit hbt o3 op HPP HII HBt hg1 hg2
      have hi4 : i ≤ 1073741824 := Nat.le_trans (Nat.le_of_lt hi) hPb
      have hii : (0 ≤ (i : Int)) ∧ ((i : Int) < (P.length : Int)) := ⟨Int.natCast_nonneg i, hi2⟩
      go_wp2_with (fail)
      go_roundg (gk - 1)
      case measure => omega
      case rel => exact ⟨i + 1, by simp, by omega, HBT, Aside0.mk ⟨P'.set i (-3), by simp [hP'], HST.out⟩, HIT⟩
    · obtain rfl : i = P.length := by omega
      have HB8 := HBt
      have HI8 := HII
      clear HBt HII HPP o3 hik hi
      obtain ⟨wo, rfl⟩ : ∃ wo : World, wo = wr := ⟨_, rfl⟩
      go_wp2_with (fail)
      go_loopg [13] I.length (fun kq v13 wr => ∃ j : Nat, v13 = .int .i64 j ∧ j + kq = I.length ∧ Aside0 (But V2.heap.size b3 w7 wr) ∧ Aside0 (∃ I', I'.length = I.length ∧ wr.ownsRow V2.heap.size 9 1 (.slice A3 I.length c3') I.length (encs Value.string I')))
      case atStart => exact ⟨0, rfl, by omega, HB8, Aside0.mk ⟨I, rfl, HI8.out⟩⟩
      case round =>
        clear HB8 HI8
        obtain ⟨j, rfl, hjk, HBt, HII⟩ := hrel
        have o3 := HBt.out.spec Y7.out.at_ (Nat.le_refl _)
        clear k10
        have k9 := o3.cells.2.2.2.2.2.2.2.2.2.1
        by_cases hj : j < I.length
        · have hj2 : (j : Int) < (I.length : Int) := by omega
          obtain ⟨I', hI', op⟩ := HII.out
          obtain ⟨g, rfl⟩ := own_some op (by omega)
          obtain ⟨hx, hf⟩ := (own_at_of (d := ByteArray.empty) op (j : Int) (by omega) hj2)
          rw [show ((j : Int)).toNat = j from rfl] at hx hf
          have hst := (own_store_of (enc := Value.string) op (j : Int) ⟨#[115, 112, 111, 105, 108, 116]⟩).1
          rw [show ((j : Int)).toNat = j from rfl] at hst
          have hg1 := (op.lt g rfl).1
          have hg2 := L3.out.1 g rfl
          have hbt := HBt.out.set (i := j) (.string ⟨#[115, 112, 111, 105, 108, 116]⟩) hg1 hg2
          have HST := Aside0.mk hst
          have HBT := Aside0.mk hbt
          have hii : (0 ≤ (j : Int)) ∧ ((j : Int) < (I.length : Int)) := ⟨Int.natCast_nonneg j, hj2⟩
          have hj4 : j ≤ 1 := by omega
          clear hst hbt o3 op HII HBt hg1 hg2
          go_wp2_with (fail)
          go_roundg (gk - 1)
          case measure => omega
          case rel => exact ⟨j + 1, by simp, by omega, HBT, Aside0.mk ⟨I'.set j ⟨#[115, 112, 111, 105, 108, 116]⟩, by simp [hI'], HST.out⟩⟩
        · obtain rfl : j = I.length := by omega
          clear HII o3 hj hjk
          -- what stands behind the loops
          have hu := U7.out.trans HBt.out.below
          have q8 := HBt.out.spc Q7.out (by have := Z3.out; omega) (by have := Z3.out; omega)
          have v8 := Q2.out.next hu
          have x8 := X2.out.next hu
          have i8 := Y2.out.next hu
          have m8 := cell_on M2.out hu
          have bb8 := BB2.out.trans (hu.mono (show n0 ≤ V2.heap.size by omega))
          have z8 : n0 ≤ wr.heap.size := Nat.le_trans (show n0 ≤ V2.heap.size by omega) hu.size
          obtain ⟨c0, c1, c2, c3, c4, c5, c6, c7, c8, c9, c10⟩ := q8.at_.cells
          obtain ⟨a0, a1, a2, a3, a4, a5, a6, a7, a8, a9, a10⟩ := v8.at_.cells
          have Q8 := Aside0.mk q8
          have V8 := Aside0.mk v8
          have X8 := Aside0.mk x8
          have I8 := Aside0.mk i8
          have M8 := Aside0.mk m8
          have BB8 := Aside0.mk bb8
          clear hu q8 v8 x8 i8 m8 bb8 HBt U7 Q7 Y7 L3 Z3 Q2 X2 Y2 M2 BB2
          go_wp2_with (go_at_call 7; (with_reducible refine (HSB.out _ _ _ _ _ _ _ _ _ Q8.out.cI V8.out.cI Q8.out.cP V8.out.cP).mono ?_))
          rintro e w9 ⟨rfl, h1⟩
          clear c0 c1 c2 c3 c4 c5 c6 c7 c8 c9 c10 a0 a1 a2 a3 a4 a5 a6 a7 a8 a9 a10
          have x9 := X8.out.next h1
          have i9 := I8.out.next h1
          have m9 := cell_on M8.out h1
          have bb9 := BB8.out.trans (h1.mono z8)
          have z9 : n0 ≤ w9.heap.size := Nat.le_trans z8 h1.size
          obtain ⟨c0, c1, c2, c3, c4, c5, c6, c7, c8, c9, c10⟩ := i9.at_.cells
          obtain ⟨a0, a1, a2, a3, a4, a5, a6, a7, a8, a9, a10⟩ := x9.at_.cells
          have X9 := Aside0.mk x9
          have I9 := Aside0.mk i9
          have M9 := Aside0.mk m9
          have BB9 := Aside0.mk bb9
          clear x9 i9 m9 bb9 h1 Q8 V8 X8 I8 M8 BB8
          go_wp2_with (go_at_call 7; (with_reducible refine (HSX.out _ _ _ _ _ _ _ _ _ I9.out.cI X9.out.cI I9.out.cP X9.out.cP).mono ?_))
          rintro e w10 ⟨rfl, h1⟩
          clear c0 c1 c2 c3 c4 c5 c6 c7 c8 c9 c10 a0 a1 a2 a3 a4 a5 a6 a7 a8 a9 a10
          have M10 := Aside0.mk (cell_on M9.out h1)
          have BB10 := Aside0.mk (BB9.out.trans (h1.mono z9))
          have z10 : n0 ≤ w10.heap.size := Nat.le_trans z9 h1.size
          clear h1 X9 I9 M9 BB9 z9 z8
          go_wp2_with (go_at_call 8; (with_reducible refine (TS.seal_calls s m _ (by omega) M10.out).mono ?_))
          rintro e w11 ⟨rfl, h1⟩
          have BB11 := Aside0.mk (BB10.out.trans (h1.mono z10))
          have z11 : n0 ≤ w11.heap.size := Nat.le_trans z10 h1.size
          clear h1 M10 BB10 z10
          go_wp2_with (go_at_call 9; (with_reducible refine (refseal_calls s _ hs).mono ?_))
          rintro e w12 ⟨rfl, h1⟩
          have BB12 := Aside0.mk (BB11.out.trans (h1.mono z11))
          have z12 : n0 ≤ w12.heap.size := Nat.le_trans z11 h1.size
          clear h1 BB11 z11
          go_wp2_with (go_at_call 10; (with_reducible refine (TB.clean_calls s hs _).mono ?_))
          rintro e w13 ⟨rfl, h1⟩
          have BB13 := Aside0.mk (BB12.out.trans (h1.mono z12))
          have z13 : n0 ≤ w13.heap.size := Nat.le_trans z12 h1.size
          clear h1 BB12 z12
          go_wp2_with (go_at_call 11; (with_reducible refine (refclean_calls s _ hs).mono ?_))
          rintro e w14 ⟨rfl, h1⟩
          have BB14 := Aside0.mk (BB13.out.trans (h1.mono z13))
          have z14 : n0 ≤ w14.heap.size := Nat.le_trans z13 h1.size
          clear h1 BB13 z13
          go_wp2_with (go_at_call 13; (with_reducible refine (TB.secrets_calls s hs _).mono ?_))
          rintro e w15 ⟨v1, rfl, r1, h1⟩
          obtain ⟨E1, e1, rfl⟩ := own_slice r1
          have R1 := Aside0.mk r1
          have H1 := Aside0.mk h1
          have n1' := fun g hg => (r1.lt g hg).2
          have N1 := Aside0.mk n1'
          clear r1 h1 n1'
          go_wp2_with (go_at_call 13; (with_reducible refine (TB.secrets_calls s hs _).mono ?_))
          rintro e w16 ⟨v2, rfl, r2, h1⟩
          obtain ⟨E2, e2, rfl⟩ := own_slice r2
          have R1' := Aside0.mk (own_next R1.out h1)
          have H2 := Aside0.mk (H1.out.trans (h1.mono H1.out.size))
          have R2 := Aside0.mk r2
          have z15 : w15.heap.size ≤ w16.heap.size := h1.size
          clear r2 h1 R1 H1
          go_wp2_with (go_at_call 14; (with_reducible refine (refsecrets_calls s _ hs).mono ?_))
          rintro e w17 ⟨v3, rfl, r3, h1⟩
          obtain ⟨E3, e3, rfl⟩ := own_slice r3
          have R1 := Aside0.mk (own_next R1'.out h1)
          have R2' := Aside0.mk (own_next R2.out h1)
          have H3 := Aside0.mk (H2.out.trans (h1.mono H2.out.size))
          have R3 := Aside0.mk r3
          clear r3 h1 R1' H2 R2
          have hfr := fresh_calls (TB.secsB none s.data.toList) (secs_small s hs) E1 E2 E3 e1 e2 e3 _ _ w14 w17 H3.out R1.out R2'.out R3.out N1.out (fun g hg => Nat.lt_of_lt_of_le (N1.out g hg) z15)
          have HF := Aside0.mk hfr
          clear hfr
          go_wp2_with (go_at_call 12; (with_reducible refine HF.out.mono ?_))
          rintro e w18 ⟨rfl, h1⟩
          go_wp2_with (fail)
          go_ret
          exact ⟨rfl, BB14.out.trans (h1.mono z14)⟩
end Go.Proofs.YtijdlpbkmlplgaaDoor.TW
