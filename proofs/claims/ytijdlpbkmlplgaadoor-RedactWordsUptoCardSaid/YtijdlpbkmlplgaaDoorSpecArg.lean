/- A spec that came as an argument, opened: what its fields are, how its rows read. -/
import Derived.Test.YtijdlpbkmlplgaaDoorRows
import Derived.Test.YtijdlpbkmlplgaaDoorSpecCheck
import Derived.OpenShut
import Derived.Deep.Strs
set_option linter.unusedVariables false
set_option linter.unusedSimpArgs false
namespace Go.Proofs.YtijdlpbkmlplgaaDoor.TA
open Go.RowKit Go.Shelf Go.ChangeShapes Go.WideShapes Go.Proofs.YtijdlpbkmlplgaaDoorW.PrintWords Go.Proofs.YtijdlpbkmlplgaaDoorW.PrintMore Go.Proofs.YtijdlpbkmlplgaaDoor.TW

theorem list11 {α : Type} {xs : List α} (h : xs.length = 11) : ∃ a0 a1 a2 a3 a4 a5 a6 a7 a8 a9 a10, xs = [a0, a1, a2, a3, a4, a5, a6, a7, a8, a9, a10] := by
  match xs, h with
  | [a0, a1, a2, a3, a4, a5, a6, a7, a8, a9, a10], _ => exact ⟨a0, a1, a2, a3, a4, a5, a6, a7, a8, a9, a10, rfl⟩
section
variable {H : Type} {enc : TypeId × Value → H} {P : Program} {w : World} {base : Nat} {spare : Nat → Bool} {held : Bool} {fuel : Nat} {t : TypeId} {cs : List Value} {x : DataW H × List MemPlace}
theorem trod_float {k : FloatKind} (ht : P.underlying t = some (.float k)) (h : DataW.trod enc P w base spare held fuel t cs = some x) : ∃ b, cs = [.float k b] ∧ x = (.lit (.float k b), []) ∧ (Lit.float k b).wf = true := by
  cases fuel with
  | zero => simp [DataW.trod] at h
  | succ n =>
    unfold DataW.trod at h
    rw [ht] at h
    split at h <;> simp_all
end
theorem lits_bulk {H : Type} (k : IntKind) (l : List Int) : l.length ≤ Rows.uptoBulkAll (lits (H := H) k l) := by
  induction l with
  | nil => exact Nat.zero_le _
  | cons a l ih =>
    show l.length + 1 ≤ Rows.uptoBulk (.lit (.int k a)) + Rows.uptoBulkAll (lits k l)
    simp only [Rows.uptoBulk]
    omega
theorem strs_bulk {H : Type} (f : Nat → ByteArray) (l : List Nat) : l.length ≤ Rows.uptoBulkAll (l.map fun i => DataW.lit (H := H) (.string (f i).data.toList)) := by
  induction l with
  | nil => exact Nat.zero_le _
  | cons a l ih =>
    show l.length + 1 ≤ Rows.uptoBulk (.lit (.string (f a).data.toList)) + Rows.uptoBulkAll (l.map _)
    simp only [Rows.uptoBulk]
    omega
set_option maxRecDepth 100000 in
/-- A spec, by value: its fields, and how many there are in its rows. -/
theorem open_spec {H : Type} {enc : TypeId × Value → H} {W : World} {base : Nat} {v : Value} {d : DataW H} {p : List MemPlace} (hv : Value.okWide Tryd.prog W .any base 29 v) (h : DataW.Trod enc Tryd.prog W 0 (fun _ => true) true 29 v d p) :
    ∃ (k : Int) (nl : Bool) (t : ByteArray) (n sm : Int) (re im : Nat) (fl : Bool) (mk : Int) (A B : Option Addr) (c e : Nat) (its : List ByteArray) (ps : List Int),
      v = spec k nl t n sm re im fl mk (.slice A its.length c) (.slice B ps.length e) ∧ Kd.string.C W A its.length its ∧ (Kd.int .i64).C W B ps.length ps ∧ its.length + ps.length ≤ Rows.uptoBulk d := by
  obtain ⟨cs, rfl, hsz⟩ := okWide_struct Tryd.underlying29 hv
  obtain ⟨fuel, hf⟩ := h
  obtain ⟨xs, m, _, hx, hlen, hxl, hg⟩ := DataW.trod_struct Tryd.underlying29 hf
  obtain ⟨x0, x1, x2, x3, x4, x5, x6, x7, x8, x9, x10, rfl⟩ := list11 (hxl.trans rfl)
  have hc11 : cs.toList.length = 11 := by rw [Array.length_toList, hsz]; kernel_rfl
  obtain ⟨c0, c1, c2, c3, c4, c5, c6, c7, c8, c9, c10, hcs⟩ := list11 hc11
  obtain rfl : cs = #[c0, c1, c2, c3, c4, c5, c6, c7, c8, c9, c10] := by cases cs; simp_all
  have w5 : Tryd.prog.cellsOf 5 = 1 := by kernel_rfl
  have w4 : Tryd.prog.cellsOf 4 = 1 := by kernel_rfl
  have w9 : Tryd.prog.cellsOf 9 = 1 := by kernel_rfl
  have w22 : Tryd.prog.cellsOf 22 = 1 := by kernel_rfl
  have w23 : Tryd.prog.cellsOf 23 = 1 := by kernel_rfl
  have w24 : Tryd.prog.cellsOf 24 = 1 := by kernel_rfl
  have w25 : Tryd.prog.cellsOf 25 = 1 := by kernel_rfl
  have w26 : Tryd.prog.cellsOf 26 = 1 := by kernel_rfl
  have w27 : Tryd.prog.cellsOf 27 = 1 := by kernel_rfl
  have w3 : Tryd.prog.cellsOf 3 = 1 := by kernel_rfl
  have g0 : DataW.trod enc Tryd.prog W 0 (fun _ => true) true m 5 (([c0, c1, c2, c3, c4, c5, c6, c7, c8, c9, c10].drop 0).take (Tryd.prog.cellsOf 5)) = some x0 := hg 0 _ rfl
  rw [w5] at g0
  have h0 : DataW.trod enc Tryd.prog W 0 (fun _ => true) true m 5 [c0] = some x0 := g0
  clear g0
  have g1 : DataW.trod enc Tryd.prog W 0 (fun _ => true) true m 4 (([c0, c1, c2, c3, c4, c5, c6, c7, c8, c9, c10].drop 1).take (Tryd.prog.cellsOf 4)) = some x1 := hg 1 _ rfl
  rw [w4] at g1
  have h1 : DataW.trod enc Tryd.prog W 0 (fun _ => true) true m 4 [c1] = some x1 := g1
  clear g1
  have g2 : DataW.trod enc Tryd.prog W 0 (fun _ => true) true m 9 (([c0, c1, c2, c3, c4, c5, c6, c7, c8, c9, c10].drop 2).take (Tryd.prog.cellsOf 9)) = some x2 := hg 2 _ rfl
  rw [w9] at g2
  have h2 : DataW.trod enc Tryd.prog W 0 (fun _ => true) true m 9 [c2] = some x2 := g2
  clear g2
  have g3 : DataW.trod enc Tryd.prog W 0 (fun _ => true) true m 22 (([c0, c1, c2, c3, c4, c5, c6, c7, c8, c9, c10].drop 3).take (Tryd.prog.cellsOf 22)) = some x3 := hg 3 _ rfl
  rw [w22] at g3
  have h3 : DataW.trod enc Tryd.prog W 0 (fun _ => true) true m 22 [c3] = some x3 := g3
  clear g3
  have g4 : DataW.trod enc Tryd.prog W 0 (fun _ => true) true m 23 (([c0, c1, c2, c3, c4, c5, c6, c7, c8, c9, c10].drop 4).take (Tryd.prog.cellsOf 23)) = some x4 := hg 4 _ rfl
  rw [w23] at g4
  have h4 : DataW.trod enc Tryd.prog W 0 (fun _ => true) true m 23 [c4] = some x4 := g4
  clear g4
  have g5 : DataW.trod enc Tryd.prog W 0 (fun _ => true) true m 24 (([c0, c1, c2, c3, c4, c5, c6, c7, c8, c9, c10].drop 5).take (Tryd.prog.cellsOf 24)) = some x5 := hg 5 _ rfl
  rw [w24] at g5
  have h5 : DataW.trod enc Tryd.prog W 0 (fun _ => true) true m 24 [c5] = some x5 := g5
  clear g5
  have g6 : DataW.trod enc Tryd.prog W 0 (fun _ => true) true m 24 (([c0, c1, c2, c3, c4, c5, c6, c7, c8, c9, c10].drop 6).take (Tryd.prog.cellsOf 24)) = some x6 := hg 6 _ rfl
  rw [w24] at g6
  have h6 : DataW.trod enc Tryd.prog W 0 (fun _ => true) true m 24 [c6] = some x6 := g6
  clear g6
  have g7 : DataW.trod enc Tryd.prog W 0 (fun _ => true) true m 4 (([c0, c1, c2, c3, c4, c5, c6, c7, c8, c9, c10].drop 7).take (Tryd.prog.cellsOf 4)) = some x7 := hg 7 _ rfl
  rw [w4] at g7
  have h7 : DataW.trod enc Tryd.prog W 0 (fun _ => true) true m 4 [c7] = some x7 := g7
  clear g7
  have g8 : DataW.trod enc Tryd.prog W 0 (fun _ => true) true m 25 (([c0, c1, c2, c3, c4, c5, c6, c7, c8, c9, c10].drop 8).take (Tryd.prog.cellsOf 25)) = some x8 := hg 8 _ rfl
  rw [w25] at g8
  have h8 : DataW.trod enc Tryd.prog W 0 (fun _ => true) true m 25 [c8] = some x8 := g8
  clear g8
  have g9 : DataW.trod enc Tryd.prog W 0 (fun _ => true) true m 26 (([c0, c1, c2, c3, c4, c5, c6, c7, c8, c9, c10].drop 9).take (Tryd.prog.cellsOf 26)) = some x9 := hg 9 _ rfl
  rw [w26] at g9
  have h9 : DataW.trod enc Tryd.prog W 0 (fun _ => true) true m 26 [c9] = some x9 := g9
  clear g9
  have g10 : DataW.trod enc Tryd.prog W 0 (fun _ => true) true m 27 (([c0, c1, c2, c3, c4, c5, c6, c7, c8, c9, c10].drop 10).take (Tryd.prog.cellsOf 27)) = some x10 := hg 10 _ rfl
  rw [w27] at g10
  have h10 : DataW.trod enc Tryd.prog W 0 (fun _ => true) true m 27 [c10] = some x10 := g10
  clear g10
  clear hg hf hv hsz hxl hlen hc11 hcs
  obtain ⟨k, e0, -, -⟩ := DataW.trod_int Tryd.underlying5 h0
  obtain ⟨nl, e1, -⟩ := DataW.trod_bool Tryd.underlying4 h1
  obtain ⟨t, e2, -, -⟩ := DataW.trod_string Tryd.underlying9 h2
  obtain ⟨n, e3, -, -⟩ := DataW.trod_int Tryd.underlying22 h3
  obtain ⟨sm, e4, -, -⟩ := DataW.trod_int Tryd.underlying23 h4
  obtain ⟨re, e5, -, -⟩ := trod_float Tryd.underlying24 h5
  obtain ⟨im, e6, -, -⟩ := trod_float Tryd.underlying24 h6
  obtain ⟨fl, e7, -⟩ := DataW.trod_bool Tryd.underlying4 h7
  obtain ⟨mk, e8, -, -⟩ := DataW.trod_int Tryd.underlying25 h8
  obtain rfl : c0 = .int .u8 k := List.head_eq_of_cons_eq e0
  obtain rfl : c1 = .bool nl := List.head_eq_of_cons_eq e1
  obtain rfl : c2 = .string t := List.head_eq_of_cons_eq e2
  obtain rfl : c3 = .int .i16 n := List.head_eq_of_cons_eq e3
  obtain rfl : c4 = .int .i8 sm := List.head_eq_of_cons_eq e4
  obtain rfl : c5 = .float .f64 re := List.head_eq_of_cons_eq e5
  obtain rfl : c6 = .float .f64 im := List.head_eq_of_cons_eq e6
  obtain rfl : c7 = .bool fl := List.head_eq_of_cons_eq e7
  obtain rfl : c8 = .int .u32 mk := List.head_eq_of_cons_eq e8
  simp only [Prod.mk.injEq, List.map_cons, List.map_nil] at hx
  obtain ⟨rfl, -⟩ := hx
  have hI : ∃ (A : Option Addr) (c : Nat) (its : List ByteArray), c9 = .slice A its.length c ∧ Kd.string.C W A its.length its ∧ its.length ≤ Rows.uptoBulk x9.1 := by
    rcases Deep.open_strs Tryd.underlying26 Tryd.underlying9 w9 h9 with ⟨e, -⟩ | ⟨a, len, cap, mm, Sx, e, -, hl, hm, hmm, e2, hcell⟩
    · obtain rfl := List.head_eq_of_cons_eq e
      exact ⟨none, 0, [], rfl, Kd.C_nil _ _, Nat.zero_le _⟩
    · obtain rfl := List.head_eq_of_cons_eq e
      have hlm : len ≤ mm := by rw [hmm]; split <;> omega
      refine ⟨some a, cap, (List.range len).map Sx, by simp, ?_, ?_⟩
      · have hlen : ((List.range len).map Sx).length = len := by simp
        rw [hlen]
        refine Kd.C_of_reads (enc := Value.string) (d := ByteArray.empty) ⟨hlen, by unfold maxLen at hm; omega, fun hn => ⟨a, rfl, fun j hj => ?_⟩⟩
        have hx := (hcell j (by omega)).1
        rw [hx]
        simp [List.getD_eq_getElem?_getD, hj]
      · have hlen : ((List.range len).map Sx).length = len := by simp
        rw [hlen, show x9.1 = _ from congrArg Prod.fst e2]
        simp only [Rows.uptoBulk]
        have := strs_bulk (H := H) Sx (List.range len)
        rw [List.length_range] at this
        omega
  have hJ : ∃ (B : Option Addr) (c : Nat) (ps : List Int), c10 = .slice B ps.length c ∧ (Kd.int .i64).C W B ps.length ps ∧ ps.length ≤ Rows.uptoBulk x10.1 := by
    rcases open_ints Tryd.underlying27 Tryd.underlying3 w3 h10 with ⟨e, -⟩ | ⟨a, len, cap, zs, e, -, hl, hm, hz, e2, hcell, -⟩
    · obtain rfl := List.head_eq_of_cons_eq e
      exact ⟨none, 0, [], rfl, Kd.C_nil _ _, Nat.zero_le _⟩
    · obtain rfl := List.head_eq_of_cons_eq e
      have hzl : zs.length = cap := by simpa using hz
      have hlen : (zs.take len).length = len := by rw [List.length_take]; omega
      refine ⟨some a, cap, zs.take len, by rw [hlen], ?_, ?_⟩
      · rw [hlen]
        refine Kd.C_of_reads (enc := Value.int .i64) (d := 0) ⟨hlen, by unfold maxLen at hm; omega, fun hn => ⟨a, rfl, fun j hj => ?_⟩⟩
        rw [hcell j (by omega)]
        congr 2
        rw [List.getD_eq_getElem?_getD, List.getD_eq_getElem?_getD, List.getElem?_take, if_pos hj]
      · rw [hlen, show x10.1 = _ from congrArg Prod.fst e2]
        simp only [Rows.uptoBulk]
        have := lits_bulk (H := H) .i64 (zs.take len)
        rw [hlen] at this
        omega
  obtain ⟨A, c, its, rfl, hA, hb1⟩ := hI
  obtain ⟨B, e, ps, rfl, hB, hb2⟩ := hJ
  refine ⟨k, nl, t, n, sm, re, im, fl, mk, A, B, c, e, its, ps, rfl, hA, hB, ?_⟩
  simp only [Rows.uptoBulk, Rows.uptoBulkAll]
  omega
end Go.Proofs.YtijdlpbkmlplgaaDoor.TA
