/- ShortRec -/
import Derived.Test.YtimmafiodhncgaaGreatDoorM22
/- lines.Short of a record without parts, and of one with one part. -/
set_option linter.unusedVariables false
set_option linter.unusedSimpArgs false
namespace Go.Proofs.YtimmafiodhncgaaGreatDoor.TS2
open Go.RowKit Go.Shelf Go.Proofs.YtimmafiodhncgaaGreatDoorW.PrintWords Go.Proofs.YtimmafiodhncgaaGreatDoorW.PrintMore Go.Proofs.YtimmafiodhncgaaGreatDoor.TB Go.Proofs.YtimmafiodhncgaaGreatDoor.TK

theorem known_ok (b g c : Nat) (L : List RowD) (j : Nat) (r : RowD) (W : World) (h : Bk b (.slice (some ⟨g, 0, none⟩) L.length c) L W) (hj : L[j]? = some r) (hl : L.length ≤ 65536) :
    Calls Tryz.prog 64 #[.pointer (some ⟨b, 0, none⟩), .int .i64 ((j : Int) + 1)] W fun e w' => e = .returned (.int .i64 0) ∧ w' = W := by
  have HE := Aside0.mk (error_ok b g c L j r W h hj hl)
  clear h
  go_enter Tryz.func64, Tryz.ntmps64
  go_wp2_with (go_at_call 120; (with_reducible refine HE.out.mono ?_); rintro e w' ⟨rfl, rfl⟩)
  go_ret
  exact ⟨rfl, rfl⟩
theorem ownIs (b g c : Nat) (L : List RowD) (j : Nat) (r : RowD) (x : ByteArray) (w : World) (h : Bk b (.slice (some ⟨g, 0, none⟩) L.length c) L w) (hj : L[j]? = some r) (hl : L.length ≤ 65536) (h1 : r.its.length ≤ 65536) (h2 : r.ps.length ≤ 65536) (htab : TW.Tab w)
    (hx : ∀ A' c' B' d' W, TW.Tab W → Calls Tryz.prog 151 #[TW.spec r.k r.nl r.t r.n r.sm r.re r.im r.fl r.mask (.slice A' r.its.length c') (.slice B' r.ps.length d')] W fun e w' => e = .returned (.string x) ∧ Below W.heap.size W w') :
    OwnIs w.heap.size (.pointer (some ⟨b, 0, none⟩)) ((j : Int) + 1) x r.ps w := fun W hW => own_rec b g c L j r x W (h.next hW) hj hl h1 h2 (htab.stays hW) hx
set_option maxHeartbeats 2000000 in
set_option maxRecDepth 100000 in
theorem short_gen (b : Nat) (h : Int) (m : Int) (y : List UInt8) (w : World) (hy : y ≠ [])
    (hk : Calls Tryz.prog 64 #[.pointer (some ⟨b, 0, none⟩), .int .i64 h] w fun e w' => e = .returned (.int .i64 0) ∧ w' = w)
    (hN : ∀ q W, Below w.heap.size w W → w.heap.size ≤ W.heap.size → Sh w.heap.size q (.pointer (some ⟨b, 0, none⟩)) nobody 0 [] W →
      Calls Tryz.prog 66 #[.pointer (some ⟨q, 0, none⟩), .int .i64 h, .string ⟨#[]⟩] W fun e w' => e = .returned (.tuple #[]) ∧ (Sh w.heap.size q (.pointer (some ⟨b, 0, none⟩)) nobody m (Lib.byteCells y) w' ∧ Below w.heap.size W w')) :
    Calls Tryz.prog 36 #[.pointer (some ⟨b, 0, none⟩), .int .i64 h] w fun e w' => e = .returned (.tuple #[.string ⟨y.toArray⟩, .int .i64 0]) ∧ Below w.heap.size w w' := by
  have hB0 : Below w.heap.size w (w.alloc (.cells #[.pointer (some ⟨b, 0, none⟩), .pointer none, .slice none 0 0, .int .i64 0, nobody] 126)) := (Below.refl _ w).alloc (Nat.le_refl _) _
  have hS0 : Sh w.heap.size w.heap.size (.pointer (some ⟨b, 0, none⟩)) nobody 0 [] (w.alloc (.cells #[.pointer (some ⟨b, 0, none⟩), .pointer none, .slice none 0 0, .int .i64 0, nobody] 126)) :=
    ⟨.pointer none, .slice none 0 0, .inl rfl, Nat.le_refl _, World.alloc_heap_new w _, ⟨rfl, .inl ⟨rfl, rfl⟩⟩, by simp [Value.ownBlock]⟩
  have HN := Aside0.mk (hN w.heap.size _ hB0 hB0.size hS0)
  have HB0 := Aside0.mk hB0
  have HK := Aside0.mk hk
  unfold nobody at HN
  clear hN hB0 hS0 hk
  go_enter Tryz.func36, Tryz.ntmps36
  go_wp2_with (go_at_call 64; (with_reducible refine HK.out.mono ?_); rintro e w' ⟨rfl, rfl⟩)
  go_wp2_with (go_at_call 66; (with_reducible refine HN.out.mono ?_))
  rintro e w1 ⟨rfl, h1, b1⟩
  have HS1 := Aside0.mk h1
  have HB1 := Aside0.mk (HB0.out.trans b1)
  have hw1 := b1.size
  clear h1 b1 HN HB0 HK
  go_wp2_with (go_at_call 55; (with_reducible refine (string_calls _ _ _ _ m y _ HS1.out hy).mono ?_))
  rintro e w2 ⟨rfl, b2, -⟩
  have HB2 := Aside0.mk (HB1.out.trans b2)
  clear b2 HS1 HB1
  go_wp2_with (fail)
  go_ret2
  exact ⟨rfl, HB2.out⟩
theorem strCells_byte (s : ByteArray) : Lib.strCells s = Lib.byteCells s.data.toList := rfl
/-- .. of one with one part -/
theorem short_one (b g c : Nat) (L : List RowD) (j i : Nat) (r s : RowD) (x y : ByteArray) (w : World) (h : Bk b (.slice (some ⟨g, 0, none⟩) L.length c) L w) (hj : L[j]? = some r) (hi : L[i]? = some s) (hl : L.length ≤ 65536) (hp : r.ps = [(i : Int) + 1]) (hs : s.ps = [])
    (h1 : r.its.length ≤ 65536) (h2 : s.its.length ≤ 65536) (htab : TW.Tab w) (hxs : x.size ≤ 100000) (hys : y.size ≤ 100000) (cx : ∀ j, (h : j < x.size) → (x[j]'h).toNat < 128) (cy : ∀ j, (h : j < y.size) → (y[j]'h).toNat < 128)
    (hx : ∀ A' c' B' d' W, TW.Tab W → Calls Tryz.prog 151 #[TW.spec r.k r.nl r.t r.n r.sm r.re r.im r.fl r.mask (.slice A' r.its.length c') (.slice B' r.ps.length d')] W fun e w' => e = .returned (.string x) ∧ Below W.heap.size W w')
    (hy : ∀ A' c' B' d' W, TW.Tab W → Calls Tryz.prog 151 #[TW.spec s.k s.nl s.t s.n s.sm s.re s.im s.fl s.mask (.slice A' s.its.length c') (.slice B' s.ps.length d')] W fun e w' => e = .returned (.string y) ∧ Below W.heap.size W w') :
    Calls Tryz.prog 36 #[.pointer (some ⟨b, 0, none⟩), .int .i64 ((j : Int) + 1)] w fun e w' => e = .returned (.tuple #[.string ⟨(x.data.toList ++ [32, 40] ++ y.data.toList ++ [41]).toArray⟩, .int .i64 0]) ∧ Below w.heap.size w w' := by
  have o1 := ownIs b g c L j r x w h hj hl h1 (by rw [hp]; simp) htab hx
  have o2 := ownIs b g c L i s y w h hi hl h2 (by rw [hs]; simp) htab hy
  rw [hp] at o1
  rw [hs] at o2
  refine short_gen b ((j : Int) + 1) ((0 : Nat) + ((x.size + y.size + 3 : Nat) : Int)) _ w (by simp) (known_ok b g c L j r w h hj hl) fun q W hW hsz hS => ?_
  have n2 := node_leaf w.heap.size q _ _ y w o2 hys cy
  refine (node_one w.heap.size q _ _ _ x y w o1 n2 hxs hys cx ⟨#[]⟩ 0 [] W hW hsz (by decide) (by decide) (by decide) hS).mono ?_
  rintro e w' ⟨rfl, hs', hb'⟩
  refine ⟨rfl, ?_, hb'⟩
  rw [List.nil_append, strCells_byte, strCells_byte, strCells_byte, strCells_byte] at hs'
  unfold Lib.byteCells at hs' ⊢
  simpa [List.map_append] using hs'
end Go.Proofs.YtimmafiodhncgaaGreatDoor.TS2
