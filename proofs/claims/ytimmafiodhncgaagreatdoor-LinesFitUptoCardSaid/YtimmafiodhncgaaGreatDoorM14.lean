/- RefAt -/
import Derived.Test.YtimmafiodhncgaaGreatDoorM13
/- (*errataref05.Book).Has, At, Node: of a book without rows, and of one with one row. -/
set_option linter.unusedVariables false
set_option linter.unusedSimpArgs false
namespace Go.Proofs.YtimmafiodhncgaaGreatDoor.TK
open Go.RowKit Go.Shelf Go.Proofs.YtimmafiodhncgaaGreatDoorW.PrintWords Go.Proofs.YtimmafiodhncgaaGreatDoorW.PrintMore Go.Proofs.YtimmafiodhncgaaGreatDoor.TF Go.Proofs.YtimmafiodhncgaaGreatDoor.TW

/-- a row of the document's book -/
def rrow (pn : Addr) (k : Int) (nl : Bool) (t : ByteArray) (n sm : Int) (re im : Nat) (fl : Bool) (mk : Int) (A : Option Addr) (la ca : Nat) (B : Option Addr) (lb cb : Nat) (sz dp lg wd : Int) : Array Value := #[.pointer (some pn), .int .u8 k, .bool nl, .string t, .int .i16 n, .int .i8 sm, .float .f64 re, .float .f64 im, .bool fl, .int .u32 mk, .slice A la ca, .slice B lb cb, .int .i64 sz, .int .i64 dp, .int .i64 lg, .int .i64 wd]
/-- a book of the document's with one row -/
structure RBk (b g c : Nat) (R : Array Value) (w : World) : Prop where
  head : Blk w b 121 #[.slice (some ⟨g, 0, none⟩) 1 c]
  rows : w.ownsRow 0 201 16 (.slice (some ⟨g, 0, none⟩) 1 c) 1 R.toList
  cells : ∀ i, i < 16 → w.cell? ⟨g, i, none⟩ = R[i]?
  size : R.size = 16
theorem RBk.next {b g c : Nat} {R : Array Value} {w W : World} (h : RBk b g c R w) (hb : Below w.heap.size w W) (hc : (w.cell? ⟨g, 0, none⟩).isSome = true) : RBk b g c R W := by
  obtain ⟨x, hx⟩ := Option.isSome_iff_exists.1 hc
  exact ⟨h.head.next hb, TF.own_next h.rows hb, fun i hi => (World.cell?_of_block (hb.block g (World.block_lt_of_cell? w _ hx))).trans (h.cells i hi), h.size⟩
theorem refhas_one (b g c : Nat) (R : Array Value) (w : World) (h : RBk b g c R w) : Calls Tryz.prog 115 #[.pointer (some ⟨b, 0, none⟩), .int .i64 1] w fun e w' => e = .returned (.bool true) ∧ w' = w := by
  have hb : w.cell? ⟨b, 0, none⟩ = some (.slice (some ⟨g, 0, none⟩) 1 c) := (h.head.cell 0).trans rfl
  clear h
  go_enter Tryz.func115, Tryz.ntmps115
  go_wp2
  go_ret
  exact ⟨rfl, rfl⟩
set_option maxHeartbeats 4000000 in
set_option maxRecDepth 100000 in
theorem refat_one (b g c : Nat) (pn : Addr) (k : Int) (nl : Bool) (t : ByteArray) (n sm : Int) (re im : Nat) (fl : Bool) (mk : Int) (A : Option Addr) (la ca : Nat) (B : Option Addr) (lb cb : Nat) (sz dp lg wd : Int) (w : World) (h : RBk b g c (rrow pn k nl t n sm re im fl mk A la ca B lb cb sz dp lg wd) w) : Calls Tryz.prog 118 #[.pointer (some ⟨b, 0, none⟩), .int .i64 1] w fun e w' => e = .returned (.agg (rrow pn k nl t n sm re im fl mk A la ca B lb cb sz dp lg wd)) ∧ Below w.heap.size w w' := by
  unfold rrow at h ⊢
  obtain ⟨R, hR⟩ : ∃ R : Array Value, #[.pointer (some pn), .int .u8 k, .bool nl, .string t, .int .i16 n, .int .i8 sm, .float .f64 re, .float .f64 im, .bool fl, .int .u32 mk, .slice A la ca, .slice B lb cb, .int .i64 sz, .int .i64 dp, .int .i64 lg, .int .i64 wd] = R := ⟨_, rfl⟩
  have hls : R.size = 16 := by rw [← hR]; rfl
  obtain ⟨a, ha⟩ : ∃ a, w.heap.size = a := ⟨_, rfl⟩
  have hn := Blk.new w 201 #[.pointer none, .int .u8 0, .bool false, .string ⟨#[]⟩, .int .i16 0, .int .i8 0, .float .f64 0, .float .f64 0, .bool false, .int .u32 0, .slice none 0 0, .slice none 0 0, .int .i64 0, .int .i64 0, .int .i64 0, .int .i64 0]
  have bb : Below w.heap.size w (w.alloc (.cells #[.pointer none, .int .u8 0, .bool false, .string ⟨#[]⟩, .int .i16 0, .int .i8 0, .float .f64 0, .float .f64 0, .bool false, .int .u32 0, .slice none 0 0, .slice none 0 0, .int .i64 0, .int .i64 0, .int .i64 0, .int .i64 0] 201)) := (Below.refl _ w).alloc (Nat.le_refl _) _
  have h' : RBk b g c #[.pointer (some pn), .int .u8 k, .bool nl, .string t, .int .i16 n, .int .i8 sm, .float .f64 re, .float .f64 im, .bool fl, .int .u32 mk, .slice A la ca, .slice B lb cb, .int .i64 sz, .int .i64 dp, .int .i64 lg, .int .i64 wd] (w.alloc (.cells #[.pointer none, .int .u8 0, .bool false, .string ⟨#[]⟩, .int .i16 0, .int .i8 0, .float .f64 0, .float .f64 0, .bool false, .int .u32 0, .slice none 0 0, .slice none 0 0, .int .i64 0, .int .i64 0, .int .i64 0, .int .i64 0] 201)) := ⟨h.head.next bb, TF.own_next h.rows bb, fun i hi => (World.cell?_of_block (bb.block g (World.block_lt_of_cell? w _ ((h.cells 0 (by decide)).trans rfl)))).trans (h.cells i hi), h.size⟩
  rw [ha] at hn bb
  have hst : Sem.run Tryz.prog (storeCells ⟨a, 0, none⟩ R.toList 0) (w.alloc (.cells #[.pointer none, .int .u8 0, .bool false, .string ⟨#[]⟩, .int .i16 0, .int .i8 0, .float .f64 0, .float .f64 0, .bool false, .int .u32 0, .slice none 0 0, .slice none 0 0, .int .i64 0, .int .i64 0, .int .i64 0, .int .i64 0] 201)) = .ok () ((w.alloc (.cells #[.pointer none, .int .u8 0, .bool false, .string ⟨#[]⟩, .int .i16 0, .int .i8 0, .float .f64 0, .float .f64 0, .bool false, .int .u32 0, .slice none 0 0, .slice none 0 0, .int .i64 0, .int .i64 0, .int .i64 0, .int .i64 0] 201)).setRow a R) := run_storeCells_from a 201 R.toList 0 _ _ hn (by simp [hls]) (fun v hv => by rw [← hR] at hv; revert v; simp [Value.oneCell'])
  have hg2 := setRow_heap (w.alloc (.cells #[.pointer none, .int .u8 0, .bool false, .string ⟨#[]⟩, .int .i16 0, .int .i8 0, .float .f64 0, .float .f64 0, .bool false, .int .u32 0, .slice none 0 0, .slice none 0 0, .int .i64 0, .int .i64 0, .int .i64 0, .int .i64 0] 201)) a #[.pointer none, .int .u8 0, .bool false, .string ⟨#[]⟩, .int .i16 0, .int .i8 0, .float .f64 0, .float .f64 0, .bool false, .int .u32 0, .slice none 0 0, .slice none 0 0, .int .i64 0, .int .i64 0, .int .i64 0, .int .i64 0] R 201 (0, 0) hn
  have b2 : Below a w ((w.alloc (.cells #[.pointer none, .int .u8 0, .bool false, .string ⟨#[]⟩, .int .i16 0, .int .i8 0, .float .f64 0, .float .f64 0, .bool false, .int .u32 0, .slice none 0 0, .slice none 0 0, .int .i64 0, .int .i64 0, .int .i64 0, .int .i64 0] 201)).setRow a R) := bb.trans ⟨rfl, rfl, rfl, by rw [setRow_size]; exact Nat.le_refl _, fun i hi => setRow_other _ _ _ _ (by omega)⟩
  have hb : (w.alloc (.cells #[.pointer none, .int .u8 0, .bool false, .string ⟨#[]⟩, .int .i16 0, .int .i8 0, .float .f64 0, .float .f64 0, .bool false, .int .u32 0, .slice none 0 0, .slice none 0 0, .int .i64 0, .int .i64 0, .int .i64 0, .int .i64 0] 201)).cell? ⟨b, 0, none⟩ = some (.slice (some ⟨g, 0, none⟩) 1 c) := (h'.head.cell 0).trans rfl
  have c0 : (w.alloc (.cells #[.pointer none, .int .u8 0, .bool false, .string ⟨#[]⟩, .int .i16 0, .int .i8 0, .float .f64 0, .float .f64 0, .bool false, .int .u32 0, .slice none 0 0, .slice none 0 0, .int .i64 0, .int .i64 0, .int .i64 0, .int .i64 0] 201)).cell? ⟨g, 0, none⟩ = some (.pointer (some pn)) := (h'.cells 0 (by decide)).trans rfl
  have c1 : (w.alloc (.cells #[.pointer none, .int .u8 0, .bool false, .string ⟨#[]⟩, .int .i16 0, .int .i8 0, .float .f64 0, .float .f64 0, .bool false, .int .u32 0, .slice none 0 0, .slice none 0 0, .int .i64 0, .int .i64 0, .int .i64 0, .int .i64 0] 201)).cell? ⟨g, 1, none⟩ = some (.int .u8 k) := (h'.cells 1 (by decide)).trans rfl
  have c2 : (w.alloc (.cells #[.pointer none, .int .u8 0, .bool false, .string ⟨#[]⟩, .int .i16 0, .int .i8 0, .float .f64 0, .float .f64 0, .bool false, .int .u32 0, .slice none 0 0, .slice none 0 0, .int .i64 0, .int .i64 0, .int .i64 0, .int .i64 0] 201)).cell? ⟨g, 2, none⟩ = some (.bool nl) := (h'.cells 2 (by decide)).trans rfl
  have c3 : (w.alloc (.cells #[.pointer none, .int .u8 0, .bool false, .string ⟨#[]⟩, .int .i16 0, .int .i8 0, .float .f64 0, .float .f64 0, .bool false, .int .u32 0, .slice none 0 0, .slice none 0 0, .int .i64 0, .int .i64 0, .int .i64 0, .int .i64 0] 201)).cell? ⟨g, 3, none⟩ = some (.string t) := (h'.cells 3 (by decide)).trans rfl
  have c4 : (w.alloc (.cells #[.pointer none, .int .u8 0, .bool false, .string ⟨#[]⟩, .int .i16 0, .int .i8 0, .float .f64 0, .float .f64 0, .bool false, .int .u32 0, .slice none 0 0, .slice none 0 0, .int .i64 0, .int .i64 0, .int .i64 0, .int .i64 0] 201)).cell? ⟨g, 4, none⟩ = some (.int .i16 n) := (h'.cells 4 (by decide)).trans rfl
  have c5 : (w.alloc (.cells #[.pointer none, .int .u8 0, .bool false, .string ⟨#[]⟩, .int .i16 0, .int .i8 0, .float .f64 0, .float .f64 0, .bool false, .int .u32 0, .slice none 0 0, .slice none 0 0, .int .i64 0, .int .i64 0, .int .i64 0, .int .i64 0] 201)).cell? ⟨g, 5, none⟩ = some (.int .i8 sm) := (h'.cells 5 (by decide)).trans rfl
  have c6 : (w.alloc (.cells #[.pointer none, .int .u8 0, .bool false, .string ⟨#[]⟩, .int .i16 0, .int .i8 0, .float .f64 0, .float .f64 0, .bool false, .int .u32 0, .slice none 0 0, .slice none 0 0, .int .i64 0, .int .i64 0, .int .i64 0, .int .i64 0] 201)).cell? ⟨g, 6, none⟩ = some (.float .f64 re) := (h'.cells 6 (by decide)).trans rfl
  have c7 : (w.alloc (.cells #[.pointer none, .int .u8 0, .bool false, .string ⟨#[]⟩, .int .i16 0, .int .i8 0, .float .f64 0, .float .f64 0, .bool false, .int .u32 0, .slice none 0 0, .slice none 0 0, .int .i64 0, .int .i64 0, .int .i64 0, .int .i64 0] 201)).cell? ⟨g, 7, none⟩ = some (.float .f64 im) := (h'.cells 7 (by decide)).trans rfl
  have c8 : (w.alloc (.cells #[.pointer none, .int .u8 0, .bool false, .string ⟨#[]⟩, .int .i16 0, .int .i8 0, .float .f64 0, .float .f64 0, .bool false, .int .u32 0, .slice none 0 0, .slice none 0 0, .int .i64 0, .int .i64 0, .int .i64 0, .int .i64 0] 201)).cell? ⟨g, 8, none⟩ = some (.bool fl) := (h'.cells 8 (by decide)).trans rfl
  have c9 : (w.alloc (.cells #[.pointer none, .int .u8 0, .bool false, .string ⟨#[]⟩, .int .i16 0, .int .i8 0, .float .f64 0, .float .f64 0, .bool false, .int .u32 0, .slice none 0 0, .slice none 0 0, .int .i64 0, .int .i64 0, .int .i64 0, .int .i64 0] 201)).cell? ⟨g, 9, none⟩ = some (.int .u32 mk) := (h'.cells 9 (by decide)).trans rfl
  have c10 : (w.alloc (.cells #[.pointer none, .int .u8 0, .bool false, .string ⟨#[]⟩, .int .i16 0, .int .i8 0, .float .f64 0, .float .f64 0, .bool false, .int .u32 0, .slice none 0 0, .slice none 0 0, .int .i64 0, .int .i64 0, .int .i64 0, .int .i64 0] 201)).cell? ⟨g, 10, none⟩ = some (.slice A la ca) := (h'.cells 10 (by decide)).trans rfl
  have c11 : (w.alloc (.cells #[.pointer none, .int .u8 0, .bool false, .string ⟨#[]⟩, .int .i16 0, .int .i8 0, .float .f64 0, .float .f64 0, .bool false, .int .u32 0, .slice none 0 0, .slice none 0 0, .int .i64 0, .int .i64 0, .int .i64 0, .int .i64 0] 201)).cell? ⟨g, 11, none⟩ = some (.slice B lb cb) := (h'.cells 11 (by decide)).trans rfl
  have c12 : (w.alloc (.cells #[.pointer none, .int .u8 0, .bool false, .string ⟨#[]⟩, .int .i16 0, .int .i8 0, .float .f64 0, .float .f64 0, .bool false, .int .u32 0, .slice none 0 0, .slice none 0 0, .int .i64 0, .int .i64 0, .int .i64 0, .int .i64 0] 201)).cell? ⟨g, 12, none⟩ = some (.int .i64 sz) := (h'.cells 12 (by decide)).trans rfl
  have c13 : (w.alloc (.cells #[.pointer none, .int .u8 0, .bool false, .string ⟨#[]⟩, .int .i16 0, .int .i8 0, .float .f64 0, .float .f64 0, .bool false, .int .u32 0, .slice none 0 0, .slice none 0 0, .int .i64 0, .int .i64 0, .int .i64 0, .int .i64 0] 201)).cell? ⟨g, 13, none⟩ = some (.int .i64 dp) := (h'.cells 13 (by decide)).trans rfl
  have c14 : (w.alloc (.cells #[.pointer none, .int .u8 0, .bool false, .string ⟨#[]⟩, .int .i16 0, .int .i8 0, .float .f64 0, .float .f64 0, .bool false, .int .u32 0, .slice none 0 0, .slice none 0 0, .int .i64 0, .int .i64 0, .int .i64 0, .int .i64 0] 201)).cell? ⟨g, 14, none⟩ = some (.int .i64 lg) := (h'.cells 14 (by decide)).trans rfl
  have c15 : (w.alloc (.cells #[.pointer none, .int .u8 0, .bool false, .string ⟨#[]⟩, .int .i16 0, .int .i8 0, .float .f64 0, .float .f64 0, .bool false, .int .u32 0, .slice none 0 0, .slice none 0 0, .int .i64 0, .int .i64 0, .int .i64 0, .int .i64 0] 201)).cell? ⟨g, 15, none⟩ = some (.int .i64 wd) := (h'.cells 15 (by decide)).trans rfl
  have HH := Aside0.mk (refhas_one b g c _ _ h')
  obtain ⟨U2, hU2⟩ : ∃ U2, (w.alloc (.cells #[.pointer none, .int .u8 0, .bool false, .string ⟨#[]⟩, .int .i16 0, .int .i8 0, .float .f64 0, .float .f64 0, .bool false, .int .u32 0, .slice none 0 0, .slice none 0 0, .int .i64 0, .int .i64 0, .int .i64 0, .int .i64 0] 201)).setRow a R = U2 := ⟨_, rfl⟩
  rw [hU2] at hst hg2 b2
  have HG := Aside0.mk hg2
  have HB := Aside0.mk b2
  have HR := Aside0.mk hR
  have HS := Aside0.mk (show (Tryz.prog.info? 201).map (·.size) = some R.size from by rw [hls]; kernel_rfl)
  clear hn bb h h' hg2 b2 hU2
  go_enter Tryz.func118, Tryz.ntmps118
  go_wp2_with (go_at_call 115; (with_reducible refine HH.out.mono ?_); rintro e w' ⟨rfl, rfl⟩)
  refine bodyPost_ret (results_cell_row rfl _ U2 a 201 R (0, 0) _ rfl HG.out Tryz.underlying201 rfl HS.out) rfl ?_
  exact ⟨by rw [HR.out], by rw [ha]; exact HB.out⟩
set_option maxRecDepth 100000 in
theorem refnode_one (b g c : Nat) (pn : Addr) (k : Int) (nl : Bool) (t : ByteArray) (n sm : Int) (re im : Nat) (fl : Bool) (mk : Int) (A : Option Addr) (la ca : Nat) (B : Option Addr) (lb cb : Nat) (sz dp lg wd : Int) (w : World) (h : RBk b g c (rrow pn k nl t n sm re im fl mk A la ca B lb cb sz dp lg wd) w) : Calls Tryz.prog 116 #[.pointer (some ⟨b, 0, none⟩), .int .i64 1] w fun e w' => e = .returned (.pointer (some pn)) ∧ Below w.heap.size w w' := by
  have HA := refat_one b g c pn k nl t n sm re im fl mk A la ca B lb cb sz dp lg wd w h
  unfold rrow at HA
  have HA := Aside0.mk HA
  have hf : ∀ W, Sem.run Tryz.prog (Instr.field 201 (.agg #[.pointer (some pn), .int .u8 k, .bool nl, .string t, .int .i16 n, .int .i8 sm, .float .f64 re, .float .f64 im, .bool fl, .int .u32 mk, .slice A la ca, .slice B lb cb, .int .i64 sz, .int .i64 dp, .int .i64 lg, .int .i64 wd]) 0) W = .ok (.pointer (some pn)) W := fun W => rfl
  clear h
  go_enter Tryz.func116, Tryz.ntmps116
  go_wp2_with (go_at_call 118; (with_reducible refine HA.out.mono ?_))
  rintro e w1 ⟨rfl, h1⟩
  have H1 := Aside0.mk h1
  clear h1 HA
  go_wp2_with (fail)
  go_ret
  exact ⟨rfl, H1.out⟩
end Go.Proofs.YtimmafiodhncgaaGreatDoor.TK
