/- KindsLong BookTwo BookThree -/
import Derived.Test.YtlggimmfaflfnaaGreatDoorM20
import Derived.Deep.LoopGhost
import Derived.Test.YtlggimmfaflfnaaGreatDoorM19
section
/- kinds.Long of a Code and of a Wrap. -/
set_option linter.unusedVariables false
set_option linter.unusedSimpArgs false
namespace Go.Proofs.YtlggimmfaflfnaaGreatDoor.TK
open Go.RowKit Go.Shelf Go.Proofs.YtlggimmfaflfnaaGreatDoorW.PrintWords Go.Proofs.YtlggimmfaflfnaaGreatDoorW.PrintMore Go.Proofs.YtlggimmfaflfnaaGreatDoor.TF Go.Proofs.YtlggimmfaflfnaaGreatDoor.TW

set_option maxRecDepth 100000 in
theorem klong_code (t : ByteArray) (sm : Int) (re im : Nat) (fl : Bool) (mk : Int) (A B E : Option Addr) (c d ec base : Nat) (its : List ByteArray) (w : World)
    (hI : w.ownsRow base 9 1 (.slice A its.length c) its.length (encs Value.string its)) (hi : its.length ≤ 65536) (hchk : chk 1 false t 7 sm re im fl mk its 0 = 0) :
    Calls Tryz.prog 109 #[spec 1 false t 7 sm re im fl mk (.slice A its.length c) (.slice B 0 d), .slice E 0 ec] w fun e w' => e = .returned (.int .i64 6) ∧ Below w.heap.size w w' := by
  have hcheck := fun W (hW : Below w.heap.size w W) => check_calls 1 false t 7 sm re im fl mk A B its.length c 0 d its W rfl (Kd.C_below (Kd.C_of_reads (own_reads_of' (d := ByteArray.empty) hI)) hW) (by omega)
  rw [hchk] at hcheck
  have HCh := Aside0.mk hcheck
  unfold spec at hcheck HCh ⊢
  clear hcheck
  have hx := Blk.new w 37 #[.int .u8 1, .bool false, .string t, .int .i16 7, .int .i8 sm, .float .f64 re, .float .f64 im, .bool fl, .int .u32 mk, .slice A its.length c, .slice B 0 d]
  have b0 : Below w.heap.size w (w.alloc (.cells #[.int .u8 1, .bool false, .string t, .int .i16 7, .int .i8 sm, .float .f64 re, .float .f64 im, .bool fl, .int .u32 mk, .slice A its.length c, .slice B 0 d] 37)) := (Below.refl _ w).alloc (Nat.le_refl _) _
  obtain ⟨V0, hV0⟩ : ∃ V, w.alloc (.cells #[.int .u8 1, .bool false, .string t, .int .i16 7, .int .i8 sm, .float .f64 re, .float .f64 im, .bool fl, .int .u32 mk, .slice A its.length c, .slice B 0 d] 37) = V := ⟨_, rfl⟩
  rw [hV0] at hx b0
  obtain ⟨c0, c1, c2, c3, c4, c5, c6, c7, c8, c9, c10⟩ : V0.cell? ⟨w.heap.size, 0, none⟩ = some (.int .u8 1) ∧ V0.cell? ⟨w.heap.size, 1, none⟩ = some (.bool false) ∧ V0.cell? ⟨w.heap.size, 2, none⟩ = some (.string t) ∧ V0.cell? ⟨w.heap.size, 3, none⟩ = some (.int .i16 7) ∧ V0.cell? ⟨w.heap.size, 4, none⟩ = some (.int .i8 sm) ∧ V0.cell? ⟨w.heap.size, 5, none⟩ = some (.float .f64 re) ∧ V0.cell? ⟨w.heap.size, 6, none⟩ = some (.float .f64 im) ∧ V0.cell? ⟨w.heap.size, 7, none⟩ = some (.bool fl) ∧ V0.cell? ⟨w.heap.size, 8, none⟩ = some (.int .u32 mk) ∧ V0.cell? ⟨w.heap.size, 9, none⟩ = some (.slice A its.length c) ∧ V0.cell? ⟨w.heap.size, 10, none⟩ = some (.slice B 0 d) := ⟨(hx.cell 0).trans rfl, (hx.cell 1).trans rfl, (hx.cell 2).trans rfl, (hx.cell 3).trans rfl, (hx.cell 4).trans rfl, (hx.cell 5).trans rfl, (hx.cell 6).trans rfl, (hx.cell 7).trans rfl, (hx.cell 8).trans rfl, (hx.cell 9).trans rfl, (hx.cell 10).trans rfl⟩
  have HX := Aside0.mk hx
  have HB := Aside0.mk b0
  clear hx b0 hI hchk
  go_enter Tryz.func109, Tryz.ntmps109
  go_wp2_with (go_at_call 106; (with_reducible refine (HCh.out _ HB.out).mono ?_))
  rintro e W1 ⟨rfl, h1⟩
  clear c0 c1 c2 c3 c4 c5 c6 c7 c8 c9 c10
  have hx1 := HX.out.next h1
  obtain ⟨c0, c1, c2, c3, c4, c5, c6, c7, c8, c9, c10⟩ : W1.cell? ⟨w.heap.size, 0, none⟩ = some (.int .u8 1) ∧ W1.cell? ⟨w.heap.size, 1, none⟩ = some (.bool false) ∧ W1.cell? ⟨w.heap.size, 2, none⟩ = some (.string t) ∧ W1.cell? ⟨w.heap.size, 3, none⟩ = some (.int .i16 7) ∧ W1.cell? ⟨w.heap.size, 4, none⟩ = some (.int .i8 sm) ∧ W1.cell? ⟨w.heap.size, 5, none⟩ = some (.float .f64 re) ∧ W1.cell? ⟨w.heap.size, 6, none⟩ = some (.float .f64 im) ∧ W1.cell? ⟨w.heap.size, 7, none⟩ = some (.bool fl) ∧ W1.cell? ⟨w.heap.size, 8, none⟩ = some (.int .u32 mk) ∧ W1.cell? ⟨w.heap.size, 9, none⟩ = some (.slice A its.length c) ∧ W1.cell? ⟨w.heap.size, 10, none⟩ = some (.slice B 0 d) := ⟨(hx1.cell 0).trans rfl, (hx1.cell 1).trans rfl, (hx1.cell 2).trans rfl, (hx1.cell 3).trans rfl, (hx1.cell 4).trans rfl, (hx1.cell 5).trans rfl, (hx1.cell 6).trans rfl, (hx1.cell 7).trans rfl, (hx1.cell 8).trans rfl, (hx1.cell 9).trans rfl, (hx1.cell 10).trans rfl⟩
  have HX1 := Aside0.mk hx1
  have HB1 := Aside0.mk (HB.out.trans (h1.mono HB.out.size))
  clear hx1 h1 HX HB HCh
  go_wp2_with (fail)
  go_loopg [5, 18] 0 (fun kq v5 v18 wr => v5 = .slice none 0 0 ∧ v18 = .int .i64 0 ∧ kq = 0 ∧ wr = W1)
  case atStart => exact ⟨rfl, rfl, rfl, rfl⟩
  case round =>
    obtain ⟨rfl, rfl, rfl, rfl⟩ := hrel
    go_wp2_with (fail)
    go_loopg [9, 42] 0 (fun kq v9 v42 wr2 => v9 = .int .i64 0 ∧ v42 = .int .i64 0 ∧ kq = 0 ∧ wr2 = wr)
    case atStart => exact ⟨rfl, rfl, rfl, rfl⟩
    case round =>
      obtain ⟨rfl, rfl, rfl, rfl⟩ := hrel
      go_wp2_with (go_at_call 154; (with_reducible refine (itoa_seven _).mono ?_); rintro e w2 ⟨rfl, rfl⟩)
      go_ret
      exact ⟨by kernel_rfl, HB1.out⟩
set_option maxRecDepth 100000 in
theorem klong_wrap (t : ByteArray) (n sm : Int) (re im : Nat) (fl : Bool) (mk : Int) (A : Option Addr) (c d ec gp g base bs : Nat) (its : List ByteArray) (p x : Int) (w : World)
    (hI : w.ownsRow base 9 1 (.slice A its.length c) its.length (encs Value.string its)) (hi : its.length ≤ 65536) (hchk : chk 14 false t n sm re im fl mk its 1 = 0) (hp : p ≠ 0) (hx0 : 0 ≤ x) (hx1 : x ≤ 65536) (ht : t.size ≤ 4096)
    (hgp : gp < w.heap.size) (hP : w.cell? ⟨gp, 0, none⟩ = some (.int .i64 p)) (hg : g < w.heap.size) (hE : w.cell? ⟨g, 0, none⟩ = some (.int .i64 x)) :
    Calls Tryz.prog 109 #[spec 14 false t n sm re im fl mk (.slice A its.length c) (.slice (some ⟨gp, 0, none⟩) 1 d), .slice (some ⟨g, 0, none⟩) 1 ec] w fun e w' => e = .returned (.int .i64 ((t.size : Int) + (x + 2))) ∧ Below w.heap.size w w' := by
  have hcheck := fun W (hW : Below w.heap.size w W) => check_calls 14 false t n sm re im fl mk A (some ⟨gp, 0, none⟩) its.length c 1 d its W rfl (Kd.C_below (Kd.C_of_reads (own_reads_of' (d := ByteArray.empty) hI)) hW) (by omega)
  rw [hchk] at hcheck
  have HCh := Aside0.mk hcheck
  unfold spec at hcheck HCh ⊢
  clear hcheck
  have hx := Blk.new w 37 #[.int .u8 14, .bool false, .string t, .int .i16 n, .int .i8 sm, .float .f64 re, .float .f64 im, .bool fl, .int .u32 mk, .slice A its.length c, .slice (some ⟨gp, 0, none⟩) 1 d]
  have b0 : Below w.heap.size w (w.alloc (.cells #[.int .u8 14, .bool false, .string t, .int .i16 n, .int .i8 sm, .float .f64 re, .float .f64 im, .bool fl, .int .u32 mk, .slice A its.length c, .slice (some ⟨gp, 0, none⟩) 1 d] 37)) := (Below.refl _ w).alloc (Nat.le_refl _) _
  obtain ⟨V0, hV0⟩ : ∃ V, w.alloc (.cells #[.int .u8 14, .bool false, .string t, .int .i16 n, .int .i8 sm, .float .f64 re, .float .f64 im, .bool fl, .int .u32 mk, .slice A its.length c, .slice (some ⟨gp, 0, none⟩) 1 d] 37) = V := ⟨_, rfl⟩
  rw [hV0] at hx b0
  obtain ⟨c0, c1, c2, c3, c4, c5, c6, c7, c8, c9, c10⟩ : V0.cell? ⟨w.heap.size, 0, none⟩ = some (.int .u8 14) ∧ V0.cell? ⟨w.heap.size, 1, none⟩ = some (.bool false) ∧ V0.cell? ⟨w.heap.size, 2, none⟩ = some (.string t) ∧ V0.cell? ⟨w.heap.size, 3, none⟩ = some (.int .i16 n) ∧ V0.cell? ⟨w.heap.size, 4, none⟩ = some (.int .i8 sm) ∧ V0.cell? ⟨w.heap.size, 5, none⟩ = some (.float .f64 re) ∧ V0.cell? ⟨w.heap.size, 6, none⟩ = some (.float .f64 im) ∧ V0.cell? ⟨w.heap.size, 7, none⟩ = some (.bool fl) ∧ V0.cell? ⟨w.heap.size, 8, none⟩ = some (.int .u32 mk) ∧ V0.cell? ⟨w.heap.size, 9, none⟩ = some (.slice A its.length c) ∧ V0.cell? ⟨w.heap.size, 10, none⟩ = some (.slice (some ⟨gp, 0, none⟩) 1 d) := ⟨(hx.cell 0).trans rfl, (hx.cell 1).trans rfl, (hx.cell 2).trans rfl, (hx.cell 3).trans rfl, (hx.cell 4).trans rfl, (hx.cell 5).trans rfl, (hx.cell 6).trans rfl, (hx.cell 7).trans rfl, (hx.cell 8).trans rfl, (hx.cell 9).trans rfl, (hx.cell 10).trans rfl⟩
  have HX := Aside0.mk hx
  have HB := Aside0.mk b0
  clear hx b0 hI hchk
  go_enter Tryz.func109, Tryz.ntmps109
  go_wp2_with (go_at_call 106; (with_reducible refine (HCh.out _ HB.out).mono ?_))
  rintro e W1 ⟨rfl, h1⟩
  clear c0 c1 c2 c3 c4 c5 c6 c7 c8 c9 c10
  have hx1 := HX.out.next h1
  obtain ⟨c0, c1, c2, c3, c4, c5, c6, c7, c8, c9, c10⟩ : W1.cell? ⟨w.heap.size, 0, none⟩ = some (.int .u8 14) ∧ W1.cell? ⟨w.heap.size, 1, none⟩ = some (.bool false) ∧ W1.cell? ⟨w.heap.size, 2, none⟩ = some (.string t) ∧ W1.cell? ⟨w.heap.size, 3, none⟩ = some (.int .i16 n) ∧ W1.cell? ⟨w.heap.size, 4, none⟩ = some (.int .i8 sm) ∧ W1.cell? ⟨w.heap.size, 5, none⟩ = some (.float .f64 re) ∧ W1.cell? ⟨w.heap.size, 6, none⟩ = some (.float .f64 im) ∧ W1.cell? ⟨w.heap.size, 7, none⟩ = some (.bool fl) ∧ W1.cell? ⟨w.heap.size, 8, none⟩ = some (.int .u32 mk) ∧ W1.cell? ⟨w.heap.size, 9, none⟩ = some (.slice A its.length c) ∧ W1.cell? ⟨w.heap.size, 10, none⟩ = some (.slice (some ⟨gp, 0, none⟩) 1 d) := ⟨(hx1.cell 0).trans rfl, (hx1.cell 1).trans rfl, (hx1.cell 2).trans rfl, (hx1.cell 3).trans rfl, (hx1.cell 4).trans rfl, (hx1.cell 5).trans rfl, (hx1.cell 6).trans rfl, (hx1.cell 7).trans rfl, (hx1.cell 8).trans rfl, (hx1.cell 9).trans rfl, (hx1.cell 10).trans rfl⟩
  have HX1 := Aside0.mk hx1
  have HB1 := Aside0.mk (HB.out.trans (h1.mono HB.out.size))
  clear hx1 h1 HX HB HCh
  have hP1 : W1.cell? ⟨gp, 0, none⟩ = some (.int .i64 p) := (hb_cell HB1.out hgp).trans hP
  have hE1 : W1.cell? ⟨g, 0, none⟩ = some (.int .i64 x) := (hb_cell HB1.out hg).trans hE
  have hpn : (p == 0) = false := by simp [hp]
  clear hP hE
  go_wp2_with (fail)
  go_loopg [5, 18] 1 (fun kq v5 v18 wr => (kq = 1 ∧ v18 = .int .i64 0 ∧ v5 = .slice none 0 0 ∧ wr = W1) ∨ (kq = 0 ∧ v18 = .int .i64 1 ∧ ∃ gQ cQ, v5 = .slice (some ⟨gQ, 0, none⟩) 1 cQ ∧ Aside0 (wr.cell? ⟨gQ, 0, none⟩ = some (.int .i64 x)) ∧ Aside0 (Below W1.heap.size W1 wr)))
  case atStart => exact .inl ⟨rfl, rfl, rfl, rfl⟩
  case round =>
    rcases hrel with ⟨rfl, rfl, rfl, rfl⟩ | ⟨rfl, rfl, gQ, cQ, rfl, hc5, hB5⟩
    · have hmx : max 0 (min 65537 x) = x := by omega
      go_wp2_with (fail)
      go_roundg 0
      case measure => omega
      case rel =>
        refine .inr ⟨rfl, rfl, wr.heap.size + 1, _, rfl, Aside0.mk ?_, Aside0.mk ?_⟩
        · have h := Blk.new (wr.alloc (.cells #[.int .i64 x] 3)) 3 (#[.int .i64 x] ++ Builtin.zeroCells #[Value.int IntKind.i64 0] ((Question.appendCap 1 0 3).cut (wr.tape wr.drawn (Question.appendCap 1 0 3)) - 1))
          rw [World.size_alloc] at h
          refine (h.cell 0).trans ?_
          rw [Array.getElem?_append_left (by simp)]
          rfl
        · exact (((Below.refl _ wr).alloc (Nat.le_refl _) _).alloc (by rw [World.size_alloc]; omega) _).drew
    · have hB2 := HB1.out.trans (hB5.out.mono HB1.out.size)
      have c0' : wr.cell? ⟨w.heap.size, 0, none⟩ = some (.int .u8 14) := ((HX1.out.next hB5.out).cell 0).trans rfl
      have c2' : wr.cell? ⟨w.heap.size, 2, none⟩ = some (.string t) := ((HX1.out.next hB5.out).cell 2).trans rfl
      have hc := hc5.out
      have HB2 := Aside0.mk hB2
      clear c0 c1 c2 c3 c4 c5 c6 c7 c8 c9 c10 hB2 hP1 hE1
      go_wp2_with (fail)
      go_loopg [9, 42] 1 (fun kq v9 v42 wr2 => (kq = 1 ∧ v9 = .int .i64 0 ∧ v42 = .int .i64 0 ∧ wr2 = wr) ∨ (kq = 0 ∧ v9 = .int .i64 x ∧ v42 = .int .i64 1 ∧ wr2 = wr))
      case atStart => exact .inl ⟨rfl, rfl, rfl, rfl⟩
      case round =>
        rcases hrel with ⟨rfl, rfl, rfl, rfl⟩ | ⟨rfl, rfl, rfl, rfl⟩
        · go_wp2_with (fail)
          go_roundg 0
          case measure => omega
          case rel => exact .inr ⟨rfl, by simp, rfl, rfl⟩
        · go_wp2_with (fail)
          go_ret
          exact ⟨by kernel_rfl, HB2.out⟩
end Go.Proofs.YtlggimmfaflfnaaGreatDoor.TK
end
section
/- book.Make of the two specs that the laws' awake() makes: Code 7, and a Wrap "w" about it. -/
set_option linter.unusedVariables false
set_option linter.unusedSimpArgs false
namespace Go.Proofs.YtlggimmfaflfnaaGreatDoor.TK
open Go.RowKit Go.Shelf Go.Proofs.YtlggimmfaflfnaaGreatDoorW.PrintWords Go.Proofs.YtlggimmfaflfnaaGreatDoorW.PrintMore Go.Proofs.YtlggimmfaflfnaaGreatDoor.TF Go.Proofs.YtlggimmfaflfnaaGreatDoor.TW

theorem own_first {W : World} {base c : Nat} {e : TypeId} {A : Option Addr} {x : Value} (h : W.ownsRow base e 1 (.slice A 1 c) 1 [x]) : ∃ g, A = some ⟨g, 0, none⟩ ∧ W.cell? ⟨g, 0, none⟩ = some x ∧ g < W.heap.size := by
  obtain ⟨g, rfl⟩ := TF.own_some h (by omega)
  have := h.cells (g := g) rfl 0 x rfl
  rw [add_plain'] at this
  exact ⟨g, rfl, this, (h.lt g rfl).2⟩
def codeV : Value := .iface 222 (.int .i16 7)
def recCode (A : Option Addr) (c : Nat) (B : Option Addr) (d : Nat) : RowD := ⟨codeV, 1, false, ⟨#[]⟩, 7, 0, 0, 0, false, 0, A, c, B, d, [], [], 1, 1, 6, 0⟩
def recWrap (g : Nat) (A : Option Addr) (c : Nat) (B : Option Addr) (d : Nat) : RowD := ⟨.iface 243 (.pointer (some ⟨g, 0, none⟩)), 14, false, ⟨#[119]⟩, 0, 0, 0, 0, false, 0, A, c, B, d, [], [1], 2, 2, 9, 1⟩
theorem chk_seven : chk 1 false ⟨#[]⟩ 7 0 0 0 false 0 [] 0 = 0 := by kernel_rfl
theorem chk_about : chk 14 false ⟨#[119]⟩ 0 0 0 0 false 0 [] 1 = 0 := by kernel_rfl
end Go.Proofs.YtlggimmfaflfnaaGreatDoor.TK
end
section
/- book.Make of the specs that erratalaw19.works makes: Code 7 twice, and a Wrap "w" about the first. -/
set_option linter.unusedVariables false
set_option linter.unusedSimpArgs false
namespace Go.Proofs.YtlggimmfaflfnaaGreatDoor.TK
open Go.RowKit Go.Shelf Go.Proofs.YtlggimmfaflfnaaGreatDoorW.PrintWords Go.Proofs.YtlggimmfaflfnaaGreatDoorW.PrintMore Go.Proofs.YtlggimmfaflfnaaGreatDoor.TF Go.Proofs.YtlggimmfaflfnaaGreatDoor.TW

theorem make_seven_on (b : Nat) (v : Value) (L : List RowD) (A B : Option Addr) (c d base : Nat) (w : World) (h : Bk b v L w) (hf : Fine L) (hI : w.ownsRow base 9 1 (.slice A 0 c) 0 []) (hP : w.ownsRow base 3 1 (.slice B 0 d) 0 []) :
    Calls Tryz.prog 54 #[.pointer (some ⟨b, 0, none⟩), spec 1 false ⟨#[]⟩ 7 0 0 0 false 0 (.slice A 0 c) (.slice B 0 d)] w fun e w' => ∃ v' A' c' B' d', e = .returned (.tuple #[.int .i64 ((L.length : Int) + 1), .int .i64 0]) ∧ Bk b v' (L ++ [recCode A' c' B' d']) w' ∧
      Fr (fun q => q = b ∨ v.ownBlock = some q) w w' ∧ (v'.ownBlock = v.ownBlock ∨ ∃ q, v'.ownBlock = some q ∧ w.heap.size ≤ q) := by
  refine (make_ok b v L 1 false ⟨#[]⟩ 7 0 0 0 false 0 A B c d base [] [] 6 (fun err _ _ => err = codeV) (fun _ _ _ _ h _ => h) w h hf hI hP chk_seven (by decide) (by decide) (by simp)
    (fun W A' B' E c' d' ec bs hI' hP' hE' => (kmake_code ⟨#[]⟩ 7 0 0 0 false 0 A' B' E c' d' ec bs [] W hI' (by decide) chk_seven).mono ?_)
    (fun W A' B' E c' d' ec bs hI' hP' hE' => klong_code ⟨#[]⟩ 0 0 0 false 0 A' B' E c' d' ec bs [] W hI' (by decide) chk_seven) (by simp [sumOf]) (by simp [topOf]) (by decide) (by simp [sumOf, lensOf, ByteArray.size]) (by decide)).mono ?_
  · rintro e w' ⟨rfl, hb⟩
    exact ⟨codeV, rfl, rfl, rfl, hb⟩
  · rintro e w' ⟨v', err, A', c', B', d', rfl, ⟨W, hW, rfl⟩, hbk, hone, hfr, hv⟩
    exact ⟨v', A', c', B', d', rfl, hbk, hfr, hv⟩
theorem make_wrap_on (b : Nat) (v : Value) (A B : Option Addr) (c d base : Nat) (A1 : Option Addr) (c1 : Nat) (B1 : Option Addr) (d1 : Nat) (A2 : Option Addr) (c2 : Nat) (B2 : Option Addr) (d2 : Nat) (w : World) (h : Bk b v [recCode A1 c1 B1 d1, recCode A2 c2 B2 d2] w) (hI : w.ownsRow base 9 1 (.slice A 0 c) 0 []) (hP : w.ownsRow base 3 1 (.slice B 1 d) 1 [.int .i64 1]) :
    Calls Tryz.prog 54 #[.pointer (some ⟨b, 0, none⟩), spec 14 false ⟨#[119]⟩ 0 0 0 0 false 0 (.slice A 0 c) (.slice B 1 d)] w fun e w' => ∃ v' g A' c' B' d', e = .returned (.tuple #[.int .i64 3, .int .i64 0]) ∧ Bk b v' [recCode A1 c1 B1 d1, recCode A2 c2 B2 d2, recWrap g A' c' B' d'] w' ∧ w.heap.size ≤ g ∧ Blk w' g 332 #[.string ⟨#[119]⟩, codeV] ∧
      Fr (fun q => q = b ∨ v.ownBlock = some q) w w' ∧ (v'.ownBlock = v.ownBlock ∨ ∃ q, v'.ownBlock = some q ∧ w.heap.size ≤ q) := by
  refine (make_ok b v [recCode A1 c1 B1 d1, recCode A2 c2 B2 d2] 14 false ⟨#[119]⟩ 0 0 0 0 false 0 A B c d base [] [1] 9 (fun err W V => ∃ g, err = .iface 243 (.pointer (some ⟨g, 0, none⟩)) ∧ W.heap.size ≤ g ∧ Blk V g 332 #[.string ⟨#[119]⟩, codeV])
    (fun err W V U h hf => by obtain ⟨g, h1, h2, h3⟩ := h; exact ⟨g, h1, h2, h3.fr hf (by omega)⟩) w h ⟨by simp, by simp [recCode, codeV, Value.oneCell'], by simp [recCode], by simp [recCode], by simp [recCode], by simp [recCode]⟩ hI hP chk_about (by decide) (by decide) (by simp)
    (fun W A' B' E c' d' ec bs hI' hP' hE' => ?_)
    (fun W A' B' E c' d' ec bs hI' hP' hE' => ?_) (by simp [sumOf, recOf, recCode]) (by simp [topOf, recOf, recCode]; omega) (by decide) (by simp [sumOf, recOf, recCode, lensOf, ByteArray.size]) (by decide)).mono ?_
  · obtain ⟨g, rfl, hc, hl⟩ := own_first (x := codeV) hE'
    refine (kmake_wrap ⟨#[119]⟩ 0 0 0 0 false 0 A' B' c' d' ec g bs [] 222 (.int .i16 7) W hI' (by decide) chk_about hl hc).mono ?_
    rintro e w' ⟨b', rfl, h1, h2, h3⟩
    exact ⟨_, rfl, rfl, ⟨b', rfl, h1, h2⟩, h3⟩
  · obtain ⟨gp, rfl, hcp, hlp⟩ := own_first (x := .int .i64 1) hP'
    obtain ⟨g, rfl, hc, hl⟩ := own_first (x := .int .i64 6) hE'
    exact (klong_wrap ⟨#[119]⟩ 0 0 0 0 false 0 A' c' d' ec gp g bs bs [] 1 6 W hI' (by decide) chk_about (by decide) (by decide) (by decide) (by decide) hlp hcp hl hc).mono (by rintro e w' ⟨rfl, h1⟩; exact ⟨rfl, h1⟩)
  · rintro e w' ⟨v', err, A', c', B', d', rfl, ⟨W, hW, g, rfl, hg, hB⟩, hbk, hone, hfr, hv⟩
    exact ⟨v', g, A', c', B', d', rfl, hbk, Nat.le_trans hW hg, hB, hfr, hv⟩
theorem fine_code (A : Option Addr) (c : Nat) (B : Option Addr) (d : Nat) : Fine [recCode A c B d] := ⟨by simp, by simp [recCode, codeV, Value.oneCell'], by simp [recCode], by simp [recCode], by simp [recCode], by simp [recCode]⟩
theorem fine_nil : Fine [] := ⟨by decide, by simp, by simp, by simp, by simp, by simp⟩
end Go.Proofs.YtlggimmfaflfnaaGreatDoor.TK
end
