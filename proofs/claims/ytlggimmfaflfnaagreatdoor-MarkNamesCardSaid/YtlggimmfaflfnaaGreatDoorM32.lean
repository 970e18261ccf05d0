/- MarkWords MarkIs Locks Reg -/
import Derived.Test.YtlggimmfaflfnaaGreatDoorM14
import Derived.Test.YtlggimmfaflfnaaGreatDoorM21
import Derived.Test.YtlggimmfaflfnaaGreatDoorM30
import Derived.Test.YtlggimmfaflfnaaGreatDoorM20
import Derived.Test.YtlggimmfaflfnaaGreatDoorM12
import Derived.Test.YtlggimmfaflfnaaGreatDoorM31
import Derived.Test.YtlggimmfaflfnaaGreatDoorM17
import Derived.Deep.RegionHeld3
import Derived.BigQuiet
import Derived.Test.YtlggimmfaflfnaaGreatDoorProg
import Derived.Conc.MuLone
import Derived.KernelRfl
import Derived.Test.YtlggimmfaflfnaaGreatDoorM1
import Derived.Recover
import Derived.RegionCalls
import Derived.RegionTactic
import Derived.WalkSpells
import Derived.Carry
import Derived.Test.YtlggimmfaflfnaaGreatDoorM3
section
/- What stands of the records of erratalaw19.works: their words, parts, forms; Form, Alike. -/
set_option linter.unusedVariables false
set_option linter.unusedSimpArgs false
namespace Go.Proofs.YtlggimmfaflfnaaGreatDoor.MK
open Go.RowKit Go.Shelf Go.Proofs.YtlggimmfaflfnaaGreatDoorW.PrintWords Go.Proofs.YtlggimmfaflfnaaGreatDoorW.PrintMore Go.Proofs.YtlggimmfaflfnaaGreatDoor.TF Go.Proofs.YtlggimmfaflfnaaGreatDoor.TK Go.Proofs.YtlggimmfaflfnaaGreatDoor.TW Go.Proofs.YtlggimmfaflfnaaGreatDoor.QW

def txW : ByteArray := ⟨#[119, 114, 97, 112, 32, 34, 119, 34]⟩
def txC : ByteArray := ⟨#[99, 111, 100, 101, 32, 55]⟩
theorem rowC : lines_row.f 8 [nameOf 1, ⟨#[55]⟩] = some txC := by kernel_rfl
theorem quoW : lines_quoted.f 8 [⟨#[119]⟩] = some ⟨#[34, 119, 34]⟩ := by kernel_rfl
theorem rowW : lines_row.f 8 [nameOf 14, ⟨#[34, 119, 34]⟩] = some txW := by kernel_rfl
theorem wordsC (A c B d) : ∀ A' c' B' d' W, TW.Tab W → Calls Tryz.prog 164 #[TW.spec (recCode A c B d).k (recCode A c B d).nl (recCode A c B d).t (recCode A c B d).n (recCode A c B d).sm (recCode A c B d).re (recCode A c B d).im (recCode A c B d).fl (recCode A c B d).mask (.slice A' (recCode A c B d).its.length c') (.slice B' (recCode A c B d).ps.length d')] W fun e w' => e = .returned (.string txC) ∧ Below W.heap.size W w' :=
  fun A' c' B' d' W hT => words_code _ 7 ⟨#[55]⟩ _ _ _ _ _ _ _ _ _ _ 8 _ W hT (by decide) (by decide) (fun W => itoa_seven W) rowC
theorem wordsW (g A c B d) : ∀ A' c' B' d' W, TW.Tab W → Calls Tryz.prog 164 #[TW.spec (recWrap g A c B d).k (recWrap g A c B d).nl (recWrap g A c B d).t (recWrap g A c B d).n (recWrap g A c B d).sm (recWrap g A c B d).re (recWrap g A c B d).im (recWrap g A c B d).fl (recWrap g A c B d).mask (.slice A' (recWrap g A c B d).its.length c') (.slice B' (recWrap g A c B d).ps.length d')] W fun e w' => e = .returned (.string txW) ∧ Below W.heap.size W w' :=
  fun A' c' B' d' W hT => words_text 14 ⟨#[119]⟩ _ _ _ _ _ _ _ _ _ _ 8 8 _ _ _ W hT (.inr rfl) (fun W => Tryz.strconv_Itoa_small 0 (by decide) W) quoW rowW
def shortT : ByteArray := ⟨#[119, 114, 97, 112, 32, 34, 119, 34, 32, 40, 99, 111, 100, 101, 32, 55, 41]⟩
/-- the book that works makes -/
structure T3 (b : Nat) (w : World) : Prop where
  tab : TW.Tab w
  bk : ∃ g c A1 c1 B1 d1 A2 c2 B2 d2 q A3 c3 B3 d3, Bk b (.slice (some ⟨g, 0, none⟩) 3 c) [recCode A1 c1 B1 d1, recCode A2 c2 B2 d2, recWrap q A3 c3 B3 d3] w
theorem T3.next {b : Nat} {w W : World} (h : T3 b w) (hb : Below w.heap.size w W) : T3 b W := by
  obtain ⟨g, c, A1, c1, B1, d1, A2, c2, B2, d2, q, A3, c3, B3, d3, hk⟩ := h.bk
  exact ⟨h.tab.stays hb, g, c, A1, c1, B1, d1, A2, c2, B2, d2, q, A3, c3, B3, d3, hk.next hb⟩
theorem T3.code (b : Nat) (w : World) (h : T3 b w) (i : Nat) (hi : i = 0 ∨ i = 1) : Nd w.heap.size b ((i : Int) + 1) txC [] w := by
  obtain ⟨g, c, A1, c1, B1, d1, A2, c2, B2, d2, q, A3, c3, B3, d3, hk⟩ := h.bk
  rcases hi with rfl | rfl
  · exact ⟨fun W hW => node_rec b g c [recCode A1 c1 B1 d1, recCode A2 c2 B2 d2, recWrap q A3 c3 B3 d3] 0 (recCode A1 c1 B1 d1) txC W (hk.next hW) rfl (by decide : 3 ≤ 65536) (by show 0 ≤ _; omega) (by show 0 ≤ _; omega) (h.tab.stays hW) (wordsC _ _ _ _),
      fun W hW => parts_rec b g c [recCode A1 c1 B1 d1, recCode A2 c2 B2 d2, recWrap q A3 c3 B3 d3] 0 (recCode A1 c1 B1 d1) W (hk.next hW) rfl (by decide : 3 ≤ 65536) (by show 0 ≤ _; omega) (by show 0 ≤ _; omega) (.inl rfl) (fun p hp => by cases hp)⟩
  · exact ⟨fun W hW => node_rec b g c [recCode A1 c1 B1 d1, recCode A2 c2 B2 d2, recWrap q A3 c3 B3 d3] 1 (recCode A2 c2 B2 d2) txC W (hk.next hW) rfl (by decide : 3 ≤ 65536) (by show 0 ≤ _; omega) (by show 0 ≤ _; omega) (h.tab.stays hW) (wordsC _ _ _ _),
      fun W hW => parts_rec b g c [recCode A1 c1 B1 d1, recCode A2 c2 B2 d2, recWrap q A3 c3 B3 d3] 1 (recCode A2 c2 B2 d2) W (hk.next hW) rfl (by decide : 3 ≤ 65536) (by show 0 ≤ _; omega) (by show 0 ≤ _; omega) (.inl rfl) (fun p hp => by cases hp)⟩
theorem T3.wrap (b : Nat) (w : World) (h : T3 b w) : Nd w.heap.size b 3 txW [1] w := by
  obtain ⟨g, c, A1, c1, B1, d1, A2, c2, B2, d2, q, A3, c3, B3, d3, hk⟩ := h.bk
  exact ⟨fun W hW => node_rec b g c [recCode A1 c1 B1 d1, recCode A2 c2 B2 d2, recWrap q A3 c3 B3 d3] 2 (recWrap q A3 c3 B3 d3) txW W (hk.next hW) rfl (by decide : 3 ≤ 65536) (by show 0 ≤ _; omega) (by show 1 ≤ _; omega) (h.tab.stays hW) (wordsW _ _ _ _ _),
      fun W hW => parts_rec b g c [recCode A1 c1 B1 d1, recCode A2 c2 B2 d2, recWrap q A3 c3 B3 d3] 2 (recWrap q A3 c3 B3 d3) W (hk.next hW) rfl (by decide : 3 ≤ 65536) (by show 0 ≤ _; omega) (by show 1 ≤ _; omega) (.inr rfl) (fun p hp => by
        have : p ∈ [(1 : Int)] := hp
        simp at this; omega)⟩
theorem whole_code (b : Nat) (w : World) (h : T3 b w) (i : Nat) (hi : i = 0 ∨ i = 1) : Calls Tryz.prog 42 #[.pointer (some ⟨b, 0, none⟩), .int .i64 ((i : Int) + 1)] w fun e w' => e = .returned (.string txC) ∧ Below w.heap.size w w' :=
  whole_leaf b _ txC w (h.code b w i hi) (by rcases hi with rfl | rfl <;> rfl) (by decide)
theorem whole_wrap (b : Nat) (w : World) (h : T3 b w) : Calls Tryz.prog 42 #[.pointer (some ⟨b, 0, none⟩), .int .i64 3] w fun e w' => e = .returned (.string shortT) ∧ Below w.heap.size w w' :=
  whole_one b 3 1 txW txC shortT w (h.wrap b w) (h.code b w 0 (.inl rfl)) rfl rfl (by decide) (by decide) (by decide +kernel)
theorem check_rec (b : Nat) (w : World) (h : T3 b w) (i : Nat) (hi : i < 3) : Calls Tryz.prog 40 #[.pointer (some ⟨b, 0, none⟩), .int .i64 ((i : Int) + 1)] w fun e w' => e = .returned (.int .i64 0) ∧ w' = w := by
  obtain ⟨g, c, A1, c1, B1, d1, A2, c2, B2, d2, q, A3, c3, B3, d3, hk⟩ := h.bk
  have hE : Calls Tryz.prog 64 #[.pointer (some ⟨b, 0, none⟩), .int .i64 ((i : Int) + 1)] w fun e w' => ∃ x, e = .returned (.tuple #[x, .int .i64 0]) ∧ w' = w := by
    have : i = 0 ∨ i = 1 ∨ i = 2 := by omega
    rcases this with rfl | rfl | rfl
    · exact (error_ok b g c [recCode A1 c1 B1 d1, recCode A2 c2 B2 d2, recWrap q A3 c3 B3 d3] 0 _ w hk rfl (by decide : 3 ≤ 65536)).mono (fun e w' h => ⟨_, h⟩)
    · exact (error_ok b g c [recCode A1 c1 B1 d1, recCode A2 c2 B2 d2, recWrap q A3 c3 B3 d3] 1 _ w hk rfl (by decide : 3 ≤ 65536)).mono (fun e w' h => ⟨_, h⟩)
    · exact (error_ok b g c [recCode A1 c1 B1 d1, recCode A2 c2 B2 d2, recWrap q A3 c3 B3 d3] 2 _ w hk rfl (by decide : 3 ≤ 65536)).mono (fun e w' h => ⟨_, h⟩)
  have HE := Aside0.mk hE
  clear hE h hk hi
  go_enter Tryz.func40, Tryz.ntmps40
  go_wp2_with (go_at_call 64; (with_reducible refine HE.out.mono ?_); rintro e w' ⟨x, rfl, rfl⟩)
  go_ret
  exact ⟨rfl, rfl⟩
theorem pair_rec (b : Nat) (w : World) (h : T3 b w) (i j : Nat) (hi : i < 3) (hj : j < 3) : Calls Tryz.prog 43 #[.pointer (some ⟨b, 0, none⟩), .int .i64 ((i : Int) + 1), .pointer (some ⟨b, 0, none⟩), .int .i64 ((j : Int) + 1)] w fun e w' => e = .returned (.int .i64 0) ∧ w' = w := by
  have H1 := Aside0.mk (check_rec b w h i hi)
  have H2 := Aside0.mk (check_rec b w h j hj)
  clear h
  go_enter Tryz.func43, Tryz.ntmps43
  go_wp2_with (go_at_call 40; (with_reducible refine H1.out.mono ?_))
  rintro e w1 ⟨rfl, rfl⟩
  go_wp2_with (go_at_call 40; (with_reducible refine H2.out.mono ?_))
  rintro e w1 ⟨rfl, rfl⟩
  go_wp2
  go_ret
  exact ⟨rfl, rfl⟩
theorem form_three (b : Nat) (w : World) (h : T3 b w) : Calls Tryz.prog 17 #[.pointer (some ⟨b, 0, none⟩), .int .i64 3] w fun e w' => e = .returned (.tuple #[.string shortT, .int .i64 0]) ∧ Below w.heap.size w w' := by
  have H1 := Aside0.mk (check_rec b w h 2 (by decide))
  have H2 := Aside0.mk (whole_wrap b w h)
  clear h
  go_enter Tryz.func17, Tryz.ntmps17
  go_wp2_with (go_at_call 40; refine H1.out.mono ?_)
  rintro e w1 ⟨rfl, rfl⟩
  go_wp2_with (go_at_call 42; (with_reducible refine H2.out.mono ?_))
  rintro e w1 ⟨rfl, h1⟩
  go_wp2
  go_ret2
  exact ⟨rfl, h1⟩
theorem alike_two (b : Nat) (w : World) (h : T3 b w) : Calls Tryz.prog 18 #[.pointer (some ⟨b, 0, none⟩), .int .i64 1, .pointer (some ⟨b, 0, none⟩), .int .i64 2] w fun e w' => e = .returned (.tuple #[.bool true, .int .i64 0]) ∧ Below w.heap.size w w' := by
  have H1 := Aside0.mk (pair_rec b w h 0 1 (by decide) (by decide))
  have H2 := Aside0.mk (whole_code b w h 0 (.inl rfl))
  have H3 := Aside0.mk (fun W (hW : Below w.heap.size w W) => whole_code b W (h.next hW) 1 (.inr rfl))
  clear h
  go_enter Tryz.func18, Tryz.ntmps18
  go_wp2_with (go_at_call 43; refine H1.out.mono ?_)
  rintro e w1 ⟨rfl, rfl⟩
  go_wp2_with (go_at_call 42; refine H2.out.mono ?_)
  rintro e w2 ⟨rfl, h2⟩
  have HB2 := Aside0.mk h2
  clear h2
  go_wp2_with (go_at_call 42; refine (H3.out _ HB2.out).mono ?_)
  rintro e w3 ⟨rfl, h3⟩
  have HB3 := Aside0.mk (HB2.out.trans (h3.mono HB2.out.size))
  clear h3
  go_wp2
  go_ret2
  exact ⟨rfl, HB3.out⟩
end Go.Proofs.YtlggimmfaflfnaaGreatDoor.MK
end
section
/- marks.of of a known one; mark.Of, mark.Is of the records of erratalaw19.works. -/
set_option linter.unusedVariables false
set_option linter.unusedSimpArgs false
namespace Go.Proofs.YtlggimmfaflfnaaGreatDoor.MK
open Go.RowKit Go.Maps Go.Shelf Go.Proofs.YtlggimmfaflfnaaGreatDoorW.PrintWords Go.Proofs.YtlggimmfaflfnaaGreatDoorW.PrintMore Go.Proofs.YtlggimmfaflfnaaGreatDoor.TF Go.Proofs.YtlggimmfaflfnaaGreatDoor.TK

def laC : Int := 12737905027848008859
def lbC : Int := 5165665872715313002
def la1 : Int := 9735844778883895589
def lb1 : Int := 10677176606507048132
def laW : Int := 14431451879396479497
def lbW : Int := 13904259764577750616
theorem takeC : QT.mark_take.f 1100 14695981039346656037 7809847782465536322 (bytes_ txC 0) = some (laC, lbC) := by decide +kernel
theorem take1 : QT.mark_take.f 1100 14695981039346656037 7809847782465536322 (bytes_ txW 1) = some (la1, lb1) := by decide +kernel
theorem takeW : QT.mark_take.f 1100 la1 lb1 (ints16 laC lbC) = some (laW, lbW) := by decide +kernel
def markC : Array Value := mk16 laC lbC
def markW : Array Value := mk16 laW lbW
theorem infoC : (Tryz.prog.info? 53).map (·.size) = some markC.size := info16
theorem sizeC : zero16.size = markC.size := rfl
theorem oneC : markC.all (·.oneCell') = true := by simp [markC, mk16, Value.oneCell']
theorem asIs_inj {D : DataW Value} {k : Lit} {v R : Value} {ps : List MemPlace} (h : asIs v = some (D.atKey k (.held (.agg zero16)), ps)) (ha : D.atKey k (.held (.agg zero16)) = .held R) : v = R := by
  rw [ha] at h
  simp only [asIs, Option.some.injEq, Prod.mk.injEq, DataW.held.injEq] at h
  exact h.1
theorem there_ {w : World} {m n : Nat} {D : DataW Value} {R : Value} (h : OwnM w m n D) (k : Int) (hk : (Lit.int .i64 k).wf = true) (hn : has D (.int .i64 k) = true) (ha : D.atKey (.int .i64 k) (.held (.agg zero16)) = .held R) :
    (Instr.lookup 103 (.map (some m)) (.int .i64 k) true).run Tryz.prog w = .ok (.tuple #[R, .bool true]) w := by
  obtain ⟨v, ps, hr, hv⟩ := h.look_ok int_keyed_ Tryz.underlying103 (mark_zero _) (show asIs (.agg zero16) = some (.held (.agg zero16), []) from rfl) (keyOf_int_mk Tryz.underlying3 hk)
  rw [hn] at hr
  rw [hr, asIs_inj hv ha]
set_option maxHeartbeats 4000000 in
set_option maxRecDepth 100000 in
theorem of_have (b m n : Nat) (h : Int) (D : DataW Value) (R : Array Value) (w : World) (h0 : (h == 0) = false) (hk : (Lit.int .i64 h).wf = true) (hM : OwnM w m n D) (hD : has D (.int .i64 h) = true) (ha : D.atKey (.int .i64 h) (.held (.agg zero16)) = .held (.agg R))
    (hs : R.size = 16) (hone : R.all (·.oneCell') = true) :
    Calls Tryz.prog 41 #[.map (some m), .pointer (some ⟨b, 0, none⟩), .int .i64 h] w fun e w' => e = .returned (.agg R) ∧ OfPost m n D w w' := by
  obtain ⟨W1, hW1⟩ : ∃ V, (w.alloc (.cells zero16 53)) = V := ⟨_, rfl⟩
  have hl := there_ (hM.alloc (.cells zero16 53)) h hk hD ha
  rw [hW1] at hl
  have hb1 : Below w.heap.size w W1 := hW1 ▸ (Below.refl _ w).alloc (Nat.le_refl _) _
  have hs1 : W1.heap.size = w.heap.size + 1 := by rw [← hW1, World.size_alloc]
  have hr1 : Blk W1 w.heap.size 53 zero16 := hW1 ▸ Blk.new w _ _
  obtain ⟨W2, hW2⟩ : ∃ V, W1.alloc (.cells zero16 53) = V := ⟨_, rfl⟩
  have hb2 : Below W1.heap.size W1 W2 := hW2 ▸ (Below.refl _ W1).alloc (Nat.le_refl _) _
  have hq2 : Blk W2 (w.heap.size + 1) 53 zero16 := by
    have := Blk.new W1 53 zero16
    rw [hW2, hs1] at this; exact this
  have hin : (Tryz.prog.info? 53).map (·.size) = some R.size := by rw [hs]; exact info16
  have hzs : zero16.size = R.size := by rw [hs]; rfl
  have hq3 := blk_setRow' hq2 hzs
  obtain ⟨W3, hW3⟩ : ∃ V, W2.setRow (w.heap.size + 1) R = V := ⟨_, rfl⟩
  rw [hW3] at hq3
  have f3 : Fr (fun q => q = w.heap.size + 1) W2 W3 := hW3 ▸ fr_setRow W2 _ R
  have hr3 := ((hr1.next hb2).fr f3 (by omega))
  have hr4 := blk_setRow' hr3 hzs
  have f4 := fr_setRow W3 w.heap.size R
  have hmr : ∀ g t cs, Blk w g t cs → True := fun _ _ _ _ => trivial
  have hml : m < w.heap.size := by obtain ⟨es, ck, h5, _⟩ := hM; exact (Array.getElem?_eq_some_iff.1 h5).1
  have hM4 : OwnM (W3.setRow w.heap.size R) m n D := by
    obtain ⟨es, ck, h5, h6⟩ := hM
    exact ⟨es, ck, (((f4.block m (by have := f3.size; have := hb2.size; omega) (by omega)).trans (f3.block m (by have := hb2.size; omega) (by omega))).trans (hb2.block m (by omega))).trans ((hb1.block m hml).trans h5), h6⟩
  have hF : Fr (fun q => q = m) w (W3.setRow w.heap.size R) := (((Fr.of (S := fun q => q = m) hb1).trans (Fr.of (S := fun q => False) hb2) (fun _ h => h.elim)).trans f3 (fun q hq => .inr (by omega))).trans f4 (fun q hq => .inr (by omega))
  have HP := Aside0.mk (And.intro hM4 hF)
  have HI := Aside0.mk (And.intro hin (And.intro hzs hone))
  have HR4 := Aside0.mk hr4
  unfold zero16 at hW1 hW2
  clear hM hD ha hb1 hr1 hb2 hin hzs f3 f4 hr4 hmr hml hM4 hF hs hone
  go_enter Tryz.func41, Tryz.ntmps41
  go_upto_region 5 with (refine wpList_store_row rfl 53 _ _ rfl _ R rfl rfl 53 zero16 hq2 HI.out.1 HI.out.2.1 HI.out.2.2 ?_)
  clear hl hq2 hs1 hW1 hW2
  try rw [hW3]
  go_wp2_with (first
    | (refine wpList_load_row rfl 53 _ rfl _ rfl 53 R (0, 0) _ hq3 Tryz.underlying53 rfl HI.out.1 ?_)
    | (refine wpList_store_row rfl 53 _ _ rfl _ R rfl rfl 53 zero16 hr3 HI.out.1 HI.out.2.1 HI.out.2.2 ?_))
  refine bodyPost_ret (results_cell_row rfl _ _ w.heap.size 53 R (0, 0) _ rfl HR4.out Tryz.underlying53 rfl HI.out.1) rfl ?_
  exact ⟨rfl, HP.out.1, HP.out.2⟩
/-- mark.Of of the first record -/
theorem of_first (b : Nat) (w : World) (h : T3 b w) : Calls Tryz.prog 16 #[.pointer (some ⟨b, 0, none⟩), .int .i64 1] w fun e w' => e = .returned (.tuple #[.agg markC, .int .i64 0]) ∧ Below w.heap.size w w' := by
  have hmk : ∀ w : World, (Instr.makeMap 103 none).run Tryz.prog w = .ok (.map (some w.heap.size)) (w.alloc (.map #[] 0)) := fun w => run_makeMap _ w
  have H1 := Aside0.mk (check_rec b w h 0 (by decide))
  obtain ⟨W1, hW1⟩ : ∃ V, w.alloc (.cells zero16 53) = V := ⟨_, rfl⟩
  have hb1 : Below w.heap.size w W1 := hW1 ▸ (Below.refl _ w).alloc (Nat.le_refl _) _
  have hs1 : W1.heap.size = w.heap.size + 1 := by rw [← hW1, World.size_alloc]
  have hr1 : Blk W1 w.heap.size 53 zero16 := hW1 ▸ Blk.new w _ _
  obtain ⟨W2, hW2⟩ : ∃ V, W1.alloc (.map #[] 0) = V := ⟨_, rfl⟩
  have hb2 : Below W1.heap.size W1 W2 := hW2 ▸ (Below.refl _ W1).alloc (Nat.le_refl _) _
  have hm2 : OwnM W2 W1.heap.size 0 (.map []) := hW2 ▸ World.ownsMap_made W1 _ _ _
  have h1 := (check_rec b W1 (h.next hb1) 0 (by decide))
  have h2 := (h.next hb1).next hb2
  have hO := of_leaf b W1.heap.size 0 1 txC (.map []) laC lbC W2 (h2.code b W2 0 (.inl rfl)) rfl (by decide) (by decide) hm2 (by decide) rfl takeC
  rw [hs1] at hO
  have HO := Aside0.mk (hO.mono (fun e w' h => (⟨h.1, ⟨h.2.1, h.2.2⟩⟩ : e = .returned (.agg markC) ∧ OfPost (w.heap.size + 1) _ _ W2 w')))
  have HC := Aside0.mk h1
  have HB := Aside0.mk (And.intro (hb1.trans (hb2.mono hb1.size)) (hr1.next hb2))
  unfold zero16 at hW1
  clear h hb1 hr1 hb2 hm2 h1 h2 hO H1
  go_enter Tryz.func16, Tryz.ntmps16
  go_wp2_with (go_at_call 40; refine HC.out.mono ?_)
  rintro e w1 ⟨rfl, rfl⟩
  clear HC
  go_wp2_with (go_at_call 41; refine HO.out.mono ?_)
  rintro e w3 ⟨rfl, hp⟩
  have hr3 := HB.out.2.fr hp.fr (by omega)
  have hb3 := HB.out.1.trans (hp.fr.below HB.out.1.size (fun k hk => by omega))
  have hr4 := blk_setRow' hr3 sizeC
  have HR4 := Aside0.mk hr4
  have HB4 := Aside0.mk (hb3.trans ((fr_setRow w3 w.heap.size markC).below hb3.size (fun k hk => by omega)))
  clear hr4 hb3 hp HO HB hW1 hW2 hs1
  go_wp2_with (refine wpList_store_row rfl 53 _ _ rfl _ markC rfl rfl 53 zero16 hr3 infoC sizeC oneC ?_)
  refine bodyPost_ret (results_ct rfl _ _ w.heap.size 53 markC (0, 0) _ rfl HR4.out Tryz.underlying53 rfl infoC) rfl ?_
  exact ⟨rfl, HB4.out⟩
end Go.Proofs.YtlggimmfaflfnaaGreatDoor.MK
end
section
/- The numbers under which this program holds the text of sync.Mutex, and that it holds it. -/
namespace Go.Proofs
abbrev Tryz.muLink : Go.Conc.Locks.MuLink := { lock := 83, unlock := 84, ilock := 136, iunlock := 137, lockSlow := 170, unlockSlow := 173, disable := 166, enable := 168, acquire := 169, relMerge := 171, cas32 := 167, add32 := 172, tMutex := 178, tIMutex := 176, tPMutex := 297, tPIMutex := 349, tPI32 := 351, tUP := 353, tNoCopy := 174, tU32 := 30 }
theorem Tryz.muLib : Go.Conc.Locks.MuLib Tryz.prog Tryz.muLink :=
  ⟨Tryz.func83, Tryz.func84, Tryz.func136, Tryz.func137, Tryz.func166, Tryz.func168, Tryz.func169, Tryz.func171, Tryz.func167, Tryz.func172, Tryz.underlying176, Tryz.runUnderlying176, Tryz.sizeOf176, Tryz.isAgg176, Tryz.zeroValue176, Tryz.underlying178, Tryz.runUnderlying178, Tryz.sizeOf178, Tryz.isAgg178, Tryz.zeroValue178, Tryz.underlying297, Tryz.runUnderlying297, Tryz.sizeOf297, Tryz.isAgg297, Tryz.zeroValue297, Tryz.underlying349, Tryz.runUnderlying349, Tryz.sizeOf349, Tryz.isAgg349, Tryz.zeroValue349, Tryz.underlying351, Tryz.runUnderlying351, Tryz.sizeOf351, Tryz.isAgg351, Tryz.zeroValue351, Tryz.underlying353, Tryz.runUnderlying353, Tryz.sizeOf353, Tryz.isAgg353, Tryz.zeroValue353, Tryz.underlying174, Tryz.runUnderlying174, Tryz.sizeOf174, Tryz.isAgg174, Tryz.zeroValue174, Tryz.underlying21, Tryz.runUnderlying21, Tryz.sizeOf21, Tryz.isAgg21, Tryz.zeroValue21, (by kernel_rfl)⟩
end Go.Proofs
end
section
/- The registry: New, Frozen, freeze (sync.Once about a closure that locks), Of where there are no rows. -/
set_option linter.unusedVariables false
set_option linter.unusedSimpArgs false
namespace Go.Proofs.YtlggimmfaflfnaaGreatDoor.PK
open Go.RowKit Go.Proofs.YtlggimmfaflfnaaGreatDoorW.PrintWords Go.Proofs.YtlggimmfaflfnaaGreatDoorW.PrintMore Go.Proofs.YtlggimmfaflfnaaGreatDoor.TF Go.MuLone

/-- a registry's cells: no rows, the lock free, not frozen -/
def reg0 (m : Nat) : Array Value := #[.int .i32 0, .int .u32 0, .int .u32 0, .int .i32 0, .int .u32 0, .slice none 0 0, .map (some m), .slice none 0 0, .int .i64 0]
theorem store_deferred (a : Addr) (x : Value) (u : FrameMode) (w : World) (hc : w.cell? a = some x) (hz : w.frozen? a = false) :
    CallsD Tryz.prog 175 #[.pointer (some a), .bool true] u w fun e u' w' => u' = u ∧ (e = .returned (.tuple #[]) ∧ w' = w.drew.setCell a (.int .u32 1)) := by
  have hc' : w.drew.cell? a = some x := by go_simp
  have hz' : w.drew.frozen? a = false := by go_simp
  have hst := run_call_store (P := Tryz.prog) Tryz.func206 (by kernel_rfl) (by kernel_rfl) (by kernel_rfl) (by kernel_rfl) (k := .u32) (y := 1) hc' hz'
  go_enter_d Tryz.func175, Tryz.ntmps175
  go_wp2
  go_region_calls
  all_goals (go_end0; exact ⟨rfl, rfl⟩)
/-- what is given to Do: it locks, counts, unlocks -/
theorem freeze_own (g : Nat) (cs : Array Value) (pl : Addr) (w : World) (hp : w.cell? pl = some (.pointer (some ⟨g, 0, none⟩))) (h : Blk w g 186 cs) (hne : ¬ g = pl.block)
    (h0 : cs[0]? = some (.int .i32 0)) (h8 : cs[8]? = some (.int .i64 0)) :
    Calls Tryz.prog 105 #[.pointer (some pl)] w fun e w' => e = .returned (.tuple #[]) ∧ w' = ((w.setCell ⟨g, 0, none⟩ (.int .i32 1)).setCell ⟨g, 8, none⟩ (.int .i64 1)).setCell ⟨g, 0, none⟩ (.int .i32 0) := by
  have c0 : w.cell? ⟨g, 0, none⟩ = some (.int .i32 0) := (h.cell 0).trans h0
  have f0 := h.frozen 0
  have f8 := h.frozen 8
  have c8 : w.cell? ⟨g, 8, none⟩ = some (.int .i64 0) := (h.cell 8).trans h8
  have p1 : (w.setCell ⟨g, 0, none⟩ (.int .i32 1)).cell? pl = some (.pointer (some ⟨g, 0, none⟩)) := (World.cell?_setCell_other _ ⟨g, 0, none⟩ pl _ (fun h => hne (by rw [← h]))).trans hp
  have d8 : (w.setCell ⟨g, 0, none⟩ (.int .i32 1)).cell? ⟨g, 8, none⟩ = some (.int .i64 0) := (World.cell?_setCell_other _ ⟨g, 0, none⟩ ⟨g, 8, none⟩ _ (by simp)).trans c8
  clear h
  go_enter_defers Tryz.func105, Tryz.ntmps105
  go_wp2_with (go_at_call 83; refine (lock_free Tryz.muLib ⟨g, 0, none⟩ _ c0 f0).mono ?_; rintro e w' ⟨rfl, rfl⟩)
  refine leaves_cons (f := 84) (args := #[.pointer (some ⟨g, 0, none⟩)]) (by simp) (by simp [go_sem]) ?_
  refine (unlock_deferred Tryz.muLib ⟨g, 0, none⟩ .returning _ ?_ ?_).mono ?_
  · exact (World.cell?_setCell_other _ ⟨g, 8, none⟩ ⟨g, 0, none⟩ _ (by simp)).trans (World.cell?_setCell_same w ⟨g, 0, none⟩ (.int .i32 1) c0)
  · simp [f0]
  rintro e u' w'' ⟨rfl, rfl, rfl⟩
  exact ⟨_, results_none rfl _ _ _, rfl, rfl⟩
end Go.Proofs.YtlggimmfaflfnaaGreatDoor.PK
end
