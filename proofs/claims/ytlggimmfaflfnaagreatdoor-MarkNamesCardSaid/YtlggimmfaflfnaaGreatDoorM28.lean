/- QD TextShow TextQuote QuoteExt QW0 -/
import Derived.Test.YtlggimmfaflfnaaGreatDoorM26
import Derived.Test.YtlggimmfaflfnaaGreatDoorM27
import Derived.Test.YtlggimmfaflfnaaGreatDoorM24
import Derived.Maps.AppendAt
import Derived.Test.YtlggimmfaflfnaaGreatDoorM12
import Derived.Test.YtlggimmfaflfnaaGreatDoorM3
import Derived.Test.YtlggimmfaflfnaaGreatDoorProg
import Derived.Below
import Derived.Deep.Draws
import Derived.Deep.AppendLies
import Derived.OwnWalk
import Derived.Laws.BytesArg
import Derived.Laws.MakeOwn
import Derived.Laws.OwnMore
import Derived.Deep.OwnRows
import Derived.Tactics
import Derived.Lib.ConvBytes
import Derived.Laws.Slices
import Derived.WalkKit
import Derived.KernelRfl
import Derived.RowKit3
import Derived.Deep.LoopGhost
import Derived.Deep.QuietTactic
import Derived.BigQuiet
import Derived.WideLaws
import Derived.Deep.DeepCutAuto
import Derived.Deep.CutBlock
import Derived.Deep.RegionHeld3
import Derived.Laws.Rows
import Derived.Lib.AppendStr
import Derived.ArgAppend
import Derived.Laws.IdiomCopy
import Derived.OrdersHeld
import Derived.Laws.BitsLemmas
import Derived.RowKit
import Derived.Test.YtlggimmfaflfnaaGreatDoorM2
import Derived.Test.YtlggimmfaflfnaaGreatDoorM6
section
-- Written by wip/tools/myprint.py of this seat's repo: the kit's print, with contracts of our own for some functions.
namespace Go.Proofs.YtlggimmfaflfnaaGreatDoor.QD
open Go.RowKit Go.Proofs.YtlggimmfaflfnaaGreatDoor.TP Go.Proofs.YtlggimmfaflfnaaGreatDoorW.PrintWords Go.Proofs.YtlggimmfaflfnaaGreatDoorW.PrintLast Go.Proofs.YtlggimmfaflfnaaGreatDoorW.PrintMore
attribute [local go_sem] max2_int min2_int max_two min_two max_three min_three max_four min_four   -- for this text's walks alone
set_option linter.unusedVariables false
set_option linter.unusedSimpArgs false

end Go.Proofs.YtlggimmfaflfnaaGreatDoor.QD
end
section
/- text.Show and text.Quote: each piece of the text as it is shown. -/
set_option linter.unusedVariables false
set_option linter.unusedSimpArgs false
namespace Go.Proofs.YtlggimmfaflfnaaGreatDoor.TR
open Go.RowKit Go.Shelf Go.Lib Go.Proofs.YtlggimmfaflfnaaGreatDoor.TS Go.Proofs.YtlggimmfaflfnaaGreatDoorW.PrintWords
attribute [local go_sem] Oper.semAt_some

/-- a digit of sixteen -/
def hexI (n : Int) : Int := if n < 10 then 48 + n else 87 + n
/-- what is shown of what is taken at a place: its first byte b, its rune r; q: what is marked beside the backslash -/
def shownI (q b r : Int) : List Int := if r < 32 ∨ r = 127 then [92, 120, hexI (b / 16), hexI (b % 16)] else if r = 92 ∨ r = q then [92, r % 256] else Lib.encodeRuneZ r
theorem hex_eq (n : Int) (h0 : 0 ≤ n) (h1 : n < 16) : bt (⟨#[48, 49, 50, 51, 52, 53, 54, 55, 56, 57, 97, 98, 99, 100, 101, 102]⟩ : ByteArray) n = hexI n := by
  obtain ⟨k, rfl⟩ := Int.eq_ofNat_of_zero_le h0
  have hk : k < 16 := by omega
  have key : ∀ k : Fin 16, bt (⟨#[48, 49, 50, 51, 52, 53, 54, 55, 56, 57, 97, 98, 99, 100, 101, 102]⟩ : ByteArray) ((k.val : Nat) : Int) = hexI ((k.val : Nat) : Int) := by decide +kernel
  exact key ⟨k, hk⟩
theorem and15 (b : Int) (h0 : 0 ≤ b) (h1 : b < 256) : Go.bits .and .u8 b 15 = b % 16 := by
  obtain ⟨k, rfl⟩ := Int.eq_ofNat_of_zero_le h0
  have hk : k < 256 := by omega
  have key : ∀ k : Fin 256, Go.bits .and .u8 ((k.val : Nat) : Int) 15 = ((k.val : Nat) : Int) % 16 := by decide +kernel
  exact key ⟨k, hk⟩
theorem bt_bd (s : ByteArray) (i : Int) : 0 ≤ bt s i ∧ bt s i < 256 := by
  unfold bt; split
  · have := (s[i.toNat]'(by assumption)).toNat_lt; omega
  · omega
theorem encodeRuneZ_len (r : Int) : 1 ≤ (Lib.encodeRuneZ r).length ∧ (Lib.encodeRuneZ r).length ≤ 4 := by
  unfold Lib.encodeRuneZ; repeat' split
  all_goals simp
theorem shownI_len (q b r : Int) : (shownI q b r).length ≤ 4 := by
  unfold shownI; repeat' split
  all_goals first | (simp; done) | exact (encodeRuneZ_len r).2
/-- a rune as Go tells it -/
def okRune (r : Int) : Prop := r = -1 ∨ (0 ≤ r ∧ r ≤ 1114111 ∧ (r < 55296 ∨ 57343 < r))
theorem put_eq (k : Nat) (l : List Int) (s : ByteArray) (i : Int) (r q : Int) (h0 : 0 ≤ i) (h1 : i < s.size) (hr : okRune r) (hl : l.length + 4 < 140737488355328) :
    YtlggimmfaflfnaaGreatDoor.QD.text_put.f (k + 1) l s i r q = some (l ++ shownI q (bt s i) r) := by
  have hb := bt_bd s i
  have key : ∀ b : Bool, (b = true ↔ (r < 32 ∨ r = 127)) → YtlggimmfaflfnaaGreatDoor.QD.text_put.j0 (k + 1) l s i r q b = some (l ++ shownI q (bt s i) r) := by
    intro b hb2
    cases b with
    | true =>
      have hc : r < 32 ∨ r = 127 := hb2.1 rfl
      rw [YtlggimmfaflfnaaGreatDoor.QD.text_put.j0]; unfold shownI
      rw [if_pos rfl, if_pos h0, if_pos h1, if_pos (by omega), if_pos (by omega), and15 _ hb.1 hb.2, if_pos (by omega), if_pos (by omega), hex_eq _ (by omega) (by omega), hex_eq _ (by omega) (by omega), if_pos hc]
      simp only [Option.bind_some]
      rw [if_pos (by simp; omega)]
    | false =>
      have hc : ¬ (r < 32 ∨ r = 127) := fun h => by have := hb2.2 h; cases this
      rw [YtlggimmfaflfnaaGreatDoor.QD.text_put.j0]; unfold shownI
      rw [if_neg (by simp), if_neg hc]
      by_cases h92 : r = 92
      · rw [if_pos h92, if_pos (.inl h92)]; simp only [Option.bind_some]; rw [if_pos (by simp; omega)]
      · rw [if_neg h92]
        by_cases hq : r = q
        · rw [if_pos hq, if_pos (.inr hq)]; simp only [Option.bind_some]; rw [if_pos (by simp; omega)]
        · rw [if_neg hq, if_neg (by omega)]
          unfold YtlggimmfaflfnaaGreatDoor.QD.utf8_AppendRune.f
          have hm : r % 4294967296 = r := by rcases hr with rfl | hr <;> omega
          rw [hm]
          by_cases h127 : r ≤ 127
          · rw [if_pos h127, if_pos (by omega), Lib.encodeRuneZ_one (by omega) h127]
            have : r % 256 = r := by omega
            rw [this]; rfl
          · rw [if_neg h127]
            unfold YtlggimmfaflfnaaGreatDoor.TP.utf8_appendRuneNonASCII.f
            rw [if_pos (by rcases hr with rfl | hr <;> omega)]; rfl
  unfold YtlggimmfaflfnaaGreatDoor.QD.text_put.f
  by_cases h32 : r < 32
  · rw [if_pos h32]; exact key true (by simp [h32])
  · rw [if_neg h32]; exact key _ (by simp; omega)
theorem mem_runesFrom (ps : List Piece) : ∀ (i0 : Nat) (i : Nat) (r : Int), (i, r) ∈ runesFrom i0 ps → ∃ p ∈ ps, r = rn p.1 ∧ i0 ≤ i ∧ i + p.2.length ≤ i0 + (ps.flatMap (·.2)).length := by
  induction ps with
  | nil => intro i0 i r h; simp [runesFrom] at h
  | cons p t ih =>
    intro i0 i r h
    simp only [runesFrom, List.mem_cons, Prod.mk.injEq] at h
    rcases h with ⟨rfl, rfl⟩ | h
    · exact ⟨p, by simp, rfl, Nat.le_refl _, by simp⟩
    · obtain ⟨p', hp', hr, h1, h2⟩ := ih _ i r h
      exact ⟨p', by simp [hp'], hr, by omega, by simp at h2 ⊢; omega⟩
theorem piece_pos {p : Piece} (h : okPiece p) : 1 ≤ p.2.length := by
  unfold okPiece at h
  split at h
  · rw [h.2]; have := enc_ne; exact List.length_pos_iff.2 (enc_ne _)
  · omega
theorem piece_rune {p : Piece} (h : okPiece p) : okRune (rn p.1) := by
  unfold okPiece at h
  unfold okRune rn
  split at h
  · rename_i r e
    have h1 := may_le h.1
    have h2 : r < 0xD800 ∨ 0xE000 ≤ r := by have := h.1; unfold may at this; simp at this; omega
    rw [e]; right; simp; omega
  · rename_i e; rw [e]; exact .inl rfl
theorem runes_ok (s : ByteArray) {i : Nat} {r : Int} (h : (i, r) ∈ runes s.data.toList) : i < s.size ∧ okRune r := by
  obtain ⟨p, hp, hr, _, h2⟩ := mem_runesFrom _ 0 i r h
  have hok := pieces_ok _ p hp
  rw [pieces_flat, bytes_length] at h2
  have := piece_pos hok
  exact ⟨by omega, by rw [hr]; exact piece_rune hok⟩
/-- what is shown of what has come -/
def shownAll (q : Int) (s : ByteArray) (l : List (Nat × Int)) : List Int := l.flatMap fun x => shownI q (bt s x.1) x.2
theorem shownAll_snoc (q : Int) (s : ByteArray) (l : List (Nat × Int)) (x : Nat × Int) : shownAll q s (l ++ [x]) = shownAll q s l ++ shownI q (bt s x.1) x.2 := by simp [shownAll]
theorem shownAll_len (q : Int) (s : ByteArray) (l : List (Nat × Int)) : (shownAll q s l).length ≤ 4 * l.length := by
  induction l with
  | nil => simp [shownAll]
  | cons x t ih => have := shownI_len q (bt s x.1) x.2; simp [shownAll] at ih ⊢; omega

theorem R_cells {α : Type} {d : Kd α} {e : Nat} {W W' : World} {base : Nat} {ok : Nat → Prop} {v : Value} {xs : List α} (h : d.R e W base ok v xs) (hk : ∀ (k : Nat) (o : Obj), W.heap[k]? = some o → o.isCells = true → W'.heap[k]? = some o) : d.R e W' base ok v xs :=
  Kd.R_mono (Kd.R_move (Kd.R_bound h) (fun k hk' => by obtain ⟨_, _, _, q, _, cells, hc⟩ := hk'; rw [hc]; exact hk k _ hc rfl)) (fun _ h => h.1)
/-- a box that holds a row of bytes of the call's own -/
def RowBox (B base : Nat) (xs : List Int) (W : World) : Prop := ∃ v, Boxed W B 72 v ∧ Kd.R (Kd.int .u8) 5 W base (fun k => v.ownBlock = some k) v xs
theorem rowBox_cells {β : Type} (B base : Nat) (f : β → List Int) : OfCells (fun b W => RowBox B base (f b) W) := by
  rintro b W W' ⟨v, hv, hr⟩ hk
  exact ⟨v, hk _ _ hv rfl, R_cells hr hk⟩

theorem kept_boxed {W W1 : World} {base : Nat} {v : Value} {xs : List Int} {ok : Nat → Prop} (hR : Kd.R (Kd.int .u8) 5 W base ok v xs) (hK : Kept W W1 (fun k => v.ownBlock = some k)) {B : Nat} {t : TypeId} {u : Value} (hb : Boxed W B t u) (ht : 5 ≠ t) : Boxed W1 B t u :=
  (hK.2 B hb.lt (fun h => Kd.R_ne hR hb ht h.symm)).trans hb
/-- Behind a call that writes a row of bytes, and the store of what it hands back into its box. -/
theorem put_step {w W W1 : World} {Bn Bb : Nat} {v v' : Value} {xs ys : List Int} {ok ok' : Nat → Prop} {s : ByteArray}
    (hv : Boxed W Bb 72 v) (hR : Kd.R (Kd.int .u8) 5 W w.heap.size ok v xs) (hbx : Boxed W Bn 9 (.string s)) (hB : Below w.heap.size w W) (hB' : Below w.heap.size w W1)
    (hK : Kept W W1 (fun k => v.ownBlock = some k)) (hR' : Kd.R (Kd.int .u8) 5 W1 w.heap.size ok' v' ys) (hBb : w.heap.size ≤ Bb) (hne : Bb ≠ Bn) :
    Turned w.heap.size Bn W (W1.setCell ⟨Bb, 0, none⟩ v') ∧ RowBox Bb w.heap.size ys (W1.setCell ⟨Bb, 0, none⟩ v') ∧ (∀ B t u, Boxed W B t u → 5 ≠ t → B ≠ Bb → Boxed (W1.setCell ⟨Bb, 0, none⟩ v') B t u) := by
  have hv1 : Boxed W1 Bb 72 v := kept_boxed hR hK hv (by decide)
  refine ⟨⟨hB'.os.trans hB.os.symm, hB'.tape.trans hB.tape.symm, hB'.output.trans hB.output.symm, Nat.le_trans hK.1 (KeepsWalks.setCell W1 _ v').size, fun k => v.ownBlock = some k ∨ k = Bb, fun k hk hs => ?_, fun k hs => ?_, fun k o hs ho => ?_⟩, ?_, ?_⟩
  · exact (Below.heap_setCell W1 ⟨Bb, 0, none⟩ v' k (fun e => hs (.inr e))).trans (hK.2 k hk (fun e => hs (.inl e)))
  · rcases hs with hs | rfl
    · exact ⟨own_base (Kd.own_of_R hR) k hs, fun e => by subst e; exact Kd.R_ne hR hbx (by decide) hs.symm⟩
    · exact ⟨hBb, hne⟩
  · rcases hs with hs | rfl
    · obtain ⟨cells, hc⟩ := own_typed (Kd.own_of_R hR) k hs
      rw [hc] at ho; cases ho; rfl
    · rw [show W.heap[k]? = _ from hv] at ho; cases ho; rfl
  · refine ⟨v', hv1.set v', ?_⟩
    have hne' : some Bb ≠ v'.ownBlock := Kd.R_ne hR' hv1 (by decide)
    exact Kd.R_of_own (own_setCell (Kd.own_of_R hR') hne' v') (fun k hk => hk)
  · intro B t u hb ht hnb
    exact (Below.heap_setCell W1 ⟨Bb, 0, none⟩ v' B hnb).trans (kept_boxed hR hK hb ht)

end Go.Proofs.YtlggimmfaflfnaaGreatDoor.TR
end
section
/- text.Quote: the walk. -/
set_option linter.unusedVariables false
set_option linter.unusedSimpArgs false
namespace Go.Proofs.YtlggimmfaflfnaaGreatDoor.TR
open Go.RowKit Go.Shelf Go.Lib Go.Proofs.YtlggimmfaflfnaaGreatDoor.TS Go.Proofs.YtlggimmfaflfnaaGreatDoorW.PrintWords
attribute [local go_sem] Oper.semAt_some

set_option maxRecDepth 100000 in
set_option maxHeartbeats 4000000 in
theorem quote_calls (s : ByteArray) (hs : s.size ≤ 1073741824) (w : World) :
    Calls Tryz.prog 219 #[.string s] w fun e w' => e = .returned (.string (strOfNums (34 :: shownAll 34 s (runes s.data.toList) ++ [34]))) ∧ Below w.heap.size w w' := by
  refine (callsIn_wide (n := 9)).1 ?_
  refine callsIn_of_wp_marks Tryz.func219 rfl trivial ?_ rfl
  simp only [Tryz.ntmps219, List.size_toArray, List.length_cons, List.length_nil, Nat.reduceAdd, Nat.reduceSub, Array.replicate_succ, Array.replicate_zero, List.push_toArray, List.append_toArray, List.nil_append, List.cons_append]
  gi_wp2_with (refine ⟨trivial, ?_⟩; gi_at_call 239; refine (callsIn_wide.2 (runes_in s _)).mono ?_; rintro e w' ⟨rfl, rfl⟩)
  have bs := Boxed.new w 9 (.string s)
  have hown0 := own_lit (w.alloc (.cells #[.string s] 9)) w.heap.size 5 .u8 [34] (by simp) (by simp)
  have bs1 := bs.alloc (.cells #[.int .u8 34] 5)
  have bb := Boxed.new ((w.alloc (.cells #[.string s] 9)).alloc (.cells #[.int .u8 34] 5)) 72 (.slice (some ⟨w.heap.size + 1, 0, none⟩) 1 1)
  have bs2 := bs1.alloc (.cells #[.slice (some ⟨w.heap.size + 1, 0, none⟩) 1 1] 72)
  have bb2 := bb.alloc (.cells #[.string s] 9)
  have bs3 := bs2.alloc (.cells #[.string s] 9)
  have br := Boxed.new (((w.alloc (.cells #[.string s] 9)).alloc (.cells #[.int .u8 34] 5)).alloc (.cells #[.slice (some ⟨w.heap.size + 1, 0, none⟩) 1 1] 72)) 9 (.string s)
  simp only [World.size_alloc] at br bb2 hown0
  have hB2 : Below w.heap.size w ((((w.alloc (.cells #[.string s] 9)).alloc (.cells #[.int .u8 34] 5)).alloc (.cells #[.slice (some ⟨w.heap.size + 1, 0, none⟩) 1 1] 72)).alloc (.cells #[.string s] 9)) :=
    ((((Below.refl _ w).alloc (Nat.le_refl _) _).alloc (by simp) _).alloc (by simp; omega) _).alloc (by simp; omega) _
  have hR0 : Kd.R (Kd.int .u8) 5 ((((w.alloc (.cells #[.string s] 9)).alloc (.cells #[.int .u8 34] 5)).alloc (.cells #[.slice (some ⟨w.heap.size + 1, 0, none⟩) 1 1] 72)).alloc (.cells #[.string s] 9)) w.heap.size (fun k => (.slice (some ⟨w.heap.size + 1, 0, none⟩) 1 1 : Value).ownBlock = some k) (.slice (some ⟨w.heap.size + 1, 0, none⟩) 1 1) [34] :=
    Kd.R_of_own ((hown0.alloc _).alloc _) (fun k hk => hk)
  clear hown0 bs bs1 bs2 bb
  generalize hW2 : ((((w.alloc (.cells #[.string s] 9)).alloc (.cells #[.int .u8 34] 5)).alloc (.cells #[.slice (some ⟨w.heap.size + 1, 0, none⟩) 1 1] 72)).alloc (.cells #[.string s] 9)) = W2 at *
  refine wp_runes 9 (by omega) w.heap.size (w.heap.size + 1 + 1 + 1) s rfl rfl br hB2 (Nat.le_refl _)
    (fun pre W => RowBox (w.heap.size + 1 + 1) w.heap.size (34 :: shownAll 34 s pre) W ∧ Boxed W w.heap.size 9 (.string s)) (fun _ _ _ => False)
    (OfCells.and (rowBox_cells (w.heap.size + 1 + 1) w.heap.size (fun pre => 34 :: shownAll 34 s pre)) (ofCells_boxed (fun _ => w.heap.size) _ (fun _ => .string s))) (fun _ => ofCells_pure (fun _ => False)) ⟨⟨_, bb2, hR0⟩, bs3⟩
    (fun i r => { tmps := #[.string s, .pointer (some ⟨w.heap.size, 0, none⟩), .string ⟨#[]⟩, .pointer (some ⟨w.heap.size + 1 + 1, 0, none⟩), .int .i64 i, .int .i32 r, .slice (some ⟨w.heap.size + 1, 0, none⟩) 1 1, .string s, .func (.func 272) #[] #[.pointer (some ⟨w.heap.size + 1 + 1 + 1, 0, none⟩)], .int .i64 i, .int .i32 r, undef, undef, undef, undef, undef, undef, undef, undef, undef], defers := [] }) ?assign ?body ?done ?stop
  case assign =>
    intro l i r W K hK
    gi_wp2
    exact hK
  case body =>
    rintro l pre i r W ⟨⟨v, hv, hR⟩, hbs⟩ hB hbx hsz hmem hlt
    have hc := hv.cell
    have hcs := hbs.cell
    have hrl := runes_le s
    obtain ⟨hi1, hi2⟩ := runes_ok s hmem
    have hsl := shownAll_len 34 s pre
    have hpe := put_eq 0 (34 :: shownAll 34 s pre) s i r 34 (by omega) (by omega) hi2 (by simp; omega)
    have HP := Lib.hid hpe
    clear hpe
    gi_wp2_with (refine ⟨trivial, ?_⟩; gi_at_call 240; refine (CallsIn.inRound l (callsIn_wide.2 (YtlggimmfaflfnaaGreatDoor.QD.text_put.calls 1 _ v (34 :: shownAll 34 s pre) s i r 34 _ w _ hB hR HP.out))).mono ?_; rintro e W3 ⟨v', rfl, hR', hB', hK'⟩; obtain ⟨hT, hRB, hoth⟩ := put_step hv hR hbx hB hB' hK' hR' (by omega) (by omega); have hv3 := kept_boxed hR hK' hv (by decide); have hc3 := hv3.cell; have hf3 := hv3.frozen; obtain ⟨A3, c3, rfl⟩ := Kd.R_slice hR')
    have el : (34 :: shownAll 34 s pre ++ shownI 34 (bt s ↑i) r).length = (shownAll 34 s pre).length + (shownI 34 (bt s ↑i) r).length + 1 := by simp
    rw [el] at hT hRB hoth
    exact ⟨hT, by show RowBox _ _ (34 :: shownAll 34 s (pre ++ [(i, r)])) _ ∧ _; rw [shownAll_snoc]; exact ⟨hRB, hoth _ _ _ hbs (by decide) (by omega)⟩⟩
  case done =>
    rintro D W hD ⟨⟨v, hv, hR⟩, hbs⟩ hB hK
    have hc := hv.cell
    obtain ⟨i0, hi, hz0, hz1, hz2⟩ := info_parts TP.info5
    have hrl := runes_le s
    have hsl := shownAll_len 34 s (runes s.data.toList)
    have hbs2 := hB.size
    gi_wp2_with (gi_at_builtin; go_loud (refine wpListIn_append_own _ rfl _ _ 72 rfl w.heap.size 5 i0 (.int .u8 0) 1 1 Tryz.underlying72 hi hz0 hz1 hz2 rfl (by decide) v (34 :: shownAll 34 s (runes s.data.toList)).length _ rfl ((Kd.own_of_R hR).alloc _) ⟨W.heap.size, 0, none⟩ 1 1 [.int .u8 34] rfl rfl (cell_one_new _ _ _) (by simp [Value.oneCell']) (by unfold maxLen; simp; omega) (by simp; omega) (by simp; omega) ?_; intro v' w3 hown' hgrow _; have hcv := own_string (P := Tryz.prog) (xs := 34 :: shownAll 34 s (runes s.data.toList) ++ [34]) Tryz.underlying72 Tryz.underlying5 Tryz.underlying9 (by simpa [Go.Proofs.YtlggimmfaflfnaaGreatDoorW.PrintWords.encs, nums] using hown')))
    have hK3 : w3.heap[D]? = some (.deferred (some [])) := by
      have hne : some D ≠ v.ownBlock := by
        intro e
        obtain ⟨cells, hc'⟩ := own_typed (Kd.own_of_R hR) D e.symm
        rw [hc'] at hK; cases hK
      refine (hgrow.block D (by have := (Array.getElem?_eq_some_iff.1 hK).1; simp; omega) hne).trans ?_
      exact (Below.heap_alloc W _ D (Array.getElem?_eq_some_iff.1 hK).1).trans hK
    have hB3 : Below w.heap.size w w3 := (hB.alloc hbs2 _).grown hgrow (by simp; omega) (fun k e => own_base (Kd.own_of_R hR) k e)
    refine ⟨by simp, .inl ⟨_, _, rfl, run_takeDeferred hK3, ?_⟩⟩
    exact ⟨_, results_tmp rfl _ _ _, rfl, hB3.trans (belowK_b (w := w) (Nat.le_refl _) w3 D _ _ (Nat.le_trans hB2.size hD) hK3 rfl rfl)⟩
  case stop =>
    rintro D c pre W _ _ h _ _
    exact h.elim
end Go.Proofs.YtlggimmfaflfnaaGreatDoor.TR
end
section
/- text.Quote and strings.Join in the printed contracts' form (where the other functions of package text are not in the cut). -/
set_option linter.unusedVariables false
set_option linter.unusedSimpArgs false
namespace Go.Proofs.YtlggimmfaflfnaaGreatDoor.TX
open Go.RowKit Go.Lib Go.Proofs.YtlggimmfaflfnaaGreatDoor.TS Go.Proofs.YtlggimmfaflfnaaGreatDoor.TR Go.Proofs.YtlggimmfaflfnaaGreatDoorW.PrintWords

def quoteB (s : ByteArray) : ByteArray := strOfNums (34 :: shownAll 34 s (runes s.data.toList) ++ [34])
/-- what is not longer than may be -/
def small (n : Nat) : Prop := n ≤ 1073741824
instance (n : Nat) : Decidable (small n) := inferInstanceAs (Decidable (n ≤ _))

def text_Quote.f (a0 : ByteArray) : Option ByteArray := if small a0.size then some (quoteB a0) else none
theorem text_Quote.calls (a0 : ByteArray) (r : ByteArray) (w : World) (h : text_Quote.f a0 = some r) :
    Calls Tryz.prog 219 #[.string a0] w fun e w' => e = .returned (.string r) ∧ Below w.heap.size w w' := by
  unfold text_Quote.f at h
  split at h
  · rename_i hs; obtain rfl := Option.some.inj h; exact quote_calls a0 hs w
  · cases h
def strings_Join.f (l0 : List ByteArray) (a1 : ByteArray) : Option ByteArray := if l0.length ≤ 1073741824 ∧ (Lib.join (l0.map (·.data.toList)) a1.data.toList).length ≤ 140737488355328 then some ⟨(Lib.join (l0.map (·.data.toList)) a1.data.toList).toArray⟩ else none
theorem strings_Join.calls (A0 : Option Addr) (c0 : Nat) (l0 : List ByteArray) (a1 : ByteArray) (r : ByteArray) (w : World) (hr0 : Kd.C Kd.string w A0 l0.length l0) (hc0 : l0.length ≤ c0) (h : strings_Join.f l0 a1 = some r) :
    Calls Tryz.prog 218 #[.slice A0 l0.length c0, .string a1] w fun e w' => e = .returned (.string r) ∧ Below w.heap.size w w' := by
  unfold strings_Join.f at h
  split at h
  · rename_i hs
    obtain rfl := Option.some.inj h
    cases l0 with
    | nil =>
      refine (Tryz.strings_Join_none A0 c0 a1 w).mono ?_
      rintro e w' ⟨rfl, rfl⟩
      exact ⟨rfl, Below.refl _ _⟩
    | cons x t =>
      obtain ⟨_, _, hr⟩ := hr0
      obtain ⟨⟨bk, o, sp⟩, rfl, hcell⟩ := hr (by simp)
      have hc0' : ∀ (j : Nat) y, (x :: t)[j]? = some y → w.cell? (if j = 0 then ⟨bk, o, sp⟩ else ⟨bk, o + j, none⟩) = some (.string y) := fun j y hj => by
        obtain ⟨c, _, hc1, hc2⟩ := hcell j y hj
        have hc1' : c = [.string y] := hc1
        subst hc1'
        have := hc2 0 _ rfl
        simpa [Addr.add, Kd.string, Kd.scalar] using this
      obtain rfl : sp = none := by
        have := hc0' 0 x rfl
        cases sp with
        | none => rfl
        | some q =>
          exfalso
          unfold World.cell? at this
          split at this
          · simp at this
          · cases this
      have hc : ∀ (j : Nat) y, (x :: t)[j]? = some y → w.cell? ⟨bk, o + j, none⟩ = some (.string y) := fun j y hj => by
        have := hc0' j y hj
        split at this
        · rename_i e; subst e; exact this
        · exact this
      exact Tryz.strings_Join bk o c0 (x :: t) a1 w hc (World.block_lt_of_cell? w _ (hc 0 x rfl)) (by omega) hc0 hs.2
  · cases h
end Go.Proofs.YtlggimmfaflfnaaGreatDoor.TX
end
section
-- Written by wip/tools/myprint.py of this seat's repo: the kit's print, with contracts of our own for some functions.
namespace Go.Proofs.YtlggimmfaflfnaaGreatDoor.QW
open Go.RowKit Go.Proofs.YtlggimmfaflfnaaGreatDoor.TX Go.Proofs.YtlggimmfaflfnaaGreatDoorW.PrintWords Go.Proofs.YtlggimmfaflfnaaGreatDoorW.PrintLast Go.Proofs.YtlggimmfaflfnaaGreatDoorW.PrintMore
attribute [local go_sem] max2_int min2_int max_two min_two max_three min_three max_four min_four   -- for this text's walks alone
set_option linter.unusedVariables false
set_option linter.unusedSimpArgs false



def errW : Option Int → Value
  | none => .nilIface
  | some c => .iface 0 (.int .i64 c)
theorem errW_none : errW none = .nilIface := rfl
theorem errW_some (c : Int) : errW (some c) = .iface 0 (.int .i64 c) := rfl

theorem info9 : (Tryz.prog.info? 9).map (fun i => (i.zero, i.size, i.bytes)) = some (some (.string ⟨#[]⟩), 1, 16) := by kernel_rfl
-- the values' own types

end Go.Proofs.YtlggimmfaflfnaaGreatDoor.QW
end
