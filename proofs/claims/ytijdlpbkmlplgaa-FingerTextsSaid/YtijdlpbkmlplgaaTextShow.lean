/- text.Show and text.Quote: each piece of the text as it is shown. -/
import Derived.Test.YtijdlpbkmlplgaaTextWide
import Derived.Test.YtijdlpbkmlplgaaQD
set_option linter.unusedVariables false
set_option linter.unusedSimpArgs false
namespace Go.Proofs.Ytijdlpbkmlplgaa.TR
open Go.RowKit Go.Shelf Go.Lib Go.Proofs.Ytijdlpbkmlplgaa.TS Go.Proofs.YtijdlpbkmlplgaaW.PrintWords
attribute [local go_sem] Oper.semAt_some

/-- a digit of sixteen -/
def hexI (n : Int) : Int := if n < 10 then 48 + n else 87 + n
/-- what is shown of what is taken at a place: its first byte b, its rune r; q: what is marked beside the backslash -/
def shownI (q b r : Int) : List Int := if r < 32 ∨ r = 127 then [92, 120, hexI (b / 16), hexI (b % 16)] else if r = 92 ∨ r = q then [92, r % 256] else Lib.encodeRuneZ r
theorem hex_eq (n : Int) (h0 : 0 ≤ n) (h1 : n < 16) : bt (⟨#[48, 49, 50, 51, 52, 53, 54, 55, 56, 57, 97, 98, 99, 100, 101, 102]⟩ : ByteArray) n = hexI n := by
  obtain ⟨k, rfl⟩ := Int.eq_ofNat_of_zero_le h0
  have hk : k < 16 := by omega
  have key : ∀ k : Fin 16, bt (⟨#[48, 49, 50, 51, 52, 53, 54, 55, 56, 57, 97, 98, 99, 100, 101, 102]⟩ : ByteArray) ((k.val : Nat) : Int) = hexI ((k.val : Nat) : Int) := by decide +kernel
  exact key ⟨k, hk⟩
theorem and15 (b : Int) (h0 : 0 ≤ b) (h1 : b < 256) : Go.bits .and .u8 b 15 = b % 16 := by
  obtain ⟨k, rfl⟩ := Int.eq_ofNat_of_zero_le h0
  have hk : k < 256 := by omega
  have key : ∀ k : Fin 256, Go.bits .and .u8 ((k.val : Nat) : Int) 15 = ((k.val : Nat) : Int) % 16 := by decide +kernel
  exact key ⟨k, hk⟩
theorem bt_bd (s : ByteArray) (i : Int) : 0 ≤ bt s i ∧ bt s i < 256 := by
  unfold bt; split
  · have := (s[i.toNat]'(by assumption)).toNat_lt; omega
  · omega
theorem encodeRuneZ_len (r : Int) : 1 ≤ (Lib.encodeRuneZ r).length ∧ (Lib.encodeRuneZ r).length ≤ 4 := by
  unfold Lib.encodeRuneZ; repeat' split
  all_goals simp
theorem shownI_len (q b r : Int) : (shownI q b r).length ≤ 4 := by
  unfold shownI; repeat' split
  all_goals first | (simp; done) | exact (encodeRuneZ_len r).2
/-- a rune as Go tells it -/
def okRune (r : Int) : Prop := r = -1 ∨ (0 ≤ r ∧ r ≤ 1114111 ∧ (r < 55296 ∨ 57343 < r))
theorem put_eq (k : Nat) (l : List Int) (s : ByteArray) (i : Int) (r q : Int) (h0 : 0 ≤ i) (h1 : i < s.size) (hr : okRune r) (hl : l.length + 4 < 140737488355328) :
    Ytijdlpbkmlplgaa.QD.text_put.f (k + 1) l s i r q = some (l ++ shownI q (bt s i) r) := by
  have hb := bt_bd s i
  have key : ∀ b : Bool, (b = true ↔ (r < 32 ∨ r = 127)) → Ytijdlpbkmlplgaa.QD.text_put.j0 (k + 1) l s i r q b = some (l ++ shownI q (bt s i) r) := by
    intro b hb2
    cases b with
    | true =>
      have hc : r < 32 ∨ r = 127 := hb2.1 rfl
      rw [Ytijdlpbkmlplgaa.QD.text_put.j0]; unfold shownI
      rw [if_pos rfl, if_pos h0, if_pos h1, if_pos (by omega), if_pos (by omega), and15 _ hb.1 hb.2, if_pos (by omega), if_pos (by omega), hex_eq _ (by omega) (by omega), hex_eq _ (by omega) (by omega), if_pos hc]
      simp only [Option.bind_some]
      rw [if_pos (by simp; omega)]
    | false =>
      have hc : ¬ (r < 32 ∨ r = 127) := fun h => by have := hb2.2 h; cases this
      rw [Ytijdlpbkmlplgaa.QD.text_put.j0]; unfold shownI
      rw [if_neg (by simp), if_neg hc]
      by_cases h92 : r = 92
      · rw [if_pos h92, if_pos (.inl h92)]; simp only [Option.bind_some]; rw [if_pos (by simp; omega)]
      · rw [if_neg h92]
        by_cases hq : r = q
        · rw [if_pos hq, if_pos (.inr hq)]; simp only [Option.bind_some]; rw [if_pos (by simp; omega)]
        · rw [if_neg hq, if_neg (by omega)]
          unfold Ytijdlpbkmlplgaa.QD.utf8_AppendRune.f
          have hm : r % 4294967296 = r := by rcases hr with rfl | hr <;> omega
          rw [hm]
          by_cases h127 : r ≤ 127
          · rw [if_pos h127, if_pos (by omega), Lib.encodeRuneZ_one (by omega) h127]
            have : r % 256 = r := by omega
            rw [this]; rfl
          · rw [if_neg h127]
            unfold Ytijdlpbkmlplgaa.TP.utf8_appendRuneNonASCII.f
            rw [if_pos (by rcases hr with rfl | hr <;> omega)]; rfl
  unfold Ytijdlpbkmlplgaa.QD.text_put.f
  by_cases h32 : r < 32
  · rw [if_pos h32]; exact key true (by simp [h32])
  · rw [if_neg h32]; exact key _ (by simp; omega)
theorem mem_runesFrom (ps : List Piece) : ∀ (i0 : Nat) (i : Nat) (r : Int), (i, r) ∈ runesFrom i0 ps → ∃ p ∈ ps, r = rn p.1 ∧ i0 ≤ i ∧ i + p.2.length ≤ i0 + (ps.flatMap (·.2)).length := by
  induction ps with
  | nil => intro i0 i r h; simp [runesFrom] at h
  | cons p t ih =>
    intro i0 i r h
    simp only [runesFrom, List.mem_cons, Prod.mk.injEq] at h
    rcases h with ⟨rfl, rfl⟩ | h
    · exact ⟨p, by simp, rfl, Nat.le_refl _, by simp⟩
    · obtain ⟨p', hp', hr, h1, h2⟩ := ih _ i r h
      exact ⟨p', by simp [hp'], hr, by omega, by simp at h2 ⊢; omega⟩
theorem piece_pos {p : Piece} (h : okPiece p) : 1 ≤ p.2.length := by
  unfold okPiece at h
  split at h
  · rw [h.2]; have := enc_ne; exact List.length_pos_iff.2 (enc_ne _)
  · omega
theorem piece_rune {p : Piece} (h : okPiece p) : okRune (rn p.1) := by
  unfold okPiece at h
  unfold okRune rn
  split at h
  · rename_i r e
    have h1 := may_le h.1
    have h2 : r < 0xD800 ∨ 0xE000 ≤ r := by have := h.1; unfold may at this; simp at this; omega
    rw [e]; right; simp; omega
  · rename_i e; rw [e]; exact .inl rfl
theorem runes_ok (s : ByteArray) {i : Nat} {r : Int} (h : (i, r) ∈ runes s.data.toList) : i < s.size ∧ okRune r := by
  obtain ⟨p, hp, hr, _, h2⟩ := mem_runesFrom _ 0 i r h
  have hok := pieces_ok _ p hp
  rw [pieces_flat, bytes_length] at h2
  have := piece_pos hok
  exact ⟨by omega, by rw [hr]; exact piece_rune hok⟩
/-- what is shown of what has come -/
def shownAll (q : Int) (s : ByteArray) (l : List (Nat × Int)) : List Int := l.flatMap fun x => shownI q (bt s x.1) x.2
theorem shownAll_snoc (q : Int) (s : ByteArray) (l : List (Nat × Int)) (x : Nat × Int) : shownAll q s (l ++ [x]) = shownAll q s l ++ shownI q (bt s x.1) x.2 := by simp [shownAll]
theorem shownAll_len (q : Int) (s : ByteArray) (l : List (Nat × Int)) : (shownAll q s l).length ≤ 4 * l.length := by
  induction l with
  | nil => simp [shownAll]
  | cons x t ih => have := shownI_len q (bt s x.1) x.2; simp [shownAll] at ih ⊢; omega

theorem R_cells {α : Type} {d : Kd α} {e : Nat} {W W' : World} {base : Nat} {ok : Nat → Prop} {v : Value} {xs : List α} (h : d.R e W base ok v xs) (hk : ∀ (k : Nat) (o : Obj), W.heap[k]? = some o → o.isCells = true → W'.heap[k]? = some o) : d.R e W' base ok v xs :=
  Kd.R_mono (Kd.R_move (Kd.R_bound h) (fun k hk' => by obtain ⟨_, _, _, q, _, cells, hc⟩ := hk'; rw [hc]; exact hk k _ hc rfl)) (fun _ h => h.1)
/-- a box that holds a row of bytes of the call's own -/
def RowBox (B base : Nat) (xs : List Int) (W : World) : Prop := ∃ v, Boxed W B 80 v ∧ Kd.R (Kd.int .u8) 5 W base (fun k => v.ownBlock = some k) v xs
theorem rowBox_cells {β : Type} (B base : Nat) (f : β → List Int) : OfCells (fun b W => RowBox B base (f b) W) := by
  rintro b W W' ⟨v, hv, hr⟩ hk
  exact ⟨v, hk _ _ hv rfl, R_cells hr hk⟩

theorem kept_boxed {W W1 : World} {base : Nat} {v : Value} {xs : List Int} {ok : Nat → Prop} (hR : Kd.R (Kd.int .u8) 5 W base ok v xs) (hK : Kept W W1 (fun k => v.ownBlock = some k)) {B : Nat} {t : TypeId} {u : Value} (hb : Boxed W B t u) (ht : 5 ≠ t) : Boxed W1 B t u :=
  (hK.2 B hb.lt (fun h => Kd.R_ne hR hb ht h.symm)).trans hb
/-- Behind a call that writes a row of bytes, and the store of what it hands back into its box. -/
theorem put_step {w W W1 : World} {Bn Bb : Nat} {v v' : Value} {xs ys : List Int} {ok ok' : Nat → Prop} {s : ByteArray}
    (hv : Boxed W Bb 80 v) (hR : Kd.R (Kd.int .u8) 5 W w.heap.size ok v xs) (hbx : Boxed W Bn 9 (.string s)) (hB : Below w.heap.size w W) (hB' : Below w.heap.size w W1)
    (hK : Kept W W1 (fun k => v.ownBlock = some k)) (hR' : Kd.R (Kd.int .u8) 5 W1 w.heap.size ok' v' ys) (hBb : w.heap.size ≤ Bb) (hne : Bb ≠ Bn) :
    Turned w.heap.size Bn W (W1.setCell ⟨Bb, 0, none⟩ v') ∧ RowBox Bb w.heap.size ys (W1.setCell ⟨Bb, 0, none⟩ v') ∧ (∀ B t u, Boxed W B t u → 5 ≠ t → B ≠ Bb → Boxed (W1.setCell ⟨Bb, 0, none⟩ v') B t u) := by
  have hv1 : Boxed W1 Bb 80 v := kept_boxed hR hK hv (by decide)
  refine ⟨⟨hB'.os.trans hB.os.symm, hB'.tape.trans hB.tape.symm, hB'.output.trans hB.output.symm, Nat.le_trans hK.1 (KeepsWalks.setCell W1 _ v').size, fun k => v.ownBlock = some k ∨ k = Bb, fun k hk hs => ?_, fun k hs => ?_, fun k o hs ho => ?_⟩, ?_, ?_⟩
  · exact (Below.heap_setCell W1 ⟨Bb, 0, none⟩ v' k (fun e => hs (.inr e))).trans (hK.2 k hk (fun e => hs (.inl e)))
  · rcases hs with hs | rfl
    · exact ⟨own_base (Kd.own_of_R hR) k hs, fun e => by subst e; exact Kd.R_ne hR hbx (by decide) hs.symm⟩
    · exact ⟨hBb, hne⟩
  · rcases hs with hs | rfl
    · obtain ⟨cells, hc⟩ := own_typed (Kd.own_of_R hR) k hs
      rw [hc] at ho; cases ho; rfl
    · rw [show W.heap[k]? = _ from hv] at ho; cases ho; rfl
  · refine ⟨v', hv1.set v', ?_⟩
    have hne' : some Bb ≠ v'.ownBlock := Kd.R_ne hR' hv1 (by decide)
    exact Kd.R_of_own (own_setCell (Kd.own_of_R hR') hne' v') (fun k hk => hk)
  · intro B t u hb ht hnb
    exact (Below.heap_setCell W1 ⟨Bb, 0, none⟩ v' B hnb).trans (kept_boxed hR hK hb ht)

end Go.Proofs.Ytijdlpbkmlplgaa.TR
