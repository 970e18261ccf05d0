import Derived.Test.YtijdlpbkmlplgaaFingerNums
import Derived.Test.YtijdlpbkmlplgaaTextExt
import Derived.Laws.ResultCell
import Derived.Test.YtijdlpbkmlplgaaFingerHex
import Derived.Lib.QuietBelow
import Derived.Deep.WholeRow
/- Parse: the walk. -/
set_option linter.unusedVariables false
set_option linter.unusedSimpArgs false
namespace Go.Proofs.Ytijdlpbkmlplgaa.TF
open Go.RowKit Go.Proofs.YtijdlpbkmlplgaaW.PrintWords Go.Proofs.YtijdlpbkmlplgaaW.PrintMore Go.Proofs.Ytijdlpbkmlplgaa.QG

def hexD : ByteArray := ⟨#[48, 49, 50, 51, 52, 53, 54, 55, 56, 57, 97, 98, 99, 100, 101, 102]⟩
/-- a hex digit's number; -1 of others -/
def idx (c : Int) : Int := if 48 ≤ c ∧ c ≤ 57 then c - 48 else if 97 ≤ c ∧ c ≤ 102 then c - 87 else -1
theorem idx_byte (c : Int) (h0 : 0 ≤ c) (h1 : c ≤ 255) : Lib.indexByte hexD.data.toList c.toNat.toUInt8 = idx c := by
  have : ∀ a : Fin 256, Lib.indexByte hexD.data.toList ((a.val : Int).toNat.toUInt8) = idx (a.val : Int) := by decide +kernel
  have h := this ⟨c.toNat, by omega⟩
  simp only at h
  rwa [show ((c.toNat : Nat) : Int) = c from by omega] at h
theorem idx_bd (c : Int) : -1 ≤ idx c ∧ idx c < 16 := by
  unfold idx
  split
  · omega
  · split <;> omega
theorem digit_f (c : Int) (h0 : 0 ≤ c) (h1 : c ≤ 255) : errataref29_digit.f 17 c = some (if idx c < 0 then 0 else idx c) := by
  have : ∀ a : Fin 256, errataref29_digit.f 17 (a.val : Int) = some (if idx (a.val : Int) < 0 then 0 else idx (a.val : Int)) := by decide +kernel
  have h := this ⟨c.toNat, by omega⟩
  simp only at h
  rwa [show ((c.toNat : Nat) : Int) = c from by omega] at h
theorem indexByte_calls (c : Int) (h0 : 0 ≤ c) (h1 : c ≤ 255) (w : World) : Calls Try.prog 57 #[.string (⟨#[48, 49, 50, 51, 52, 53, 54, 55, 56, 57, 97, 98, 99, 100, 101, 102]⟩ : ByteArray), .int .u8 c] w fun e w' => e = .returned (.int .i64 (idx c)) ∧ w' = w := by
  rw [← idx_byte c h0 h1]
  exact Try.strings_IndexByte hexD c w
theorem digit_calls (c : Int) (h0 : 0 ≤ c) (h1 : c ≤ 255) (w : World) : Calls Try.prog 58 #[.int .u8 c] w fun e w' => e = .returned (.int .u8 (if idx c < 0 then 0 else idx c)) ∧ Drawn0 w w' :=
  errataref29_digit.calls 17 c _ w (digit_f c h0 h1)

def hi (s : ByteArray) (i : Nat) : Int := idx (bt s ((2 * i : Nat) : Int))
def lo (s : ByteArray) (i : Nat) : Int := idx (bt s ((2 * i + 1 : Nat) : Int))
def good (s : ByteArray) (n : Nat) : Prop := ∀ i, i < n → 0 ≤ hi s i ∧ 0 ≤ lo s i
def zeros : List Int := [0, 0, 0, 0, 0, 0, 0, 0, 0, 0, 0, 0, 0, 0, 0, 0]
def parRow (s : ByteArray) : Nat → List Int
  | 0 => zeros
  | i + 1 => (parRow s i).set i (16 * hi s i + lo s i)
theorem parRow_len (s : ByteArray) (i : Nat) : (parRow s i).length = 16 := by
  induction i with
  | zero => rfl
  | succ i ih => unfold parRow; rw [List.length_set, ih]
/-- WHAT Parse ANSWERS. -/
def ParseIs (s : ByteArray) (L : List Int) (c : Int) : Prop := (s.size = 32 ∧ good s 16 ∧ L = parRow s 16 ∧ c = 0) ∨ (¬ (s.size = 32 ∧ good s 16) ∧ L = zeros ∧ c = 4)

/-- ends in the usual way, with this frame, in a world of T -/
def OnlyW (A : Act) (T : World → Prop) : Exit → Act → World → Prop
  | .normal, a, w => a = A ∧ T w
  | _, _, _ => False
theorem mergeW {P : Program} {c : Code} {Q' : Exit → Act → World → Prop} {a : Act} {w : World} (T : World → Prop) {A0 : Act} (h : c.wp P (OnlyW A0 T) a w) (hk : ∀ V, T V → Q' .normal A0 V) : c.wp P Q' a w :=
  Code.wp_mono (fun e a V h => by
    cases e <;> first | exact h.elim | (obtain ⟨h2, h3⟩ := h; subst h2; exact hk V h3)) h
theorem or_eq (h l : Int) (h0 : 0 ≤ h) (h1 : h < 16) (l0 : 0 ≤ l) (l1 : l < 16) : Go.bits .or .i64 (h * 16) l % 256 = 16 * h + l := by
  have : ∀ a b : Fin 16, Go.bits .or .i64 ((a.val : Int) * 16) (b.val : Int) % 256 = 16 * (a.val : Int) + (b.val : Int) := by decide +kernel
  have k := this ⟨h.toNat, by omega⟩ ⟨l.toNat, by omega⟩
  simp only at k
  rwa [show ((h.toNat : Nat) : Int) = h from by omega, show ((l.toNat : Nat) : Int) = l from by omega] at k
theorem results_row_tmp {P : Program} {fn : Func} {p u : Tmp} {ty : TypeId} (h : fn.results = #[.cell p ty, .tmp u]) (tmps : Array Value) (w : World) (g : Nat) (t : TypeId) (cs : Array Value) (fr : Nat × Nat) (d : TypeDesc)
    (hp : tmps.getD p undef = .pointer (some ⟨g, 0, none⟩)) (hg : w.heap[g]? = some (.cells cs t fr))
    (hu : P.underlying ty = some d) (hd : (match d with | .struct _ | .array _ _ => true | _ => false) = true) (hi : (P.info? ty).map (·.size) = some cs.size) :
    (results fn tmps).run P w = .ok (.tuple #[.agg cs, tmps.getD u undef]) w := by
  rw [results_cell_tmp h, hp]
  simp [asAddr, Result.andThen, run_loadVar_row w g t ty cs fr d hg hu hd hi]
theorem two_nums (i : Nat) (h : i < 16) : ∃ k k1 : Nat, 2 * i = k ∧ k + 1 = k1 ∧ IntKind.i64.wrap (2 * (i : Int)) = (k : Int) ∧ IntKind.i64.wrap ((k : Int) + 1) = (k1 : Int) ∧ (0 : Int) ≤ (k : Int) ∧ (k : Int) < 32 ∧ (k1 : Int) < 32 := by
  refine ⟨2 * i, 2 * i + 1, rfl, rfl, ?_, ?_, by omega, by omega, by omega⟩
  · rw [IntWalk.i64_in _ (by omega)]; omega
  · rw [IntWalk.i64_in _ (by omega)]; omega

set_option maxRecDepth 100000 in
set_option maxHeartbeats 1000000 in
theorem parse_walk (s : ByteArray) (hs : s.size ≤ 9223372036854775807) (w : World) :
    Calls Try.prog 25 #[.string s] w fun e w' => (∃ L c, ParseIs s L c ∧ e = .returned (.tuple #[.agg (arr L), .int .i64 c])) ∧ Below w.heap.size w w' := by
  go_enter Try.func25, Try.ntmps25
  by_cases h32 : s.size = 32
  · have h32' : (s.size : Int) = 32 := by omega
    go_wp2
    obtain ⟨Z, hZ⟩ : ∃ Z : Array Value, #[Value.int .u8 0, .int .u8 0, .int .u8 0, .int .u8 0, .int .u8 0, .int .u8 0, .int .u8 0, .int .u8 0, .int .u8 0, .int .u8 0, .int .u8 0, .int .u8 0, .int .u8 0, .int .u8 0, .int .u8 0, .int .u8 0] = Z := ⟨_, rfl⟩
    rw [hZ]
    have hZ' : Z = arr (parRow s 0) := by rw [← hZ]; rfl
    have hZs : Z.size = 16 := by rw [← hZ]; rfl
    obtain ⟨W0, hW0⟩ : ∃ W0, w.alloc (.cells Z 43) = W0 := ⟨_, rfl⟩
    rw [hW0]
    have hn : w.heap.size + 1 = W0.heap.size := by rw [← hW0, World.size_alloc]
    rw [hn]
    have HZ := Aside0.mk hZ
    clear hZ
    go_loopg [12] 16 (fun kq v12 wr => ∃ i m : Nat, v12 = .int .i64 i ∧ i + kq = 16 ∧ Aside0 (good s i) ∧ wr = (W0.drewN m).alloc (.cells (arr (parRow s i)) 43))
    case atStart => exact ⟨0, 0, rfl, rfl, ⟨fun i hi => absurd hi (by omega)⟩, by rw [hZ']; rfl⟩
    case round =>
      obtain ⟨i, m, rfl, hk, HG, rfl⟩ := hrel
      by_cases hi16 : i < 16
      · obtain ⟨k, k1, hkk, hkk1, f1, f2, k0, k2, k3⟩ := two_nums i hi16
        obtain ⟨R, hR⟩ : ∃ R, arr (parRow s i) = R := ⟨_, rfl⟩
        have hRs : R.size = 16 := by rw [← hR, arr_size, parRow_len]
        obtain ⟨x, hx⟩ : ∃ x, R[i]? = some (Value.int .u8 x) := ⟨_, by rw [← hR]; exact arr_get _ i (by rw [parRow_len]; exact hi16)⟩
        rw [hR]
        obtain ⟨W1, hW1⟩ : ∃ W1, (W0.drewN m).alloc (.cells R 43) = W1 := ⟨_, rfl⟩
        rw [hW1]
        have c1 : W1.cell? ⟨W0.heap.size, i, none⟩ = some (Value.int .u8 x) := by rw [← hW1]; exact cell_box (W0.drewN m) R 43 i _ hx
        have z1 : W1.frozen? ⟨W0.heap.size, i, none⟩ = false := by rw [← hW1]; exact frozen_box (W0.drewN m) R 43 i
        have HW1 := Aside0.mk hW1
        have HR := Aside0.mk hR
        have hlk : k < s.size := by omega
        have hlk1 : k1 < s.size := by omega
        obtain ⟨a, ha⟩ : ∃ a, bt s k = a := ⟨_, rfl⟩
        obtain ⟨b, hb⟩ : ∃ b, bt s k1 = b := ⟨_, rfl⟩
        have hsa : ((s[k]'hlk).toNat : Int) = a := by rw [← ha]; exact bt_at s k (by simpa using hlk)
        have hsb : ((s[k1]'hlk1).toNat : Int) = b := by rw [← hb]; exact bt_at s k1 (by simpa using hlk1)
        have ra : 0 ≤ a ∧ a ≤ 255 := by rw [← ha]; exact bt_range s k
        have rb : 0 ≤ b ∧ b ≤ 255 := by rw [← hb]; exact bt_range s k1
        have IA := fun w => indexByte_calls a ra.1 ra.2 w
        have IB := fun w => indexByte_calls b rb.1 rb.2 w
        obtain ⟨h, hh⟩ : ∃ h, idx a = h := ⟨_, rfl⟩
        obtain ⟨l, hl⟩ : ∃ l, idx b = l := ⟨_, rfl⟩
        have bh := idx_bd a
        have bl := idx_bd b
        rw [hh] at IA bh
        rw [hl] at IB bl
        have HH := Aside0.mk (show hi s i = h by unfold hi; rw [hkk, ha, hh])
        have HL := Aside0.mk (show lo s i = l by unfold lo; rw [hkk, hkk1, hb, hl])
        clear ha hb hh hl ra rb hR hW1 hx hZ'
        have hi0 : (0 : Int) ≤ (i : Int) := by omega
        have hi1 : (i : Int) < 16 := by omega
        have h1 : Try.prog.follows .mixedOrders = true := by kernel_rfl
        go_wp2
        apply mergeW (fun V => V = W1.drew)
        · go_region_held3 (fun V => True) (trivial) (first | (go_at_call 57; (with_reducible refine (IA _).mono ?_); rintro e w' ⟨rfl, rfl⟩) | (go_at_call 57; (with_reducible refine (IB _).mono ?_); rintro e w' ⟨rfl, rfl⟩))
          all_goals exact ⟨rfl, rfl⟩
        rintro V rfl
        have c1' : W1.drew.cell? ⟨W0.heap.size, i, none⟩ = some (Value.int .u8 x) := c1
        have z1' : W1.drew.frozen? ⟨W0.heap.size, i, none⟩ = false := z1
        obtain ⟨W2, hW2⟩ : ∃ W2, W1.drew = W2 := ⟨_, rfl⟩
        rw [hW2] at c1' z1' ⊢
        have HW2 := Aside0.mk hW2
        clear hW2 IA IB c1 z1 hsa hsb hlk hlk1 f1 f2 hkk hkk1 k0 k2 k3
        by_cases hg : 0 ≤ h ∧ 0 ≤ l
        · obtain ⟨hg, lg⟩ := hg
          have hor := or_eq h l hg bh.2 lg bl.2
          go_wp2
          have hfin : W2.setCell ⟨W0.heap.size, i, none⟩ (.int .u8 (16 * h + l)) = (W0.drewN (m + 1)).alloc (.cells (arr (parRow s (i + 1))) 43) := by
            rw [← HW2.out, ← HW1.out, ← HR.out]
            show ((W0.drewN (m + 1)).alloc (.cells (arr (parRow s i)) 43)).setCell ⟨(W0.drewN (m + 1)).heap.size, i, none⟩ (.int .u8 (16 * h + l)) = _
            rw [World.setCell_alloc_at _ _ _ _ _ rfl, arr_set]
            show _ = (W0.drewN (m + 1)).alloc (.cells (arr ((parRow s i).set i (16 * hi s i + lo s i))) 43)
            rw [HH.out, HL.out]
          rw [hfin]
          clear hfin hor c1' z1'
          go_roundg (15 - i)
          case measure => omega
          case rel =>
            refine ⟨i + 1, m + 1, by simp, by omega, ⟨fun j hj => ?_⟩, rfl⟩
            by_cases hji : j < i
            · exact HG.out j hji
            · obtain rfl : j = i := by omega
              rw [HH.out, HL.out]
              exact ⟨hg, lg⟩
        · have hq0 : W2.heap[w.heap.size]? = some (.cells Z 43) := by
            rw [← HW2.out, ← HW1.out]
            show ((W0.drewN m).alloc (.cells R 43)).heap[w.heap.size]? = _
            rw [Below.heap_alloc _ _ _ (show w.heap.size < (W0.drewN m).heap.size by show w.heap.size < W0.heap.size; omega)]
            show W0.heap[w.heap.size]? = _
            rw [← hW0]
            exact World.alloc_heap_new w _
          have hB : Below w.heap.size w W2 := by
            rw [← HW2.out, ← HW1.out, ← hW0]
            exact ((below_drewN' ((Below.refl _ w).alloc (Nat.le_refl _) _) m).alloc (show w.heap.size ≤ (w.alloc (.cells Z 43)).heap.size by rw [World.size_alloc]; omega) _).drew
          have hbad : ¬ (s.size = 32 ∧ good s 16) := fun ⟨_, hgd⟩ => by
            have := hgd i hi16
            rw [HH.out, HL.out] at this
            exact hg this
          go_upto_region 9 with (fail)
          all_goals
            refine wp_region_list ?_
            refine wpList_build rfl 43 _ rfl (by kernel_rfl) ?_
            simp only [Array.map_empty, List.map_toArray, List.map_nil]
            obtain ⟨E, hE⟩ : ∃ E : Array Value, (Try.prog.built 43 []).getD #[] = E := ⟨_, rfl⟩
            rw [hE]
            have hEz : E = arr zeros := by rw [← hE]; kernel_rfl
            have hEs : E.size = 16 := by rw [hEz]; rfl
            have hinf : (Try.prog.info? 43).map (·.size) = some 16 := by kernel_rfl
            refine wpList_store_row rfl 43 _ _ rfl _ E rfl rfl 43 Z hq0 (by rw [hEs]; exact hinf) (by rw [hZs, hEs]) (by rw [hEz]; exact arr_one _) ?_
            have hg2 := setRow_heap W2 w.heap.size Z E 43 (0, 0) hq0
            have hB3 : Below w.heap.size w (W2.setRow w.heap.size E) := hB.trans ⟨rfl, rfl, rfl, by rw [setRow_size]; exact Nat.le_refl _, fun i hi => setRow_other _ _ _ _ (by omega)⟩
            obtain ⟨W3, hW3⟩ : ∃ W3, W2.setRow w.heap.size E = W3 := ⟨_, rfl⟩
            rw [hW3] at hg2 hB3 ⊢
            have HG2 := Aside0.mk hg2
            have HI := Aside0.mk (show (Try.prog.info? 43).map (·.size) = some E.size by rw [hEs]; exact hinf)
            have HE := Aside0.mk hEz
            have HB3 := Aside0.mk hB3
            have HN := Aside0.mk hbad
            clear hB3 hg2 hW3 hEz hE hEs hinf hB hq0 c1' z1' hbad
            go_wp2
            exact ⟨rfl, _, results_row_tmp rfl _ W3 w.heap.size 43 E (0, 0) _ rfl HG2.out Try.underlying43 rfl HI.out, ⟨zeros, 4, Or.inr ⟨HN.out, rfl, rfl⟩, by rw [HE.out]; rfl⟩, HB3.out⟩
      · obtain rfl : i = 16 := by omega
        obtain ⟨R, hR⟩ : ∃ R, arr (parRow s 16) = R := ⟨_, rfl⟩
        have hRs : R.size = 16 := by rw [← hR, arr_size, parRow_len]
        have hone : R.all (·.oneCell') = true := by rw [← hR]; exact arr_one _
        rw [hR]
        obtain ⟨W1, hW1⟩ : ∃ W1, (W0.drewN m).alloc (.cells R 43) = W1 := ⟨_, rfl⟩
        rw [hW1]
        have hq1 : W1.heap[W0.heap.size]? = some (.cells R 43) := by rw [← hW1]; exact World.alloc_heap_new (W0.drewN m) _
        have hq0 : W1.heap[w.heap.size]? = some (.cells Z 43) := by
          rw [← hW1]
          rw [Below.heap_alloc _ _ _ (show w.heap.size < (W0.drewN m).heap.size by show w.heap.size < W0.heap.size; omega)]
          show W0.heap[w.heap.size]? = _
          rw [← hW0]
          exact World.alloc_heap_new w _
        have hB : Below w.heap.size w W1 := by
          rw [← hW1, ← hW0]
          exact (below_drewN' ((Below.refl _ w).alloc (Nat.le_refl _) _) m).alloc (show w.heap.size ≤ (w.alloc (.cells Z 43)).heap.size by rw [World.size_alloc]; omega) _
        have hinf : (Try.prog.info? 43).map (·.size) = some 16 := by kernel_rfl
        go_upto_region 12 with (fail)
        refine wp_region_list ?_
        refine wpList_load_row rfl 43 _ rfl _ rfl 43 R (0, 0) _ hq1 Try.underlying43 rfl (by rw [hRs]; exact hinf) ?_
        refine wpList_store_row rfl 43 _ _ rfl _ R rfl rfl 43 Z hq0 (by rw [hRs]; exact hinf) (by rw [hZs, hRs]) hone ?_
        have hg2 := setRow_heap W1 w.heap.size Z R 43 (0, 0) hq0
        have hB3 : Below w.heap.size w (W1.setRow w.heap.size R) := hB.trans ⟨rfl, rfl, rfl, by rw [setRow_size]; exact Nat.le_refl _, fun i hi => setRow_other _ _ _ _ (by omega)⟩
        obtain ⟨W3, hW3⟩ : ∃ W3, W1.setRow w.heap.size R = W3 := ⟨_, rfl⟩
        rw [hW3] at hg2 hB3 ⊢
        have HG2 := Aside0.mk hg2
        have HI := Aside0.mk (show (Try.prog.info? 43).map (·.size) = some R.size by rw [hRs]; exact hinf)
        have HB3 := Aside0.mk hB3
        have HR := Aside0.mk hR
        clear hB3 hg2 hW3 hone hRs hinf hB hq0 hq1 hW1 hR
        go_wp2
        exact ⟨rfl, _, results_row_tmp rfl _ W3 w.heap.size 43 R (0, 0) _ rfl HG2.out Try.underlying43 rfl HI.out, ⟨parRow s 16, 0, Or.inl ⟨h32, HG.out, rfl, rfl⟩, by rw [HR.out]; rfl⟩, HB3.out⟩
  · have h32' : ((s.size : Int) == 32) = false := by rw [beq_eq_false_iff_ne]; omega
    obtain ⟨Z, hZ⟩ : ∃ Z : Array Value, #[Value.int .u8 0, .int .u8 0, .int .u8 0, .int .u8 0, .int .u8 0, .int .u8 0, .int .u8 0, .int .u8 0, .int .u8 0, .int .u8 0, .int .u8 0, .int .u8 0, .int .u8 0, .int .u8 0, .int .u8 0, .int .u8 0] = Z := ⟨_, rfl⟩
    have HZ := Aside0.mk (show Z = arr zeros by rw [← hZ]; rfl)
    have hZs : Z.size = 16 := by rw [← hZ]; rfl
    have hone : Z.all (·.oneCell') = true := by rw [HZ.out]; exact arr_one _
    have hbad : ¬ (s.size = 32 ∧ good s 16) := fun h => h32 h.1
    have hinf : (Try.prog.info? 43).map (·.size) = some 16 := by kernel_rfl
    have hB : Below w.heap.size w ((w.alloc (.cells Z 43)).alloc (.cells Z 43)) := ((Below.refl _ w).alloc (Nat.le_refl _) _).alloc (by rw [World.size_alloc]; omega) _
    have hq0 : ((w.alloc (.cells Z 43)).alloc (.cells Z 43)).heap[w.heap.size]? = some (.cells Z 43) := by
      rw [Below.heap_alloc _ _ _ (by rw [World.size_alloc]; omega)]
      exact World.alloc_heap_new w _
    have hq1 : ((w.alloc (.cells Z 43)).alloc (.cells Z 43)).heap[w.heap.size + 1]? = some (.cells Z 43) := by
      have := World.alloc_heap_new (w.alloc (.cells Z 43)) (.cells Z 43)
      rw [World.size_alloc] at this
      exact this
    go_upto_region 3 with (fail)
    obtain ⟨W1, hW1⟩ : ∃ W1, (w.alloc (.cells Z 43)).alloc (.cells Z 43) = W1 := ⟨_, rfl⟩
    rw [hW1] at hq0 hq1 hB ⊢
    refine wp_region_list ?_
    refine wpList_load_row rfl 43 _ rfl _ rfl 43 Z (0, 0) _ hq1 Try.underlying43 rfl (by rw [hZs]; exact hinf) ?_
    refine wpList_store_row rfl 43 _ _ rfl _ Z rfl rfl 43 Z hq0 (by rw [hZs]; exact hinf) rfl hone ?_
    have hg2 := setRow_heap W1 w.heap.size Z Z 43 (0, 0) hq0
    have hB3 : Below w.heap.size w (W1.setRow w.heap.size Z) := hB.trans ⟨rfl, rfl, rfl, by rw [setRow_size]; exact Nat.le_refl _, fun i hi => setRow_other _ _ _ _ (by omega)⟩
    obtain ⟨W3, hW3⟩ : ∃ W3, W1.setRow w.heap.size Z = W3 := ⟨_, rfl⟩
    rw [hW3] at hg2 hB3 ⊢
    have HG2 := Aside0.mk hg2
    have HI := Aside0.mk (show (Try.prog.info? 43).map (·.size) = some Z.size by rw [hZs]; exact hinf)
    have HB3 := Aside0.mk hB3
    have HN := Aside0.mk hbad
    clear hB3 hg2 hW3 hone hZs hinf hB hq0 hq1 hW1 hZ hbad
    go_wp2
    exact ⟨rfl, _, results_row_tmp rfl _ W3 w.heap.size 43 Z (0, 0) _ rfl HG2.out Try.underlying43 rfl HI.out, ⟨zeros, 4, Or.inr ⟨HN.out, rfl, rfl⟩, by rw [HZ.out]; rfl⟩, HB3.out⟩
end Go.Proofs.Ytijdlpbkmlplgaa.TF
/- The document's Parse: the walk. -/
set_option linter.unusedVariables false
set_option linter.unusedSimpArgs false
namespace Go.Proofs.Ytijdlpbkmlplgaa.TF
open Go.RowKit Go.Proofs.YtijdlpbkmlplgaaW.PrintWords Go.Proofs.YtijdlpbkmlplgaaW.PrintMore Go.Proofs.Ytijdlpbkmlplgaa.QG

def dg (z : Int) : Int := if z < 0 then 0 else z
theorem dg_bd (c : Int) : 0 ≤ dg (idx c) ∧ dg (idx c) < 16 := by
  have := idx_bd c
  unfold dg
  split <;> omega
def refRow (s : ByteArray) : Nat → List Int
  | 0 => zeros
  | i + 1 => (refRow s i).set i (16 * dg (hi s i) + dg (lo s i))
theorem refRow_len (s : ByteArray) (i : Nat) : (refRow s i).length = 16 := by
  induction i with
  | zero => rfl
  | succ i ih => unfold refRow; rw [List.length_set, ih]
/-- the rounds -/
def rounds (s : ByteArray) : Nat := min 16 (s.size / 2)
theorem cond_nums (s : ByteArray) (i : Nat) (h : i ≤ 16) (hs : s.size ≤ 9223372036854775807) : ∃ k k1 : Nat, 2 * i = k ∧ k + 1 = k1 ∧ IntKind.i64.wrap (2 * (i : Int)) = (k : Int) ∧ IntKind.i64.wrap ((k : Int) + 1) = (k1 : Int) ∧ (0 : Int) ≤ (k : Int) := by
  refine ⟨2 * i, 2 * i + 1, rfl, rfl, ?_, ?_, by omega⟩
  · rw [IntWalk.i64_in _ (by omega)]; omega
  · rw [IntWalk.i64_in _ (by omega)]; omega
theorem u8_nums (d e : Int) (h0 : 0 ≤ d) (h1 : d < 16) (e0 : 0 ≤ e) (e1 : e < 16) : IntKind.u8.wrap (16 * d) = 16 * d ∧ IntKind.u8.wrap (16 * d + e) = 16 * d + e ∧ (16 * d) % 256 = 16 * d ∧ (16 * d + e) % 256 = 16 * d + e := by
  refine ⟨?_, ?_, by omega, by omega⟩
  · show (16 * d) % 256 = _; omega
  · show (16 * d + e) % 256 = _; omega

theorem toList_ne {a b : ByteArray} (h : ¬ a = b) : (a.toList == b.toList) = false := by
  rw [beq_eq_false_iff_ne]
  intro k
  rw [ByteArray.toList_eq, ByteArray.toList_eq] at k
  exact h (ByteArray.ext (Array.toList_inj.mp k))
def refAns (H s : ByteArray) (L : List Int) : Value := if H = s then .tuple #[.agg (arr L), .int .i64 0] else .tuple #[.agg (arr zeros), .int .i64 4]
theorem drewN_alloc (w : World) (o : Obj) (m n : Nat) : ((w.drewN m).alloc o).drewN n = (w.drewN (m + n)).alloc o := by
  rw [← World.drewN_drewN]
  rfl

set_option maxRecDepth 100000 in
set_option maxHeartbeats 1000000 in
theorem parse_ref (s : ByteArray) (hs : s.size ≤ 9223372036854775807) (H : ByteArray)
    (hH : ∀ w, Calls Try.prog 32 #[.agg (arr (refRow s (rounds s)))] w fun e w' => e = .returned (.string H) ∧ Below w.heap.size w w') (w : World) :
    Calls Try.prog 26 #[.string s] w fun e w' => e = .returned (refAns H s (refRow s (rounds s))) ∧ Below w.heap.size w w' := by
  have HHx := Aside0.mk hH
  clear hH
  go_enter Try.func26, Try.ntmps26
  go_wp2
  obtain ⟨Z, hZ⟩ : ∃ Z : Array Value, #[Value.int .u8 0, .int .u8 0, .int .u8 0, .int .u8 0, .int .u8 0, .int .u8 0, .int .u8 0, .int .u8 0, .int .u8 0, .int .u8 0, .int .u8 0, .int .u8 0, .int .u8 0, .int .u8 0, .int .u8 0, .int .u8 0] = Z := ⟨_, rfl⟩
  rw [hZ]
  have hZ' : Z = arr (refRow s 0) := by rw [← hZ]; rfl
  have hZs : Z.size = 16 := by rw [← hZ]; rfl
  obtain ⟨W0, hW0⟩ : ∃ W0, w.alloc (.cells Z 42) = W0 := ⟨_, rfl⟩
  rw [hW0]
  have hn : w.heap.size + 1 = W0.heap.size := by rw [← hW0, World.size_alloc]
  rw [hn]
  have HZ := Aside0.mk hZ
  clear hZ
  go_loopg [5] (rounds s) (fun kq v5 wr => ∃ i m : Nat, v5 = .int .i64 i ∧ i + kq = rounds s ∧ wr = (W0.drewN m).alloc (.cells (arr (refRow s i)) 42))
  case atStart => exact ⟨0, 0, rfl, by omega, by rw [hZ']; rfl⟩
  case round =>
    obtain ⟨i, m, rfl, hk, rfl⟩ := hrel
    have hr : rounds s ≤ 16 ∧ 2 * rounds s ≤ s.size ∧ (rounds s < 16 → s.size ≤ 2 * rounds s + 1) := by unfold rounds; omega
    obtain ⟨r, hrr⟩ : ∃ r, rounds s = r := ⟨_, rfl⟩
    rw [hrr] at hr hk
    by_cases hc : i < r
    · have hi16 : i < 16 := by omega
      obtain ⟨k, k1, hkk, hkk1, f1, f2, k0⟩ := cond_nums s i (by omega) hs
      have k2 : (k : Int) < s.size := by omega
      have k3 : (k1 : Int) < s.size := by omega
      obtain ⟨R, hR⟩ : ∃ R, arr (refRow s i) = R := ⟨_, rfl⟩
      have hRs : R.size = 16 := by rw [← hR, arr_size, refRow_len]
      obtain ⟨x, hx⟩ : ∃ x, R[i]? = some (Value.int .u8 x) := ⟨_, by rw [← hR]; exact arr_get _ i (by rw [refRow_len]; exact hi16)⟩
      rw [hR]
      obtain ⟨W1, hW1⟩ : ∃ W1, (W0.drewN m).alloc (.cells R 42) = W1 := ⟨_, rfl⟩
      rw [hW1]
      have c1 : W1.cell? ⟨W0.heap.size, i, none⟩ = some (Value.int .u8 x) := by rw [← hW1]; exact cell_box (W0.drewN m) R 42 i _ hx
      have z1 : W1.frozen? ⟨W0.heap.size, i, none⟩ = false := by rw [← hW1]; exact frozen_box (W0.drewN m) R 42 i
      have HW1 := Aside0.mk hW1
      have HR := Aside0.mk hR
      have hlk : k < s.size := by omega
      have hlk1 : k1 < s.size := by omega
      obtain ⟨a, ha⟩ : ∃ a, bt s k = a := ⟨_, rfl⟩
      obtain ⟨b, hb⟩ : ∃ b, bt s k1 = b := ⟨_, rfl⟩
      have hsa : ((s[k]'hlk).toNat : Int) = a := by rw [← ha]; exact bt_at s k (by simpa using hlk)
      have hsb : ((s[k1]'hlk1).toNat : Int) = b := by rw [← hb]; exact bt_at s k1 (by simpa using hlk1)
      have ra : 0 ≤ a ∧ a ≤ 255 := by rw [← ha]; exact bt_range s k
      have rb : 0 ≤ b ∧ b ≤ 255 := by rw [← hb]; exact bt_range s k1
      have IA := fun w => digit_calls a ra.1 ra.2 w
      have IB := fun w => digit_calls b rb.1 rb.2 w
      have bd := dg_bd a
      have be := dg_bd b
      change ∀ w, Calls Try.prog 58 #[.int .u8 a] w fun e w' => e = .returned (.int .u8 (dg (idx a))) ∧ Drawn0 w w' at IA
      change ∀ w, Calls Try.prog 58 #[.int .u8 b] w fun e w' => e = .returned (.int .u8 (dg (idx b))) ∧ Drawn0 w w' at IB
      obtain ⟨d, hd⟩ : ∃ d, dg (idx a) = d := ⟨_, rfl⟩
      obtain ⟨e, he⟩ : ∃ e, dg (idx b) = e := ⟨_, rfl⟩
      rw [hd] at IA bd
      rw [he] at IB be
      have HH := Aside0.mk (show dg (hi s i) = d by unfold hi; rw [hkk, ha, hd])
      have HL := Aside0.mk (show dg (lo s i) = e by unfold lo; rw [hkk, hkk1, hb, he])
      obtain ⟨u1, u2, u3, u4⟩ := u8_nums d e bd.1 bd.2 be.1 be.2
      have HRR := Aside0.mk hrr
      clear ha hb hd he ra rb hR hW1 hx hZ' hrr
      have hi0 : (0 : Int) ≤ (i : Int) := by omega
      have hi1 : (i : Int) < 16 := by omega
      have h1 : Try.prog.follows .mixedOrders = true := by kernel_rfl
      go_wp2
      apply mergeW (fun V => ∃ m, V = (W1.drewN m).setCell ⟨W0.heap.size, i, none⟩ (.int .u8 (16 * d + e)))
      · go_region_held3 (fun V => True) (trivial) (first | (go_at_call 58; (with_reducible refine (IA _).mono ?_); rintro e w' ⟨rfl, m1, rfl⟩) | (go_at_call 58; (with_reducible refine (IB _).mono ?_); rintro e w' ⟨rfl, m1, rfl⟩))
        all_goals exact ⟨rfl, _, rfl⟩
      rintro V ⟨m2, rfl⟩
      have hfin : (W1.drewN m2).setCell ⟨W0.heap.size, i, none⟩ (.int .u8 (16 * d + e)) = (W0.drewN (m + m2)).alloc (.cells (arr (refRow s (i + 1))) 42) := by
        rw [← HW1.out, ← HR.out]
        have e1 : ((W0.drewN m).alloc (.cells (arr (refRow s i)) 42)).drewN m2 = (W0.drewN (m + m2)).alloc (.cells (arr (refRow s i)) 42) := drewN_alloc W0 _ m m2
        rw [e1]
        show ((W0.drewN (m + m2)).alloc (.cells (arr (refRow s i)) 42)).setCell ⟨(W0.drewN (m + m2)).heap.size, i, none⟩ (.int .u8 (16 * d + e)) = _
        rw [World.setCell_alloc_at _ _ _ _ _ rfl, arr_set]
        show _ = (W0.drewN (m + m2)).alloc (.cells (arr ((refRow s i).set i (16 * dg (hi s i) + dg (lo s i)))) 42)
        rw [HH.out, HL.out]
      rw [hfin]
      clear hfin IA IB c1 z1 hsa hsb hlk hlk1 f1 f2 hkk hkk1 k0 k2 k3 u1 u2 u3 u4
      go_wp2
      go_roundg (gk - 1)
      case measure => omega
      case rel => exact ⟨i + 1, _, by simp, by rw [HRR.out]; omega, rfl⟩
    · obtain rfl : i = r := by omega
      obtain ⟨R, hR⟩ : ∃ R, arr (refRow s i) = R := ⟨_, rfl⟩
      have hRs : R.size = 16 := by rw [← hR, arr_size, refRow_len]
      have hone : R.all (·.oneCell') = true := by rw [← hR]; exact arr_one _
      have HX : Aside0 (∀ w, Calls Try.prog 32 #[.agg R] w fun e w' => e = .returned (.string H) ∧ Below w.heap.size w w') := ⟨by rw [← hR, ← hrr]; exact HHx.out⟩
      have HR := Aside0.mk (show arr (refRow s (rounds s)) = R by rw [hrr, hR])
      rw [hR]
      obtain ⟨W1, hW1⟩ : ∃ W1, (W0.drewN m).alloc (.cells R 42) = W1 := ⟨_, rfl⟩
      rw [hW1]
      have hq1 : W1.heap[W0.heap.size]? = some (.cells R 42) := by rw [← hW1]; exact World.alloc_heap_new (W0.drewN m) _
      have hq0 : W1.heap[w.heap.size]? = some (.cells Z 42) := by
        rw [← hW1]
        rw [Below.heap_alloc _ _ _ (show w.heap.size < (W0.drewN m).heap.size by show w.heap.size < W0.heap.size; omega)]
        show W0.heap[w.heap.size]? = _
        rw [← hW0]
        exact World.alloc_heap_new w _
      have hB : Below w.heap.size w W1 := by
        rw [← hW1, ← hW0]
        exact (below_drewN' ((Below.refl _ w).alloc (Nat.le_refl _) _) m).alloc (show w.heap.size ≤ (w.alloc (.cells Z 42)).heap.size by rw [World.size_alloc]; omega) _
      have hinf : (Try.prog.info? 42).map (·.size) = some 16 := by kernel_rfl
      obtain ⟨k, k1, hkk, hkk1, f1, f2, k0⟩ := cond_nums s i (by omega) hs
      have hcase : (i : Int) = 16 ∨ ((i : Int) < 16 ∧ ¬ (k1 : Int) < s.size) := by omega
      have l0 : w.heap.size < W1.heap.size := (Array.getElem?_eq_some_iff.1 hq0).1
      have l1 : W0.heap.size < W1.heap.size := (Array.getElem?_eq_some_iff.1 hq1).1
      clear hW1 hR hZ' hrr hr hk
      have HHs : Aside0 (H = s ∨ ¬ H = s) := ⟨Classical.em _⟩
      have HRs := Aside0.mk hone
      clear hone
      rcases hcase with h16 | ⟨h16, hk1⟩
      all_goals
        go_upto_region 6 with (fail)
        refine wp_region_list ?_
        refine wpList_load_row rfl 42 _ rfl _ rfl 42 R (0, 0) _ hq1 Try.underlying42 rfl (by rw [hRs]; exact hinf) ?_
        rcases HHs.out with hEq | hNe
        · go_upto_region 8 with (go_at_call 32; (with_reducible refine (HX.out _).mono ?_); rintro e w1 ⟨rfl, b1⟩)
          have hq1' := (b1.block _ l1).trans hq1
          have hq0' := (b1.block _ l0).trans hq0
          have hB' := hB.trans (b1.mono (Nat.le_of_lt l0))
          refine wp_region_list ?_
          refine wpList_load_row rfl 42 _ rfl _ rfl 42 R (0, 0) _ hq1' Try.underlying42 rfl (by rw [hRs]; exact hinf) ?_
          refine wpList_store_row rfl 42 _ _ rfl _ R rfl rfl 42 Z hq0' (by rw [hRs]; exact hinf) (by rw [hZs, hRs]) HRs.out ?_
          have hg2 := setRow_heap w1 w.heap.size Z R 42 (0, 0) hq0'
          have hB3 : Below w.heap.size w (w1.setRow w.heap.size R) := hB'.trans ⟨rfl, rfl, rfl, by rw [setRow_size]; exact Nat.le_refl _, fun i hi => setRow_other _ _ _ _ (by omega)⟩
          obtain ⟨W3, hW3⟩ : ∃ W3, w1.setRow w.heap.size R = W3 := ⟨_, rfl⟩
          rw [hW3] at hg2 hB3 ⊢
          have HG2 := Aside0.mk hg2
          have HI := Aside0.mk (show (Try.prog.info? 42).map (·.size) = some R.size by rw [hRs]; exact hinf)
          have HB3 := Aside0.mk hB3
          have HE := Aside0.mk hEq
          clear hB3 hg2 hW3 hRs hinf hB hB' hq0 hq1 hq0' hq1' b1 hEq
          go_wp2
          exact ⟨rfl, _, results_row_tmp rfl _ W3 w.heap.size 42 R (0, 0) _ rfl HG2.out Try.underlying42 rfl HI.out, by rw [refAns, if_pos HE.out, HR.out]; rfl, HB3.out⟩
        · have hbt := toList_ne hNe
          go_upto_region 7 with (go_at_call 32; (with_reducible refine (HX.out _).mono ?_); rintro e w1 ⟨rfl, b1⟩)
          have hq0' := (b1.block _ l0).trans hq0
          have hB' := hB.trans (b1.mono (Nat.le_of_lt l0))
          refine wp_region_list ?_
          refine wpList_build rfl 42 _ rfl (by kernel_rfl) ?_
          simp only [Array.map_empty, List.map_toArray, List.map_nil]
          obtain ⟨E, hE⟩ : ∃ E : Array Value, (Try.prog.built 42 []).getD #[] = E := ⟨_, rfl⟩
          rw [hE]
          have hEz : E = arr zeros := by rw [← hE]; kernel_rfl
          have hEs : E.size = 16 := by rw [hEz]; rfl
          refine wpList_store_row rfl 42 _ _ rfl _ E rfl rfl 42 Z hq0' (by rw [hEs]; exact hinf) (by rw [hZs, hEs]) (by rw [hEz]; exact arr_one _) ?_
          have hg2 := setRow_heap w1 w.heap.size Z E 42 (0, 0) hq0'
          have hB3 : Below w.heap.size w (w1.setRow w.heap.size E) := hB'.trans ⟨rfl, rfl, rfl, by rw [setRow_size]; exact Nat.le_refl _, fun i hi => setRow_other _ _ _ _ (by omega)⟩
          obtain ⟨W3, hW3⟩ : ∃ W3, w1.setRow w.heap.size E = W3 := ⟨_, rfl⟩
          rw [hW3] at hg2 hB3 ⊢
          have HG2 := Aside0.mk hg2
          have HI := Aside0.mk (show (Try.prog.info? 42).map (·.size) = some E.size by rw [hEs]; exact hinf)
          have HB3 := Aside0.mk hB3
          have HE := Aside0.mk hEz
          have HN := Aside0.mk hNe
          clear hB3 hg2 hW3 hRs hinf hB hB' hq0 hq1 hq0' b1 hEz hEs hE hNe
          go_wp2
          exact ⟨rfl, _, results_row_tmp rfl _ W3 w.heap.size 42 E (0, 0) _ rfl HG2.out Try.underlying42 rfl HI.out, by rw [refAns, if_neg HN.out, HE.out]; rfl, HB3.out⟩
end Go.Proofs.Ytijdlpbkmlplgaa.TF
/- Parse: the document's answer is the program's. -/
set_option linter.unusedVariables false
set_option linter.unusedSimpArgs false
namespace Go.Proofs.Ytijdlpbkmlplgaa.TF
open Go.RowKit Go.Proofs.YtijdlpbkmlplgaaW.PrintWords Go.Proofs.YtijdlpbkmlplgaaW.PrintMore Go.Proofs.Ytijdlpbkmlplgaa.QG

theorem hexI_idx (c : Int) (h : 0 ≤ idx c) : TR.hexI (idx c) = c := by
  have : (48 ≤ c ∧ c ≤ 57 ∧ idx c = c - 48) ∨ (97 ≤ c ∧ c ≤ 102 ∧ idx c = c - 87) := by
    by_cases h1 : 48 ≤ c ∧ c ≤ 57
    · exact Or.inl ⟨h1.1, h1.2, by unfold idx; rw [if_pos h1]⟩
    · by_cases h2 : 97 ≤ c ∧ c ≤ 102
      · exact Or.inr ⟨h2.1, h2.2, by unfold idx; rw [if_neg h1, if_pos h2]⟩
      · unfold idx at h
        rw [if_neg h1, if_neg h2] at h
        omega
  rcases this with ⟨h1, h2, e⟩ | ⟨h1, h2, e⟩
  · rw [e]; unfold TR.hexI; rw [if_pos (by omega)]; omega
  · rw [e]; unfold TR.hexI; rw [if_neg (by omega)]; omega
theorem idx_hexI (n : Int) (h0 : 0 ≤ n) (h1 : n < 16) : 0 ≤ idx (TR.hexI n) := by
  unfold idx TR.hexI
  split
  · rw [if_pos (by omega)]; omega
  · rw [if_neg (by omega), if_pos (by omega)]; omega
theorem hexI_bd (n : Int) (h0 : 0 ≤ n) (h1 : n < 16) : 0 ≤ TR.hexI n ∧ TR.hexI n < 256 := by
  unfold TR.hexI
  split <;> omega
theorem rd_set (L : List Int) (n : Nat) (v : Int) (i : Nat) (hn : n < L.length) : rd (L.set n v) (i : Int) = if n = i then v else rd L (i : Int) := by
  have e : ((i : Nat) : Int).toNat = i := by omega
  simp only [rd, e, List.getD_eq_getElem?_getD, List.getElem?_set]
  by_cases h : n = i
  · subst h
    simp [hn]
  · simp [h]
theorem rd_ref (s : ByteArray) (n : Nat) : ∀ i : Nat, n ≤ 16 → 0 ≤ rd (refRow s n) (i : Int) ∧ rd (refRow s n) (i : Int) < 256 := by
  induction n with
  | zero =>
    intro i _
    have : rd (refRow s 0) (i : Int) = 0 := by
      show zeros.getD ((i : Nat) : Int).toNat 0 = 0
      have e : ((i : Nat) : Int).toNat = i := by omega
      rw [e]
      by_cases h : i < 16
      · have : i = 0 ∨ i = 1 ∨ i = 2 ∨ i = 3 ∨ i = 4 ∨ i = 5 ∨ i = 6 ∨ i = 7 ∨ i = 8 ∨ i = 9 ∨ i = 10 ∨ i = 11 ∨ i = 12 ∨ i = 13 ∨ i = 14 ∨ i = 15 := by omega
        rcases this with rfl | rfl | rfl | rfl | rfl | rfl | rfl | rfl | rfl | rfl | rfl | rfl | rfl | rfl | rfl | rfl <;> rfl
      · simp [List.getD_eq_getElem?_getD, List.getElem?_eq_none (show zeros.length ≤ i by show 16 ≤ i; omega)]
    rw [this]; decide
  | succ n ih =>
    intro i hn
    have := ih i (by omega)
    show 0 ≤ rd ((refRow s n).set n (16 * dg (hi s n) + dg (lo s n))) (i : Int) ∧ rd ((refRow s n).set n (16 * dg (hi s n) + dg (lo s n))) (i : Int) < 256
    rw [rd_set _ _ _ _ (by rw [refRow_len]; omega)]
    have h1 : 0 ≤ dg (hi s n) ∧ dg (hi s n) < 16 := dg_bd _
    have h2 : 0 ≤ dg (lo s n) ∧ dg (lo s n) < 16 := dg_bd _
    split
    · omega
    · exact this
theorem ref_par (s : ByteArray) (n : Nat) (h : good s n) : refRow s n = parRow s n := by
  induction n with
  | zero => rfl
  | succ n ih =>
    have hg := h n (by omega)
    show (refRow s n).set n (16 * dg (hi s n) + dg (lo s n)) = (parRow s n).set n (16 * hi s n + lo s n)
    rw [ih (fun i hi => h i (by omega))]
    have e1 : dg (hi s n) = hi s n := by unfold dg; rw [if_neg (by omega)]
    have e2 : dg (lo s n) = lo s n := by unfold dg; rw [if_neg (by omega)]
    rw [e1, e2]
theorem rd_par (s : ByteArray) (n : Nat) : ∀ i : Nat, i < n → n ≤ 16 → rd (parRow s n) (i : Int) = 16 * hi s i + lo s i := by
  induction n with
  | zero => intro i h; omega
  | succ n ih =>
    intro i h hn
    show rd ((parRow s n).set n (16 * hi s n + lo s n)) (i : Int) = _
    rw [rd_set _ _ _ _ (by rw [parRow_len]; omega)]
    split
    · rename_i e; rw [e]
    · exact ih i (by omega) (by omega)
theorem hexs_par (s : ByteArray) (h32 : s.size = 32) (hg : good s 16) (n : Nat) : n ≤ 16 → hexs (parRow s 16) n = (bytesOf s).take (2 * n) := by
  induction n with
  | zero => intro _; simp [hexs]
  | succ n ih =>
    intro hn
    have hl : (bytesOf s).length = 32 := by rw [bytesOf_length, h32]
    show hexs (parRow s 16) n ++ [TR.hexI (rd (parRow s 16) (n : Int) / 16), TR.hexI (rd (parRow s 16) (n : Int) % 16)] = _
    rw [ih (by omega), rd_par s 16 n (by omega) (by omega)]
    have g := hg n (by omega)
    have b1 : hi s n < 16 := (idx_bd _).2
    have b2 : lo s n < 16 := (idx_bd _).2
    obtain ⟨a, ha⟩ : ∃ a, hi s n = a := ⟨_, rfl⟩
    obtain ⟨b, hb⟩ : ∃ b, lo s n = b := ⟨_, rfl⟩
    rw [ha] at g b1 ⊢
    rw [hb] at g b2 ⊢
    rw [show (16 * a + b) / 16 = a by omega, show (16 * a + b) % 16 = b by omega]
    have e1 : TR.hexI a = bt s ((2 * n : Nat) : Int) := by rw [← ha]; exact hexI_idx _ (by show 0 ≤ hi s n; omega)
    have e2 : TR.hexI b = bt s ((2 * n + 1 : Nat) : Int) := by rw [← hb]; exact hexI_idx _ (by show 0 ≤ lo s n; omega)
    have g1 : (bytesOf s)[2 * n]? = some (bt s ((2 * n : Nat) : Int)) := by
      rw [← rd_bytesOf, List.getElem?_eq_getElem (by omega)]
      have e : ((2 * n : Nat) : Int).toNat = 2 * n := by omega
      simp only [rd, e, List.getD_eq_getElem?_getD, List.getElem?_eq_getElem (show 2 * n < (bytesOf s).length by omega), Option.getD_some]
    have g2 : (bytesOf s)[2 * n + 1]? = some (bt s ((2 * n + 1 : Nat) : Int)) := by
      rw [← rd_bytesOf, List.getElem?_eq_getElem (by omega)]
      have e : ((2 * n + 1 : Nat) : Int).toNat = 2 * n + 1 := by omega
      simp only [rd, e, List.getD_eq_getElem?_getD, List.getElem?_eq_getElem (show 2 * n + 1 < (bytesOf s).length by omega), Option.getD_some]
    rw [e1, e2, show 2 * (n + 1) = 2 * n + 1 + 1 by omega, List.take_add_one, List.take_add_one, g1, g2]
    simp
theorem hexs_bd (xs : List Int) (hb : ∀ i : Nat, i < 16 → 0 ≤ rd xs (i : Int) ∧ rd xs (i : Int) < 256) (n : Nat) : n ≤ 16 → ∀ c ∈ hexs xs n, 0 ≤ c ∧ c < 256 := by
  induction n with
  | zero => intro _ c hc; simp [hexs] at hc
  | succ n ih =>
    intro hn c hc
    have hc' : c ∈ hexs xs n ++ [TR.hexI (rd xs (n : Int) / 16), TR.hexI (rd xs (n : Int) % 16)] := hc
    have b := hb n (by omega)
    rcases List.mem_append.1 hc' with h | h
    · exact ih (by omega) c h
    · rcases List.mem_cons.1 h with h | h
      · rw [h]; exact hexI_bd _ (by omega) (by omega)
      · rw [List.mem_singleton.1 h]; exact hexI_bd _ (by omega) (by omega)
theorem hexs_at (xs : List Int) (n : Nat) : ∀ i : Nat, i < n → (hexs xs n)[2 * i]? = some (TR.hexI (rd xs (i : Int) / 16)) ∧ (hexs xs n)[2 * i + 1]? = some (TR.hexI (rd xs (i : Int) % 16)) := by
  induction n with
  | zero => intro i h; omega
  | succ n ih =>
    intro i h
    show (hexs xs n ++ [TR.hexI (rd xs (n : Int) / 16), TR.hexI (rd xs (n : Int) % 16)])[2 * i]? = _ ∧ (hexs xs n ++ [TR.hexI (rd xs (n : Int) / 16), TR.hexI (rd xs (n : Int) % 16)])[2 * i + 1]? = _
    have hl := hexs_len xs n
    by_cases hi : i < n
    · rw [List.getElem?_append_left (by omega), List.getElem?_append_left (by omega)]
      exact ih i hi
    · obtain rfl : i = n := by omega
      rw [List.getElem?_append_right (by omega), List.getElem?_append_right (by omega), hl]
      simp
theorem bytes_back (xs : List Int) (h : ∀ c ∈ xs, 0 ≤ c ∧ c < 256) : bytesOf (strOfNums xs) = xs := by
  show (strOfNums xs).data.toList.map (fun b => ((b.toNat : Nat) : Int)) = xs
  rw [strOfNums_data, List.map_map]
  conv => rhs; rw [← List.map_id xs]
  refine List.map_congr_left (fun c hc => ?_)
  have := h c hc
  show (((UInt8.ofNat c.toNat).toNat : Nat) : Int) = c
  have e : (UInt8.ofNat c.toNat).toNat = c.toNat % 256 := by simp
  rw [e]
  omega
theorem str_back (s : ByteArray) : strOfNums (bytesOf s) = s := by
  apply ByteArray.ext
  apply Array.toList_inj.1
  rw [strOfNums_data]
  show (s.data.toList.map (fun b => ((b.toNat : Nat) : Int))).map _ = _
  rw [List.map_map]
  conv => rhs; rw [← List.map_id s.data.toList]
  refine List.map_congr_left (fun b _ => ?_)
  show UInt8.ofNat (((b.toNat : Nat) : Int)).toNat = b
  simp
def hexT (s : ByteArray) : ByteArray := strOfNums (hexs (refRow s (rounds s)) 16)
theorem back_is (s : ByteArray) : hexT s = s ↔ (s.size = 32 ∧ good s 16) := by
  have hr : rounds s ≤ 16 := by unfold rounds; omega
  have hb : ∀ i : Nat, i < 16 → 0 ≤ rd (refRow s (rounds s)) (i : Int) ∧ rd (refRow s (rounds s)) (i : Int) < 256 := fun i _ => rd_ref s _ i hr
  constructor
  · intro h
    have h1 : bytesOf s = hexs (refRow s (rounds s)) 16 := by
      conv => lhs; rw [← h]
      exact bytes_back _ (hexs_bd _ hb 16 (Nat.le_refl _))
    have h32 : s.size = 32 := by rw [← bytesOf_length, h1, hexs_len]
    refine ⟨h32, fun i hi => ?_⟩
    obtain ⟨a1, a2⟩ := hexs_at (refRow s (rounds s)) 16 i hi
    rw [← h1] at a1 a2
    have b := hb i hi
    have e1 : bt s ((2 * i : Nat) : Int) = TR.hexI (rd (refRow s (rounds s)) (i : Int) / 16) := by
      rw [← rd_bytesOf]
      have e : ((2 * i : Nat) : Int).toNat = 2 * i := by omega
      simp only [rd, e, List.getD_eq_getElem?_getD, a1, Option.getD_some]
    have e2 : bt s ((2 * i + 1 : Nat) : Int) = TR.hexI (rd (refRow s (rounds s)) (i : Int) % 16) := by
      rw [← rd_bytesOf]
      have e : ((2 * i + 1 : Nat) : Int).toNat = 2 * i + 1 := by omega
      simp only [rd, e, List.getD_eq_getElem?_getD, a2, Option.getD_some]
    refine ⟨?_, ?_⟩
    · show 0 ≤ idx _; rw [e1]; exact idx_hexI _ (by omega) (by omega)
    · show 0 ≤ idx _; rw [e2]; exact idx_hexI _ (by omega) (by omega)
  · rintro ⟨h32, hg⟩
    have hrr : rounds s = 16 := by unfold rounds; omega
    unfold hexT
    rw [hrr, ref_par s 16 hg, hexs_par s h32 hg 16 (Nat.le_refl _), List.take_of_length_le (by rw [bytesOf_length, h32]; decide), str_back]
theorem hexref_calls (s : ByteArray) (w : World) : Calls Try.prog 32 #[.agg (arr (refRow s (rounds s)))] w fun e w' => e = .returned (.string (hexT s)) ∧ Below w.heap.size w w' := by
  have hr : rounds s ≤ 16 := by unfold rounds; omega
  obtain ⟨k, _, h⟩ := hex_same (refRow s (rounds s)) (refRow_len s _) (fun i _ => rd_ref s _ i hr)
  exact Ytijdlpbkmlplgaa.QH.errataref29_Hex.calls k _ _ w (refRow_len s _) h
/-- BOTH Parse ANSWER ALIKE. -/
theorem parse_both (s : ByteArray) (hs : s.size ≤ 9223372036854775807) : ∃ L c, L.length = 16 ∧
    (∀ w, Calls Try.prog 25 #[.string s] w fun e w' => e = .returned (.tuple #[.agg (arr L), .int .i64 c]) ∧ Below w.heap.size w w') ∧
    (∀ w, Calls Try.prog 26 #[.string s] w fun e w' => e = .returned (.tuple #[.agg (arr L), .int .i64 c]) ∧ Below w.heap.size w w') := by
  have hb := back_is s
  by_cases h : s.size = 32 ∧ good s 16
  · have hrr : rounds s = 16 := by unfold rounds; omega
    refine ⟨parRow s 16, 0, parRow_len s 16, fun w => ?_, fun w => ?_⟩
    · refine (parse_walk s hs w).mono ?_
      rintro e w' ⟨⟨L, c, hL, rfl⟩, hB⟩
      rcases hL with ⟨_, _, rfl, rfl⟩ | ⟨hn, _⟩
      · exact ⟨rfl, hB⟩
      · exact absurd h hn
    · refine (parse_ref s hs (hexT s) (hexref_calls s) w).mono ?_
      rintro e w' ⟨rfl, hB⟩
      refine ⟨?_, hB⟩
      unfold refAns
      rw [if_pos (hb.2 h), hrr, ref_par s 16 h.2]
  · refine ⟨zeros, 4, rfl, fun w => ?_, fun w => ?_⟩
    · refine (parse_walk s hs w).mono ?_
      rintro e w' ⟨⟨L, c, hL, rfl⟩, hB⟩
      rcases hL with ⟨h1, h2, _⟩ | ⟨_, rfl, rfl⟩
      · exact absurd ⟨h1, h2⟩ h
      · exact ⟨rfl, hB⟩
    · refine (parse_ref s hs (hexT s) (hexref_calls s) w).mono ?_
      rintro e w' ⟨rfl, hB⟩
      refine ⟨?_, hB⟩
      unfold refAns
      rw [if_neg (fun k => h (hb.1 k))]
end Go.Proofs.Ytijdlpbkmlplgaa.TF
/- FingerTexts: the law's walk. -/
set_option linter.unusedVariables false
set_option linter.unusedSimpArgs false
namespace Go.Proofs.Ytijdlpbkmlplgaa.TF
open Go.RowKit Go.Proofs.YtijdlpbkmlplgaaW.PrintWords Go.Proofs.YtijdlpbkmlplgaaW.PrintMore Go.Proofs.Ytijdlpbkmlplgaa.QG

theorem stores_new (t : TypeId) (ht : t = 42 ∨ t = 43) (Z A : Array Value) (hZ : Z.size = 16) (hA : A.size = 16) (h1 : A.all (·.oneCell') = true) (W : World) (n : Nat) (hn : n = W.heap.size) :
    (storeCells ⟨n, 0, none⟩ A.toList 0).run Try.prog (W.alloc (.cells Z t)) = .ok () (W.alloc (.cells A t)) := by
  subst hn
  refine run_storeCells_new W t Z A ?_ (by rw [hZ, hA]) h1
  rw [hA]
  rcases ht with rfl | rfl
  · kernel_rfl
  · kernel_rfl
theorem old_row {V : World} {b : Nat} {A : Array Value} {t : TypeId} (h : V.heap[b]? = some (.cells A t)) (o : Obj) : (V.alloc o).heap[b]? = some (.cells A t) := by
  rw [Below.heap_alloc _ _ _ (Array.getElem?_eq_some_iff.1 h).1]
  exact h

open Go.Sort in
theorem wpQuiet_load_row {P : Program} {ops : Array Oper} {Q : Act → Prop} {o : Oper} {rest : List Oper} {a : Act} {V : World} (ty : TypeId) (x : Operand) (ho : o.op = .load ty x) (hw : Region.wanted o (yielded ops a.tmps) = true)
    (g : Nat) (hx : a.eval x = .pointer (some ⟨g, 0, none⟩)) (t : TypeId) (cs : Array Value) (d : TypeDesc) (hg : V.heap[g]? = some (.cells cs t))
    (hu : P.underlying ty = some d) (hd : (match d with | .struct _ | .array _ _ => true | _ => false) = true) (hi : (P.info? ty).map (·.size) = some cs.size)
    (h : wpQuiet P ops (fun w' => ∃ p : Regrown, w' = grow (redrawn V p.d) p.os) Q rest (a.put o.dst (.agg cs))) : wpQuiet P ops (fun w' => ∃ p : Regrown, w' = grow (redrawn V p.d) p.os) Q (o :: rest) a := by
  refine wpQuiet_step (fun K hK => ?_)
  rw [if_pos hw]
  refine ⟨.agg cs, fun w hw' => ?_, hK _ h⟩
  obtain ⟨p, rfl⟩ := hw'
  have hg' : (grow (redrawn V p.d) p.os).heap[g]? = some (.cells cs t (0, 0)) := ((below_regrown V p.d p.os).block g (Array.getElem?_eq_some_iff.1 hg).1).trans hg
  unfold Oper.quietAt execOp
  simp only [ho, hx, Instr.loadAt, Instr.sureAddr, Sem.run_bind, Sem.run_pure, Result.andThen_ok, run_loadVar_row _ g t ty cs (0, 0) d hg' hu hd hi]
  exact ⟨rfl, rfl⟩

set_option maxRecDepth 100000 in
set_option maxHeartbeats 1000000 in
theorem law_walk (s D X : ByteArray) (A B F L : Array Value) (c n : Int) (hA : A.size = 16) (hB : B.size = 16) (hL : L.size = 16) (hA1 : A.all (·.oneCell') = true) (hB1 : B.all (·.oneCell') = true) (hL1 : L.all (·.oneCell') = true)
    (p1 : ∀ w, Calls Try.prog 25 #[.string s] w fun e w' => e = .returned (.tuple #[.agg L, .int .i64 c]) ∧ Below w.heap.size w w')
    (p2 : ∀ w, Calls Try.prog 26 #[.string s] w fun e w' => e = .returned (.tuple #[.agg L, .int .i64 c]) ∧ Below w.heap.size w w')
    (p3 : ∀ w, Calls Try.prog 27 #[.string s] w fun e w' => e = .returned (.agg F) ∧ Below w.heap.size w w')
    (p4 : ∀ w, Calls Try.prog 28 #[.string s] w fun e w' => e = .returned (.agg F) ∧ Below w.heap.size w w')
    (p5 : ∀ w, Calls Try.prog 29 #[.string s] w fun e w' => e = .returned (.string D) ∧ Below w.heap.size w w')
    (p6 : ∀ w, Calls Try.prog 30 #[.string s] w fun e w' => e = .returned (.string D) ∧ Below w.heap.size w w')
    (p7 : ∀ w, Calls Try.prog 31 #[.agg A] w fun e w' => e = .returned (.string X) ∧ Below w.heap.size w w')
    (p8 : ∀ w, Calls Try.prog 32 #[.agg A] w fun e w' => e = .returned (.string X) ∧ Below w.heap.size w w')
    (p9 : ∀ w, Calls Try.prog 33 #[.agg A, .agg B] w fun e w' => e = .returned (.int .i64 n) ∧ Below w.heap.size w w')
    (p10 : ∀ w, Calls Try.prog 34 #[.agg A, .agg B] w fun e w' => e = .returned (.int .i64 n) ∧ Below w.heap.size w w')
    (eF : ∀ W, Sem.run Try.prog (binOp .eql 43 (.agg F) (.agg F)) W = .ok (.bool true) W) (eL : ∀ W, Sem.run Try.prog (binOp .eql 43 (.agg L) (.agg L)) W = .ok (.bool true) W)
    (w : World) :
    Calls Try.prog 6 #[.string s, .agg A, .agg B] w fun e w' => e = .returned (.bool true) ∧ Below w.heap.size w w' := by
  obtain ⟨Z, hZ⟩ : ∃ Z : Array Value, #[Value.int .u8 0, .int .u8 0, .int .u8 0, .int .u8 0, .int .u8 0, .int .u8 0, .int .u8 0, .int .u8 0, .int .u8 0, .int .u8 0, .int .u8 0, .int .u8 0, .int .u8 0, .int .u8 0, .int .u8 0, .int .u8 0] = Z := ⟨_, rfl⟩
  have hZs : Z.size = 16 := by rw [← hZ]; rfl
  have kA := fun W n hn => stores_new 43 (Or.inr rfl) Z A hZs hA hA1 W n hn
  have kB := fun W n hn => stores_new 43 (Or.inr rfl) Z B hZs hB hB1 W n hn
  have kL := fun W n hn => stores_new 43 (Or.inr rfl) Z L hZs hL hL1 W n hn
  have kM := fun W n hn => stores_new 42 (Or.inl rfl) Z L hZs hL hL1 W n hn
  have hinf2 : (Try.prog.info? 42).map (·.size) = some 16 := by kernel_rfl
  go_enter Try.func6, Try.ntmps6
  go_upto_region 1 with (fail)
  obtain ⟨V1, hV1⟩ : ∃ V1, (w.alloc (.cells A 42)).alloc (.cells B 42) = V1 := ⟨_, rfl⟩
  have b1 : Below w.heap.size w V1 := by rw [← hV1]; exact ((Below.refl _ w).alloc (Nat.le_refl _) _).alloc (by rw [World.size_alloc]; omega) _
  have rA : V1.heap[w.heap.size]? = some (.cells A 42) := by rw [← hV1]; exact old_row (World.alloc_heap_new w _) _
  have rB : V1.heap[w.heap.size + 1]? = some (.cells B 42) := by
    rw [← hV1]
    have := World.alloc_heap_new (w.alloc (.cells A 42)) (.cells B 42)
    rw [World.size_alloc] at this
    exact this
  rw [hV1]
  have HB1 := Aside0.mk b1
  have HI2 := Aside0.mk hinf2
  clear hV1 b1 hinf2
  refine wp_region_list ?_
  refine wpList_load_row rfl 42 _ rfl _ rfl 42 A (0, 0) _ rA Try.underlying42 rfl (by rw [hA]; exact HI2.out) ?_
  go_upto_region 2 with (fail)
  have rA2 := old_row rA (.cells A 43)
  have rB2 := old_row rB (.cells A 43)
  have rX : (V1.alloc (.cells A 43)).heap[V1.heap.size]? = some (.cells A 43) := World.alloc_heap_new V1 _
  have b2 : Below w.heap.size w (V1.alloc (.cells A 43)) := HB1.out.alloc HB1.out.size _
  obtain ⟨V2, hV2⟩ : ∃ V2, V1.alloc (.cells A 43) = V2 := ⟨_, rfl⟩
  obtain ⟨nx, hnx⟩ : ∃ nx, V1.heap.size = nx := ⟨_, rfl⟩
  rw [hV2] at rA2 rB2 rX b2 ⊢
  rw [hnx] at rX ⊢
  have HB2 := Aside0.mk b2
  clear rA rB hV2 hnx HB1 b2
  refine wp_region_list ?_
  refine wpList_load_row rfl 42 _ rfl _ rfl 42 B (0, 0) _ rB2 Try.underlying42 rfl (by rw [hB]; exact HI2.out) ?_
  go_upto_region 3 with (fail)
  have rA3 := old_row rA2 (.cells B 43)
  have rB3 := old_row rB2 (.cells B 43)
  have rX3 := old_row rX (.cells B 43)
  have rY : (V2.alloc (.cells B 43)).heap[V2.heap.size]? = some (.cells B 43) := World.alloc_heap_new V2 _
  have b3 : Below w.heap.size w (V2.alloc (.cells B 43)) := HB2.out.alloc HB2.out.size _
  obtain ⟨V3, hV3⟩ : ∃ V3, V2.alloc (.cells B 43) = V3 := ⟨_, rfl⟩
  obtain ⟨ny, hny⟩ : ∃ ny, V2.heap.size = ny := ⟨_, rfl⟩
  rw [hV3] at rA3 rB3 rX3 rY b3 ⊢
  rw [hny] at rY ⊢
  have HB3 := Aside0.mk b3
  clear rA2 rB2 rX hV3 hny HB2 b3
  go_upto_region 4 with (go_at_call 25; (with_reducible refine (p1 _).mono ?_); rintro e w1 ⟨rfl, bp1⟩)
  have hl := fun {b A t} (h : V3.heap[b]? = some (.cells A t)) => (bp1.block b (Array.getElem?_eq_some_iff.1 h).1).trans h
  have rA4 := old_row (hl rA3) (.cells L 43)
  have rB4 := old_row (hl rB3) (.cells L 43)
  have rX4 := old_row (hl rX3) (.cells L 43)
  have rY4 := old_row (hl rY) (.cells L 43)
  have rF : (w1.alloc (.cells L 43)).heap[w1.heap.size]? = some (.cells L 43) := World.alloc_heap_new w1 _
  have b4 : Below w.heap.size w (w1.alloc (.cells L 43)) := (HB3.out.trans (bp1.mono HB3.out.size)).alloc (Nat.le_trans HB3.out.size bp1.size) _
  obtain ⟨V4, hV4⟩ : ∃ V4, w1.alloc (.cells L 43) = V4 := ⟨_, rfl⟩
  obtain ⟨nf, hnf⟩ : ∃ nf, w1.heap.size = nf := ⟨_, rfl⟩
  rw [hV4] at rA4 rB4 rX4 rY4 rF b4 ⊢
  rw [hnf] at rF ⊢
  have HB4 := Aside0.mk b4
  clear rA3 rB3 rX3 rY hV4 hnf HB3 b4 bp1 hl
  go_upto_region 5 with (go_at_call 26; (with_reducible refine (p2 _).mono ?_); rintro e w2 ⟨rfl, bp2⟩)
  have hl := fun {b A t} (h : V4.heap[b]? = some (.cells A t)) => (bp2.block b (Array.getElem?_eq_some_iff.1 h).1).trans h
  have rA5 := old_row (hl rA4) (.cells L 42)
  have rB5 := old_row (hl rB4) (.cells L 42)
  have rX5 := old_row (hl rX4) (.cells L 42)
  have rY5 := old_row (hl rY4) (.cells L 42)
  have rF5 := old_row (hl rF) (.cells L 42)
  have rG : (w2.alloc (.cells L 42)).heap[w2.heap.size]? = some (.cells L 42) := World.alloc_heap_new w2 _
  have b5 : Below w.heap.size w (w2.alloc (.cells L 42)) := (HB4.out.trans (bp2.mono HB4.out.size)).alloc (Nat.le_trans HB4.out.size bp2.size) _
  obtain ⟨V5, hV5⟩ : ∃ V5, w2.alloc (.cells L 42) = V5 := ⟨_, rfl⟩
  obtain ⟨ng, hng⟩ : ∃ ng, w2.heap.size = ng := ⟨_, rfl⟩
  rw [hV5] at rA5 rB5 rX5 rY5 rF5 rG b5 ⊢
  rw [hng] at rG ⊢
  have HB5 := Aside0.mk b5
  clear rA4 rB4 rX4 rY4 rF hV5 hng HB4 b5 bp2 hl kA kB kL kM p1 p2
  have mixed : Try.prog.follows .mixedOrders = true := by kernel_rfl
  have c3 := fun d os => Calls.regrown_of (w := V5) (d := d) (os := os) (p3 _)
  have c4 := fun d os => Calls.regrown_of (w := V5) (d := d) (os := os) (p4 _)
  have c5 := fun d os => Calls.regrown_of (w := V5) (d := d) (os := os) (p5 _)
  have c6 := fun d os => Calls.regrown_of (w := V5) (d := d) (os := os) (p6 _)
  have c7 := fun d os => Calls.regrown_of (w := V5) (d := d) (os := os) (p7 _)
  have c8 := fun d os => Calls.regrown_of (w := V5) (d := d) (os := os) (p8 _)
  have c9 := fun d os => Calls.regrown_of (w := V5) (d := d) (os := os) (p9 _)
  have c10 := fun d os => Calls.regrown_of (w := V5) (d := d) (os := os) (p10 _)
  clear p3 p4 p5 p6 p7 p8 p9 p10
  have i43A : (Try.prog.info? 43).map (·.size) = some A.size := by rw [hA]; kernel_rfl
  have i43B : (Try.prog.info? 43).map (·.size) = some B.size := by rw [hB]; kernel_rfl
  have i43L : (Try.prog.info? 43).map (·.size) = some L.size := by rw [hL]; kernel_rfl
  have i42A : (Try.prog.info? 42).map (·.size) = some A.size := by rw [hA]; kernel_rfl
  have i42B : (Try.prog.info? 42).map (·.size) = some B.size := by rw [hB]; kernel_rfl
  have i42L : (Try.prog.info? 42).map (·.size) = some L.size := by rw [hL]; kernel_rfl
  have I43A := Aside0.mk i43A
  have I43B := Aside0.mk i43B
  have I43L := Aside0.mk i43L
  have I42A := Aside0.mk i42A
  have I42B := Aside0.mk i42B
  have I42L := Aside0.mk i42L
  have RF := Aside0.mk rF5
  have RX := Aside0.mk rX5
  have RY := Aside0.mk rY5
  have RA := Aside0.mk rA5
  have RB := Aside0.mk rB5
  have RG := Aside0.mk rG
  clear i43A i43B i43L i42A i42B i42L rF5 rX5 rY5 rA5 rB5 rG
  refine wp_region_quiet_below mixed (by kernel_rfl) ?_
  iterate 13 (quiet_step (first | exact c3 _ _ | exact c4 _ _ | exact c5 _ _ | exact c6 _ _ | exact c7 _ _ | exact c8 _ _ | exact c9 _ _ | exact c10 _ _))
  refine wpQuiet_load_row 43 _ rfl rfl nf rfl 43 L _ RF.out Try.underlying43 rfl I43L.out ?_
  simp only [Act.put, List.setIfInBounds_toArray, List.set_cons_zero, List.set_cons_succ]
  refine wpQuiet_load_row 42 _ rfl rfl ng rfl 42 L _ RG.out Try.underlying42 rfl I42L.out ?_
  simp only [Act.put, List.setIfInBounds_toArray, List.set_cons_zero, List.set_cons_succ]
  iterate 8 (quiet_step (first | exact c3 _ _ | exact c4 _ _ | exact c5 _ _ | exact c6 _ _ | exact c7 _ _ | exact c8 _ _ | exact c9 _ _ | exact c10 _ _))
  refine wpQuiet_load_row 43 _ rfl rfl nx rfl 43 A _ RX.out Try.underlying43 rfl I43A.out ?_
  simp only [Act.put, List.setIfInBounds_toArray, List.set_cons_zero, List.set_cons_succ]
  iterate 1 (quiet_step (first | exact c3 _ _ | exact c4 _ _ | exact c5 _ _ | exact c6 _ _ | exact c7 _ _ | exact c8 _ _ | exact c9 _ _ | exact c10 _ _))
  refine wpQuiet_load_row 42 _ rfl rfl w.heap.size rfl 42 A _ RA.out Try.underlying42 rfl I42A.out ?_
  simp only [Act.put, List.setIfInBounds_toArray, List.set_cons_zero, List.set_cons_succ]
  iterate 4 (quiet_step (first | exact c3 _ _ | exact c4 _ _ | exact c5 _ _ | exact c6 _ _ | exact c7 _ _ | exact c8 _ _ | exact c9 _ _ | exact c10 _ _))
  refine wpQuiet_load_row 43 _ rfl rfl nx rfl 43 A _ RX.out Try.underlying43 rfl I43A.out ?_
  simp only [Act.put, List.setIfInBounds_toArray, List.set_cons_zero, List.set_cons_succ]
  refine wpQuiet_load_row 43 _ rfl rfl ny rfl 43 B _ RY.out Try.underlying43 rfl I43B.out ?_
  simp only [Act.put, List.setIfInBounds_toArray, List.set_cons_zero, List.set_cons_succ]
  iterate 1 (quiet_step (first | exact c3 _ _ | exact c4 _ _ | exact c5 _ _ | exact c6 _ _ | exact c7 _ _ | exact c8 _ _ | exact c9 _ _ | exact c10 _ _))
  refine wpQuiet_load_row 42 _ rfl rfl w.heap.size rfl 42 A _ RA.out Try.underlying42 rfl I42A.out ?_
  simp only [Act.put, List.setIfInBounds_toArray, List.set_cons_zero, List.set_cons_succ]
  refine wpQuiet_load_row 42 _ rfl rfl (w.heap.size + 1) rfl 42 B _ RB.out Try.underlying42 rfl I42B.out ?_
  simp only [Act.put, List.setIfInBounds_toArray, List.set_cons_zero, List.set_cons_succ]
  iterate 4 (quiet_step (first | exact c3 _ _ | exact c4 _ _ | exact c5 _ _ | exact c6 _ _ | exact c7 _ _ | exact c8 _ _ | exact c9 _ _ | exact c10 _ _))
  refine wpQuiet_nil ?_
  intro _ hw'
  obtain ⟨⟨dq, osq⟩, hw''⟩ := hw'
  subst hw''
  go_wp2
  go_ret
  exact ⟨rfl, HB5.out.trans ((below_regrown V5 dq osq).mono HB5.out.size)⟩
end Go.Proofs.Ytijdlpbkmlplgaa.TF
