/- book.Make of a spec that fits. -/
import Derived.Test.YtlggimmfaflfnaaGreatDoorM18
import Derived.Deep.LoopGhost
import Derived.BigQuiet
import Derived.StillTailTactics
import Derived.Deep.RegionLaw
set_option linter.unusedVariables false
set_option linter.unusedSimpArgs false
namespace Go.Proofs.YtlggimmfaflfnaaGreatDoor.TK
open Go.RowKit Go.Shelf Go.Proofs.YtlggimmfaflfnaaGreatDoorW.PrintWords Go.Proofs.YtlggimmfaflfnaaGreatDoorW.PrintMore Go.Proofs.YtlggimmfaflfnaaGreatDoor.TF Go.Proofs.YtlggimmfaflfnaaGreatDoor.TW

/-- what a book's records bear -/
structure Fine (L : List RowD) : Prop where
  len : L.length < 65536
  one : ∀ r ∈ L, r.err.oneCell' = true
  size : ∀ r ∈ L, 0 ≤ r.size ∧ r.size ≤ 4096
  depth : ∀ r ∈ L, 0 ≤ r.depth ∧ r.depth ≤ 64
  long : ∀ r ∈ L, 0 ≤ r.long ∧ r.long ≤ 65536
  words : ∀ r ∈ L, 0 ≤ r.words ∧ r.words ≤ 1048576
/-- what the record of a handle bears -/
structure Rec (r : RowD) : Prop where
  one : r.err.oneCell' = true
  size : 0 ≤ r.size ∧ r.size ≤ 4096
  depth : 0 ≤ r.depth ∧ r.depth ≤ 64
  long : 0 ≤ r.long ∧ r.long ≤ 65536
  words : 0 ≤ r.words ∧ r.words ≤ 1048576
theorem Fine.rec_ {L : List RowD} (h : Fine L) (p : Int) (h0 : 0 ≤ p) (h1 : p ≤ L.length) : Rec (recOf L p) := by
  unfold recOf
  split
  · exact ⟨rfl, by decide, by decide, by decide, by decide⟩
  · have hl : p.toNat - 1 < L.length := by omega
    have hm : L.getD (p.toNat - 1) zeroD ∈ L := by
      rw [List.getD_eq_getElem?_getD, List.getElem?_eq_getElem hl]
      exact List.getElem_mem hl
    exact ⟨h.one _ hm, h.size _ hm, h.depth _ hm, h.long _ hm, h.words _ hm⟩
theorem own_cell {W : World} {base c : Nat} {e : TypeId} {A : Option Addr} {α : Type} {enc : α → Value} {xs : List α} (h : W.ownsRow base e 1 (.slice A xs.length c) xs.length (encs enc xs)) (i : Nat) (hi : i < xs.length) : ∃ g, A = some ⟨g, 0, none⟩ ∧ W.cell? ⟨g, i, none⟩ = some (enc xs[i]) ∧ W.frozen? ⟨g, i, none⟩ = false := by
  obtain ⟨g, rfl⟩ := TF.own_some h (by omega)
  have := (own_at_of (d := xs[i]) h (i : Int) (by omega) (by omega))
  rw [show ((i : Int)).toNat = i from rfl] at this
  refine ⟨g, rfl, ?_, this.2⟩
  rw [this.1]
  simp [rdOf, hi]
theorem lens_nonneg (l : List ByteArray) : 0 ≤ lensOf l := by
  induction l with
  | nil => exact Int.le_refl _
  | cons q l ih => simp only [lensOf]; omega
theorem lens_take (l : List ByteArray) : ∀ i, lensOf (l.take i) ≤ lensOf l := by
  induction l with
  | nil => intro i; simp [lensOf]
  | cons q l ih =>
    intro i
    cases i with
    | zero => simp only [List.take_zero]; exact lens_nonneg _
    | succ i => simp only [List.take_succ_cons, lensOf]; have := ih i; omega
theorem sum_nonneg (f : RowD → Int) (L : List RowD) : ∀ ps : List Int, (∀ p ∈ ps, 0 ≤ f (recOf L p)) → 0 ≤ sumOf f L ps
  | [], _ => Int.le_refl _
  | p :: ps, h => by
    have h1 := h p (by simp)
    have h2 := sum_nonneg f L ps (fun q hq => h q (by simp [hq]))
    simp only [sumOf]; omega
theorem sum_take (f : RowD → Int) (L : List RowD) : ∀ (ps : List Int), (∀ p ∈ ps, 0 ≤ f (recOf L p)) → ∀ i, sumOf f L (ps.take i) ≤ sumOf f L ps
  | [], _, i => by simp [sumOf]
  | p :: ps, h, 0 => by simp only [List.take_zero]; exact sum_nonneg f L _ h
  | p :: ps, h, i + 1 => by
    have := sum_take f L ps (fun q hq => h q (by simp [hq])) i
    simp only [List.take_succ_cons, sumOf]; omega
theorem top_take (L : List RowD) : ∀ (ps : List Int) (a : Int) (i : Nat), topOf L a (ps.take i) ≤ topOf L a ps ∧ a ≤ topOf L a ps
  | [], a, i => by simp [topOf]
  | p :: ps, a, 0 => by
    have := top_take L ps (max a ((recOf L p).depth + 1)) 0
    simp only [List.take_zero, topOf] at this ⊢
    omega
  | p :: ps, a, i + 1 => by
    have := top_take L ps (max a ((recOf L p).depth + 1)) i
    simp only [List.take_succ_cons, topOf]
    omega
theorem own_nils (W : World) (m : Nat) (hm : m ≤ 9223372036854775807) : (W.alloc (.cells (madeCells #[.nilIface] m) 113)).ownsRow W.heap.size 113 1 (.slice (some ⟨W.heap.size, 0, none⟩) m m) m (List.replicate m .nilIface) := by
  have h := World.ownsRow_lit (base := W.heap.size) (e := 113) (size := 1) W (madeCells #[.nilIface] m) m (Nat.le_refl _) (by simpa [maxLen] using hm) (by simp [size_madeCells])
  have hl : (madeCells #[Value.nilIface] m).toList = List.replicate m .nilIface := by
    apply List.ext_getElem
    · simp [madeCells]
    · intro i h1 h2
      simp [madeCells, Nat.mod_one]
  rwa [hl] at h
def fillE (L : List RowD) (ps : List Int) (i : Nat) : List Value := ((ps.take i).map fun p => (recOf L p).err) ++ List.replicate (ps.length - i) .nilIface
def fillL (L : List RowD) (ps : List Int) (i : Nat) : List Int := ((ps.take i).map fun p => (recOf L p).long) ++ List.replicate (ps.length - i) 0
theorem fillE_zero (L : List RowD) (ps : List Int) : fillE L ps 0 = List.replicate ps.length .nilIface := by simp [fillE]
theorem fillL_zero (L : List RowD) (ps : List Int) : fillL L ps 0 = List.replicate ps.length 0 := by simp [fillL]
theorem fillE_all (L : List RowD) (ps : List Int) : fillE L ps ps.length = ps.map fun p => (recOf L p).err := by simp [fillE]
theorem fillL_all (L : List RowD) (ps : List Int) : fillL L ps ps.length = ps.map fun p => (recOf L p).long := by simp [fillL]
theorem fill_set {α β : Type} (f : β → α) (z : α) (ps : List β) (i : Nat) (hi : i < ps.length) : (((ps.take i).map f) ++ List.replicate (ps.length - i) z).set i (f ps[i]) = ((ps.take (i + 1)).map f) ++ List.replicate (ps.length - (i + 1)) z := by
  have hl : ((ps.take i).map f).length = i := by simp; omega
  rw [List.set_append_right _ _ (by omega), hl, Nat.sub_self, show ps.length - i = (ps.length - (i + 1)) + 1 by omega, List.replicate_succ, List.set_cons_zero, List.take_succ_eq_append_getElem hi, List.map_append]
  simp
theorem own_at_of' {W : World} {L : List RowD} {ps : List Int} {base g c i : Nat} {e : TypeId} (h : W.ownsRow base e 1 (.slice (some ⟨g, 0, none⟩) ps.length c) ps.length (fillE L ps i)) (hi : i < ps.length) : W.cell? ⟨g, i, none⟩ = some .nilIface ∧ W.frozen? ⟨g, i, none⟩ = false := by
  have hg : (fillE L ps i)[i]? = some .nilIface := by
    unfold fillE
    rw [List.getElem?_append_right (by simp; omega)]
    simp [List.getElem?_replicate]
    omega
  have := h.cells (g := g) rfl i _ hg
  rw [add_plain'] at this
  refine ⟨this, ?_⟩
  obtain ⟨cells, hc⟩ := TF.own_typed h (k := g) rfl
  simp [World.frozen?, hc]
theorem own_at_ofL {W : World} {L : List RowD} {ps : List Int} {base g c i : Nat} {e : TypeId} (h : W.ownsRow base e 1 (.slice (some ⟨g, 0, none⟩) ps.length c) ps.length (encs (Value.int .i64) (fillL L ps i))) (hi : i < ps.length) : W.cell? ⟨g, i, none⟩ = some (.int .i64 0) ∧ W.frozen? ⟨g, i, none⟩ = false := by
  have hg : (encs (Value.int .i64) (fillL L ps i))[i]? = some (.int .i64 0) := by
    unfold fillL encs
    rw [List.getElem?_map, List.getElem?_append_right (by simp; omega)]
    simp [List.getElem?_replicate]
    omega
  have := h.cells (g := g) rfl i _ hg
  rw [add_plain'] at this
  refine ⟨this, ?_⟩
  obtain ⟨cells, hc⟩ := TF.own_typed h (k := g) rfl
  simp [World.frozen?, hc]
theorem cells_one' {x : Value} (h : x.oneCell' = true) : x.cells = #[x] := by
  cases x <;> first | rfl | (simp [Value.oneCell'] at h)
theorem fillE_set {L : List RowD} {ps : List Int} {i : Nat} {r : RowD} {hi : i < ps.length} (hr : recOf L ps[i] = r) (_ : i < ps.length) : (fillE L ps i).set i r.err = fillE L ps (i + 1) := by
  subst hr
  exact fill_set (fun p => (recOf L p).err) .nilIface ps i hi
theorem fillL_set {L : List RowD} {ps : List Int} {i : Nat} {r : RowD} {hi : i < ps.length} (hr : recOf L ps[i] = r) (_ : i < ps.length) : (encs (Value.int .i64) (fillL L ps i)).set i (.int .i64 r.long) = encs (Value.int .i64) (fillL L ps (i + 1)) := by
  subst hr
  have := fill_set (fun p => (recOf L p).long) 0 ps i hi
  show ((fillL L ps i).map (Value.int .i64)).set i (.int .i64 (recOf L ps[i]).long) = (fillL L ps (i + 1)).map (Value.int .i64)
  rw [← List.map_set]
  exact congrArg _ this
theorem wp_still_named {P : Program} {id : Nat} {Q : Exit → Act → World → Prop} {a : Act} {w : World} {l : List Oper} (n : Nat) (hm : P.follows .mixedOrders = true) (hB : Region.lexTailB .any l.toArray n = true)
    (h : wpStill P l.toArray w.drew (fun a' => wpList P l.toArray Q (l.drop n) a' w.drew) (l.take n) a) : (Code.region id l.toArray true).wp P Q a w := wp_region_still_tail n hm hB h
theorem below_setRow {m g : Nat} (W : World) (h : m ≤ g) (R : Array Value) : Below m W (W.setRow g R) := ⟨rfl, rfl, rfl, by rw [setRow_size]; exact Nat.le_refl _, fun i hi => setRow_other W g i R (by omega)⟩
theorem _root_.Go.Proofs.YtlggimmfaflfnaaGreatDoor.TF.Blk.setRow {W : World} {g : Nat} {t : TypeId} {cs : Array Value} (h : Blk W g t cs) {g' : Nat} (hg : g ≠ g') (R : Array Value) : Blk (W.setRow g' R) g t cs := (setRow_other W g' g R hg).trans h
theorem book_grown {b cv c1 : Nat} {Av A1 : Option Addr} {L : List RowD} {r : RowD} {U w1 : World} (h : Bk b (.slice Av L.length cv) L U) (hr : r.own U) (ho : w1.ownsRow 0 154 16 (.slice A1 (L.length + 1) c1) (L.length + 1) (L.flatMap RowD.cells ++ r.cells))
    (hg : U.drew.grownBy w1 (Value.slice Av L.length cv).ownBlock) (hat : (Value.slice A1 (L.length + 1) c1).ownBlock = (Value.slice Av L.length cv).ownBlock ∨ ∃ q, (Value.slice A1 (L.length + 1) c1).ownBlock = some q ∧ U.drew.heap.size ≤ q) :
    Bk b (.slice A1 (L.length + 1) c1) (L ++ [r]) (w1.setCell ⟨b, 0, none⟩ (.slice A1 (L.length + 1) c1)) ∧ Fr (fun q => q = b ∨ (Value.slice Av L.length cv).ownBlock = some q) U (w1.setCell ⟨b, 0, none⟩ (.slice A1 (L.length + 1) c1)) := by
  have fr1 := ((Fr.refl (fun q => (Value.slice Av L.length cv).ownBlock = some q) U).drew).grown hg (fun q hq => .inl hq)
  have hnb : (Value.slice Av L.length cv).ownBlock ≠ some b := TF.own_blk_ne h.rows h.head (by decide)
  have hh := h.head.fr fr1 (fun he => hnb he)
  have fr2 : Fr (fun q => q = b ∨ (Value.slice Av L.length cv).ownBlock = some q) U (w1.setCell ⟨b, 0, none⟩ (.slice A1 (L.length + 1) c1)) := (fr1.mono (fun q hq => .inr hq)).set (.inl (.inl rfl)) _
  have hown : ∀ r' : RowD, r'.own U → r'.own (w1.setCell ⟨b, 0, none⟩ (.slice A1 (L.length + 1) c1)) := fun r' h' =>
    ⟨TF.own_fr h'.1 fr2 (fun q hq hs => by
      rcases hs with rfl | hs
      · exact TF.own_blk_ne h'.1 h.head (by decide) hq
      · exact TF.own_own_ne h'.1 h.rows (by decide) hq hs), TF.own_fr h'.2 fr2 (fun q hq hs => by
      rcases hs with rfl | hs
      · exact TF.own_blk_ne h'.2 h.head (by decide) hq
      · exact TF.own_own_ne h'.2 h.rows (by decide) hq hs)⟩
  refine ⟨⟨hh.set_ 0 _, ?_, ?_⟩, fr2⟩
  · have h1 := own_setCell ho (p := ⟨b, 0, none⟩) (by
      rcases hat with he | ⟨q, he, hq⟩
      · rw [he]; exact fun e => hnb e.symm
      · rw [he]; intro e; have := h.lt; have hq' : U.heap.size ≤ q := hq; have := Option.some.inj e; simp only at this; omega) (.slice A1 (L.length + 1) c1)
    simpa using h1
  · intro r' hr'
    rcases List.mem_append.1 hr' with h1 | h1
    · exact hown r' (h.owns r' h1)
    · rw [List.mem_singleton.1 h1]; exact hown r hr
set_option maxHeartbeats 16000000 in
set_option maxRecDepth 100000 in
theorem make_ok (b : Nat) (v : Value) (L : List RowD) (k : Int) (nl : Bool) (t : ByteArray) (n sm : Int) (re im : Nat) (fl : Bool) (mk : Int) (A B : Option Addr) (c d base : Nat) (its : List ByteArray) (ps : List Int) (long : Int) (Pe : Value → World → World → Prop) (hst : ∀ err W V U, Pe err W V → Fr (fun q => q < W.heap.size) V U → Pe err W U) (w : World)
    (h : Bk b v L w) (hf : Fine L) (hI : w.ownsRow base 9 1 (.slice A its.length c) its.length (encs Value.string its)) (hP : w.ownsRow base 3 1 (.slice B ps.length d) ps.length (encs (Value.int .i64) ps))
    (hchk : chk k nl t n sm re im fl mk its ps.length = 0) (hi64 : its.length ≤ 64) (hp64 : ps.length ≤ 64) (hps : ∀ p ∈ ps, 0 ≤ p ∧ p ≤ L.length)
    (hmk : ∀ (W : World) (A' B' E : Option Addr) (c' d' ec bs : Nat), W.ownsRow bs 9 1 (.slice A' its.length c') its.length (encs Value.string its) → W.ownsRow bs 3 1 (.slice B' ps.length d') ps.length (encs (Value.int .i64) ps) → W.ownsRow bs 113 1 (.slice E ps.length ec) ps.length (ps.map fun p => (recOf L p).err) →
      Calls Tryz.prog 108 #[spec k nl t n sm re im fl mk (.slice A' its.length c') (.slice B' ps.length d'), .slice E ps.length ec] W fun e w' => ∃ err, e = .returned (.tuple #[err, .int .i64 0]) ∧ err.oneCell' = true ∧ Pe err W w' ∧ Below W.heap.size W w')
    (hlong : ∀ (W : World) (A' B' E : Option Addr) (c' d' ec bs : Nat), W.ownsRow bs 9 1 (.slice A' its.length c') its.length (encs Value.string its) → W.ownsRow bs 3 1 (.slice B' ps.length d') ps.length (encs (Value.int .i64) ps) → W.ownsRow bs 3 1 (.slice E ps.length ec) ps.length (encs (Value.int .i64) (ps.map fun p => (recOf L p).long)) →
      Calls Tryz.prog 109 #[spec k nl t n sm re im fl mk (.slice A' its.length c') (.slice B' ps.length d'), .slice E ps.length ec] W fun e w' => e = .returned (.int .i64 long) ∧ Below W.heap.size W w')
    (hsz : 1 + sumOf RowD.size L ps ≤ 4096) (hdp : topOf L 1 ps ≤ 64) (hlg : 0 ≤ long ∧ long ≤ 65536) (hwd : t.size + lensOf its + sumOf RowD.words L ps ≤ 1048576) (ht : t.size ≤ 4096) :
    Calls Tryz.prog 54 #[.pointer (some ⟨b, 0, none⟩), spec k nl t n sm re im fl mk (.slice A its.length c) (.slice B ps.length d)] w fun e w' => ∃ v' err A' c' B' d', e = .returned (.tuple #[.int .i64 ((L.length : Int) + 1), .int .i64 0]) ∧ (∃ W : World, w.heap.size ≤ W.heap.size ∧ Pe err W w') ∧
      Bk b v' (L ++ [⟨err, k, nl, t, n, sm, re, im, fl, mk, A', c', B', d', its, ps, 1 + sumOf RowD.size L ps, topOf L 1 ps, long, t.size + lensOf its + sumOf RowD.words L ps⟩]) w' ∧ err.oneCell' = true ∧
      Fr (fun q => q = b ∨ v.ownBlock = some q) w w' ∧ (v'.ownBlock = v.ownBlock ∨ ∃ q, v'.ownBlock = some q ∧ w.heap.size ≤ q) := by
  have hcheck := fun W (hW : Below w.heap.size w W) => check_calls k nl t n sm re im fl mk A B its.length c ps.length d its W rfl (Kd.C_below (Kd.C_of_reads (own_reads_of' (d := ByteArray.empty) hI)) hW) (by omega)
  rw [hchk] at hcheck
  have htwin := fun W bs hI hP => twin_ok k nl t n sm re im fl mk A B c d bs its ps W hI hP (by omega) (by omega)
  unfold spec at hcheck htwin hmk hlong ⊢
  have HCh := Aside0.mk hcheck
  have HTw := Aside0.mk htwin
  have HMk := Aside0.mk hmk
  have HLo := Aside0.mk hlong
  have HF := Aside0.mk hf
  have HPs := Aside0.mk hps
  have HWd := Aside0.mk (show ∀ p ∈ ps, 0 ≤ (recOf L p).words from fun p hp => (hf.rec_ p (hps p hp).1 (hps p hp).2).words.1)
  have HSz := Aside0.mk (show ∀ p ∈ ps, 0 ≤ (recOf L p).size from fun p hp => (hf.rec_ p (hps p hp).1 (hps p hp).2).size.1)
  clear hcheck htwin hmk hlong hchk hf hps
  have hx := Blk.new w 37 #[.int .u8 k, .bool nl, .string t, .int .i16 n, .int .i8 sm, .float .f64 re, .float .f64 im, .bool fl, .int .u32 mk, .slice A its.length c, .slice B ps.length d]
  obtain ⟨V0, hV0⟩ : ∃ V, w.alloc (.cells #[.int .u8 k, .bool nl, .string t, .int .i16 n, .int .i8 sm, .float .f64 re, .float .f64 im, .bool fl, .int .u32 mk, .slice A its.length c, .slice B ps.length d] 37) = V := ⟨_, rfl⟩
  have b0 : Below w.heap.size w V0 := by rw [← hV0]; exact (Below.refl _ w).alloc (Nat.le_refl _) _
  have hs0 : V0.heap.size = w.heap.size + 1 := by rw [← hV0, World.size_alloc]
  rw [hV0] at hx
  have c10 : V0.cell? ⟨w.heap.size, 10, none⟩ = some (.slice B ps.length d) := (hx.cell 10).trans rfl
  have HX := Aside0.mk hx
  have HB0 := Aside0.mk b0
  have HBkw := Aside0.mk h
  have HIw := Aside0.mk hI
  have HPw := Aside0.mk hP
  have HBk := Aside0.mk (h.next b0)
  have HI := Aside0.mk (TF.own_next hI b0)
  have HP := Aside0.mk (TF.own_next hP b0)
  have hbw : b < w.heap.size := h.lt
  have HL0 := Aside0.mk (show ∀ q, v.ownBlock = some q → q < w.heap.size from fun q hq => (h.rows.lt q hq).2)
  clear h hx b0 hI hP
  go_enter Tryz.func54, Tryz.ntmps54
  go_upto_region 1 with (fail)
  clear hV0
  go_wp2_with (fail)
  go_loopg [27] ps.length (fun kq v27 wr => ∃ i : Nat, v27 = .int .i64 i ∧ i + kq = ps.length ∧ Aside0 (Below V0.heap.size V0 wr))
  case atStart => exact ⟨0, rfl, by omega, Aside0.mk (Below.refl _ _)⟩
  case round =>
    clear c10
    obtain ⟨i, rfl, hik, HW⟩ := hrel
    have c10 : wr.cell? ⟨w.heap.size, 10, none⟩ = some (.slice B ps.length d) := ((HX.out.next HW.out).cell 10).trans rfl
    by_cases hi : i < ps.length
    · have hi2 : (i : Int) < (ps.length : Int) := by omega
      obtain ⟨gp, rfl, hcp, -⟩ := own_cell (TF.own_next HP.out HW.out) i hi
      have hpp := HPs.out ps[i] (List.getElem_mem hi)
      have HAt := Aside0.mk (at_any b v L wr ps[i] (HBk.out.next HW.out) hpp.1 hpp.2 (Nat.le_of_lt HF.out.len))
      have hii : (0 ≤ (i : Int)) ∧ ((i : Int) < (ps.length : Int)) := ⟨Int.natCast_nonneg i, hi2⟩
      clear hpp
      go_wp2_with (go_at_call 71; (with_reducible refine HAt.out.mono ?_))
      rintro e w1 ⟨g1, o1, rfl, -, -, -, hb1⟩
      clear c10 hcp
      go_wp2_with (fail)
      go_roundg (gk - 1)
      case measure => omega
      case rel => exact ⟨i + 1, by simp, by omega, Aside0.mk (HW.out.trans (hb1.mono HW.out.size))⟩
    · obtain rfl : i = ps.length := by omega
      obtain ⟨W1, rfl⟩ : ∃ W1 : World, W1 = wr := ⟨_, rfl⟩
      have hbw1 := HB0.out.trans (HW.out.mono (show w.heap.size ≤ V0.heap.size by omega))
      have hx1 := HX.out.next HW.out
      obtain ⟨c0, c1, c2, c3, c4, c5, c6, c7, c8, c9⟩ : W1.cell? ⟨w.heap.size, 0, none⟩ = some (.int .u8 k) ∧ W1.cell? ⟨w.heap.size, 1, none⟩ = some (.bool nl) ∧ W1.cell? ⟨w.heap.size, 2, none⟩ = some (.string t) ∧ W1.cell? ⟨w.heap.size, 3, none⟩ = some (.int .i16 n) ∧ W1.cell? ⟨w.heap.size, 4, none⟩ = some (.int .i8 sm) ∧ W1.cell? ⟨w.heap.size, 5, none⟩ = some (.float .f64 re) ∧ W1.cell? ⟨w.heap.size, 6, none⟩ = some (.float .f64 im) ∧ W1.cell? ⟨w.heap.size, 7, none⟩ = some (.bool fl) ∧ W1.cell? ⟨w.heap.size, 8, none⟩ = some (.int .u32 mk) ∧ W1.cell? ⟨w.heap.size, 9, none⟩ = some (.slice A its.length c) := ⟨(hx1.cell 0).trans rfl, (hx1.cell 1).trans rfl, (hx1.cell 2).trans rfl, (hx1.cell 3).trans rfl, (hx1.cell 4).trans rfl, (hx1.cell 5).trans rfl, (hx1.cell 6).trans rfl, (hx1.cell 7).trans rfl, (hx1.cell 8).trans rfl, (hx1.cell 9).trans rfl⟩
      have HBk1 := Aside0.mk (HBk.out.next HW.out)
      have HI1 := Aside0.mk (TF.own_next HI.out HW.out)
      have HP1 := Aside0.mk (TF.own_next HP.out HW.out)
      have HX1 := Aside0.mk hx1
      have HB1 := Aside0.mk hbw1
      have hs1 : w.heap.size < W1.heap.size := hx1.lt
      clear hx1 hbw1 HBk HI HP HX HB0 HW hik hi
      go_wp2_with (go_at_call 106; (with_reducible refine (HCh.out _ HB1.out).mono ?_))
      rintro e W2 ⟨rfl, h1⟩
      clear c0 c1 c2 c3 c4 c5 c6 c7 c8 c9 c10
      have hx2 := HX1.out.next h1
      have HB2 := Aside0.mk (HB1.out.trans (h1.mono (Nat.le_of_lt hs1)))
      have HBk2 := Aside0.mk (HBk1.out.next h1)
      have HI2 := Aside0.mk (TF.own_next HI1.out h1)
      have HP2 := Aside0.mk (TF.own_next HP1.out h1)
      have HX2 := Aside0.mk hx2
      have hs2 : w.heap.size < W2.heap.size := hx2.lt
      clear h1 HBk1 HI1 HP1 HX1 HB1 hs1 HCh
      go_upto_region 13 with (fail)
      obtain ⟨c0, c1, c2, c3, c4, c5, c6, c7, c8, c9, c10⟩ : W2.cell? ⟨w.heap.size, 0, none⟩ = some (.int .u8 k) ∧ W2.cell? ⟨w.heap.size, 1, none⟩ = some (.bool nl) ∧ W2.cell? ⟨w.heap.size, 2, none⟩ = some (.string t) ∧ W2.cell? ⟨w.heap.size, 3, none⟩ = some (.int .i16 n) ∧ W2.cell? ⟨w.heap.size, 4, none⟩ = some (.int .i8 sm) ∧ W2.cell? ⟨w.heap.size, 5, none⟩ = some (.float .f64 re) ∧ W2.cell? ⟨w.heap.size, 6, none⟩ = some (.float .f64 im) ∧ W2.cell? ⟨w.heap.size, 7, none⟩ = some (.bool fl) ∧ W2.cell? ⟨w.heap.size, 8, none⟩ = some (.int .u32 mk) ∧ W2.cell? ⟨w.heap.size, 9, none⟩ = some (.slice A its.length c) ∧ W2.cell? ⟨w.heap.size, 10, none⟩ = some (.slice B ps.length d) := ⟨(hx2.cell 0).trans rfl, (hx2.cell 1).trans rfl, (hx2.cell 2).trans rfl, (hx2.cell 3).trans rfl, (hx2.cell 4).trans rfl, (hx2.cell 5).trans rfl, (hx2.cell 6).trans rfl, (hx2.cell 7).trans rfl, (hx2.cell 8).trans rfl, (hx2.cell 9).trans rfl, (hx2.cell 10).trans rfl⟩
      clear hx2
      go_cut [11] from 6 (fun v11 wc => ∃ (gN : Nat) (A' : Option Addr) (c' : Nat) (B' : Option Addr) (d' : Nat), v11 = .pointer (some ⟨gN, 0, none⟩) ∧ Aside0 (W2.heap.size ≤ gN) ∧ Aside0 (Blk wc gN 154 #[.nilIface, .int .u8 k, .bool nl, .string t, .int .i16 n, .int .i8 sm, .float .f64 re, .float .f64 im, .bool fl, .int .u32 mk, .slice A' its.length c', .slice B' ps.length d', .int .i64 1, .int .i64 1, .int .i64 0, .int .i64 t.size]) ∧
        Aside0 (wc.ownsRow W2.heap.size 9 1 (.slice A' its.length c') its.length (encs Value.string its)) ∧ Aside0 (wc.ownsRow W2.heap.size 3 1 (.slice B' ps.length d') ps.length (encs (Value.int .i64) ps)) ∧ Aside0 (Below W2.heap.size W2 wc))
      case first =>
        have hfl := fun (W : World) (a : Addr) (x : Nat) => run_store Tryz.prog W a (.float .f64 x) .plain rfl
        have bz : Below W2.heap.size W2 (W2.alloc (.cells #[.nilIface, .int .u8 0, .bool false, .string ⟨#[]⟩, .int .i16 0, .int .i8 0, .float .f64 0, .float .f64 0, .bool false, .int .u32 0, .slice none 0 0, .slice none 0 0, .int .i64 0, .int .i64 0, .int .i64 0, .int .i64 0] 154)).drew := ((Below.refl _ W2).alloc (Nat.le_refl _) _).drew
        have bd : Below W2.heap.size W2 W2.drew := (Below.refl _ W2).drew
        have xd := HX2.out.next bd
        have xz := HX2.out.next bz
        have id := TF.own_next HI2.out bd
        have iz := TF.own_next HI2.out bz
        have pd := TF.own_next HP2.out bd
        have pz := TF.own_next HP2.out bz
        have nz : Blk (W2.alloc (.cells #[.nilIface, .int .u8 0, .bool false, .string ⟨#[]⟩, .int .i16 0, .int .i8 0, .float .f64 0, .float .f64 0, .bool false, .int .u32 0, .slice none 0 0, .slice none 0 0, .int .i64 0, .int .i64 0, .int .i64 0, .int .i64 0] 154)).drew W2.heap.size 154 #[.nilIface, .int .u8 0, .bool false, .string ⟨#[]⟩, .int .i16 0, .int .i8 0, .float .f64 0, .float .f64 0, .bool false, .int .u32 0, .slice none 0 0, .slice none 0 0, .int .i64 0, .int .i64 0, .int .i64 0, .int .i64 0] := Blk.new W2 _ _
        obtain ⟨a0, a1, a2, a3, a4, a5, a6, a7, a8, a9, a10⟩ : ((W2.alloc (.cells #[.nilIface, .int .u8 0, .bool false, .string ⟨#[]⟩, .int .i16 0, .int .i8 0, .float .f64 0, .float .f64 0, .bool false, .int .u32 0, .slice none 0 0, .slice none 0 0, .int .i64 0, .int .i64 0, .int .i64 0, .int .i64 0] 154)).drew).cell? ⟨w.heap.size, 0, none⟩ = some (.int .u8 k) ∧ ((W2.alloc (.cells #[.nilIface, .int .u8 0, .bool false, .string ⟨#[]⟩, .int .i16 0, .int .i8 0, .float .f64 0, .float .f64 0, .bool false, .int .u32 0, .slice none 0 0, .slice none 0 0, .int .i64 0, .int .i64 0, .int .i64 0, .int .i64 0] 154)).drew).cell? ⟨w.heap.size, 1, none⟩ = some (.bool nl) ∧ ((W2.alloc (.cells #[.nilIface, .int .u8 0, .bool false, .string ⟨#[]⟩, .int .i16 0, .int .i8 0, .float .f64 0, .float .f64 0, .bool false, .int .u32 0, .slice none 0 0, .slice none 0 0, .int .i64 0, .int .i64 0, .int .i64 0, .int .i64 0] 154)).drew).cell? ⟨w.heap.size, 2, none⟩ = some (.string t) ∧ ((W2.alloc (.cells #[.nilIface, .int .u8 0, .bool false, .string ⟨#[]⟩, .int .i16 0, .int .i8 0, .float .f64 0, .float .f64 0, .bool false, .int .u32 0, .slice none 0 0, .slice none 0 0, .int .i64 0, .int .i64 0, .int .i64 0, .int .i64 0] 154)).drew).cell? ⟨w.heap.size, 3, none⟩ = some (.int .i16 n) ∧ ((W2.alloc (.cells #[.nilIface, .int .u8 0, .bool false, .string ⟨#[]⟩, .int .i16 0, .int .i8 0, .float .f64 0, .float .f64 0, .bool false, .int .u32 0, .slice none 0 0, .slice none 0 0, .int .i64 0, .int .i64 0, .int .i64 0, .int .i64 0] 154)).drew).cell? ⟨w.heap.size, 4, none⟩ = some (.int .i8 sm) ∧ ((W2.alloc (.cells #[.nilIface, .int .u8 0, .bool false, .string ⟨#[]⟩, .int .i16 0, .int .i8 0, .float .f64 0, .float .f64 0, .bool false, .int .u32 0, .slice none 0 0, .slice none 0 0, .int .i64 0, .int .i64 0, .int .i64 0, .int .i64 0] 154)).drew).cell? ⟨w.heap.size, 5, none⟩ = some (.float .f64 re) ∧ ((W2.alloc (.cells #[.nilIface, .int .u8 0, .bool false, .string ⟨#[]⟩, .int .i16 0, .int .i8 0, .float .f64 0, .float .f64 0, .bool false, .int .u32 0, .slice none 0 0, .slice none 0 0, .int .i64 0, .int .i64 0, .int .i64 0, .int .i64 0] 154)).drew).cell? ⟨w.heap.size, 6, none⟩ = some (.float .f64 im) ∧ ((W2.alloc (.cells #[.nilIface, .int .u8 0, .bool false, .string ⟨#[]⟩, .int .i16 0, .int .i8 0, .float .f64 0, .float .f64 0, .bool false, .int .u32 0, .slice none 0 0, .slice none 0 0, .int .i64 0, .int .i64 0, .int .i64 0, .int .i64 0] 154)).drew).cell? ⟨w.heap.size, 7, none⟩ = some (.bool fl) ∧ ((W2.alloc (.cells #[.nilIface, .int .u8 0, .bool false, .string ⟨#[]⟩, .int .i16 0, .int .i8 0, .float .f64 0, .float .f64 0, .bool false, .int .u32 0, .slice none 0 0, .slice none 0 0, .int .i64 0, .int .i64 0, .int .i64 0, .int .i64 0] 154)).drew).cell? ⟨w.heap.size, 8, none⟩ = some (.int .u32 mk) ∧ ((W2.alloc (.cells #[.nilIface, .int .u8 0, .bool false, .string ⟨#[]⟩, .int .i16 0, .int .i8 0, .float .f64 0, .float .f64 0, .bool false, .int .u32 0, .slice none 0 0, .slice none 0 0, .int .i64 0, .int .i64 0, .int .i64 0, .int .i64 0] 154)).drew).cell? ⟨w.heap.size, 9, none⟩ = some (.slice A its.length c) ∧ ((W2.alloc (.cells #[.nilIface, .int .u8 0, .bool false, .string ⟨#[]⟩, .int .i16 0, .int .i8 0, .float .f64 0, .float .f64 0, .bool false, .int .u32 0, .slice none 0 0, .slice none 0 0, .int .i64 0, .int .i64 0, .int .i64 0, .int .i64 0] 154)).drew).cell? ⟨w.heap.size, 10, none⟩ = some (.slice B ps.length d) := ⟨(xz.cell 0).trans rfl, (xz.cell 1).trans rfl, (xz.cell 2).trans rfl, (xz.cell 3).trans rfl, (xz.cell 4).trans rfl, (xz.cell 5).trans rfl, (xz.cell 6).trans rfl, (xz.cell 7).trans rfl, (xz.cell 8).trans rfl, (xz.cell 9).trans rfl, (xz.cell 10).trans rfl⟩
        have HTd := Aside0.mk (HTw.out W2.drew _ id pd)
        have HTz := Aside0.mk (HTw.out ((W2.alloc (.cells #[.nilIface, .int .u8 0, .bool false, .string ⟨#[]⟩, .int .i16 0, .int .i8 0, .float .f64 0, .float .f64 0, .bool false, .int .u32 0, .slice none 0 0, .slice none 0 0, .int .i64 0, .int .i64 0, .int .i64 0, .int .i64 0] 154)).drew) _ iz pz)
        have XD := Aside0.mk xd
        have XZ := Aside0.mk xz
        have NZ := Aside0.mk nz
        have BZ := Aside0.mk bz
        have BD := Aside0.mk bd
        clear bz bd xd xz id iz pd pz nz
        go_region_held3 (fun V => V.cell? ⟨w.heap.size, 0, none⟩ = some (.int .u8 k) ∧ V.cell? ⟨w.heap.size, 1, none⟩ = some (.bool nl) ∧ V.cell? ⟨w.heap.size, 2, none⟩ = some (.string t) ∧ V.cell? ⟨w.heap.size, 3, none⟩ = some (.int .i16 n) ∧ V.cell? ⟨w.heap.size, 4, none⟩ = some (.int .i8 sm) ∧ V.cell? ⟨w.heap.size, 5, none⟩ = some (.float .f64 re) ∧ V.cell? ⟨w.heap.size, 6, none⟩ = some (.float .f64 im) ∧ V.cell? ⟨w.heap.size, 7, none⟩ = some (.bool fl) ∧ V.cell? ⟨w.heap.size, 8, none⟩ = some (.int .u32 mk) ∧ V.cell? ⟨w.heap.size, 9, none⟩ = some (.slice A its.length c) ∧ V.cell? ⟨w.heap.size, 10, none⟩ = some (.slice B ps.length d)) (first | exact ⟨c0, c1, c2, c3, c4, c5, c6, c7, c8, c9, c10⟩ | exact ⟨e0, e1, e2, e3, e4, e5, e6, e7, e8, e9, e10⟩ | exact ⟨a0, a1, a2, a3, a4, a5, a6, a7, a8, a9, a10⟩ | exact ⟨k0, k1, k2, k3, k4, k5, k6, k7, k8, k9, k10⟩ | go_keep) (first | (go_at_call 107; refine HTd.out.mono ?_; rintro e w3 ⟨A', c', B', d', rfl, oi, op, hb3⟩; have x3 := XD.out.next hb3; obtain ⟨e0, e1, e2, e3, e4, e5, e6, e7, e8, e9, e10⟩ : (w3).cell? ⟨w.heap.size, 0, none⟩ = some (.int .u8 k) ∧ (w3).cell? ⟨w.heap.size, 1, none⟩ = some (.bool nl) ∧ (w3).cell? ⟨w.heap.size, 2, none⟩ = some (.string t) ∧ (w3).cell? ⟨w.heap.size, 3, none⟩ = some (.int .i16 n) ∧ (w3).cell? ⟨w.heap.size, 4, none⟩ = some (.int .i8 sm) ∧ (w3).cell? ⟨w.heap.size, 5, none⟩ = some (.float .f64 re) ∧ (w3).cell? ⟨w.heap.size, 6, none⟩ = some (.float .f64 im) ∧ (w3).cell? ⟨w.heap.size, 7, none⟩ = some (.bool fl) ∧ (w3).cell? ⟨w.heap.size, 8, none⟩ = some (.int .u32 mk) ∧ (w3).cell? ⟨w.heap.size, 9, none⟩ = some (.slice A its.length c) ∧ (w3).cell? ⟨w.heap.size, 10, none⟩ = some (.slice B ps.length d) := ⟨(x3.cell 0).trans rfl, (x3.cell 1).trans rfl, (x3.cell 2).trans rfl, (x3.cell 3).trans rfl, (x3.cell 4).trans rfl, (x3.cell 5).trans rfl, (x3.cell 6).trans rfl, (x3.cell 7).trans rfl, (x3.cell 8).trans rfl, (x3.cell 9).trans rfl, (x3.cell 10).trans rfl⟩) | (go_at_call 107; refine HTz.out.mono ?_; rintro e w3 ⟨A', c', B', d', rfl, oi, op, hb3⟩; have x3 := XZ.out.next hb3; have z3 := NZ.out.next hb3; obtain ⟨e0, e1, e2, e3, e4, e5, e6, e7, e8, e9, e10⟩ : (w3).cell? ⟨w.heap.size, 0, none⟩ = some (.int .u8 k) ∧ (w3).cell? ⟨w.heap.size, 1, none⟩ = some (.bool nl) ∧ (w3).cell? ⟨w.heap.size, 2, none⟩ = some (.string t) ∧ (w3).cell? ⟨w.heap.size, 3, none⟩ = some (.int .i16 n) ∧ (w3).cell? ⟨w.heap.size, 4, none⟩ = some (.int .i8 sm) ∧ (w3).cell? ⟨w.heap.size, 5, none⟩ = some (.float .f64 re) ∧ (w3).cell? ⟨w.heap.size, 6, none⟩ = some (.float .f64 im) ∧ (w3).cell? ⟨w.heap.size, 7, none⟩ = some (.bool fl) ∧ (w3).cell? ⟨w.heap.size, 8, none⟩ = some (.int .u32 mk) ∧ (w3).cell? ⟨w.heap.size, 9, none⟩ = some (.slice A its.length c) ∧ (w3).cell? ⟨w.heap.size, 10, none⟩ = some (.slice B ps.length d) := ⟨(x3.cell 0).trans rfl, (x3.cell 1).trans rfl, (x3.cell 2).trans rfl, (x3.cell 3).trans rfl, (x3.cell 4).trans rfl, (x3.cell 5).trans rfl, (x3.cell 6).trans rfl, (x3.cell 7).trans rfl, (x3.cell 8).trans rfl, (x3.cell 9).trans rfl, (x3.cell 10).trans rfl⟩; obtain ⟨R, hR⟩ : ∃ R : Array Value, #[.nilIface, .int .u8 k, .bool nl, .string t, .int .i16 n, .int .i8 sm, .float .f64 re, .float .f64 im, .bool fl, .int .u32 mk, .slice A' its.length c', .slice B' ps.length d', .int .i64 1, .int .i64 1, .int .i64 0, .int .i64 t.size] = R := ⟨_, rfl⟩; have hls : R.size = 16 := (by rw [← hR]; rfl); have hst : Sem.run Tryz.prog (storeCells ⟨W2.heap.size, 0, none⟩ R.toList 0) w3 = .ok () (w3.setRow W2.heap.size R) := run_storeCells_from W2.heap.size 154 R.toList 0 _ w3 z3 (by simp [hls]) (fun v hv => by rw [← hR] at hv; revert v; simp [Value.oneCell']); have m3 := x3.setRow (g' := W2.heap.size) (by omega) R; obtain ⟨k0, k1, k2, k3, k4, k5, k6, k7, k8, k9, k10⟩ : (w3.setRow W2.heap.size R).cell? ⟨w.heap.size, 0, none⟩ = some (.int .u8 k) ∧ (w3.setRow W2.heap.size R).cell? ⟨w.heap.size, 1, none⟩ = some (.bool nl) ∧ (w3.setRow W2.heap.size R).cell? ⟨w.heap.size, 2, none⟩ = some (.string t) ∧ (w3.setRow W2.heap.size R).cell? ⟨w.heap.size, 3, none⟩ = some (.int .i16 n) ∧ (w3.setRow W2.heap.size R).cell? ⟨w.heap.size, 4, none⟩ = some (.int .i8 sm) ∧ (w3.setRow W2.heap.size R).cell? ⟨w.heap.size, 5, none⟩ = some (.float .f64 re) ∧ (w3.setRow W2.heap.size R).cell? ⟨w.heap.size, 6, none⟩ = some (.float .f64 im) ∧ (w3.setRow W2.heap.size R).cell? ⟨w.heap.size, 7, none⟩ = some (.bool fl) ∧ (w3.setRow W2.heap.size R).cell? ⟨w.heap.size, 8, none⟩ = some (.int .u32 mk) ∧ (w3.setRow W2.heap.size R).cell? ⟨w.heap.size, 9, none⟩ = some (.slice A its.length c) ∧ (w3.setRow W2.heap.size R).cell? ⟨w.heap.size, 10, none⟩ = some (.slice B ps.length d) := ⟨(m3.cell 0).trans rfl, (m3.cell 1).trans rfl, (m3.cell 2).trans rfl, (m3.cell 3).trans rfl, (m3.cell 4).trans rfl, (m3.cell 5).trans rfl, (m3.cell 6).trans rfl, (m3.cell 7).trans rfl, (m3.cell 8).trans rfl, (m3.cell 9).trans rfl, (m3.cell 10).trans rfl⟩; have Z3 := Aside0.mk z3; have RR := Aside0.mk hR; clear x3 z3 m3))
        · have hb3' := BD.out.trans (hb3.mono (show W2.heap.size ≤ W2.drew.heap.size from Nat.le_refl _))
          have hz3 : W2.heap.size ≤ w3.heap.size := hb3'.size
          have N3 := Aside0.mk (Blk.new w3 154 #[.nilIface, .int .u8 k, .bool nl, .string t, .int .i16 n, .int .i8 sm, .float .f64 re, .float .f64 im, .bool fl, .int .u32 mk, .slice A' its.length c', .slice B' ps.length d', .int .i64 1, .int .i64 1, .int .i64 0, .int .i64 t.size])
          have O3 := Aside0.mk (TF.own_lower (base' := W2.heap.size) (oi.alloc (.cells #[.nilIface, .int .u8 k, .bool nl, .string t, .int .i16 n, .int .i8 sm, .float .f64 re, .float .f64 im, .bool fl, .int .u32 mk, .slice A' its.length c', .slice B' ps.length d', .int .i64 1, .int .i64 1, .int .i64 0, .int .i64 t.size] 154)) (Nat.le_refl _))
          have P3 := Aside0.mk (TF.own_lower (base' := W2.heap.size) (op.alloc (.cells #[.nilIface, .int .u8 k, .bool nl, .string t, .int .i16 n, .int .i8 sm, .float .f64 re, .float .f64 im, .bool fl, .int .u32 mk, .slice A' its.length c', .slice B' ps.length d', .int .i64 1, .int .i64 1, .int .i64 0, .int .i64 t.size] 154)) (Nat.le_refl _))
          have B3 := Aside0.mk (hb3'.alloc hz3 (.cells #[.nilIface, .int .u8 k, .bool nl, .string t, .int .i16 n, .int .i8 sm, .float .f64 re, .float .f64 im, .bool fl, .int .u32 mk, .slice A' its.length c', .slice B' ps.length d', .int .i64 1, .int .i64 1, .int .i64 0, .int .i64 t.size] 154))
          clear oi op hb3 hb3' x3
          go_wp2_with (fail)
          go_meet
          exact ⟨_, A', c', B', d', rfl, Aside0.mk hz3, N3, O3, P3, B3⟩
        · have hg2 := setRow_heap w3 W2.heap.size _ R 154 (0, 0) Z3.out
          have hz3 : W2.heap.size + 1 ≤ w3.heap.size := by have := hb3.size; have h9 : (W2.alloc (.cells #[.nilIface, .int .u8 0, .bool false, .string ⟨#[]⟩, .int .i16 0, .int .i8 0, .float .f64 0, .float .f64 0, .bool false, .int .u32 0, .slice none 0 0, .slice none 0 0, .int .i64 0, .int .i64 0, .int .i64 0, .int .i64 0] 154)).heap.size ≤ w3.heap.size := this; rwa [World.size_alloc] at h9
          have hzz : W2.heap.size + 1 ≤ ((W2.alloc (.cells #[.nilIface, .int .u8 0, .bool false, .string ⟨#[]⟩, .int .i16 0, .int .i8 0, .float .f64 0, .float .f64 0, .bool false, .int .u32 0, .slice none 0 0, .slice none 0 0, .int .i64 0, .int .i64 0, .int .i64 0, .int .i64 0] 154)).drew).heap.size := by show _ ≤ (W2.alloc _).heap.size; rw [World.size_alloc]; exact Nat.le_refl _
          have N3 := Aside0.mk (show Blk (w3.setRow W2.heap.size R) W2.heap.size 154 #[.nilIface, .int .u8 k, .bool nl, .string t, .int .i16 n, .int .i8 sm, .float .f64 re, .float .f64 im, .bool fl, .int .u32 mk, .slice A' its.length c', .slice B' ps.length d', .int .i64 1, .int .i64 1, .int .i64 0, .int .i64 t.size] by unfold Blk; rw [RR.out]; exact hg2)
          have O3 := Aside0.mk (TF.own_lower (own_setRow (R := R) oi (show W2.heap.size < ((W2.alloc (.cells #[.nilIface, .int .u8 0, .bool false, .string ⟨#[]⟩, .int .i16 0, .int .i8 0, .float .f64 0, .float .f64 0, .bool false, .int .u32 0, .slice none 0 0, .slice none 0 0, .int .i64 0, .int .i64 0, .int .i64 0, .int .i64 0] 154)).drew).heap.size by omega)) (show W2.heap.size ≤ _ by omega))
          have P3 := Aside0.mk (TF.own_lower (own_setRow (R := R) op (show W2.heap.size < ((W2.alloc (.cells #[.nilIface, .int .u8 0, .bool false, .string ⟨#[]⟩, .int .i16 0, .int .i8 0, .float .f64 0, .float .f64 0, .bool false, .int .u32 0, .slice none 0 0, .slice none 0 0, .int .i64 0, .int .i64 0, .int .i64 0, .int .i64 0] 154)).drew).heap.size by omega)) (show W2.heap.size ≤ _ by omega))
          have B3 := Aside0.mk ((BZ.out.trans (hb3.mono (by omega))).trans (below_setRow w3 (Nat.le_refl _) R))
          clear oi op hb3 hg2
          go_wp2_with (fail)
          go_meet
          exact ⟨_, A', c', B', d', rfl, Aside0.mk (Nat.le_refl _), N3, O3, P3, B3⟩
      case rest =>
        clear c0 c1 c2 c3 c4 c5 c6 c7 c8 c9 c10
        obtain ⟨gN, A', c', B', d', rfl, HgN, HN, HI3, HP3, HB3⟩ := hcut
        obtain ⟨W3, rfl⟩ : ∃ W3 : World, W3 = wc := ⟨_, rfl⟩
        have hgn : gN < W3.heap.size := HN.out.lt
        have hgx : w.heap.size < gN := by have := HgN.out; omega
        have HX3 := Aside0.mk (HX2.out.next HB3.out)
        have HBk3 := Aside0.mk (HBk2.out.next HB3.out)
        have HI4 := Aside0.mk (TF.own_next HI2.out HB3.out)
        have HP4 := Aside0.mk (TF.own_next HP2.out HB3.out)
        have HB4 := Aside0.mk (HB2.out.trans (HB3.out.mono (Nat.le_of_lt hs2)))
        have c9 : W3.cell? ⟨w.heap.size, 9, none⟩ = some (.slice A its.length c) := (HX3.out.cell 9).trans rfl
        clear HX2 HBk2 HI2 HP2 HB2 HB3
        go_wp2_with (fail)
        go_loopg [55] its.length (fun kq v55 wr => ∃ i : Nat, v55 = .int .i64 i ∧ i + kq = its.length ∧ Aside0 (Blk wr gN 154 #[.nilIface, .int .u8 k, .bool nl, .string t, .int .i16 n, .int .i8 sm, .float .f64 re, .float .f64 im, .bool fl, .int .u32 mk, .slice A' its.length c', .slice B' ps.length d', .int .i64 (1), .int .i64 (1), .int .i64 (0), .int .i64 ((t.size : Int) + lensOf (its.take i))]) ∧ Aside0 (Fr (fun q => q = gN) W3 wr))
        case atStart => exact ⟨0, rfl, by omega, Aside0.mk (by have := HN.out; simpa [lensOf] using this), Aside0.mk (Fr.refl _ _)⟩
        case round =>
          clear c9
          obtain ⟨i, rfl, hik, HN2, HW⟩ := hrel
          by_cases hi : i < its.length
          · have hi2 : (i : Int) < (its.length : Int) := by omega
            obtain ⟨gp, rfl, hcp, -⟩ := own_cell (TF.own_fr HI4.out HW.out (fun q hq hq2 => by subst hq2; exact TF.own_blk_ne HI4.out HN.out (by decide) hq)) i hi
            obtain ⟨cur, hcur⟩ : ∃ cur, (t.size : Int) + lensOf (its.take i) = cur := ⟨_, rfl⟩
            have hsn : lensOf (its.take (i + 1)) = lensOf (its.take i) + (its[i].size : Int) := by rw [List.take_succ_eq_append_getElem hi, lens_snoc]
            have hb0 : 0 ≤ cur := by rw [← hcur]; have := lens_nonneg (its.take i); omega
            have hb1 : cur + (its[i].size : Int) ≤ 1048576 := by rw [← hcur]; have h1 := lens_take its (i + 1); have h2 := sum_nonneg RowD.words L ps HWd.out; omega
            have c15 : wr.cell? ⟨gN, 15, none⟩ = some (.int .i64 cur) := by rw [← hcur]; exact (HN2.out.cell 15).trans rfl
            have f15 := HN2.out.frozen 15
            have hst := HN2.out.set_ 15 (.int .i64 (cur + (its[i].size : Int)))
            have hfr := HW.out.set (p := ⟨gN, 15, none⟩) (.inl rfl) (.int .i64 (cur + (its[i].size : Int)))
            have HST := Aside0.mk (show Blk (wr.setCell ⟨gN, 15, none⟩ (.int .i64 (cur + (its[i].size : Int)))) gN 154 #[.nilIface, .int .u8 k, .bool nl, .string t, .int .i16 n, .int .i8 sm, .float .f64 re, .float .f64 im, .bool fl, .int .u32 mk, .slice A' its.length c', .slice B' ps.length d', .int .i64 (1), .int .i64 (1), .int .i64 (0), .int .i64 ((t.size : Int) + lensOf (its.take (i + 1)))] by rw [hsn, ← Int.add_assoc, hcur]; exact hst)
            have HFR := Aside0.mk hfr
            have hii : (0 ≤ (i : Int)) ∧ ((i : Int) < (its.length : Int)) := ⟨Int.natCast_nonneg i, hi2⟩
            clear hst hfr hsn hcur HN2 HW
            go_wp2_with (fail)
            go_roundg (gk - 1)
            case measure => omega
            case rel => exact ⟨i + 1, by simp, by omega, HST, HFR⟩
          · obtain rfl : i = its.length := by omega
            obtain ⟨W4, rfl⟩ : ∃ W4 : World, W4 = wr := ⟨_, rfl⟩
            have hN4 := HN2.out
            rw [List.take_length] at hN4
            have hne : ∀ {q : Nat} {e : TypeId} {sz n2 : Nat} {u : Value} {xs : List Value} {bs : Nat}, W3.ownsRow bs e sz u n2 xs → e ≠ 154 → u.ownBlock = some q → ¬ (q = gN) := fun ho hne hq hq2 => by subst hq2; exact TF.own_blk_ne ho HN.out hne hq
            have HX4 := Aside0.mk (HX3.out.fr HW.out (show ¬ w.heap.size = gN by omega))
            have HBkh := Aside0.mk HBk3.out
            have HN4 := Aside0.mk hN4
            have HI5 := Aside0.mk (TF.own_fr HI4.out HW.out (fun q hq => hne HI4.out (by decide) hq))
            have HP5 := Aside0.mk (TF.own_fr HP4.out HW.out (fun q hq => hne HP4.out (by decide) hq))
            have HI6 := Aside0.mk (TF.own_fr HI3.out HW.out (fun q hq => hne HI3.out (by decide) hq))
            have HP6 := Aside0.mk (TF.own_fr HP3.out HW.out (fun q hq => hne HP3.out (by decide) hq))
            have hbrows : ∀ q, v.ownBlock = some q → ¬ q = gN := fun q hq hq2 => by have := HL0.out q hq; omega
            have HBk4 := Aside0.mk (show Bk b v L W4 from ⟨HBk3.out.head.fr HW.out (by omega), TF.own_fr HBk3.out.rows HW.out hbrows, fun r hr => ⟨TF.own_fr (HBk3.out.owns r hr).1 HW.out (fun q hq => hne (HBk3.out.owns r hr).1 (by decide) hq), TF.own_fr (HBk3.out.owns r hr).2 HW.out (fun q hq => hne (HBk3.out.owns r hr).2 (by decide) hq)⟩⟩)
            have HB5 := Aside0.mk (HB4.out.trans (HW.out.below (show w.heap.size ≤ W3.heap.size by omega) (fun q hq => by omega)))
            have hgn4 : gN < W4.heap.size := hN4.lt
            have c10 : W4.cell? ⟨w.heap.size, 10, none⟩ = some (.slice B ps.length d) := (HX4.out.cell 10).trans rfl
            clear hN4 hne HX3 HBk3 HI4 HP4 HI3 HP3 hbrows HB4 HW HN HN2 HBkh hik hi hgn
            obtain ⟨WD, hWD⟩ : ∃ x, (t.size : Int) + lensOf its = x := ⟨_, rfl⟩
            have HWD := Aside0.mk hWD
            rw [hWD] at HN4
            clear hWD
            -- room for the parts and their lengths
            have hmkE := print_make_of (P := Tryz.prog) 266 113 .nilIface 16 Tryz.underlying266 (by kernel_rfl) rfl (by decide) ps.length (by omega)
            have hmkI := print_make (P := Tryz.prog) 35 3 .i64 8 Tryz.underlying35 (by kernel_rfl) (by decide) ps.length (by omega)
            have hE := own_nils W4 ps.length (by omega)
            have b45 : Below W4.heap.size W4 (W4.alloc (.cells (madeCells #[.nilIface] ps.length) 113)) := (Below.refl _ W4).alloc (Nat.le_refl _) _
            obtain ⟨W5, hW5⟩ : ∃ V, W4.alloc (.cells (madeCells #[.nilIface] ps.length) 113) = V := ⟨_, rfl⟩
            rw [hW5] at hE b45
            have hs5 : W5.heap.size = W4.heap.size + 1 := by rw [← hW5, World.size_alloc]
            have c105 : W5.cell? ⟨w.heap.size, 10, none⟩ = some (.slice B ps.length d) := ((HX4.out.next b45).cell 10).trans rfl
            have hLn := own_made W5 W5.heap.size 3 .i64 ps.length (Nat.le_refl _) (by omega)
            have b56 : Below W5.heap.size W5 (W5.alloc (.cells (madeCells #[.int .i64 0] ps.length) 3)) := (Below.refl _ W5).alloc (Nat.le_refl _) _
            obtain ⟨W6, hW6⟩ : ∃ V, W5.alloc (.cells (madeCells #[.int .i64 0] ps.length) 3) = V := ⟨_, rfl⟩
            rw [hW6] at hLn b56
            have hs6 : W6.heap.size = W4.heap.size + 1 + 1 := by rw [← hW6, World.size_alloc, hs5]
            have b46 : Below W4.heap.size W4 W6 := b45.trans (b56.mono b45.size)
            have c106 : W6.cell? ⟨w.heap.size, 10, none⟩ = some (.slice B ps.length d) := ((HX4.out.next b46).cell 10).trans rfl
            have HX6 := Aside0.mk (HX4.out.next b46)
            have HN6 := Aside0.mk (HN4.out.next b46)
            have HI7 := Aside0.mk (TF.own_next HI5.out b46)
            have HP7 := Aside0.mk (TF.own_next HP5.out b46)
            have HI8 := Aside0.mk (TF.own_next HI6.out b46)
            have HP8 := Aside0.mk (TF.own_next HP6.out b46)
            have HLI := Aside0.mk (show ∀ q, (Value.slice A' its.length c').ownBlock = some q → q < W4.heap.size from fun q hq => (HI6.out.lt q hq).2)
            have HLP := Aside0.mk (show ∀ q, (Value.slice B' ps.length d').ownBlock = some q → q < W4.heap.size from fun q hq => (HP6.out.lt q hq).2)
            have HBk6 := Aside0.mk (HBk4.out.next b46)
            have HB6 := Aside0.mk (HB5.out.trans (b46.mono HB5.out.size))
            have HE6 := Aside0.mk (TF.own_next hE b56)
            have HL6 := Aside0.mk hLn
            clear hE hLn b45 b56 b46 HX4 HN4 HI5 HP5 HI6 HP6 HBk4 HB5
            go_upto_region 21 with (fail)
            clear hW5 hW6 hmkE hmkI c10 c105
            rw [hs5] at HL6
            have hgs : gN < W4.heap.size := hgn4
            go_wp2_with (fail)
            go_loopg [77] ps.length (fun kq v77 wr => ∃ i : Nat, v77 = .int .i64 i ∧ i + kq = ps.length ∧ Aside0 (Blk wr gN 154 #[.nilIface, .int .u8 k, .bool nl, .string t, .int .i16 n, .int .i8 sm, .float .f64 re, .float .f64 im, .bool fl, .int .u32 mk, .slice A' its.length c', .slice B' ps.length d', .int .i64 (1 + sumOf RowD.size L (ps.take i)), .int .i64 (topOf L 1 (ps.take i)), .int .i64 (0), .int .i64 (WD + sumOf RowD.words L (ps.take i))]) ∧
              Aside0 (wr.ownsRow (W4.heap.size) 113 1 (.slice (some ⟨W4.heap.size, 0, none⟩) ps.length ps.length) ps.length (fillE L ps i)) ∧ Aside0 (wr.ownsRow (W4.heap.size + 1) 3 1 (.slice (some ⟨W4.heap.size + 1, 0, none⟩) ps.length ps.length) ps.length (encs (Value.int .i64) (fillL L ps i))) ∧
              Aside0 (Fr (fun q => q = gN ∨ q = W4.heap.size ∨ q = W4.heap.size + 1) W6 wr))
            case atStart => exact ⟨0, rfl, by omega, Aside0.mk (by have := HN6.out; simpa [sumOf, topOf] using this), Aside0.mk (by rw [fillE_zero]; exact HE6.out), Aside0.mk (by rw [fillL_zero]; exact HL6.out), Aside0.mk (Fr.refl _ _)⟩
            case round =>
              clear c106 HE6 HL6
              obtain ⟨i, rfl, hik, HN7, HE7, HL7, HW⟩ := hrel
              have hB7 := HB6.out.trans (HW.out.below (show w.heap.size ≤ W6.heap.size by omega) (fun q hq => by omega))
              by_cases hi : i < ps.length
              · have hi2 : (i : Int) < (ps.length : Int) := by omega
                obtain ⟨gp, rfl, hcp, -⟩ := own_cell (TF.own_next HPw.out hB7) i hi
                have hpp := HPs.out ps[i] (List.getElem_mem hi)
                have hrc := HF.out.rec_ ps[i] hpp.1 hpp.2
                have HAt := Aside0.mk (at_any b v L wr ps[i] (HBkw.out.next hB7) hpp.1 hpp.2 (Nat.le_of_lt HF.out.len))
                have hii : (0 ≤ (i : Int)) ∧ ((i : Int) < (ps.length : Int)) := ⟨Int.natCast_nonneg i, hi2⟩
                have HB7 := Aside0.mk hB7
                have HRc := Aside0.mk hrc
                have hwr : W6.heap.size ≤ wr.heap.size := HW.out.size
                clear hpp hB7 hrc
                go_wp2_with (go_at_call 71; (with_reducible refine HAt.out.mono ?_))
                rintro e w1 ⟨g1, o1, rfl, hc1, ⟨cs1, ht1⟩, hlt1, hb1⟩
                obtain ⟨r, hr⟩ : ∃ r, recOf L ps[i] = r := ⟨_, rfl⟩
                have HRr := Aside0.mk hr
                rw [hr] at hc1 HRc
                have d0 : w1.cell? ⟨g1, o1, none⟩ = some r.err := (hc1 0 (by decide)).trans rfl
                have d12 : w1.cell? ⟨g1, o1 + 12, none⟩ = some (.int .i64 r.size) := (hc1 12 (by decide)).trans rfl
                have d13 : w1.cell? ⟨g1, o1 + 13, none⟩ = some (.int .i64 r.depth) := (hc1 13 (by decide)).trans rfl
                have d14 : w1.cell? ⟨g1, o1 + 14, none⟩ = some (.int .i64 r.long) := (hc1 14 (by decide)).trans rfl
                have d15 : w1.cell? ⟨g1, o1 + 15, none⟩ = some (.int .i64 r.words) := (hc1 15 (by decide)).trans rfl
                have hN8 := HN7.out.next hb1
                have hE8 := TF.own_next HE7.out hb1
                have hL8 := TF.own_next HL7.out hb1
                have hF8 := HW.out.then_ hb1
                have hg1 : g1 ≠ gN := fun hq => by
                  subst hq
                  by_cases hlt : g1 < wr.heap.size
                  · have := HL0.out _ (hlt1 hlt); omega
                  · omega
                have hg2 : g1 ≠ W4.heap.size := fun hq => TF.own_blk_ne (t := 154) (cs := cs1) hE8 (show Blk w1 (W4.heap.size) _ _ by rw [← hq]; exact ht1) (by decide) rfl
                have hg3 : g1 ≠ W4.heap.size + 1 := fun hq => TF.own_blk_ne (t := 154) (cs := cs1) hL8 (show Blk w1 (W4.heap.size + 1) _ _ by rw [← hq]; exact ht1) (by decide) rfl
                have aE := own_at_of' hE8 hi
                have aL := own_at_ofL hL8 hi
                obtain ⟨eE, fE⟩ := aE
                obtain ⟨eL, fL⟩ := aL
                have hse := fun (W : World) (a : Addr) => run_store Tryz.prog W a r.err .plain HRc.out.one
                have hce := cells_one' HRc.out.one
                unfold Value.cells at hce
                have g4 : (W4.heap.size + 1) ≠ W4.heap.size := by omega
                have g5 : gN ≠ W4.heap.size := by omega
                have g6 : gN ≠ W4.heap.size + 1 := by omega
                have HN8 := Aside0.mk hN8
                have HE8 := Aside0.mk hE8
                have HL8 := Aside0.mk hL8
                have HF8 := Aside0.mk hF8
                have eL2 : (w1.setCell ⟨W4.heap.size, i, none⟩ r.err).cell? ⟨W4.heap.size + 1, i, none⟩ = some (.int .i64 0) := (World.cell?_setCell_other w1 ⟨W4.heap.size, i, none⟩ ⟨W4.heap.size + 1, i, none⟩ r.err (by simp)).trans eL
                have fL2 : (w1.setCell ⟨W4.heap.size, i, none⟩ r.err).frozen? ⟨W4.heap.size + 1, i, none⟩ = false := by rw [World.frozen?_setCell]; exact fL
                have e0 : (w1.setCell ⟨W4.heap.size, i, none⟩ r.err).cell? ⟨g1, o1, none⟩ = some r.err := (World.cell?_setCell_other w1 ⟨W4.heap.size, i, none⟩ ⟨g1, o1, none⟩ r.err (fun he => hg2 (congrArg Addr.block he).symm)).trans d0
                have e14 : (w1.setCell ⟨W4.heap.size, i, none⟩ r.err).cell? ⟨g1, o1 + 14, none⟩ = some (.int .i64 r.long) := (World.cell?_setCell_other w1 ⟨W4.heap.size, i, none⟩ ⟨g1, o1 + 14, none⟩ r.err (fun he => hg2 (congrArg Addr.block he).symm)).trans d14
                have k0 : ((w1.setCell ⟨W4.heap.size, i, none⟩ r.err).setCell ⟨W4.heap.size + 1, i, none⟩ (.int .i64 r.long)).cell? ⟨g1, o1, none⟩ = some r.err := (World.cell?_setCell_other _ ⟨W4.heap.size + 1, i, none⟩ ⟨g1, o1, none⟩ _ (fun he => hg3 (congrArg Addr.block he).symm)).trans e0
                have k14 : ((w1.setCell ⟨W4.heap.size, i, none⟩ r.err).setCell ⟨W4.heap.size + 1, i, none⟩ (.int .i64 r.long)).cell? ⟨g1, o1 + 14, none⟩ = some (.int .i64 r.long) := (World.cell?_setCell_other _ ⟨W4.heap.size + 1, i, none⟩ ⟨g1, o1 + 14, none⟩ _ (fun he => hg3 (congrArg Addr.block he).symm)).trans e14
                clear hN8 hE8 hL8 hF8 hc1 ht1 hlt1
                go_upto_region 25 with (fail)
                go_region_held3 (fun V => V.cell? ⟨g1, o1, none⟩ = some r.err ∧ V.cell? ⟨g1, o1 + 14, none⟩ = some (.int .i64 r.long)) (first | exact ⟨d0, d14⟩ | exact ⟨e0, e14⟩ | exact ⟨k0, k14⟩ | go_keep) (fail)
                have N9 := (HN8.out.far (p := ⟨W4.heap.size, i, none⟩) g5 r.err).far (p := ⟨W4.heap.size + 1, i, none⟩) g6 (.int .i64 r.long)
                have E9 := own_setCell ((HE8.out.stored i r.err).1) (p := ⟨W4.heap.size + 1, i, none⟩) (by simp [Value.ownBlock]) (.int .i64 r.long)
                have L9 := ((own_setCell HL8.out (p := ⟨W4.heap.size, i, none⟩) (by simp [Value.ownBlock]) r.err).stored i (.int .i64 r.long)).1
                have F9 := (HF8.out.set (p := ⟨W4.heap.size, i, none⟩) (.inl (.inr (.inl rfl))) r.err).set (p := ⟨W4.heap.size + 1, i, none⟩) (.inl (.inr (.inr rfl))) (.int .i64 r.long)
                have m12 : ((w1.setCell ⟨W4.heap.size, i, none⟩ r.err).setCell ⟨W4.heap.size + 1, i, none⟩ (.int .i64 r.long)).cell? ⟨g1, o1 + 12, none⟩ = some (.int .i64 r.size) := ((World.cell?_setCell_other _ ⟨W4.heap.size + 1, i, none⟩ ⟨g1, o1 + 12, none⟩ _ (fun he => hg3 (congrArg Addr.block he).symm)).trans (World.cell?_setCell_other _ ⟨W4.heap.size, i, none⟩ ⟨g1, o1 + 12, none⟩ _ (fun he => hg2 (congrArg Addr.block he).symm))).trans d12
                have m13 : ((w1.setCell ⟨W4.heap.size, i, none⟩ r.err).setCell ⟨W4.heap.size + 1, i, none⟩ (.int .i64 r.long)).cell? ⟨g1, o1 + 13, none⟩ = some (.int .i64 r.depth) := ((World.cell?_setCell_other _ ⟨W4.heap.size + 1, i, none⟩ ⟨g1, o1 + 13, none⟩ _ (fun he => hg3 (congrArg Addr.block he).symm)).trans (World.cell?_setCell_other _ ⟨W4.heap.size, i, none⟩ ⟨g1, o1 + 13, none⟩ _ (fun he => hg2 (congrArg Addr.block he).symm))).trans d13
                have m15 : ((w1.setCell ⟨W4.heap.size, i, none⟩ r.err).setCell ⟨W4.heap.size + 1, i, none⟩ (.int .i64 r.long)).cell? ⟨g1, o1 + 15, none⟩ = some (.int .i64 r.words) := ((World.cell?_setCell_other _ ⟨W4.heap.size + 1, i, none⟩ ⟨g1, o1 + 15, none⟩ _ (fun he => hg3 (congrArg Addr.block he).symm)).trans (World.cell?_setCell_other _ ⟨W4.heap.size, i, none⟩ ⟨g1, o1 + 15, none⟩ _ (fun he => hg2 (congrArg Addr.block he).symm))).trans d15
                obtain ⟨U, hU⟩ : ∃ U, ((w1.setCell ⟨W4.heap.size, i, none⟩ r.err).setCell ⟨W4.heap.size + 1, i, none⟩ (.int .i64 r.long)) = U := ⟨_, rfl⟩
                rw [hU] at N9 E9 L9 F9 m12 m13 m15 ⊢
                rw [fillE_set HRr.out hi] at E9
                rw [fillL_set HRr.out hi] at L9
                obtain ⟨a1, ha1⟩ : ∃ x, 1 + sumOf RowD.size L (ps.take i) = x := ⟨_, rfl⟩
                obtain ⟨a2, ha2⟩ : ∃ x, topOf L 1 (ps.take i) = x := ⟨_, rfl⟩
                obtain ⟨a3, ha3⟩ : ∃ x, WD + sumOf RowD.words L (ps.take i) = x := ⟨_, rfl⟩
                rw [ha1, ha2, ha3] at N9
                have q1 : 1 + sumOf RowD.size L (ps.take (i + 1)) = a1 + r.size := by rw [← ha1, List.take_succ_eq_append_getElem hi, sum_snoc, HRr.out]; omega
                have q2 : topOf L 1 (ps.take (i + 1)) = max a2 (r.depth + 1) := by rw [← ha2, List.take_succ_eq_append_getElem hi, top_snoc, HRr.out]
                have q3 : WD + sumOf RowD.words L (ps.take (i + 1)) = a3 + r.words := by rw [← ha3, List.take_succ_eq_append_getElem hi, sum_snoc, HRr.out]; omega
                have Q1 := Aside0.mk q1
                have Q2 := Aside0.mk q2
                have Q3 := Aside0.mk q3
                have E10 := Aside0.mk E9
                have L10 := Aside0.mk L9
                have F10 := Aside0.mk F9
                have N10 := Aside0.mk N9
                have n12 : U.cell? ⟨gN, 12, none⟩ = some (.int .i64 a1) := (N9.cell 12).trans rfl
                have f12 := N9.frozen 12
                have za1 : 0 ≤ a1 := by rw [← ha1]; have := sum_nonneg RowD.size L (ps.take i) (fun p hp => HSz.out p (List.mem_of_mem_take hp)); omega
                have za2 : a1 ≤ 4096 := by rw [← ha1]; have := sum_take RowD.size L ps HSz.out i; omega
                have za3 : 0 ≤ r.size := HRc.out.size.1
                have za4 : r.size ≤ 4096 := HRc.out.size.2
                have zb1 : 1 ≤ a2 := by rw [← ha2]; exact (top_take L (ps.take i) 1 0).2
                have zb2 : a2 ≤ 64 := by rw [← ha2]; exact Int.le_trans (top_take L ps 1 i).1 hdp
                have zb3 : 0 ≤ r.depth := HRc.out.depth.1
                have zb4 : r.depth ≤ 64 := HRc.out.depth.2
                have zc1 : 0 ≤ a3 := by rw [← ha3, ← HWD.out]; have h1 := lens_nonneg its; have := sum_nonneg RowD.words L (ps.take i) (fun p hp => HWd.out p (List.mem_of_mem_take hp)); omega
                have zc2 : a3 ≤ 1048576 := by rw [← ha3, ← HWD.out]; have := sum_take RowD.words L ps HWd.out i; omega
                have zc3 : 0 ≤ r.words := HRc.out.words.1
                have zc4 : r.words ≤ 1048576 := HRc.out.words.2
                clear q1 q2 q3 ha1 ha2 ha3 E9 L9 F9 hU k0 k14 e0 e14 eL2 fL2 eE fE eL fL d0 d12 d13 d14 d15 hse hce N9
                go_upto_region 26 with (fail)
                refine wp_still_named 8 (by kernel_rfl) (by kernel_rfl) ?_
                simp only [List.take_succ_cons, List.take_zero, List.drop_succ_cons, List.drop_zero]
                repeat still_step
                refine wpStill_nil ?_
                go_wp2_with (fail)
                have V2 := N10.out.set_ 12 (.int .i64 (a1 + r.size))
                have h13 : (U.setCell ⟨gN, 12, none⟩ (.int .i64 (a1 + r.size))).cell? ⟨g1, o1 + 13, none⟩ = some (.int .i64 r.depth) := (World.cell?_setCell_other _ ⟨gN, 12, none⟩ ⟨g1, o1 + 13, none⟩ _ (fun he => hg1 (congrArg Addr.block he).symm)).trans m13
                have h15 : (U.setCell ⟨gN, 12, none⟩ (.int .i64 (a1 + r.size))).cell? ⟨g1, o1 + 15, none⟩ = some (.int .i64 r.words) := (World.cell?_setCell_other _ ⟨gN, 12, none⟩ ⟨g1, o1 + 15, none⟩ _ (fun he => hg1 (congrArg Addr.block he).symm)).trans m15
                have f2 := F10.out.set (p := ⟨gN, 12, none⟩) (.inl (.inl rfl)) (.int .i64 (a1 + r.size))
                have e2 := own_setCell E10.out (p := ⟨gN, 12, none⟩) (by simp [Value.ownBlock]; exact g5) (.int .i64 (a1 + r.size))
                have l2 := own_setCell L10.out (p := ⟨gN, 12, none⟩) (by simp [Value.ownBlock]; exact g6) (.int .i64 (a1 + r.size))
                obtain ⟨U2, hU2⟩ : ∃ V, U.setCell ⟨gN, 12, none⟩ (.int .i64 (a1 + r.size)) = V := ⟨_, rfl⟩
                rw [hU2] at V2 h13 h15 f2 e2 l2 ⊢
                have n15 : U2.cell? ⟨gN, 15, none⟩ = some (.int .i64 a3) := (V2.cell 15).trans rfl
                have f15 := V2.frozen 15
                have N11 := Aside0.mk V2
                have F11 := Aside0.mk f2
                have E11 := Aside0.mk e2
                have L11 := Aside0.mk l2
                clear hU2 V2 f2 e2 l2 n12 f12 m12 m13 m15 N10 F10 E10 L10
                refine wp_still_named 8 (by kernel_rfl) (by kernel_rfl) ?_
                simp only [List.take_succ_cons, List.take_zero, List.drop_succ_cons, List.drop_zero]
                repeat still_step
                refine wpStill_nil ?_
                go_wp2_with (fail)
                have V3 := N11.out.set_ 15 (.int .i64 (a3 + r.words))
                have v13 : (U2.setCell ⟨gN, 15, none⟩ (.int .i64 (a3 + r.words))).cell? ⟨g1, o1 + 13, none⟩ = some (.int .i64 r.depth) := (World.cell?_setCell_other _ ⟨gN, 15, none⟩ ⟨g1, o1 + 13, none⟩ _ (fun he => hg1 (congrArg Addr.block he).symm)).trans h13
                have f3 := F11.out.set (p := ⟨gN, 15, none⟩) (.inl (.inl rfl)) (.int .i64 (a3 + r.words))
                have e3 := own_setCell E11.out (p := ⟨gN, 15, none⟩) (by simp [Value.ownBlock]; exact g5) (.int .i64 (a3 + r.words))
                have l3 := own_setCell L11.out (p := ⟨gN, 15, none⟩) (by simp [Value.ownBlock]; exact g6) (.int .i64 (a3 + r.words))
                obtain ⟨U3, hU3⟩ : ∃ V, U2.setCell ⟨gN, 15, none⟩ (.int .i64 (a3 + r.words)) = V := ⟨_, rfl⟩
                rw [hU3] at V3 v13 f3 e3 l3 ⊢
                have n13 : U3.cell? ⟨gN, 13, none⟩ = some (.int .i64 a2) := (V3.cell 13).trans rfl
                have f13 := V3.frozen 13
                have N12 := Aside0.mk V3
                have F12 := Aside0.mk f3
                have E12 := Aside0.mk e3
                have L12 := Aside0.mk l3
                clear hU3 V3 f3 e3 l3 n15 f15 h13 h15 N11 F11 E11 L11
                refine wp_still_named 9 (by kernel_rfl) (by kernel_rfl) ?_
                simp only [List.take_succ_cons, List.take_zero, List.drop_succ_cons, List.drop_zero]
                repeat still_step
                refine wpStill_nil ?_
                go_wp2_with (fail)
                have V4 := N12.out.set_ 13 (.int .i64 (max a2 (r.depth + 1)))
                have f4 := F12.out.set (p := ⟨gN, 13, none⟩) (.inl (.inl rfl)) (.int .i64 (max a2 (r.depth + 1)))
                have e4 := own_setCell E12.out (p := ⟨gN, 13, none⟩) (by simp [Value.ownBlock]; exact g5) (.int .i64 (max a2 (r.depth + 1)))
                have l4 := own_setCell L12.out (p := ⟨gN, 13, none⟩) (by simp [Value.ownBlock]; exact g6) (.int .i64 (max a2 (r.depth + 1)))
                have V5 := Aside0.mk V4
                have F13 := Aside0.mk f4.drew.drew.drew.drew
                have E13 := Aside0.mk (own_drew (own_drew (own_drew (own_drew e4))))
                have L13 := Aside0.mk (own_drew (own_drew (own_drew (own_drew l4))))
                clear V4 f4 e4 l4
                go_roundg (gk - 1)
                case measure => omega
                case rel => exact ⟨i + 1, by simp, by omega, Aside0.mk (by rw [Q1.out, Q2.out, Q3.out]; exact V5.out), E13, L13, F13⟩
              · obtain rfl : i = ps.length := by omega
                obtain ⟨W7, rfl⟩ : ∃ W7 : World, W7 = wr := ⟨_, rfl⟩
                have hN7 := HN7.out
                have hE7 := HE7.out
                have hL7 := HL7.out
                rw [List.take_length] at hN7
                rw [fillE_all] at hE7
                rw [fillL_all] at hL7
                obtain ⟨sz, hsz'⟩ : ∃ x, 1 + sumOf RowD.size L ps = x := ⟨_, rfl⟩
                obtain ⟨dp, hdp'⟩ : ∃ x, topOf L 1 ps = x := ⟨_, rfl⟩
                obtain ⟨wd, hwd'⟩ : ∃ x, WD + sumOf RowD.words L ps = x := ⟨_, rfl⟩
                rw [hsz', hdp', hwd'] at hN7
                have hx7 := HX6.out.fr HW.out (show ¬ (w.heap.size = gN ∨ w.heap.size = W4.heap.size ∨ w.heap.size = W4.heap.size + 1) by omega)
                obtain ⟨c0, c1, c2, c3, c4, c5, c6, c7, c8, c9, c10⟩ : W7.cell? ⟨w.heap.size, 0, none⟩ = some (.int .u8 k) ∧ W7.cell? ⟨w.heap.size, 1, none⟩ = some (.bool nl) ∧ W7.cell? ⟨w.heap.size, 2, none⟩ = some (.string t) ∧ W7.cell? ⟨w.heap.size, 3, none⟩ = some (.int .i16 n) ∧ W7.cell? ⟨w.heap.size, 4, none⟩ = some (.int .i8 sm) ∧ W7.cell? ⟨w.heap.size, 5, none⟩ = some (.float .f64 re) ∧ W7.cell? ⟨w.heap.size, 6, none⟩ = some (.float .f64 im) ∧ W7.cell? ⟨w.heap.size, 7, none⟩ = some (.bool fl) ∧ W7.cell? ⟨w.heap.size, 8, none⟩ = some (.int .u32 mk) ∧ W7.cell? ⟨w.heap.size, 9, none⟩ = some (.slice A its.length c) ∧ W7.cell? ⟨w.heap.size, 10, none⟩ = some (.slice B ps.length d) := ⟨(hx7.cell 0).trans rfl, (hx7.cell 1).trans rfl, (hx7.cell 2).trans rfl, (hx7.cell 3).trans rfl, (hx7.cell 4).trans rfl, (hx7.cell 5).trans rfl, (hx7.cell 6).trans rfl, (hx7.cell 7).trans rfl, (hx7.cell 8).trans rfl, (hx7.cell 9).trans rfl, (hx7.cell 10).trans rfl⟩
                have HA7 := Aside0.mk (TF.own_fr HI8.out HW.out (fun q hq hs => by have := HLI.out q hq; rcases hs with rfl | rfl | rfl; exact TF.own_blk_ne HI8.out HN6.out (by decide) hq; omega; omega))
                have HB7' := Aside0.mk (TF.own_fr HP8.out HW.out (fun q hq hs => by have := HLP.out q hq; rcases hs with rfl | rfl | rfl; exact TF.own_blk_ne HP8.out HN6.out (by decide) hq; omega; omega))
                have HT7 := Aside0.mk (HTw.out W7 base (TF.own_next HIw.out hB7) (TF.own_next HPw.out hB7))
                have HN8 := Aside0.mk hN7
                have HE8 := Aside0.mk hE7
                have HNt := Aside0.mk hN7
                have HL8 := Aside0.mk hL7
                have HX7 := Aside0.mk hx7
                have HB7 := Aside0.mk hB7
                have hgN7 : gN < W7.heap.size := hN7.lt
                have HQ := Aside0.mk (And.intro hsz' (And.intro hdp' hwd'))
                have HL7' := Aside0.mk hlg
                have HZ := Aside0.mk (And.intro hsz hdp)
                clear hN7 hE7 hL7 hx7 hB7 hsz' hdp' hwd' HN7 HE7 HL7 HW HI8 HP8 HX6 HN6 HLI HLP hlg hsz hdp hik hi
                go_wp2_with (go_at_call 107; (with_reducible refine HT7.out.mono ?_))
                rintro e W8 ⟨A2, c2', B2, d2, rfl, oi, op, h8⟩
                clear c0 c1 c2 c3 c4 c5 c6 c7 c8 c9 c10
                have HM8 := Aside0.mk (HMk.out W8 A2 B2 (some ⟨W4.heap.size, 0, none⟩) c2' d2 ps.length 0 (TF.own_lower oi (Nat.zero_le _)) (TF.own_lower op (Nat.zero_le _)) (TF.own_lower (TF.own_next HE8.out h8) (Nat.zero_le _)))
                go_wp2_with (go_at_call 108; (with_reducible refine HM8.out.mono ?_))
                rintro e W9 ⟨err, rfl, hone, hpe, h9⟩
                have hW89 := h8.size
                have b79 : Below W7.heap.size W7 W9 := h8.trans (h9.mono h8.size)
                have hx9 := HX7.out.next b79
                obtain ⟨c0, c1, c2, c3, c4, c5, c6, c7, c8, c9, c10⟩ : W9.cell? ⟨w.heap.size, 0, none⟩ = some (.int .u8 k) ∧ W9.cell? ⟨w.heap.size, 1, none⟩ = some (.bool nl) ∧ W9.cell? ⟨w.heap.size, 2, none⟩ = some (.string t) ∧ W9.cell? ⟨w.heap.size, 3, none⟩ = some (.int .i16 n) ∧ W9.cell? ⟨w.heap.size, 4, none⟩ = some (.int .i8 sm) ∧ W9.cell? ⟨w.heap.size, 5, none⟩ = some (.float .f64 re) ∧ W9.cell? ⟨w.heap.size, 6, none⟩ = some (.float .f64 im) ∧ W9.cell? ⟨w.heap.size, 7, none⟩ = some (.bool fl) ∧ W9.cell? ⟨w.heap.size, 8, none⟩ = some (.int .u32 mk) ∧ W9.cell? ⟨w.heap.size, 9, none⟩ = some (.slice A its.length c) ∧ W9.cell? ⟨w.heap.size, 10, none⟩ = some (.slice B ps.length d) := ⟨(hx9.cell 0).trans rfl, (hx9.cell 1).trans rfl, (hx9.cell 2).trans rfl, (hx9.cell 3).trans rfl, (hx9.cell 4).trans rfl, (hx9.cell 5).trans rfl, (hx9.cell 6).trans rfl, (hx9.cell 7).trans rfl, (hx9.cell 8).trans rfl, (hx9.cell 9).trans rfl, (hx9.cell 10).trans rfl⟩
                have HL9 := Aside0.mk (HLo.out W9 A B (some ⟨W4.heap.size + 1, 0, none⟩) c d ps.length 0 (TF.own_lower (TF.own_next HIw.out (HB7.out.trans (b79.mono HB7.out.size))) (Nat.zero_le _)) (TF.own_lower (TF.own_next HPw.out (HB7.out.trans (b79.mono HB7.out.size))) (Nat.zero_le _)) (TF.own_lower (TF.own_next HL8.out b79) (Nat.zero_le _)))
                have HB79 := Aside0.mk b79
                have HP9 := Aside0.mk (And.intro hpe h9.size)
                clear oi op h8 h9 b79 hx9 hpe HM8 HT7 HX7 HE8 HL8 HIw HPw
                go_upto_region 33 with (fail)
                go_wp2_with (go_at_call 109; (with_reducible refine HL9.out.mono ?_))
                rintro e W10 ⟨rfl, h10⟩
                clear c0 c1 c2 c3 c4 c5 c6 c7 c8 c9 c10
                have b710 : Below W7.heap.size W7 W10 := HB79.out.trans (h10.mono HB79.out.size)
                have hN := HN8.out.next b710
                have c0 : W10.cell? ⟨gN, 0, none⟩ = some .nilIface := (hN.cell 0).trans rfl
                have f0 : W10.frozen? ⟨gN, 0, none⟩ = false := hN.frozen 0
                have c14 : W10.cell? ⟨gN, 14, none⟩ = some (.int .i64 0) := (hN.cell 14).trans rfl
                have f14 : W10.frozen? ⟨gN, 14, none⟩ = false := hN.frozen 14
                have e14 : (W10.setCell ⟨gN, 0, none⟩ err).cell? ⟨gN, 14, none⟩ = some (.int .i64 0) := (World.cell?_setCell_other _ ⟨gN, 0, none⟩ ⟨gN, 14, none⟩ _ (by simp)).trans c14
                have fe14 : (W10.setCell ⟨gN, 0, none⟩ err).frozen? ⟨gN, 14, none⟩ = false := by rw [World.frozen?_setCell]; exact f14
                have N11 := (hN.set_ 0 err).set_ 14 (.int .i64 long)
                have fr11 := ((Fr.refl (fun q => q = gN) W10).set (p := ⟨gN, 0, none⟩) (.inl rfl) err).set (p := ⟨gN, 14, none⟩) (.inl rfl) (.int .i64 long)
                have hse := fun (W : World) (a : Addr) => run_store Tryz.prog W a err .plain hone
                have hce := cells_one' hone
                unfold Value.cells at hce
                have HN11 := Aside0.mk (show Blk ((W10.setCell ⟨gN, 0, none⟩ err).setCell ⟨gN, 14, none⟩ (.int .i64 long)) gN 154 #[err, .int .u8 k, .bool nl, .string t, .int .i16 n, .int .i8 sm, .float .f64 re, .float .f64 im, .bool fl, .int .u32 mk, .slice A' its.length c', .slice B' ps.length d', .int .i64 sz, .int .i64 dp, .int .i64 long, .int .i64 wd] from N11)
                have HF11 := Aside0.mk fr11
                have HB710 := Aside0.mk b710
                have HB910 := Aside0.mk h10
                clear hN N11 fr11 b710 h10 HN8 HL9
                go_upto_region 34 with (fail)
                clear c0 f0 c14 f14 e14 fe14 hse hce
                have hU0 := HB710.out
                obtain ⟨U, hU⟩ : ∃ V, (W10.setCell ⟨gN, 0, none⟩ err).setCell ⟨gN, 14, none⟩ (.int .i64 long) = V := ⟨_, rfl⟩
                rw [hU] at HN11 HF11 ⊢
                have hfU : Fr (fun q => q = gN) W7 U := (Fr.of HB710.out).trans HF11.out (fun q hq => .inl hq)
                have bU : Below w.heap.size w U := HB7.out.trans (hfU.below (m := w.heap.size) HB7.out.size (fun q hq => by omega))
                have HBU := Aside0.mk bU
                have HFU := Aside0.mk hfU
                have HKU := Aside0.mk (HBkw.out.next bU)
                have cb : U.cell? ⟨b, 0, none⟩ = some v := (HBkw.out.next bU).cell
                have fb : U.frozen? ⟨b, 0, none⟩ = false := (HBkw.out.next bU).head.frozen 0
                have hN := HN11.out
                have c2 : U.cell? ⟨gN, 12, none⟩ = some (.int .i64 sz) := (hN.cell 12).trans rfl
                have c3 : U.cell? ⟨gN, 13, none⟩ = some (.int .i64 dp) := (hN.cell 13).trans rfl
                have c4 : U.cell? ⟨gN, 14, none⟩ = some (.int .i64 long) := (hN.cell 14).trans rfl
                have c5 : U.cell? ⟨gN, 15, none⟩ = some (.int .i64 wd) := (hN.cell 15).trans rfl
                obtain ⟨Av, cv, rfl⟩ := TF.own_slice HKU.out.rows
                have y1 : ¬ (4096 < sz) := by have := HQ.out.1; have := HZ.out.1; omega
                have y2 : ¬ (64 < dp) := by have := HQ.out.2.1; have := HZ.out.2; omega
                have y3 : ¬ (65536 < long) := by have := HL7'.out.2; omega
                have y4 : ¬ (1048576 < wd) := by have := HQ.out.2.2; have := HWD.out; omega
                have y5 : ¬ ((65536 : Int) ≤ (L.length : Int)) := by have := HF.out.len; omega
                clear hU hfU bU hN hU0
                go_upto_region 42 with (fail)
                clear c2 c3 c4 c5 y1 y2 y3 y4 y5
                obtain ⟨i0, hi0, hz⟩ := Option.map_eq_some_iff.1 infoRow
                simp only [Prod.mk.injEq] at hz
                obtain ⟨hz0, hz1, hz2⟩ := hz
                obtain ⟨z, hz3, hz4⟩ := Option.map_eq_some_iff.1 hz0
                have hinf : (Tryz.prog.info? 154).map (fun i => (i.zero, i.size, i.bytes)) = some (some z, 16, 152) := by rw [hi0, Option.map_some, hz3, hz1, hz2]
                have HINF := Aside0.mk (And.intro hinf hz4)
                have bd : Below U.heap.size U U.drew := (Below.refl _ U).drew
                have ba : Below U.heap.size U (U.alloc (.cells #[err, .int .u8 k, .bool nl, .string t, .int .i16 n, .int .i8 sm, .float .f64 re, .float .f64 im, .bool fl, .int .u32 mk, .slice A' its.length c', .slice B' ps.length d', .int .i64 sz, .int .i64 dp, .int .i64 long, .int .i64 wd] 154)).drew := ((Below.refl _ U).alloc (Nat.le_refl _) _).drew
                have nd := HN11.out.next bd
                have na := HN11.out.next ba
                have hd := HKU.out.head.next bd
                have ha := HKU.out.head.next ba
                have hC : U.drew.cell? ⟨gN, 0, none⟩ = some (err) ∧ U.drew.cell? ⟨gN, 1, none⟩ = some (.int .u8 k) ∧ U.drew.cell? ⟨gN, 2, none⟩ = some (.bool nl) ∧ U.drew.cell? ⟨gN, 3, none⟩ = some (.string t) ∧ U.drew.cell? ⟨gN, 4, none⟩ = some (.int .i16 n) ∧ U.drew.cell? ⟨gN, 5, none⟩ = some (.int .i8 sm) ∧ U.drew.cell? ⟨gN, 6, none⟩ = some (.float .f64 re) ∧ U.drew.cell? ⟨gN, 7, none⟩ = some (.float .f64 im) ∧ U.drew.cell? ⟨gN, 8, none⟩ = some (.bool fl) ∧ U.drew.cell? ⟨gN, 9, none⟩ = some (.int .u32 mk) ∧ U.drew.cell? ⟨gN, 10, none⟩ = some (.slice A' its.length c') ∧ U.drew.cell? ⟨gN, 11, none⟩ = some (.slice B' ps.length d') ∧ U.drew.cell? ⟨gN, 12, none⟩ = some (.int .i64 sz) ∧ U.drew.cell? ⟨gN, 13, none⟩ = some (.int .i64 dp) ∧ U.drew.cell? ⟨gN, 14, none⟩ = some (.int .i64 long) ∧ U.drew.cell? ⟨gN, 15, none⟩ = some (.int .i64 wd) ∧ U.drew.cell? ⟨b, 0, none⟩ = some (.slice Av L.length cv) := ⟨(nd.cell 0).trans rfl, (nd.cell 1).trans rfl, (nd.cell 2).trans rfl, (nd.cell 3).trans rfl, (nd.cell 4).trans rfl, (nd.cell 5).trans rfl, (nd.cell 6).trans rfl, (nd.cell 7).trans rfl, (nd.cell 8).trans rfl, (nd.cell 9).trans rfl, (nd.cell 10).trans rfl, (nd.cell 11).trans rfl, (nd.cell 12).trans rfl, (nd.cell 13).trans rfl, (nd.cell 14).trans rfl, (nd.cell 15).trans rfl, (hd.cell 0).trans rfl⟩
                have hA : (U.alloc (.cells #[err, .int .u8 k, .bool nl, .string t, .int .i16 n, .int .i8 sm, .float .f64 re, .float .f64 im, .bool fl, .int .u32 mk, .slice A' its.length c', .slice B' ps.length d', .int .i64 sz, .int .i64 dp, .int .i64 long, .int .i64 wd] 154)).drew.cell? ⟨gN, 0, none⟩ = some (err) ∧ (U.alloc (.cells #[err, .int .u8 k, .bool nl, .string t, .int .i16 n, .int .i8 sm, .float .f64 re, .float .f64 im, .bool fl, .int .u32 mk, .slice A' its.length c', .slice B' ps.length d', .int .i64 sz, .int .i64 dp, .int .i64 long, .int .i64 wd] 154)).drew.cell? ⟨gN, 1, none⟩ = some (.int .u8 k) ∧ (U.alloc (.cells #[err, .int .u8 k, .bool nl, .string t, .int .i16 n, .int .i8 sm, .float .f64 re, .float .f64 im, .bool fl, .int .u32 mk, .slice A' its.length c', .slice B' ps.length d', .int .i64 sz, .int .i64 dp, .int .i64 long, .int .i64 wd] 154)).drew.cell? ⟨gN, 2, none⟩ = some (.bool nl) ∧ (U.alloc (.cells #[err, .int .u8 k, .bool nl, .string t, .int .i16 n, .int .i8 sm, .float .f64 re, .float .f64 im, .bool fl, .int .u32 mk, .slice A' its.length c', .slice B' ps.length d', .int .i64 sz, .int .i64 dp, .int .i64 long, .int .i64 wd] 154)).drew.cell? ⟨gN, 3, none⟩ = some (.string t) ∧ (U.alloc (.cells #[err, .int .u8 k, .bool nl, .string t, .int .i16 n, .int .i8 sm, .float .f64 re, .float .f64 im, .bool fl, .int .u32 mk, .slice A' its.length c', .slice B' ps.length d', .int .i64 sz, .int .i64 dp, .int .i64 long, .int .i64 wd] 154)).drew.cell? ⟨gN, 4, none⟩ = some (.int .i16 n) ∧ (U.alloc (.cells #[err, .int .u8 k, .bool nl, .string t, .int .i16 n, .int .i8 sm, .float .f64 re, .float .f64 im, .bool fl, .int .u32 mk, .slice A' its.length c', .slice B' ps.length d', .int .i64 sz, .int .i64 dp, .int .i64 long, .int .i64 wd] 154)).drew.cell? ⟨gN, 5, none⟩ = some (.int .i8 sm) ∧ (U.alloc (.cells #[err, .int .u8 k, .bool nl, .string t, .int .i16 n, .int .i8 sm, .float .f64 re, .float .f64 im, .bool fl, .int .u32 mk, .slice A' its.length c', .slice B' ps.length d', .int .i64 sz, .int .i64 dp, .int .i64 long, .int .i64 wd] 154)).drew.cell? ⟨gN, 6, none⟩ = some (.float .f64 re) ∧ (U.alloc (.cells #[err, .int .u8 k, .bool nl, .string t, .int .i16 n, .int .i8 sm, .float .f64 re, .float .f64 im, .bool fl, .int .u32 mk, .slice A' its.length c', .slice B' ps.length d', .int .i64 sz, .int .i64 dp, .int .i64 long, .int .i64 wd] 154)).drew.cell? ⟨gN, 7, none⟩ = some (.float .f64 im) ∧ (U.alloc (.cells #[err, .int .u8 k, .bool nl, .string t, .int .i16 n, .int .i8 sm, .float .f64 re, .float .f64 im, .bool fl, .int .u32 mk, .slice A' its.length c', .slice B' ps.length d', .int .i64 sz, .int .i64 dp, .int .i64 long, .int .i64 wd] 154)).drew.cell? ⟨gN, 8, none⟩ = some (.bool fl) ∧ (U.alloc (.cells #[err, .int .u8 k, .bool nl, .string t, .int .i16 n, .int .i8 sm, .float .f64 re, .float .f64 im, .bool fl, .int .u32 mk, .slice A' its.length c', .slice B' ps.length d', .int .i64 sz, .int .i64 dp, .int .i64 long, .int .i64 wd] 154)).drew.cell? ⟨gN, 9, none⟩ = some (.int .u32 mk) ∧ (U.alloc (.cells #[err, .int .u8 k, .bool nl, .string t, .int .i16 n, .int .i8 sm, .float .f64 re, .float .f64 im, .bool fl, .int .u32 mk, .slice A' its.length c', .slice B' ps.length d', .int .i64 sz, .int .i64 dp, .int .i64 long, .int .i64 wd] 154)).drew.cell? ⟨gN, 10, none⟩ = some (.slice A' its.length c') ∧ (U.alloc (.cells #[err, .int .u8 k, .bool nl, .string t, .int .i16 n, .int .i8 sm, .float .f64 re, .float .f64 im, .bool fl, .int .u32 mk, .slice A' its.length c', .slice B' ps.length d', .int .i64 sz, .int .i64 dp, .int .i64 long, .int .i64 wd] 154)).drew.cell? ⟨gN, 11, none⟩ = some (.slice B' ps.length d') ∧ (U.alloc (.cells #[err, .int .u8 k, .bool nl, .string t, .int .i16 n, .int .i8 sm, .float .f64 re, .float .f64 im, .bool fl, .int .u32 mk, .slice A' its.length c', .slice B' ps.length d', .int .i64 sz, .int .i64 dp, .int .i64 long, .int .i64 wd] 154)).drew.cell? ⟨gN, 12, none⟩ = some (.int .i64 sz) ∧ (U.alloc (.cells #[err, .int .u8 k, .bool nl, .string t, .int .i16 n, .int .i8 sm, .float .f64 re, .float .f64 im, .bool fl, .int .u32 mk, .slice A' its.length c', .slice B' ps.length d', .int .i64 sz, .int .i64 dp, .int .i64 long, .int .i64 wd] 154)).drew.cell? ⟨gN, 13, none⟩ = some (.int .i64 dp) ∧ (U.alloc (.cells #[err, .int .u8 k, .bool nl, .string t, .int .i16 n, .int .i8 sm, .float .f64 re, .float .f64 im, .bool fl, .int .u32 mk, .slice A' its.length c', .slice B' ps.length d', .int .i64 sz, .int .i64 dp, .int .i64 long, .int .i64 wd] 154)).drew.cell? ⟨gN, 14, none⟩ = some (.int .i64 long) ∧ (U.alloc (.cells #[err, .int .u8 k, .bool nl, .string t, .int .i16 n, .int .i8 sm, .float .f64 re, .float .f64 im, .bool fl, .int .u32 mk, .slice A' its.length c', .slice B' ps.length d', .int .i64 sz, .int .i64 dp, .int .i64 long, .int .i64 wd] 154)).drew.cell? ⟨gN, 15, none⟩ = some (.int .i64 wd) ∧ (U.alloc (.cells #[err, .int .u8 k, .bool nl, .string t, .int .i16 n, .int .i8 sm, .float .f64 re, .float .f64 im, .bool fl, .int .u32 mk, .slice A' its.length c', .slice B' ps.length d', .int .i64 sz, .int .i64 dp, .int .i64 long, .int .i64 wd] 154)).drew.cell? ⟨b, 0, none⟩ = some (.slice Av L.length cv) := ⟨(na.cell 0).trans rfl, (na.cell 1).trans rfl, (na.cell 2).trans rfl, (na.cell 3).trans rfl, (na.cell 4).trans rfl, (na.cell 5).trans rfl, (na.cell 6).trans rfl, (na.cell 7).trans rfl, (na.cell 8).trans rfl, (na.cell 9).trans rfl, (na.cell 10).trans rfl, (na.cell 11).trans rfl, (na.cell 12).trans rfl, (na.cell 13).trans rfl, (na.cell 14).trans rfl, (na.cell 15).trans rfl, (ha.cell 0).trans rfl⟩
                obtain ⟨c0, c1, c2, c3, c4, c5, c6, c7, c8, c9, c10, c11, c12, c13, c14, c15, c16⟩ := hC
                obtain ⟨a0, a1, a2, a3, a4, a5, a6, a7, a8, a9, a10, a11, a12, a13, a14, a15, a16⟩ := hA
                have hone1 : ∀ u ∈ [err, .int .u8 k, .bool nl, .string t, .int .i16 n, .int .i8 sm, .float .f64 re, .float .f64 im, .bool fl, .int .u32 mk, .slice A' its.length c', .slice B' ps.length d', .int .i64 sz, .int .i64 dp, .int .i64 long, .int .i64 wd], u.oneCell' = true := by
                  intro u hu
                  simp only [List.mem_cons, List.not_mem_nil, or_false] at hu
                  rcases hu with rfl | rfl | rfl | rfl | rfl | rfl | rfl | rfl | rfl | rfl | rfl | rfl | rfl | rfl | rfl | rfl <;> first | exact hone | rfl
                have HON := Aside0.mk hone1
                have OD := Aside0.mk (TF.own_next HKU.out.rows bd)
                have hbv : ∀ q, (Value.slice Av L.length cv).ownBlock = some q → q ≠ b ∧ q ≠ gN := fun q hq => ⟨fun he => by subst he; exact TF.own_blk_ne HKU.out.rows HKU.out.head (by decide) hq, fun he => by have := HL0.out q hq; omega⟩
                have HBV := Aside0.mk hbv
                have HRO := Aside0.mk (show RowD.own ⟨err, k, nl, t, n, sm, re, im, fl, mk, A', c', B', d', its, ps, sz, dp, long, wd⟩ U from ⟨TF.own_lower (TF.own_fr HA7.out HFU.out (fun q hq hs => by subst hs; exact TF.own_blk_ne HA7.out HNt.out (by decide) hq)) (Nat.zero_le _), TF.own_lower (TF.own_fr HB7'.out HFU.out (fun q hq hs => by subst hs; exact TF.own_blk_ne HB7'.out HNt.out (by decide) hq)) (Nat.zero_le _)⟩)
                clear hi0 hz0 hz1 hz2 hz3 hz4 hinf bd ba nd na hd ha hone1 hbv cb fb
                go_region_law (first | (refine step_append_cells (w0 := U.drew) (W := U.drew) 0 (by rfl) (.tmp 172) (.tmp 174) 98 154 z 16 152 (by rfl) Tryz.underlying98 HINF.out.1 HINF.out.2 (by decide) (by decide) (.slice Av L.length cv) L.length (L.flatMap RowD.cells) [err, .int .u8 k, .bool nl, .string t, .int .i16 n, .int .i8 sm, .float .f64 re, .float .f64 im, .bool fl, .int .u32 mk, .slice A' its.length c', .slice B' ps.length d', .int .i64 sz, .int .i64 dp, .int .i64 long, .int .i64 wd] (by rfl) (by rfl) rfl HON.out OD.out (Below.refl _ _) (Nat.zero_le _) (by have := HF.out.len; omega) ?_; intro v1 w1 ho1 hb1 hg1 hat1; obtain ⟨A1, c1', rfl⟩ := TF.own_slice ho1; have fr1 := ((Fr.refl (fun q => (Value.slice Av L.length cv).ownBlock = some q) U).drew).grown hg1 (fun q hq => .inl hq); have n1 := HN11.out.fr fr1 (fun he => (HBV.out _ he).2 rfl); have b1 := HKU.out.head.fr fr1 (fun he => (HBV.out _ he).1 rfl); have kb : w1.cell? ⟨b, 0, none⟩ = some (.slice Av L.length cv) := b1.cell 0; have fk := b1.frozen 0; have B1 := Aside0.mk b1; have N1 := Aside0.mk n1; clear b1 n1))
                all_goals (
                  have hfin := book_grown (r := ⟨err, k, nl, t, n, sm, re, im, fl, mk, A', c', B', d', its, ps, sz, dp, long, wd⟩) HKU.out HRO.out ho1 hg1 hat1
                  have cf : (w1.setCell ⟨b, 0, none⟩ (.slice A1 (L.length + 1) c1')).cell? ⟨b, 0, none⟩ = some (.slice A1 (L.length + 1) c1') := hfin.1.cell
                  have HFin := Aside0.mk (And.intro hfin hat1)
                  clear hfin ho1 hg1 hat1 hb1 kb fk c0 c1 c2 c3 c4 c5 c6 c7 c8 c9 c10 c11 c12 c13 c14 c15 c16 a0 a1 a2 a3 a4 a5 a6 a7 a8 a9 a10 a11 a12 a13 a14 a15 a16
                  go_wp2_with (fail)
                  have hsz1 : w.heap.size ≤ W8.heap.size := by have := HB7.out.size; omega
                  have hlt : ∀ q, (Value.slice Av L.length cv).ownBlock = some q → q < W8.heap.size := fun q hq => by have := HL0.out q hq; omega
                  have hf9 : Fr (fun q => q < W8.heap.size) W9 (w1.setCell ⟨b, 0, none⟩ (.slice A1 (L.length + 1) c1')) := ((Fr.of HB910.out).trans HF11.out (fun q hq => by subst hq; exact .inl (by omega))).trans HFin.out.1.2 (fun q hq => by
                    rcases hq with rfl | hq
                    · exact .inl (by omega)
                    · exact .inl (hlt q hq))
                  go_ret2
                  refine ⟨.slice A1 (L.length + 1) c1', err, A', c', B', d', ?_, ⟨W8, hsz1, hst err W8 W9 _ HP9.out.1 hf9⟩, ?_, hone, (Fr.of HBU.out).trans HFin.out.1.2 (fun q hq => .inl hq), ?_⟩
                  · kernel_rfl
                  · rw [HWD.out, HQ.out.1, HQ.out.2.1, HQ.out.2.2]
                    exact HFin.out.1.1
                  · rcases HFin.out.2 with h1 | ⟨q, h1, h2⟩
                    · exact .inl h1
                    · exact .inr ⟨q, h1, Nat.le_trans HBU.out.size h2⟩)
end Go.Proofs.YtlggimmfaflfnaaGreatDoor.TK
