/- MarkParts ShelfB Word -/
import Derived.Test.YtlggimmfaflfnaaGreatDoorM11
import Derived.Deep.RegionHeld3
import Derived.BigQuiet
import Derived.Shelf.Strings.Builder1
import Derived.Shelf.Strings.Builder2
import Derived.Shelf.Strings.OnBuilder
import Derived.Shelf.Small.Utf8
import Derived.Shelf.Small.Bits
import Derived.Shelf.Small.Strs
import Derived.Shelf.Small.Wraps
import Derived.Shelf.Strings.BuilderF
import Derived.Shelf.Strings.BuilderK
import Derived.Shelf.Strings.Builder2Cap
import Derived.Shelf.Strconv.Itoa0
import Derived.Shelf.Strconv.Itoa1
import Derived.Shelf.LaysM
import Derived.Shelf.Strconv.Itoa2
import Derived.Shelf.Strconv.Itoa3
import Derived.Shelf.Strings.Search1
import Derived.Shelf.Strings.Search2
import Derived.Shelf.Strings.Search3
import Derived.Shelf.Strings.Shaped
import Derived.Shelf.Strings.Prefix
import Derived.Shelf.Strings.Fields
import Derived.Shelf.Strings.SplitShaped
import Derived.Shelf.Unicode.Latin
import Derived.Shelf.Strings.Runes
import Derived.Shelf.Strings.IndexAny
import Derived.Shelf.Strings.AsciiSet
import Derived.Shelf.Strings.IndexAnyAll
import Derived.Shelf.Bits.Mul64
import Derived.Shelf.Unicode.Is16White
import Derived.Shelf.Unicode.IsSpaceAny
import Derived.Shelf.Unicode.Is16WhiteD
import Derived.Shelf.Unicode.IsSpaceAnyD
import Derived.Shelf.Strings.FieldsAny
import Derived.Shelf.Strings.FieldsFuncAny
import Derived.Shelf.Unicode.Is16Any
import Derived.Shelf.Unicode.Is32Any
import Derived.Shelf.Unicode.ExclAny
import Derived.Shelf.Strings.BuilderCap
import Derived.Ground.Names2Prog
import Derived.Shelf.Slices.Clone
import Derived.Ground.SlgnProg
import Derived.Shelf.SlicesE.Clone
import Derived.Test.YtlggimmfaflfnaaGreatDoorProg
import Derived.Test.YtlggimmfaflfnaaGreatDoorM3
import Derived.Test.YtlggimmfaflfnaaGreatDoorM1
import Derived.Handy
import Derived.Lib.SmallJoins
section
/- mark.parts of a record. -/
set_option linter.unusedVariables false
set_option linter.unusedSimpArgs false
namespace Go.Proofs.YtlggimmfaflfnaaGreatDoor.MK
open Go.RowKit Go.Proofs.YtlggimmfaflfnaaGreatDoorW.PrintWords Go.Proofs.YtlggimmfaflfnaaGreatDoorW.PrintMore Go.Proofs.YtlggimmfaflfnaaGreatDoor.TF Go.Proofs.YtlggimmfaflfnaaGreatDoor.TK Go.Proofs.YtlggimmfaflfnaaGreatDoor.TW Go.Proofs.YtlggimmfaflfnaaGreatDoor.IX

/-- what DeleteFunc strikes: nothing -/
theorem delete_none (base c : Nat) (A : Option Addr) (ps : List Int) (a1 a2 : Addr) (w : World) (hA : w.ownsRow base 3 1 (.slice A ps.length c) ps.length (ps.map (Value.int .i64))) (hl : ps.length ≤ 1048576)
    (hf : ∀ x ∈ ps, Calls Tryz.prog 131 #[.int .i64 x, .pointer (some a1), .pointer (some a2)] w fun e w' => e = .returned (.bool false) ∧ w' = w) :
    Calls Tryz.prog 130 #[.slice A ps.length c, .func (.func 131) #[] #[.pointer (some a1), .pointer (some a2)]] w fun e w' => e = .returned (.slice A ps.length c) ∧ w' = w := by
  have HI := parts_index base c A ps (fun _ => false) a1 a2 w hA hl hf
  rw [idxL_none _ _ _ (fun _ _ => rfl)] at HI
  have HI := Aside0.mk HI
  clear hA hf
  obtain ⟨n, hn⟩ : ∃ n, ps.length = n := ⟨_, rfl⟩
  rw [hn] at HI ⊢
  clear hn hl
  go_enter Tryz.func130, Tryz.ntmps130
  go_wp2_with (go_at_call 158; (with_reducible refine HI.out.mono ?_); rintro e w' ⟨rfl, rfl⟩)
  go_ret
  exact ⟨rfl, rfl⟩
/-- a part of a Code or a Wrap that is an error stays -/
theorem part_stays (x k : Int) (hx : 1 ≤ x) (hk : k = 1 ∨ k = 14) (a : Nat) (a2 : Addr) (w : World) (hc : w.cell? ⟨a, 0, none⟩ = some (.int .u8 k)) :
    Calls Tryz.prog 131 #[.int .i64 x, .pointer (some ⟨a, 0, none⟩), .pointer (some a2)] w fun e w' => e = .returned (.bool false) ∧ w' = w := by
  have h0 : (x == 0) = false := by simp; omega
  rcases hk with rfl | rfl
  all_goals
    go_enter Tryz.func131, Tryz.ntmps131
    go_wp2
    go_ret
    exact ⟨rfl, rfl⟩
set_option maxHeartbeats 4000000 in
set_option maxRecDepth 100000 in
theorem parts_rec (b g c : Nat) (L : List RowD) (j : Nat) (r : RowD) (w : World) (h : Bk b (.slice (some ⟨g, 0, none⟩) L.length c) L w) (hj : L[j]? = some r) (hl : L.length ≤ 65536) (h1 : r.its.length ≤ 65536) (h2 : r.ps.length ≤ 65536)
    (hk : r.k = 1 ∨ r.k = 14) (hp : ∀ p ∈ r.ps, 1 ≤ p) :
    Calls Tryz.prog 77 #[.pointer (some ⟨b, 0, none⟩), .int .i64 ((j : Int) + 1)] w fun e w' => ∃ B' d', e = .returned (.slice B' r.ps.length d') ∧
      w'.ownsRow w.heap.size 3 1 (.slice B' r.ps.length d') r.ps.length (encs (Value.int .i64) r.ps) ∧ Below w.heap.size w w' := by
  obtain ⟨W0, hW0⟩ : ∃ W0, w.alloc (.cells #[.pointer (some ⟨b, 0, none⟩)] 49) = W0 := ⟨_, rfl⟩
  have hx := Blk.new w 49 #[.pointer (some ⟨b, 0, none⟩)]
  have b0 := (Below.refl w.heap.size w).alloc (Nat.le_refl _) (.cells #[.pointer (some ⟨b, 0, none⟩)] 49)
  rw [hW0] at hx b0
  have x0 : W0.cell? ⟨w.heap.size, 0, none⟩ = some (.pointer (some ⟨b, 0, none⟩)) := (hx.cell 0).trans rfl
  have hs0 : W0.heap.size = w.heap.size + 1 := by rw [← hW0, World.size_alloc]
  have HS := Aside0.mk (spec_ok b g c L j r W0 (h.next b0) hj hl h1 h2)
  have HB0 := Aside0.mk b0
  have HX := Aside0.mk hx
  unfold spec at HS
  clear h b0 hx
  go_enter Tryz.func77, Tryz.ntmps77
  go_upto_region 1 with (fail)
  clear hW0
  go_wp2_with (go_at_call 66; (with_reducible refine HS.out.mono ?_))
  rintro e w1 ⟨A', c', B', d', rfl, ho9, ho10, hB1⟩
  obtain ⟨R, hR⟩ : ∃ R : Array Value, #[.int .u8 r.k, .bool r.nl, .string r.t, .int .i16 r.n, .int .i8 r.sm, .float .f64 r.re, .float .f64 r.im, .bool r.fl, .int .u32 r.mask, .slice A' r.its.length c', .slice B' r.ps.length d'] = R := ⟨_, rfl⟩
  have hls : R.size = 11 := by rw [← hR]; rfl
  obtain ⟨a, ha⟩ : ∃ a, w1.heap.size = a := ⟨_, rfl⟩
  have hn := Blk.new w1 37 #[.int .u8 0, .bool false, .string ⟨#[]⟩, .int .i16 0, .int .i8 0, .float .f64 0, .float .f64 0, .bool false, .int .u32 0, .slice none 0 0, .slice none 0 0]
  have hb1 : Below w.heap.size w (w1.alloc (.cells #[.int .u8 0, .bool false, .string ⟨#[]⟩, .int .i16 0, .int .i8 0, .float .f64 0, .float .f64 0, .bool false, .int .u32 0, .slice none 0 0, .slice none 0 0] 37)) := (HB0.out.trans (hB1.mono (by omega))).alloc (by have := hB1.size; omega) _
  have hq := ho10.alloc (.cells #[.int .u8 0, .bool false, .string ⟨#[]⟩, .int .i16 0, .int .i8 0, .float .f64 0, .float .f64 0, .bool false, .int .u32 0, .slice none 0 0, .slice none 0 0] 37)
  rw [ha] at hn
  have hst : Sem.run Tryz.prog (storeCells ⟨a, 0, none⟩ R.toList 0) (w1.alloc (.cells #[.int .u8 0, .bool false, .string ⟨#[]⟩, .int .i16 0, .int .i8 0, .float .f64 0, .float .f64 0, .bool false, .int .u32 0, .slice none 0 0, .slice none 0 0] 37)) = .ok () ((w1.alloc (.cells #[.int .u8 0, .bool false, .string ⟨#[]⟩, .int .i16 0, .int .i8 0, .float .f64 0, .float .f64 0, .bool false, .int .u32 0, .slice none 0 0, .slice none 0 0] 37)).setRow a R) := run_storeCells_from a 37 R.toList 0 _ _ hn (by simp [hls]) (fun v hv => by rw [← hR] at hv; revert v; simp [Value.oneCell'])
  have hg2 : Blk ((w1.alloc (.cells #[.int .u8 0, .bool false, .string ⟨#[]⟩, .int .i16 0, .int .i8 0, .float .f64 0, .float .f64 0, .bool false, .int .u32 0, .slice none 0 0, .slice none 0 0] 37)).setRow a R) a 37 R := setRow_heap _ a _ R 37 (0, 0) hn
  have hwa : w.heap.size + 1 ≤ a := by rw [← ha, ← hs0]; exact hB1.size
  have bb : Below w.heap.size w ((w1.alloc (.cells #[.int .u8 0, .bool false, .string ⟨#[]⟩, .int .i16 0, .int .i8 0, .float .f64 0, .float .f64 0, .bool false, .int .u32 0, .slice none 0 0, .slice none 0 0] 37)).setRow a R) := hb1.trans ⟨rfl, rfl, rfl, by rw [setRow_size]; exact Nat.le_refl _, fun i hi => setRow_other _ _ _ _ (by omega)⟩
  have hqV : ((w1.alloc (.cells #[.int .u8 0, .bool false, .string ⟨#[]⟩, .int .i16 0, .int .i8 0, .float .f64 0, .float .f64 0, .bool false, .int .u32 0, .slice none 0 0, .slice none 0 0] 37)).setRow a R).ownsRow W0.heap.size 3 1 (.slice B' r.ps.length d') r.ps.length (encs (Value.int .i64) r.ps) := by
    refine own_fr (S := fun k => k = a) hq ⟨rfl, rfl, rfl, by rw [setRow_size]; exact Nat.le_refl _, fun i _ hi => setRow_other _ _ _ _ hi⟩ (fun k hk e => ?_)
    subst e
    exact own_blk_ne hq hn (by decide) hk
  obtain ⟨V, hV⟩ : ∃ V, (w1.alloc (.cells #[.int .u8 0, .bool false, .string ⟨#[]⟩, .int .i16 0, .int .i8 0, .float .f64 0, .float .f64 0, .bool false, .int .u32 0, .slice none 0 0, .slice none 0 0] 37)).setRow a R = V := ⟨_, rfl⟩
  rw [hV] at hg2 bb hst hqV
  have hnR := hg2
  rw [← hR] at hnR
  have HB := Aside0.mk bb
  have HQ := Aside0.mk (own_lower hqV (show w.heap.size ≤ W0.heap.size by omega))
  have HR := Aside0.mk hR
  have c0 : V.cell? ⟨a, 0, none⟩ = some (.int .u8 r.k) := (hnR.cell 0).trans rfl
  have c10 : V.cell? ⟨a, 10, none⟩ = some (.slice B' r.ps.length d') := (hnR.cell 10).trans rfl
  have k1 : (r.k == 16) = false := by rcases hk with h | h <;> rw [h] <;> rfl
  have k2 : (r.k == 26) = false := by rcases hk with h | h <;> rw [h] <;> rfl
  have HD := Aside0.mk (delete_none W0.heap.size d' B' r.ps ⟨a, 0, none⟩ ⟨w.heap.size, 0, none⟩ V hqV (by omega) (fun x hx => part_stays x r.k (hp x hx) hk a _ V c0))
  have hmf : ∀ (fn : Fn) (first cap : Array Value) (w : World), (Instr.makeFunc fn first cap).run Tryz.prog w = .ok (.func fn first cap) w := fun _ _ _ _ => rfl
  clear hn hb1 hq hg2 bb hqV hV HS hwa ho9 ho10 hB1 hnR hk hp h1 h2 hj hl hs0
  go_upto_region 2 with (fail)
  clear hst hls ha x0
  go_wp2_with (go_at_call 130; (with_reducible refine HD.out.mono ?_); rintro e w' ⟨rfl, rfl⟩)
  go_ret
  exact ⟨B', d', rfl, HQ.out, HB.out⟩
end Go.Proofs.YtlggimmfaflfnaaGreatDoor.MK
end
section
/-
  DERIVED: THE SHELF's CONTRACTS AT THIS DUMP, IN PLAIN WORDS (tools/lay-plain.mjs out of 'TryzShelfB.lean', which tools/lay-shelf.mjs wrote): THE SAME DECLARATIONS UNDER THE SAME NAMES: 'import', 'namespace', 'open', 'def', 'theorem' AND NOTHING ELSE: no command of the shelf's: FOR A HAND-IN. Each laying: the table of numbers ('.._ren') and one theorem, a field a fact of the dump's own or the kernel's comparison; each contract: ONE APPLICATION.
-/
namespace Go.Proofs
open Go.Shelf
def Tryz.lays165_ren : Go.Shelf.Ren := ⟨fun | 165 => 238 | 240 => 165 | 241 => 271 | 276 => 198 | 277 => 313 | n => n, fun | 70 => 167 | 3 => 3 | 0 => 0 | 4 => 4 | 9 => 9 | 20 => 20 | 72 => 169 | 37 => 72 | 164 => 353 | 5 => 5 | n => n, fun | n => n⟩
def Tryz.lays156_ren : Go.Shelf.Ren := ⟨fun | 156 => 218 | 165 => 238 | 166 => 134 | 169 => 81 | 240 => 165 | 241 => 271 | 276 => 198 | 277 => 313 | n => n, fun | 31 => 34 | 9 => 9 | 3 => 3 | 4 => 4 | 0 => 0 | 20 => 20 | 72 => 169 | 76 => 294 | 70 => 167 | 37 => 72 | 75 => 113 | 127 => 296 | 164 => 353 | 5 => 5 | 80 => 157 | n => n, fun | n => n⟩
theorem Tryz.lays156 : Go.Proofs.Lays.n156 Tryz.prog Tryz.lays156_ren := {
  mixed := by kernel_rfl
  f156 := Tryz.func218.trans (congrArg some (by kernel_rfl))
  f165 := Tryz.func238.trans (congrArg some (by kernel_rfl))
  f166 := Tryz.func134.trans (congrArg some (by kernel_rfl))
  f169 := Tryz.func81.trans (congrArg some (by kernel_rfl))
  f240 := Tryz.func165.trans (congrArg some (by kernel_rfl))
  f241 := Tryz.func271.trans (congrArg some (by kernel_rfl))
  f276 := Tryz.func198.trans (congrArg some (by kernel_rfl))
  f277 := Tryz.func313.trans (congrArg some (by kernel_rfl))
  t0 := Tryz.underlying0
  a0 := Tryz.isAgg0
  z0 := Tryz.sizeOf0
  v0 := Tryz.zeroValue0
  t3 := Tryz.underlying3
  a3 := Tryz.isAgg3
  z3 := Tryz.sizeOf3
  v3 := Tryz.zeroValue3
  t4 := Tryz.underlying4
  a4 := Tryz.isAgg4
  z4 := Tryz.sizeOf4
  v4 := Tryz.zeroValue4
  t9 := Tryz.underlying9
  a9 := Tryz.isAgg9
  z9 := Tryz.sizeOf9
  v9 := Tryz.zeroValue9
  t20 := Tryz.underlying20
  a20 := Tryz.isAgg20
  z20 := Tryz.sizeOf20
  v20 := Tryz.zeroValue20
  t31 := Tryz.underlying34
  a31 := Tryz.isAgg34
  z31 := Tryz.sizeOf34
  v31 := Tryz.zeroValue34
  t37 := Tryz.underlying72
  a37 := Tryz.isAgg72
  z37 := Tryz.sizeOf72
  v37 := Tryz.zeroValue72
  t70 := Tryz.underlying167
  a70 := Tryz.isAgg167
  z70 := Tryz.sizeOf167
  v70 := Tryz.zeroValue167
  t72 := Tryz.underlying169
  a72 := Tryz.isAgg169
  z72 := Tryz.sizeOf169
  v72 := Tryz.zeroValue169
  t75 := Tryz.underlying113
  a75 := Tryz.isAgg113
  z75 := Tryz.sizeOf113
  v75 := Tryz.zeroValue113
  t76 := Tryz.underlying294
  a76 := Tryz.isAgg294
  z76 := Tryz.sizeOf294
  v76 := Tryz.zeroValue294
  t127 := Tryz.underlying296
  a127 := Tryz.isAgg296
  z127 := Tryz.sizeOf296
  v127 := Tryz.zeroValue296
  t164 := Tryz.underlying353
  a164 := Tryz.isAgg353
  z164 := Tryz.sizeOf353
  v164 := Tryz.zeroValue353 }
theorem Tryz.Builder_Extra_156 : Builder.Extra Tryz.prog Tryz.lays156_ren := {
  sizeBuilder := by kernel_rfl
  liesBuilder := by kernel_rfl
  t5 := Tryz.underlying5
  a5 := Tryz.isAgg5
  z5 := Tryz.sizeOf5
  v5 := Tryz.zeroValue5
  infoByte := by kernel_rfl
  cellsByte := by kernel_rfl
  sizeByte := by kernel_rfl
  neB5 := by decide }
open Go.RowKit in
/-- No element: the empty string; the world is as it was. (Whatever the slice's address and capacity: a nil slice too.) (LAID: no walk: one application.) -/
theorem Tryz.strings_Join_none (a : Option Addr) (c : Nat) (sep : ByteArray) (w : World) :
    Calls Tryz.prog 218 #[.slice a 0 c, .string sep] w fun e w' => e = .returned (.string ⟨#[]⟩) ∧ w' = w := Any.strings_Join_none Tryz.lays156 Tryz.Builder_Extra_156 a c sep w
open Go.RowKit in
/-- strings.Join: "Join concatenates the elements of its first argument to create a single string. The separator string sep is placed between elements in the resulting string.": HOWEVER MANY ELEMENTS. Below the heap's end the world is as it was. (LAID: no walk: one application.) -/
theorem Tryz.strings_Join (bk o c : Nat) (xs : List ByteArray) (sep : ByteArray) (w : World) (hcells : ∀ (j : Nat) x, xs[j]? = some x → w.cell? ⟨bk, o + j, none⟩ = some (.string x)) (hbk : bk < w.heap.size) (hN : xs.length ≤ 140737488355328) (hcap : xs.length ≤ c) (hlen : (Lib.join (xs.map (·.data.toList)) sep.data.toList).length ≤ 140737488355328) :
    Calls Tryz.prog 218 #[.slice (some ⟨bk, o, none⟩) xs.length c, .string sep] w fun e w' => e = .returned (.string ⟨(Lib.join (xs.map (·.data.toList)) sep.data.toList).toArray⟩) ∧ Below w.heap.size w w' := Any.strings_Join Tryz.lays156 Tryz.Builder_Extra_156 bk o c xs sep w hcells hbk hN hcap hlen
def Tryz.lays171_ren : Go.Shelf.Ren := ⟨fun | 171 => 154 | 243 => 181 | 246 => 213 | 283 => 226 | 284 => 227 | 285 => 228 | 286 => 229 | 129 => 252 | 317 => 251 | 318 => 253 | 319 => 254 | 320 => 255 | 337 => 290 | 338 => 291 | n => n, fun | 3 => 3 | 9 => 9 | 2 => 2 | 4 => 4 | 171 => 405 | 0 => 0 | 53 => 94 | 37 => 72 | 5 => 5 | 173 => 408 | 212 => 434 | 51 => 30 | 20 => 20 | 213 => 435 | 46 => 166 | 232 => 440 | 233 => 510 | n => n, fun | 17 => 4 | 18 => 7 | 19 => 8 | n => n⟩
theorem Tryz.lays171 : Go.Proofs.Lays.n171 Tryz.prog Tryz.lays171_ren := {
  mixed := by kernel_rfl
  f129 := Tryz.func252.trans (congrArg some (by kernel_rfl))
  f171 := Tryz.func154.trans (congrArg some (by kernel_rfl))
  f243 := Tryz.func181.trans (congrArg some (by kernel_rfl))
  f246 := Tryz.func213.trans (congrArg some (by kernel_rfl))
  f283 := Tryz.func226.trans (congrArg some (by kernel_rfl))
  f284 := Tryz.func227.trans (congrArg some (by kernel_rfl))
  f285 := Tryz.func228.trans (congrArg some (by kernel_rfl))
  f286 := Tryz.func229.trans (congrArg some (by kernel_rfl))
  f317 := Tryz.func251.trans (congrArg some (by kernel_rfl))
  f318 := Tryz.func253.trans (congrArg some (by kernel_rfl))
  f319 := Tryz.func254.trans (congrArg some (by kernel_rfl))
  f320 := Tryz.func255.trans (congrArg some (by kernel_rfl))
  f337 := Tryz.func290.trans (congrArg some (by kernel_rfl))
  f338 := Tryz.func291.trans (congrArg some (by kernel_rfl))
  t0 := Tryz.underlying0
  a0 := Tryz.isAgg0
  z0 := Tryz.sizeOf0
  v0 := Tryz.zeroValue0
  t2 := Tryz.underlying2
  a2 := Tryz.isAgg2
  z2 := Tryz.sizeOf2
  v2 := Tryz.zeroValue2
  t3 := Tryz.underlying3
  a3 := Tryz.isAgg3
  z3 := Tryz.sizeOf3
  v3 := Tryz.zeroValue3
  t4 := Tryz.underlying4
  a4 := Tryz.isAgg4
  z4 := Tryz.sizeOf4
  v4 := Tryz.zeroValue4
  t5 := Tryz.underlying5
  a5 := Tryz.isAgg5
  z5 := Tryz.sizeOf5
  v5 := Tryz.zeroValue5
  t9 := Tryz.underlying9
  a9 := Tryz.isAgg9
  z9 := Tryz.sizeOf9
  v9 := Tryz.zeroValue9
  t20 := Tryz.underlying20
  a20 := Tryz.isAgg20
  z20 := Tryz.sizeOf20
  v20 := Tryz.zeroValue20
  t37 := Tryz.underlying72
  a37 := Tryz.isAgg72
  z37 := Tryz.sizeOf72
  v37 := Tryz.zeroValue72
  t46 := Tryz.underlying166
  a46 := Tryz.isAgg166
  z46 := Tryz.sizeOf166
  v46 := Tryz.zeroValue166
  t51 := Tryz.underlying30
  a51 := Tryz.isAgg30
  z51 := Tryz.sizeOf30
  v51 := Tryz.zeroValue30
  t53 := Tryz.underlying94
  a53 := Tryz.isAgg94
  z53 := Tryz.sizeOf94
  v53 := Tryz.zeroValue94
  t171 := Tryz.underlying405
  a171 := Tryz.isAgg405
  z171 := Tryz.sizeOf405
  v171 := Tryz.zeroValue405
  t173 := Tryz.underlying408
  a173 := Tryz.isAgg408
  z173 := Tryz.sizeOf408
  v173 := Tryz.zeroValue408
  t212 := Tryz.underlying434
  a212 := Tryz.isAgg434
  z212 := Tryz.sizeOf434
  v212 := Tryz.zeroValue434
  t213 := Tryz.underlying435
  a213 := Tryz.isAgg435
  z213 := Tryz.sizeOf435
  t232 := Tryz.underlying440
  a232 := Tryz.isAgg440
  z232 := Tryz.sizeOf440
  v232 := Tryz.zeroValue440
  t233 := Tryz.underlying510
  a233 := Tryz.isAgg510
  z233 := Tryz.sizeOf510
  v233 := Tryz.zeroValue510
  g17 := by kernel_rfl
  g18 := by kernel_rfl
  g19 := by kernel_rfl }
open Go.RowKit Go.Sort Go.Lib in
/-- THE ROAD WITHOUT THE TABLE: 0 <= i < 100: NO PREMISE ON THE WORLD, AND THE WORLD IS AS IT WAS: a row that keeps its argument in that range need list no table ('laid = []'). (LAID: no walk: one application.) -/
theorem Tryz.strconv_Itoa_small (i : Nat) (hi : i < 100) (w : World) :
    Calls Tryz.prog 154 #[.int .i64 i] w fun e w' => e = .returned (.string ⟨(Lib.decDigits i).toArray⟩) ∧ w' = w := Any.strconv_Itoa_small Tryz.lays171 i hi w
def Tryz.laysM157_ren : Go.Shelf.Ren := ⟨fun | 157 => 217 | 229 => 236 | 199 => 237 | 261 => 270 | 311 => 311 | 312 => 312 | n => n, fun | 9 => 9 | 31 => 34 | 3 => 3 | 5 => 5 | 4 => 4 | 119 => 418 | 0 => 0 | 40 => 420 | 152 => 451 | 21 => 21 | 154 => 453 | 51 => 30 | 141 => 455 | 196 => 492 | 193 => 489 | 198 => 494 | 49 => 274 | 194 => 490 | 201 => 497 | 226 => 521 | 46 => 166 | 227 => 522 | n => n, fun | 0 => 2 | 6 => 6 | n => n⟩
theorem Tryz.laysM157 : Go.Proofs.LaysM.n157 Tryz.prog Tryz.laysM157_ren := {
  mixed := by kernel_rfl
  f157 := Tryz.func217.trans (congrArg some (by kernel_rfl))
  f199 := Tryz.func237.trans (congrArg some (by kernel_rfl))
  f229 := Tryz.func236.trans (congrArg some (by kernel_rfl))
  f261 := Tryz.func270.trans (congrArg some (by kernel_rfl))
  f311 := Tryz.func311.trans (congrArg some (by kernel_rfl))
  f312 := Tryz.func312.trans (congrArg some (by kernel_rfl))
  t0 := Tryz.underlying0
  a0 := Tryz.isAgg0
  z0 := Tryz.sizeOf0
  v0 := Tryz.zeroValue0
  t3 := Tryz.underlying3
  a3 := Tryz.isAgg3
  z3 := Tryz.sizeOf3
  v3 := Tryz.zeroValue3
  t4 := Tryz.underlying4
  a4 := Tryz.isAgg4
  z4 := Tryz.sizeOf4
  v4 := Tryz.zeroValue4
  t5 := Tryz.underlying5
  a5 := Tryz.isAgg5
  z5 := Tryz.sizeOf5
  v5 := Tryz.zeroValue5
  t9 := Tryz.underlying9
  a9 := Tryz.isAgg9
  z9 := Tryz.sizeOf9
  v9 := Tryz.zeroValue9
  t21 := Tryz.underlying21
  a21 := Tryz.isAgg21
  z21 := Tryz.sizeOf21
  v21 := Tryz.zeroValue21
  t31 := Tryz.underlying34
  a31 := Tryz.isAgg34
  z31 := Tryz.sizeOf34
  v31 := Tryz.zeroValue34
  t40 := Tryz.underlying420
  a40 := Tryz.isAgg420
  z40 := Tryz.sizeOf420
  v40 := Tryz.zeroValue420
  t46 := Tryz.underlying166
  a46 := Tryz.isAgg166
  z46 := Tryz.sizeOf166
  v46 := Tryz.zeroValue166
  t49 := Tryz.underlying274
  a49 := Tryz.isAgg274
  z49 := Tryz.sizeOf274
  v49 := Tryz.zeroValue274
  t51 := Tryz.underlying30
  a51 := Tryz.isAgg30
  z51 := Tryz.sizeOf30
  v51 := Tryz.zeroValue30
  t119 := Tryz.underlying418
  a119 := Tryz.isAgg418
  z119 := Tryz.sizeOf418
  t141 := Tryz.underlying455
  a141 := Tryz.isAgg455
  z141 := Tryz.sizeOf455
  v141 := Tryz.zeroValue455
  t152 := Tryz.underlying451
  a152 := Tryz.isAgg451
  z152 := Tryz.sizeOf451
  v152 := Tryz.zeroValue451
  t154 := Tryz.underlying453
  a154 := Tryz.isAgg453
  z154 := Tryz.sizeOf453
  v154 := Tryz.zeroValue453
  t193 := Tryz.underlying489
  a193 := Tryz.isAgg489
  z193 := Tryz.sizeOf489
  v193 := Tryz.zeroValue489
  t194 := Tryz.underlying490
  a194 := Tryz.isAgg490
  z194 := Tryz.sizeOf490
  v194 := Tryz.zeroValue490
  t196 := Tryz.underlying492
  a196 := Tryz.isAgg492
  z196 := Tryz.sizeOf492
  v196 := Tryz.zeroValue492
  t198 := Tryz.underlying494
  a198 := Tryz.isAgg494
  z198 := Tryz.sizeOf494
  v198 := Tryz.zeroValue494
  t201 := Tryz.underlying497
  a201 := Tryz.isAgg497
  z201 := Tryz.sizeOf497
  v201 := Tryz.zeroValue497
  t226 := Tryz.underlying521
  a226 := Tryz.isAgg521
  z226 := Tryz.sizeOf521
  v226 := Tryz.zeroValue521
  t227 := Tryz.underlying522
  a227 := Tryz.isAgg522
  z227 := Tryz.sizeOf522
  v227 := Tryz.zeroValue522
  g0 := by kernel_rfl
  g6 := by kernel_rfl
  i0 := by kernel_rfl
  i3 := by kernel_rfl
  i4 := by kernel_rfl
  i5 := by kernel_rfl
  i9 := by kernel_rfl
  i21 := by kernel_rfl
  i31 := by kernel_rfl
  i40 := by kernel_rfl
  i46 := by kernel_rfl
  i49 := by kernel_rfl
  i51 := by kernel_rfl
  i141 := by kernel_rfl
  i152 := by kernel_rfl
  i154 := by kernel_rfl
  i193 := by kernel_rfl
  i194 := by kernel_rfl
  i196 := by kernel_rfl
  i198 := by kernel_rfl
  i201 := by kernel_rfl
  i226 := by kernel_rfl
  i227 := by kernel_rfl
  m0 := by kernel_rfl
  m6 := by kernel_rfl }
open Go.RowKit Go.Lib in
/-- strings.Fields on ASCII bytes. (The table: 'Lib.TabIs', as strings.TrimSpace's contract asks it.) (LAID: no walk: one application.) -/
theorem Tryz.strings_Fields_laid (s : ByteArray) (w : World) (hs : s.size < 4294967281) (hascii : ∀ (j : Nat) b, s.data.toList[j]? = some b → b.toNat < 128) (htab : Lib.TabIs Tryz.prog w "strings.asciiSpace" .u8 Lib.asciiSpaceTab) :
    Calls Tryz.prog 217 #[.string s] w fun e w' =>
      e = .returned (.slice (some ⟨w.heap.size, 0, none⟩) (Lib.fields s.data.toList).length (Lib.fields s.data.toList).length) ∧ w' = w.alloc (.cells ((Lib.fields s.data.toList).map fun l => Value.string ⟨l.toArray⟩).toArray 9) := Any.strings_Fields_laid Tryz.laysM157 s w hs hascii htab
end Go.Proofs
end
section
/- lines.Word at every kind. -/
set_option linter.unusedVariables false
set_option linter.unusedSimpArgs false
namespace Go.Proofs.YtlggimmfaflfnaaGreatDoor.TW
open Go.RowKit Go.Shelf Go.Lib Go.Proofs.YtlggimmfaflfnaaGreatDoor.TF Go.Proofs.YtlggimmfaflfnaaGreatDoorW.PrintWords Go.Proofs.YtlggimmfaflfnaaGreatDoorW.PrintMore

/-- the table of blanks lies where it was laid -/
def Tab (w : World) : Prop := Lib.TabIs Tryz.prog w "strings.asciiSpace" .u8 Lib.asciiSpaceTab
theorem Tab.stays {w W : World} (h : Tab w) (hb : Below w.heap.size w W) : Tab W := Go.Joins.tab_stays (g := 2) (by kernel_rfl) h hb (Nat.le_refl _)
def nmB : ByteArray := ⟨#[110, 111, 110, 101, 32, 99, 111, 100, 101, 32, 110, 111, 116, 101, 32, 108, 101, 118, 101, 108, 32, 115, 119, 97, 121, 32, 109, 97, 114, 107, 32, 116, 97, 103, 115, 32, 108, 97, 122, 121, 32, 108, 105, 110, 101, 32, 112, 108, 97, 105, 110, 32, 113, 117, 105, 101, 116, 32, 99, 111, 100, 101, 100, 32, 98, 97, 103, 32, 104, 111, 108, 100, 32, 119, 114, 97, 112, 32, 111, 118, 101, 114, 32, 106, 111, 105, 110, 32, 116, 105, 109, 101, 100, 32, 112, 108, 97, 99, 101, 100, 32, 116, 119, 105, 110, 32, 118, 101, 105, 108, 32, 101, 99, 104, 111, 32, 103, 117, 105, 115, 101, 32, 98, 111, 120, 32, 115, 108, 111, 119, 32, 102, 117, 108, 108, 32, 111, 112, 97, 113, 117, 101]⟩
def nameOf (k : Nat) : ByteArray := ⟨((Lib.fields nmB.data.toList).getD k []).toArray⟩
theorem nm_len : (Lib.fields nmB.data.toList).length = 27 := by decide +kernel
theorem nm_ascii : nmB.data.toList.all (fun b => decide (b.toNat < 128)) = true := by decide +kernel
theorem nm_fields (w : World) (htab : Tab w) : Calls Tryz.prog 217 #[.string nmB] w fun e w' => ∃ g, e = .returned (.slice (some ⟨g, 0, none⟩) 27 27) ∧ (∀ k, k ≤ 26 → w'.cell? ⟨g, k, none⟩ = some (.string (nameOf k))) ∧ Below w.heap.size w w' := by
  refine (Tryz.strings_Fields_laid nmB w (by decide +kernel) (fun j b hj => of_decide_eq_true (List.all_eq_true.1 nm_ascii b (List.mem_of_getElem? hj))) htab).mono ?_
  rintro e w' ⟨rfl, rfl⟩
  rw [nm_len]
  refine ⟨_, rfl, fun k hk => ?_, by go_grown⟩
  rw [cell_of_row _ _ _ _ _ _ (World.alloc_heap_new w _)]
  rw [List.getElem?_toArray, List.getElem?_map, List.getElem?_eq_getElem (by rw [nm_len]; omega)]
  unfold nameOf
  rw [List.getD_eq_getElem?_getD, List.getElem?_eq_getElem (by rw [nm_len]; omega)]
  rfl
set_option maxRecDepth 100000 in
theorem word_calls (k : Nat) (h1 : 1 ≤ k) (h2 : k ≤ 26) (w : World) (htab : Tab w) :
    Calls Tryz.prog 192 #[.int .u8 k] w fun e w' => e = .returned (.tuple #[.string (nameOf k), .int .i64 0]) ∧ Below w.heap.size w w' := by
  have q1 : ¬ ((k : Int) < 1) := by omega
  have q2 : ¬ (26 < (k : Int)) := by omega
  have q3 : (k : Int) < 27 := by omega
  have q4 : (0 : Int) ≤ (k : Int) := by omega
  have hF := Aside0.mk (nm_fields w htab)
  unfold nmB at hF
  go_enter Tryz.func192, Tryz.ntmps192
  go_wp2_with (go_at_call 217; (with_reducible refine hF.out.mono ?_))
  rintro e w' g rfl hc hB
  have hck := hc k h2
  have HB := Aside0.mk hB
  clear hc hB
  go_wp2_with (fail)
  go_ret2
  exact ⟨rfl, HB.out⟩
end Go.Proofs.YtlggimmfaflfnaaGreatDoor.TW
end
