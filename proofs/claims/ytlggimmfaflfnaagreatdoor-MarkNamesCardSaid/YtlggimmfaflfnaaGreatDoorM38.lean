/- Zero FullN -/
import Derived.Test.YtlggimmfaflfnaaGreatDoorM37
import Derived.Test.YtlggimmfaflfnaaGreatDoorM36
import Derived.Lib.LaidTab
import Derived.Deep.MidRow
section
/- registry.zero: of each kind a value of some type. -/
set_option linter.unusedVariables false
set_option linter.unusedSimpArgs false
namespace Go.Proofs.YtlggimmfaflfnaaGreatDoor.PK
open Go.RowKit Go.Proofs.YtlggimmfaflfnaaGreatDoorW.PrintWords Go.Proofs.YtlggimmfaflfnaaGreatDoorW.PrintMore Go.Proofs.YtlggimmfaflfnaaGreatDoor.TF

set_option maxRecDepth 100000 in
set_option maxHeartbeats 8000000 in
theorem zero_of (k : Int) (v : Value) (hx : ∀ W : World, (Instr.index 263 (.agg #[.nilIface, .iface 222 (.int .i16 0), .iface 223 (.string ⟨#[]⟩), .iface 224 (.float .f64 0), .iface 226 (.complex .f64 0 0), .iface 228 (.agg #[.int .u8 0, .int .u8 0, .int .u8 0, .int .u8 0]), .iface 231 (.agg #[.map none]), .iface 232 (.nilFunc), .iface 234 (.chan none), .iface 235 (.pointer none), .iface 236 (.pointer none), .iface 238 (.agg #[.int .i16 0, .string ⟨#[]⟩]), .iface 240 (.agg #[.string ⟨#[]⟩, .slice none 0 0]), .iface 242 (.agg #[.string ⟨#[]⟩, .nilIface]), .iface 243 (.pointer none), .iface 245 (.agg #[.string ⟨#[]⟩, .nilIface]), .iface 246 (.pointer none), .iface 248 (.agg #[.nilIface, .bool false]), .iface 250 (.agg #[.pointer none, .int .i16 0]), .iface 252 (.agg #[.int .i16 0, .float .f64 0]), .iface 254 (.agg #[.nilIface]), .iface 255 (.pointer none), .iface 256 (.pointer none), .iface 258 (.agg #[.int .i8 0]), .iface 259 (.pointer none), .iface 261 (.agg #[.pointer none, .int .i16 0, .string ⟨#[]⟩]), .iface 262 (.pointer none)]) (.int .u8 k)).run Tryz.prog W = .ok v W) (w : World) : Calls Tryz.prog 49 #[.int .u8 k] w fun e w' => e = .returned v ∧ w' = w := by
  go_enter Tryz.func49, Tryz.ntmps49
  go_wp2_with (fail)
  go_ret
  exact ⟨rfl, rfl⟩
/-- of each kind: some value, of a type that the program knows -/
theorem zero_any (k : Int) (h1 : 1 ≤ k) (h2 : k ≤ 26) (w : World) : Calls Tryz.prog 49 #[.int .u8 k] w fun e w' => ∃ ty x, e = .returned (.iface ty x) ∧ (∃ i, Tryz.prog.info? ty = some i) ∧ w' = w := by
  have hc : k = 1 ∨ k = 2 ∨ k = 3 ∨ k = 4 ∨ k = 5 ∨ k = 6 ∨ k = 7 ∨ k = 8 ∨ k = 9 ∨ k = 10 ∨ k = 11 ∨ k = 12 ∨ k = 13 ∨ k = 14 ∨ k = 15 ∨ k = 16 ∨ k = 17 ∨ k = 18 ∨ k = 19 ∨ k = 20 ∨ k = 21 ∨ k = 22 ∨ k = 23 ∨ k = 24 ∨ k = 25 ∨ k = 26 := by omega
  rcases hc with rfl | rfl | rfl | rfl | rfl | rfl | rfl | rfl | rfl | rfl | rfl | rfl | rfl | rfl | rfl | rfl | rfl | rfl | rfl | rfl | rfl | rfl | rfl | rfl | rfl | rfl
  · exact (zero_of 1 (.iface 222 (.int .i16 0)) (fun _ => by kernel_rfl) w).mono (by rintro e w' ⟨rfl, rfl⟩; exact ⟨_, _, rfl, Option.isSome_iff_exists.1 (by kernel_rfl), rfl⟩)
  · exact (zero_of 2 (.iface 223 (.string ⟨#[]⟩)) (fun _ => by kernel_rfl) w).mono (by rintro e w' ⟨rfl, rfl⟩; exact ⟨_, _, rfl, Option.isSome_iff_exists.1 (by kernel_rfl), rfl⟩)
  · exact (zero_of 3 (.iface 224 (.float .f64 0)) (fun _ => by kernel_rfl) w).mono (by rintro e w' ⟨rfl, rfl⟩; exact ⟨_, _, rfl, Option.isSome_iff_exists.1 (by kernel_rfl), rfl⟩)
  · exact (zero_of 4 (.iface 226 (.complex .f64 0 0)) (fun _ => by kernel_rfl) w).mono (by rintro e w' ⟨rfl, rfl⟩; exact ⟨_, _, rfl, Option.isSome_iff_exists.1 (by kernel_rfl), rfl⟩)
  · exact (zero_of 5 (.iface 228 (.agg #[.int .u8 0, .int .u8 0, .int .u8 0, .int .u8 0])) (fun _ => by kernel_rfl) w).mono (by rintro e w' ⟨rfl, rfl⟩; exact ⟨_, _, rfl, Option.isSome_iff_exists.1 (by kernel_rfl), rfl⟩)
  · exact (zero_of 6 (.iface 231 (.agg #[.map none])) (fun _ => by kernel_rfl) w).mono (by rintro e w' ⟨rfl, rfl⟩; exact ⟨_, _, rfl, Option.isSome_iff_exists.1 (by kernel_rfl), rfl⟩)
  · exact (zero_of 7 (.iface 232 (.nilFunc)) (fun _ => by kernel_rfl) w).mono (by rintro e w' ⟨rfl, rfl⟩; exact ⟨_, _, rfl, Option.isSome_iff_exists.1 (by kernel_rfl), rfl⟩)
  · exact (zero_of 8 (.iface 234 (.chan none)) (fun _ => by kernel_rfl) w).mono (by rintro e w' ⟨rfl, rfl⟩; exact ⟨_, _, rfl, Option.isSome_iff_exists.1 (by kernel_rfl), rfl⟩)
  · exact (zero_of 9 (.iface 235 (.pointer none)) (fun _ => by kernel_rfl) w).mono (by rintro e w' ⟨rfl, rfl⟩; exact ⟨_, _, rfl, Option.isSome_iff_exists.1 (by kernel_rfl), rfl⟩)
  · exact (zero_of 10 (.iface 236 (.pointer none)) (fun _ => by kernel_rfl) w).mono (by rintro e w' ⟨rfl, rfl⟩; exact ⟨_, _, rfl, Option.isSome_iff_exists.1 (by kernel_rfl), rfl⟩)
  · exact (zero_of 11 (.iface 238 (.agg #[.int .i16 0, .string ⟨#[]⟩])) (fun _ => by kernel_rfl) w).mono (by rintro e w' ⟨rfl, rfl⟩; exact ⟨_, _, rfl, Option.isSome_iff_exists.1 (by kernel_rfl), rfl⟩)
  · exact (zero_of 12 (.iface 240 (.agg #[.string ⟨#[]⟩, .slice none 0 0])) (fun _ => by kernel_rfl) w).mono (by rintro e w' ⟨rfl, rfl⟩; exact ⟨_, _, rfl, Option.isSome_iff_exists.1 (by kernel_rfl), rfl⟩)
  · exact (zero_of 13 (.iface 242 (.agg #[.string ⟨#[]⟩, .nilIface])) (fun _ => by kernel_rfl) w).mono (by rintro e w' ⟨rfl, rfl⟩; exact ⟨_, _, rfl, Option.isSome_iff_exists.1 (by kernel_rfl), rfl⟩)
  · exact (zero_of 14 (.iface 243 (.pointer none)) (fun _ => by kernel_rfl) w).mono (by rintro e w' ⟨rfl, rfl⟩; exact ⟨_, _, rfl, Option.isSome_iff_exists.1 (by kernel_rfl), rfl⟩)
  · exact (zero_of 15 (.iface 245 (.agg #[.string ⟨#[]⟩, .nilIface])) (fun _ => by kernel_rfl) w).mono (by rintro e w' ⟨rfl, rfl⟩; exact ⟨_, _, rfl, Option.isSome_iff_exists.1 (by kernel_rfl), rfl⟩)
  · exact (zero_of 16 (.iface 246 (.pointer none)) (fun _ => by kernel_rfl) w).mono (by rintro e w' ⟨rfl, rfl⟩; exact ⟨_, _, rfl, Option.isSome_iff_exists.1 (by kernel_rfl), rfl⟩)
  · exact (zero_of 17 (.iface 248 (.agg #[.nilIface, .bool false])) (fun _ => by kernel_rfl) w).mono (by rintro e w' ⟨rfl, rfl⟩; exact ⟨_, _, rfl, Option.isSome_iff_exists.1 (by kernel_rfl), rfl⟩)
  · exact (zero_of 18 (.iface 250 (.agg #[.pointer none, .int .i16 0])) (fun _ => by kernel_rfl) w).mono (by rintro e w' ⟨rfl, rfl⟩; exact ⟨_, _, rfl, Option.isSome_iff_exists.1 (by kernel_rfl), rfl⟩)
  · exact (zero_of 19 (.iface 252 (.agg #[.int .i16 0, .float .f64 0])) (fun _ => by kernel_rfl) w).mono (by rintro e w' ⟨rfl, rfl⟩; exact ⟨_, _, rfl, Option.isSome_iff_exists.1 (by kernel_rfl), rfl⟩)
  · exact (zero_of 20 (.iface 254 (.agg #[.nilIface])) (fun _ => by kernel_rfl) w).mono (by rintro e w' ⟨rfl, rfl⟩; exact ⟨_, _, rfl, Option.isSome_iff_exists.1 (by kernel_rfl), rfl⟩)
  · exact (zero_of 21 (.iface 255 (.pointer none)) (fun _ => by kernel_rfl) w).mono (by rintro e w' ⟨rfl, rfl⟩; exact ⟨_, _, rfl, Option.isSome_iff_exists.1 (by kernel_rfl), rfl⟩)
  · exact (zero_of 22 (.iface 256 (.pointer none)) (fun _ => by kernel_rfl) w).mono (by rintro e w' ⟨rfl, rfl⟩; exact ⟨_, _, rfl, Option.isSome_iff_exists.1 (by kernel_rfl), rfl⟩)
  · exact (zero_of 23 (.iface 258 (.agg #[.int .i8 0])) (fun _ => by kernel_rfl) w).mono (by rintro e w' ⟨rfl, rfl⟩; exact ⟨_, _, rfl, Option.isSome_iff_exists.1 (by kernel_rfl), rfl⟩)
  · exact (zero_of 24 (.iface 259 (.pointer none)) (fun _ => by kernel_rfl) w).mono (by rintro e w' ⟨rfl, rfl⟩; exact ⟨_, _, rfl, Option.isSome_iff_exists.1 (by kernel_rfl), rfl⟩)
  · exact (zero_of 25 (.iface 261 (.agg #[.pointer none, .int .i16 0, .string ⟨#[]⟩])) (fun _ => by kernel_rfl) w).mono (by rintro e w' ⟨rfl, rfl⟩; exact ⟨_, _, rfl, Option.isSome_iff_exists.1 (by kernel_rfl), rfl⟩)
  · exact (zero_of 26 (.iface 262 (.pointer none)) (fun _ => by kernel_rfl) w).mono (by rintro e w' ⟨rfl, rfl⟩; exact ⟨_, _, rfl, Option.isSome_iff_exists.1 (by kernel_rfl), rfl⟩)
end Go.Proofs.YtlggimmfaflfnaaGreatDoor.PK
end
section
/- registry.Full: a registry with some rows, frozen. -/
set_option linter.unusedVariables false
set_option linter.unusedSimpArgs false
namespace Go.Proofs.YtlggimmfaflfnaaGreatDoor.PK
open Go.RowKit Go.Maps Go.Proofs.YtlggimmfaflfnaaGreatDoorW.PrintWords Go.Proofs.YtlggimmfaflfnaaGreatDoorW.PrintMore Go.Proofs.YtlggimmfaflfnaaGreatDoor.TF Go.MuLone

def NAMES : List ByteArray := [⟨#[110, 111, 116, 101]⟩, ⟨#[99, 111, 100, 101]⟩, ⟨#[108, 101, 118, 101, 108]⟩, ⟨#[99, 111, 100, 101, 100]⟩, ⟨#[116, 119, 105, 110]⟩, ⟨#[112, 108, 97, 105, 110]⟩, ⟨#[113, 117, 105, 101, 116]⟩, ⟨#[119, 114, 97, 112]⟩, ⟨#[106, 111, 105, 110]⟩, ⟨#[101, 99, 104, 111]⟩, ⟨#[103, 117, 105, 115, 101]⟩, ⟨#[115, 108, 111, 119]⟩, ⟨#[111, 112, 97, 113, 117, 101]⟩, ⟨#[110, 111, 116, 101]⟩, ⟨#[115, 119, 97, 121]⟩, ⟨#[109, 97, 114, 107]⟩, ⟨#[116, 97, 103, 115]⟩, ⟨#[108, 97, 122, 121]⟩, ⟨#[108, 105, 110, 101]⟩, ⟨#[98, 97, 103]⟩, ⟨#[104, 111, 108, 100]⟩, ⟨#[111, 118, 101, 114]⟩, ⟨#[116, 105, 109, 101, 100]⟩, ⟨#[112, 108, 97, 99, 101, 100]⟩, ⟨#[118, 101, 105, 108]⟩, ⟨#[98, 111, 120]⟩, ⟨#[102, 117, 108, 108]⟩, ⟨#[116, 101, 120, 116]⟩, ⟨#[110, 117, 109, 98, 101, 114]⟩, ⟨#[119, 114, 97, 112]⟩, ⟨#[99, 111, 100, 101]⟩]
def KINDS : List Int := [2, 1, 3, 11, 19, 9, 10, 14, 16, 21, 22, 24, 26, 9, 4, 5, 6, 7, 8, 12, 13, 15, 17, 18, 20, 23, 25, 2, 1, 15, 25]
def Entered (w : World) : Prop := Lib.TabIs Tryz.prog w "errata/registry.entered" .u8 KINDS
theorem names_fine : NAMES.length = 31 ∧ ∀ x ∈ NAMES, x.toList.isEmpty = false ∧ x.size ≤ 4096 := by decide +kernel
theorem kinds_fine : KINDS.length = 31 ∧ ∀ x ∈ KINDS, 1 ≤ x ∧ x ≤ 26 := by decide +kernel
theorem results_cell_mid {fn : Func} {p : Tmp} {ty : TypeId} (h : fn.results = #[.cell p ty]) (tmps : Array Value) (w : World) (g : Nat) (cs : List Value) (d : TypeDesc) (hp : tmps.getD p undef = .pointer (some ⟨g, 0, none⟩))
    (hc : w.rangeAt g 0 cs) (hu : Tryz.prog.underlying ty = some d) (hd : d.isRow = true) (hi : (Tryz.prog.info? ty).map (·.size) = some cs.length) : (results fn tmps).run Tryz.prog w = .ok (.agg cs.toArray) w := by
  have hl := run_loadVar_mid (P := Tryz.prog) w g 0 ty cs d hc hu hd hi
  have hp' : tmps[p]?.getD undef = .pointer (some ⟨g, 0, none⟩) := by simpa using hp
  simp [results, h, hp', asAddr, hl]
def ZEROS : Array Value := #[.string ⟨#[]⟩, .string ⟨#[]⟩, .string ⟨#[]⟩, .string ⟨#[]⟩, .string ⟨#[]⟩, .string ⟨#[]⟩, .string ⟨#[]⟩, .string ⟨#[]⟩, .string ⟨#[]⟩, .string ⟨#[]⟩, .string ⟨#[]⟩, .string ⟨#[]⟩, .string ⟨#[]⟩, .string ⟨#[]⟩, .string ⟨#[]⟩, .string ⟨#[]⟩, .string ⟨#[]⟩, .string ⟨#[]⟩, .string ⟨#[]⟩, .string ⟨#[]⟩, .string ⟨#[]⟩, .string ⟨#[]⟩, .string ⟨#[]⟩, .string ⟨#[]⟩, .string ⟨#[]⟩, .string ⟨#[]⟩, .string ⟨#[]⟩, .string ⟨#[]⟩, .string ⟨#[]⟩, .string ⟨#[]⟩, .string ⟨#[]⟩]
theorem zeros_there (w : World) : (w.alloc (.cells ZEROS 107)).there w.heap.size 0 31 := fun j hj => by
  have hb := Blk.new w 107 ZEROS
  rw [hb.cell (0 + j), hb.frozen (0 + j)]
  refine ⟨?_, rfl⟩
  have hz : ZEROS.size = 31 := by decide
  rw [Array.getElem?_eq_getElem (by omega)]
  rfl
theorem info31 : (Tryz.prog.info? 107).map (·.size) = some 31 := by kernel_rfl
theorem names_one : (NAMES.map Value.string).toArray.all (·.oneCell') = true := by kernel_rfl
theorem below_setCells {m : Nat} {w V : World} (h : Below m w V) (b : Nat) (hb : m ≤ b) : ∀ (vs : List Value) (o : Nat), Below m w (V.setCells b o vs) := by
  intro vs
  induction vs generalizing V with
  | nil => intro o; exact h
  | cons x vs ih => intro o; exact ih (h.setCell (p := ⟨b, o, none⟩) hb x) (o + 1)
def NAMEV : Array Value := #[.string ⟨#[110, 111, 116, 101]⟩, .string ⟨#[99, 111, 100, 101]⟩, .string ⟨#[108, 101, 118, 101, 108]⟩, .string ⟨#[99, 111, 100, 101, 100]⟩, .string ⟨#[116, 119, 105, 110]⟩, .string ⟨#[112, 108, 97, 105, 110]⟩, .string ⟨#[113, 117, 105, 101, 116]⟩, .string ⟨#[119, 114, 97, 112]⟩, .string ⟨#[106, 111, 105, 110]⟩, .string ⟨#[101, 99, 104, 111]⟩, .string ⟨#[103, 117, 105, 115, 101]⟩, .string ⟨#[115, 108, 111, 119]⟩, .string ⟨#[111, 112, 97, 113, 117, 101]⟩, .string ⟨#[110, 111, 116, 101]⟩, .string ⟨#[115, 119, 97, 121]⟩, .string ⟨#[109, 97, 114, 107]⟩, .string ⟨#[116, 97, 103, 115]⟩, .string ⟨#[108, 97, 122, 121]⟩, .string ⟨#[108, 105, 110, 101]⟩, .string ⟨#[98, 97, 103]⟩, .string ⟨#[104, 111, 108, 100]⟩, .string ⟨#[111, 118, 101, 114]⟩, .string ⟨#[116, 105, 109, 101, 100]⟩, .string ⟨#[112, 108, 97, 99, 101, 100]⟩, .string ⟨#[118, 101, 105, 108]⟩, .string ⟨#[98, 111, 120]⟩, .string ⟨#[102, 117, 108, 108]⟩, .string ⟨#[116, 101, 120, 116]⟩, .string ⟨#[110, 117, 109, 98, 101, 114]⟩, .string ⟨#[119, 114, 97, 112]⟩, .string ⟨#[99, 111, 100, 101]⟩]
theorem names_lit : (NAMES.map Value.string).toArray = NAMEV := rfl
theorem namev_one : NAMEV.all (·.oneCell') = true := names_one
set_option maxHeartbeats 4000000 in
set_option maxRecDepth 100000 in
theorem names_ok (w : World) : Calls Tryz.prog 46 #[] w fun e w' => e = .returned (.agg (NAMES.map Value.string).toArray) ∧ Below w.heap.size w w' := by
  rw [names_lit]
  have hth := zeros_there w
  obtain ⟨W1, hW1⟩ : ∃ V, w.alloc (.cells ZEROS 107) = V := ⟨_, rfl⟩
  have hb1 : Below w.heap.size w W1 := hW1 ▸ (Below.refl _ w).alloc (Nat.le_refl _) _
  rw [hW1] at hth
  obtain ⟨NV, hNV⟩ : ∃ NV, NAMEV = NV := ⟨_, rfl⟩
  have hone := namev_one
  have hsz : NAMEV.size = 31 := rfl
  rw [hNV] at hone hsz
  rw [← hsz] at hth
  have hr : (W1.setCells w.heap.size 0 NV.toList).rangeAt w.heap.size 0 NV.toList := World.rangeAt_setCells_same W1 w.heap.size 0 _ (by simpa using hth)
  have HB := Aside0.mk (below_setCells hb1 w.heap.size (Nat.le_refl _) NV.toList 0)
  have HI := Aside0.mk (show (Tryz.prog.info? 107).map (·.size) = some NV.size by rw [hsz]; exact info31)
  have HI2 := Aside0.mk (show (Tryz.prog.info? 107).map (·.size) = some NV.toList.length by rw [Array.length_toList, hsz]; exact info31)
  have HO := Aside0.mk (And.intro hone (And.intro hth hr))
  rw [hNV]
  unfold NAMEV at hNV
  unfold ZEROS at hW1
  clear hb1 hone hth hsz hr
  go_enter Tryz.func46, Tryz.ntmps46
  go_wp2_with (refine wpList_store_mid rfl 107 _ _ rfl w.heap.size 0 NV rfl rfl HO.out.2.1 HI.out HO.out.1 ?_)
  refine bodyPost_ret (results_cell_mid rfl _ _ w.heap.size NV.toList _ rfl HO.out.2.2 Tryz.underlying107 rfl HI2.out) rfl ?_
  exact ⟨by simp, HB.out⟩
theorem new_roll (w : World) : Calls Tryz.prog 45 #[] w fun e w' => ∃ g m, e = .returned (.pointer (some ⟨g, 0, none⟩)) ∧ Roll w.heap.size g m 0 (.slice none 0 0) (.slice none 0 0) [] [] (.map []) w' ∧ Below w.heap.size w w' := by
  have hmk : ∀ w : World, (Instr.makeMap 172 none).run Tryz.prog w = .ok (.map (some w.heap.size)) (w.alloc (.map #[] 0)) := fun w => run_makeMap _ w
  go_enter Tryz.func45, Tryz.ntmps45
  go_wp2
  go_ret
  refine ⟨_, w.heap.size, rfl, ⟨?_, World.ownsRow_nil _ _ _ _, World.ownsRow_nil _ _ _ _, fun k hk => by simp [Value.ownBlock] at hk, ?_, by simp, Nat.le_refl _, by simp⟩, ?_⟩
  · have h := Blk.new (w.alloc (.map #[] 0)) 186 (regOf 0 (.slice none 0 0) (.slice none 0 0) w.heap.size)
    rw [World.size_alloc] at h
    exact h
  · exact (World.ownsMap_made w Tryz.prog 9 _).alloc _
  · exact Below.alloc (Below.alloc (Below.refl _ w) (Nat.le_refl _) _) (by simp) _
/-- what stands on the roll, and what came too late, when so many names have gone by -/
def stL : List ByteArray → List Int → List (ByteArray × Int) × List (ByteArray × Int) × DataW Nat → List (ByteArray × Int) × List (ByteArray × Int) × DataW Nat
  | n :: ns, k :: ks, (R, T, D) => stL ns ks (if has D (.string n.data.toList) then (R, T ++ [(n, k)], D) else (R ++ [(n, k)], T, D.put (.string n.data.toList) (.lit (.int .i64 (R.length : Int)))))
  | _, _, s => s
def Row3.nk (r : Row3) : ByteArray × Int := (r.name, r.kind)
def stOne (s : List (ByteArray × Int) × List (ByteArray × Int) × DataW Nat) (n : ByteArray) (k : Int) : List (ByteArray × Int) × List (ByteArray × Int) × DataW Nat :=
  if has s.2.2 (.string n.data.toList) then (s.1, s.2.1 ++ [(n, k)], s.2.2) else (s.1 ++ [(n, k)], s.2.1, s.2.2.put (.string n.data.toList) (.lit (.int .i64 (s.1.length : Int))))
def st : Nat → List (ByteArray × Int) × List (ByteArray × Int) × DataW Nat
  | 0 => ([], [], .map [])
  | i + 1 => stOne (st i) (NAMES.getD i ⟨#[]⟩) (KINDS.getD i 0)
/-- a registry that so many rows were entered into, not frozen, above B -/
def At3 (B g i : Nat) (W : World) : Prop := ∃ m n v vt R T D, Roll B g m n v vt R T D W ∧ n ≤ i ∧ R.length ≤ i ∧ T.length ≤ i ∧ R.map Row3.nk = (st i).1 ∧ T.map Row3.nk = (st i).2.1 ∧ D = (st i).2.2
theorem at_enter (B g i : Nat) (r : Row3) (w : World) (h : At3 B g i w) (hi : i < 900) (hB : B ≤ w.heap.size) (h1 : r.name.toList.isEmpty = false ∧ r.name.size ≤ 4096) (h3 : 1 ≤ r.kind ∧ r.kind ≤ 26) (hn : r.name = NAMES.getD i ⟨#[]⟩) (hk : r.kind = KINDS.getD i 0) :
    Calls Tryz.prog 47 #[.pointer (some ⟨g, 0, none⟩), .agg #[.string r.name, .int .u8 r.kind, .int .u32 r.faces]] w fun e w' => ∃ x : Int, e = .returned (.int .i64 x) ∧ At3 B g (i + 1) w' ∧ Below B w w' ∧ Keep3 w w' := by
  obtain ⟨m, n, v, vt, R, T, D, hr, hn', hR, hT, eR, eT, eD⟩ := h
  have e1 : (st (i + 1)) = stOne (st i) r.name r.kind := by rw [hn, hk]; rfl
  cases hh : has D (.string r.name.data.toList) with
  | false =>
    refine (enter_new B g m n v vt R T D r w hr hB h1.1 h1.2 h3.1 h3.2 (by unfold maxLen; omega) (by omega) hh).mono ?_
    rintro e w' ⟨rfl, v', hr', hb⟩
    have e2 : stOne (st i) r.name r.kind = ((st i).1 ++ [(r.name, r.kind)], (st i).2.1, (st i).2.2.put (.string r.name.data.toList) (.lit (.int .i64 ((st i).1.length : Int)))) := by
      unfold stOne; rw [← eD, hh]; rfl
    refine ⟨_, rfl, ⟨m, n + 1, v', vt, _, _, _, hr', by omega, by simp; omega, by omega, ?_, ?_, ?_⟩, hb⟩
    · rw [e1, e2, List.map_append, eR]; rfl
    · rw [e1, e2, eT]
    · rw [e1, e2, eD, ← eR, List.length_map]
  | true =>
    refine (enter_taken B g m n v vt R T D r w hr hB h1.1 h1.2 h3.1 h3.2 (by omega) hh).mono ?_
    rintro e w' ⟨rfl, v', hr', hb⟩
    have e2 : stOne (st i) r.name r.kind = ((st i).1, (st i).2.1 ++ [(r.name, r.kind)], (st i).2.2) := by
      unfold stOne; rw [← eD, hh]; rfl
    refine ⟨_, rfl, ⟨m, n, v, v', _, _, _, hr', by omega, by omega, by simp; omega, ?_, ?_, ?_⟩, hb⟩
    · rw [e1, e2, eR]
    · rw [e1, e2, List.map_append, eT]; rfl
    · rw [e1, e2, eD]
/-- a roll that is frozen -/
structure Frz (B g m n : Nat) (v vt : Value) (R T : List Row3) (D : DataW Nat) (W : World) : Prop where
  head : Blk W g 186 (regF v vt m)
  rows : W.ownsRow B 116 3 v R.length (R.flatMap Row3.cells)
  map : W.ownsMap Tryz.prog 9 (plainElem Tryz.prog 3) m n D
  bg : B ≤ g
  bm : B ≤ m
  ne : m ≠ g
theorem at_freeze (B g i : Nat) (w : World) (h : At3 B g i w) : Calls Tryz.prog 50 #[.pointer (some ⟨g, 0, none⟩)] w fun e w' => e = .returned (.tuple #[]) ∧ (∃ m n v vt R T D, Frz B g m n v vt R T D w' ∧ R.length ≤ i ∧ n ≤ i ∧ R.map Row3.nk = (st i).1 ∧ D = (st i).2.2) ∧ Fr (fun q => q = g) w w' := by
  obtain ⟨m, n, v, vt, R, T, D, hr, hn, hR, hT, eR, eT, eD⟩ := h
  refine (freeze_full g m v vt w hr.head).mono ?_
  rintro e w' ⟨rfl, hb, hf⟩
  refine ⟨rfl, ⟨m, n, v, vt, R, T, D, ⟨hb, TF.own_fr hr.rows hf (fun k hk hs => ?_), ?_, hr.bg, hr.bm, hr.ne⟩, hR, hn, eR, eD⟩, hf⟩
  · subst hs; exact TF.own_blk_ne hr.rows hr.head (by decide) hk
  · obtain ⟨es, ck, h5, h6⟩ := hr.map
    exact ⟨es, ck, (hf.block m (Array.getElem?_eq_some_iff.1 h5).1 hr.ne).trans h5, h6⟩
theorem info31u : (Tryz.prog.info? 109).map (·.size) = some 31 := by kernel_rfl
theorem entered_range {w : World} (h : Entered w) : w.rangeAt 0 0 (KINDS.map (Value.int .u8)) := fun j v hv => by
  have hj : j < KINDS.length := by have := (List.getElem?_eq_some_iff.1 hv).1; simpa using this
  have := Lib.TabIs.cell (g := 0) h (by kernel_rfl) j hj
  rw [Nat.zero_add, this, ← hv]
  simp [List.getD, hj]
set_option maxRecDepth 100000 in
theorem kind_at (i : Nat) (hi : i < 31) (W : World) : (Instr.index 109 (.agg (KINDS.map (Value.int .u8)).toArray) (.int .i64 (i : Int))).run Tryz.prog W = .ok (.int .u8 (KINDS.getD i 0)) W := by
  have hc : i = 0 ∨ i = 1 ∨ i = 2 ∨ i = 3 ∨ i = 4 ∨ i = 5 ∨ i = 6 ∨ i = 7 ∨ i = 8 ∨ i = 9 ∨ i = 10 ∨ i = 11 ∨ i = 12 ∨ i = 13 ∨ i = 14 ∨ i = 15 ∨ i = 16 ∨ i = 17 ∨ i = 18 ∨ i = 19 ∨ i = 20 ∨ i = 21 ∨ i = 22 ∨ i = 23 ∨ i = 24 ∨ i = 25 ∨ i = 26 ∨ i = 27 ∨ i = 28 ∨ i = 29 ∨ i = 30 := by omega
  rcases hc with rfl | rfl | rfl | rfl | rfl | rfl | rfl | rfl | rfl | rfl | rfl | rfl | rfl | rfl | rfl | rfl | rfl | rfl | rfl | rfl | rfl | rfl | rfl | rfl | rfl | rfl | rfl | rfl | rfl | rfl | rfl <;> rfl
def NamesAt (nb : Nat) (W : World) : Prop := (∃ cs, Blk W nb 107 cs) ∧ W.rangeAt nb 0 (NAMES.map Value.string)
theorem NamesAt.keep {nb : Nat} {W V : World} (h : NamesAt nb W) (hk : Keep3 W V) : NamesAt nb V := by
  obtain ⟨⟨cs, hb⟩, hr⟩ := h
  have e := hk nb cs _ hb (by decide) (by decide)
  exact ⟨⟨cs, e.trans hb⟩, fun j v hv => (World.cell?_of_block (a := ⟨nb, 0 + j, none⟩) e).trans (hr j v hv)⟩
theorem NamesAt.next {nb : Nat} {W V : World} (h : NamesAt nb W) (hb : Below W.heap.size W V) : NamesAt nb V := h.keep (fun q cs t hq _ _ => hb.block q (Array.getElem?_eq_some_iff.1 hq).1)
theorem NamesAt.cell {nb : Nat} {W : World} (h : NamesAt nb W) (i : Nat) (hi : i < 31) : W.cell? ⟨nb, i, none⟩ = some (.string (NAMES.getD i ⟨#[]⟩)) := by
  have := h.2 i (.string (NAMES.getD i ⟨#[]⟩)) (by
    have hl := names_fine.1
    rw [List.getElem?_map, List.getD_eq_getElem?_getD, List.getElem?_eq_getElem (by omega)]
    rfl)
  simpa using this
theorem blk_setCells {b : Nat} {t : TypeId} : ∀ (vs : List Value) (o : Nat) (W : World) (cs : Array Value), Blk W b t cs → ∃ cs', Blk (W.setCells b o vs) b t cs' := by
  intro vs
  induction vs with
  | nil => intro o W cs h; exact ⟨cs, h⟩
  | cons x vs ih => intro o W cs h; exact ih (o + 1) _ _ (h.set_ o x)
theorem names_new (W : World) : NamesAt W.heap.size ((W.alloc (.cells ZEROS 107)).setCells W.heap.size 0 (NAMES.map Value.string)) ∧ Below W.heap.size W ((W.alloc (.cells ZEROS 107)).setCells W.heap.size 0 (NAMES.map Value.string)) :=
  ⟨⟨blk_setCells _ _ _ _ (Blk.new W _ _), World.rangeAt_setCells_same _ _ _ _ (zeros_there W)⟩, below_setCells ((Below.refl _ W).alloc (Nat.le_refl _) _) _ (Nat.le_refl _) _ _⟩
end Go.Proofs.YtlggimmfaflfnaaGreatDoor.PK
end
