/- registry.is, registry.held: of any value some number; nothing else. -/
import Derived.Test.YtlggimmfaflfnaaGreatDoorM36
import Derived.Stop.Asserts
import Derived.WalkSpells
set_option linter.unusedVariables false
set_option linter.unusedSimpArgs false
namespace Go.Proofs.YtlggimmfaflfnaaGreatDoor.PK
open Go.RowKit Go.Proofs.YtlggimmfaflfnaaGreatDoorW.PrintWords Go.Proofs.YtlggimmfaflfnaaGreatDoorW.PrintMore Go.Proofs.YtlggimmfaflfnaaGreatDoor.TF

set_option maxRecDepth 100000 in
theorem is_error (ty : TypeId) (x : Value) (i : TypeInfo) (hi : Tryz.prog.info? ty = some i) (w : World) : Calls Tryz.prog 85 #[.iface ty x, .int .u8 1] w fun e w' => ∃ f : Int, e = .returned (.int .u32 f) ∧ w' = w := by
  obtain ⟨j, hj, hz⟩ := Option.map_eq_some_iff.1 (show (Tryz.prog.info? 113).map (·.zero) = some (some .nilIface) by kernel_rfl)
  cases hl : (lacking _ i.methods).isEmpty with
  | true =>
    have h : ∀ W : World, (Instr.typeAssert (.iface ty x) 20 113 true).run Tryz.prog W = .ok (.tuple #[.iface ty x, .bool true]) W := fun W => run_typeAssert_has Tryz.underlying113 hi (List.isEmpty_iff.1 hl)
    clear hl hz hj
    go_enter Tryz.func85, Tryz.ntmps85
    go_wp2_with (fail)
    go_ret
    exact ⟨_, rfl, rfl⟩
  | false =>
    have h : ∀ W : World, (Instr.typeAssert (.iface ty x) 20 113 true).run Tryz.prog W = .ok (.tuple #[.nilIface, .bool false]) W := fun W => run_typeAssert_lacks Tryz.underlying113 hi hj hz (fun e => by rw [e] at hl; cases hl)
    clear hl hz hj
    go_enter Tryz.func85, Tryz.ntmps85
    go_wp2_with (fail)
    go_ret
    exact ⟨_, rfl, rfl⟩
set_option maxRecDepth 100000 in
theorem is_Grader (ty : TypeId) (x : Value) (i : TypeInfo) (hi : Tryz.prog.info? ty = some i) (w : World) : Calls Tryz.prog 86 #[.iface ty x, .int .u8 2] w fun e w' => ∃ f : Int, e = .returned (.int .u32 f) ∧ w' = w := by
  obtain ⟨j, hj, hz⟩ := Option.map_eq_some_iff.1 (show (Tryz.prog.info? 189).map (·.zero) = some (some .nilIface) by kernel_rfl)
  cases hl : (lacking _ i.methods).isEmpty with
  | true =>
    have h : ∀ W : World, (Instr.typeAssert (.iface ty x) 20 189 true).run Tryz.prog W = .ok (.tuple #[.iface ty x, .bool true]) W := fun W => run_typeAssert_has Tryz.underlying189 hi (List.isEmpty_iff.1 hl)
    clear hl hz hj
    go_enter Tryz.func86, Tryz.ntmps86
    go_wp2_with (fail)
    go_ret
    exact ⟨_, rfl, rfl⟩
  | false =>
    have h : ∀ W : World, (Instr.typeAssert (.iface ty x) 20 189 true).run Tryz.prog W = .ok (.tuple #[.nilIface, .bool false]) W := fun W => run_typeAssert_lacks Tryz.underlying189 hi hj hz (fun e => by rw [e] at hl; cases hl)
    clear hl hz hj
    go_enter Tryz.func86, Tryz.ntmps86
    go_wp2_with (fail)
    go_ret
    exact ⟨_, rfl, rfl⟩
set_option maxRecDepth 100000 in
theorem is_Coder (ty : TypeId) (x : Value) (i : TypeInfo) (hi : Tryz.prog.info? ty = some i) (w : World) : Calls Tryz.prog 87 #[.iface ty x, .int .u8 3] w fun e w' => ∃ f : Int, e = .returned (.int .u32 f) ∧ w' = w := by
  obtain ⟨j, hj, hz⟩ := Option.map_eq_some_iff.1 (show (Tryz.prog.info? 191).map (·.zero) = some (some .nilIface) by kernel_rfl)
  cases hl : (lacking _ i.methods).isEmpty with
  | true =>
    have h : ∀ W : World, (Instr.typeAssert (.iface ty x) 20 191 true).run Tryz.prog W = .ok (.tuple #[.iface ty x, .bool true]) W := fun W => run_typeAssert_has Tryz.underlying191 hi (List.isEmpty_iff.1 hl)
    clear hl hz hj
    go_enter Tryz.func87, Tryz.ntmps87
    go_wp2_with (fail)
    go_ret
    exact ⟨_, rfl, rfl⟩
  | false =>
    have h : ∀ W : World, (Instr.typeAssert (.iface ty x) 20 191 true).run Tryz.prog W = .ok (.tuple #[.nilIface, .bool false]) W := fun W => run_typeAssert_lacks Tryz.underlying191 hi hj hz (fun e => by rw [e] at hl; cases hl)
    clear hl hz hj
    go_enter Tryz.func87, Tryz.ntmps87
    go_wp2_with (fail)
    go_ret
    exact ⟨_, rfl, rfl⟩
set_option maxRecDepth 100000 in
theorem is_Weigher (ty : TypeId) (x : Value) (i : TypeInfo) (hi : Tryz.prog.info? ty = some i) (w : World) : Calls Tryz.prog 88 #[.iface ty x, .int .u8 4] w fun e w' => ∃ f : Int, e = .returned (.int .u32 f) ∧ w' = w := by
  obtain ⟨j, hj, hz⟩ := Option.map_eq_some_iff.1 (show (Tryz.prog.info? 193).map (·.zero) = some (some .nilIface) by kernel_rfl)
  cases hl : (lacking _ i.methods).isEmpty with
  | true =>
    have h : ∀ W : World, (Instr.typeAssert (.iface ty x) 20 193 true).run Tryz.prog W = .ok (.tuple #[.iface ty x, .bool true]) W := fun W => run_typeAssert_has Tryz.underlying193 hi (List.isEmpty_iff.1 hl)
    clear hl hz hj
    go_enter Tryz.func88, Tryz.ntmps88
    go_wp2_with (fail)
    go_ret
    exact ⟨_, rfl, rfl⟩
  | false =>
    have h : ∀ W : World, (Instr.typeAssert (.iface ty x) 20 193 true).run Tryz.prog W = .ok (.tuple #[.nilIface, .bool false]) W := fun W => run_typeAssert_lacks Tryz.underlying193 hi hj hz (fun e => by rw [e] at hl; cases hl)
    clear hl hz hj
    go_enter Tryz.func88, Tryz.ntmps88
    go_wp2_with (fail)
    go_ret
    exact ⟨_, rfl, rfl⟩
set_option maxRecDepth 100000 in
theorem is_Phaser (ty : TypeId) (x : Value) (i : TypeInfo) (hi : Tryz.prog.info? ty = some i) (w : World) : Calls Tryz.prog 89 #[.iface ty x, .int .u8 5] w fun e w' => ∃ f : Int, e = .returned (.int .u32 f) ∧ w' = w := by
  obtain ⟨j, hj, hz⟩ := Option.map_eq_some_iff.1 (show (Tryz.prog.info? 195).map (·.zero) = some (some .nilIface) by kernel_rfl)
  cases hl : (lacking _ i.methods).isEmpty with
  | true =>
    have h : ∀ W : World, (Instr.typeAssert (.iface ty x) 20 195 true).run Tryz.prog W = .ok (.tuple #[.iface ty x, .bool true]) W := fun W => run_typeAssert_has Tryz.underlying195 hi (List.isEmpty_iff.1 hl)
    clear hl hz hj
    go_enter Tryz.func89, Tryz.ntmps89
    go_wp2_with (fail)
    go_ret
    exact ⟨_, rfl, rfl⟩
  | false =>
    have h : ∀ W : World, (Instr.typeAssert (.iface ty x) 20 195 true).run Tryz.prog W = .ok (.tuple #[.nilIface, .bool false]) W := fun W => run_typeAssert_lacks Tryz.underlying195 hi hj hz (fun e => by rw [e] at hl; cases hl)
    clear hl hz hj
    go_enter Tryz.func89, Tryz.ntmps89
    go_wp2_with (fail)
    go_ret
    exact ⟨_, rfl, rfl⟩
set_option maxRecDepth 100000 in
theorem is_Timer (ty : TypeId) (x : Value) (i : TypeInfo) (hi : Tryz.prog.info? ty = some i) (w : World) : Calls Tryz.prog 90 #[.iface ty x, .int .u8 6] w fun e w' => ∃ f : Int, e = .returned (.int .u32 f) ∧ w' = w := by
  obtain ⟨j, hj, hz⟩ := Option.map_eq_some_iff.1 (show (Tryz.prog.info? 197).map (·.zero) = some (some .nilIface) by kernel_rfl)
  cases hl : (lacking _ i.methods).isEmpty with
  | true =>
    have h : ∀ W : World, (Instr.typeAssert (.iface ty x) 20 197 true).run Tryz.prog W = .ok (.tuple #[.iface ty x, .bool true]) W := fun W => run_typeAssert_has Tryz.underlying197 hi (List.isEmpty_iff.1 hl)
    clear hl hz hj
    go_enter Tryz.func90, Tryz.ntmps90
    go_wp2_with (fail)
    go_ret
    exact ⟨_, rfl, rfl⟩
  | false =>
    have h : ∀ W : World, (Instr.typeAssert (.iface ty x) 20 197 true).run Tryz.prog W = .ok (.tuple #[.nilIface, .bool false]) W := fun W => run_typeAssert_lacks Tryz.underlying197 hi hj hz (fun e => by rw [e] at hl; cases hl)
    clear hl hz hj
    go_enter Tryz.func90, Tryz.ntmps90
    go_wp2_with (fail)
    go_ret
    exact ⟨_, rfl, rfl⟩
set_option maxRecDepth 100000 in
theorem is_Liner (ty : TypeId) (x : Value) (i : TypeInfo) (hi : Tryz.prog.info? ty = some i) (w : World) : Calls Tryz.prog 91 #[.iface ty x, .int .u8 7] w fun e w' => ∃ f : Int, e = .returned (.int .u32 f) ∧ w' = w := by
  obtain ⟨j, hj, hz⟩ := Option.map_eq_some_iff.1 (show (Tryz.prog.info? 199).map (·.zero) = some (some .nilIface) by kernel_rfl)
  cases hl : (lacking _ i.methods).isEmpty with
  | true =>
    have h : ∀ W : World, (Instr.typeAssert (.iface ty x) 20 199 true).run Tryz.prog W = .ok (.tuple #[.iface ty x, .bool true]) W := fun W => run_typeAssert_has Tryz.underlying199 hi (List.isEmpty_iff.1 hl)
    clear hl hz hj
    go_enter Tryz.func91, Tryz.ntmps91
    go_wp2_with (fail)
    go_ret
    exact ⟨_, rfl, rfl⟩
  | false =>
    have h : ∀ W : World, (Instr.typeAssert (.iface ty x) 20 199 true).run Tryz.prog W = .ok (.tuple #[.nilIface, .bool false]) W := fun W => run_typeAssert_lacks Tryz.underlying199 hi hj hz (fun e => by rw [e] at hl; cases hl)
    clear hl hz hj
    go_enter Tryz.func91, Tryz.ntmps91
    go_wp2_with (fail)
    go_ret
    exact ⟨_, rfl, rfl⟩
set_option maxRecDepth 100000 in
theorem is_Detailer (ty : TypeId) (x : Value) (i : TypeInfo) (hi : Tryz.prog.info? ty = some i) (w : World) : Calls Tryz.prog 92 #[.iface ty x, .int .u8 8] w fun e w' => ∃ f : Int, e = .returned (.int .u32 f) ∧ w' = w := by
  obtain ⟨j, hj, hz⟩ := Option.map_eq_some_iff.1 (show (Tryz.prog.info? 201).map (·.zero) = some (some .nilIface) by kernel_rfl)
  cases hl : (lacking _ i.methods).isEmpty with
  | true =>
    have h : ∀ W : World, (Instr.typeAssert (.iface ty x) 20 201 true).run Tryz.prog W = .ok (.tuple #[.iface ty x, .bool true]) W := fun W => run_typeAssert_has Tryz.underlying201 hi (List.isEmpty_iff.1 hl)
    clear hl hz hj
    go_enter Tryz.func92, Tryz.ntmps92
    go_wp2_with (fail)
    go_ret
    exact ⟨_, rfl, rfl⟩
  | false =>
    have h : ∀ W : World, (Instr.typeAssert (.iface ty x) 20 201 true).run Tryz.prog W = .ok (.tuple #[.nilIface, .bool false]) W := fun W => run_typeAssert_lacks Tryz.underlying201 hi hj hz (fun e => by rw [e] at hl; cases hl)
    clear hl hz hj
    go_enter Tryz.func92, Tryz.ntmps92
    go_wp2_with (fail)
    go_ret
    exact ⟨_, rfl, rfl⟩
set_option maxRecDepth 100000 in
theorem is_One (ty : TypeId) (x : Value) (i : TypeInfo) (hi : Tryz.prog.info? ty = some i) (w : World) : Calls Tryz.prog 93 #[.iface ty x, .int .u8 9] w fun e w' => ∃ f : Int, e = .returned (.int .u32 f) ∧ w' = w := by
  obtain ⟨j, hj, hz⟩ := Option.map_eq_some_iff.1 (show (Tryz.prog.info? 203).map (·.zero) = some (some .nilIface) by kernel_rfl)
  cases hl : (lacking _ i.methods).isEmpty with
  | true =>
    have h : ∀ W : World, (Instr.typeAssert (.iface ty x) 20 203 true).run Tryz.prog W = .ok (.tuple #[.iface ty x, .bool true]) W := fun W => run_typeAssert_has Tryz.underlying203 hi (List.isEmpty_iff.1 hl)
    clear hl hz hj
    go_enter Tryz.func93, Tryz.ntmps93
    go_wp2_with (fail)
    go_ret
    exact ⟨_, rfl, rfl⟩
  | false =>
    have h : ∀ W : World, (Instr.typeAssert (.iface ty x) 20 203 true).run Tryz.prog W = .ok (.tuple #[.nilIface, .bool false]) W := fun W => run_typeAssert_lacks Tryz.underlying203 hi hj hz (fun e => by rw [e] at hl; cases hl)
    clear hl hz hj
    go_enter Tryz.func93, Tryz.ntmps93
    go_wp2_with (fail)
    go_ret
    exact ⟨_, rfl, rfl⟩
set_option maxRecDepth 100000 in
theorem is_Many (ty : TypeId) (x : Value) (i : TypeInfo) (hi : Tryz.prog.info? ty = some i) (w : World) : Calls Tryz.prog 94 #[.iface ty x, .int .u8 10] w fun e w' => ∃ f : Int, e = .returned (.int .u32 f) ∧ w' = w := by
  obtain ⟨j, hj, hz⟩ := Option.map_eq_some_iff.1 (show (Tryz.prog.info? 205).map (·.zero) = some (some .nilIface) by kernel_rfl)
  cases hl : (lacking _ i.methods).isEmpty with
  | true =>
    have h : ∀ W : World, (Instr.typeAssert (.iface ty x) 20 205 true).run Tryz.prog W = .ok (.tuple #[.iface ty x, .bool true]) W := fun W => run_typeAssert_has Tryz.underlying205 hi (List.isEmpty_iff.1 hl)
    clear hl hz hj
    go_enter Tryz.func94, Tryz.ntmps94
    go_wp2_with (fail)
    go_ret
    exact ⟨_, rfl, rfl⟩
  | false =>
    have h : ∀ W : World, (Instr.typeAssert (.iface ty x) 20 205 true).run Tryz.prog W = .ok (.tuple #[.nilIface, .bool false]) W := fun W => run_typeAssert_lacks Tryz.underlying205 hi hj hz (fun e => by rw [e] at hl; cases hl)
    clear hl hz hj
    go_enter Tryz.func94, Tryz.ntmps94
    go_wp2_with (fail)
    go_ret
    exact ⟨_, rfl, rfl⟩
set_option maxRecDepth 100000 in
theorem is_Judge (ty : TypeId) (x : Value) (i : TypeInfo) (hi : Tryz.prog.info? ty = some i) (w : World) : Calls Tryz.prog 95 #[.iface ty x, .int .u8 11] w fun e w' => ∃ f : Int, e = .returned (.int .u32 f) ∧ w' = w := by
  obtain ⟨j, hj, hz⟩ := Option.map_eq_some_iff.1 (show (Tryz.prog.info? 207).map (·.zero) = some (some .nilIface) by kernel_rfl)
  cases hl : (lacking _ i.methods).isEmpty with
  | true =>
    have h : ∀ W : World, (Instr.typeAssert (.iface ty x) 20 207 true).run Tryz.prog W = .ok (.tuple #[.iface ty x, .bool true]) W := fun W => run_typeAssert_has Tryz.underlying207 hi (List.isEmpty_iff.1 hl)
    clear hl hz hj
    go_enter Tryz.func95, Tryz.ntmps95
    go_wp2_with (fail)
    go_ret
    exact ⟨_, rfl, rfl⟩
  | false =>
    have h : ∀ W : World, (Instr.typeAssert (.iface ty x) 20 207 true).run Tryz.prog W = .ok (.tuple #[.nilIface, .bool false]) W := fun W => run_typeAssert_lacks Tryz.underlying207 hi hj hz (fun e => by rw [e] at hl; cases hl)
    clear hl hz hj
    go_enter Tryz.func95, Tryz.ntmps95
    go_wp2_with (fail)
    go_ret
    exact ⟨_, rfl, rfl⟩
set_option maxRecDepth 100000 in
theorem is_Lender (ty : TypeId) (x : Value) (i : TypeInfo) (hi : Tryz.prog.info? ty = some i) (w : World) : Calls Tryz.prog 96 #[.iface ty x, .int .u8 12] w fun e w' => ∃ f : Int, e = .returned (.int .u32 f) ∧ w' = w := by
  obtain ⟨j, hj, hz⟩ := Option.map_eq_some_iff.1 (show (Tryz.prog.info? 209).map (·.zero) = some (some .nilIface) by kernel_rfl)
  cases hl : (lacking _ i.methods).isEmpty with
  | true =>
    have h : ∀ W : World, (Instr.typeAssert (.iface ty x) 20 209 true).run Tryz.prog W = .ok (.tuple #[.iface ty x, .bool true]) W := fun W => run_typeAssert_has Tryz.underlying209 hi (List.isEmpty_iff.1 hl)
    clear hl hz hj
    go_enter Tryz.func96, Tryz.ntmps96
    go_wp2_with (fail)
    go_ret
    exact ⟨_, rfl, rfl⟩
  | false =>
    have h : ∀ W : World, (Instr.typeAssert (.iface ty x) 20 209 true).run Tryz.prog W = .ok (.tuple #[.nilIface, .bool false]) W := fun W => run_typeAssert_lacks Tryz.underlying209 hi hj hz (fun e => by rw [e] at hl; cases hl)
    clear hl hz hj
    go_enter Tryz.func96, Tryz.ntmps96
    go_wp2_with (fail)
    go_ret
    exact ⟨_, rfl, rfl⟩
set_option maxRecDepth 100000 in
theorem is_Kinder (ty : TypeId) (x : Value) (i : TypeInfo) (hi : Tryz.prog.info? ty = some i) (w : World) : Calls Tryz.prog 97 #[.iface ty x, .int .u8 13] w fun e w' => ∃ f : Int, e = .returned (.int .u32 f) ∧ w' = w := by
  obtain ⟨j, hj, hz⟩ := Option.map_eq_some_iff.1 (show (Tryz.prog.info? 211).map (·.zero) = some (some .nilIface) by kernel_rfl)
  cases hl : (lacking _ i.methods).isEmpty with
  | true =>
    have h : ∀ W : World, (Instr.typeAssert (.iface ty x) 20 211 true).run Tryz.prog W = .ok (.tuple #[.iface ty x, .bool true]) W := fun W => run_typeAssert_has Tryz.underlying211 hi (List.isEmpty_iff.1 hl)
    clear hl hz hj
    go_enter Tryz.func97, Tryz.ntmps97
    go_wp2_with (fail)
    go_ret
    exact ⟨_, rfl, rfl⟩
  | false =>
    have h : ∀ W : World, (Instr.typeAssert (.iface ty x) 20 211 true).run Tryz.prog W = .ok (.tuple #[.nilIface, .bool false]) W := fun W => run_typeAssert_lacks Tryz.underlying211 hi hj hz (fun e => by rw [e] at hl; cases hl)
    clear hl hz hj
    go_enter Tryz.func97, Tryz.ntmps97
    go_wp2_with (fail)
    go_ret
    exact ⟨_, rfl, rfl⟩
set_option maxRecDepth 100000 in
theorem is_Sizer (ty : TypeId) (x : Value) (i : TypeInfo) (hi : Tryz.prog.info? ty = some i) (w : World) : Calls Tryz.prog 98 #[.iface ty x, .int .u8 14] w fun e w' => ∃ f : Int, e = .returned (.int .u32 f) ∧ w' = w := by
  obtain ⟨j, hj, hz⟩ := Option.map_eq_some_iff.1 (show (Tryz.prog.info? 213).map (·.zero) = some (some .nilIface) by kernel_rfl)
  cases hl : (lacking _ i.methods).isEmpty with
  | true =>
    have h : ∀ W : World, (Instr.typeAssert (.iface ty x) 20 213 true).run Tryz.prog W = .ok (.tuple #[.iface ty x, .bool true]) W := fun W => run_typeAssert_has Tryz.underlying213 hi (List.isEmpty_iff.1 hl)
    clear hl hz hj
    go_enter Tryz.func98, Tryz.ntmps98
    go_wp2_with (fail)
    go_ret
    exact ⟨_, rfl, rfl⟩
  | false =>
    have h : ∀ W : World, (Instr.typeAssert (.iface ty x) 20 213 true).run Tryz.prog W = .ok (.tuple #[.nilIface, .bool false]) W := fun W => run_typeAssert_lacks Tryz.underlying213 hi hj hz (fun e => by rw [e] at hl; cases hl)
    clear hl hz hj
    go_enter Tryz.func98, Tryz.ntmps98
    go_wp2_with (fail)
    go_ret
    exact ⟨_, rfl, rfl⟩
set_option maxRecDepth 100000 in
theorem is_TimedError (ty : TypeId) (x : Value) (i : TypeInfo) (hi : Tryz.prog.info? ty = some i) (w : World) : Calls Tryz.prog 99 #[.iface ty x, .int .u8 15] w fun e w' => ∃ f : Int, e = .returned (.int .u32 f) ∧ w' = w := by
  obtain ⟨j, hj, hz⟩ := Option.map_eq_some_iff.1 (show (Tryz.prog.info? 215).map (·.zero) = some (some .nilIface) by kernel_rfl)
  cases hl : (lacking _ i.methods).isEmpty with
  | true =>
    have h : ∀ W : World, (Instr.typeAssert (.iface ty x) 20 215 true).run Tryz.prog W = .ok (.tuple #[.iface ty x, .bool true]) W := fun W => run_typeAssert_has Tryz.underlying215 hi (List.isEmpty_iff.1 hl)
    clear hl hz hj
    go_enter Tryz.func99, Tryz.ntmps99
    go_wp2_with (fail)
    go_ret
    exact ⟨_, rfl, rfl⟩
  | false =>
    have h : ∀ W : World, (Instr.typeAssert (.iface ty x) 20 215 true).run Tryz.prog W = .ok (.tuple #[.nilIface, .bool false]) W := fun W => run_typeAssert_lacks Tryz.underlying215 hi hj hz (fun e => by rw [e] at hl; cases hl)
    clear hl hz hj
    go_enter Tryz.func99, Tryz.ntmps99
    go_wp2_with (fail)
    go_ret
    exact ⟨_, rfl, rfl⟩
set_option maxRecDepth 100000 in
theorem is_CodedCause (ty : TypeId) (x : Value) (i : TypeInfo) (hi : Tryz.prog.info? ty = some i) (w : World) : Calls Tryz.prog 100 #[.iface ty x, .int .u8 16] w fun e w' => ∃ f : Int, e = .returned (.int .u32 f) ∧ w' = w := by
  obtain ⟨j, hj, hz⟩ := Option.map_eq_some_iff.1 (show (Tryz.prog.info? 217).map (·.zero) = some (some .nilIface) by kernel_rfl)
  cases hl : (lacking _ i.methods).isEmpty with
  | true =>
    have h : ∀ W : World, (Instr.typeAssert (.iface ty x) 20 217 true).run Tryz.prog W = .ok (.tuple #[.iface ty x, .bool true]) W := fun W => run_typeAssert_has Tryz.underlying217 hi (List.isEmpty_iff.1 hl)
    clear hl hz hj
    go_enter Tryz.func100, Tryz.ntmps100
    go_wp2_with (fail)
    go_ret
    exact ⟨_, rfl, rfl⟩
  | false =>
    have h : ∀ W : World, (Instr.typeAssert (.iface ty x) 20 217 true).run Tryz.prog W = .ok (.tuple #[.nilIface, .bool false]) W := fun W => run_typeAssert_lacks Tryz.underlying217 hi hj hz (fun e => by rw [e] at hl; cases hl)
    clear hl hz hj
    go_enter Tryz.func100, Tryz.ntmps100
    go_wp2_with (fail)
    go_ret
    exact ⟨_, rfl, rfl⟩
set_option maxRecDepth 100000 in
theorem is_Whole (ty : TypeId) (x : Value) (i : TypeInfo) (hi : Tryz.prog.info? ty = some i) (w : World) : Calls Tryz.prog 101 #[.iface ty x, .int .u8 17] w fun e w' => ∃ f : Int, e = .returned (.int .u32 f) ∧ w' = w := by
  obtain ⟨j, hj, hz⟩ := Option.map_eq_some_iff.1 (show (Tryz.prog.info? 219).map (·.zero) = some (some .nilIface) by kernel_rfl)
  cases hl : (lacking _ i.methods).isEmpty with
  | true =>
    have h : ∀ W : World, (Instr.typeAssert (.iface ty x) 20 219 true).run Tryz.prog W = .ok (.tuple #[.iface ty x, .bool true]) W := fun W => run_typeAssert_has Tryz.underlying219 hi (List.isEmpty_iff.1 hl)
    clear hl hz hj
    go_enter Tryz.func101, Tryz.ntmps101
    go_wp2_with (fail)
    go_ret
    exact ⟨_, rfl, rfl⟩
  | false =>
    have h : ∀ W : World, (Instr.typeAssert (.iface ty x) 20 219 true).run Tryz.prog W = .ok (.tuple #[.nilIface, .bool false]) W := fun W => run_typeAssert_lacks Tryz.underlying219 hi hj hz (fun e => by rw [e] at hl; cases hl)
    clear hl hz hj
    go_enter Tryz.func101, Tryz.ntmps101
    go_wp2_with (fail)
    go_ret
    exact ⟨_, rfl, rfl⟩
set_option maxRecDepth 100000 in
theorem is_Nobody (ty : TypeId) (x : Value) (i : TypeInfo) (hi : Tryz.prog.info? ty = some i) (w : World) : Calls Tryz.prog 102 #[.iface ty x, .int .u8 18] w fun e w' => ∃ f : Int, e = .returned (.int .u32 f) ∧ w' = w := by
  obtain ⟨j, hj, hz⟩ := Option.map_eq_some_iff.1 (show (Tryz.prog.info? 221).map (·.zero) = some (some .nilIface) by kernel_rfl)
  cases hl : (lacking _ i.methods).isEmpty with
  | true =>
    have h : ∀ W : World, (Instr.typeAssert (.iface ty x) 20 221 true).run Tryz.prog W = .ok (.tuple #[.iface ty x, .bool true]) W := fun W => run_typeAssert_has Tryz.underlying221 hi (List.isEmpty_iff.1 hl)
    clear hl hz hj
    go_enter Tryz.func102, Tryz.ntmps102
    go_wp2_with (fail)
    go_ret
    exact ⟨_, rfl, rfl⟩
  | false =>
    have h : ∀ W : World, (Instr.typeAssert (.iface ty x) 20 221 true).run Tryz.prog W = .ok (.tuple #[.nilIface, .bool false]) W := fun W => run_typeAssert_lacks Tryz.underlying221 hi hj hz (fun e => by rw [e] at hl; cases hl)
    clear hl hz hj
    go_enter Tryz.func102, Tryz.ntmps102
    go_wp2_with (fail)
    go_ret
    exact ⟨_, rfl, rfl⟩
set_option maxRecDepth 100000 in
theorem is_any (ty : TypeId) (x : Value) (i : TypeInfo) (hi : Tryz.prog.info? ty = some i) (w : World) : Calls Tryz.prog 103 #[.iface ty x, .int .u8 19] w fun e w' => ∃ f : Int, e = .returned (.int .u32 f) ∧ w' = w := by
  obtain ⟨j, hj, hz⟩ := Option.map_eq_some_iff.1 (show (Tryz.prog.info? 20).map (·.zero) = some (some .nilIface) by kernel_rfl)
  cases hl : (lacking _ i.methods).isEmpty with
  | true =>
    have h : ∀ W : World, (Instr.typeAssert (.iface ty x) 20 20 true).run Tryz.prog W = .ok (.tuple #[.iface ty x, .bool true]) W := fun W => run_typeAssert_has Tryz.underlying20 hi (List.isEmpty_iff.1 hl)
    clear hl hz hj
    go_enter Tryz.func103, Tryz.ntmps103
    go_wp2_with (fail)
    go_ret
    exact ⟨_, rfl, rfl⟩
  | false =>
    have h : ∀ W : World, (Instr.typeAssert (.iface ty x) 20 20 true).run Tryz.prog W = .ok (.tuple #[.nilIface, .bool false]) W := fun W => run_typeAssert_lacks Tryz.underlying20 hi hj hz (fun e => by rw [e] at hl; cases hl)
    clear hl hz hj
    go_enter Tryz.func103, Tryz.ntmps103
    go_wp2_with (fail)
    go_ret
    exact ⟨_, rfl, rfl⟩
set_option maxRecDepth 100000 in
set_option maxHeartbeats 8000000 in
theorem held_any (ty : TypeId) (x : Value) (i : TypeInfo) (hi : Tryz.prog.info? ty = some i) (w : World) : Calls Tryz.prog 48 #[.iface ty x] w fun e w' => ∃ f : Int, e = .returned (.int .u32 f) ∧ w' = w := by
  go_enter Tryz.func48, Tryz.ntmps48
  go_wp2_with (go_at_call 85; (with_reducible refine (is_error ty x i hi _).mono ?_))
  rintro e w ⟨f0, rfl, rfl⟩
  go_wp2_with (go_at_call 86; (with_reducible refine (is_Grader ty x i hi _).mono ?_))
  rintro e w ⟨f1, rfl, rfl⟩
  go_wp2_with (go_at_call 87; (with_reducible refine (is_Coder ty x i hi _).mono ?_))
  rintro e w ⟨f2, rfl, rfl⟩
  go_wp2_with (go_at_call 88; (with_reducible refine (is_Weigher ty x i hi _).mono ?_))
  rintro e w ⟨f3, rfl, rfl⟩
  go_wp2_with (go_at_call 89; (with_reducible refine (is_Phaser ty x i hi _).mono ?_))
  rintro e w ⟨f4, rfl, rfl⟩
  go_wp2_with (go_at_call 90; (with_reducible refine (is_Timer ty x i hi _).mono ?_))
  rintro e w ⟨f5, rfl, rfl⟩
  go_wp2_with (go_at_call 91; (with_reducible refine (is_Liner ty x i hi _).mono ?_))
  rintro e w ⟨f6, rfl, rfl⟩
  go_wp2_with (go_at_call 92; (with_reducible refine (is_Detailer ty x i hi _).mono ?_))
  rintro e w ⟨f7, rfl, rfl⟩
  go_wp2_with (go_at_call 93; (with_reducible refine (is_One ty x i hi _).mono ?_))
  rintro e w ⟨f8, rfl, rfl⟩
  go_wp2_with (go_at_call 94; (with_reducible refine (is_Many ty x i hi _).mono ?_))
  rintro e w ⟨f9, rfl, rfl⟩
  go_wp2_with (go_at_call 95; (with_reducible refine (is_Judge ty x i hi _).mono ?_))
  rintro e w ⟨f10, rfl, rfl⟩
  go_wp2_with (go_at_call 96; (with_reducible refine (is_Lender ty x i hi _).mono ?_))
  rintro e w ⟨f11, rfl, rfl⟩
  go_wp2_with (go_at_call 97; (with_reducible refine (is_Kinder ty x i hi _).mono ?_))
  rintro e w ⟨f12, rfl, rfl⟩
  go_wp2_with (go_at_call 98; (with_reducible refine (is_Sizer ty x i hi _).mono ?_))
  rintro e w ⟨f13, rfl, rfl⟩
  go_wp2_with (go_at_call 99; (with_reducible refine (is_TimedError ty x i hi _).mono ?_))
  rintro e w ⟨f14, rfl, rfl⟩
  go_wp2_with (go_at_call 100; (with_reducible refine (is_CodedCause ty x i hi _).mono ?_))
  rintro e w ⟨f15, rfl, rfl⟩
  go_wp2_with (go_at_call 101; (with_reducible refine (is_Whole ty x i hi _).mono ?_))
  rintro e w ⟨f16, rfl, rfl⟩
  go_wp2_with (go_at_call 102; (with_reducible refine (is_Nobody ty x i hi _).mono ?_))
  rintro e w ⟨f17, rfl, rfl⟩
  go_wp2_with (go_at_call 103; (with_reducible refine (is_any ty x i hi _).mono ?_))
  rintro e w ⟨f18, rfl, rfl⟩
  go_wp2_with (fail)
  go_ret
  exact ⟨_, rfl, rfl⟩
end Go.Proofs.YtlggimmfaflfnaaGreatDoor.PK
