/- errors.Is at an *api.Fault and an api.Errno: the fault's own reason is found by one Unwrap (after the kit's worked text on errors.Is at sentinels). 6: how many package-level variables this seat's program has; 334: the number that its invocations of a reflectlite.Type bear. -/
import Derived.Test.YtbnlifldnjgpmaaGreatDoorProg
import Derived.WalkKit
import Derived.LaidEql
import Derived.Lib.IfaceEq
import Derived.Stop.Asserts
import Derived.RowKitTokens
namespace Go.Proofs.YtbnlifldnjgpmaaGreatDoor.ErrIs
open Go.RowKit Go.Extern.Stop Go.Stop Go.Extern
theorem isTypeOf (v : Value) (w : World) : (Extern.ReflectliteType.typeOf #[.iface 33 v]).run Tryz.prog w = .ok (.iface 141 (.agg #[.pointer (some ⟨6, 33, none⟩)])) w := by kernel_rfl
theorem isComparable (w : World) : ((Extern.ReflectliteType.method fun t => do Extern.Rtype.noPackHeld "Comparable" t; (fun a => Value.bool a.comparable) <$> typeInfo t) #[.agg #[.pointer (some ⟨6, 33, none⟩)]]).run Tryz.prog w = .ok (.bool true) w := by kernel_rfl
theorem isMethodComparable (v : Value) (w : World) : (Go.method 334 141 v "Comparable").run Tryz.prog w = .ok (147, v) w := by kernel_rfl
theorem isComp : (Tryz.prog.info? 33).map (·.comparable) = some true := by kernel_rfl
theorem noIsF (v : Value) (xT : TypeId) (w : World) : (Instr.typeAssert (.iface 75 v) xT 143 true).run Tryz.prog w = .ok (.tuple #[.nilIface, .bool false]) w := run_typeAssert_lacksB Tryz.underlying143 (by kernel_rfl) (by kernel_rfl) v xT w
theorem hasUnwrapF (v : Value) (xT : TypeId) (w : World) : (Instr.typeAssert (.iface 75 v) xT 146 true).run Tryz.prog w = .ok (.tuple #[.iface 75 v, .bool true]) w := run_typeAssert_hasB Tryz.underlying146 (by kernel_rfl) v xT w
theorem methodUnwrap (v : Value) (w : World) : (Go.method 334 75 v "Unwrap").run Tryz.prog w = .ok (141, v) w := by kernel_rfl
set_option maxHeartbeats 16000000 in
set_option maxRecDepth 1000000 in
/-- errors.Is of a fault and its reason. -/
theorem is_fault (a : Nat) (why : Int) (w : World) (ha : w.cell? ⟨a, 2, none⟩ = some (.int .i64 why)) :
 Calls Tryz.prog 22 #[.iface 75 (.pointer (some ⟨a, 0, none⟩)), .iface 33 (.int .i64 why)] w fun e w' => e = .returned (.bool true) ∧ w' = w := by
 obtain ⟨i, hi, hcmp⟩ := Option.map_eq_some_iff.1 isComp
 have h8 := @run_callFunc_extern Tryz.prog 49 _ Extern.ReflectliteType.typeOf Tryz.func49 (by kernel_rfl) (by kernel_rfl) (by kernel_rfl) (by kernel_rfl)
 have h32 := @run_callFunc_extern Tryz.prog 147 _ (Extern.ReflectliteType.method fun t => do Extern.Rtype.noPackHeld "Comparable" t; pure (.bool (← typeInfo t).comparable)) Tryz.func147 (by kernel_rfl) (by kernel_rfl) (by kernel_rfl) (by kernel_rfl)
 have tT := isTypeOf
 have cT := isComparable
 have mR := isMethodComparable
 have nE := noIsF
 have uE := hasUnwrapF
 have mU := methodUnwrap
 have hty := run_eql_iface_types (P := Tryz.prog) 75 33 (.pointer (some ⟨a, 0, none⟩)) (.int .i64 why) Tryz.underlying30 (by decide) w
 have heq := Lib.run_eql_iface_int (P := Tryz.prog) w (k := .i64) why why Tryz.underlying30 isComp Tryz.underlying33
 have hPk : (Extern.Rtype.noPackHeld "Comparable" 33).run Tryz.prog w = .ok () w := by kernel_rfl
 have hww : (why == why) = true := beq_self_eq_true why
 go_enter Tryz.func22, Tryz.ntmps22
 go_wp2
 refine wp_loop_rounds 2 ?_
 rw [rounds_succ]
 go_wp2
 rw [rounds_succ]
 go_wp2
 go_ret
 exact ⟨rfl, rfl⟩
end Go.Proofs.YtbnlifldnjgpmaaGreatDoor.ErrIs
