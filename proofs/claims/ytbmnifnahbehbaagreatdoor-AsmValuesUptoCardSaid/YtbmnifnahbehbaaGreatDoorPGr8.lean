/- errors.As at an *api.Fault (after the kit's worked text on errors.As at a pointer target): a nil error: false; an error that is an *api.Fault: true, and the target is set. (11: how many package-level variables this seat's program has; 343: the number that its invocations of a reflectlite.Type bear.) -/
import Derived.Test.YtbmnifnahbehbaaGreatDoorProg
import Derived.WalkKit
import Derived.LaidEql
import Derived.Stop.Asserts
import Derived.RowKitTokens
import Derived.Test.YtbmnifnahbehbaaGreatDoorPGr7
import Derived.Deep.DeepHandedRow
import Derived.Deep.DeepWitnessRowRef
import Derived.Deep.DeepLaidRun
import Derived.ProofKit
import Derived.SizedLaws
import Derived.LaidLaws
import Derived.LaidHandle
import Derived.Stop.LaidErr
import Derived.Test.YtbmnifnahbehbaaGreatDoorRows
import Derived.Test.YtbmnifnahbehbaaGreatDoorPWds1
import Derived.ChangeArms
import Derived.DataReads
namespace Go.Proofs.YtbmnifnahbehbaaGreatDoor.ErrAs
open Go.RowKit Go.Extern.Stop Go.Stop Go.Extern

/-- errors.As(nil, target). -/
theorem as_nil (t : Value) (w : World) :
    Calls Tryz.prog 17 #[.nilIface, t] w fun e w' => e = .returned (.bool false) ∧ w' = w := by
  go_enter Tryz.func17, Tryz.ntmps17
  go_wp2
  go_ret
  exact ⟨rfl, rfl⟩

/-! ### CLOSED FACTS ON THE MODEL's ENTRIES FOR internal/reflectlite, at this program's types: 25: *p.E · 27: **p.E · 23: error · 45: reflectlite's rtype · 1: how many package-level variables the dump has -/
theorem valueOf27 (t : Addr) (w : World) : (ReflectliteValue.unpack (.iface 72 (.pointer (some t)))).run Tryz.prog w
    = .ok (.agg #[.pointer (some ⟨11, 72, none⟩), .pointer (some ⟨w.heap.size, 0, none⟩), .int .u64 150]) (w.alloc (.cells #[.pointer (some t)] 72)) := by kernel_rfl
theorem type27 (a : Addr) (w : World) : (ReflectliteValue.methodAny (ReflectliteValue.valueError "reflectlite.Value.Type" 0) (fun t _ _ _ => ReflectliteType.toType t) #[.agg #[.pointer (some ⟨11, 72, none⟩), .pointer (some a), .int .u64 150]]).run Tryz.prog w
    = .ok (.iface 138 (.agg #[.pointer (some ⟨11, 72, none⟩)])) w := by kernel_rfl
theorem methodKind (h : Value) (w : World) : (Go.method 343 138 (.agg #[h]) "Kind").run Tryz.prog w = .ok (113, h) w := by kernel_rfl
theorem kind27 (w : World) : ((ReflectliteType.abiMethod fun t => (fun a : Nat => Value.int IntKind.u8 (a : Int)) <$> Rtype.kind t) #[.pointer (some ⟨11, 72, none⟩)]).run Tryz.prog w = .ok (.int .u8 22) w := by kernel_rfl
theorem kind25 (w : World) : ((ReflectliteType.abiMethod fun t => (fun a : Nat => Value.int IntKind.u8 (a : Int)) <$> Rtype.kind t) #[.pointer (some ⟨11, 39, none⟩)]).run Tryz.prog w = .ok (.int .u8 22) w := by kernel_rfl

/-! ### THE ENTRIES THAT READ OR WRITE MEMORY: laws with a premise on the cell (after Derived/Lib/ReflectliteSlice.lean's manner: each unfolding a lemma of its own, by rfl) -/
theorem rlm (z : Sem Value) (f : TypeId → Addr → Nat → Nat → Sem Value) (v : Value) :
    ReflectliteValue.method z f #[v] = (do match ← ReflectliteValue.parts v with | none => z | some (t, a, fl) => f t a fl (fl % 32)) := rfl
theorem parts27 (a : Addr) (w : World) : (ReflectliteValue.parts (.agg #[.pointer (some ⟨11, 72, none⟩), .pointer (some a), .int .u64 150])).run Tryz.prog w = .ok (some (72, a, 150)) w := by kernel_rfl
/-- (Value).IsNil at the Value of a **p.E that is not nil. -/
theorem isNil27 (a p : Addr) (W : World) (ha : W.cell? a = some (.pointer (some p))) :
    (ReflectliteValue.method (ReflectliteValue.valueError "reflectlite.Value.IsNil" 0) ReflectliteValue.isNil #[.agg #[.pointer (some ⟨11, 72, none⟩), .pointer (some a), .int .u64 150]]).run Tryz.prog W = .ok (.bool false) W := by
  rw [rlm]
  simp only [Sem.run_bind, parts27, Result.andThen]
  simp [ReflectliteValue.isNil, loadVar, isAgg, underlying, Tryz.underlying72, ha, Result.andThen]

theorem methodElem (h : Value) (w : World) : (Go.method 343 138 (.agg #[h]) "Elem").run Tryz.prog w = .ok (126, .agg #[h]) w := by kernel_rfl
theorem methodImplements (h : Value) (w : World) : (Go.method 343 138 (.agg #[h]) "Implements").run Tryz.prog w = .ok (127, .agg #[h]) w := by kernel_rfl
theorem methodAssignableTo (h : Value) (w : World) : (Go.method 343 138 (.agg #[h]) "AssignableTo").run Tryz.prog w = .ok (124, .agg #[h]) w := by kernel_rfl
theorem elem27 (w : World) : (ReflectliteType.method ReflectliteType.elem #[.agg #[.pointer (some ⟨11, 72, none⟩)]]).run Tryz.prog w = .ok (.iface 138 (.agg #[.pointer (some ⟨11, 39, none⟩)])) w := by kernel_rfl
theorem implements25 (w : World) : (ReflectliteType.relation "Implements" ReflectliteType.implements_ #[.agg #[.pointer (some ⟨11, 39, none⟩)], .iface 138 (.agg #[.pointer (some ⟨11, 25, none⟩)])]).run Tryz.prog w = .ok (.bool true) w := by kernel_rfl
theorem typeOf25 (v : Value) (w : World) : (ReflectliteType.typeOf #[.iface 39 v]).run Tryz.prog w = .ok (.iface 138 (.agg #[.pointer (some ⟨11, 39, none⟩)])) w := by kernel_rfl
theorem assignable25 (w : World) : (ReflectliteType.relation "AssignableTo" ReflectliteType.assignableTo #[.agg #[.pointer (some ⟨11, 39, none⟩)], .iface 138 (.agg #[.pointer (some ⟨11, 39, none⟩)])]).run Tryz.prog w = .ok (.bool true) w := by kernel_rfl
theorem valueOf25 (e : Addr) (w : World) : (ReflectliteValue.unpack (.iface 39 (.pointer (some e)))).run Tryz.prog w
    = .ok (.agg #[.pointer (some ⟨11, 39, none⟩), .pointer (some ⟨w.heap.size, 0, none⟩), .int .u64 150]) (w.alloc (.cells #[.pointer (some e)] 39)) := by kernel_rfl

theorem elemOf27 (w : World) : (Rtype.elem? 72).run Tryz.prog w = .ok (some 39) w := by kernel_rfl
theorem mk25 (p : Addr) (w : World) : (ReflectliteValue.mk 39 p ReflectliteValue.flagAddr).run Tryz.prog w = .ok (.agg #[.pointer (some ⟨11, 39, none⟩), .pointer (some p), .int .u64 406]) w := by kernel_rfl
/-- (Value).Elem at the Value of a **p.E that is not nil: the Value of the *p.E variable that it points to, addressable. -/
theorem elemV27 (a p : Addr) (W : World) (ha : W.cell? a = some (.pointer (some p))) :
    (ReflectliteValue.method (ReflectliteValue.valueError "reflectlite.Value.Elem" 0) ReflectliteValue.elem #[.agg #[.pointer (some ⟨11, 72, none⟩), .pointer (some a), .int .u64 150]]).run Tryz.prog W
      = .ok (.agg #[.pointer (some ⟨11, 39, none⟩), .pointer (some p), .int .u64 406]) W := by
  rw [rlm]
  simp only [Sem.run_bind, parts27, Result.andThen]
  simp [ReflectliteValue.elem, loadVar, isAgg, underlying, Tryz.underlying72, ha, Result.andThen, elemOf27, mk25]
theorem rls (v x : Value) : ReflectliteValue.set #[v, x] = (do
    let (some (dst, a, fl), some (src, b, _)) := (← ReflectliteValue.parts v, ← ReflectliteValue.parts x)
      | unsupported (.noEntry "extern/(internal/reflectlite.Value).Set.zeroValue")
    if fl / ReflectliteValue.flagAddr % 2 == 0 then unsupported (.noEntry "extern/(internal/reflectlite.Value).Set.unaddressable")
    let val ← loadVar src b
    if ← Rtype.directlyAssignable dst src then storeVar dst a val
    else if ← Rtype.implements dst src then
      if (← Rtype.kind src) == 20 then
        match val with
        | .nilIface => unsupported (.noEntry "extern/reflectlite: a nil value of one interface type handed on as a value of another")
        | _ => storeVar dst a val
      else storeVar dst a (.iface src val)
    else panicString ("reflectlite.Set: value of type " ++ (← Rtype.spelt src) ++ " is not assignable to type " ++ (← Rtype.spelt dst))
    pure (.tuple #[])) := rfl
theorem parts25a (a : Addr) (w : World) : (ReflectliteValue.parts (.agg #[.pointer (some ⟨11, 39, none⟩), .pointer (some a), .int .u64 406])).run Tryz.prog w = .ok (some (39, a, 406)) w := by kernel_rfl
theorem parts25 (a : Addr) (w : World) : (ReflectliteValue.parts (.agg #[.pointer (some ⟨11, 39, none⟩), .pointer (some a), .int .u64 150])).run Tryz.prog w = .ok (some (39, a, 150)) w := by kernel_rfl
theorem direct25 (w : World) : (Rtype.directlyAssignable 39 39).run Tryz.prog w = .ok true w := by kernel_rfl
theorem size25 (w : World) : (sizeOf 39).run Tryz.prog w = .ok 1 w := by kernel_rfl
/-- (Value).Set: the *p.E variable at 'ta' gets what the Value's own variable 'b' holds. -/
theorem set25 (ta b e : Addr) (old : Value) (W : World) (hb : W.cell? b = some (.pointer (some e))) (ht : W.cell? ta = some old) (hf : W.frozen? ta = false) :
    (ReflectliteValue.set #[.agg #[.pointer (some ⟨11, 39, none⟩), .pointer (some ta), .int .u64 406], .agg #[.pointer (some ⟨11, 39, none⟩), .pointer (some b), .int .u64 150]]).run Tryz.prog W
      = .ok (.tuple #[]) (W.setCell ta (.pointer (some e))) := by
  rw [rls]
  simp only [Sem.run_bind, parts25a, parts25, Result.andThen]
  simp [ReflectliteValue.flagAddr, loadVar, isAgg, underlying, Tryz.underlying39, hb, Result.andThen, direct25, storeVar, Value.cells, storeCells, Addr.add]
  rw [run_store Tryz.prog W ta _ _ (by rfl)]
  simp [ht, hf]

set_option maxRecDepth 1000000 in
set_option maxHeartbeats 8000000 in
theorem as_hit (e t : Addr) (old : Value) (w : World) (hg : w.cell? ⟨0, 0, none⟩ = some (.iface 138 (.agg #[.pointer (some ⟨11, 25, none⟩)]))) (ht0 : w.cell? t = some old) (hf0 : w.frozen? t = false) :
    Calls Tryz.prog 17 #[.iface 39 (.pointer (some e)), .iface 72 (.pointer (some t))] w fun ev w' => ev = .returned (.bool true) ∧ w' = ((((w.alloc (.cells #[.pointer (some t)] 72)).alloc (.cells #[.pointer (some ⟨11, 72, none⟩), .pointer (some ⟨w.heap.size, 0, none⟩), .int .u64 150] 104)).alloc (.cells #[.pointer (some ⟨11, 72, none⟩), .pointer (some ⟨w.heap.size, 0, none⟩), .int .u64 150] 104)).alloc (.cells #[.pointer (some e)] 39)).setCell t (.pointer (some e)) := by
  have h6 := @run_callFunc_extern Tryz.prog 32 _ (fun args => ReflectliteValue.unpack (args.getD 0 (.tuple #[]))) Tryz.func32 (by kernel_rfl) (by kernel_rfl) (by kernel_rfl) (by kernel_rfl)
  have h7 := @run_callFunc_extern Tryz.prog 33 _ (ReflectliteValue.methodAny (ReflectliteValue.valueError "reflectlite.Value.Type" 0) (fun t _ _ _ => ReflectliteType.toType t)) Tryz.func33 (by kernel_rfl) (by kernel_rfl) (by kernel_rfl) (by kernel_rfl)
  have h8 := @run_callFunc_extern Tryz.prog 34 _ (ReflectliteValue.method (ReflectliteValue.valueError "reflectlite.Value.IsNil" 0) ReflectliteValue.isNil) Tryz.func34 (by kernel_rfl) (by kernel_rfl) (by kernel_rfl) (by kernel_rfl)
  have h27 := @run_callFunc_extern Tryz.prog 113 _ (ReflectliteType.abiMethod fun t => do pure (.int .u8 (← Rtype.kind t))) Tryz.func113 (by kernel_rfl) (by kernel_rfl) (by kernel_rfl) (by kernel_rfl)
  have h37 := @run_callFunc_extern Tryz.prog 126 _ (ReflectliteType.method ReflectliteType.elem) Tryz.func126 (by kernel_rfl) (by kernel_rfl) (by kernel_rfl) (by kernel_rfl)
  have h38 := @run_callFunc_extern Tryz.prog 127 _ (ReflectliteType.relation "Implements" ReflectliteType.implements_) Tryz.func127 (by kernel_rfl) (by kernel_rfl) (by kernel_rfl) (by kernel_rfl)
  have h10 := @run_callFunc_extern Tryz.prog 56 _ ReflectliteType.typeOf Tryz.func56 (by kernel_rfl) (by kernel_rfl) (by kernel_rfl) (by kernel_rfl)
  have h35 := @run_callFunc_extern Tryz.prog 124 _ (ReflectliteType.relation "AssignableTo" ReflectliteType.assignableTo) Tryz.func124 (by kernel_rfl) (by kernel_rfl) (by kernel_rfl) (by kernel_rfl)
  have h11 := @run_callFunc_extern Tryz.prog 57 _ (ReflectliteValue.method (ReflectliteValue.valueError "reflectlite.Value.Elem" 0) ReflectliteValue.elem) Tryz.func57 (by kernel_rfl) (by kernel_rfl) (by kernel_rfl) (by kernel_rfl)
  have h12 := @run_callFunc_extern Tryz.prog 58 _ ReflectliteValue.set Tryz.func58 (by kernel_rfl) (by kernel_rfl) (by kernel_rfl) (by kernel_rfl)
  have tO := typeOf25
  have mA := methodAssignableTo
  have a25 := assignable25
  have v25 := valueOf25
  have f6 := valueOf27
  have f7 := type27
  have mK := methodKind
  have mE := methodElem
  have mI := methodImplements
  have k27 := kind27
  have k25 := kind25
  have e27 := elem27
  have i25 := implements25
  have n8 := isNil27 ⟨w.heap.size, 0, none⟩ t ((w.alloc (.cells #[.pointer (some t)] 72)).alloc (.cells #[.pointer (some ⟨11, 72, none⟩), .pointer (some ⟨w.heap.size, 0, none⟩), .int .u64 150] 104)) (by simp)
  have hlt : 0 < w.heap.size := by
    rcases Nat.eq_zero_or_pos w.heap.size with h0 | h
    · simp [World.cell?, h0] at hg
    · exact h
  have hg2 : ((w.alloc (.cells #[.pointer (some t)] 72)).alloc (.cells #[.pointer (some ⟨11, 72, none⟩), .pointer (some ⟨w.heap.size, 0, none⟩), .int .u64 150] 104)).cell? ⟨0, 0, none⟩ = some (.iface 138 (.agg #[.pointer (some ⟨11, 25, none⟩)])) := by
    rw [World.cell?_alloc_lt _ _ ⟨0, 0, none⟩ (by simp), World.cell?_alloc_lt _ _ ⟨0, 0, none⟩ hlt]; exact hg
  have htl : t.block < w.heap.size := by
    rcases Nat.lt_or_ge t.block w.heap.size with h | h
    · exact h
    · simp [World.cell?, Array.getElem?_eq_none h] at ht0
  have el := elemV27 ⟨w.heap.size, 0, none⟩ t (((w.alloc (.cells #[.pointer (some t)] 72)).alloc (.cells #[.pointer (some ⟨11, 72, none⟩), .pointer (some ⟨w.heap.size, 0, none⟩), .int .u64 150] 104)).alloc (.cells #[.pointer (some ⟨11, 72, none⟩), .pointer (some ⟨w.heap.size, 0, none⟩), .int .u64 150] 104)) (by rw [World.cell?_alloc_lt _ _ ⟨w.heap.size, 0, none⟩ (by simp; omega)]; simp)
  have st := set25 t ⟨w.heap.size + 1 + 1 + 1, 0, none⟩ e old ((((w.alloc (.cells #[.pointer (some t)] 72)).alloc (.cells #[.pointer (some ⟨11, 72, none⟩), .pointer (some ⟨w.heap.size, 0, none⟩), .int .u64 150] 104)).alloc (.cells #[.pointer (some ⟨11, 72, none⟩), .pointer (some ⟨w.heap.size, 0, none⟩), .int .u64 150] 104)).alloc (.cells #[.pointer (some e)] 39))
    (by rw [World.cell?_alloc_at _ _ _ _ (by simp)]; rfl)
    (by rw [World.cell?_alloc_lt _ _ t (by simp; omega), World.cell?_alloc_lt _ _ t (by simp; omega), World.cell?_alloc_lt _ _ t (by simp; omega), World.cell?_alloc_lt _ _ t htl]; exact ht0)
    (by rw [World.frozen?_alloc_old _ _ t (by simp; omega), World.frozen?_alloc_old _ _ t (by simp; omega), World.frozen?_alloc_old _ _ t (by simp; omega), World.frozen?_alloc_old _ _ t (Nat.ne_of_lt htl)]; exact hf0)
  go_enter Tryz.func17, Tryz.ntmps17
  go_wp2
  refine wp_loop_rounds 1 ?_
  rw [rounds_succ]
  go_wp2
  go_ret
  exact ⟨rfl, rfl⟩
end Go.Proofs.YtbmnifnahbehbaaGreatDoor.ErrAs

/- anvillaw08.place: the place and the reason that an error tells; anvillaw08.num. -/
set_option linter.unusedVariables false
set_option linter.unusedSimpArgs false
namespace Go.Proofs.YtbmnifnahbehbaaGreatDoor
open Go.RowKit Go.Lib Go.Proofs.YtbmnifnahbehbaaGreatDoorW.PrintWords Go.Proofs.YtbmnifnahbehbaaGreatDoorW.PrintMore Go.Proofs.YtbmnifnahbehbaaGreatDoorW.PrintLast
/-- errors.errorType stands as its initialiser laid it. -/
def ErrT (w : World) : Prop := w.cell? ⟨0, 0, none⟩ = some (.iface 138 (.agg #[.pointer (some ⟨11, 25, none⟩)]))
theorem ErrT.lt {w : World} (h : ErrT w) : 0 < w.heap.size := World.block_lt_of_cell? w _ h
theorem ErrT.below {w W : World} (h : ErrT w) (hb : Below w.heap.size w W) : ErrT W := (hb.cell (p := ⟨0, 0, none⟩) h.lt).trans h
set_option maxRecDepth 1000000 in
set_option maxHeartbeats 8000000 in
theorem place_nil (w : World) : Calls Tryz.prog 6 #[.nilIface] w fun e w' => e = .returned (.tuple #[.agg #[.int .i64 0, .int .i64 0, .int .i64 0], .bool true]) ∧ Below w.heap.size w w' := by
  go_enter Tryz.func6, Tryz.ntmps6
  go_wp2
  refine bodyPost_ret (results_ct (fn := Tryz.f6) (p := 2) (u := 3) (ty := 30) rfl _ _ w.heap.size 30 #[.int .i64 0, .int .i64 0, .int .i64 0] (0, 0) _ rfl (blk_new _ _) Tryz.underlying30 rfl (by kernel_rfl)) rfl ?_
  exact ⟨rfl, (Below.refl _ _).alloc (Nat.le_refl _) _⟩
set_option maxRecDepth 1000000 in
set_option maxHeartbeats 8000000 in
theorem place_hit (a : Nat) (at_ why : Int) (w : World) (hE : ErrT w) (ha : w.heap[a]? = some (Obj.cells #[.int .i64 0, .int .i64 at_, .int .i64 why] 30)) :
    Calls Tryz.prog 6 #[.iface 39 (.pointer (some ⟨a, 0, none⟩))] w fun e w' => e = .returned (.tuple #[.agg #[.int .i64 0, .int .i64 at_, .int .i64 why], .bool true]) ∧ Below w.heap.size w w' := by
  have hc1 : Tryz.prog.concrete 39 = true := by kernel_rfl
  have hc2 : Tryz.prog.concrete 72 = true := by kernel_rfl
  have ha0 := blk_lt ha
  obtain ⟨W0, hW0⟩ : ∃ W0 : World, W0 = w.alloc (.cells #[.int .i64 0, .int .i64 0, .int .i64 0] 30) := ⟨_, rfl⟩
  have hs0 : W0.heap.size = w.heap.size + 1 := by rw [hW0]; simp
  have hb0 : Below w.heap.size w W0 := by rw [hW0]; exact (Below.refl _ _).alloc (Nat.le_refl _) _
  have hx0 : W0.heap[w.heap.size]? = some (.cells #[.int .i64 0, .int .i64 0, .int .i64 0] 30 (0, 0)) := by rw [hW0]; exact blk_new _ _
  have CA0 := ErrAs.as_hit ⟨a, 0, none⟩ ⟨W0.heap.size, 0, none⟩ (.pointer none) (W0.alloc (.cells #[.pointer none] 39)) (hE.below (hb0.alloc hb0.size _)) (by simp) (by simp)
  have CA1 := CA0.mono (R' := fun e w' => e = .returned (.bool true) ∧ w'.cell? ⟨W0.heap.size, 0, none⟩ = some (.pointer (some ⟨a, 0, none⟩)) ∧ Below W0.heap.size W0 w') (by
    rintro e w' ⟨rfl, rfl⟩
    refine ⟨rfl, ?_, ?_⟩
    · exact blk_cell (blk_set (blk_alloc (blk_alloc (blk_alloc (blk_alloc (blk_new W0 (.cells #[.pointer none] 39)) _) _) _) _) 0 (.pointer (some ⟨a, 0, none⟩))) 0
    · refine Below.setCell (p := ⟨W0.heap.size, 0, none⟩) ?_ (Nat.le_refl _) _
      repeat (first | exact Below.refl _ _ | (refine Below.alloc ?_ (by simp <;> omega) _)))
  have CA := Lib.hid (CA1.mono (R' := fun e w' => e = .returned (.bool true) ∧ w'.cell? ⟨w.heap.size + 1, 0, none⟩ = some (.pointer (some ⟨a, 0, none⟩)) ∧ Below w.heap.size w w' ∧ w'.heap[w.heap.size]? = some (.cells #[.int .i64 0, .int .i64 0, .int .i64 0] 30 (0, 0))) (by
    rintro e w' ⟨rfl, h2, h3⟩
    exact ⟨rfl, hs0 ▸ h2, hb0.trans (h3.mono hb0.size), blk_below hx0 h3⟩))
  rw [hs0, hW0] at CA
  clear CA0 CA1 hx0 hb0 hs0 hW0
  have HA := Lib.hid ha
  clear hE
  go_enter Tryz.func6, Tryz.ntmps6
  go_wp2_with (go_at_call 17; refine CA.out.mono ?_; rintro e w1 ⟨rfl, hc, hb, hx⟩; have HX := Lib.hid hx; have c0 := blk_cell hx 0; have c1 := blk_cell hx 1; have c2 := blk_cell hx 2; have z0 := blk_frozen hx 0; have z1 := blk_frozen hx 1; have z2 := blk_frozen hx 2; clear hx; have HB := Lib.hid hb; have hB := (hb.block a ha0).trans HA.out; have d0 := blk_cell hB 0; have d1 := blk_cell hB 1; have d2 := blk_cell hB 2; clear hb hB)
  have p3 := blk_set (blk_set (blk_set HX.out 0 (.int .i64 0)) 1 (.int .i64 at_)) 2 (.int .i64 why)
  have k3 := ((HB.out.setCell (p := ⟨w.heap.size, 0, none⟩) (Nat.le_refl _) (.int .i64 0)).setCell (p := ⟨w.heap.size, 1, none⟩) (Nat.le_refl _) (.int .i64 at_)).setCell (p := ⟨w.heap.size, 2, none⟩) (Nat.le_refl _) (.int .i64 why)
  refine bodyPost_ret (results_ct (fn := Tryz.f6) (p := 2) (u := 3) (ty := 30) rfl _ _ w.heap.size 30 #[.int .i64 0, .int .i64 at_, .int .i64 why] (0, 0) _ rfl p3 Tryz.underlying30 rfl (by kernel_rfl)) rfl ?_
  exact ⟨rfl, k3⟩
theorem num_c (y : Int) (w : World) : Calls Tryz.prog 7 #[.int .i64 y] w fun e w' => e = .returned (.int .i64 y) ∧ w' = w := by
  go_enter Tryz.func7, Tryz.ntmps7
  go_wp2
  go_ret
  exact ⟨rfl, rfl⟩
end Go.Proofs.YtbmnifnahbehbaaGreatDoor

/- The law's walk: AsmValues. -/
set_option linter.unusedVariables false
set_option linter.unusedSimpArgs false
namespace Go.Proofs.YtbmnifnahbehbaaGreatDoor
open Go.RowKit Go.Lib Go.Proofs.YtbmnifnahbehbaaGreatDoorW.PrintWords Go.Proofs.YtbmnifnahbehbaaGreatDoorW.PrintMore Go.Proofs.YtbmnifnahbehbaaGreatDoorW.PrintLast
open AvP
theorem info37 : (Tryz.prog.info? 37).map (fun i => (i.zero, i.size, i.bytes)) = some (some (.agg #[.string ⟨#[]⟩, .int .u64 0]), 2, 24) := by kernel_rfl
theorem k37_KM {w W : World} {base : Nat} {ok : Nat → Prop} {x : ByteArray × Int} {cs : List Value} (h : k37.K w x cs) : k37.M W base ok x cs := by
  obtain ⟨_, _, rfl, rfl, rfl⟩ := h
  exact ⟨[.string x.1], [.int .u64 x.2], rfl, rfl, rfl⟩
theorem empty_R (w : World) : Kd.R k37 37 (w.alloc (.cells #[] 37)) w.heap.size (fun _ => True) (.slice (some ⟨w.heap.size, 0, none⟩) 0 0) [] :=
  ⟨fun _ _ => trivial, [], ⟨rfl, .inr ⟨w.heap.size, 0, #[], rfl, Nat.le_refl _, blk_new w _, Nat.le_refl _, by decide, rfl, rfl⟩⟩, rfl, fun j p hj => by cases hj⟩
set_option maxHeartbeats 8000000 in
set_option maxRecDepth 100000 in
theorem asmValues_c {w : World} {s : ByteArray} {A : Option Addr} {n cp : Nat} {nl : List (ByteArray × Int)} (hG : Glob w) (hE : ErrT w) (hl : Kd.C k37 w A n nl) (hn : n ≤ 1000000000) (hr : ∀ y ∈ nl, 0 ≤ y.2 ∧ y.2 < 18446744073709551616) :
    Calls Tryz.prog 3 #[.string s, .slice A n cp] w fun e w' => e = .returned (.bool true) ∧ Below w.heap.size w w' := by
  obtain ⟨R, hR⟩ := valA_ex s (named nl)
  have HH := Lib.hid (And.intro hG (And.intro hE (And.intro hl (And.intro hn (And.intro hr hR)))))
  have hln : nl.length = n := hl.1
  have HLN := Lib.hid hln
  clear hG hE hl hr hR hln
  go_enter Tryz.func3, Tryz.ntmps3
  go_upto_region 2 with (first
    | ((with_reducible refine gate_builtin (b := .append) (xs := #[.tmp 13, .tmp 14]) rfl ?_)
       at_builtin
       refine Kd.R_append_rows k37 (Rr := k37.K w) (w0 := w) (W := w.alloc (.cells #[] 37)) w.heap.size rfl (.tmp 13) (.tmp 14) 22 37 (.agg #[.string ⟨#[]⟩, .int .u64 0]) 24 rfl Tryz.underlying22 info37 rfl (by decide) (by omega) (.slice (some ⟨w.heap.size, 0, none⟩) 0 0) [] nl A n cp (fun _ => True) (fun _ => False) (by first | (go_simp; done) | (go_simp; rfl)) (by first | (go_simp; done) | (go_simp; rfl)) (empty_R w) (Kd.C_below HH.out.2.2.1 ((Below.refl _ w).alloc (Nat.le_refl _) _)) (fun _ _ h => k37_KM h) (fun _ hk => hk.elim) (fun _ _ => trivial) ((Below.refl _ w).alloc (Nat.le_refl _) _) (((Below.refl w.heap.size w).alloc (Nat.le_refl _) (.cells #[] 37)).size) (by simp; omega) ?_
       intro v1 w1 ho hb hg hat
       have H1 := Lib.hid (And.intro ho hb)
       clear ho hb hg hat))
  obtain ⟨B, c2, hv1⟩ : ∃ B c2, v1 = .slice B n c2 ∧ Kd.C k37 w1 B n nl := by
    have h := H1.out.1
    rw [List.nil_append] at h
    obtain ⟨B, c2, rfl⟩ := Kd.R_slice h
    refine ⟨B, c2, by rw [HLN.out], ?_⟩
    have := (Kd.R_reads' h).2.2
    rw [HLN.out] at this
    exact this
  obtain ⟨rfl, hC1⟩ := hv1
  have HC1 := Lib.hid (And.intro hC1 H1.out.2)
  clear hC1 H1
  match R, HH with
  | .ok xv, HH =>
    have hA4 := valueA_c (cp := c2) (R := .ok xv) (Glob.step HH.out.1 HC1.out.2) HC1.out.1 HH.out.2.2.2.1 HH.out.2.2.2.2.1 HH.out.2.2.2.2.2
    have HA4 := Lib.hid hA4
    clear hA4
    go_upto_region 3 with (first
      | (go_at_call 4; refine HA4.out.mono ?_; rintro e5 w5 ⟨rfl, hb5⟩; have HS5 := Lib.hid (And.intro (Kd.C_below HC1.out.1 hb5) (HC1.out.2.trans (hb5.mono HC1.out.2.size))); clear hb5))
    have hA5 := valueD_c (w := w5) (cp := cp) (R := .ok xv) (Glob.step HH.out.1 HS5.out.2) (Kd.C_below HH.out.2.2.1 HS5.out.2) HH.out.2.2.2.1 HH.out.2.2.2.2.1 HH.out.2.2.2.2.2
    have HA5 := Lib.hid hA5
    clear hA5
    go_upto_region 4 with (first
      | (go_at_call 5; refine HA5.out.mono ?_; rintro e6 w6 ⟨rfl, hb6⟩; have HS6 := Lib.hid (And.intro (Kd.C_below HS5.out.1 (hb6.alloc hb6.size (.cells #[.int .i64 0, .int .i64 0, .int .i64 0] 30))) (And.intro (HS5.out.2.trans ((hb6.alloc hb6.size (.cells #[.int .i64 0, .int .i64 0, .int .i64 0] 30)).mono HS5.out.2.size)) (blk_new w6 (.cells #[.int .i64 0, .int .i64 0, .int .i64 0] 30)))); clear hb6))
    obtain ⟨wA, hwA⟩ : ∃ q, w6.alloc (.cells #[.int .i64 0, .int .i64 0, .int .i64 0] 30) = q := ⟨_, rfl⟩
    obtain ⟨g1, hg1⟩ : ∃ q, w6.heap.size = q := ⟨_, rfl⟩
    rw [hwA, hg1] at HS6 ⊢

    clear hwA hg1
    have HP := Lib.hid (place_nil wA)
    go_upto_region 5 with (first
      | (go_at_call 6; refine HP.out.mono ?_; rintro e7 w7 ⟨rfl, hb7⟩; have HS7 := Lib.hid (And.intro (Kd.C_below HS6.out.1 (hb7.alloc hb7.size (.cells #[.int .i64 0, .int .i64 0, .int .i64 0] 30))) (And.intro (HS6.out.2.1.trans ((hb7.alloc hb7.size (.cells #[.int .i64 0, .int .i64 0, .int .i64 0] 30)).mono HS6.out.2.1.size)) (And.intro (blk_below HS6.out.2.2 (hb7.alloc hb7.size (.cells #[.int .i64 0, .int .i64 0, .int .i64 0] 30))) (blk_new w7 (.cells #[.int .i64 0, .int .i64 0, .int .i64 0] 30))))); clear hb7))
    obtain ⟨wB, hwB⟩ : ∃ q, w7.alloc (.cells #[.int .i64 0, .int .i64 0, .int .i64 0] 30) = q := ⟨_, rfl⟩
    obtain ⟨g2, hg2⟩ : ∃ q, w7.heap.size = q := ⟨_, rfl⟩
    rw [hwB, hg2] at HS7 ⊢
    clear hwB hg2
    have d0 := blk_cell HS7.out.2.2.1 0
    have d1 := blk_cell HS7.out.2.2.1 1
    have d2 := blk_cell HS7.out.2.2.1 2
    have c0 := blk_cell HS7.out.2.2.2 0
    have c1 := blk_cell HS7.out.2.2.2 1
    have c2 := blk_cell HS7.out.2.2.2 2
    have HNM := Lib.hid (fun W => num_c 0 W)

    go_region_held2 (fun w' => w'.cell? ⟨g1, 0, none⟩ = some (.int .i64 0) ∧ w'.cell? ⟨g1, 1, none⟩ = some (.int .i64 0) ∧ w'.cell? ⟨g1, 2, none⟩ = some (.int .i64 0) ∧ w'.cell? ⟨g2, 0, none⟩ = some (.int .i64 0) ∧ w'.cell? ⟨g2, 1, none⟩ = some (.int .i64 0) ∧ w'.cell? ⟨g2, 2, none⟩ = some (.int .i64 0)) (first | exact ⟨d0, d1, d2, c0, c1, c2⟩ | go_keep) (first
      | (go_at_call 7; refine (HNM.out _).mono ?_; rintro e8 w8 ⟨rfl, rfl⟩))
    have HX0 := Lib.hid (And.intro (Kd.C_below HS7.out.1 (below_drew (Below.refl _ _))) (below_drew HS7.out.2.1))
    clear d0 d1 d2 c0 c1 c2
    go_wp2
    go_loopg [12] n (fun gm v12 wx => ∃ i : Nat, .int .i64 (i : Int) = v12 ∧ i ≤ n ∧ Hid (gm + i = n) ∧ Hid (Kd.C k37 wx B n nl ∧ Below w.heap.size w wx))
    case atStart => exact ⟨0, rfl, Nat.zero_le _, Lib.hid rfl, HX0⟩
    case round =>
      obtain ⟨i, rfl, hi, HI, HX⟩ := hrel
      by_cases h1 : i < n
      · obtain ⟨x, hx⟩ : ∃ x, nl[i]? = some x := ⟨_, List.getElem?_eq_getElem (by rw [HLN.out]; exact h1)⟩
        obtain ⟨ad, rfl, _, c0, c1⟩ := name_at HX.out.1 hx
        obtain ⟨ae, rfl, _, d0, d1⟩ := name_at (Kd.C_below HH.out.2.2.1 HX.out.2) hx
        have q1 : decide ((i : Int) < (n : Int)) = true := by simp [h1]
        have q2 : (0 : Int) ≤ (i : Int) := by omega
        have q3 : (i : Int) < (n : Int) := by omega
        have e1 : IntKind.i64.wrap ((i : Int) + 1) = ((i + 1 : Nat) : Int) := by rw [IntKind.wrap_i64]; omega
        obtain ⟨gm, rfl⟩ : ∃ q, gk = q + 1 := ⟨gk - 1, by have := HI.out; omega⟩
        have hself : (x.1.toList == x.1.toList) = true := beq_self_eq_true _
        clear hx
        go_upto_region 10 with (fail)
        go_region_held2 (fun w' => w'.cell? (ad.add (i * 2)) = some (.string x.1) ∧ w'.cell? ⟨(ad.add (i * 2)).block, (ad.add (i * 2)).off + 1, none⟩ = some (.int .u64 x.2) ∧ w'.cell? (ae.add (i * 2)) = some (.string x.1) ∧ w'.cell? ⟨(ae.add (i * 2)).block, (ae.add (i * 2)).off + 1, none⟩ = some (.int .u64 x.2)) (first | exact ⟨c0, c1, d0, d1⟩ | go_keep) (fail)
        go_wp2
        go_roundg gm
        case measure => omega
        case rel => exact ⟨i + 1, rfl, by omega, Lib.hid (by have := HI.out; omega), Lib.hid ⟨Kd.C_below HX.out.1 (below_drew (Below.refl _ _)), below_drew HX.out.2⟩⟩
      · have q1 : decide ((i : Int) < (n : Int)) = false := by simp; omega
        have q2 : (i < n) = False := eq_false h1
        clear h1
        go_wp2
        go_ret
        exact ⟨rfl, HX.out.2⟩

  | .error (a, y), HH =>
    have hA4 := valueA_c (cp := c2) (R := .error (a, y)) (Glob.step HH.out.1 HC1.out.2) HC1.out.1 HH.out.2.2.2.1 HH.out.2.2.2.2.1 HH.out.2.2.2.2.2
    have HA4 := Lib.hid hA4
    clear hA4
    go_upto_region 3 with (first
      | (go_at_call 4; refine HA4.out.mono ?_; rintro e5 w5 ⟨fb, rfl, hf5, hb5⟩; have HS5 := Lib.hid (And.intro (Kd.C_below HC1.out.1 hb5) (HC1.out.2.trans (hb5.mono HC1.out.2.size))); have HF5 := Lib.hid hf5; clear hb5 hf5))
    have hA5 := valueD_c (w := w5) (cp := cp) (R := .error (a, y)) (Glob.step HH.out.1 HS5.out.2) (Kd.C_below HH.out.2.2.1 HS5.out.2) HH.out.2.2.2.1 HH.out.2.2.2.2.1 HH.out.2.2.2.2.2
    have HA5 := Lib.hid hA5
    clear hA5
    go_upto_region 4 with (first
      | (go_at_call 5; refine HA5.out.mono ?_; rintro e6 w6 ⟨rfl, hy0, hb6⟩; have HYY := Lib.hid hy0; have HS6 := Lib.hid (And.intro (Kd.C_below HS5.out.1 (hb6.alloc hb6.size (.cells #[.int .i64 0, .int .i64 a, .int .i64 y] 30))) (And.intro (HS5.out.2.trans ((hb6.alloc hb6.size (.cells #[.int .i64 0, .int .i64 a, .int .i64 y] 30)).mono HS5.out.2.size)) (blk_new w6 (.cells #[.int .i64 0, .int .i64 a, .int .i64 y] 30)))); have HF6 := Lib.hid (blk_below HF5.out (hb6.alloc hb6.size (.cells #[.int .i64 0, .int .i64 a, .int .i64 y] 30))); clear hb6 hy0))
    obtain ⟨wA, hwA⟩ : ∃ q, w6.alloc (.cells #[.int .i64 0, .int .i64 a, .int .i64 y] 30) = q := ⟨_, rfl⟩
    obtain ⟨g1, hg1⟩ : ∃ q, w6.heap.size = q := ⟨_, rfl⟩
    rw [hwA, hg1] at HS6 ⊢
    rw [hwA] at HF6
    clear hwA hg1
    have HP := Lib.hid (place_hit fb a y wA (HH.out.2.1.below HS6.out.2.1) HF6.out)
    go_upto_region 5 with (first
      | (go_at_call 6; refine HP.out.mono ?_; rintro e7 w7 ⟨rfl, hb7⟩; have HS7 := Lib.hid (And.intro (Kd.C_below HS6.out.1 (hb7.alloc hb7.size (.cells #[.int .i64 0, .int .i64 a, .int .i64 y] 30))) (And.intro (HS6.out.2.1.trans ((hb7.alloc hb7.size (.cells #[.int .i64 0, .int .i64 a, .int .i64 y] 30)).mono HS6.out.2.1.size)) (And.intro (blk_below HS6.out.2.2 (hb7.alloc hb7.size (.cells #[.int .i64 0, .int .i64 a, .int .i64 y] 30))) (blk_new w7 (.cells #[.int .i64 0, .int .i64 a, .int .i64 y] 30))))); clear hb7))
    obtain ⟨wB, hwB⟩ : ∃ q, w7.alloc (.cells #[.int .i64 0, .int .i64 a, .int .i64 y] 30) = q := ⟨_, rfl⟩
    obtain ⟨g2, hg2⟩ : ∃ q, w7.heap.size = q := ⟨_, rfl⟩
    rw [hwB, hg2] at HS7 ⊢
    clear hwB hg2
    have d0 := blk_cell HS7.out.2.2.1 0
    have d1 := blk_cell HS7.out.2.2.1 1
    have d2 := blk_cell HS7.out.2.2.1 2
    have c0 := blk_cell HS7.out.2.2.2 0
    have c1 := blk_cell HS7.out.2.2.2 1
    have c2 := blk_cell HS7.out.2.2.2 2
    have HNM := Lib.hid (fun W => num_c y W)
    have y9 : (y == 0) = false := by rw [beq_eq_false_iff_ne]; exact HYY.out
    go_region_held2 (fun w' => w'.cell? ⟨g1, 0, none⟩ = some (.int .i64 0) ∧ w'.cell? ⟨g1, 1, none⟩ = some (.int .i64 a) ∧ w'.cell? ⟨g1, 2, none⟩ = some (.int .i64 y) ∧ w'.cell? ⟨g2, 0, none⟩ = some (.int .i64 0) ∧ w'.cell? ⟨g2, 1, none⟩ = some (.int .i64 a) ∧ w'.cell? ⟨g2, 2, none⟩ = some (.int .i64 y)) (first | exact ⟨d0, d1, d2, c0, c1, c2⟩ | go_keep) (first
      | (go_at_call 7; refine (HNM.out _).mono ?_; rintro e8 w8 ⟨rfl, rfl⟩))
    have HX0 := Lib.hid (And.intro (Kd.C_below HS7.out.1 (below_drew (Below.refl _ _))) (below_drew HS7.out.2.1))
    clear d0 d1 d2 c0 c1 c2
    go_wp2
    go_loopg [12] n (fun gm v12 wx => ∃ i : Nat, .int .i64 (i : Int) = v12 ∧ i ≤ n ∧ Hid (gm + i = n) ∧ Hid (Kd.C k37 wx B n nl ∧ Below w.heap.size w wx))
    case atStart => exact ⟨0, rfl, Nat.zero_le _, Lib.hid rfl, HX0⟩
    case round =>
      obtain ⟨i, rfl, hi, HI, HX⟩ := hrel
      by_cases h1 : i < n
      · obtain ⟨x, hx⟩ : ∃ x, nl[i]? = some x := ⟨_, List.getElem?_eq_getElem (by rw [HLN.out]; exact h1)⟩
        obtain ⟨ad, rfl, _, c0, c1⟩ := name_at HX.out.1 hx
        obtain ⟨ae, rfl, _, d0, d1⟩ := name_at (Kd.C_below HH.out.2.2.1 HX.out.2) hx
        have q1 : decide ((i : Int) < (n : Int)) = true := by simp [h1]
        have q2 : (0 : Int) ≤ (i : Int) := by omega
        have q3 : (i : Int) < (n : Int) := by omega
        have e1 : IntKind.i64.wrap ((i : Int) + 1) = ((i + 1 : Nat) : Int) := by rw [IntKind.wrap_i64]; omega
        obtain ⟨gm, rfl⟩ : ∃ q, gk = q + 1 := ⟨gk - 1, by have := HI.out; omega⟩
        have hself : (x.1.toList == x.1.toList) = true := beq_self_eq_true _
        clear hx
        go_upto_region 10 with (fail)
        go_region_held2 (fun w' => w'.cell? (ad.add (i * 2)) = some (.string x.1) ∧ w'.cell? ⟨(ad.add (i * 2)).block, (ad.add (i * 2)).off + 1, none⟩ = some (.int .u64 x.2) ∧ w'.cell? (ae.add (i * 2)) = some (.string x.1) ∧ w'.cell? ⟨(ae.add (i * 2)).block, (ae.add (i * 2)).off + 1, none⟩ = some (.int .u64 x.2)) (first | exact ⟨c0, c1, d0, d1⟩ | go_keep) (fail)
        go_wp2
        go_roundg gm
        case measure => omega
        case rel => exact ⟨i + 1, rfl, by omega, Lib.hid (by have := HI.out; omega), Lib.hid ⟨Kd.C_below HX.out.1 (below_drew (Below.refl _ _)), below_drew HX.out.2⟩⟩
      · have q1 : decide ((i : Int) < (n : Int)) = false := by simp; omega
        have q2 : (i < n) = False := eq_false h1
        clear h1
        go_wp2
        go_ret
        exact ⟨rfl, HX.out.2⟩

end Go.Proofs.YtbmnifnahbehbaaGreatDoor

/- A world in which the listed variables hold what their initialisers lay, errors.errorType and the two errors of strconv too: for the witness of AsmValues' row. -/
set_option linter.unusedVariables false
namespace Go.Proofs.YtbmnifnahbehbaaGreatDoor
open Go.ChangeShapes Go.WideShapes Go.ChangeAt Go.RowKit Go.Lib Go.Shelf

theorem own : ownKnob Tryz.prog.godebug = none := by kernel_rfl
theorem laidOut : laidOutB Tryz.prog = true := by kernel_rfl
def litCell : DataW Unit → Value
  | .lit (.int k z) => .int k z
  | .lit (.string b) => .string ⟨b.toArray⟩
  | _ => .nilIface
def aggCells : DataW Unit → Array Value
  | .agg l => (l.map litCell).toArray
  | _ => #[]
def putAll (h : Array Obj) : List (Nat × Array Value) → Array Obj
  | [] => h
  | (g, cs) :: r => putAll (h.modify g fun
    | .cells _ t frozen => .cells cs t frozen
    | o => o) r
theorem xL : RExtra Tryz.prog Tryz.laysLetter_ren := ⟨by kernel_rfl, by kernel_rfl, by kernel_rfl, by kernel_rfl, by kernel_rfl, by kernel_rfl, by kernel_rfl, by kernel_rfl⟩
theorem d_accept : (Rows.laid_unicode_utf8_acceptRanges : DataW Unit) = Lib.acceptData := by kernel_rfl
theorem d_props : (Rows.laid_unicode_properties : DataW Unit) = Lib.tabData .u8 Lib.propertiesTab := by kernel_rfl
theorem d_letter : Rows.laid_unicode_Letter = Lib.rtabData Lib.letterT := by kernel_rfl
theorem d_first : Rows.laid_unicode_utf8_first = Lib.firstData := by kernel_rfl
/-- The list that the row lays. -/
def theList : List (String × DataW Unit) := [("math/bits.deBruijn32tab", Rows.laid_math_bits_deBruijn32tab), ("math/bits.deBruijn64tab", Rows.laid_math_bits_deBruijn64tab), ("internal/strconv.uint64pow10", Rows.laid_internal_strconv_uint64pow10), ("unicode/utf8.acceptRanges", Lib.acceptData), ("errors.errorType", Rows.laid_errors_errorType), ("strconv.ErrRange", Rows.laid_strconv_ErrRange), ("strconv.ErrSyntax", Rows.laid_strconv_ErrSyntax), ("unicode.properties", Lib.tabData .u8 Lib.propertiesTab), ("unicode.Letter", Lib.rtabData Lib.letterT), ("unicode/utf8.first", Lib.firstData)]
theorem theList_eq : [("math/bits.deBruijn32tab", (Rows.laid_math_bits_deBruijn32tab : DataW Unit)), ("math/bits.deBruijn64tab", Rows.laid_math_bits_deBruijn64tab), ("internal/strconv.uint64pow10", Rows.laid_internal_strconv_uint64pow10), ("unicode/utf8.acceptRanges", Rows.laid_unicode_utf8_acceptRanges), ("errors.errorType", Rows.laid_errors_errorType), ("strconv.ErrRange", Rows.laid_strconv_ErrRange), ("strconv.ErrSyntax", Rows.laid_strconv_ErrSyntax), ("unicode.properties", Rows.laid_unicode_properties), ("unicode.Letter", Rows.laid_unicode_Letter), ("unicode/utf8.first", Rows.laid_unicode_utf8_first)] = theList := by
  rw [d_accept, d_props, d_letter, d_first]; rfl
theorem gProps : Tryz.prog.globalNamed "unicode.properties" = some 1 := by kernel_rfl
theorem gPropsType : (Tryz.prog.globals[1]?).map (·.type) = some 154 := by kernel_rfl
theorem cells5 : Tryz.prog.cellsOf 5 = 1 := by kernel_rfl
theorem cellsTab : Tryz.prog.cellsOf 154 = 256 := by kernel_rfl
/-- An array of integers that reads as these numbers, wherever it stands on the list. -/
theorem tabIs_of_reads {P : Program} {W : World} {name : String} {k : IntKind} {zs : List Int} {g : Nat} {t e : TypeId} {n : Nat}
    (hg : P.globalNamed name = some g) (hgt : (P.globals[g]?).map (·.type) = some t) (ht : P.underlying t = some (.array n e)) (he : P.underlying e = some (.int k)) (hce : P.cellsOf e = 1) (hct : P.cellsOf t = n)
    (h : VarReads P W name (Lib.tabData k zs)) : Lib.TabIs P W name k zs := by
  obtain ⟨g', t', cs, fuel, p, h1, h2, h3, h4⟩ := h
  rw [hg] at h1
  cases h1
  rw [hgt] at h2
  cases h2
  have := cells_of_tab ht he hce hct h4
  unfold Lib.TabIs
  rw [h3, ← this]
/-- A variable of an interface type that reads as a value in it holds such a value. -/
theorem errAt_of_reads {P : Program} {W : World} {n nm : String} {d : DataW Unit} {g : Nat} {ti : TypeId} {ms : Array (String × TypeId)} (hg : P.globalNamed n = some g) (ht : (P.globals[g]?).map (·.type) = some ti) (hi : P.underlying ti = some (.interface ms))
    (h : VarReads P W n (.iface nm d)) : ErrAt W g := by
  obtain ⟨g', t', cs, fuel, p, h1, h2, h3, h4⟩ := h
  rw [hg] at h1
  cases h1
  rw [ht] at h2
  cases h2
  have key : ∃ u v, cs.toList = [.iface u v] := by
    generalize cs.toList = l at h4
    match l, h4 with
    | [], h4 => cases fuel <;> simp [DataW.trod, hi] at h4
    | [c], h4 =>
      cases fuel with
      | zero => simp [DataW.trod] at h4
      | succ fuel =>
        cases c <;> simp [DataW.trod, hi] at h4
        exact ⟨_, _, rfl⟩
    | _ :: _ :: _, h4 => cases fuel <;> simp [DataW.trod, hi] at h4
  obtain ⟨u, v, hl⟩ := key
  refine ⟨.iface u v, ?_, .inr ⟨u, v, rfl⟩⟩
  have := World.var?_cell hg h3 0
  rw [this]
  obtain ⟨l⟩ := cs
  simp at hl
  subst hl
  rfl
/-- The rows of the list that are read as data. -/
def restList : List (String × DataW Unit) := [("math/bits.deBruijn32tab", Rows.laid_math_bits_deBruijn32tab), ("math/bits.deBruijn64tab", Rows.laid_math_bits_deBruijn64tab), ("internal/strconv.uint64pow10", Rows.laid_internal_strconv_uint64pow10), ("unicode/utf8.acceptRanges", Lib.acceptData), ("strconv.ErrRange", Rows.laid_strconv_ErrRange), ("strconv.ErrSyntax", Rows.laid_strconv_ErrSyntax), ("unicode.properties", Lib.tabData .u8 Lib.propertiesTab), ("unicode.Letter", Lib.rtabData Lib.letterT), ("unicode/utf8.first", Lib.firstData)]
theorem rest_eq : theList.filter (fun x => x.2.handleName?.isNone) = restList := by kernel_rfl
theorem hand_eq : theList.filter (fun x => x.2.handleName?.isSome) = [("errors.errorType", Rows.laid_errors_errorType)] := by kernel_rfl
theorem split_laid {W : World} (h : laidMetH Tryz.prog theList W) : laidMet Tryz.prog restList W ∧ handlesMet Tryz.prog [("errors.errorType", Rows.laid_errors_errorType)] W := by
  unfold laidMetH at h
  rw [hand_eq, rest_eq] at h
  exact h
theorem glob_of_rest {W : World} (hL : laidMet Tryz.prog restList W) : Glob W :=
  ⟨tabIs_of_reads gProps gPropsType Tryz.underlying154 Tryz.underlying5 cells5 cellsTab (Lib.laidMet.reads hL (.tail _ (.tail _ (.tail _ (.tail _ (.tail _ (.tail _ (.head _)))))))),
   rvar_of_reads { Tryz.laysLetter with } xL (by kernel_rfl) (by kernel_rfl) (Lib.laidMet.reads hL (.tail _ (.tail _ (.tail _ (.tail _ (.tail _ (.tail _ (.tail _ (.head _))))))))),
   utf8Tabs_of_readsT { Tryz.laysDec with } ⟨by kernel_rfl, by kernel_rfl, by kernel_rfl, by kernel_rfl, by kernel_rfl, by kernel_rfl, by kernel_rfl⟩ (Lib.laidMet.reads hL (.tail _ (.tail _ (.tail _ (.tail _ (.tail _ (.tail _ (.tail _ (.tail _ (.head _)))))))))) (Lib.laidMet.reads hL (.tail _ (.tail _ (.tail _ (.head _))))),
   errAt_of_reads (ti := 25) (by kernel_rfl) (by kernel_rfl) Tryz.underlying25 (Lib.laidMet.reads hL (.tail _ (.tail _ (.tail _ (.tail _ (.tail _ (.head _))))))),
   errAt_of_reads (ti := 25) (by kernel_rfl) (by kernel_rfl) Tryz.underlying25 (Lib.laidMet.reads hL (.tail _ (.tail _ (.tail _ (.tail _ (.head _))))))⟩
theorem gErr : Tryz.prog.globalNamed "errors.errorType" = some 0 := by kernel_rfl
theorem tRtype : (Tryz.prog.cutTypes.find? (·.1 == "internal/reflectlite.rtype")).map (·.2) = some 138 := by kernel_rfl
theorem oneRow : ((List.range Tryz.prog.types.size).filter fun t => Tryz.prog.rowNamed t [101, 114, 114, 111, 114]) = [25] := by kernel_rfl
theorem errT_of_laid {W : World} (h : handlesMet Tryz.prog [("errors.errorType", Rows.laid_errors_errorType)] W) : ErrT W := by
  obtain ⟨name, u, ty, e1, e2, e3, e4, e5⟩ := h _ (List.mem_singleton.2 rfl)
  have en : name = [101, 114, 114, 111, 114] := (Option.some.inj e1).symm
  subst en
  obtain rfl := Option.some.inj (tRtype.symm.trans e2)
  have hm : ty ∈ (List.range Tryz.prog.types.size).filter fun t => Tryz.prog.rowNamed t [101, 114, 114, 111, 114] := List.mem_filter.2 ⟨List.mem_range.2 e3, e4⟩
  rw [oneRow] at hm
  obtain rfl := List.mem_singleton.1 hm
  have hh : typeHandle Tryz.prog 25 = .pointer (some ⟨11, 25, none⟩) := by kernel_rfl
  rw [hh] at e5
  unfold ErrT
  simpa using World.var?_cell gErr e5 0
noncomputable abbrev N0 : Nat := (World.settled Tryz.prog default).heap.size
noncomputable def laidWorld (os : Os) : World :=
  let N := (World.settled Tryz.prog os).heap.size
  let ρ := Tryz.laysLetter_ren
  let w0 := World.holding Tryz.prog os ⟨#[
    .cells (rgCells .u16 letterT.r16) (ρ.t 198), .cells (rgCells .u32 letterT.r32) (ρ.t 201),
    .cells #[.slice (some ⟨N, 0, none⟩) letterT.r16.size letterT.r16.size, .slice (some ⟨N + 1, 0, none⟩) letterT.r32.size letterT.r32.size, .int .i64 letterT.off] (ρ.t 196),
    .cells #[.string ⟨#[118, 97, 108, 117, 101, 32, 111, 117, 116, 32, 111, 102, 32, 114, 97, 110, 103, 101]⟩] 199, .cells #[.string ⟨#[105, 110, 118, 97, 108, 105, 100, 32, 115, 121, 110, 116, 97, 120]⟩] 199], #[], []⟩
  { w0 with heap := putAll w0.heap [(0, #[.iface 138 (.agg #[.pointer (some ⟨11, 25, none⟩)])]),
      (1, (Lib.propertiesTab.map fun z => Value.int .u8 z).toArray), (2, #[.pointer (some ⟨N + 2, 0, none⟩)]), (4, (Lib.firstTab.map fun z => Value.int .u8 z).toArray),
      (5, ((List.range 16).flatMap fun i => [Value.int .u8 (Lib.accLo i), Value.int .u8 (Lib.accHi i)]).toArray),
      (9, aggCells Rows.laid_math_bits_deBruijn32tab), (10, aggCells Rows.laid_math_bits_deBruijn64tab), (8, aggCells Rows.laid_internal_strconv_uint64pow10),
      (7, #[.iface 197 (.pointer (some ⟨N + 3, 0, none⟩))]), (6, #[.iface 197 (.pointer (some ⟨N + 4, 0, none⟩))])] }
noncomputable abbrev laidMem (os : Os) (args : Array Value) : World := ((laidWorld os).forCall (fun _ _ => 0) ⟨#[], args, []⟩).memory
theorem piece0 (os : Os) (args : Array Value) : LaidIn Tryz.prog (laidMem os args) [("math/bits.deBruijn32tab", Rows.laid_math_bits_deBruijn32tab), ("math/bits.deBruijn64tab", Rows.laid_math_bits_deBruijn64tab), ("internal/strconv.uint64pow10", Rows.laid_internal_strconv_uint64pow10), ("unicode/utf8.acceptRanges", Lib.acceptData), ("strconv.ErrRange", Rows.laid_strconv_ErrRange), ("strconv.ErrSyntax", Rows.laid_strconv_ErrSyntax), ("unicode.properties", Lib.tabData .u8 Lib.propertiesTab)] [9, 10, 8, 5, 7, 6, 1, N0 + 3, N0 + 4] :=
  LaidIn.of_run [9, 10, 8, 5, 7, 6, 1, N0 + 3, N0 + 4] 10 (by kernel_rfl) (by kernel_rfl) (by kernel_rfl) (by kernel_rfl)
theorem piece1 (os : Os) (args : Array Value) : LaidIn Tryz.prog (laidMem os args) [("unicode.Letter", Lib.rtabData letterT)] [2, N0 + 2, N0, N0 + 1] :=
  laidIn_rtab (ρ := Tryz.laysLetter_ren) { Tryz.laysLetter with } xL (by kernel_rfl) (by kernel_rfl) letterT (N0 + 2) N0 (N0 + 1) (Tryz.laysLetter_ren.t 198) (Tryz.laysLetter_ren.t 201)
    (by kernel_rfl) (by kernel_rfl) (by kernel_rfl) (by kernel_rfl) (by kernel_rfl) (of_decide_eq_true (by kernel_rfl)) (of_decide_eq_true (by kernel_rfl)) (of_decide_eq_true (by kernel_rfl))
theorem piece2 (os : Os) (args : Array Value) : LaidIn Tryz.prog (laidMem os args) [("unicode/utf8.first", Lib.firstData)] [4] :=
  LaidIn.of_run [4] 8 (by kernel_rfl) (by kernel_rfl) (by kernel_rfl) (by kernel_rfl)
theorem laid_met (os : Os) (args : Array Value) : laidMet Tryz.prog restList (laidMem os args) :=
  (((piece0 os args).append (piece1 os args) (by kernel_rfl)).append (piece2 os args) (by kernel_rfl)).met
theorem laid_metH (os : Os) (args : Array Value) : laidMetH Tryz.prog theList (laidMem os args) := by
  refine laidMetH_of_parts ?_ ?_
  · rw [rest_eq]
    exact laid_met os args
  · rw [hand_eq]
    kernel_rfl
end Go.Proofs.YtbmnifnahbehbaaGreatDoor

/- From an argument's reading to the printed walks' facts: what reads as data of a type of whole numbers, bools, strings, slices and structs of these is told by its kind (Kd), its numbers fit, and its bulk bounds its weight. Plain lemmas; each bears its premises. -/
set_option linter.unusedVariables false
namespace Go.Proofs.YtbmnifnahbehbaaGreatDoor
open Go.RowKit Go.Proofs.YtbmnifnahbehbaaGreatDoorW.PrintWords

theorem bulk_one {H : Type} (d : DataW H) : 1 ≤ Rows.uptoBulk d := by
  cases d with
  | lit l => cases l <;> simp [Rows.uptoBulk]
  | nil => simp [Rows.uptoBulk]
  | ptr d => simp [Rows.uptoBulk]
  | slice elems spare => simp [Rows.uptoBulk]
  | agg parts => simp [Rows.uptoBulk]
  | iface t d => simp [Rows.uptoBulk]
  | map entries => simp [Rows.uptoBulk]
  | held h => simp [Rows.uptoBulk]
theorem bulk_app {H : Type} (l r : List (DataW H)) : Rows.uptoBulkAll (l ++ r) = Rows.uptoBulkAll l + Rows.uptoBulkAll r := by
  induction l with
  | nil => simp [Rows.uptoBulkAll]
  | cons x l ih => simp only [List.cons_append, Rows.uptoBulkAll, ih]; omega

/-- What reads at type T is of kind d; its numbers fit; its weight is at most its bulk. -/
structure Opens (P : Program) (T : TypeId) {α : Type} (d : Kd α) (ok : α → Prop) (wt : α → Nat) : Prop where
  cells : P.cellsOf T = d.sz
  op : ∀ {H : Type} {enc : TypeId × Value → H} {w : World} {spare : Nat → Bool} {held : Bool} {fuel : Nat} {cs : List Value} {x : DataW H × List MemPlace},
    DataW.trod enc P w 0 spare held fuel T cs = some x → ∃ a, d.K w a cs ∧ ok a ∧ wt a ≤ Rows.uptoBulk x.1

theorem Opens.int {P : Program} {T : TypeId} {k : IntKind} (ht : P.underlying T = some (.int k)) (hc : P.cellsOf T = 1) : Opens P T (Kd.int k) (fun n => (Lit.int k n).wf = true) (fun _ => 1) where
  cells := hc
  op h := by
    obtain ⟨n, rfl, hx, hw⟩ := DataW.trod_int ht h
    exact ⟨n, rfl, hw, bulk_one _⟩
theorem Opens.bool {P : Program} {T : TypeId} (ht : P.underlying T = some .bool) (hc : P.cellsOf T = 1) : Opens P T Kd.bool (fun _ => True) (fun _ => 1) where
  cells := hc
  op h := by
    obtain ⟨n, rfl, hx⟩ := DataW.trod_bool ht h
    exact ⟨n, rfl, trivial, bulk_one _⟩
theorem Opens.string {P : Program} {T : TypeId} (ht : P.underlying T = some .string) (hc : P.cellsOf T = 1) : Opens P T Kd.string (fun _ => True) (fun s => s.size + 1) where
  cells := hc
  op h := by
    obtain ⟨s, rfl, hx, hw⟩ := DataW.trod_string ht h
    refine ⟨s, rfl, trivial, ?_⟩
    rw [hx]
    simp only [Rows.uptoBulk]
    have : s.data.toList.length = s.size := by simp
    omega

/-- The fields from offset o on. -/
structure Fields (P : Program) (fs : List Field) (o : Nat) {α : Type} (d : Kd α) (ok : α → Prop) (wt : α → Nat) : Prop where
  op : ∀ {H : Type} {enc : TypeId × Value → H} {w : World} {spare : Nat → Bool} {held : Bool} {n : Nat} {cs : List Value} {xs : List (DataW H × List MemPlace)},
    cs.length = o + d.sz → xs.length = fs.length →
    (∀ (i : Nat) (f : Field), fs[i]? = some f → DataW.trod enc P w 0 spare held n f.type ((cs.drop f.offset).take (P.cellsOf f.type)) = xs[i]?) →
    ∃ a, d.K w a (cs.drop o) ∧ ok a ∧ wt a ≤ Rows.uptoBulkAll (xs.map (·.1))
theorem Fields.one {P : Program} {f : Field} {o : Nat} {α : Type} {d : Kd α} {ok : α → Prop} {wt : α → Nat} (ho : f.offset = o) (h : Opens P f.type d ok wt) : Fields P [f] o d ok wt where
  op hl hx hf := by
    rename_i H enc w spare held n cs xs
    obtain ⟨x, rfl⟩ : ∃ x, xs = [x] := by
      match xs, hx with
      | [x], _ => exact ⟨x, rfl⟩
    have h1 := hf 0 f rfl
    rw [ho, h.cells, List.take_of_length_le (by simp; omega)] at h1
    obtain ⟨a, hk, hok, hw⟩ := h.op h1
    refine ⟨a, hk, hok, ?_⟩
    simp only [List.map_cons, List.map_nil, Rows.uptoBulkAll]
    omega
theorem Fields.cons {P : Program} {f : Field} {fs : List Field} {o : Nat} {α β : Type} {d : Kd α} {ok : α → Prop} {wt : α → Nat} {d' : Kd β} {ok' : β → Prop} {wt' : β → Nat} (ho : f.offset = o) (h : Opens P f.type d ok wt) (h' : Fields P fs (o + d.sz) d' ok' wt') :
    Fields P (f :: fs) o (Kd.pair d d') (fun p => ok p.1 ∧ ok' p.2) (fun p => wt p.1 + wt' p.2) where
  op hl hx hf := by
    rename_i H enc w spare held n cs xs
    obtain ⟨x, xs, rfl⟩ : ∃ x xs', xs = x :: xs' := by
      match xs, hx with
      | x :: xs', _ => exact ⟨x, xs', rfl⟩
    have hl' : cs.length = o + (d.sz + d'.sz) := hl
    have h1 := hf 0 f rfl
    rw [ho, h.cells] at h1
    obtain ⟨a, hk, hok, hw⟩ := h.op h1
    obtain ⟨b, hk2, hok2, hw2⟩ := h'.op (cs := cs) (xs := xs) (n := n) (enc := enc) (w := w) (spare := spare) (held := held) (by omega) (by simpa using hx) (fun i g hg => by
      have := hf (i + 1) g (by simpa using hg)
      simpa using this)
    refine ⟨(a, b), ⟨_, _, ?_, hk, hk2⟩, ⟨hok, hok2⟩, ?_⟩
    · rw [← List.drop_drop, List.take_append_drop]
    · simp only [List.map_cons, Rows.uptoBulkAll]
      omega
theorem Opens.struct {P : Program} {T : TypeId} {fs : Array Field} {α β : Type} {d : Kd α} {ok : α → Prop} {wt : α → Nat} (g : β → α) (hg : ∀ a, ∃ b, g b = a) (ht : P.underlying T = some (.struct fs)) (hc : P.cellsOf T = d.sz) (h : Fields P fs.toList 0 d ok wt) :
    Opens P T (Kd.iso d g) (fun b => ok (g b)) (fun b => wt (g b) + 1) where
  cells := hc
  op hx := by
    obtain ⟨xs, n, rfl, hx1, hl, hxl, hf⟩ := DataW.trod_struct ht hx
    obtain ⟨a, hk, hok, hw⟩ := h.op (by omega) (by simpa using hxl) (fun i f hi => hf i f (by simpa using hi))
    obtain ⟨b, rfl⟩ := hg a
    refine ⟨b, (show d.K _ (g b) _ from by simpa using hk), hok, ?_⟩
    rw [hx1]
    simp only [Rows.uptoBulk]
    omega

theorem build {α β : Type} (R : α → β → Prop) : ∀ (l : List β), (∀ b ∈ l, ∃ a, R a b) → ∃ ps : List α, ps.length = l.length ∧ ∀ (i : Nat) (b : β), l[i]? = some b → ∃ a, ps[i]? = some a ∧ R a b
  | [], _ => ⟨[], rfl, by simp⟩
  | b :: l, h => by
    obtain ⟨a, ha⟩ := h b (by simp)
    obtain ⟨ps, hl, hps⟩ := build R l (fun c hc => h c (by simp [hc]))
    refine ⟨a :: ps, by simp [hl], fun i c hc => ?_⟩
    cases i with
    | zero => simp at hc; subst hc; exact ⟨a, rfl, ha⟩
    | succ i => simpa using hps i c (by simpa using hc)
theorem sum_le {α β : Type} {wt : α → Nat} {bk : β → Nat} : ∀ (ps : List α) (l : List β), ps.length = l.length → (∀ (i : Nat) (b : β), l[i]? = some b → ∃ a, ps[i]? = some a ∧ wt a ≤ bk b) → (ps.map wt).sum ≤ (l.map bk).sum
  | [], [], _, _ => by simp
  | a :: ps, b :: l, hl, h => by
    have h0 := h 0 b rfl
    simp at h0
    have := sum_le ps l (by simpa using hl) (fun i c hc => by simpa using h (i + 1) c (by simpa using hc))
    simp only [List.map_cons, List.sum_cons]
    omega
theorem bulkAll_sum {H : Type} : ∀ l : List (DataW H), Rows.uptoBulkAll l = (l.map Rows.uptoBulk).sum
  | [] => by simp [Rows.uptoBulkAll]
  | x :: l => by simp only [Rows.uptoBulkAll, List.map_cons, List.sum_cons, bulkAll_sum l]
/-- A slice's elements. -/
theorem Opens.slice {P : Program} {T E e' : TypeId} {α : Type} {d : Kd α} {ok : α → Prop} {wt : α → Nat} (ht : P.underlying T = some (.slice E)) (hc : P.cellsOf T = 1) (h : Opens P E d ok wt) :
    Opens P T (Kd.slice e' d) (fun l => ∀ x ∈ l, ok x) (fun l => (l.map wt).sum + 1) where
  cells := hc
  op hx := by
    rename_i H enc w spare held fuel cs x
    rcases DataW.trod_slice ht hx with ⟨rfl, rfl⟩ | ⟨a, len, cap, elems, rest, n, rfl, rfl, rfl, hb, hlc, hcm, hel, hf, _⟩
    · exact ⟨[], ⟨none, 0, rfl, by simp, Kd.C_nil d w⟩, by simp, by simp [Rows.uptoBulk]⟩
    · have key : ∀ i y, elems[i]? = some y → ∃ p c, c.length = d.sz ∧ d.K w p c ∧ (ok p ∧ wt p ≤ Rows.uptoBulk y.1) ∧ ∀ j u, c[j]? = some u → w.cell? (a.add (i * d.sz + j)) = some u := by
        intro i y hy
        have hi : i < len := by
          have := (List.getElem?_eq_some_iff.1 hy).1
          omega
        have h1 := hf i hi
        rw [hy, h.cells] at h1
        obtain ⟨c, hc1, hc2⟩ := Option.bind_eq_some_iff.1 h1
        obtain ⟨p, hk, hok, hw⟩ := h.op hc2
        obtain ⟨_, hl, hcell⟩ := World.cells?_some hc1
        refine ⟨p, c, hl, hk, ⟨hok, hw⟩, fun j u hj => ?_⟩
        have hjl : j < d.sz := by
          have := (List.getElem?_eq_some_iff.1 hj).1
          omega
        rw [← Addr.add_add, hcell j hjl, hj]
      obtain ⟨ps, hpl, hps⟩ := build (fun (p : α) (z : Nat × (DataW H × List MemPlace)) => ∃ c, c.length = d.sz ∧ d.K w p c ∧ (ok p ∧ wt p ≤ Rows.uptoBulk z.2.1) ∧ ∀ j u, c[j]? = some u → w.cell? (a.add (z.1 * d.sz + j)) = some u)
        (elems.zipIdx.map fun z => (z.2, z.1)) (fun z hz => by
          obtain ⟨⟨y, i⟩, hy, rfl⟩ := List.mem_map.1 hz
          have := List.mem_zipIdx_iff_getElem?.1 hy
          exact key i y this)
      have hat : ∀ (i : Nat) (y : DataW H × List MemPlace), elems[i]? = some y → ∃ p, ps[i]? = some p ∧ ∃ c, c.length = d.sz ∧ d.K w p c ∧ (ok p ∧ wt p ≤ Rows.uptoBulk y.1) ∧ ∀ j u, c[j]? = some u → w.cell? (a.add (i * d.sz + j)) = some u := by
        intro i y hy
        exact hps i (i, y) (by simp [hy])
      have hpl' : ps.length = elems.length := by simpa using hpl
      have back : ∀ i p, ps[i]? = some p → ∃ y, elems[i]? = some y := fun i p hp => by
        have := (List.getElem?_eq_some_iff.1 hp).1
        exact ⟨elems[i]'(by omega), List.getElem?_eq_getElem (by omega)⟩
      refine ⟨ps, ⟨some a, cap, by rw [hpl', hel], by omega, ⟨rfl, by unfold maxLen at hcm; omega, fun _ => ⟨a, rfl, fun j p hp => ?_⟩⟩⟩, fun p hp => ?_, ?_⟩
      · obtain ⟨y, hy⟩ := back j p hp
        obtain ⟨p', hp', c, h1, h2, _, h4⟩ := hat j y hy
        rw [hp] at hp'
        cases hp'
        exact ⟨c, h1, h2, h4⟩
      · obtain ⟨i, hi⟩ := List.getElem?_of_mem hp
        obtain ⟨y, hy⟩ := back i p hi
        obtain ⟨p', hp', c, _, _, h3, _⟩ := hat i y hy
        rw [hi] at hp'
        cases hp'
        exact h3.1
      · have hs := sum_le (wt := wt) (bk := fun y : DataW H × List MemPlace => Rows.uptoBulk y.1) ps elems hpl' (fun i y hy => by
          obtain ⟨p, hp, c, _, _, h3, _⟩ := hat i y hy
          exact ⟨p, hp, h3.2⟩)
        simp only [Rows.uptoBulk, bulkAll_sum, List.map_map]
        have e1 : (elems.map (Rows.uptoBulk ∘ fun x => x.1)).sum = (elems.map fun y : DataW H × List MemPlace => Rows.uptoBulk y.1).sum := rfl
        omega
end Go.Proofs.YtbmnifnahbehbaaGreatDoor
