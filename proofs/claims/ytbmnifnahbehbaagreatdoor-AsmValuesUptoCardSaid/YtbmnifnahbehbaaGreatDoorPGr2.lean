/- The library's functions that this seat calls, by the kit's contracts, under 'Glob': the tables of utf8 and unicode stand in the world as their initialisers laid them. -/
import Derived.Test.YtbmnifnahbehbaaGreatDoorPGr1
import Derived.Test.YtbmnifnahbehbaaGreatDoorRows
import Derived.WalkKit
import Derived.WalkMore
import Derived.Below
import Derived.Lib.LaidRTab
import Derived.Lib.LaidU8
import Derived.Lib.LaidIn
import Derived.Lib.LaidU8T
import Derived.Lib.Hide
import Derived.Test.YtbmnifnahbehbaaGreatDoorProg
import Derived.Deep.Draws
import Derived.Deep.AppendLies
import Derived.Maps.AppendAt
import Derived.OwnWalk
import Derived.Laws.BytesArg
import Derived.Laws.MakeOwn
import Derived.Laws.OwnMore
import Derived.Deep.OwnRows
import Derived.Tactics
import Derived.Lib.ConvBytes
import Derived.Laws.Slices
import Derived.KernelRfl
import Derived.RowKit3
import Derived.Deep.LoopGhost
import Derived.Deep.QuietTactic
import Derived.BigQuiet
import Derived.WideLaws
import Derived.Deep.DeepCutAuto
import Derived.Deep.CutBlock
import Derived.Deep.RegionHeld3
import Derived.Laws.Rows
import Derived.Lib.AppendStr
import Derived.ArgAppend
import Derived.Laws.IdiomCopy
import Derived.OrdersHeld
import Derived.Laws.BitsLemmas
import Derived.RowKit
import Derived.Test.YtbmnifnahbehbaaGreatDoorPWds1
import Derived.Deep.RegionHeld2
import Derived.MapKept
import Derived.ChangeMaps4
import Derived.Deep.RegionWith
import Derived.Laws.Tables
import Derived.Laws.CopyOwn
import Derived.Lib.Strings
import Derived.Lib.Walk
import Derived.Lib.AtoiAllMem
import Derived.Laws.Strings3
import Derived.Laws.Closers25
import Derived.Laws.Closers25b
import Derived.BigCall
import Derived.BigGuard
import Derived.Laws.IdiomStrings
import Derived.Shelf.Unicode.DecodeLastEight
import Derived.Lib.RuneCount
set_option linter.unusedVariables false
namespace Go.Proofs.YtbmnifnahbehbaaGreatDoor
open Go.RowKit Go.Lib Go.Shelf
/-- An error's variable. -/
def ErrAt (w : World) (g : Nat) : Prop := ∃ ev, w.cell? ⟨g, 0, none⟩ = some ev ∧ (ev = .nilIface ∨ ∃ te pe, ev = .iface te pe)
theorem ErrAt.below {w W : World} {g : Nat} (h : ErrAt w g) (hb : Below w.heap.size w W) : ErrAt W g := by
  obtain ⟨ev, h1, h2⟩ := h
  exact ⟨ev, (hb.cell (World.block_lt_of_cell? _ _ h1)).trans h1, h2⟩
def Glob (w : World) : Prop :=
  Lib.TabIs Tryz.prog w "unicode.properties" .u8 Lib.propertiesTab ∧ RVar (Tryz.laysLetter_ren.g 8) letterT w ∧ Lib.Utf8Tabs (Tryz.laysDec_ren.g 3) (Tryz.laysDec_ren.g 4) w ∧ ErrAt w 6 ∧ ErrAt w 7
theorem Glob.step {w W : World} (h : Glob w) (hb : Below w.heap.size w W) : Glob W :=
  ⟨TabIs_below (g := Tryz.laysLetter_ren.g 7) (by kernel_rfl) h.1 hb, RVar_below h.2.1 hb, Utf8Tabs_below h.2.2.1 hb, h.2.2.2.1.below hb, h.2.2.2.2.below hb⟩
theorem dec_c (s : ByteArray) (w : World) (hG : Glob w) :
    Calls Tryz.prog 42 #[.string s] w fun e w' => e = .returned (.tuple #[.int .i32 (Lib.decodeGo s).1, .int .i64 (Lib.decodeGo s).2]) ∧ Below w.heap.size w w' := Any.utf8_DecodeRuneInString Tryz.laysDec s w hG.2.2.1
theorem letter_c (r : Int) (w : World) (hlo : -2147483648 ≤ r) (hhi : r ≤ 2147483647) (hG : Glob w) :
    Calls Tryz.prog 43 #[.int .i32 r] w fun e w' => e = .returned (.bool (isLetterU r)) ∧ Below w.heap.size w w' :=
  Any.unicode_IsLetter_all Tryz.laysLetter (by kernel_rfl) r w hlo hhi hG.1 hG.2.1
theorem idx_c (s : ByteArray) (c : Int) (w : World) :
    Calls Tryz.prog 20 #[.string s, .int .u8 c] w fun e w' => e = .returned (.int .i64 (Lib.indexByte s.data.toList c.toNat.toUInt8)) ∧ w' = w := Any.strings_IndexByte Tryz.laysIdx s c w
end Go.Proofs.YtbmnifnahbehbaaGreatDoor

-- BY PROGRAM of this session (the kit's printer, turned by wip/tools/patch_print.py). Lean checks it.
namespace Go.Proofs.YtbmnifnahbehbaaGreatDoor.PLf
open Go.RowKit Go.Proofs.YtbmnifnahbehbaaGreatDoorW.PrintWords Go.Proofs.YtbmnifnahbehbaaGreatDoorW.PrintLast Go.Proofs.YtbmnifnahbehbaaGreatDoorW.PrintMore
attribute [local go_sem] max2_int min2_int max_two min_two max_three min_three max_four min_four   -- for this text's walks alone
set_option linter.unusedVariables false
set_option linter.unusedSimpArgs false



def errW : Option Int → Value
  | none => .nilIface
  | some c => .iface 0 (.int .i64 c)
theorem errW_none : errW none = .nilIface := rfl
theorem errW_some (c : Int) : errW (some c) = .iface 0 (.int .i64 c) := rfl

-- the values' own types

end Go.Proofs.YtbmnifnahbehbaaGreatDoor.PLf

-- BY PROGRAM of this session (the kit's printer, turned by wip/tools/patch_print.py). Lean checks it.
namespace Go.Proofs.YtbmnifnahbehbaaGreatDoor.PLf
open Go.RowKit Go.Proofs.YtbmnifnahbehbaaGreatDoorW.PrintWords Go.Proofs.YtbmnifnahbehbaaGreatDoorW.PrintLast Go.Proofs.YtbmnifnahbehbaaGreatDoorW.PrintMore
attribute [local go_sem] max2_int min2_int max_two min_two max_three min_three max_four min_four   -- for this text's walks alone
set_option linter.unusedVariables false
set_option linter.unusedSimpArgs false

/-- A state of type 30 at block g of W; what its slices lead to came in by w0. -/
def IsS30 (w0 W : World) (g : Nat) (f0 : Int) (f1 : Int) (f2 : Int) : Prop := W.heap[g]? = some (.cells #[.int .i64 f0, .int .i64 f1, .int .i64 f2] 30 (0, 0)) ∧ w0.heap.size ≤ g
theorem IsS30.grown {w0 W : World} {g : Nat} {f0 : Int} {f1 : Int} {f2 : Int} {W1 : World} {row : Option Nat} (h : IsS30 w0 W g f0 f1 f2) (hw : W.grownBy W1 row) (hne : some g ≠ row) : IsS30 w0 W1 g f0 f1 f2 := by
  obtain ⟨hb, hg⟩ := h
  exact ⟨blk_grown hb hw hne, hg⟩
theorem IsS30.own_neN {w0 W : World} {g : Nat} {f0 : Int} {f1 : Int} {f2 : Int} {α : Type} {d : Kd α} {e : Nat} {base : Nat} {ok : Nat → Prop} {v : Value} {xs : List α} (h : IsS30 w0 W g f0 f1 f2) (ho : Kd.N d e W base ok v xs) (ht : e ≠ 30) : some g ≠ v.ownBlock := by
  obtain ⟨hb, hg⟩ := h
  exact Kd.N_ne ho hb ht
theorem IsS30.fresh {w0 W : World} {g : Nat} {f0 : Int} {f1 : Int} {f2 : Int} (h : IsS30 w0 W g f0 f1 f2) : ∀ k, W.heap.size ≤ k → k ≠ g := by
  obtain ⟨hb, hg⟩ := h
  exact Kd.freshB hb
theorem IsS30.kept {w0 W : World} {g : Nat} {f0 : Int} {f1 : Int} {f2 : Int} {W1 : World} {S : Nat → Prop} (h : IsS30 w0 W g f0 f1 f2) (hk : Kept W W1 S) (hne : ¬ S g) : IsS30 w0 W1 g f0 f1 f2 := by
  obtain ⟨hb, hg⟩ := h
  exact ⟨blk_kept hb hk hne, hg⟩
theorem IsS30.below {w0 W : World} {g : Nat} {f0 : Int} {f1 : Int} {f2 : Int} {W1 : World} (h : IsS30 w0 W g f0 f1 f2) (hw : Below W.heap.size W W1) : IsS30 w0 W1 g f0 f1 f2 := h.grown (grown_of_below hw none) (by simp)
theorem IsS30.alloc {w0 W : World} {g : Nat} {f0 : Int} {f1 : Int} {f2 : Int} (h : IsS30 w0 W g f0 f1 f2) (o : Obj) : IsS30 w0 (W.alloc o) g f0 f1 f2 := h.below (below_alloc (Below.refl _ _) o)
theorem IsS30.drewN {w0 W : World} {g : Nat} {f0 : Int} {f1 : Int} {f2 : Int} (h : IsS30 w0 W g f0 f1 f2) (m : Nat) : IsS30 w0 (W.drewN m) g f0 f1 f2 := h
theorem IsS30.drew {w0 W : World} {g : Nat} {f0 : Int} {f1 : Int} {f2 : Int} (h : IsS30 w0 W g f0 f1 f2) : IsS30 w0 W.drew g f0 f1 f2 := h
theorem IsS30.at_ {w0 W : World} {g : Nat} {f0 : Int} {f1 : Int} {f2 : Int} {w' : World} {m : Nat} (hq : W.drewN m = w') (h : IsS30 w0 W g f0 f1 f2) : IsS30 w0 w' g f0 f1 f2 := by subst hq; exact IsS30.drewN h m
theorem IsS30.apart {w0 W : World} {g : Nat} {f0 : Int} {f1 : Int} {f2 : Int} {α : Type} {d : Kd α} {e : Nat} {base : Nat} {ok : Nat → Prop} {v : Value} {xs : List α} (h : IsS30 w0 W g f0 f1 f2) (ho : d.R e W base ok v xs) (ht : ∀ q, q ∈ e :: d.E → q ≠ 30) : d.R e W base (fun k => ok k ∧ k ≠ g) v xs := by
  obtain ⟨hb, hg⟩ := h
  exact Kd.R_types ho hb ht
theorem IsS30.own_ne {w0 W : World} {g : Nat} {f0 : Int} {f1 : Int} {f2 : Int} {α : Type} {d : Kd α} {e : Nat} {base : Nat} {ok : Nat → Prop} {v : Value} {xs : List α} (h : IsS30 w0 W g f0 f1 f2) (ho : d.R e W base ok v xs) (ht : e ≠ 30) : some g ≠ v.ownBlock := by
  obtain ⟨hb, hg⟩ := h
  exact Kd.R_ne ho hb ht
theorem IsS30.apartQ {w0 W : World} {g : Nat} {f0 : Int} {f1 : Int} {f2 : Int} {α : Type} {d : Kd α} {e : Nat} {base : Nat} {ok : Nat → Prop} {v : Value} {xs : List α} (h : IsS30 w0 W g f0 f1 f2) (ho : d.Q e W base ok v xs) (ht : ∀ q, q ∈ e :: d.E → q ≠ 30) : d.Q e W base (fun k => ok k ∧ k ≠ g) v xs := by
  obtain ⟨hb, hg⟩ := h
  exact Kd.Q_types ho hb ht
theorem IsS30.own_neQ {w0 W : World} {g : Nat} {f0 : Int} {f1 : Int} {f2 : Int} {α : Type} {d : Kd α} {e : Nat} {base : Nat} {ok : Nat → Prop} {v : Value} {xs : List α} (h : IsS30 w0 W g f0 f1 f2) (ho : d.Q e W base ok v xs) (ht : e ≠ 30) : some g ≠ v.ownBlock := by
  obtain ⟨hb, hg⟩ := h
  exact Kd.Q_ne ho hb ht
theorem IsS30.apartS {w0 W : World} {g : Nat} {f0 : Int} {f1 : Int} {f2 : Int} {α : Type} {d : Kd α} {e : Nat} {base : Nat} {ok : Nat → Prop} {v : Value} {xs : List α} (h : IsS30 w0 W g f0 f1 f2) (ho : d.S e W base ok v xs) (ht : ∀ q, q ∈ e :: d.E → q ≠ 30) : d.S e W base (fun k => ok k ∧ k ≠ g) v xs := by
  obtain ⟨hb, hg⟩ := h
  exact Kd.S_types ho hb ht
theorem IsS30.own_neS {w0 W : World} {g : Nat} {f0 : Int} {f1 : Int} {f2 : Int} {α : Type} {d : Kd α} {e : Nat} {base : Nat} {ok : Nat → Prop} {v : Value} {xs : List α} (h : IsS30 w0 W g f0 f1 f2) (ho : d.S e W base ok v xs) (ht : e ≠ 30) : some g ≠ v.ownBlock := by
  obtain ⟨hb, hg⟩ := h
  exact Kd.S_ne ho hb ht
theorem IsS30.lt {w0 W : World} {g : Nat} {f0 : Int} {f1 : Int} {f2 : Int} (h : IsS30 w0 W g f0 f1 f2) : g < W.heap.size := by
  obtain ⟨hb, hg⟩ := h
  exact blk_lt hb
theorem IsS30.ge {w0 W : World} {g : Nat} {f0 : Int} {f1 : Int} {f2 : Int} (h : IsS30 w0 W g f0 f1 f2) : w0.heap.size ≤ g := by
  obtain ⟨hb, hg⟩ := h
  exact hg
theorem IsS30.ne_blk {w0 W : World} {g : Nat} {f0 : Int} {f1 : Int} {f2 : Int} {a : Nat} {cs : Array Value} {t : TypeId} {fr : Nat × Nat} (h : IsS30 w0 W g f0 f1 f2) (hb2 : W.heap[a]? = some (.cells cs t fr)) (ht : t ≠ 30) : g ≠ a := by
  obtain ⟨hb, hg⟩ := h
  rintro rfl
  rw [hb] at hb2
  injection hb2 with hb2
  injection hb2 with _ ht2
  exact ht ht2.symm
theorem IsS30.far {w0 W : World} {g : Nat} {f0 : Int} {f1 : Int} {f2 : Int} {p : Addr} (h : IsS30 w0 W g f0 f1 f2) (hne : g ≠ p.block) (u : Value) : IsS30 w0 (W.setCell p u) g f0 f1 f2 := by
  obtain ⟨hb, hg⟩ := h
  exact ⟨blk_far hb hne u, hg⟩
theorem cellS30_0 {W : World} {g : Nat} {f0 : Int} {f1 : Int} {f2 : Int} (h : W.heap[g]? = some (.cells #[.int .i64 f0, .int .i64 f1, .int .i64 f2] 30 (0, 0))) : W.cell? ⟨g, 0, none⟩ = some (.int .i64 f0) := (blk_cell h 0).trans rfl
theorem IsS30.set_0 {w0 W : World} {g : Nat} {f0 : Int} {f1 : Int} {f2 : Int} (h : IsS30 w0 W g f0 f1 f2) (x : Int) : IsS30 w0 (W.setCell ⟨g, 0, none⟩ (.int .i64 x)) g x f1 f2 := by
  obtain ⟨hb, hg⟩ := h
  exact ⟨by simpa using blk_set hb 0 (.int .i64 x), hg⟩
theorem cellS30_1 {W : World} {g : Nat} {f0 : Int} {f1 : Int} {f2 : Int} (h : W.heap[g]? = some (.cells #[.int .i64 f0, .int .i64 f1, .int .i64 f2] 30 (0, 0))) : W.cell? ⟨g, 1, none⟩ = some (.int .i64 f1) := (blk_cell h 1).trans rfl
theorem IsS30.set_1 {w0 W : World} {g : Nat} {f0 : Int} {f1 : Int} {f2 : Int} (h : IsS30 w0 W g f0 f1 f2) (x : Int) : IsS30 w0 (W.setCell ⟨g, 1, none⟩ (.int .i64 x)) g f0 x f2 := by
  obtain ⟨hb, hg⟩ := h
  exact ⟨by simpa using blk_set hb 1 (.int .i64 x), hg⟩
theorem cellS30_2 {W : World} {g : Nat} {f0 : Int} {f1 : Int} {f2 : Int} (h : W.heap[g]? = some (.cells #[.int .i64 f0, .int .i64 f1, .int .i64 f2] 30 (0, 0))) : W.cell? ⟨g, 2, none⟩ = some (.int .i64 f2) := (blk_cell h 2).trans rfl
theorem IsS30.set_2 {w0 W : World} {g : Nat} {f0 : Int} {f1 : Int} {f2 : Int} (h : IsS30 w0 W g f0 f1 f2) (x : Int) : IsS30 w0 (W.setCell ⟨g, 2, none⟩ (.int .i64 x)) g f0 f1 x := by
  obtain ⟨hb, hg⟩ := h
  exact ⟨by simpa using blk_set hb 2 (.int .i64 x), hg⟩
theorem IsS30.new (w0 W : World) (f0 : Int) (f1 : Int) (f2 : Int) (hB : Below w0.heap.size w0 W) : IsS30 w0 (W.alloc (.cells #[.int .i64 f0, .int .i64 f1, .int .i64 f2] 30)) W.heap.size f0 f1 f2 := ⟨by simpa using heap_alloc_new W _, hB.size⟩

/-! ### asm_fault: function 8 -/
def asm_fault.f (a0 : Int) (a1 : Int) : Option (Int × Int × Int) := some (0, a0, a1)
set_option maxHeartbeats 8000000 in
set_option maxRecDepth 100000 in
theorem asm_fault.calls (a0 : Int) (a1 : Int) (r1 : Int) (r2 : Int) (r3 : Int) (w0 w : World) (hB : Below w0.heap.size w0 w) (h : asm_fault.f a0 a1 = some (r1, r2, r3)) :
    Calls Tryz.prog 8 #[.int .i64 a0, .int .i64 a1] w fun e w' => ∃ g_ : Nat, e = .returned (.pointer (some ⟨g_, 0, none⟩)) ∧ IsS30 w0 w' g_ r1 r2 r3 ∧ Below w0.heap.size w0 w' ∧ Below w.heap.size w w' := by
  have hu30 := Tryz.underlying30
  have HBW := Aside0.mk (Below.refl w.heap.size w)
  have HW0 := Aside0.mk hB.size
  have HB := Aside0.mk hB
  clear hB
  have H : (some (0, a0, a1)) = some (r1, r2, r3) := h
  clear h
  simp only [Option.some.injEq, Prod.mk.injEq] at H
  obtain ⟨rfl, rfl, rfl⟩ := H
  go_enter Tryz.func8, Tryz.ntmps8
  go_wp2_with (first | ((with_reducible refine gate_dst (N := 8) rfl ?_); refine box_event ?hg (N := 8) ?hd (cs := #[.int .i64 0, .int .i64 a0, .int .i64 a1]) (t := 30) ?hr ?_; (case hd => rfl); (case hg => rfl); (case hr => first | (go_simp; done) | (go_simp; rfl)); intro gb101 hg w3 hbox hb; have n0_ := Aside0.mk (below_step HBW.out hb); have n1_ := Aside0.mk (below_step (by repeat (first | (with_reducible first | exact HB.out | apply below_alloc | apply pw_below_drewN | apply below_drew1) | exact HB.out)) hb); have n2_ := Aside0.mk (hbox); have n3_ := Aside0.mk ((by rw [hg]; exact (below_size (by repeat (first | (with_reducible first | exact HBW.out | apply below_alloc | apply pw_below_drewN | apply below_drew1) | exact HBW.out))) : w.heap.size ≤ gb101)); have n4_ := Aside0.mk ((Nat.le_trans HW0.out (by rw [hg]; exact (below_size (by repeat (first | (with_reducible first | exact HBW.out | apply below_alloc | apply pw_below_drewN | apply below_drew1) | exact HBW.out))) : w.heap.size ≤ gb101) : w0.heap.size ≤ gb101)); clear HBW; clear HB; have HBW := n0_; have HB := n1_; have BK101 := n2_; have GW101 := n3_; have GE101 := n4_; clear n0_ n1_ n2_ n3_ n4_; clear hb hbox hg))
  go_ret
  exact ⟨_, rfl, (show IsS30 w0 _ gb101 0 a0 a1 from ⟨by (with_reducible repeat (first | refine blk_drewN ?_ _ | refine blk_drew ?_ | refine blk_alloc ?_ _)); exact BK101.out, GE101.out⟩), by repeat (first | (with_reducible first | exact HB.out | apply below_alloc | apply pw_below_drewN | apply below_drew1 | refine below_set ?_ GE101.out) | exact HB.out), by repeat (first | (with_reducible first | exact HBW.out | apply below_alloc | apply pw_below_drewN | apply below_drew1 | refine below_set ?_ GW101.out) | exact HBW.out)⟩

/-! ### asm_wordByte: function 36 -/
def asm_wordByte.f (a0 : Int) : Option (Bool) := if a0 ≥ 48 then (if a0 ≤ 57 then (some true) else (if a0 ≥ 97 then (if a0 ≤ 122 then (some true) else (if a0 ≥ 65 then (some (decide (a0 ≤ 90))) else (some false))) else (if a0 ≥ 65 then (some (decide (a0 ≤ 90))) else (some false)))) else (if a0 ≥ 97 then (if a0 ≤ 122 then (some true) else (if a0 ≥ 65 then (some (decide (a0 ≤ 90))) else (some false))) else (if a0 ≥ 65 then (some (decide (a0 ≤ 90))) else (some false)))
set_option maxHeartbeats 8000000 in
set_option maxRecDepth 100000 in
theorem asm_wordByte.calls (a0 : Int) (r : Bool) (w : World) (h : asm_wordByte.f a0 = some r) :
    Calls Tryz.prog 36 #[.int .u8 a0] w fun e w' => e = .returned (.bool r) ∧ Drawn0 w w' := by
  have H : (if a0 ≥ 48 then (if a0 ≤ 57 then (some true) else (if a0 ≥ 97 then (if a0 ≤ 122 then (some true) else (if a0 ≥ 65 then (some (decide (a0 ≤ 90))) else (some false))) else (if a0 ≥ 65 then (some (decide (a0 ≤ 90))) else (some false)))) else (if a0 ≥ 97 then (if a0 ≤ 122 then (some true) else (if a0 ≥ 65 then (some (decide (a0 ≤ 90))) else (some false))) else (if a0 ≥ 65 then (some (decide (a0 ≤ 90))) else (some false)))) = some r := h
  clear h
  by_cases c2 : a0 ≥ 48
  · rw [if_pos c2] at H
    have c2b0 : decide (48 ≤ a0) = true := decide_eq_true c2
    clear c2
    by_cases c3 : a0 ≤ 57
    · rw [if_pos c3] at H
      have c3b0 : decide (a0 ≤ 57) = true := decide_eq_true c3
      clear c3
      obtain rfl := Option.some.inj H
      go_enter Tryz.func36, Tryz.ntmps36
      go_wp2
      go_ret
      exact ⟨by first | rfl | (simp; done) | (simp only [i64_w, i32_w]; done) | (simp [i64_w, i32_w]; done) | (simp [*]; done), by repeat (first | exact Drawn0.refl _ | apply Drawn0.step)⟩
    · rw [if_neg c3] at H
      have c3b0 : decide (a0 ≤ 57) = false := decide_eq_false c3
      clear c3
      by_cases c4 : a0 ≥ 97
      · rw [if_pos c4] at H
        have c4b0 : decide (97 ≤ a0) = true := decide_eq_true c4
        clear c4
        by_cases c5 : a0 ≤ 122
        · rw [if_pos c5] at H
          have c5b0 : decide (a0 ≤ 122) = true := decide_eq_true c5
          clear c5
          obtain rfl := Option.some.inj H
          go_enter Tryz.func36, Tryz.ntmps36
          go_wp2
          go_ret
          exact ⟨by first | rfl | (simp; done) | (simp only [i64_w, i32_w]; done) | (simp [i64_w, i32_w]; done) | (simp [*]; done), by repeat (first | exact Drawn0.refl _ | apply Drawn0.step)⟩
        · rw [if_neg c5] at H
          have c5b0 : decide (a0 ≤ 122) = false := decide_eq_false c5
          clear c5
          by_cases c6 : a0 ≥ 65
          · rw [if_pos c6] at H
            have c6b0 : decide (65 ≤ a0) = true := decide_eq_true c6
            clear c6
            obtain rfl := Option.some.inj H
            go_enter Tryz.func36, Tryz.ntmps36
            go_wp2
            go_ret
            exact ⟨by first | rfl | (simp; done) | (simp only [i64_w, i32_w]; done) | (simp [i64_w, i32_w]; done) | (simp [*]; done), by repeat (first | exact Drawn0.refl _ | apply Drawn0.step)⟩
          · rw [if_neg c6] at H
            have c6b0 : decide (65 ≤ a0) = false := decide_eq_false c6
            clear c6
            obtain rfl := Option.some.inj H
            go_enter Tryz.func36, Tryz.ntmps36
            go_wp2
            go_ret
            exact ⟨by first | rfl | (simp; done) | (simp only [i64_w, i32_w]; done) | (simp [i64_w, i32_w]; done) | (simp [*]; done), by repeat (first | exact Drawn0.refl _ | apply Drawn0.step)⟩
      · rw [if_neg c4] at H
        have c4b0 : decide (97 ≤ a0) = false := decide_eq_false c4
        clear c4
        by_cases c7 : a0 ≥ 65
        · rw [if_pos c7] at H
          have c7b0 : decide (65 ≤ a0) = true := decide_eq_true c7
          clear c7
          obtain rfl := Option.some.inj H
          go_enter Tryz.func36, Tryz.ntmps36
          go_wp2
          go_ret
          exact ⟨by first | rfl | (simp; done) | (simp only [i64_w, i32_w]; done) | (simp [i64_w, i32_w]; done) | (simp [*]; done), by repeat (first | exact Drawn0.refl _ | apply Drawn0.step)⟩
        · rw [if_neg c7] at H
          have c7b0 : decide (65 ≤ a0) = false := decide_eq_false c7
          clear c7
          obtain rfl := Option.some.inj H
          go_enter Tryz.func36, Tryz.ntmps36
          go_wp2
          go_ret
          exact ⟨by first | rfl | (simp; done) | (simp only [i64_w, i32_w]; done) | (simp [i64_w, i32_w]; done) | (simp [*]; done), by repeat (first | exact Drawn0.refl _ | apply Drawn0.step)⟩
  · rw [if_neg c2] at H
    have c2b0 : decide (48 ≤ a0) = false := decide_eq_false c2
    clear c2
    by_cases c8 : a0 ≥ 97
    · rw [if_pos c8] at H
      have c8b0 : decide (97 ≤ a0) = true := decide_eq_true c8
      clear c8
      by_cases c9 : a0 ≤ 122
      · rw [if_pos c9] at H
        have c9b0 : decide (a0 ≤ 122) = true := decide_eq_true c9
        clear c9
        obtain rfl := Option.some.inj H
        go_enter Tryz.func36, Tryz.ntmps36
        go_wp2
        go_ret
        exact ⟨by first | rfl | (simp; done) | (simp only [i64_w, i32_w]; done) | (simp [i64_w, i32_w]; done) | (simp [*]; done), by repeat (first | exact Drawn0.refl _ | apply Drawn0.step)⟩
      · rw [if_neg c9] at H
        have c9b0 : decide (a0 ≤ 122) = false := decide_eq_false c9
        clear c9
        by_cases c10 : a0 ≥ 65
        · rw [if_pos c10] at H
          have c10b0 : decide (65 ≤ a0) = true := decide_eq_true c10
          clear c10
          obtain rfl := Option.some.inj H
          go_enter Tryz.func36, Tryz.ntmps36
          go_wp2
          go_ret
          exact ⟨by first | rfl | (simp; done) | (simp only [i64_w, i32_w]; done) | (simp [i64_w, i32_w]; done) | (simp [*]; done), by repeat (first | exact Drawn0.refl _ | apply Drawn0.step)⟩
        · rw [if_neg c10] at H
          have c10b0 : decide (65 ≤ a0) = false := decide_eq_false c10
          clear c10
          obtain rfl := Option.some.inj H
          go_enter Tryz.func36, Tryz.ntmps36
          go_wp2
          go_ret
          exact ⟨by first | rfl | (simp; done) | (simp only [i64_w, i32_w]; done) | (simp [i64_w, i32_w]; done) | (simp [*]; done), by repeat (first | exact Drawn0.refl _ | apply Drawn0.step)⟩
    · rw [if_neg c8] at H
      have c8b0 : decide (97 ≤ a0) = false := decide_eq_false c8
      clear c8
      by_cases c11 : a0 ≥ 65
      · rw [if_pos c11] at H
        have c11b0 : decide (65 ≤ a0) = true := decide_eq_true c11
        clear c11
        obtain rfl := Option.some.inj H
        go_enter Tryz.func36, Tryz.ntmps36
        go_wp2
        go_ret
        exact ⟨by first | rfl | (simp; done) | (simp only [i64_w, i32_w]; done) | (simp [i64_w, i32_w]; done) | (simp [*]; done), by repeat (first | exact Drawn0.refl _ | apply Drawn0.step)⟩
      · rw [if_neg c11] at H
        have c11b0 : decide (65 ≤ a0) = false := decide_eq_false c11
        clear c11
        obtain rfl := Option.some.inj H
        go_enter Tryz.func36, Tryz.ntmps36
        go_wp2
        go_ret
        exact ⟨by first | rfl | (simp; done) | (simp only [i64_w, i32_w]; done) | (simp [i64_w, i32_w]; done) | (simp [*]; done), by repeat (first | exact Drawn0.refl _ | apply Drawn0.step)⟩

/-- THE ONE PURE STATEMENT of asm_wordByte: yours. -/
def asm_wordByte.Pure : Prop := ∀ (a0 : Int), (Lit.int .u8 a0).wf = true → asm_wordByte.f a0 = some true
theorem asm_wordByte.walk (P : asm_wordByte.Pure) (a0 : Int) (w : World) (w0 : (Lit.int .u8 a0).wf = true) :
    Calls Tryz.prog 36 #[.int .u8 a0] w fun e w' => e = .returned (.bool true) ∧ Below w.heap.size w w' := by
  have h := P a0 w0
  refine (asm_wordByte.calls a0 true w h).mono ?_
  rintro e w' ⟨rfl, hd⟩
  exact ⟨rfl, hd.below⟩

end Go.Proofs.YtbmnifnahbehbaaGreatDoor.PLf

/- asm's tokens, parser and trees in memory. -/
set_option linter.unusedVariables false
set_option linter.unusedSimpArgs false
namespace Go.Proofs.YtbmnifnahbehbaaGreatDoor
open Go.RowKit Go.Lib Go.Proofs.YtbmnifnahbehbaaGreatDoorW.PrintWords Go.Proofs.YtbmnifnahbehbaaGreatDoorW.PrintMore Go.Proofs.YtbmnifnahbehbaaGreatDoorW.PrintLast
open AvP
def tokL (x : Tok) : List Value := [.int .i64 x.k, .int .i64 x.a, .int .i64 x.e, .string x.t, .int .u64 x.v, .bool x.d]
def k49 : Kd Tok := Kd.iso (Kd.pair (Kd.int .i64) (Kd.pair (Kd.int .i64) (Kd.pair (Kd.int .i64) (Kd.pair Kd.string (Kd.pair (Kd.int .u64) Kd.bool))))) (fun x : Tok => (x.k, x.a, x.e, x.t, x.v, x.d))
def z49 : Tok := ⟨0, 0, 0, ⟨#[]⟩, 0, false⟩
theorem k49_open {w : World} {x : Tok} {cs : List Value} (h : k49.K w x cs) : cs = tokL x := by
  obtain ⟨_, _, rfl, rfl, ⟨_, _, rfl, rfl, ⟨_, _, rfl, rfl, ⟨_, _, rfl, rfl, ⟨_, _, rfl, rfl, rfl⟩⟩⟩⟩⟩ := h
  rfl
/-- A token of the row. -/
theorem tok_at {w : World} {A : Option Addr} {n i : Nat} {l : List Tok} {x : Tok} (h : Kd.C k49 w A n l) (hx : l[i]? = some x) : ∃ ad, A = some ad ∧ i < n ∧ w.cell? (ad.add (i * 6)) = some (.int .i64 x.k) ∧ w.cell? ⟨(ad.add (i * 6)).block, (ad.add (i * 6)).off + 1, none⟩ = some (.int .i64 x.a) ∧ w.cell? ⟨(ad.add (i * 6)).block, (ad.add (i * 6)).off + 2, none⟩ = some (.int .i64 x.e) ∧ w.cell? ⟨(ad.add (i * 6)).block, (ad.add (i * 6)).off + 3, none⟩ = some (.string x.t) ∧ w.cell? ⟨(ad.add (i * 6)).block, (ad.add (i * 6)).off + 4, none⟩ = some (.int .u64 x.v) ∧ w.cell? ⟨(ad.add (i * 6)).block, (ad.add (i * 6)).off + 5, none⟩ = some (.bool x.d) := by
  have hil : i < l.length := (List.getElem?_eq_some_iff.1 hx).1
  have hn : l.length = n := h.1
  obtain ⟨ad, c, e, _, hK, hc0⟩ := Kd.C_get h z49 (i : Int) (by omega) (by omega)
  rw [Int.toNat_natCast] at hK hc0
  have hg : l.getD i z49 = x := by rw [List.getD_eq_getElem?_getD, hx]; rfl
  rw [hg] at hK
  have hc : ∀ j u, c[j]? = some u → w.cell? (ad.add (i * 6 + j)) = some u := hc0
  obtain rfl := k49_open hK
  exact ⟨ad, e, by omega, hc 0 _ rfl, by rw [← add_field _ _ 1 (by omega)]; exact hc 1 _ rfl, by rw [← add_field _ _ 2 (by omega)]; exact hc 2 _ rfl, by rw [← add_field _ _ 3 (by omega)]; exact hc 3 _ rfl, by rw [← add_field _ _ 4 (by omega)]; exact hc 4 _ rfl, by rw [← add_field _ _ 5 (by omega)]; exact hc 5 _ rfl⟩
/-- All but the block g stays. -/
structure KG (g : Nat) (W W' : World) : Prop where
  b : Below 0 W W'
  k : ∀ j, j < W.heap.size → j ≠ g → W'.heap[j]? = W.heap[j]?
theorem KG.refl (g : Nat) (W : World) : KG g W W := ⟨Below.refl 0 W, fun _ _ _ => rfl⟩
theorem KG.trans {g : Nat} {W W1 W2 : World} (h : KG g W W1) (k : KG g W1 W2) : KG g W W2 := ⟨h.b.trans k.b, fun j hj hn => (k.k j (Nat.lt_of_lt_of_le hj h.b.size) hn).trans (h.k j hj hn)⟩
theorem KG.of_below {g : Nat} {W W' : World} (h : Below W.heap.size W W') : KG g W W' := ⟨h.mono (Nat.zero_le _), fun j hj _ => h.block j hj⟩
theorem KG.set {g : Nat} {W W1 : World} (h : KG g W W1) (o : Nat) (v : Value) : KG g W (W1.setCell ⟨g, o, none⟩ v) :=
  ⟨Below.setCell h.b (p := ⟨g, o, none⟩) (Nat.zero_le _) v, fun j hj hn => (Below.heap_setCell W1 ⟨g, o, none⟩ v j hn).trans (h.k j hj hn)⟩
theorem KG.below {g : Nat} {w W W' : World} (h : KG g W W') (hb : Below w.heap.size w W) (hg : w.heap.size ≤ g) : Below w.heap.size w W' :=
  ⟨h.b.os.trans hb.os, h.b.tape.trans hb.tape, h.b.output.trans hb.output, Nat.le_trans hb.size h.b.size, fun j hj => (h.k j (Nat.lt_of_lt_of_le hj hb.size) (by omega)).trans (hb.block j hj)⟩
def nodeA (t : Tok) (l r : Value) : Array Value := (tokL t ++ [l, r]).toArray
/-- v points to the tree of an expression; none of its blocks is g. -/
def TreeIs (W : World) (g : Nat) : Ex → Value → Prop
  | .leaf t, v => ∃ b, v = .pointer (some ⟨b, 0, none⟩) ∧ b ≠ g ∧ W.heap[b]? = some (.cells (nodeA t (.pointer none) (.pointer none)) 87 (0, 0))
  | .un t e, v => ∃ b lv, v = .pointer (some ⟨b, 0, none⟩) ∧ b ≠ g ∧ W.heap[b]? = some (.cells (nodeA t lv (.pointer none)) 87 (0, 0)) ∧ TreeIs W g e lv
  | .bin t l r, v => ∃ b lv rv, v = .pointer (some ⟨b, 0, none⟩) ∧ b ≠ g ∧ W.heap[b]? = some (.cells (nodeA t lv rv) 87 (0, 0)) ∧ TreeIs W g l lv ∧ TreeIs W g r rv
theorem TreeIs.kg {W W' : World} {g : Nat} (hk : KG g W W') : ∀ {e : Ex} {v : Value}, TreeIs W g e v → TreeIs W' g e v
  | .leaf t, v, ⟨b, e1, h1, h2⟩ => ⟨b, e1, h1, (hk.k b (blk_lt h2) h1).trans h2⟩
  | .un t e, v, ⟨b, lv, e1, h1, h2, h3⟩ => ⟨b, lv, e1, h1, (hk.k b (blk_lt h2) h1).trans h2, TreeIs.kg hk h3⟩
  | .bin t l r, v, ⟨b, lv, rv, e1, h1, h2, h3, h4⟩ => ⟨b, lv, rv, e1, h1, (hk.k b (blk_lt h2) h1).trans h2, TreeIs.kg hk h3, TreeIs.kg hk h4⟩
def FaultIs (W : World) (g : Nat) (v : Value) (a y : Int) : Prop := ∃ b, v = .pointer (some ⟨b, 0, none⟩) ∧ b ≠ g ∧ W.heap[b]? = some (.cells #[.int .i64 0, .int .i64 a, .int .i64 y] 30 (0, 0))
theorem FaultIs.kg {W W' : World} {g : Nat} {v : Value} {a y : Int} (hk : KG g W W') (h : FaultIs W g v a y) : FaultIs W' g v a y := by
  obtain ⟨b, e1, h1, h2⟩ := h
  exact ⟨b, e1, h1, (hk.k b (blk_lt h2) h1).trans h2⟩
/-- The parser's box. -/
structure PSt (w : World) (g : Nat) (A : Option Addr) (n cp : Nat) (i d : Nat) (W : World) : Prop where
  b : Below w.heap.size w W
  x : W.heap[g]? = some (.cells #[.slice A n cp, .int .i64 (i : Int), .int .i64 (n : Int), .int .i64 (d : Int)] 83 (0, 0))
  g0 : w.heap.size ≤ g
section
variable {w W W' : World} {g n cp i d : Nat} {A : Option Addr}
theorem PSt.c0 (h : PSt w g A n cp i d W) : W.cell? ⟨g, 0, none⟩ = some (.slice A n cp) := blk_cell h.x 0
theorem PSt.c1 (h : PSt w g A n cp i d W) : W.cell? ⟨g, 1, none⟩ = some (.int .i64 (i : Int)) := blk_cell h.x 1
theorem PSt.c2 (h : PSt w g A n cp i d W) : W.cell? ⟨g, 2, none⟩ = some (.int .i64 (n : Int)) := blk_cell h.x 2
theorem PSt.c3 (h : PSt w g A n cp i d W) : W.cell? ⟨g, 3, none⟩ = some (.int .i64 (d : Int)) := blk_cell h.x 3
theorem PSt.below (h : PSt w g A n cp i d W) (hb : Below W.heap.size W W') : PSt w g A n cp i d W' := ⟨h.b.trans (hb.mono h.b.size), blk_below h.x hb, h.g0⟩
theorem PSt.set1 (h : PSt w g A n cp i d W) (j : Nat) : PSt w g A n cp j d (W.setCell ⟨g, 1, none⟩ (.int .i64 (j : Int))) := ⟨Below.setCell h.b (p := ⟨g, 1, none⟩) h.g0 _, blk_put h.x 1 _ rfl, h.g0⟩
theorem PSt.set3 (h : PSt w g A n cp i d W) (j : Nat) : PSt w g A n cp i j (W.setCell ⟨g, 3, none⟩ (.int .i64 (j : Int))) := ⟨Below.setCell h.b (p := ⟨g, 3, none⟩) h.g0 _, blk_put h.x 3 _ rfl, h.g0⟩
end
theorem fault_c (a y : Int) (g : Nat) (w : World) (hg : g < w.heap.size) : Calls Tryz.prog 8 #[.int .i64 a, .int .i64 y] w fun e w' => ∃ v, e = .returned v ∧ FaultIs w' g v a y ∧ Below w.heap.size w w' := by
  refine (PLf.asm_fault.calls a y 0 a y w w (Below.refl _ _) rfl).mono ?_
  rintro e w' ⟨b, he, ⟨h1, h2⟩, _, hb⟩
  exact ⟨_, he, ⟨b, rfl, by omega, h1⟩, hb⟩
end Go.Proofs.YtbmnifnahbehbaaGreatDoor

/- asm.strength: a map of marks, laid anew at each call; what a look-up in it answers. -/
set_option linter.unusedVariables false
set_option linter.unusedSimpArgs false
namespace Go.Proofs.YtbmnifnahbehbaaGreatDoor
open Go.RowKit Go.Lib Go.Proofs.YtbmnifnahbehbaaGreatDoorW.PrintWords Go.Proofs.YtbmnifnahbehbaaGreatDoorW.PrintMore Go.Proofs.YtbmnifnahbehbaaGreatDoorW.PrintLast
open Go.MapKept Go.ChangeMaps
open AvP
theorem ins_run {W : World} {r clock : Nat} {es : Array MapEntry} {s : ByteArray} {v : Value} (hb : W.heap[r]? = some (.map es clock)) (hf : Instr.findNow .string (.string s) es.toList 0 = some none) :
    (Instr.mapUpdate 124 (.map (some r)) (.string s) v).run Tryz.prog W = .ok () (setBlock W r (.map (es.push ⟨.string s, v, clock⟩) (clock + 1))) := by
  have hkey : IsKey .string (.string s) := trivial
  simp [Instr.mapUpdate, run_underlying Tryz.underlying124, MapKept.run_getObj_map hb, run_checkKey Tryz.underlying9 hkey, run_findKey Tryz.underlying9 hf, MapKept.run_setObj_map _ hb, Result.andThen, setBlock]
def strTab : List (ByteArray × Int) := [(⟨#[124]⟩, 1), (⟨#[94]⟩, 2), (⟨#[38]⟩, 3), (⟨#[60, 60]⟩, 4), (⟨#[62, 62]⟩, 4), (⟨#[43]⟩, 5), (⟨#[45]⟩, 5), (⟨#[42]⟩, 6), (⟨#[47]⟩, 6), (⟨#[37]⟩, 6)]
def ent (s : ByteArray) (v : Int) (i : Nat) : MapEntry := ⟨.string s, .int .i64 v, i⟩
def strEnts : Array MapEntry := #[ent ⟨#[124]⟩ 1 0, ent ⟨#[94]⟩ 2 1, ent ⟨#[38]⟩ 3 2, ent ⟨#[60, 60]⟩ 4 3, ent ⟨#[62, 62]⟩ 4 4, ent ⟨#[43]⟩ 5 5, ent ⟨#[45]⟩ 5 6, ent ⟨#[42]⟩ 6 7, ent ⟨#[47]⟩ 6 8, ent ⟨#[37]⟩ 6 9]
theorem setBlock_get {W : World} {r : Nat} {o o' : Obj} (h : W.heap[r]? = some o) : (setBlock W r o').heap[r]? = some o' := (MapKept.heap_set h).1
theorem setBlock_below {w W : World} {r : Nat} {o' : Obj} (h : Below w.heap.size w W) (hr : w.heap.size ≤ r) : Below w.heap.size w (setBlock W r o') := by
  refine ⟨h.os, h.tape, h.output, by show _ ≤ (W.heap.setIfInBounds r o').size; rw [Array.size_setIfInBounds]; exact h.size, fun k hk => ?_⟩
  have hne : r ≠ k := by omega
  have e : (setBlock W r o').heap[k]? = W.heap[k]? := by
    show (W.heap.setIfInBounds r o')[k]? = _
    simp [Array.getElem?_setIfInBounds, hne]
  exact e.trans (h.block k hk)
theorem ins_step {w W : World} {clock : Nat} {es : Array MapEntry} (b : Below w.heap.size w W) (h : W.heap[w.heap.size]? = some (.map es clock)) (s : ByteArray) (v : Int) (hf : Instr.findNow .string (.string s) es.toList 0 = some none) :
    ∃ W', (Instr.mapUpdate 124 (.map (some w.heap.size)) (.string s) (.int .i64 v)).run Tryz.prog W = .ok () W' ∧ Below w.heap.size w W' ∧ W'.heap[w.heap.size]? = some (.map (es.push ⟨.string s, .int .i64 v, clock⟩) (clock + 1)) :=
  ⟨_, ins_run h hf, setBlock_below b (Nat.le_refl _), setBlock_get h⟩
/-- The map of marks. -/
def StrM (W : World) (r : Nat) : Prop := W.heap[r]? = some (.map strEnts 10)
set_option maxHeartbeats 1600000 in
set_option maxRecDepth 100000 in
theorem strength_c (w : World) : Calls Tryz.prog 45 #[] w fun e w' => e = .returned (.map (some w.heap.size)) ∧ StrM w' w.heap.size ∧ Below w.heap.size w w' := by
  go_enter Tryz.func45, Tryz.ntmps45
  go_wp2
  have b := (Below.refl w.heap.size w).alloc (Nat.le_refl _) (.map #[] 0)
  have h : (w.alloc (.map #[] 0)).heap[w.heap.size]? = some (.map #[] 0) := blk_new w _
  rw [show (Sem.run Tryz.prog (Instr.makeMap 124 none) w) = .ok (.map (some w.heap.size)) (w.alloc (.map #[] 0)) from rfl]
  obtain ⟨W, hW⟩ : ∃ W, w.alloc (.map #[] 0) = W := ⟨_, rfl⟩
  rw [hW] at b h ⊢
  clear hW
  go_wp2
  obtain ⟨W, hr, b, h⟩ := ins_step b h ⟨#[124]⟩ 1 (by rfl)
  rw [hr]
  clear hr
  go_wp2
  obtain ⟨W, hr, b, h⟩ := ins_step b h ⟨#[94]⟩ 2 (by rfl)
  rw [hr]
  clear hr
  go_wp2
  obtain ⟨W, hr, b, h⟩ := ins_step b h ⟨#[38]⟩ 3 (by rfl)
  rw [hr]
  clear hr
  go_wp2
  obtain ⟨W, hr, b, h⟩ := ins_step b h ⟨#[60, 60]⟩ 4 (by rfl)
  rw [hr]
  clear hr
  go_wp2
  obtain ⟨W, hr, b, h⟩ := ins_step b h ⟨#[62, 62]⟩ 4 (by rfl)
  rw [hr]
  clear hr
  go_wp2
  obtain ⟨W, hr, b, h⟩ := ins_step b h ⟨#[43]⟩ 5 (by rfl)
  rw [hr]
  clear hr
  go_wp2
  obtain ⟨W, hr, b, h⟩ := ins_step b h ⟨#[45]⟩ 5 (by rfl)
  rw [hr]
  clear hr
  go_wp2
  obtain ⟨W, hr, b, h⟩ := ins_step b h ⟨#[42]⟩ 6 (by rfl)
  rw [hr]
  clear hr
  go_wp2
  obtain ⟨W, hr, b, h⟩ := ins_step b h ⟨#[47]⟩ 6 (by rfl)
  rw [hr]
  clear hr
  go_wp2
  obtain ⟨W, hr, b, h⟩ := ins_step b h ⟨#[37]⟩ 6 (by rfl)
  rw [hr]
  clear hr
  go_wp2
  go_ret
  exact ⟨rfl, h, b⟩
theorem find_str (s : ByteArray) (l : List MapEntry) (hl : ∀ x ∈ l, ∃ t, x.key = .string t) : Instr.findNow .string (.string s) l 0 = some none ∧ (∀ x ∈ l, x.key ≠ .string s) ∨ ∃ j e, Instr.findNow .string (.string s) l 0 = some (some (j, e.val)) ∧ l[j]? = some e ∧ e.key = .string s := by
  rcases findNow_spec (d := .string) (k := .string s) trivial l 0 (fun x hx => by obtain ⟨t, ht⟩ := hl x hx; rw [ht]; trivial) with h | ⟨j, e, h⟩
  · exact .inl h
  · rw [Nat.zero_add] at h
    exact .inr ⟨j, e, h⟩
/-- The strength by the text alone. -/
def strB (s : ByteArray) : Nat := if s = ⟨#[124]⟩ then 1 else if s = ⟨#[94]⟩ then 2 else if s = ⟨#[38]⟩ then 3 else if s = ⟨#[60, 60]⟩ ∨ s = ⟨#[62, 62]⟩ then 4 else if s = ⟨#[43]⟩ ∨ s = ⟨#[45]⟩ then 5 else if s = ⟨#[42]⟩ ∨ s = ⟨#[47]⟩ ∨ s = ⟨#[37]⟩ then 6 else 0
theorem str_eq (t : Tok) : str t = if t.k = 6 then strB t.t else 0 := rfl
theorem str_look {W : World} {r : Nat} (h : StrM W r) (s : ByteArray) : (Instr.lookup 124 (.map (some r)) (.string s) false).run Tryz.prog W = .ok (.int .i64 ((strB s : Nat) : Int)) W := by
  have hkey : IsKey .string (.string s) := trivial
  have hl : strEnts.toList = [ent ⟨#[124]⟩ 1 0, ent ⟨#[94]⟩ 2 1, ent ⟨#[38]⟩ 3 2, ent ⟨#[60, 60]⟩ 4 3, ent ⟨#[62, 62]⟩ 4 4, ent ⟨#[43]⟩ 5 5, ent ⟨#[45]⟩ 5 6, ent ⟨#[42]⟩ 6 7, ent ⟨#[47]⟩ 6 8, ent ⟨#[37]⟩ 6 9] := rfl
  rcases find_str s strEnts.toList (by rw [hl]; intro x hx; simp only [List.mem_cons, List.not_mem_nil, or_false] at hx; rcases hx with rfl | rfl | rfl | rfl | rfl | rfl | rfl | rfl | rfl | rfl <;> exact ⟨_, rfl⟩) with ⟨h1, h2⟩ | ⟨j, e, h1, h2, h3⟩
  · have h4 : strB s = 0 := by
      rw [hl] at h2
      unfold strB
      simp only [List.mem_cons, List.not_mem_nil, or_false, forall_eq_or_imp, forall_eq, ent, ne_eq, Value.string.injEq, Value.string.injEq] at h2
      obtain ⟨a1, a2, a3, a4, a5, a6, a7, a8, a9, a10⟩ := h2
      rw [if_neg (Ne.symm a1), if_neg (Ne.symm a2), if_neg (Ne.symm a3), if_neg (fun h => h.elim (Ne.symm a4) (Ne.symm a5)), if_neg (fun h => h.elim (Ne.symm a6) (Ne.symm a7)), if_neg (fun h => h.elim (Ne.symm a8) fun h => h.elim (Ne.symm a9) (Ne.symm a10))]
    simp [Instr.lookup, run_underlying Tryz.underlying124, MapKept.run_getObj_map h, run_checkKey Tryz.underlying9 hkey, run_findKey Tryz.underlying9 h1, h4, Result.andThen]
  · have h4 : e.val = .int .i64 ((strB s : Nat) : Int) := by
      rw [hl] at h2
      have hm := List.mem_of_getElem? h2
      simp only [List.mem_cons, List.not_mem_nil, or_false] at hm
      rcases hm with rfl | rfl | rfl | rfl | rfl | rfl | rfl | rfl | rfl | rfl <;> (simp only [ent, Value.string.injEq] at h3; subst h3; exact congrArg (Value.int .i64) (by decide +kernel))
    rw [h4] at h1
    simp [Instr.lookup, run_underlying Tryz.underlying124, MapKept.run_getObj_map h, run_checkKey Tryz.underlying9 hkey, run_findKey Tryz.underlying9 h1, Result.andThen]
end Go.Proofs.YtbmnifnahbehbaaGreatDoor

/- asm.parser.here: the fault of form at the place. -/
set_option linter.unusedVariables false
set_option linter.unusedSimpArgs false
namespace Go.Proofs.YtbmnifnahbehbaaGreatDoor
open Go.RowKit Go.Lib Go.Proofs.YtbmnifnahbehbaaGreatDoorW.PrintWords Go.Proofs.YtbmnifnahbehbaaGreatDoorW.PrintMore Go.Proofs.YtbmnifnahbehbaaGreatDoorW.PrintLast
open AvP
set_option maxHeartbeats 1600000 in
set_option maxRecDepth 100000 in
theorem here_c {w W : World} {g n cp i d : Nat} {A : Option Addr} {l : List Tok} (h : PSt w g A n cp i d W) (hl : Kd.C k49 w A n l) (hi : i ≤ 1000000000) (hn : n ≤ 1000000000) :
    Calls Tryz.prog 25 #[.pointer (some ⟨g, 0, none⟩)] W fun e w' => ∃ v, e = .returned v ∧ FaultIs w' g v (here l i) 83 ∧ Below W.heap.size W w' := by
  have hC := Kd.C_below hl h.b
  have hln : l.length = n := hl.1
  have c0 := h.c0
  have c1 := h.c1
  have hg : g < W.heap.size := blk_lt h.x
  have HH := Lib.hid hg
  clear hg
  by_cases h1 : i < n
  · obtain ⟨t, ht⟩ : ∃ t, l[i]? = some t := ⟨_, List.getElem?_eq_getElem (by omega)⟩
    obtain ⟨ad, rfl, _, k0, k1, k2, k3, k4, k5⟩ := tok_at hC ht
    have e1 : here l i = t.a := by unfold here; rw [ht]
    rw [e1]
    have q1 : decide ((i : Int) < (n : Int)) = true := by simp [h1]
    have HL := Lib.hid (And.intro hl (And.intro hC (And.intro ht hln)))
    clear hl hC ht hln
    have H0 := Lib.hid h
    clear h
    go_enter Tryz.func25, Tryz.ntmps25
    go_wp2
    go_quiet (fail)
    go_wp2
    have hA := pw_below_drewN (Below.refl W.heap.size W) nq
    have b0 := (hA.cell HH.out).trans c0
    have b1 := (hA.cell HH.out).trans c1
    have b2 := (hA.cell (World.block_lt_of_cell? W _ k1)).trans k1
    have hB := below_drew hA
    have C0 := Lib.hid c0
    have C1 := Lib.hid c1
    have K1 := Lib.hid k1
    clear hA c0 c1 k0 k1 k2 k3 k4 k5
    go_region_held2 (fun w' => w'.cell? ⟨g, 0, none⟩ = some (.slice (some ad) n cp) ∧ w'.cell? ⟨g, 1, none⟩ = some (.int .i64 (i : Int)) ∧ w'.cell? ⟨(ad.add (i * 6)).block, (ad.add (i * 6)).off + 1, none⟩ = some (.int .i64 t.a)) (first | exact ⟨b0, b1, b2⟩ | go_keep)
      (first | (go_at_call 8; refine (fault_c t.a 83 g _ (Nat.lt_of_lt_of_le HH.out hB.size)).mono ?_; rintro e w2 ⟨v, rfl, hf, hd⟩; have hd2 := hB.trans (hd.mono hB.size); have d0 := (hd2.cell HH.out).trans C0.out; have d1 := (hd2.cell HH.out).trans C1.out; have d2 := (hd2.cell (World.block_lt_of_cell? W _ K1.out)).trans K1.out; have HF := Lib.hid (And.intro hf hd2); clear hf hd hd2))
    go_wp2
    go_ret
    exact ⟨_, rfl, HF.out.1, HF.out.2⟩
  · have q1 : decide ((i : Int) < (n : Int)) = false := by simp; omega
    have e0 : l[i]? = none := List.getElem?_eq_none (by omega)
    by_cases h2 : 0 < n
    · obtain ⟨m, hm⟩ : ∃ m, n = m + 1 := ⟨n - 1, by omega⟩
      obtain ⟨t, ht⟩ : ∃ t, l[m]? = some t := ⟨_, List.getElem?_eq_getElem (by omega)⟩
      obtain ⟨ad, rfl, _, k0, k1, k2, k3, k4, k5⟩ := tok_at hC ht
      have e1 : here l i = t.e := by
        unfold here
        rw [e0]
        dsimp only
        rw [List.getLast?_eq_getElem?, hln, show n - 1 = m by omega, ht]
      rw [e1]
      have hs : (n : Int) - 1 = (m : Int) := by omega
      have q2 : decide ((n : Int) > 0) = true := by simp; omega
      have q3 : (m : Int) < (n : Int) := by omega
      have q4 : (0 : Int) ≤ (m : Int) := by omega
      have q5 : IntKind.i64.wrap ((n : Int) - 1) = (m : Int) := by rw [IntKind.wrap_i64]; omega
      clear hs
      have HL := Lib.hid (And.intro hl (And.intro hC (And.intro ht hln)))
      clear hl hC ht hln e0 hm
      have H0 := Lib.hid h
      clear h
      go_enter Tryz.func25, Tryz.ntmps25
      go_wp2
      go_quiet (fail)
      have hA := pw_below_drewN (Below.refl W.heap.size W) nq
      have b0 := (hA.cell HH.out).trans c0
      go_wp2
      have b2 := (hA.cell (World.block_lt_of_cell? W _ k2)).trans k2
      have hB := below_drew hA
      have C0 := Lib.hid c0
      have K2 := Lib.hid k2
      clear hA c0 c1 k0 k1 k2 k3 k4 k5
      go_region_held2 (fun w' => w'.cell? ⟨g, 0, none⟩ = some (.slice (some ad) n cp) ∧ w'.cell? ⟨(ad.add (m * 6)).block, (ad.add (m * 6)).off + 2, none⟩ = some (.int .i64 t.e)) (first | exact ⟨b0, b2⟩ | go_keep)
        (first | (go_at_call 8; refine (fault_c t.e 83 g _ (Nat.lt_of_lt_of_le HH.out hB.size)).mono ?_; rintro e w2 ⟨v, rfl, hf, hd⟩; have hd2 := hB.trans (hd.mono hB.size); have d0 := (hd2.cell HH.out).trans C0.out; have d2 := (hd2.cell (World.block_lt_of_cell? W _ K2.out)).trans K2.out; have HF := Lib.hid (And.intro hf hd2); clear hf hd hd2))
      go_wp2
      go_ret
      exact ⟨_, rfl, HF.out.1, HF.out.2⟩
    · have hn0 : n = 0 := by omega
      subst hn0
      have e1 : here l i = 0 := by
        unfold here
        rw [e0]
        dsimp only
        rw [List.length_eq_zero_iff.1 hln]
        rfl
      rw [e1]
      have HL := Lib.hid hl
      clear hl hC hln e0
      have H0 := Lib.hid h
      clear h
      go_enter Tryz.func25, Tryz.ntmps25
      go_wp2
      go_quiet (fail)
      have hA := pw_below_drewN (Below.refl W.heap.size W) nq
      have b0 := (hA.cell HH.out).trans c0
      go_wp2
      go_ret
      refine ⟨_, rfl, ⟨W.heap.size, rfl, by have := HH.out; omega, blk_new (W.drewN nq) _⟩, hA.alloc (Nat.le_refl _) _⟩
end Go.Proofs.YtbmnifnahbehbaaGreatDoor

/- asm.token.is. -/
set_option linter.unusedVariables false
set_option linter.unusedSimpArgs false
namespace Go.Proofs.YtbmnifnahbehbaaGreatDoor
open Go.RowKit Go.Lib Go.Proofs.YtbmnifnahbehbaaGreatDoorW.PrintWords Go.Proofs.YtbmnifnahbehbaaGreatDoorW.PrintMore Go.Proofs.YtbmnifnahbehbaaGreatDoorW.PrintLast
open AvP
theorem beq_dec (a b : ByteArray) : (a.toList == b.toList) = decide (a = b) := by
  by_cases h : a = b
  · subst h; simp
  · rw [decide_eq_false h]
    refine beq_eq_false_iff_ne.mpr fun e => h ?_
    rw [ByteArray.toList_eq, ByteArray.toList_eq] at e
    exact ByteArray.ext (Array.toList_inj.1 e)
set_option maxHeartbeats 1600000 in
theorem is_c (t : Tok) (m : ByteArray) (W : World) : Calls Tryz.prog 64 #[.agg (tokL t).toArray, .string m] W fun e w' => e = .returned (.bool (isM t m)) ∧ Below W.heap.size W w' := by
  unfold isM tokL
  obtain ⟨k, a, e, s, v, d⟩ := t
  by_cases h : k = 6
  · have c0 : decide (k = 6) = true := decide_eq_true h
    have HC := Lib.hid c0
    clear c0
    subst h
    go_enter Tryz.func64, Tryz.ntmps64
    go_wp2
    go_ret
    refine ⟨?_, (Below.refl _ W).alloc (Nat.le_refl _) _⟩
    show Ending.returned (.bool (s.toList == m.toList)) = _
    rw [beq_dec]
  · have c0 : decide (k = 6) = false := decide_eq_false h
    have HC := Lib.hid c0
    go_enter Tryz.func64, Tryz.ntmps64
    go_wp2
    go_ret
    refine ⟨?_, (Below.refl _ W).alloc (Nat.le_refl _) _⟩
    show Ending.returned (.bool false) = _
    rw [show decide ((⟨k, a, e, s, v, d⟩ : Tok).k = 6) = false from HC.out]
    rfl
/-- A token stored into a box. -/
theorem wpl_storeT {ops : Array Oper} {rest : List Oper} {op : Oper} {a : Act} {Q : Exit → Act → World → Prop} {w : World} (x y : Operand) (ho : op.op = .store 49 x y) (hgd : op.guard = none) {g : Nat} {t : Tok} {old : Array Value} (hold : w.heap[g]? = some (.cells old 49 (0, 0))) (hs : old.size = 6) (hx : a.eval x = .pointer (some ⟨g, 0, none⟩)) (hy : a.eval y = .agg (tokL t).toArray)
    (h : ∀ w', w'.heap[g]? = some (.cells (tokL t).toArray 49 (0, 0)) → (∀ B w0, B ≤ g → Below B w0 w → Below B w0 w') → wpList Tryz.prog ops Q rest (a.put op.dst undef) w') : wpList Tryz.prog ops Q (op :: rest) a w :=
  wpList_plain hgd fun _ hK => wp_store_row 49 x y ho g _ hx hy 49 old hold (by kernel_rfl) hs (by simp [tokL, Value.oneCell']) (hK _ _ (h _ (setRow_heap w g old _ 49 _ hold) (fun B w0 hB hb => below_setRow hb hB _)))
/-- A box with a token. -/
def TBox (w : World) (g : Nat) (t : Tok) : Prop := w.heap[g]? = some (.cells (tokL t).toArray 49 (0, 0))
/-- What a walk reads of the parser's box and of the token at i. -/
def Rd (g n cp i d : Nat) (ad : Addr) (t : Tok) (W : World) : Prop :=
  W.cell? ⟨g, 0, none⟩ = some (.slice (some ad) n cp) ∧ W.cell? ⟨g, 1, none⟩ = some (.int .i64 (i : Int)) ∧ W.cell? (ad.add (i * 6)) = some (.int .i64 t.k) ∧ W.cell? ⟨(ad.add (i * 6)).block, (ad.add (i * 6)).off + 1, none⟩ = some (.int .i64 t.a) ∧ W.cell? ⟨(ad.add (i * 6)).block, (ad.add (i * 6)).off + 2, none⟩ = some (.int .i64 t.e) ∧ W.cell? ⟨(ad.add (i * 6)).block, (ad.add (i * 6)).off + 3, none⟩ = some (.string t.t) ∧ W.cell? ⟨(ad.add (i * 6)).block, (ad.add (i * 6)).off + 4, none⟩ = some (.int .u64 t.v) ∧ W.cell? ⟨(ad.add (i * 6)).block, (ad.add (i * 6)).off + 5, none⟩ = some (.bool t.d)
theorem rd_of {w W W' : World} {g n cp i d : Nat} {A : Option Addr} {l : List Tok} {t : Tok} (h : PSt w g A n cp i d W) (hl : Kd.C k49 w A n l) (ht : l[i]? = some t) (hb : Below W.heap.size W W') : ∃ ad, A = some ad ∧ Rd g n cp i d ad t W' := by
  have h2 := h.below hb
  obtain ⟨ad, rfl, _, k0, k1, k2, k3, k4, k5⟩ := tok_at (Kd.C_below hl h2.b) ht
  exact ⟨ad, rfl, h2.c0, h2.c1, k0, k1, k2, k3, k4, k5⟩
end Go.Proofs.YtbmnifnahbehbaaGreatDoor

/- strconv.ParseUint of digits, in base 2, 10 and 16, 64 bits: the number, or a failure that is no nil error. -/
set_option linter.unusedVariables false
set_option linter.unusedSimpArgs false
namespace Go.Proofs.YtbmnifnahbehbaaGreatDoor
open Go.RowKit Go.Lib Go.Shelf Go.Proofs.YtbmnifnahbehbaaGreatDoorW.PrintWords

/-- A digit's value in base 16; 99: none. -/
def hexV (c : UInt8) : Nat := if 48 ≤ c.toNat ∧ c.toNat ≤ 57 then c.toNat - 48 else if 97 ≤ c.toNat ∧ c.toNat ≤ 102 then c.toNat - 87 else if 65 ≤ c.toNat ∧ c.toNat ≤ 70 then c.toNat - 55 else 99
/-- What digits spell behind acc: a number; 1: it is beyond 64 bits; 2: no digit. -/
def mag (B : Nat) : Nat → List UInt8 → Except Int Nat
  | acc, [] => .ok acc
  | acc, c :: r => if 16 ≤ hexV c then .error 2 else if 18446744073709551616 ≤ acc * B + hexV c then .error 1 else mag B (acc * B + hexV c) r
theorem lower_bad : ∀ n : Nat, n < 256 → 16 ≤ n → n ≤ 25 → bits .or .u8 (n : Int) 32 = ((n + 32 : Nat) : Int) ∧ 16 ≤ hexV (UInt8.ofNat n) := by decide +kernel
theorem lower_dig : ∀ n : Nat, n < 256 → 10 ≤ hexV (UInt8.ofNat n) → hexV (UInt8.ofNat n) < 16 → bits .or .u8 (n : Int) 32 = ((87 + hexV (UInt8.ofNat n) : Nat) : Int) ∧ (n ≠ 95) ∧ ¬ (48 ≤ n ∧ n ≤ 57) := by decide +kernel
theorem lower_c (m l : Nat) (h : bits .or .u8 (m : Int) 32 = (l : Int)) (w : World) : Calls Tryz.prog 76 #[.int .u8 (m : Int)] w fun e w' => e = .returned (.int .u8 (l : Int)) ∧ w' = w := by
  have := Any.internal_strconv_lower Tryz.laysLower (m : Int) w
  rw [h] at this
  exact this
def endOf (T : TypeId) : Except Int Nat → Value
  | .ok n => .tuple #[.int .u64 n, .nilIface]
  | .error e => .tuple #[.int .u64 (if e = 1 then 18446744073709551615 else 0), .iface T (.int .i64 e)]
set_option maxHeartbeats 32000000 in
set_option maxRecDepth 100000 in
theorem pu16i (t : ByteArray) (hne : t.size ≠ 0) (hmax : t.size ≤ 9223372036854775806) (hall : ∀ c ∈ t.data.toList, hexV c < 16 ∨ 16 ≤ c.toNat ∧ c.toNat ≤ 25) (w : World) :
    Calls Tryz.prog 70 #[.string t, .int .i64 16, .int .i64 64] w fun e w' => e = .returned (endOf 183 (mag 16 0 t.data.toList)) ∧ w' = Lib.bytesWorld w 5 t := by
  have hemp : t.toList.isEmpty = false := by
    rw [← decide_eq_emptyBytes]
    exact decide_eq_false (fun h => hne (by rw [h]; rfl))
  have hcv := Lib.run_convert_string_bytes (P := Tryz.prog) w 9 152 5 t (u := .string) Tryz.underlying9 Tryz.underlying152 Tryz.underlying5
  have hB : ∀ j, j < t.size → (Lib.bytesWorld w 5 t).cell? ⟨w.heap.size, j, none⟩ = some (.int .u8 (t.data.toList.getD j 0).toNat) := fun j hj => Lib.bytesWorld_cell w 5 t j hj
  obtain ⟨W1, hW1⟩ : ∃ W1, W1 = Lib.bytesWorld w 5 t := ⟨_, rfl⟩
  rw [← hW1] at hcv hB ⊢
  clear hW1
  obtain ⟨bs, hL⟩ : ∃ bs, bs = t.data.toList := ⟨_, rfl⟩
  have hLn : bs.length = t.size := by rw [hL, Lib.size_eq]
  rw [← hL] at hB hall ⊢
  clear hL
  have HA := Lib.hid hall
  clear hall
  have hmv : IntKind.u64.wrap (IntKind.u64.wrap 18446744073709551616 - 1) = 18446744073709551615 := by
    rw [IntKind.wrap_u64, IntKind.wrap_u64]
    decide
  go_enter Tryz.func70, Tryz.ntmps70
  go_wp2
  go_loop [12, 13, 101] (fun vu vn vi => ∃ (k acc : Nat) (a : Int), vu = .bool false ∧ vn = .int .u64 a ∧ vi = .int .i64 k ∧ k ≤ t.size ∧ Hid (a = (acc : Int) ∧ acc < 18446744073709551616 ∧ mag 16 0 bs = mag 16 acc (bs.drop k)))
    (fun _ _ vi => t.size - (RowKit.intOf vi).toNat)
  case atStart => exact ⟨0, 0, 0, rfl, rfl, rfl, by omega, rfl, by omega, rfl⟩
  case round =>
    obtain ⟨k, acc, a, rfl, rfl, rfl, hk, hh⟩ := hrel
    obtain ⟨ha, hacc, hdec⟩ := hh.out
    clear hh
    have a0 : 0 ≤ a := by omega
    have a1 : a < 18446744073709551616 := by omega
    by_cases hkn : k < t.size
    · have hc := hB k hkn
      have hdrop : bs.drop k = bs[k]'(by omega) :: bs.drop (k + 1) := List.drop_eq_getElem_cons (by omega)
      have hget : bs.getD k 0 = bs[k]'(by omega) := by simp [List.getD, List.getElem?_eq_getElem (show k < bs.length by omega)]
      have hcV : hexV (bs[k]'(by omega)) < 16 ∨ 16 ≤ (bs[k]'(by omega)).toNat ∧ (bs[k]'(by omega)).toNat ≤ 25 := HA.out _ (List.getElem_mem _)
      rw [hdrop] at hdec
      rw [hget] at hc
      generalize bs[k]'(by omega) = c at hc hdec hcV
      have hc256 : c.toNat < 256 := c.toNat_lt
      obtain ⟨m, hm⟩ : ∃ m, c.toNat = m := ⟨_, rfl⟩
      have hcm : c = UInt8.ofNat m := by rw [← hm]; simp
      rcases hcV with hcV | hcB
      rotate_left
      · obtain ⟨hl, hd⟩ := lower_bad m (by omega) (by omega) (by omega)
        rw [← hcm] at hd
        simp only [mag] at hdec
        rw [if_pos hd] at hdec
        rw [hm] at hc
        obtain ⟨b1, b2⟩ : 16 ≤ m ∧ m ≤ 25 := by omega
        have q95 : ((m : Int) == 95) = false := by (rw [beq_eq_false_iff_ne]; omega)
        obtain ⟨l, hll⟩ : ∃ l, m + 32 = l := ⟨_, rfl⟩
        rw [hll] at hl
        obtain ⟨l0, l1⟩ : 48 ≤ l ∧ l ≤ 57 := by omega
        have h48 : m < 48 := by omega
        clear hB hdrop hget hm hcm hd HA hll hcB ha hacc
        go_wp2_with (go_at_call 76; refine (lower_c m _ hl _).mono ?_; rintro e w' ⟨rfl, rfl⟩)
        go_ret2
        first | exact ⟨rfl, rfl⟩ | exact ⟨by rw [hdec]; rfl, rfl⟩
      obtain ⟨d, hd⟩ : ∃ d, hexV c = d := ⟨_, rfl⟩
      rw [hd] at hcV
      have hlow : 10 ≤ d → bits .or .u8 (m : Int) 32 = ((87 + d : Nat) : Int) ∧ (m ≠ 95) ∧ ¬ (48 ≤ m ∧ m ≤ 57) := fun h => by
        have := lower_dig m (by omega) (by rw [← hcm, hd]; exact h) (by rw [← hcm, hd]; omega)
        rw [← hcm, hd] at this
        exact this
      have hdig : d < 10 → 48 ≤ m ∧ m ≤ 57 ∧ m = 48 + d := fun h => by
        unfold hexV at hd
        rw [hm] at hd
        split at hd
        · omega
        · split at hd
          · omega
          · split at hd <;> omega
      simp only [mag, hd] at hdec
      rw [if_neg (show ¬ 16 ≤ d by omega)] at hdec
      rw [hm] at hc
      rw [hm] at hc256
      clear hB hdrop hget hm hcm hd HA
      by_cases hcut : 1152921504606846976 ≤ acc
      · have hF : 18446744073709551616 ≤ acc * 16 + d := by omega
        rw [if_pos hF] at hdec
        have icut : 1152921504606846976 ≤ a := by omega
        clear hcut hacc hF ha
        by_cases h10 : d < 10
        · obtain ⟨hd0, hd1, rfl⟩ := hdig h10
          clear hlow hdig
          go_wp2
          go_ret2
          first | exact ⟨rfl, rfl⟩ | exact ⟨by rw [hdec]; rfl, rfl⟩
        · obtain ⟨hl, h95, h57⟩ := hlow (by omega)
          obtain ⟨l, hll⟩ : ∃ l, 87 + d = l := ⟨_, rfl⟩
          rw [hll] at hl
          obtain ⟨hl0, hl1⟩ : 97 ≤ l ∧ l ≤ 102 := by omega
          have hsub : (l : Int) - 97 + 10 = d := by omega
          have q95 : ((m : Int) == 95) = false := by (rw [beq_eq_false_iff_ne]; omega)
          have h10' : 10 ≤ d := by omega
          obtain h48 | h58 : m < 48 ∨ 57 < m := by omega
          all_goals
            clear hlow hdig hll h57 h95
            go_wp2_with (go_at_call 76; refine (lower_c m _ hl _).mono ?_; rintro e w' ⟨rfl, rfl⟩)
            go_ret2
            first | exact ⟨rfl, rfl⟩ | exact ⟨by rw [hdec]; rfl, rfl⟩
      · have hF : ¬ 18446744073709551616 ≤ acc * 16 + d := by omega
        rw [if_neg hF] at hdec
        have HN : Hid (a * 16 + (d : Int) = ((acc * 16 + d : Nat) : Int) ∧ acc * 16 + d < 18446744073709551616 ∧ mag 16 0 bs = mag 16 (acc * 16 + d) (bs.drop (k + 1))) := Lib.hid ⟨by omega, by omega, hdec⟩
        have icut : a < 1152921504606846976 := by omega
        have iov : a * 16 + (d : Int) < 18446744073709551616 := by omega
        clear hcut hacc hF hdec ha
        by_cases h10 : d < 10
        · obtain ⟨hd0, hd1, rfl⟩ := hdig h10
          clear hlow hdig
          go_wp2
          refine ⟨⟨k + 1, acc * 16 + d, a * 16 + (d : Int), rfl, (by first | rfl | (congr 1; omega)), (by first | rfl | (congr 1; omega)), by omega, HN⟩, by simp [RowKit.intOf]; omega⟩
        · obtain ⟨hl, h95, h57⟩ := hlow (by omega)
          obtain ⟨l, hll⟩ : ∃ l, 87 + d = l := ⟨_, rfl⟩
          rw [hll] at hl
          obtain ⟨hl0, hl1⟩ : 97 ≤ l ∧ l ≤ 102 := by omega
          have hsub : (l : Int) - 97 + 10 = d := by omega
          have q95 : ((m : Int) == 95) = false := by (rw [beq_eq_false_iff_ne]; omega)
          have h10' : 10 ≤ d := by omega
          obtain h48 | h58 : m < 48 ∨ 57 < m := by omega
          all_goals
            clear hlow hdig hll h57 h95
            go_wp2_with (go_at_call 76; refine (lower_c m _ hl _).mono ?_; rintro e w' ⟨rfl, rfl⟩)
            refine ⟨⟨k + 1, acc * 16 + d, a * 16 + (d : Int), rfl, (by first | rfl | (congr 1; omega)), (by first | rfl | (congr 1; omega)), by omega, HN⟩, by simp [RowKit.intOf]; omega⟩
    · have hkk : k = t.size := by omega
      subst hkk
      have hF : mag 16 acc (bs.drop t.size) = .ok acc := by rw [List.drop_eq_nil_of_le (by omega)]; rfl
      rw [hF] at hdec
      subst ha
      clear hacc hF a0 a1
      go_wp2
      go_ret2
      first | exact ⟨rfl, rfl⟩ | exact ⟨by rw [hdec]; rfl, rfl⟩

set_option maxHeartbeats 32000000 in
set_option maxRecDepth 100000 in
theorem pu2i (t : ByteArray) (hne : t.size ≠ 0) (hmax : t.size ≤ 9223372036854775806) (hall : ∀ c ∈ t.data.toList, hexV c < 2) (w : World) :
    Calls Tryz.prog 70 #[.string t, .int .i64 2, .int .i64 64] w fun e w' => e = .returned (endOf 183 (mag 2 0 t.data.toList)) ∧ w' = Lib.bytesWorld w 5 t := by
  have hemp : t.toList.isEmpty = false := by
    rw [← decide_eq_emptyBytes]
    exact decide_eq_false (fun h => hne (by rw [h]; rfl))
  have hcv := Lib.run_convert_string_bytes (P := Tryz.prog) w 9 152 5 t (u := .string) Tryz.underlying9 Tryz.underlying152 Tryz.underlying5
  have hB : ∀ j, j < t.size → (Lib.bytesWorld w 5 t).cell? ⟨w.heap.size, j, none⟩ = some (.int .u8 (t.data.toList.getD j 0).toNat) := fun j hj => Lib.bytesWorld_cell w 5 t j hj
  obtain ⟨W1, hW1⟩ : ∃ W1, W1 = Lib.bytesWorld w 5 t := ⟨_, rfl⟩
  rw [← hW1] at hcv hB ⊢
  clear hW1
  obtain ⟨bs, hL⟩ : ∃ bs, bs = t.data.toList := ⟨_, rfl⟩
  have hLn : bs.length = t.size := by rw [hL, Lib.size_eq]
  rw [← hL] at hB hall ⊢
  clear hL
  have HA := Lib.hid hall
  clear hall
  have hmv : IntKind.u64.wrap (IntKind.u64.wrap 18446744073709551616 - 1) = 18446744073709551615 := by
    rw [IntKind.wrap_u64, IntKind.wrap_u64]
    decide
  go_enter Tryz.func70, Tryz.ntmps70
  go_wp2
  go_loop [12, 13, 101] (fun vu vn vi => ∃ (k acc : Nat) (a : Int), vu = .bool false ∧ vn = .int .u64 a ∧ vi = .int .i64 k ∧ k ≤ t.size ∧ Hid (a = (acc : Int) ∧ acc < 18446744073709551616 ∧ mag 2 0 bs = mag 2 acc (bs.drop k)))
    (fun _ _ vi => t.size - (RowKit.intOf vi).toNat)
  case atStart => exact ⟨0, 0, 0, rfl, rfl, rfl, by omega, rfl, by omega, rfl⟩
  case round =>
    obtain ⟨k, acc, a, rfl, rfl, rfl, hk, hh⟩ := hrel
    obtain ⟨ha, hacc, hdec⟩ := hh.out
    clear hh
    have a0 : 0 ≤ a := by omega
    have a1 : a < 18446744073709551616 := by omega
    by_cases hkn : k < t.size
    · have hc := hB k hkn
      have hdrop : bs.drop k = bs[k]'(by omega) :: bs.drop (k + 1) := List.drop_eq_getElem_cons (by omega)
      have hget : bs.getD k 0 = bs[k]'(by omega) := by simp [List.getD, List.getElem?_eq_getElem (show k < bs.length by omega)]
      have hcV : hexV (bs[k]'(by omega)) < 2 := HA.out _ (List.getElem_mem _)
      rw [hdrop] at hdec
      rw [hget] at hc
      generalize bs[k]'(by omega) = c at hc hdec hcV
      have hc256 : c.toNat < 256 := c.toNat_lt
      obtain ⟨m, hm⟩ : ∃ m, c.toNat = m := ⟨_, rfl⟩
      have hcm : c = UInt8.ofNat m := by rw [← hm]; simp
      obtain ⟨d, hd⟩ : ∃ d, hexV c = d := ⟨_, rfl⟩
      rw [hd] at hcV
      have hdig : d < 10 → 48 ≤ m ∧ m ≤ 57 ∧ m = 48 + d := fun h => by
        unfold hexV at hd
        rw [hm] at hd
        split at hd
        · omega
        · split at hd
          · omega
          · split at hd <;> omega
      simp only [mag, hd] at hdec
      rw [if_neg (show ¬ 16 ≤ d by omega)] at hdec
      rw [hm] at hc
      rw [hm] at hc256
      clear hB hdrop hget hm hcm hd HA
      by_cases hcut : 9223372036854775808 ≤ acc
      · have hF : 18446744073709551616 ≤ acc * 2 + d := by omega
        rw [if_pos hF] at hdec
        have icut : 9223372036854775808 ≤ a := by omega
        clear hcut hacc hF ha
        by_cases h10 : d < 10
        · obtain ⟨hd0, hd1, rfl⟩ := hdig h10
          clear hdig
          go_wp2
          go_ret2
          first | exact ⟨rfl, rfl⟩ | exact ⟨by rw [hdec]; rfl, rfl⟩
        · omega
      · have hF : ¬ 18446744073709551616 ≤ acc * 2 + d := by omega
        rw [if_neg hF] at hdec
        have HN : Hid (a * 2 + (d : Int) = ((acc * 2 + d : Nat) : Int) ∧ acc * 2 + d < 18446744073709551616 ∧ mag 2 0 bs = mag 2 (acc * 2 + d) (bs.drop (k + 1))) := Lib.hid ⟨by omega, by omega, hdec⟩
        have icut : a < 9223372036854775808 := by omega
        have iov : a * 2 + (d : Int) < 18446744073709551616 := by omega
        clear hcut hacc hF hdec ha
        by_cases h10 : d < 10
        · obtain ⟨hd0, hd1, rfl⟩ := hdig h10
          clear hdig
          go_wp2
          refine ⟨⟨k + 1, acc * 2 + d, a * 2 + (d : Int), rfl, (by first | rfl | (congr 1; omega)), (by first | rfl | (congr 1; omega)), by omega, HN⟩, by simp [RowKit.intOf]; omega⟩
        · omega
    · have hkk : k = t.size := by omega
      subst hkk
      have hF : mag 2 acc (bs.drop t.size) = .ok acc := by rw [List.drop_eq_nil_of_le (by omega)]; rfl
      rw [hF] at hdec
      subst ha
      clear hacc hF a0 a1
      go_wp2
      go_ret2
      first | exact ⟨rfl, rfl⟩ | exact ⟨by rw [hdec]; rfl, rfl⟩

theorem dec_is : ∀ (l : List UInt8) (acc : Nat), (∀ c ∈ l, hexV c < 10) → Lib.parseUint10 acc l = (match mag 10 acc l with | .ok n => .ok n | .error _ => .range)
  | [], acc, _ => rfl
  | c :: r, acc, h => by
    have hc : hexV c < 10 := h c (by simp)
    have hd : 48 ≤ c.toNat ∧ c.toNat ≤ 57 ∧ hexV c = c.toNat - 48 := by
      unfold hexV at hc ⊢
      split at hc
      · rename_i h1
        exact ⟨h1.1, h1.2, by rw [if_pos h1]⟩
      · split at hc
        · omega
        · split at hc <;> omega
    obtain ⟨h0, h1, h2⟩ := hd
    simp only [Lib.parseUint10, mag, h0, h1, h2, and_self, if_true]
    rw [if_neg (show ¬ 16 ≤ c.toNat - 48 by omega)]
    by_cases h3 : 18446744073709551616 ≤ acc * 10 + (c.toNat - 48)
    · by_cases h4 : 1844674407370955162 ≤ acc
      · rw [if_pos h4, if_pos h3]
      · rw [if_neg h4, if_pos h3, if_pos h3]
    · rw [if_neg (by omega), if_neg h3, if_neg h3]
      exact dec_is r _ (fun x hx => h x (by simp [hx]))
theorem mag_err10 : ∀ (l : List UInt8) (acc : Nat), (∀ c ∈ l, hexV c < 10) → ∀ x, mag 10 acc l = .error x → x = 1
  | [], acc, _, x, h => by cases h
  | c :: r, acc, ha, x, h => by
    have hc : hexV c < 10 := ha c (by simp)
    rw [mag, if_neg (by omega)] at h
    split at h
    · cases h; rfl
    · exact mag_err10 r _ (fun x hx => ha x (by simp [hx])) x h
set_option maxHeartbeats 8000000 in
set_option maxRecDepth 100000 in
theorem puI (B : Nat) (hB : B = 10 ∨ B = 16 ∨ B = 2) (t : ByteArray) (h0 : t.size ≠ 0) (hmax : t.size ≤ 281474976710656) (hall : ∀ c ∈ t.data.toList, hexV c < B ∨ B = 16 ∧ 16 ≤ c.toNat ∧ c.toNat ≤ 25) (w : World) :
    Calls Tryz.prog 70 #[.string t, .int .i64 (B : Int), .int .i64 64] w fun e w' => e = .returned (endOf 183 (mag B 0 t.data.toList)) ∧ Below w.heap.size w w' := by
  rcases hB with rfl | rfl | rfl
  · have hall : ∀ c ∈ t.data.toList, hexV c < 10 := fun c hc => (hall c hc).elim id (fun h => absurd h.1 (by decide))
    refine (Any.internal_strconv_ParseUint_10_b64 Tryz.laysPu t h0 (by omega) w).mono fun e w' ⟨he, hw⟩ => ⟨?_, by rw [hw]; exact bytes_below (Below.refl _ _) (Nat.le_refl _) _ _⟩
    rw [he, dec_is _ 0 hall]
    cases hm : mag 10 0 t.data.toList with
    | ok n => rfl
    | error x =>
      obtain rfl : x = 1 := mag_err10 _ _ hall _ hm
      rfl
  · exact (pu16i t h0 (by omega) (fun c hc => (hall c hc).imp id (·.2)) w).mono fun e w' ⟨he, hw⟩ => ⟨he, by rw [hw]; exact bytes_below (Below.refl _ _) (Nat.le_refl _) _ _⟩
  · exact (pu2i t h0 (by omega) (fun c hc => (hall c hc).elim id (fun h => absurd h.1 (by decide))) w).mono fun e w' ⟨he, hw⟩ => ⟨he, by rw [hw]; exact bytes_below (Below.refl _ _) (Nat.le_refl _) _ _⟩
def PuEnd (r : Except Int Nat) (e : Ending) : Prop :=
  match r with
  | .ok n => e = .returned (.tuple #[.int .u64 n, .nilIface])
  | .error _ => ∃ x T v, e = .returned (.tuple #[.int .u64 x, .iface T v])
theorem mag_err (B : Nat) : ∀ (l : List UInt8) (acc : Nat) (x : Int), mag B acc l = .error x → x = 1 ∨ x = 2
  | [], acc, x, h => by cases h
  | c :: r, acc, x, h => by
    rw [mag] at h
    split at h
    · cases h; exact .inr rfl
    · split at h
      · cases h; exact .inl rfl
      · exact mag_err B r _ x h
set_option maxHeartbeats 8000000 in
set_option maxRecDepth 100000 in
theorem pu (B : Nat) (hB : B = 10 ∨ B = 16 ∨ B = 2) (t : ByteArray) (h0 : t.size ≠ 0) (hmax : t.size ≤ 281474976710656) (hall : ∀ c ∈ t.data.toList, hexV c < B ∨ B = 16 ∧ 16 ≤ c.toNat ∧ c.toNat ≤ 25) (w : World) (hS : ErrAt w 6) (hR : ErrAt w 7) :
    Calls Tryz.prog 60 #[.string t, .int .i64 (B : Int), .int .i64 64] w fun e w' => PuEnd (mag B 0 t.data.toList) e ∧ Below w.heap.size w w' := by
  have cI := puI B hB t h0 hmax hall w
  have cS : ∀ W, Below w.heap.size w W → Calls Tryz.prog 71 #[.string ⟨#[80, 97, 114, 115, 101, 85, 105, 110, 116]⟩, .string t, .int .i64 (B : Int), .int .i64 64, .iface 183 (.int .i64 2)] W fun e w' => ∃ T v, e = .returned (.iface T v) ∧ Below W.heap.size W w' := fun W hb => by
    obtain ⟨ev, h1, h2⟩ := hS.below hb
    refine (Any.strconv_toError_syntax Tryz.laysToErr _ t (B : Int) 64 ev W hmax h1 h2).mono ?_
    rintro e w' ⟨N, rfl, _, _, h3⟩
    exact ⟨_, _, rfl, h3⟩
  have cR : ∀ W, Below w.heap.size w W → Calls Tryz.prog 71 #[.string ⟨#[80, 97, 114, 115, 101, 85, 105, 110, 116]⟩, .string t, .int .i64 (B : Int), .int .i64 64, .iface 183 (.int .i64 1)] W fun e w' => ∃ T v, e = .returned (.iface T v) ∧ Below W.heap.size W w' := fun W hb => by
    obtain ⟨ev, h1, h2⟩ := hR.below hb
    refine (Any.strconv_toError_range Tryz.laysToErr _ t (B : Int) 64 ev W hmax h1 h2).mono ?_
    rintro e w' ⟨N, rfl, _, _, h3⟩
    exact ⟨_, _, rfl, h3⟩
  clear hS hR
  unfold PuEnd
  clear hall hmax hB h0
  cases hM : mag B 0 t.data.toList with
  | ok n =>
    rw [hM] at cI
    clear hM
    simp only [endOf] at cI
    go_enter Tryz.func60, Tryz.ntmps60
    go_wp2_with (go_at_call 70; refine cI.mono ?_; rintro e w1 ⟨rfl, hb1⟩)
    go_ret2
    exact ⟨rfl, hb1⟩
  | error x =>
    rw [hM] at cI
    have hx := mag_err _ _ _ _ hM
    clear hM
    rcases hx with rfl | rfl
    · simp only [endOf] at cI
      go_enter Tryz.func60, Tryz.ntmps60
      go_wp2_with (first | (go_at_call 70; refine cI.mono ?_; rintro e w1 ⟨rfl, hb1⟩) | (go_at_call 71; refine (cR _ hb1).mono ?_; rintro e w2 ⟨T, v, rfl, hb2⟩))
      go_ret2
      exact ⟨⟨_, _, _, rfl⟩, hb1.trans (hb2.mono hb1.size)⟩
    · simp only [endOf] at cI
      go_enter Tryz.func60, Tryz.ntmps60
      go_wp2_with (first | (go_at_call 70; refine cI.mono ?_; rintro e w1 ⟨rfl, hb1⟩) | (go_at_call 71; refine (cS _ hb1).mono ?_; rintro e w2 ⟨T, v, rfl, hb2⟩))
      go_ret2
      exact ⟨⟨_, _, _, rfl⟩, hb1.trans (hb2.mono hb1.size)⟩
end Go.Proofs.YtbmnifnahbehbaaGreatDoor

/- asm.value: the number that digits spell, or the reason. -/
set_option linter.unusedVariables false
set_option linter.unusedSimpArgs false
namespace Go.Proofs.YtbmnifnahbehbaaGreatDoor
open Go.RowKit Go.Lib Go.Proofs.YtbmnifnahbehbaaGreatDoorW.PrintWords Go.Proofs.YtbmnifnahbehbaaGreatDoorW.PrintMore Go.Proofs.YtbmnifnahbehbaaGreatDoorW.PrintLast
def hexD : ByteArray := ⟨#[48, 49, 50, 51, 52, 53, 54, 55, 56, 57, 97, 98, 99, 100, 101, 102]⟩
/-- Where asm looks a digit up. -/
def ixD (n : Nat) : Int := Lib.indexByte hexD.data.toList (bits .or .u8 (n : Int) 32).toNat.toUInt8
/-- asm's digit. -/
def dI (n : Nat) : Int := if 48 ≤ n ∧ n ≤ 57 then (n : Int) - 48 else ixD n
def dok (B : Nat) (c : UInt8) : Bool := decide (0 ≤ dI c.toNat) && decide (dI c.toNat < (B : Int))
/-- The value and the reason. -/
def valS (l : List UInt8) (B : Nat) : Int × Int :=
  if l = [] then (0, 83) else if l.all (dok B) then (match mag B 0 l with | .ok n => ((n : Int), 0) | .error _ => (0, 85)) else (0, 83)
def wordB (c : UInt8) : Bool := decide (48 ≤ c.toNat ∧ c.toNat ≤ 57) || decide (97 ≤ c.toNat ∧ c.toNat ≤ 122) || decide (65 ≤ c.toNat ∧ c.toNat ≤ 90)
theorem dI_hex : ∀ n : Nat, n < 256 → -1 ≤ dI n ∧ dI n < 16 ∧ (0 ≤ dI n → hexV (UInt8.ofNat n) < 16 ∧ (hexV (UInt8.ofNat n) : Int) = dI n ∨ 16 ≤ n ∧ n ≤ 25) := by decide +kernel
theorem ixD_r : ∀ n : Nat, n < 256 → -1 ≤ ixD n ∧ ixD n < 16 := by decide +kernel
theorem dok_hex {B : Nat} (hB : B = 10 ∨ B = 16 ∨ B = 2) {c : UInt8} (h : dok B c = true) (hw : B = 16 ∨ wordB c = true) : hexV c < B ∨ B = 16 ∧ 16 ≤ c.toNat ∧ c.toNat ≤ 25 := by
  have hc : c.toNat < 256 := c.toNat_lt
  obtain ⟨h1, h2, h3⟩ := dI_hex c.toNat hc
  rw [show UInt8.ofNat c.toNat = c by simp] at h3
  unfold dok at h
  rw [Bool.and_eq_true, decide_eq_true_iff, decide_eq_true_iff] at h
  rcases h3 h.1 with ⟨h4, h5⟩ | ⟨h4, h5⟩
  · left; omega
  · rcases hw with rfl | hw
    · exact .inr ⟨rfl, h4, h5⟩
    · exfalso
      unfold wordB at hw
      simp only [Bool.or_eq_true, decide_eq_true_iff] at hw
      omega
theorem idxD_c (n : Nat) (w : World) : Calls Tryz.prog 20 #[.string hexD, .int .u8 (bits .or .u8 (n : Int) 32)] w fun e w' => e = .returned (.int .i64 (ixD n)) ∧ w' = w := idx_c hexD _ w
set_option maxHeartbeats 8000000 in
set_option maxRecDepth 100000 in
theorem value_c (t : ByteArray) (B : Nat) (hB : B = 10 ∨ B = 16 ∨ B = 2) (hmax : t.size ≤ 281474976710656) (hw : B = 16 ∨ t.data.toList.all wordB = true) (w : World) (hS : ErrAt w 6) (hR : ErrAt w 7) :
    Calls Tryz.prog 38 #[.string t, .int .i64 (B : Int)] w fun e w' => e = .returned (.tuple #[.int .u64 (valS t.data.toList B).1, .int .i64 (valS t.data.toList B).2]) ∧ Below w.heap.size w w' := by
  by_cases h0 : t.size = 0
  · have ht : t = ⟨#[]⟩ := by
      obtain ⟨⟨l⟩⟩ := t
      cases l with
      | nil => rfl
      | cons _ _ => simp [ByteArray.size] at h0
    subst ht
    clear hmax hw h0
    rcases hB with rfl | rfl | rfl
    all_goals
      go_enter Tryz.func38, Tryz.ntmps38
      go_wp2
      go_ret2
      exact ⟨rfl, Below.refl _ _⟩
  · have hemp : t.toList.isEmpty = false := by
      rw [← decide_eq_emptyBytes]
      exact decide_eq_false (fun h => h0 (by rw [h]; rfl))
    have hne : t.data.toList ≠ [] := fun h => h0 (by rw [Lib.size_eq, h]; rfl)
    have hpu : t.data.toList.all (dok B) = true → ∀ W, Below w.heap.size w W → Calls Tryz.prog 60 #[.string t, .int .i64 (B : Int), .int .i64 64] W fun e w' => PuEnd (mag B 0 t.data.toList) e ∧ Below W.heap.size W w' := fun ha W hb =>
      pu B hB t h0 hmax (fun c hc => dok_hex hB (List.all_eq_true.1 ha c hc) (hw.imp id (fun h => List.all_eq_true.1 h c hc))) W (hS.below hb) (hR.below hb)
    obtain ⟨bs, hL⟩ : ∃ bs, bs = t.data.toList := ⟨_, rfl⟩
    have hLn : bs.length = t.size := by rw [hL, Lib.size_eq]
    have hat : ∀ k (h : k < t.size), bs[k]'(by omega) = t[k]'h := by intro k h; subst hL; simp [ByteArray.getElem_eq_getElem_data]
    rw [← hL] at hpu hne ⊢
    obtain ⟨V, hV⟩ : ∃ V, valS bs B = V := ⟨_, rfl⟩
    have hV2 := hV
    rw [hV]
    unfold valS at hV
    rw [if_neg hne] at hV
    have hB3 : (B : Int) = 10 ∨ (B : Int) = 16 ∨ (B : Int) = 2 := by omega
    obtain ⟨Z, hZ⟩ : ∃ Z : Int, (B : Int) = Z := ⟨_, rfl⟩
    rw [hZ] at hpu hB3 ⊢
    have HH := Lib.hid (And.intro hpu (And.intro hV (And.intro hLn (And.intro hat (And.intro hZ hmax)))))
    clear hpu hV hV2 hat hw hmax hne hS hR hL hB hZ
    go_enter Tryz.func38, Tryz.ntmps38
    go_wp2
    go_loopg [14] t.size (fun gm v14 wx => ∃ i : Nat, .int .i64 (i : Int) = v14 ∧ i ≤ t.size ∧ wx = w ∧ Hid (gm + i = t.size) ∧ Hid ((bs.drop i).all (dok B) = bs.all (dok B)))
    case atStart => exact ⟨0, rfl, Nat.zero_le _, rfl, Lib.hid rfl, Lib.hid rfl⟩
    case round =>
      obtain ⟨i, rfl, hi, rfl, HI, HL⟩ := hrel
      by_cases h1 : i < t.size
      · obtain ⟨hpu, hV, hLn', hat, hZ, hmax⟩ := HH.out
        obtain ⟨gm, rfl⟩ : ∃ q, gk = q + 1 := ⟨gk - 1, by have := HI.out; omega⟩
        have hdr : bs.drop i = bs[i]'(by omega) :: bs.drop (i + 1) := List.drop_eq_getElem_cons (by omega)
        have hgt : bs[i]'(by omega) = t[i]'h1 := hat i h1
        have hl := HL.out
        rw [hdr, List.all_cons, hgt] at hl
        have hm256 : (t[i]'h1).toNat < 256 := (t[i]'h1).toNat_lt
        obtain ⟨m, hm⟩ : ∃ m, (t[i]'h1).toNat = m := ⟨_, rfl⟩
        have hbt : ((t[i]'h1).toNat : Int) = (m : Int) := by rw [hm]
        have hdk : dok B (t[i]'h1) = (decide (0 ≤ dI m) && decide (dI m < Z)) := by unfold dok; rw [hm, hZ]
        rw [hdk] at hl
        rw [hm] at hm256
        have cI := fun W => idxD_c m W
        have hJr := ixD_r m hm256
        have hdI : dI m = if 48 ≤ m ∧ m ≤ 57 then (m : Int) - 48 else ixD m := rfl
        obtain ⟨J, hJ⟩ : ∃ J, ixD m = J := ⟨_, rfl⟩
        rw [hJ] at cI hJr hdI
        have CI := Lib.hid cI
        have e1 : IntKind.i64.wrap ((i : Int) + 1) = (i : Int) + 1 := by rw [IntKind.wrap_i64]; omega
        have hV0 : (decide (0 ≤ dI m) && decide (dI m < Z)) = false → V = (0, 83) := fun h => by
          rw [h, Bool.false_and] at hl
          rw [← hV, ← hl]
          rfl
        have hV1 : (decide (0 ≤ dI m) && decide (dI m < Z)) = true → (bs.drop (i + 1)).all (dok B) = bs.all (dok B) := fun h => by
          rw [h, Bool.true_and] at hl
          exact hl
        have HV0 := Lib.hid hV0
        have HV1 := Lib.hid hV1
        have HDI := Lib.hid hdI
        obtain ⟨j0, j1⟩ := hJr
        clear hpu hV hLn' hat hZ hmax hdr hgt hl hm hdk cI hdI hJ hV0 hV1 HH HL
        by_cases hd : 48 ≤ m ∧ m ≤ 57
        · have hdI := HDI.out
          rw [if_pos hd] at hdI
          obtain ⟨d0, d1⟩ := hd
          have c0 : ((m : Int) - 48 < 0) = False := by rw [eq_iff_iff, iff_false]; omega
          have w8 : IntKind.u8.wrap ((m : Int) - 48) = (m : Int) - 48 := by rw [IntKind.wrap_u8]; omega
          by_cases hz : (m : Int) - 48 < Z
          · have hk := HV1.out (by rw [hdI, decide_eq_true (by omega), decide_eq_true hz]; rfl)
            have HK := Lib.hid hk
            clear hk hdI HV0 HV1 HDI
            go_wp2_with (go_at_call 20; refine (CI.out _).mono ?_; rintro e w' ⟨rfl, rfl⟩)
            go_roundg gm
            case measure => omega
            case rel => exact ⟨i + 1, by go_num, by omega, rfl, Lib.hid (by have := HI.out; omega), HK⟩
          · have hk := HV0.out (by rw [hdI, decide_eq_false hz, Bool.and_false])
            have hz2 : Z ≤ (m : Int) - 48 := by omega
            clear hdI HV0 HV1 HDI hz
            subst hk
            go_wp2_with (go_at_call 20; refine (CI.out _).mono ?_; rintro e w' ⟨rfl, rfl⟩)
            go_ret2
            exact ⟨rfl, Below.refl _ _⟩
        · have hdI := HDI.out
          rw [if_neg hd] at hdI
          by_cases hj : 0 ≤ J
          · by_cases hz : J < Z
            · have hk := HV1.out (by rw [hdI, decide_eq_true hj, decide_eq_true hz]; rfl)
              have HK := Lib.hid hk
              clear hk hdI HV0 HV1 HDI
              obtain h2 | h2 : m < 48 ∨ 57 < m := by omega
              all_goals
                clear hd
                go_wp2_with (go_at_call 20; refine (CI.out _).mono ?_; rintro e w' ⟨rfl, rfl⟩)
                go_roundg gm
                case measure => omega
                case rel => exact ⟨i + 1, by go_num, by omega, rfl, Lib.hid (by have := HI.out; omega), HK⟩
            · have hk := HV0.out (by rw [hdI, decide_eq_false hz, Bool.and_false])
              have hz2 : Z ≤ J := by omega
              clear hdI HV0 HV1 HDI hz
              subst hk
              obtain h2 | h2 : m < 48 ∨ 57 < m := by omega
              all_goals
                clear hd
                go_wp2_with (go_at_call 20; refine (CI.out _).mono ?_; rintro e w' ⟨rfl, rfl⟩)
                go_ret2
                exact ⟨rfl, Below.refl _ _⟩
          · have hk := HV0.out (by rw [hdI, decide_eq_false hj, Bool.false_and])
            have hj2 : J < 0 := by omega
            clear hdI HV0 HV1 HDI hj
            subst hk
            obtain h2 | h2 : m < 48 ∨ 57 < m := by omega
            all_goals
              clear hd
              go_wp2_with (go_at_call 20; refine (CI.out _).mono ?_; rintro e w' ⟨rfl, rfl⟩)
              go_ret2
              exact ⟨rfl, Below.refl _ _⟩
      · obtain ⟨hpu, hV, hLn', hat, hZ, hmax⟩ := HH.out
        have hall : bs.all (dok B) = true := by
          rw [← HL.out, List.drop_eq_nil_of_le (by omega)]
          rfl
        rw [if_pos hall] at hV
        have hcall := hpu hall _ (Below.refl _ _)
        unfold PuEnd at hcall
        clear hpu hat hZ hall HH HL HI hLn'
        cases hM : mag B 0 bs with
        | ok n =>
          rw [hM] at hV hcall
          clear hM
          dsimp only at hV
          subst hV
          have HC := Lib.hid hcall
          clear hcall
          go_wp2_with (go_at_call 60; refine HC.out.mono ?_; rintro e w2 ⟨rfl, hb2⟩)
          go_ret2
          exact ⟨rfl, hb2⟩
        | error x =>
          rw [hM] at hV hcall
          clear hM
          dsimp only at hV
          subst hV
          have HC := Lib.hid hcall
          clear hcall
          go_wp2_with (go_at_call 60; refine HC.out.mono ?_; rintro e w2 ⟨⟨x, T, v, rfl⟩, hb2⟩)
          go_ret2
          exact ⟨rfl, hb2⟩
end Go.Proofs.YtbmnifnahbehbaaGreatDoor

/- asm.cutter.item: one of a character or a text. -/
set_option linter.unusedVariables false
set_option linter.unusedSimpArgs false
namespace Go.Proofs.YtbmnifnahbehbaaGreatDoor
open Go.RowKit Go.Lib Go.Proofs.YtbmnifnahbehbaaGreatDoorW.PrintWords Go.Proofs.YtbmnifnahbehbaaGreatDoorW.PrintMore Go.Proofs.YtbmnifnahbehbaaGreatDoorW.PrintLast
/-- The letters behind a backslash, and what they stand for. -/
def escB : ByteArray := ⟨#[110, 116, 114, 48, 92, 39, 34]⟩
def esc (c : Nat) : Option Nat := if c = 110 then some 10 else if c = 116 then some 9 else if c = 114 then some 13 else if c = 48 then some 0 else if c = 92 then some 92 else if c = 39 then some 39 else if c = 34 then some 34 else none
/-- The byte at i. -/
def by_ (s : ByteArray) (i : Nat) : Nat := (s.data.toList.getD i 0).toNat
theorem by_at (s : ByteArray) (i : Nat) (h : i < s.size) : (s[i]'h).toNat = by_ s i := by
  unfold by_
  have : i < s.data.toList.length := by rw [← Lib.size_eq]; exact h
  rw [List.getD_eq_getElem?_getD, List.getElem?_eq_getElem this]
  simp [ByteArray.getElem_eq_getElem_data]
def oneB (v : Int) : ByteArray := ⟨#[UInt8.ofNat (v % 256).toNat]⟩
/-- The item at i within these quotes: its bytes, its value, the place behind it. -/
def itemS (s : ByteArray) (i : Nat) (q : Int) : Option (ByteArray × Int × Nat) :=
  let r := (Lib.decodeGo (s.extract i s.size)).1
  let n := (Lib.decodeGo (s.extract i s.size)).2
  if r = 65533 ∧ n = 1 ∨ (r : Int) = q ∨ r = 10 then none
  else if r ≠ 92 then some (s.extract i (i + n), (r : Int), i + n)
  else if s.size ≤ i + 1 then none
  else match esc (by_ s (i + 1)) with
    | some b => some (oneB b, (b : Int), i + 2)
    | none => if by_ s (i + 1) ≠ 120 ∨ s.size < i + 4 then none
      else if (valS (s.extract (i + 2) (i + 4)).data.toList 16).2 = 0 then some (oneB (valS (s.extract (i + 2) (i + 4)).data.toList 16).1, (valS (s.extract (i + 2) (i + 4)).data.toList 16).1, i + 4) else none
def ItemEnd (r : Option (ByteArray × Int × Nat)) (e : Ending) : Prop :=
  match r with
  | some (b, v, n) => e = .returned (.tuple #[.string b, .int .u64 v, .int .i64 (n : Int), .bool true])
  | none => ∃ b v n, e = .returned (.tuple #[.string b, .int .u64 v, .int .i64 n, .bool false])
theorem esc_at : ∀ c : Nat, c < 256 → (esc c = none ∧ Lib.indexByte escB.data.toList c.toUInt8 = -1) ∨ (∃ b j : Nat, esc c = some b ∧ Lib.indexByte escB.data.toList c.toUInt8 = (j : Int) ∧ j < 7 ∧ ([10, 9, 13, 0, 92, 39, 34] : List Nat)[j]? = some b) := by
  intro c hc
  have H : ∀ c : Nat, c < 256 → (esc c = none ∧ Lib.indexByte escB.data.toList c.toUInt8 = -1) ∨ (0 ≤ Lib.indexByte escB.data.toList c.toUInt8 ∧ Lib.indexByte escB.data.toList c.toUInt8 < 7 ∧ ([10, 9, 13, 0, 92, 39, 34] : List Nat)[(Lib.indexByte escB.data.toList c.toUInt8).toNat]? = esc c ∧ (esc c).isSome = true) := by decide +kernel
  rcases H c hc with h | ⟨h0, h1, h2, h3⟩
  · exact .inl h
  · obtain ⟨b, hb⟩ := Option.isSome_iff_exists.1 h3
    exact .inr ⟨b, (Lib.indexByte escB.data.toList c.toUInt8).toNat, hb, by omega, by omega, h2.trans hb⟩
theorem valS_r (l : List UInt8) (B : Nat) : 0 ≤ (valS l B).1 ∧ (valS l B).1 < 18446744073709551616 := by
  have hm : ∀ (l : List UInt8) (acc n : Nat), acc < 18446744073709551616 → mag B acc l = .ok n → n < 18446744073709551616 := by
    intro l
    induction l with
    | nil => intro acc n h0 h; cases h; exact h0
    | cons c r ih =>
      intro acc n h0 h
      rw [mag] at h
      split at h
      · cases h
      · split at h
        · cases h
        · exact ih _ _ (by omega) h
  unfold valS
  split
  · exact ⟨by decide, by decide⟩
  · split
    · cases h : mag B 0 l with
      | ok n => have := hm l 0 n (by omega) h; dsimp only; omega
      | error x => exact ⟨Int.le_refl 0, (by decide : (0 : Int) < 18446744073709551616)⟩
    · exact ⟨by decide, by decide⟩
theorem run_one (w : World) (b : Int) (h0 : 0 ≤ b) (h1 : b < 256) : (convert 152 9 (.slice (some ⟨w.heap.size, 0, none⟩) 1 1)).run Tryz.prog (w.alloc (.cells #[.int .u8 b] 5)) = .ok (.string (oneB b)) (w.alloc (.cells #[.int .u8 b] 5)) := by
  obtain ⟨n, rfl⟩ : ∃ n : Nat, b = (n : Int) := ⟨b.toNat, by omega⟩
  have h := run_convert_bytes_back (P := Tryz.prog) (w.alloc (.cells #[.int .u8 (n : Int)] 5)) 152 9 5 ⟨w.heap.size, 0, none⟩ 1 [UInt8.ofNat n] Tryz.underlying152 Tryz.underlying5 Tryz.underlying9 (fun j hj => by
    have : j = 0 := by simpa using hj
    subst this
    refine (blk_cell (blk_new w _) 0).trans ?_
    show some (Value.int .u8 (n : Int)) = some (Value.int .u8 ((UInt8.ofNat n).toNat : Int))
    have e : (UInt8.ofNat n).toNat = n := by simp; omega
    rw [e])
  unfold oneB
  rw [Int.emod_eq_of_lt h0 h1]
  exact h
theorem oneB_mod (v : Int) : oneB (v % 256) = oneB v := by unfold oneB; rw [Int.emod_emod_of_dvd _ (Int.dvd_refl 256)]
set_option maxHeartbeats 8000000 in
set_option maxRecDepth 100000 in
theorem item_c {W : World} {g i : Nat} {s : ByteArray} (c0 : W.cell? ⟨g, 0, none⟩ = some (.string s)) (hG : Glob W) (hi : i < s.size) (hs : s.size ≤ 100000) (q : Int) (hq : q = 39 ∨ q = 34) :
    Calls Tryz.prog 39 #[.pointer (some ⟨g, 0, none⟩), .int .i64 (i : Int), .int .u8 q] W fun e w' => ItemEnd (itemS s i q) e ∧ Below W.heap.size W w' := by
  have hg := World.block_lt_of_cell? _ _ c0
  have hD := dec_c (s.extract i s.size) W hG
  have hDn := Lib.decodeGo_le_size (s.extract i s.size)
  have hD4 := Lib.decodeGo_le4 (s.extract i s.size)
  have hsz : (s.extract i s.size).size = s.size - i := by rw [ByteArray.size_extract]; omega
  rw [hsz] at hDn
  obtain ⟨R, hR⟩ : ∃ R, (Lib.decodeGo (s.extract i s.size)).1 = R := ⟨_, rfl⟩
  obtain ⟨K, hK⟩ : ∃ K, (Lib.decodeGo (s.extract i s.size)).2 = K := ⟨_, rfl⟩
  have hK1 : 1 ≤ K := by
    rw [← hK]
    unfold Lib.decodeGo
    rw [if_neg (by rw [hsz]; omega)]
    exact Lib.decode_width_pos _ 0 (by rw [hsz]; omega)
  have hR1 : R ≤ 2147483647 := by
    rw [← hR]
    unfold Lib.decodeGo
    rw [if_neg (by rw [hsz]; omega)]
    exact decode_le _ 0
  have HI : itemS s i q = if R = 65533 ∧ K = 1 ∨ (R : Int) = q ∨ R = 10 then none
    else if R ≠ 92 then some (s.extract i (i + K), (R : Int), i + K)
    else if s.size ≤ i + 1 then none
    else match esc (by_ s (i + 1)) with
    | some b => some (oneB b, (b : Int), i + 2)
    | none => if by_ s (i + 1) ≠ 120 ∨ s.size < i + 4 then none
      else if (valS (s.extract (i + 2) (i + 4)).data.toList 16).2 = 0 then some (oneB (valS (s.extract (i + 2) (i + 4)).data.toList 16).1, (valS (s.extract (i + 2) (i + 4)).data.toList 16).1, i + 4) else none := by
    rw [← hR, ← hK]; rfl
  rw [HI]
  rw [hR, hK] at hD
  rw [hK] at hDn hD4
  clear HI hsz hR hK
  obtain ⟨i1, hi1⟩ : ∃ x, i + 1 = x := ⟨_, rfl⟩
  obtain ⟨i2, hi2⟩ : ∃ x, i + 2 = x := ⟨_, rfl⟩
  obtain ⟨i4, hi4⟩ : ∃ x, i + 4 = x := ⟨_, rfl⟩
  obtain ⟨iK, hiK⟩ : ∃ x, i + K = x := ⟨_, rfl⟩
  have w1 : IntKind.i64.wrap ((i : Int) + 1) = (i1 : Int) := by rw [IntKind.wrap_i64]; omega
  have w2 : IntKind.i64.wrap ((i : Int) + 2) = (i2 : Int) := by rw [IntKind.wrap_i64]; omega
  have w4 : IntKind.i64.wrap ((i : Int) + 4) = (i4 : Int) := by rw [IntKind.wrap_i64]; omega
  have wK : IntKind.i64.wrap ((i : Int) + (K : Int)) = (iK : Int) := by rw [IntKind.wrap_i64]; omega
  have wR : IntKind.u64.wrap (R : Int) = (R : Int) := by rw [IntKind.wrap_u64]; omega
  have e0 : ((K : Int) == 0) = false := by rw [beq_eq_false_iff_ne]; omega
  rw [hi1, hi2, hi4, hiK]
  have hDc := Lib.hid hD
  have HS := Lib.hid hs
  have HG := Lib.hid hG
  have hi' : i ≤ s.size := by omega
  clear hD hG
  by_cases hA : R = 65533 ∧ K = 1 ∨ (R : Int) = q ∨ R = 10
  · rw [if_pos hA]
    have hc : ((R : Int) == 65533) = true ∧ ((K : Int) == 1) = true ∨ ((R : Int) == 65533) = false ∧ ((R : Int) == q) = true ∨ ((R : Int) == 65533) = false ∧ ((R : Int) == q) = false ∧ ((R : Int) == 10) = true := by
      simp only [beq_iff_eq, beq_eq_false_iff_ne, ne_eq]
      omega
    clear hA w1 w2 w4 wK wR hi1 hi2 hi4 hiK hK1 hR1 hDn hD4
    rcases hq with rfl | rfl
    all_goals
      rcases hc with ⟨a1, a2⟩ | ⟨a1, a2⟩ | ⟨a1, a2, a3⟩
      all_goals
        go_enter Tryz.func39, Tryz.ntmps39
        go_wp2_with (go_at_call 42; refine hDc.out.mono ?_; rintro e w' ⟨rfl, hb'⟩)
        refine bodyPost_ret (results_list (rs := [.tmp 6, .tmp 7, .tmp 8, .tmp 9]) rfl (by simp) (.tmp (.tmp (.tmp (.tmp .nil))))) rfl ?_
        exact ⟨⟨_, _, _, rfl⟩, hb'⟩
  · rw [if_neg hA]
    have hc : ((R : Int) == q) = false ∧ ((R : Int) == 10) = false ∧ (((R : Int) == 65533) = true ∧ ((K : Int) == 1) = false ∨ ((R : Int) == 65533) = false) := by
      simp only [beq_iff_eq, beq_eq_false_iff_ne, ne_eq]
      omega
    obtain ⟨a3, a4, hc⟩ := hc
    by_cases hB : R ≠ 92
    · rw [if_pos hB]
      have a5 : ((R : Int) != 92) = true := by rw [bne_iff_ne]; omega
      have k1 : i ≤ iK := by omega
      have k2 : iK ≤ s.size := by omega
      have HB : ∀ w', Below W.heap.size W w' → w'.cell? ⟨g, 0, none⟩ = some (.string s) := fun w' h => (h.cell (p := ⟨g, 0, none⟩) hg).trans c0
      have HBh := Lib.hid HB
      clear HB hA w1 w2 w4 hi1 hi2 hi4 hiK hK1 hDn hD4 hB
      rcases hq with rfl | rfl
      all_goals
        rcases hc with ⟨a1, a2⟩ | a1
        all_goals
          go_enter Tryz.func39, Tryz.ntmps39
          go_wp2_with (go_at_call 42; refine hDc.out.mono ?_; rintro e w' ⟨rfl, hb'⟩; have d0 := HBh.out _ hb')
          refine bodyPost_ret (results_list (rs := [.tmp 6, .tmp 7, .tmp 8, .tmp 9]) rfl (by simp) (.tmp (.tmp (.tmp (.tmp .nil))))) rfl ?_
          exact ⟨rfl, hb'⟩
    · rw [if_neg hB]
      obtain rfl : R = 92 := by omega
      have HB : ∀ w', Below W.heap.size W w' → w'.cell? ⟨g, 0, none⟩ = some (.string s) := fun w' h => (h.cell (p := ⟨g, 0, none⟩) hg).trans c0
      have HBh := Lib.hid HB
      clear HB hA hB hc a3 a4 wR wK hiK hK1 hDn hD4
      by_cases hC : s.size ≤ i1
      · rw [if_pos hC]
        clear w2 w4 hi1 hi2 hi4 hR1
        rcases hq with rfl | rfl
        all_goals
          go_enter Tryz.func39, Tryz.ntmps39
          go_wp2_with (go_at_call 42; refine hDc.out.mono ?_; rintro e w' ⟨rfl, hb'⟩; have d0 := HBh.out _ hb')
          refine bodyPost_ret (results_list (rs := [.tmp 6, .tmp 7, .tmp 8, .tmp 9]) rfl (by simp) (.tmp (.tmp (.tmp (.tmp .nil))))) rfl ?_
          exact ⟨⟨_, _, _, rfl⟩, hb'⟩
      · rw [if_neg hC]
        have hC1 : i1 < s.size := by omega
        have hC2 : ¬ (s.size : Int) ≤ (i1 : Int) := by omega
        have hbt := by_at s i1 hC1
        obtain ⟨c, hc⟩ : ∃ c, by_ s i1 = c := ⟨_, rfl⟩
        have hc256 : c < 256 := by rw [← hc, ← hbt]; exact UInt8.toNat_lt _
        rw [hc] at hbt ⊢
        have hbz : ((s[i1]'hC1).toNat : Int) = (c : Int) := by rw [hbt]
        have hE := esc_at c hc256
        have cI := fun w => idx_c escB (c : Int) w
        rw [show ((c : Int).toNat).toUInt8 = c.toUInt8 by rfl] at cI
        obtain ⟨J, hJ⟩ : ∃ J, Lib.indexByte escB.data.toList c.toUInt8 = J := ⟨_, rfl⟩
        rw [hJ] at cI hE
        have CI := Lib.hid cI
        clear hbt hc hJ cI hC
        rcases hE with ⟨he, rfl⟩ | ⟨b, j, he, rfl, hj7, hjb⟩
        · rw [he]
          dsimp only
          clear he
          by_cases hX : c ≠ 120 ∨ s.size < i4
          · rw [if_pos hX]
            have hx : ((c : Int) != 120) = true ∨ ((c : Int) != 120) = false ∧ (s.size : Int) < (i4 : Int) := by
              by_cases h : c = 120
              · exact .inr ⟨by simp [h], by omega⟩
              · exact .inl (by rw [bne_iff_ne]; omega)
            clear hX hi1 hi2 hi4 hR1 w2
            rcases hq with rfl | rfl
            all_goals
              rcases hx with hx | ⟨hx, hx2⟩
              all_goals
                go_enter Tryz.func39, Tryz.ntmps39
                go_wp2_with (first
                  | (go_at_call 42; refine hDc.out.mono ?_; rintro e w' ⟨rfl, hb'⟩; have d0 := HBh.out _ hb')
                  | (go_at_call 20; refine (CI.out _).mono ?_; rintro e w' ⟨rfl, rfl⟩))
                refine bodyPost_ret (results_list (rs := [.tmp 6, .tmp 7, .tmp 8, .tmp 9]) rfl (by simp) (.tmp (.tmp (.tmp (.tmp .nil))))) rfl ?_
                exact ⟨⟨_, _, _, rfl⟩, hb'⟩
          · rw [if_neg hX]
            have hx : ((c : Int) != 120) = false := by simp; omega
            have hx2 : ¬ (s.size : Int) < (i4 : Int) := by omega
            have k1 : i2 ≤ i4 := by omega
            have k2 : i4 ≤ s.size := by omega
            have hT : (s.extract i2 i4).size = 2 := by rw [ByteArray.size_extract]; omega
            have hv := fun w' (h : Below W.heap.size W w') => value_c (s.extract i2 i4) 16 (.inr (.inl rfl)) (by omega) (.inl rfl) w' (Glob.step HG.out h).2.2.2.1 (Glob.step HG.out h).2.2.2.2
            have hr := valS_r (s.extract i2 i4).data.toList 16
            obtain ⟨V, hV⟩ : ∃ V, (valS (s.extract i2 i4).data.toList 16).1 = V := ⟨_, rfl⟩
            obtain ⟨Y, hY⟩ : ∃ Y, (valS (s.extract i2 i4).data.toList 16).2 = Y := ⟨_, rfl⟩
            rw [hV, hY] at hv
            rw [hV] at hr
            rw [hV, hY]
            obtain ⟨B8, hB8⟩ : ∃ B8, V % 256 = B8 := ⟨_, rfl⟩
            have wV : IntKind.u8.wrap V = B8 := by rw [IntKind.wrap_u8]; exact hB8
            have hone := fun w => run_one w B8 (by omega) (by omega)
            rw [show oneB B8 = oneB V by rw [← hB8]; exact oneB_mod V] at hone
            have HV := Lib.hid hv
            have HR := Lib.hid hr
            clear hV hY hv hT hB8 hX hi1 hi2 hi4 hR1 hr
            by_cases hY0 : Y = 0
            · rw [if_pos hY0]
              subst hY0
              rcases hq with rfl | rfl
              all_goals
                go_enter Tryz.func39, Tryz.ntmps39
                go_wp2_with (first
                  | (go_at_call 42; refine hDc.out.mono ?_; rintro e w' ⟨rfl, hb'⟩; have d0 := HBh.out _ hb')
                  | (go_at_call 20; refine (CI.out _).mono ?_; rintro e w' ⟨rfl, rfl⟩)
                  | (go_at_call 38; refine (HV.out _ hb').mono ?_; rintro e w2 ⟨rfl, hb2⟩))
                refine bodyPost_ret (results_list (rs := [.tmp 6, .tmp 7, .tmp 8, .tmp 9]) rfl (by simp) (.tmp (.tmp (.tmp (.tmp .nil))))) rfl ?_
                exact ⟨rfl, (hb'.trans (hb2.mono hb'.size)).alloc (Nat.le_trans hb'.size hb2.size) _⟩
            · rw [if_neg hY0]
              have y0 : (Y == 0) = false := by rw [beq_eq_false_iff_ne]; exact hY0
              clear hY0
              rcases hq with rfl | rfl
              all_goals
                go_enter Tryz.func39, Tryz.ntmps39
                go_wp2_with (first
                  | (go_at_call 42; refine hDc.out.mono ?_; rintro e w' ⟨rfl, hb'⟩; have d0 := HBh.out _ hb')
                  | (go_at_call 20; refine (CI.out _).mono ?_; rintro e w' ⟨rfl, rfl⟩)
                  | (go_at_call 38; refine (HV.out _ hb').mono ?_; rintro e w2 ⟨rfl, hb2⟩))
                refine bodyPost_ret (results_list (rs := [.tmp 6, .tmp 7, .tmp 8, .tmp 9]) rfl (by simp) (.tmp (.tmp (.tmp (.tmp .nil))))) rfl ?_
                exact ⟨⟨_, _, _, rfl⟩, (hb'.trans (hb2.mono hb'.size)).alloc (Nat.le_trans hb'.size hb2.size) _⟩
        · rw [he]
          dsimp only
          have hb0 : b < 256 := by
            have : j = 0 ∨ j = 1 ∨ j = 2 ∨ j = 3 ∨ j = 4 ∨ j = 5 ∨ j = 6 := by omega
            rcases this with rfl | rfl | rfl | rfl | rfl | rfl | rfl <;> (simp at hjb; omega)
          have hidx : ∀ w, (Instr.index 9 (.string ⟨#[10, 9, 13, 0, 92, 39, 34]⟩) (.int .i64 (j : Int))).run Tryz.prog w = .ok (.int .u8 (b : Int)) w := by
            intro w
            have : j = 0 ∨ j = 1 ∨ j = 2 ∨ j = 3 ∨ j = 4 ∨ j = 5 ∨ j = 6 := by omega
            rcases this with rfl | rfl | rfl | rfl | rfl | rfl | rfl <;> (simp at hjb; subst hjb; rfl)
          have hone := fun w => run_one w (b : Int) (by omega) (by omega)
          have wb : IntKind.u64.wrap (b : Int) = (b : Int) := by rw [IntKind.wrap_u64]; omega
          clear hjb hi1 hi2 hi4 hR1 w4
          rcases hq with rfl | rfl
          all_goals
            go_enter Tryz.func39, Tryz.ntmps39
            go_wp2_with (first
              | (go_at_call 42; refine hDc.out.mono ?_; rintro e w' ⟨rfl, hb'⟩; have d0 := HBh.out _ hb')
              | (go_at_call 20; refine (CI.out _).mono ?_; rintro e w' ⟨rfl, rfl⟩))
            refine bodyPost_ret (results_list (rs := [.tmp 6, .tmp 7, .tmp 8, .tmp 9]) rfl (by simp) (.tmp (.tmp (.tmp (.tmp .nil))))) rfl ?_
            exact ⟨rfl, hb'.alloc hb'.size _⟩
end Go.Proofs.YtbmnifnahbehbaaGreatDoor

/- A region that draws its order and ends in a store that waits for all loads: S need not be shown behind that store. (The kit's OrdersHeld, with one operation L behind which S is not asked.) -/
set_option linter.unusedVariables false
set_option linter.unusedSimpArgs false
namespace Go.Proofs.YtbmnifnahbehbaaGreatDoor
open Go Go.RowKit Go.Lib
section
variable {P : Program} {ops : Array Oper} {Q : Exit → Act → World → Prop} {md : Region.Mode} {S : World → Prop} {L : Nat}
/-- wpAnyH, but for the operation L: behind it S is not asked. -/
def wpAnyG (P : Program) (md : Region.Mode) (ops : Array Oper) (Q : Exit → Act → World → Prop) (S : World → Prop) (L : Nat) : Nat → Array Bool → Act → World → Prop
  | 0, listed, a, w => Region.ready md ops listed = [] ∧ Q .normal a w
  | fuel + 1, listed, a, w =>
    (Region.ready md ops listed = [] → Q .normal a w) ∧
    ∀ i ∈ Region.ready md ops listed, wpOp P ops Q i (fun a' w' => (i = L ∨ S w') ∧ wpAnyG P md ops Q S L fuel (listed.setIfInBounds i true) a' w') a w
theorem wpAny_of_G : ∀ (fuel : Nat) (listed : Array Bool) (a : Act) (w : World), wpAnyG P md ops Q S L fuel listed a w → wpAny P md ops Q fuel listed a w
  | 0, _, _, _, h => h
  | fuel + 1, _, _, _, h => ⟨h.1, fun i hi => wpOp_mono (fun a' w' h' => wpAny_of_G fuel _ a' w' h'.2) (h.2 i hi)⟩
/-- L waits for i. -/
def waits (md : Region.Mode) (ops : Array Oper) (L i : Nat) : Bool := (L != i) && ((ops[L]?).map (fun o => o.after.any fun e => Region.binds md e && e.on == i)).getD false
theorem waits_spec {i : Nat} {listed : Array Bool} (h : waits md ops L i = true) (hL : L ∈ Region.ready md ops listed) (hi : listed.getD i true = false) : False := by
  obtain ⟨_, o, ho, hall⟩ := mem_ready.1 hL
  unfold waits at h
  rw [Bool.and_eq_true, ho, Option.map_some, Option.getD_some, Array.any_eq_true'] at h
  obtain ⟨_, e, he, hb⟩ := h
  rw [Bool.and_eq_true, beq_iff_eq] at hb
  have h1 := hall e he hb.1
  rw [hb.2] at h1
  rcases Nat.lt_or_ge i listed.size with h' | h'
  · simp [h'] at hi h1; rw [hi] at h1; cases h1
  · simp [Array.getElem?_eq_none h'] at h1
theorem waits_ne {i : Nat} (h : waits md ops L i = true) : L ≠ i := by
  unfold waits at h
  rw [Bool.and_eq_true, bne_iff_ne] at h
  exact h.1
theorem wpAnyG_first {i : Nat} {oi : Oper} {v : Value} (hi : ops[i]? = some oi) (hw : waits md ops L i = true) (hsel : ∀ (j : Nat) (o : Oper) cs b, ops[j]? = some o → o.op ≠ .select cs b)
    (hQ : ∀ c a w, Q (.panic c) (a.put oi.dst v) w → Q (.panic c) a w) :
    ∀ (fuel : Nat) (listed : Array Bool) (a : Act) (w : World),
      (∀ j oj, ops[j]? = some oj → j ≠ i → listed.getD j true = false → (∀ e ∈ oj.after, Region.binds md e = true → e.on ≠ i) → oi.apart ops oj = true) →
      i ∈ Region.ready md ops listed → YieldsIf P ops S oi v a → S w →
      wpAnyG P md ops Q S L fuel (listed.setIfInBounds i true) (a.put oi.dst v) w → wpAnyG P md ops Q S L (fuel + 1) listed a w := by
  intro fuel
  induction fuel with
  | zero =>
    intro listed a w _ hr hy hS H
    refine ⟨fun h => (by rw [h] at hr; cases hr), fun j hj => ?_⟩
    by_cases hji : j = i
    · subst hji; exact hy.wpOp hi hS ⟨.inr hS, H⟩
    · have := ready_mono hj hji
      rw [H.1] at this
      cases this
  | succ fuel ih =>
    intro listed a w hfree hr hy hS H
    refine ⟨fun h => (by rw [h] at hr; cases hr), fun j hj => ?_⟩
    by_cases hji : j = i
    · subst hji; exact hy.wpOp hi hS ⟨.inr hS, H⟩
    · have h1 := H.2 j (ready_mono hj hji)
      have hjL : j ≠ L := fun e => waits_spec hw (e ▸ hj) (mem_ready.1 hr).1
      obtain ⟨hjun, oj, hoj, hall⟩ := mem_ready.1 hj
      have hnot : ∀ e ∈ oj.after, Region.binds md e = true → e.on ≠ i := fun e he hb heq => by
        have h1 := hall e he hb
        have h0 := (mem_ready.1 hr).1
        rw [heq] at h1
        rcases Nat.lt_or_ge i listed.size with h' | h'
        · simp [h'] at h0 h1; rw [h0] at h1; cases h1
        · simp [Array.getElem?_eq_none h'] at h1
      have h2 := wpOp_putIf hoj (hfree j oj hoj hji hjun hnot) (fun cs b => hsel i oi cs b hi) (fun cs b => hsel j oj cs b hoj) hQ hy h1
      have hfree' : ∀ k ok, ops[k]? = some ok → k ≠ i → (listed.setIfInBounds j true).getD k true = false →
          (∀ e ∈ ok.after, Region.binds md e = true → e.on ≠ i) → oi.apart ops ok = true := fun k ok hk hki hun hno => by
        refine hfree k ok hk hki ?_ hno
        by_cases hjk : j = k
        · subst hjk; exact hjun
        · rw [getD_set_ne true hjk] at hun; exact hun
      refine wpOp_mono (fun a' w' h3 => ?_) h2
      obtain ⟨h31, h32, h33⟩ := h3
      have hS' : S w' := h32.resolve_left hjL
      refine ⟨.inr hS', ih (listed.setIfInBounds j true) a' w' hfree' (ready_mono hr (Ne.symm hji)) h31 hS' ?_⟩
      rw [Array.setIfInBounds_comm _ _ hji]
      exact h33
theorem wpAnyG_take {i : Nat} {oi : Oper} {v : Value} {fuel : Nat} {listed : Array Bool} {a : Act} {w : World} (hi : ops[i]? = some oi) (hw : waits md ops L i = true)
    (hs : Region.noSelect ops = true) (hf : Region.free md ops listed i = true) (hr : (Region.ready md ops listed).contains i = true)
    (hQ : ∀ c a w, Q (.panic c) (a.put oi.dst v) w → Q (.panic c) a w) (hy : YieldsIf P ops S oi v a) (hS : S w)
    (h : wpAnyG P md ops Q S L fuel (listed.setIfInBounds i true) (a.put oi.dst v) w) : wpAnyG P md ops Q S L (fuel + 1) listed a w :=
  wpAnyG_first hi hw (Region.noSelect_spec hs) hQ fuel listed a w (Region.free_spec hi hf) (by simpa using hr) hy hS h
/-- One operation alone may come up. -/
theorem wpAnyG_one {i : Nat} {o : Oper} {fuel : Nat} {listed : Array Bool} {a : Act} {w : World} (hr : Region.ready md ops listed = [i]) (ho : ops[i]? = some o)
    (h : ∀ K' : Act → World → Prop, Shut (∀ a w, (i = L ∨ S w) → wpAnyG P md ops Q S L fuel (listed.setIfInBounds i true) a w → K' a w) → if Region.wanted o (yielded ops a.tmps) = true then Oper.wp P o a w K' Q else K' (a.put o.dst undef) w) : wpAnyG P md ops Q S L (fuel + 1) listed a w :=
  ⟨fun h0 => absurd (hr ▸ h0) (by simp), fun j hj => by
    rw [hr, List.mem_singleton] at hj
    subst hj
    exact wpOp_step ho (fun K' hK => h K' (fun a w hS hW => hK a w ⟨hS, hW⟩))⟩
theorem wpAnyG_done {listed : Array Bool} {a : Act} {w : World} (hr : Region.ready md ops listed = []) (h : Q .normal a w) :
    ∀ fuel, wpAnyG P md ops Q S L fuel listed a w
  | 0 => ⟨hr, h⟩
  | _ + 1 => ⟨fun _ => h, by rw [hr]; simp⟩
theorem wp_region_G {id : Nat} {a : Act} {w : World} (S : World → Prop) (L : Nat) (hm : P.follows .mixedOrders = true) (h : wpAnyG P .any ops Q S L ops.size (Array.replicate ops.size false) a w.drew) : (Code.region id ops true).wp P Q a w :=
  wp_region_any hm (wpAny_of_G _ _ _ _ h)
end
end Go.Proofs.YtbmnifnahbehbaaGreatDoor

/- asm's cutter in memory; asm.cutter.push. -/
set_option linter.unusedVariables false
set_option linter.unusedSimpArgs false
namespace Go.Proofs.YtbmnifnahbehbaaGreatDoor
open Go.RowKit Go.Lib Go.Proofs.YtbmnifnahbehbaaGreatDoorW.PrintWords Go.Proofs.YtbmnifnahbehbaaGreatDoorW.PrintMore Go.Proofs.YtbmnifnahbehbaaGreatDoorW.PrintLast
open AvP
theorem k49_mkM (w : World) (base : Nat) (ok : Nat → Prop) (x : Tok) : k49.M w base ok x (tokL x) := ⟨[.int .i64 x.k], [.int .i64 x.a, .int .i64 x.e, .string x.t, .int .u64 x.v, .bool x.d], rfl, rfl, ⟨[.int .i64 x.a], [.int .i64 x.e, .string x.t, .int .u64 x.v, .bool x.d], rfl, rfl, ⟨[.int .i64 x.e], [.string x.t, .int .u64 x.v, .bool x.d], rfl, rfl, ⟨[.string x.t], [.int .u64 x.v, .bool x.d], rfl, rfl, ⟨[.int .u64 x.v], [.bool x.d], rfl, rfl, rfl⟩⟩⟩⟩⟩
theorem info49 : (Tryz.prog.info? 49).map (fun i => (i.zero, i.size, i.bytes)) = some (some (.agg #[.int .i64 0, .int .i64 0, .int .i64 0, .string ⟨#[]⟩, .int .u64 0, .bool false]), 6, 56) := by kernel_rfl
/-- The cutter's box. -/
structure CSt (w : World) (g : Nat) (s : ByteArray) (i : Nat) (l : List Tok) (W : World) : Prop where
  b : Below w.heap.size w W
  g0 : w.heap.size ≤ g
  x : ∃ A cp, W.heap[g]? = some (.cells #[.string s, .int .i64 (i : Int), .slice A l.length cp] 75 (0, 0)) ∧ Kd.R k49 49 W w.heap.size (fun k => k ≠ g) (.slice A l.length cp) l
section
variable {w W W' : World} {g i : Nat} {s : ByteArray} {l : List Tok}
theorem CSt.below (h : CSt w g s i l W) (hb : Below W.heap.size W W') : CSt w g s i l W' := by
  obtain ⟨A, cp, h1, h2⟩ := h.x
  exact ⟨h.b.trans (hb.mono h.b.size), h.g0, A, cp, blk_below h1 hb, Kd.R_below h2 hb⟩
theorem CSt.c0 (h : CSt w g s i l W) : W.cell? ⟨g, 0, none⟩ = some (.string s) := by
  obtain ⟨A, cp, h1, h2⟩ := h.x
  exact blk_cell h1 0
theorem CSt.c1 (h : CSt w g s i l W) : W.cell? ⟨g, 1, none⟩ = some (.int .i64 (i : Int)) := by
  obtain ⟨A, cp, h1, h2⟩ := h.x
  exact blk_cell h1 1
theorem CSt.f1 (h : CSt w g s i l W) : W.frozen? ⟨g, 1, none⟩ = false := by
  obtain ⟨A, cp, h1, h2⟩ := h.x
  exact blk_frozen h1 1
theorem CSt.set1 (h : CSt w g s i l W) (j : Nat) : CSt w g s j l (W.setCell ⟨g, 1, none⟩ (.int .i64 (j : Int))) := by
  obtain ⟨A, cp, h1, h2⟩ := h.x
  have hb : Below w.heap.size w (W.setCell ⟨g, 1, none⟩ (.int .i64 (j : Int))) := Below.setCell h.b (p := ⟨g, 1, none⟩) h.g0 _
  refine ⟨hb, h.g0, A, cp, blk_put h1 1 _ rfl, ?_⟩
  have hb0 : Below 0 W (W.setCell ⟨g, 1, none⟩ (.int .i64 (j : Int))) := Below.setCell (Below.refl 0 W) (p := ⟨g, 1, none⟩) (Nat.zero_le _) _
  exact Kd.R_grown h2 (row := some g) ⟨hb0.os, hb0.tape, hb0.output, hb0.size, fun k hk hne => Below.heap_setCell W ⟨g, 1, none⟩ _ k (fun e => hne (by rw [e]))⟩ (fun k hk e => hk (Option.some.inj e))
end
theorem R_setg {W : World} {base g : Nat} {v : Value} {l : List Tok} (h : Kd.R k49 49 W base (fun k => k ≠ g) v l) (o : Nat) (u : Value) : Kd.R k49 49 (W.setCell ⟨g, o, none⟩ u) base (fun k => k ≠ g) v l := by
  have hb0 : Below 0 W (W.setCell ⟨g, o, none⟩ u) := Below.setCell (Below.refl 0 W) (p := ⟨g, o, none⟩) (Nat.zero_le _) _
  exact Kd.R_grown h (row := some g) ⟨hb0.os, hb0.tape, hb0.output, hb0.size, fun k hk hne => Below.heap_setCell W ⟨g, o, none⟩ _ k (fun e => hne (by rw [e]))⟩ (fun k hk e => hk (Option.some.inj e))
/-- A cutter with whatever row in its box. -/
structure CPut (w : World) (g : Nat) (s : ByteArray) (i : Nat) (l : List Tok) (n cp : Nat) (A : Option Addr) (v : Value) (W : World) : Prop where
  b : Below w.heap.size w W
  g0 : w.heap.size ≤ g
  x : W.heap[g]? = some (.cells #[.string s, .int .i64 (i : Int), .slice A n cp] 75 (0, 0))
  r : Kd.R k49 49 W w.heap.size (fun k => k ≠ g) v l
theorem CPut.drew {w W : World} {g i n cp : Nat} {s : ByteArray} {l : List Tok} {A : Option Addr} {v : Value} (h : CPut w g s i l n cp A v W) : CPut w g s i l n cp A v W.drew :=
  ⟨h.b.trans ((below_drew (Below.refl _ _)).mono h.b.size), h.g0, blk_drew h.x, Kd.R_drew h.r⟩
theorem info49' : ∃ i, Tryz.prog.info? 49 = some i ∧ i.zero = some (.agg #[.int .i64 0, .int .i64 0, .int .i64 0, .string ⟨#[]⟩, .int .u64 0, .bool false]) ∧ i.size = 6 ∧ i.bytes = 56 := by
  have h := info49
  cases h2 : Tryz.prog.info? 49 with
  | none => rw [h2] at h; cases h
  | some i =>
    rw [h2] at h
    simp only [Option.map_some, Option.some.injEq, Prod.mk.injEq] at h
    exact ⟨i, rfl, h.1, h.2.1, h.2.2⟩
section
variable {P : Program} {ops : Array Oper} {o : Oper} {a : Act} {w : World} {Q : Exit → Act → World → Prop} {K : Act → World → Prop}
/-- An append in a region that draws, once its run is known. -/
theorem step_run (hw : Region.wanted o (yielded ops a.tmps) = true) (s x : Operand) (t : TypeId) (ho : o.op = .call { callee := .builtin .append, args := #[s, x], argTypes := #[t, t] })
    {v u v' : Value} {w' : World} (hs : a.eval s = v) (hx : a.eval x = u) (hr : (Builtin.append_ #[t, t] o.type #[v, u]).run P w = .ok v' w') (h : K (a.put o.dst v') w') :
    if Region.wanted o (yielded ops a.tmps) = true then Oper.wp P o a w K Q else K (a.put o.dst undef) w := by
  rw [if_pos hw]
  unfold Oper.wp execOp
  simp only [ho, resolve, invoke, builtin, Sem.run_bind, Sem.run_pure, Result.andThen_ok, List.map_toArray, List.map_cons, List.map_nil, hs, hx, hr]
  exact h
end
/-- The append of a token, as a run. -/
theorem CPut.app {w W : World} {g i n cp : Nat} {s : ByteArray} {l : List Tok} {A : Option Addr} (h : CPut w g s i l n cp A (.slice A n cp) W) (t : Tok) (hl : l.length ≤ 100000) :
    ∃ A2 m c2 w1, (Builtin.append_ #[41, 41] 41 #[.slice A n cp, .slice (some ⟨W.heap.size, 0, none⟩) 1 1]).run Tryz.prog (W.alloc (.cells (tokL t).toArray 49)) = .ok (.slice A2 m c2) w1 ∧ Hid (m = (l ++ [t]).length) ∧ CPut w g s i (l ++ [t]) n cp A (.slice A2 m c2) w1 ∧ (∀ b, b < W.heap.size → some b ≠ (Value.slice A n cp).ownBlock → w1.heap[b]? = W.heap[b]?) := by
  obtain ⟨inf, hi, hz, hsz, hby⟩ := info49'
  have hA : CPut w g s i l n cp A (.slice A n cp) (W.alloc (.cells (tokL t).toArray 49)) := by
    have hb := (Below.refl W.heap.size W).alloc (Nat.le_refl _) (.cells (tokL t).toArray 49)
    exact ⟨h.b.trans (hb.mono h.b.size), h.g0, blk_below h.x hb, Kd.R_below h.r hb⟩
  obtain ⟨h0, inner, hown, hr⟩ := hA.r
  have hnew := blk_new W (Obj.cells (tokL t).toArray 49)
  obtain ⟨v1, w1, hrun, hown1, hg1, _, hat⟩ := run_append_own_at (w := W.alloc (.cells (tokL t).toArray 49)) (P := Tryz.prog) w.heap.size 41 41 49 inf _ 6 56 Tryz.underlying41 hi hz hsz hby rfl (by decide) (.slice A n cp) l.length inner hown ⟨W.heap.size, 0, none⟩ 1 1 (tokL t) rfl (fun j u hu => by
    have : (tokL t).toArray[j]? = some u := by simpa using hu
    rw [Addr.add_lit, Nat.zero_add]
    exact (blk_cell hnew j).trans this) (by simp [tokL, Value.oneCell']) (by show l.length + 1 ≤ 9223372036854775807; omega) (by omega) hA.b.size
  have hR := Kd.R_appended h0 hr (k49_mkM (W.alloc (.cells (tokL t).toArray 49)) w.heap.size (fun _ => False) t) (fun _ h => h.elim) (fun k hk e => by have := blk_lt hA.x; omega) hown1 hg1 (hat.imp id (fun e => ⟨_, e, Nat.le_refl _⟩))
  obtain ⟨A2, c2, rfl⟩ := Kd.R_slice hR
  refine ⟨A2, _, c2, w1, hrun, Lib.hid rfl, ⟨?_, h.g0, (hg1.block g (blk_lt hA.x) (fun e => h.r.1 g e.symm rfl)).trans hA.x, hR⟩, fun b hb hne => ?_⟩
  rotate_left
  · have hal := (Below.refl W.heap.size W).alloc (Nat.le_refl _) (.cells (tokL t).toArray 49)
    exact (hg1.block b (Nat.lt_of_lt_of_le hb hal.size) hne).trans (hal.block b hb)
  refine ⟨hg1.os.trans hA.b.os, hg1.tape.trans hA.b.tape, hg1.output.trans hA.b.output, Nat.le_trans hA.b.size hg1.size, fun j hj => (hg1.block j (Nat.lt_of_lt_of_le hj hA.b.size) (fun e => ?_)).trans (hA.b.block j hj)⟩
  exact absurd (Kd.R_bound hA.r).1 (fun hh => by have := (hh j e.symm).2.1; omega)
set_option maxHeartbeats 8000000 in
set_option maxRecDepth 100000 in
theorem push_c {w W : World} {g i n : Nat} {s : ByteArray} {l : List Tok} {k : Int} (h : CSt w g s i l W) (hin : i + n ≤ s.size) (hs : s.size ≤ 100000) (hl : l.length ≤ 100000) :
    Calls Tryz.prog 21 #[.pointer (some ⟨g, 0, none⟩), .int .i64 k, .int .i64 (n : Int)] W fun e w' => e = .returned (.tuple #[]) ∧ CSt w g s (i + n) (l ++ [⟨k, i, ((i + n : Nat) : Int), s.extract i (i + n), 0, false⟩]) w' := by
  obtain ⟨j, hj⟩ : ∃ j, i + n = j := ⟨_, rfl⟩
  rw [hj] at hin ⊢
  have e1 : IntKind.i64.wrap ((i : Int) + (n : Int)) = (j : Int) := by rw [IntKind.wrap_i64]; omega
  have k1 : i ≤ j := by omega
  have hL : l.length + 1 ≤ 100001 := by omega
  obtain ⟨A, cp, h1, h2⟩ := h.x
  have c0 : W.cell? ⟨g, 0, none⟩ = some (.string s) := blk_cell h1 0
  have c1 : W.cell? ⟨g, 1, none⟩ = some (.int .i64 (i : Int)) := blk_cell h1 1
  have c2 : W.cell? ⟨g, 2, none⟩ = some (.slice A l.length cp) := blk_cell h1 2
  have H : Hid (CPut w g s i l l.length cp A (.slice A l.length cp) W) := Lib.hid ⟨h.b, h.g0, h1, h2⟩
  have HD := Lib.hid H.out.drew
  have HL := Lib.hid hl
  clear h1 h2 hj hl h hL
  go_enter Tryz.func21, Tryz.ntmps21
  obtain ⟨A2, m, c2', wC, hap, HM, hS2, _⟩ := HD.out.app ⟨k, i, (j : Int), s.extract i j, 0, false⟩ HL.out
  have HA := Lib.hid hap
  have HS := Lib.hid hS2
  have b0 : W.drew.cell? ⟨g, 0, none⟩ = some (.string s) := c0
  have b1 : W.drew.cell? ⟨g, 1, none⟩ = some (.int .i64 (i : Int)) := c1
  have b2 : W.drew.cell? ⟨g, 2, none⟩ = some (.slice A l.length cp) := c2
  have HX0 := Lib.hid H.out.x
  clear hap hS2 HD HL H c0 c1 c2
  go_wp2
  refine wp_region_G (fun w' => w'.cell? ⟨g, 0, none⟩ = some (.string s) ∧ w'.cell? ⟨g, 1, none⟩ = some (.int .i64 (i : Int)) ∧ w'.cell? ⟨g, 2, none⟩ = some (.slice A l.length cp)) 36 (by kernel_rfl) ?_
  refine wpAnyG_take (i := 0) (v := ?_) rfl (by kernel_rfl) (by kernel_rfl) (by kernel_rfl) (by kernel_rfl) (fun _ _ _ h => h) (Or.inl ⟨by rfl, ?_⟩) ⟨b0, b1, b2⟩ ?_
  rotate_left
  · intro w hSw
    obtain ⟨k0, k1, k2⟩ := hSw
    go_simp
    try with_reducible rfl
  simp only [Act.put, List.setIfInBounds_toArray, List.set_cons_zero, List.set_cons_succ]
  refine wpAnyG_take (i := 1) (v := ?_) rfl (by kernel_rfl) (by kernel_rfl) (by kernel_rfl) (by kernel_rfl) (fun _ _ _ h => h) (Or.inl ⟨by rfl, ?_⟩) ⟨b0, b1, b2⟩ ?_
  rotate_left
  · intro w hSw
    obtain ⟨k0, k1, k2⟩ := hSw
    go_simp
    try with_reducible rfl
  simp only [Act.put, List.setIfInBounds_toArray, List.set_cons_zero, List.set_cons_succ]
  refine wpAnyG_take (i := 2) (v := ?_) rfl (by kernel_rfl) (by kernel_rfl) (by kernel_rfl) (by kernel_rfl) (fun _ _ _ h => h) (Or.inl ⟨by rfl, ?_⟩) ⟨b0, b1, b2⟩ ?_
  rotate_left
  · intro w hSw
    obtain ⟨k0, k1, k2⟩ := hSw
    go_simp
    try with_reducible rfl
  simp only [Act.put, List.setIfInBounds_toArray, List.set_cons_zero, List.set_cons_succ]
  refine wpAnyG_take (i := 3) (v := ?_) rfl (by kernel_rfl) (by kernel_rfl) (by kernel_rfl) (by kernel_rfl) (fun _ _ _ h => h) (Or.inl ⟨by rfl, ?_⟩) ⟨b0, b1, b2⟩ ?_
  rotate_left
  · intro w hSw
    obtain ⟨k0, k1, k2⟩ := hSw
    go_simp
    try with_reducible rfl
  simp only [Act.put, List.setIfInBounds_toArray, List.set_cons_zero, List.set_cons_succ]
  refine wpAnyG_take (i := 4) (v := ?_) rfl (by kernel_rfl) (by kernel_rfl) (by kernel_rfl) (by kernel_rfl) (fun _ _ _ h => h) (Or.inl ⟨by rfl, ?_⟩) ⟨b0, b1, b2⟩ ?_
  rotate_left
  · intro w hSw
    obtain ⟨k0, k1, k2⟩ := hSw
    go_simp
    try with_reducible rfl
  simp only [Act.put, List.setIfInBounds_toArray, List.set_cons_zero, List.set_cons_succ]
  refine wpAnyG_take (i := 5) (v := ?_) rfl (by kernel_rfl) (by kernel_rfl) (by kernel_rfl) (by kernel_rfl) (fun _ _ _ h => h) (Or.inl ⟨by rfl, ?_⟩) ⟨b0, b1, b2⟩ ?_
  rotate_left
  · intro w hSw
    obtain ⟨k0, k1, k2⟩ := hSw
    go_simp
    try with_reducible rfl
  simp only [Act.put, List.setIfInBounds_toArray, List.set_cons_zero, List.set_cons_succ]
  refine wpAnyG_take (i := 6) (v := ?_) rfl (by kernel_rfl) (by kernel_rfl) (by kernel_rfl) (by kernel_rfl) (fun _ _ _ h => h) (Or.inl ⟨by rfl, ?_⟩) ⟨b0, b1, b2⟩ ?_
  rotate_left
  · intro w hSw
    obtain ⟨k0, k1, k2⟩ := hSw
    go_simp
    try with_reducible rfl
  simp only [Act.put, List.setIfInBounds_toArray, List.set_cons_zero, List.set_cons_succ]
  refine wpAnyG_take (i := 7) (v := ?_) rfl (by kernel_rfl) (by kernel_rfl) (by kernel_rfl) (by kernel_rfl) (fun _ _ _ h => h) (Or.inl ⟨by rfl, ?_⟩) ⟨b0, b1, b2⟩ ?_
  rotate_left
  · intro w hSw
    obtain ⟨k0, k1, k2⟩ := hSw
    go_simp
    try with_reducible rfl
  simp only [Act.put, List.setIfInBounds_toArray, List.set_cons_zero, List.set_cons_succ]
  refine wpAnyG_take (i := 8) (v := ?_) rfl (by kernel_rfl) (by kernel_rfl) (by kernel_rfl) (by kernel_rfl) (fun _ _ _ h => h) (Or.inl ⟨by rfl, ?_⟩) ⟨b0, b1, b2⟩ ?_
  rotate_left
  · intro w hSw
    obtain ⟨k0, k1, k2⟩ := hSw
    go_simp
    try with_reducible rfl
  simp only [Act.put, List.setIfInBounds_toArray, List.set_cons_zero, List.set_cons_succ]
  refine wpAnyG_take (i := 9) (v := ?_) rfl (by kernel_rfl) (by kernel_rfl) (by kernel_rfl) (by kernel_rfl) (fun _ _ _ h => h) (Or.inl ⟨by rfl, ?_⟩) ⟨b0, b1, b2⟩ ?_
  rotate_left
  · intro w hSw
    obtain ⟨k0, k1, k2⟩ := hSw
    go_simp
    try with_reducible rfl
  simp only [Act.put, List.setIfInBounds_toArray, List.set_cons_zero, List.set_cons_succ]
  refine wpAnyG_take (i := 10) (v := ?_) rfl (by kernel_rfl) (by kernel_rfl) (by kernel_rfl) (by kernel_rfl) (fun _ _ _ h => h) (Or.inl ⟨by rfl, ?_⟩) ⟨b0, b1, b2⟩ ?_
  rotate_left
  · intro w hSw
    obtain ⟨k0, k1, k2⟩ := hSw
    go_simp
    try with_reducible rfl
  simp only [Act.put, List.setIfInBounds_toArray, List.set_cons_zero, List.set_cons_succ]
  refine wpAnyG_take (i := 11) (v := ?_) rfl (by kernel_rfl) (by kernel_rfl) (by kernel_rfl) (by kernel_rfl) (fun _ _ _ h => h) (Or.inl ⟨by rfl, ?_⟩) ⟨b0, b1, b2⟩ ?_
  rotate_left
  · intro w hSw
    obtain ⟨k0, k1, k2⟩ := hSw
    go_simp
    try with_reducible rfl
  simp only [Act.put, List.setIfInBounds_toArray, List.set_cons_zero, List.set_cons_succ]
  refine wpAnyG_take (i := 12) (v := ?_) rfl (by kernel_rfl) (by kernel_rfl) (by kernel_rfl) (by kernel_rfl) (fun _ _ _ h => h) (Or.inl ⟨by rfl, ?_⟩) ⟨b0, b1, b2⟩ ?_
  rotate_left
  · intro w hSw
    obtain ⟨k0, k1, k2⟩ := hSw
    go_simp
    try with_reducible rfl
  simp only [Act.put, List.setIfInBounds_toArray, List.set_cons_zero, List.set_cons_succ]
  refine wpAnyG_take (i := 13) (v := ?_) rfl (by kernel_rfl) (by kernel_rfl) (by kernel_rfl) (by kernel_rfl) (fun _ _ _ h => h) (Or.inl ⟨by rfl, ?_⟩) ⟨b0, b1, b2⟩ ?_
  rotate_left
  · intro w hSw
    obtain ⟨k0, k1, k2⟩ := hSw
    go_simp
    try with_reducible rfl
  simp only [Act.put, List.setIfInBounds_toArray, List.set_cons_zero, List.set_cons_succ]
  refine wpAnyG_take (i := 14) (v := ?_) rfl (by kernel_rfl) (by kernel_rfl) (by kernel_rfl) (by kernel_rfl) (fun _ _ _ h => h) (Or.inl ⟨by rfl, ?_⟩) ⟨b0, b1, b2⟩ ?_
  rotate_left
  · intro w hSw
    obtain ⟨k0, k1, k2⟩ := hSw
    go_simp
    try with_reducible rfl
  simp only [Act.put, List.setIfInBounds_toArray, List.set_cons_zero, List.set_cons_succ]
  refine wpAnyG_take (i := 15) (v := ?_) rfl (by kernel_rfl) (by kernel_rfl) (by kernel_rfl) (by kernel_rfl) (fun _ _ _ h => h) (Or.inl ⟨by rfl, ?_⟩) ⟨b0, b1, b2⟩ ?_
  rotate_left
  · intro w hSw
    obtain ⟨k0, k1, k2⟩ := hSw
    go_simp
    try with_reducible rfl
  simp only [Act.put, List.setIfInBounds_toArray, List.set_cons_zero, List.set_cons_succ]
  refine wpAnyG_take (i := 16) (v := ?_) rfl (by kernel_rfl) (by kernel_rfl) (by kernel_rfl) (by kernel_rfl) (fun _ _ _ h => h) (Or.inl ⟨by rfl, ?_⟩) ⟨b0, b1, b2⟩ ?_
  rotate_left
  · intro w hSw
    obtain ⟨k0, k1, k2⟩ := hSw
    go_simp
    try with_reducible rfl
  simp only [Act.put, List.setIfInBounds_toArray, List.set_cons_zero, List.set_cons_succ]
  refine wpAnyG_take (i := 17) (v := ?_) rfl (by kernel_rfl) (by kernel_rfl) (by kernel_rfl) (by kernel_rfl) (fun _ _ _ h => h) (Or.inl ⟨by rfl, ?_⟩) ⟨b0, b1, b2⟩ ?_
  rotate_left
  · intro w hSw
    obtain ⟨k0, k1, k2⟩ := hSw
    go_simp
    try with_reducible rfl
  simp only [Act.put, List.setIfInBounds_toArray, List.set_cons_zero, List.set_cons_succ]
  refine wpAnyG_take (i := 18) (v := ?_) rfl (by kernel_rfl) (by kernel_rfl) (by kernel_rfl) (by kernel_rfl) (fun _ _ _ h => h) (Or.inl ⟨by rfl, ?_⟩) ⟨b0, b1, b2⟩ ?_
  rotate_left
  · intro w hSw
    obtain ⟨k0, k1, k2⟩ := hSw
    go_simp
    try with_reducible rfl
  simp only [Act.put, List.setIfInBounds_toArray, List.set_cons_zero, List.set_cons_succ]
  refine wpAnyG_take (i := 19) (v := ?_) rfl (by kernel_rfl) (by kernel_rfl) (by kernel_rfl) (by kernel_rfl) (fun _ _ _ h => h) (Or.inl ⟨by rfl, ?_⟩) ⟨b0, b1, b2⟩ ?_
  rotate_left
  · intro w hSw
    obtain ⟨k0, k1, k2⟩ := hSw
    go_simp
    try with_reducible rfl
  simp only [Act.put, List.setIfInBounds_toArray, List.set_cons_zero, List.set_cons_succ]
  refine wpAnyG_take (i := 20) (v := ?_) rfl (by kernel_rfl) (by kernel_rfl) (by kernel_rfl) (by kernel_rfl) (fun _ _ _ h => h) (Or.inl ⟨by rfl, ?_⟩) ⟨b0, b1, b2⟩ ?_
  rotate_left
  · intro w hSw
    obtain ⟨k0, k1, k2⟩ := hSw
    go_simp
    try with_reducible rfl
  simp only [Act.put, List.setIfInBounds_toArray, List.set_cons_zero, List.set_cons_succ]
  refine wpAnyG_take (i := 21) (v := ?_) rfl (by kernel_rfl) (by kernel_rfl) (by kernel_rfl) (by kernel_rfl) (fun _ _ _ h => h) (Or.inl ⟨by rfl, ?_⟩) ⟨b0, b1, b2⟩ ?_
  rotate_left
  · intro w hSw
    obtain ⟨k0, k1, k2⟩ := hSw
    go_simp
    try with_reducible rfl
  simp only [Act.put, List.setIfInBounds_toArray, List.set_cons_zero, List.set_cons_succ]
  refine wpAnyG_take (i := 22) (v := ?_) rfl (by kernel_rfl) (by kernel_rfl) (by kernel_rfl) (by kernel_rfl) (fun _ _ _ h => h) (Or.inl ⟨by rfl, ?_⟩) ⟨b0, b1, b2⟩ ?_
  rotate_left
  · intro w hSw
    obtain ⟨k0, k1, k2⟩ := hSw
    go_simp
    try with_reducible rfl
  simp only [Act.put, List.setIfInBounds_toArray, List.set_cons_zero, List.set_cons_succ]
  refine wpAnyG_take (i := 23) (v := ?_) rfl (by kernel_rfl) (by kernel_rfl) (by kernel_rfl) (by kernel_rfl) (fun _ _ _ h => h) (Or.inl ⟨by rfl, ?_⟩) ⟨b0, b1, b2⟩ ?_
  rotate_left
  · intro w hSw
    obtain ⟨k0, k1, k2⟩ := hSw
    go_simp
    try with_reducible rfl
  simp only [Act.put, List.setIfInBounds_toArray, List.set_cons_zero, List.set_cons_succ]
  refine wpAnyG_take (i := 24) (v := ?_) rfl (by kernel_rfl) (by kernel_rfl) (by kernel_rfl) (by kernel_rfl) (fun _ _ _ h => h) (Or.inl ⟨by rfl, ?_⟩) ⟨b0, b1, b2⟩ ?_
  rotate_left
  · intro w hSw
    obtain ⟨k0, k1, k2⟩ := hSw
    go_simp
    try with_reducible rfl
  simp only [Act.put, List.setIfInBounds_toArray, List.set_cons_zero, List.set_cons_succ]
  refine wpAnyG_take (i := 25) (v := ?_) rfl (by kernel_rfl) (by kernel_rfl) (by kernel_rfl) (by kernel_rfl) (fun _ _ _ h => h) (Or.inl ⟨by rfl, ?_⟩) ⟨b0, b1, b2⟩ ?_
  rotate_left
  · intro w hSw
    obtain ⟨k0, k1, k2⟩ := hSw
    go_simp
    try with_reducible rfl
  simp only [Act.put, List.setIfInBounds_toArray, List.set_cons_zero, List.set_cons_succ]
  refine wpAnyG_take (i := 26) (v := ?_) rfl (by kernel_rfl) (by kernel_rfl) (by kernel_rfl) (by kernel_rfl) (fun _ _ _ h => h) (Or.inl ⟨by rfl, ?_⟩) ⟨b0, b1, b2⟩ ?_
  rotate_left
  · intro w hSw
    obtain ⟨k0, k1, k2⟩ := hSw
    go_simp
    try with_reducible rfl
  simp only [Act.put, List.setIfInBounds_toArray, List.set_cons_zero, List.set_cons_succ]
  refine wpAnyG_take (i := 27) (v := ?_) rfl (by kernel_rfl) (by kernel_rfl) (by kernel_rfl) (by kernel_rfl) (fun _ _ _ h => h) (Or.inl ⟨by rfl, ?_⟩) ⟨b0, b1, b2⟩ ?_
  rotate_left
  · intro w hSw
    obtain ⟨k0, k1, k2⟩ := hSw
    go_simp
    try with_reducible rfl
  simp only [Act.put, List.setIfInBounds_toArray, List.set_cons_zero, List.set_cons_succ]
  refine wpAnyG_take (i := 28) (v := ?_) rfl (by kernel_rfl) (by kernel_rfl) (by kernel_rfl) (by kernel_rfl) (fun _ _ _ h => h) (Or.inl ⟨by rfl, ?_⟩) ⟨b0, b1, b2⟩ ?_
  rotate_left
  · intro w hSw
    obtain ⟨k0, k1, k2⟩ := hSw
    go_simp
    try with_reducible rfl
  simp only [Act.put, List.setIfInBounds_toArray, List.set_cons_zero, List.set_cons_succ]
  refine wpAnyG_take (i := 29) (v := ?_) rfl (by kernel_rfl) (by kernel_rfl) (by kernel_rfl) (by kernel_rfl) (fun _ _ _ h => h) (Or.inl ⟨by rfl, ?_⟩) ⟨b0, b1, b2⟩ ?_
  rotate_left
  · intro w hSw
    obtain ⟨k0, k1, k2⟩ := hSw
    go_simp
    try with_reducible rfl
  simp only [Act.put, List.setIfInBounds_toArray, List.set_cons_zero, List.set_cons_succ]
  refine wpAnyG_take (i := 30) (v := ?_) rfl (by kernel_rfl) (by kernel_rfl) (by kernel_rfl) (by kernel_rfl) (fun _ _ _ h => h) (Or.inl ⟨by rfl, ?_⟩) ⟨b0, b1, b2⟩ ?_
  rotate_left
  · intro w hSw
    obtain ⟨k0, k1, k2⟩ := hSw
    go_simp
    try with_reducible rfl
  simp only [Act.put, List.setIfInBounds_toArray, List.set_cons_zero, List.set_cons_succ]
  refine wpAnyG_take (i := 31) (v := ?_) rfl (by kernel_rfl) (by kernel_rfl) (by kernel_rfl) (by kernel_rfl) (fun _ _ _ h => h) (Or.inl ⟨by rfl, ?_⟩) ⟨b0, b1, b2⟩ ?_
  rotate_left
  · intro w hSw
    obtain ⟨k0, k1, k2⟩ := hSw
    go_simp
    try with_reducible rfl
  simp only [Act.put, List.setIfInBounds_toArray, List.set_cons_zero, List.set_cons_succ]
  refine wpAnyG_one (i := 32) (by kernel_rfl) rfl (fun K hK => ?_)
  go_simp
  refine hK.out _ _ (.inr ⟨blk_cell (blk_alloc HX0.out _) 0, blk_cell (blk_alloc HX0.out _) 1, blk_cell (blk_alloc HX0.out _) 2⟩) ?_
  clear hK K
  try simp only [Act.put, List.setIfInBounds_toArray, List.set_cons_zero, List.set_cons_succ]
  refine wpAnyG_one (i := 33) (by kernel_rfl) rfl (fun K hK => ?_)
  refine step_run (by rfl) (.tmp 10) (.tmp 38) 41 (by rfl) (by rfl) (by rfl) HA.out ?_
  refine hK.out _ _ (.inr ⟨blk_cell HS.out.x 0, blk_cell HS.out.x 1, blk_cell HS.out.x 2⟩) ?_
  clear hK K b0 b1 b2
  have b0 : wC.cell? ⟨g, 0, none⟩ = some (.string s) := blk_cell HS.out.x 0
  have b1 : wC.cell? ⟨g, 1, none⟩ = some (.int .i64 (i : Int)) := blk_cell HS.out.x 1
  have b2 : wC.cell? ⟨g, 2, none⟩ = some (.slice A l.length cp) := blk_cell HS.out.x 2
  have f2 : wC.frozen? ⟨g, 2, none⟩ = false := blk_frozen HS.out.x 2
  try simp only [Act.put, List.setIfInBounds_toArray, List.set_cons_zero, List.set_cons_succ]
  refine wpAnyG_one (i := 34) (by kernel_rfl) rfl (fun K hK => ?_)
  go_simp
  refine hK.out _ _ (.inr ⟨b0, b1, b2⟩) ?_
  clear hK K
  try simp only [Act.put, List.setIfInBounds_toArray, List.set_cons_zero, List.set_cons_succ]
  refine wpAnyG_one (i := 35) (by kernel_rfl) rfl (fun K hK => ?_)
  go_simp
  refine hK.out _ _ (.inr ⟨b0, b1, b2⟩) ?_
  clear hK K
  try simp only [Act.put, List.setIfInBounds_toArray, List.set_cons_zero, List.set_cons_succ]
  refine wpAnyG_one (i := 36) (by kernel_rfl) rfl (fun K hK => ?_)
  go_simp
  refine hK.out _ _ (.inl rfl) ?_
  clear hK K
  try simp only [Act.put, List.setIfInBounds_toArray, List.set_cons_zero, List.set_cons_succ]
  refine wpAnyG_done (by kernel_rfl) ?_ _
  have hx3 := blk_put HS.out.x 2 (.slice A2 m c2') rfl
  have p1 : (wC.setCell ⟨g, 2, none⟩ (.slice A2 m c2')).cell? ⟨g, 1, none⟩ = some (.int .i64 (i : Int)) := blk_cell hx3 1
  have f1 : (wC.setCell ⟨g, 2, none⟩ (.slice A2 m c2')).frozen? ⟨g, 1, none⟩ = false := blk_frozen hx3 1
  clear b0 b1 b2 f2 hx3
  go_wp2
  go_end0
  obtain rfl := HM.out
  have hx4 := blk_put (blk_put HS.out.x 2 (.slice A2 (l ++ [(⟨k, i, (j : Int), s.extract i j, 0, false⟩ : Tok)]).length c2') rfl) 1 (.int .i64 (j : Int)) rfl
  exact ⟨rfl, Below.setCell (Below.setCell HS.out.b (p := ⟨g, 2, none⟩) HS.out.g0 _) (p := ⟨g, 1, none⟩) HS.out.g0 _, HS.out.g0, A2, c2', hx4, R_setg (R_setg HS.out.r 2 _) 1 _⟩
end Go.Proofs.YtbmnifnahbehbaaGreatDoor

/- The row of tokens, cell by cell. -/
set_option linter.unusedVariables false
set_option linter.unusedSimpArgs false
namespace Go.Proofs.YtbmnifnahbehbaaGreatDoor
open Go.RowKit Go.Lib Go.Proofs.YtbmnifnahbehbaaGreatDoorW.PrintWords Go.Proofs.YtbmnifnahbehbaaGreatDoorW.PrintMore Go.Proofs.YtbmnifnahbehbaaGreatDoorW.PrintLast
open AvP
theorem k49_openM {w : World} {base : Nat} {ok : Nat → Prop} {x : Tok} {cs : List Value} (h : k49.M w base ok x cs) : cs = tokL x := by
  obtain ⟨_, _, rfl, rfl, ⟨_, _, rfl, rfl, ⟨_, _, rfl, rfl, ⟨_, _, rfl, rfl, ⟨_, _, rfl, rfl, rfl⟩⟩⟩⟩⟩ := h
  rfl
theorem tokL_len (x : Tok) : (tokL x).length = 6 := rfl
theorem toks_len (l : List Tok) : (l.flatMap tokL).length = l.length * 6 := by
  induction l with
  | nil => rfl
  | cons p l ih => simp only [List.flatMap_cons, List.length_append, ih, List.length_cons, tokL_len]; omega
theorem toks_at (l : List Tok) (j : Nat) (x : Tok) (h : l[j]? = some x) : ((l.flatMap tokL).drop (j * 6)).take 6 = tokL x := by
  induction l generalizing j with
  | nil => simp at h
  | cons a l ih =>
    cases j with
    | zero =>
      simp only [List.getElem?_cons_zero, Option.some.injEq] at h
      subst h
      rfl
    | succ j =>
      rw [List.getElem?_cons_succ] at h
      rw [List.flatMap_cons, show (j + 1) * 6 = 6 + j * 6 by omega, ← List.drop_drop, show (tokL a ++ l.flatMap tokL).drop 6 = l.flatMap tokL from rfl]
      exact ih j h
theorem reps_cut {R : Tok → List Value → Prop} (hR : ∀ x cs, R x cs → cs = tokL x) : ∀ {l : List Tok} {inner : List Value}, Reps R 6 l inner → inner = l.flatMap tokL
  | [], inner, h => by
    have := h.1
    simpa using this
  | a :: l, inner, h => by
    have h0 := hR _ _ (h.2 0 a rfl)
    rw [Nat.zero_mul, List.drop_zero] at h0
    have hl := h.1
    have ht : Reps R 6 l (inner.drop 6) := by
      refine ⟨by rw [List.length_drop, hl, List.length_cons]; omega, fun j p hj => ?_⟩
      have := h.2 (j + 1) p (by rw [List.getElem?_cons_succ]; exact hj)
      rw [List.drop_drop]
      rw [show (j + 1) * 6 = 6 + j * 6 by omega] at this
      exact this
    have := reps_cut hR ht
    rw [List.flatMap_cons, ← this, ← h0, List.take_append_drop]
theorem R_toks {W : World} {base : Nat} {ok : Nat → Prop} {v : Value} {l : List Tok} (h : Kd.R k49 49 W base ok v l) : W.ownsRow base 49 6 v l.length (l.flatMap tokL) := by
  obtain ⟨_, inner, ho, hr⟩ := h
  rw [← reps_cut (fun x cs hh => k49_openM hh) hr]
  exact ho
theorem toks_R {W : World} {base : Nat} {ok : Nat → Prop} {v : Value} {l : List Tok} (hk : ∀ k, v.ownBlock = some k → ok k) (h : W.ownsRow base 49 6 v l.length (l.flatMap tokL)) : Kd.R k49 49 W base ok v l :=
  ⟨hk, _, h, toks_len l, fun j p hj => by
    show k49.M W base _ p (((l.flatMap tokL).drop (j * 6)).take 6)
    rw [toks_at l j p hj]
    exact k49_mkM _ _ _ _⟩
theorem toks_set (l : List Tok) (t : Tok) (j : Nat) (u : Value) (hj : j < 6) : ((l ++ [t]).flatMap tokL).set (l.length * 6 + j) u = l.flatMap tokL ++ (tokL t).set j u := by
  rw [List.flatMap_append, List.flatMap_singleton, List.set_append_right _ _ (by rw [toks_len]; omega), toks_len, show l.length * 6 + j - l.length * 6 = j by omega]
/-- The last token's place. -/
theorem CSt.last {w W : World} {g i : Nat} {s : ByteArray} {l : List Tok} {t : Tok} (h : CSt w g s i (l ++ [t]) W) :
    ∃ b cp, W.cell? ⟨g, 2, none⟩ = some (.slice (some ⟨b, 0, none⟩) (l.length + 1) cp) ∧ b ≠ g ∧ w.heap.size ≤ b ∧ b < W.heap.size ∧ (∀ j v, (tokL t)[j]? = some v → W.cell? ⟨b, l.length * 6 + j, none⟩ = some v) ∧ (∀ j, W.frozen? ⟨b, j, none⟩ = false) ∧
      (∀ j u t', j < 6 → (tokL t).set j u = tokL t' → CSt w g s i (l ++ [t']) (W.setCell ⟨b, l.length * 6 + j, none⟩ u)) := by
  obtain ⟨A, cp, hx, hR⟩ := h.x
  have ho := R_toks hR
  have hlen : (l ++ [t]).length = l.length + 1 := by simp
  have ho2 := ho
  obtain ⟨h1, ⟨h2, h3⟩ | ⟨b, cap, cur, hv, hb, hh, hn, hc, hcs, ht⟩⟩ := ho2
  · rw [hlen] at h3; omega
  · injection hv with e1 e2 e3
    subst e1 e3
    have hbg : b ≠ g := hR.1 b rfl
    refine ⟨b, cp, ?_, hbg, hb, blk_lt hh, ?_, fun j => blk_frozen hh j, ?_⟩
    · rw [← hlen]; exact blk_cell hx 2
    · intro j v hj
      have hj6 : j < 6 := (List.getElem?_eq_some_iff.1 hj).1
      have : ((l ++ [t]).flatMap tokL)[l.length * 6 + j]? = some v := by
        rw [List.flatMap_append, List.flatMap_singleton, List.getElem?_append_right (by rw [toks_len]; omega), toks_len, show l.length * 6 + j - l.length * 6 = j by omega]
        exact hj
      rw [← ht, List.getElem?_take, if_pos (by rw [hlen]; omega)] at this
      refine (blk_cell hh _).trans ?_
      rw [← Array.getElem?_toList]
      exact this
    · intro j u t' hj hu
      have hb' : Below w.heap.size w (W.setCell ⟨b, l.length * 6 + j, none⟩ u) := Below.setCell h.b (p := ⟨b, l.length * 6 + j, none⟩) hb _
      refine ⟨hb', h.g0, some ⟨b, 0, none⟩, cp, ?_, toks_R (fun k hk => ?_) ?_⟩
      · have := blk_far hx (p := ⟨b, l.length * 6 + j, none⟩) (Ne.symm hbg) u
        rw [this]
        simp
      · have : b = k := by simpa [Value.ownBlock] using hk
        rw [← this]; exact hbg
      · refine ⟨by rw [toks_len], .inr ⟨b, cp, cur.setIfInBounds (l.length * 6 + j) u, by simp, hb, blk_set hh _ _, by simpa using hn, hc, by simpa using hcs, ?_⟩⟩
        have hl2 : (l ++ [t']).length = (l ++ [t]).length := by simp
        rw [hl2, Array.toList_setIfInBounds, List.take_set, ht, toks_set l t j u hj, hu, List.flatMap_append, List.flatMap_singleton]
/-- The last token lies in the block b. -/
structure LST (w : World) (g : Nat) (s : ByteArray) (i : Nat) (l : List Tok) (t : Tok) (b cp : Nat) (W : World) : Prop where
  c : CSt w g s i (l ++ [t]) W
  x2 : W.cell? ⟨g, 2, none⟩ = some (.slice (some ⟨b, 0, none⟩) (l.length + 1) cp)
theorem LST.of {w W : World} {g i : Nat} {s : ByteArray} {l : List Tok} {t : Tok} (h : CSt w g s i (l ++ [t]) W) : ∃ b cp, LST w g s i l t b cp W := by
  obtain ⟨b, cp, h2, _⟩ := h.last
  exact ⟨b, cp, h, h2⟩
section
variable {w W W' : World} {g i b cp : Nat} {s : ByteArray} {l : List Tok} {t : Tok}
theorem LST.all (h : LST w g s i l t b cp W) : b ≠ g ∧ w.heap.size ≤ b ∧ b < W.heap.size ∧ (∀ j v, (tokL t)[j]? = some v → W.cell? ⟨b, l.length * 6 + j, none⟩ = some v) ∧ (∀ j, W.frozen? ⟨b, j, none⟩ = false) ∧ (∀ j u t', j < 6 → (tokL t).set j u = tokL t' → CSt w g s i (l ++ [t']) (W.setCell ⟨b, l.length * 6 + j, none⟩ u)) := by
  obtain ⟨b', cp', h2, h3⟩ := h.c.last
  have := h2.symm.trans h.x2
  injection this with this
  injection this with e _ _
  injection e with e
  injection e with e
  subst e
  exact h3
theorem LST.cell (h : LST w g s i l t b cp W) (j : Nat) (v : Value) (hj : (tokL t)[j]? = some v) : W.cell? ⟨b, l.length * 6 + j, none⟩ = some v := h.all.2.2.2.1 j v hj
theorem LST.frz (h : LST w g s i l t b cp W) (j : Nat) : W.frozen? ⟨b, j, none⟩ = false := h.all.2.2.2.2.1 j
theorem LST.below (h : LST w g s i l t b cp W) (hb : Below W.heap.size W W') : LST w g s i l t b cp W' := ⟨h.c.below hb, (hb.cell (World.block_lt_of_cell? _ _ h.x2)).trans h.x2⟩
theorem LST.set (h : LST w g s i l t b cp W) (j : Nat) (u : Value) (t' : Tok) (hj : j < 6) (hu : (tokL t).set j u = tokL t') : LST w g s i l t' b cp (W.setCell ⟨b, l.length * 6 + j, none⟩ u) := by
  refine ⟨h.all.2.2.2.2.2 j u t' hj hu, ?_⟩
  have e := Below.heap_setCell W ⟨b, l.length * 6 + j, none⟩ u g (Ne.symm h.all.1)
  have := h.x2
  unfold World.cell? at this ⊢
  rw [e]
  exact this
end
end Go.Proofs.YtbmnifnahbehbaaGreatDoor

/- strings.HasPrefix, strings.HasSuffix, asm.wordByte; the number's form. -/
set_option linter.unusedVariables false
set_option linter.unusedSimpArgs false
namespace Go.Proofs.YtbmnifnahbehbaaGreatDoor
open Go.RowKit Go.Lib Go.Proofs.YtbmnifnahbehbaaGreatDoorW.PrintWords Go.Proofs.YtbmnifnahbehbaaGreatDoorW.PrintMore Go.Proofs.YtbmnifnahbehbaaGreatDoorW.PrintLast
open AvP
def hpB (s p : ByteArray) : Bool := decide (p.size ≤ s.size) && decide (s.extract 0 p.size = p)
def hsB (s p : ByteArray) : Bool := decide (p.size ≤ s.size) && decide (s.extract (s.size - p.size) s.size = p)
set_option maxHeartbeats 2000000 in
theorem hp1_c (s p : ByteArray) (w : World) (hs : s.size ≤ 1000000) (hp : p.size ≤ 1000000) : Calls Tryz.prog 41 #[.string s, .string p] w fun e w' => e = .returned (.bool (hpB s p)) ∧ w' = w := by
  unfold hpB
  by_cases h : p.size ≤ s.size
  · have h0 : decide (p.size ≤ s.size) = true := decide_eq_true h
    rw [h0, Bool.true_and]
    have E : ((s.extract 0 p.size).toList == p.toList) = decide (s.extract 0 p.size = p) := beq_dec _ _
    have q1 : (0 : Int) ≤ (p.size : Int) := by omega
    cases hb : decide (s.extract 0 p.size = p)
    all_goals
      rw [hb] at E
      clear hb h0
      go_enter Tryz.func41, Tryz.ntmps41
      go_wp2
      go_ret
      exact ⟨rfl, rfl⟩
  · have h0 : decide (p.size ≤ s.size) = false := decide_eq_false h
    rw [h0, Bool.false_and]
    have q1 : (s.size : Int) < (p.size : Int) := by omega
    clear h0
    go_enter Tryz.func41, Tryz.ntmps41
    go_wp2
    go_ret
    exact ⟨rfl, rfl⟩
theorem hp_c (s p : ByteArray) (w : World) (hs : s.size ≤ 1000000) (hp : p.size ≤ 1000000) : Calls Tryz.prog 22 #[.string s, .string p] w fun e w' => e = .returned (.bool (hpB s p)) ∧ w' = w := by
  have h := hp1_c s p w hs hp
  go_enter Tryz.func22, Tryz.ntmps22
  go_wp2_with (go_at_call 41; refine h.mono ?_; rintro e w' ⟨rfl, rfl⟩)
  go_ret
  exact ⟨rfl, rfl⟩
set_option maxHeartbeats 2000000 in
theorem hs1_c (s p : ByteArray) (w : World) (hs : s.size ≤ 1000000) (hp : p.size ≤ 1000000) : Calls Tryz.prog 59 #[.string s, .string p] w fun e w' => e = .returned (.bool (hsB s p)) ∧ w' = w := by
  unfold hsB
  by_cases h : p.size ≤ s.size
  · have h0 : decide (p.size ≤ s.size) = true := decide_eq_true h
    rw [h0, Bool.true_and]
    obtain ⟨d, hd⟩ : ∃ d, s.size - p.size = d := ⟨_, rfl⟩
    rw [hd]
    have E : ((s.extract d s.size).toList == p.toList) = decide (s.extract d s.size = p) := beq_dec _ _
    have w1 : IntKind.i64.wrap ((s.size : Int) - (p.size : Int)) = (d : Int) := by rw [IntKind.wrap_i64]; omega
    have q1 : d ≤ s.size := by omega
    cases hb : decide (s.extract d s.size = p)
    all_goals
      rw [hb] at E
      clear hb h0 hd
      go_enter Tryz.func59, Tryz.ntmps59
      go_wp2
      go_ret
      exact ⟨rfl, rfl⟩
  · have h0 : decide (p.size ≤ s.size) = false := decide_eq_false h
    rw [h0, Bool.false_and]
    have q1 : (s.size : Int) < (p.size : Int) := by omega
    clear h0
    go_enter Tryz.func59, Tryz.ntmps59
    go_wp2
    go_ret
    exact ⟨rfl, rfl⟩
theorem hs_c (s p : ByteArray) (w : World) (hs : s.size ≤ 1000000) (hp : p.size ≤ 1000000) : Calls Tryz.prog 37 #[.string s, .string p] w fun e w' => e = .returned (.bool (hsB s p)) ∧ w' = w := by
  have h := hs1_c s p w hs hp
  go_enter Tryz.func37, Tryz.ntmps37
  go_wp2_with (go_at_call 59; refine h.mono ?_; rintro e w' ⟨rfl, rfl⟩)
  go_ret
  exact ⟨rfl, rfl⟩
def wordN (m : Nat) : Bool := decide (48 ≤ m ∧ m ≤ 57) || decide (97 ≤ m ∧ m ≤ 122) || decide (65 ≤ m ∧ m ≤ 90)
theorem wordB_N (c : UInt8) : wordB c = wordN c.toNat := rfl
set_option maxHeartbeats 2000000 in
theorem wb_c (m : Nat) (w : World) : Calls Tryz.prog 36 #[.int .u8 (m : Int)] w fun e w' => e = .returned (.bool (wordN m)) ∧ w' = w := by
  have hc : ((m < 48) ∨ (57 < m ∧ m < 65) ∨ (90 < m ∧ m < 97) ∨ 122 < m) ∨ (48 ≤ m ∧ m ≤ 57) ∨ (65 ≤ m ∧ m ≤ 90) ∨ (97 ≤ m ∧ m ≤ 122) := by omega
  rcases hc with hc | hc
  · have hb : wordN m = false := by unfold wordN; simp only [Bool.or_eq_false_iff, decide_eq_false_iff_not]; omega
    rw [hb]
    clear hb
    rcases hc with h | ⟨h, k⟩ | ⟨h, k⟩ | h
    all_goals
      try have z57 : decide ((m : Int) ≤ 57) = false := by (rw [decide_eq_false_iff_not]; omega)
      try have y57 : decide ((m : Int) ≤ 57) = true := by (rw [decide_eq_true_iff]; omega)
      try have z90 : decide ((m : Int) ≤ 90) = false := by (rw [decide_eq_false_iff_not]; omega)
      try have y90 : decide ((m : Int) ≤ 90) = true := by (rw [decide_eq_true_iff]; omega)
      try have z122 : decide ((m : Int) ≤ 122) = false := by (rw [decide_eq_false_iff_not]; omega)
      try have y122 : decide ((m : Int) ≤ 122) = true := by (rw [decide_eq_true_iff]; omega)
      go_enter Tryz.func36, Tryz.ntmps36
      go_wp2
      go_ret
      exact ⟨rfl, rfl⟩
  · have hb : wordN m = true := by unfold wordN; simp only [Bool.or_eq_true, decide_eq_true_iff]; omega
    rw [hb]
    clear hb
    rcases hc with ⟨h, k⟩ | ⟨h, k⟩ | ⟨h, k⟩
    all_goals
      try have z57 : decide ((m : Int) ≤ 57) = false := by (rw [decide_eq_false_iff_not]; omega)
      try have y57 : decide ((m : Int) ≤ 57) = true := by (rw [decide_eq_true_iff]; omega)
      try have z90 : decide ((m : Int) ≤ 90) = false := by (rw [decide_eq_false_iff_not]; omega)
      try have y90 : decide ((m : Int) ≤ 90) = true := by (rw [decide_eq_true_iff]; omega)
      try have z122 : decide ((m : Int) ≤ 122) = false := by (rw [decide_eq_false_iff_not]; omega)
      try have y122 : decide ((m : Int) ≤ 122) = true := by (rw [decide_eq_true_iff]; omega)
      go_enter Tryz.func36, Tryz.ntmps36
      go_wp2
      go_ret
      exact ⟨rfl, rfl⟩
/-- How many bytes of a word there are. -/
def wl (l : List UInt8) : Nat := (l.takeWhile wordB).length
theorem wl_cons_t (c : UInt8) (l : List UInt8) (h : wordB c = true) : wl (c :: l) = wl l + 1 := by unfold wl; rw [List.takeWhile_cons_of_pos h]; rfl
theorem wl_cons_f (c : UInt8) (l : List UInt8) (h : wordB c = false) : wl (c :: l) = 0 := by unfold wl; rw [List.takeWhile_cons_of_neg (by rw [h]; decide)]; rfl
theorem wl_nil : wl [] = 0 := rfl
theorem wl_le (l : List UInt8) : wl l ≤ l.length := by unfold wl; exact (List.takeWhile_sublist _).length_le
theorem wl_all (l : List UInt8) : (l.take (wl l)).all wordB = true := by
  induction l with
  | nil => rfl
  | cons c l ih =>
    cases h : wordB c with
    | true => rw [wl_cons_t c l h, List.take_succ_cons, List.all_cons, h, ih]; rfl
    | false => rw [wl_cons_f c l h]; rfl
/-- A number's form: its kind, its digits, their base; whether it is in plain digits. -/
def numF (t : ByteArray) : Int × ByteArray × Nat × Bool :=
  if hpB t ⟨#[48, 120]⟩ = true then (1, t.extract 2 t.size, 16, false)
  else if hpB t ⟨#[48, 98]⟩ = true ∧ 2 < t.size then (1, t.extract 2 t.size, 2, false)
  else if hsB t ⟨#[98]⟩ = true then (2, t.extract 0 (t.size - 1), 10, false)
  else if hsB t ⟨#[102]⟩ = true then (3, t.extract 0 (t.size - 1), 10, false)
  else (1, t, 10, true)
/-- The number at i: the token, or its fault. -/
def numS (s : ByteArray) (i : Nat) : Except (Int × Int) Tok :=
  let n := wl (s.data.toList.drop i)
  let t := s.extract i (i + n)
  let F := numF t
  let V := valS F.2.1.data.toList F.2.2.1
  if V.2 ≠ 0 then .error ((i : Int), V.2) else .ok ⟨F.1, (i : Int), ((i + n : Nat) : Int), t, V.1, F.2.2.2⟩
end Go.Proofs.YtbmnifnahbehbaaGreatDoor

/- The document's digit, letter, hex, reads. -/
set_option linter.unusedVariables false
set_option linter.unusedSimpArgs false
namespace Go.Proofs.YtbmnifnahbehbaaGreatDoor
open Go.RowKit Go.Lib Go.Proofs.YtbmnifnahbehbaaGreatDoorW.PrintWords Go.Proofs.YtbmnifnahbehbaaGreatDoorW.PrintMore Go.Proofs.YtbmnifnahbehbaaGreatDoorW.PrintLast
open AvP
def digN (m : Nat) : Bool := decide (48 ≤ m ∧ m ≤ 57)
def letN (m : Nat) : Bool := decide (97 ≤ m ∧ m ≤ 122) || decide (65 ≤ m ∧ m ≤ 90)
theorem wordN_or (m : Nat) : wordN m = (digN m || letN m) := by unfold wordN digN letN; rw [Bool.or_assoc]
theorem dig_c (m : Nat) (w : World) : Calls Tryz.prog 46 #[.int .u8 (m : Int)] w fun e w' => e = .returned (.bool (digN m)) ∧ w' = w := by
  have hc : (m < 48 ∨ 57 < m) ∨ (48 ≤ m ∧ m ≤ 57) := by omega
  rcases hc with hc | ⟨h, k⟩
  · have hb : digN m = false := by unfold digN; rw [decide_eq_false_iff_not]; omega
    rw [hb]
    clear hb
    rcases hc with h | h
    all_goals
      try have z57 : decide ((m : Int) ≤ 57) = false := by (rw [decide_eq_false_iff_not]; omega)
      go_enter Tryz.func46, Tryz.ntmps46
      go_wp2
      go_ret
      exact ⟨rfl, rfl⟩
  · have hb : digN m = true := by unfold digN; rw [decide_eq_true_iff]; omega
    rw [hb]
    have y57 : decide ((m : Int) ≤ 57) = true := by (rw [decide_eq_true_iff]; omega)
    go_enter Tryz.func46, Tryz.ntmps46
    go_wp2
    go_ret
    exact ⟨rfl, rfl⟩
theorem let_c (m : Nat) (w : World) : Calls Tryz.prog 65 #[.int .u8 (m : Int)] w fun e w' => e = .returned (.bool (letN m)) ∧ w' = w := by
  have hc : (m < 65 ∨ (90 < m ∧ m < 97) ∨ 122 < m) ∨ (65 ≤ m ∧ m ≤ 90) ∨ (97 ≤ m ∧ m ≤ 122) := by omega
  rcases hc with hc | hc
  · have hb : letN m = false := by unfold letN; simp only [Bool.or_eq_false_iff, decide_eq_false_iff_not]; omega
    rw [hb]
    clear hb
    rcases hc with h | ⟨h, k⟩ | h
    all_goals
      try have z90 : decide ((m : Int) ≤ 90) = false := by (rw [decide_eq_false_iff_not]; omega)
      try have z122 : decide ((m : Int) ≤ 122) = false := by (rw [decide_eq_false_iff_not]; omega)
      go_enter Tryz.func65, Tryz.ntmps65
      go_wp2
      go_ret
      exact ⟨rfl, rfl⟩
  · have hb : letN m = true := by unfold letN; simp only [Bool.or_eq_true, decide_eq_true_iff]; omega
    rw [hb]
    clear hb
    rcases hc with ⟨h, k⟩ | ⟨h, k⟩
    all_goals
      try have z90 : decide ((m : Int) ≤ 90) = false := by (rw [decide_eq_false_iff_not]; omega)
      try have y90 : decide ((m : Int) ≤ 90) = true := by (rw [decide_eq_true_iff]; omega)
      try have y122 : decide ((m : Int) ≤ 122) = true := by (rw [decide_eq_true_iff]; omega)
      go_enter Tryz.func65, Tryz.ntmps65
      go_wp2
      go_ret
      exact ⟨rfl, rfl⟩
/-- The document's hex digit. -/
def hxI (m : Nat) : Int := if 48 ≤ m ∧ m ≤ 57 then (m : Int) - 48 else if 97 ≤ m ∧ m ≤ 102 then (m : Int) - 87 else if 65 ≤ m ∧ m ≤ 70 then (m : Int) - 55 else -1
theorem hxI_r : ∀ m : Nat, m < 256 → -1 ≤ hxI m ∧ hxI m < 16 ∧ (0 ≤ hxI m → (hexV (UInt8.ofNat m) : Int) = hxI m) ∧ (hxI m < 0 → hexV (UInt8.ofNat m) = 99) ∧ (wordN m = true → (dI m = hxI m)) := by decide +kernel
theorem hex_c (m : Nat) (hm : m < 256) (w : World) : Calls Tryz.prog 74 #[.int .u8 (m : Int)] w fun e w' => e = .returned (.int .i64 (hxI m)) ∧ w' = w := by
  have hd := fun w' => dig_c m w'
  have hc : (48 ≤ m ∧ m ≤ 57) ∨ (97 ≤ m ∧ m ≤ 102) ∨ (65 ≤ m ∧ m ≤ 70) ∨ (m < 48 ∨ (57 < m ∧ m < 65) ∨ (70 < m ∧ m < 97) ∨ 102 < m) := by omega
  rcases hc with ⟨h, k⟩ | ⟨h, k⟩ | ⟨h, k⟩ | hc
  · have hb : digN m = true := by unfold digN; rw [decide_eq_true_iff]; omega
    have hv : hxI m = (m : Int) - 48 := by unfold hxI; rw [if_pos ⟨h, k⟩]
    have w8 : IntKind.u8.wrap ((m : Int) - 48) = (m : Int) - 48 := by rw [IntKind.wrap_u8]; omega
    rw [hb] at hd
    rw [hv]
    have HD := Lib.hid hd
    clear hb hv hd
    go_enter Tryz.func74, Tryz.ntmps74
    go_wp2_with (first | (go_at_call 46; refine (HD.out _).mono ?_; rintro e w' ⟨rfl, rfl⟩))
    go_ret
    exact ⟨by first | rfl | (congr 2; omega), rfl⟩
  · have hb : digN m = false := by unfold digN; rw [decide_eq_false_iff_not]; omega
    have hv : hxI m = (m : Int) - 87 := by unfold hxI; rw [if_neg (by omega), if_pos ⟨h, k⟩]
    have w8 : IntKind.u8.wrap ((m : Int) - 97) = (m : Int) - 97 := by rw [IntKind.wrap_u8]; omega
    have w9 : IntKind.i64.wrap ((m : Int) - 97 + 10) = (m : Int) - 87 := by rw [IntKind.wrap_i64]; omega
    have y102 : decide ((m : Int) ≤ 102) = true := by (rw [decide_eq_true_iff]; omega)
    rw [hb] at hd
    rw [hv]
    have HD := Lib.hid hd
    clear hb hv hd
    go_enter Tryz.func74, Tryz.ntmps74
    go_wp2_with (first | (go_at_call 46; refine (HD.out _).mono ?_; rintro e w' ⟨rfl, rfl⟩))
    go_ret
    exact ⟨by first | rfl | (congr 2; omega), rfl⟩
  · have hb : digN m = false := by unfold digN; rw [decide_eq_false_iff_not]; omega
    have hv : hxI m = (m : Int) - 55 := by unfold hxI; rw [if_neg (by omega), if_neg (by omega), if_pos ⟨h, k⟩]
    have w8 : IntKind.u8.wrap ((m : Int) - 65) = (m : Int) - 65 := by rw [IntKind.wrap_u8]; omega
    have w9 : IntKind.i64.wrap ((m : Int) - 65 + 10) = (m : Int) - 55 := by rw [IntKind.wrap_i64]; omega
    have y70 : decide ((m : Int) ≤ 70) = true := by (rw [decide_eq_true_iff]; omega)
    rw [hb] at hd
    rw [hv]
    have HD := Lib.hid hd
    clear hb hv hd
    go_enter Tryz.func74, Tryz.ntmps74
    go_wp2_with (first | (go_at_call 46; refine (HD.out _).mono ?_; rintro e w' ⟨rfl, rfl⟩))
    go_ret
    exact ⟨by first | rfl | (congr 2; omega), rfl⟩
  · have hb : digN m = false := by unfold digN; rw [decide_eq_false_iff_not]; omega
    have hv : hxI m = -1 := by unfold hxI; rw [if_neg (by omega), if_neg (by omega), if_neg (by omega)]
    rw [hb] at hd
    rw [hv]
    have HD := Lib.hid hd
    clear hb hv hd
    rcases hc with h | ⟨h, k⟩ | ⟨h, k⟩ | h
    all_goals
      try have z102 : decide ((m : Int) ≤ 102) = false := by (rw [decide_eq_false_iff_not]; omega)
      try have z70 : decide ((m : Int) ≤ 70) = false := by (rw [decide_eq_false_iff_not]; omega)
      go_enter Tryz.func74, Tryz.ntmps74
      go_wp2_with (first | (go_at_call 46; refine (HD.out _).mono ?_; rintro e w' ⟨rfl, rfl⟩))
      go_ret
      exact ⟨rfl, rfl⟩
end Go.Proofs.YtbmnifnahbehbaaGreatDoor
