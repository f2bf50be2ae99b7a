-- BY PROGRAM of this session (the kit's printer, turned by wip/tools/patch_print.py). Lean checks it.
import Derived.Test.YtbnlifldnjgpmaaGreatDoorCGr1
import Derived.Test.YtbnlifldnjgpmaaGreatDoorCWrix1
import Derived.Test.YtbnlifldnjgpmaaGreatDoorCWrix2
import Derived.Test.YtbnlifldnjgpmaaGreatDoorCWrix3
import Derived.Test.YtbnlifldnjgpmaaGreatDoorCWrix4
import Derived.Test.YtbnlifldnjgpmaaGreatDoorCWrix6
import Derived.Test.YtbnlifldnjgpmaaGreatDoorCWrix7
import Derived.Test.YtbnlifldnjgpmaaGreatDoorCWrix8
namespace Go.Proofs.YtbnlifldnjgpmaaGreatDoor.PWri
open Go.RowKit Go.Proofs.YtbnlifldnjgpmaaGreatDoorW.PrintWords Go.Proofs.YtbnlifldnjgpmaaGreatDoorW.PrintLast Go.Proofs.YtbnlifldnjgpmaaGreatDoorW.PrintMore
attribute [local go_sem] max2_int min2_int max_two min_two max_three min_three max_four min_four   -- for this text's walks alone
set_option linter.unusedVariables false
set_option linter.unusedSimpArgs false
attribute [local go_sem high] eqA82
def anvilref02_Read.f (k : Nat) (l0 : List Int) : Option (Int × (List (S55)) × (List (S82)) × Int × Int × Int) := if (l0.length : Int) > 200000 then ((anvilref02_told.f 200000 3).bind fun bt242 => (some (0, ([] : List (S55)), ([] : List (S82)), bt242.1, bt242.2.1, bt242.2.2))) else ((anvilref02_head.f k l0).bind fun bt245 => (if bt245.2 = 0 then ((anvilref02_program.f k l0).bind fun bt251 => (if bt251.2.2 = 0 then ((anvilref02_names.f k l0).bind fun bt259 => (if bt259.2.2 = 0 then ((anvilref02_value.f k l0 24 8).bind fun t264 => ((anvilref02_rising.f k bt251.1).bind fun t265 => ((anvilref02_sorted.f k bt259.1).bind fun t268 => (some (t264, t265, t268, 0, 0, 0))))) else ((anvilref02_told.f bt259.2.1 bt259.2.2).bind fun bt271 => (some (0, ([] : List (S55)), ([] : List (S82)), bt271.1, bt271.2.1, bt271.2.2))))) else ((anvilref02_told.f bt251.2.1 bt251.2.2).bind fun bt256 => (some (0, ([] : List (S55)), ([] : List (S82)), bt256.1, bt256.2.1, bt256.2.2))))) else ((anvilref02_told.f bt245.1 bt245.2).bind fun bt248 => (some (0, ([] : List (S55)), ([] : List (S82)), bt248.1, bt248.2.1, bt248.2.2)))))
theorem anvilref02_Read.mono : ∀ a0 k, LeO (anvilref02_Read.f k a0) (anvilref02_Read.f (k + 1) a0) := by
 intro a0 k
 unfold anvilref02_Read.f
 repeat' first
  | (with_reducible exact anvilref02_head.mono _ _)
  | (with_reducible exact anvilref02_names.mono _ _)
  | (with_reducible exact anvilref02_program.mono _ _)
  | (with_reducible exact anvilref02_rising.mono _ _)
  | (with_reducible exact anvilref02_sorted.mono _ _)
  | (with_reducible exact anvilref02_value.mono _ _ _ _)
  | (with_reducible exact LeO.refl _)
  | (with_reducible exact LeO.none _)
  | (with_reducible refine LeO.ite ?_ ?_)
  | (with_reducible refine LeO.bind ?_ (fun _ => ?_))
  | exact anvilref02_head.mono _ _
  | exact anvilref02_names.mono _ _
  | exact anvilref02_program.mono _ _
  | exact anvilref02_rising.mono _ _
  | exact anvilref02_sorted.mono _ _
  | exact anvilref02_value.mono _ _ _ _
  | exact LeO.none _
  | refine LeO.ite ?_ ?_
  | refine LeO.bind ?_ (fun _ => ?_)
set_option maxHeartbeats 8000000 in
set_option maxRecDepth 100000 in
theorem anvilref02_Read.calls (k : Nat) (A0 : Option Addr) (c0 : Nat) (l0 : List Int) (r1 : Int) (r2 : List (S55)) (r3 : List (S82)) (r4 : Int) (r5 : Int) (r6 : Int) (w : World) (hr0 : Kd.C (Kd.int .u8) w A0 l0.length l0) (hc0 : l0.length ≤ c0) (hG : Glob w) (h : anvilref02_Read.f k l0 = some (r1, r2, r3, r4, r5, r6)) :
 Calls Tryz.prog 12 #[.slice A0 l0.length c0] w fun e w' => ∃ v1_ v2_ : Value, e = .returned (.tuple #[.agg #[.int .u64 r1, v1_, v2_], .agg #[.int .i64 r4, .int .i64 r5, .int .i64 r6]]) ∧ Kd.N k55 55 w' w.heap.size (fun k_ => (w.heap.size ≤ k_) ∧ some k_ ≠ (v2_ : Value).ownBlock) v1_ r2 ∧ Kd.R k82 82 w' w.heap.size (fun k_ => (w.heap.size ≤ k_)) v2_ r3 ∧ Below w.heap.size w w' := by
 have hu28 := Tryz.underlying28
 have hu35 := Tryz.underlying35
 have hu66 := Tryz.underlying66
 have HR0 := Asd.mk hr0
 have HC0 := Asd.mk hc0
 clear hr0 hc0
 have HG := Asd.mk hG
 clear hG
 have HB := Asd.mk (Below.refl w.heap.size w)
 have H : (if (l0.length : Int) > 200000 then ((anvilref02_told.f 200000 3).bind fun bt242 => (some (0, ([] : List (S55)), ([] : List (S82)), bt242.1, bt242.2.1, bt242.2.2))) else ((anvilref02_head.f k l0).bind fun bt245 => (if bt245.2 = 0 then ((anvilref02_program.f k l0).bind fun bt251 => (if bt251.2.2 = 0 then ((anvilref02_names.f k l0).bind fun bt259 => (if bt259.2.2 = 0 then ((anvilref02_value.f k l0 24 8).bind fun t264 => ((anvilref02_rising.f k bt251.1).bind fun t265 => ((anvilref02_sorted.f k bt259.1).bind fun t268 => (some (t264, t265, t268, 0, 0, 0))))) else ((anvilref02_told.f bt259.2.1 bt259.2.2).bind fun bt271 => (some (0, ([] : List (S55)), ([] : List (S82)), bt271.1, bt271.2.1, bt271.2.2))))) else ((anvilref02_told.f bt251.2.1 bt251.2.2).bind fun bt256 => (some (0, ([] : List (S55)), ([] : List (S82)), bt256.1, bt256.2.1, bt256.2.2))))) else ((anvilref02_told.f bt245.1 bt245.2).bind fun bt248 => (some (0, ([] : List (S55)), ([] : List (S82)), bt248.1, bt248.2.1, bt248.2.2)))))) = some (r1, r2, r3, r4, r5, r6) := h
 clear h
 by_cases c2 : (l0.length : Int) > 200000
 ·rw [if_pos c2] at H
  have c2b0 : decide (200000 < (l0.length : Int)) = true := decide_eq_true c2
  have c2b1 : decide (200000 < l0.length) = true := decide_eq_true (by omega)
  clear c2
  replace H := Option.bind_eq_some_iff.mp H
  obtain ⟨⟨t242, t243, t244⟩, A30, H⟩ := H
  have A3 := Asd.mk A30
  clear A30
  simp only [Option.some.injEq, Prod.mk.injEq] at H
  obtain ⟨rfl, rfl, rfl, rfl, rfl, rfl⟩ := H
  go_enter Tryz.func12, Tryz.ntmps12
  go_wp2_with (first | ((with_reducible refine gDs (N := 2) rfl ?_); refine bEv ?hg (N := 2) ?hd (cs := #[.int .u64 0, .slice none 0 0, .slice none 0 0]) (t := 28) ?hr ?_; (case hd => rfl); (case hg => rfl); (case hr => first | (go_simp; done) | (go_simp; rfl)); intro gb240 hg w4 hbox hb; have n0_ := Asd.mk (bSt (bX HB.out) hb); have n1_ := Asd.mk (hbox); have n2_ := Asd.mk (zX hg (bX HB.out) : w.heap.size ≤ gb240); have n3_ := Asd.mk (zX hg (bX HB.out) : w.heap.size ≤ gb240); clear HB; have HB := n0_; have BK240 := n1_; have GW240 := n2_; have GE240 := n3_; clear n0_ n1_ n2_ n3_; clear hb hbox hg) | ((with_reducible refine gDs (N := 3) rfl ?_); refine bEv ?hg (N := 3) ?hd (cs := #[.int .i64 0, .int .i64 0, .int .i64 0]) (t := 35) ?hr ?_; (case hd => rfl); (case hg => rfl); (case hr => first | (go_simp; done) | (go_simp; rfl)); intro gb241 hg w5 hbox hb; have n0_ := Asd.mk (kBe (g := gb240) (o := .cells #[.int .u64 0, .slice none 0 0, .slice none 0 0] 28 (0, 0)) (kX BK240.out) hb); have n1_ := Asd.mk (bSt (bX HB.out) hb); have n2_ := Asd.mk (hbox); have n3_ := Asd.mk (zX hg (bX HB.out) : w.heap.size ≤ gb241); have n4_ := Asd.mk (zX hg (bX HB.out) : w.heap.size ≤ gb241); have n5_ := Asd.mk ((by rw [hg]; exact Nat.ne_of_lt (blk_lt (g := gb240) (o := .cells #[.int .u64 0, .slice none 0 0, .slice none 0 0] 28 (0, 0)) (kX BK240.out)) : gb240 ≠ gb241)); have n6_ := Asd.mk ((by rw [hg]; exact Nat.ne_of_gt (blk_lt (g := gb240) (o := .cells #[.int .u64 0, .slice none 0 0, .slice none 0 0] 28 (0, 0)) (kX BK240.out)) : gb241 ≠ gb240)); clear BK240; clear HB; have BK240 := n0_; have HB := n1_; have BK241 := n2_; have GW241 := n3_; have GE241 := n4_; have NB240_241 := n5_; have NB241_240 := n6_; clear n0_ n1_ n2_ n3_ n4_ n5_ n6_; clear hb hbox hg) | ((with_reducible refine gate_callee (f := 30) rfl ?_); refine goesL_ (some 12) rfl rfl Tryz.func30 (by kernel_rfl) rfl #[.agg #[.int .i64 200000, .int .i64 3]] rfl gX ?_; (with_reducible refine (anvilref02_told.calls 200000 3 t242 t243 t244 _ A3.out).mono ?_); rintro e w6 ⟨rfl, hb⟩; refine ⟨_, rfl, ?_⟩; have n0_ := Asd.mk (kBe (g := gb240) (o := .cells #[.int .u64 0, .slice none 0 0, .slice none 0 0] 28 (0, 0)) (kX BK240.out) hb); have n1_ := Asd.mk (kBe (g := gb241) (o := .cells #[.int .i64 0, .int .i64 0, .int .i64 0] 35 (0, 0)) (kX BK241.out) hb); have n2_ := Asd.mk (bSt (bX HB.out) hb); clear BK240; clear BK241; clear HB; have BK240 := n0_; have BK241 := n1_; have HB := n2_; clear n0_ n1_ n2_; (try clear hb); (try clear hb2); (try clear hk); (try clear hi); have hnb7 := NB240_241.out; have hnc7 := NB241_240.out; have hcz8_0 : w6.cell? ⟨gb240, 0, none⟩ = some (.int .u64 0) := (kCe BK240.out 0).trans rfl; have hcz8_1 : w6.cell? ⟨gb240, 1, none⟩ = some (.slice none 0 0) := (kCe BK240.out 1).trans rfl; have hcz8_2 : w6.cell? ⟨gb240, 2, none⟩ = some (.slice none 0 0) := (kCe BK240.out 2).trans rfl; have hfz8_0 := kFr BK240.out 0; have hfz8_1 := kFr BK240.out 1; have hfz8_2 := kFr BK240.out 2; have hcz9_0 : w6.cell? ⟨gb241, 0, none⟩ = some (.int .i64 0) := (kCe BK241.out 0).trans rfl; have hcz9_1 : w6.cell? ⟨gb241, 1, none⟩ = some (.int .i64 0) := (kCe BK241.out 1).trans rfl; have hcz9_2 : w6.cell? ⟨gb241, 2, none⟩ = some (.int .i64 0) := (kCe BK241.out 2).trans rfl; have hfz9_0 := kFr BK241.out 0; have hfz9_1 := kFr BK241.out 1; have hfz9_2 := kFr BK241.out 2))
  refine bodyPost_ret (results_cc rfl _ _ gb240 gb241 28 35 #[.int .u64 0, .slice none 0 0, .slice none 0 0] #[.int .i64 t242, .int .i64 t243, .int .i64 t244] (0, 0) (0, 0) _ _ rfl (by (with_reducible repeat (first | refine kDn ?_ _ | refine kDr ?_ | refine kAl ?_ _)); refine blk_far ?_ NB240_241.out _; (with_reducible repeat (first | refine kDn ?_ _ | refine kDr ?_ | refine kAl ?_ _)); refine blk_far ?_ NB240_241.out _; (with_reducible repeat (first | refine kDn ?_ _ | refine kDr ?_ | refine kAl ?_ _)); refine blk_far ?_ NB240_241.out _; (with_reducible repeat (first | refine kDn ?_ _ | refine kDr ?_ | refine kAl ?_ _)); refine kPu (cs := #[.int .u64 0, .slice none 0 0, .slice none 0 0]) ?_ 2 _ rfl; (with_reducible repeat (first | refine kDn ?_ _ | refine kDr ?_ | refine kAl ?_ _)); refine kPu (cs := #[.int .u64 0, .slice none 0 0, .slice none 0 0]) ?_ 1 _ rfl; (with_reducible repeat (first | refine kDn ?_ _ | refine kDr ?_ | refine kAl ?_ _)); refine kPu (cs := #[.int .u64 0, .slice none 0 0, .slice none 0 0]) ?_ 0 _ rfl; (with_reducible repeat (first | refine kDn ?_ _ | refine kDr ?_ | refine kAl ?_ _)); exact BK240.out) Tryz.underlying28 rfl (by kernel_rfl) rfl (by (with_reducible repeat (first | refine kDn ?_ _ | refine kDr ?_ | refine kAl ?_ _)); refine kPu (cs := #[.int .i64 t242, .int .i64 t243, .int .i64 0]) ?_ 2 _ rfl; (with_reducible repeat (first | refine kDn ?_ _ | refine kDr ?_ | refine kAl ?_ _)); refine kPu (cs := #[.int .i64 t242, .int .i64 0, .int .i64 0]) ?_ 1 _ rfl; (with_reducible repeat (first | refine kDn ?_ _ | refine kDr ?_ | refine kAl ?_ _)); refine kPu (cs := #[.int .i64 0, .int .i64 0, .int .i64 0]) ?_ 0 _ rfl; (with_reducible repeat (first | refine kDn ?_ _ | refine kDr ?_ | refine kAl ?_ _)); refine blk_far ?_ NB241_240.out _; (with_reducible repeat (first | refine kDn ?_ _ | refine kDr ?_ | refine kAl ?_ _)); refine blk_far ?_ NB241_240.out _; (with_reducible repeat (first | refine kDn ?_ _ | refine kDr ?_ | refine kAl ?_ _)); refine blk_far ?_ NB241_240.out _; (with_reducible repeat (first | refine kDn ?_ _ | refine kDr ?_ | refine kAl ?_ _)); exact BK241.out) Tryz.underlying35 rfl (by kernel_rfl)) rfl ?_
  exact ⟨_, _, rX, by first | exact Kd.S_nil _ _ _ _ _ | exact Kd.N_nil _ _ _ _ _ | exact Kd.V_nil _ _ _ _ _ | exact Kd.Q_nil _ _ _ _ _ | exact Kd.R_nil _ _ _ _ _, by first | exact Kd.R_nil _ _ _ _ _ | exact Kd.N_nil _ _ _ _ _ | exact Kd.V_nil _ _ _ _ _ | exact Kd.Q_nil _ _ _ _ _ | exact Kd.S_nil _ _ _ _ _, bX HB.out⟩
 ·rw [if_neg c2] at H
  have c2b0 : decide (200000 < (l0.length : Int)) = false := decide_eq_false c2
  have c2b1 : decide (200000 < l0.length) = false := decide_eq_false (by omega)
  clear c2
  replace H := Option.bind_eq_some_iff.mp H
  obtain ⟨⟨t245, t246⟩, A100, H⟩ := H
  have A10 := Asd.mk A100
  clear A100
  by_cases c11 : t246 = 0
  ·rw [if_pos c11] at H
   have c11b0 : (t246 == 0) = true := beq_iff_eq.mpr c11
   have c11b1 : (t246 != 0) = false := bne_eq_false_iff_eq.mpr c11
   clear c11
   replace H := Option.bind_eq_some_iff.mp H
   obtain ⟨⟨t251, t254, t255⟩, A120, H⟩ := H
   have A12 := Asd.mk A120
   clear A120
   by_cases c13 : t255 = 0
   ·rw [if_pos c13] at H
    have c13b0 : (t255 == 0) = true := beq_iff_eq.mpr c13
    have c13b1 : (t255 != 0) = false := bne_eq_false_iff_eq.mpr c13
    clear c13
    replace H := Option.bind_eq_some_iff.mp H
    obtain ⟨⟨t259, t262, t263⟩, A140, H⟩ := H
    have A14 := Asd.mk A140
    clear A140
    by_cases c15 : t263 = 0
    ·rw [if_pos c15] at H
     have c15b0 : (t263 == 0) = true := beq_iff_eq.mpr c15
     have c15b1 : (t263 != 0) = false := bne_eq_false_iff_eq.mpr c15
     clear c15
     replace H := Option.bind_eq_some_iff.mp H
     obtain ⟨t264, A160, H⟩ := H
     have A16 := Asd.mk A160
     clear A160
     replace H := Option.bind_eq_some_iff.mp H
     obtain ⟨t265, A170, H⟩ := H
     have A17 := Asd.mk A170
     clear A170
     replace H := Option.bind_eq_some_iff.mp H
     obtain ⟨t268, A180, H⟩ := H
     have A18 := Asd.mk A180
     clear A180
     simp only [Option.some.injEq, Prod.mk.injEq] at H
     obtain ⟨rfl, rfl, rfl, rfl, rfl, rfl⟩ := H
     go_enter Tryz.func12, Tryz.ntmps12
     go_wp2_with (first | ((with_reducible refine gDs (N := 2) rfl ?_); refine bEv ?hg (N := 2) ?hd (cs := #[.int .u64 0, .slice none 0 0, .slice none 0 0]) (t := 28) ?hr ?_; (case hd => rfl); (case hg => rfl); (case hr => first | (go_simp; done) | (go_simp; rfl)); intro gb240 hg w19 hbox hb; have n0_ := Asd.mk (bSt (bX HB.out) hb); have n1_ := Asd.mk (hbox); have n2_ := Asd.mk (zX hg (bX HB.out) : w.heap.size ≤ gb240); have n3_ := Asd.mk (zX hg (bX HB.out) : w.heap.size ≤ gb240); clear HB; have HB := n0_; have BK240 := n1_; have GW240 := n2_; have GE240 := n3_; clear n0_ n1_ n2_ n3_; clear hb hbox hg) | ((with_reducible refine gDs (N := 3) rfl ?_); refine bEv ?hg (N := 3) ?hd (cs := #[.int .i64 0, .int .i64 0, .int .i64 0]) (t := 35) ?hr ?_; (case hd => rfl); (case hg => rfl); (case hr => first | (go_simp; done) | (go_simp; rfl)); intro gb241 hg w20 hbox hb; have n0_ := Asd.mk (kBe (g := gb240) (o := .cells #[.int .u64 0, .slice none 0 0, .slice none 0 0] 28 (0, 0)) (kX BK240.out) hb); have n1_ := Asd.mk (bSt (bX HB.out) hb); have n2_ := Asd.mk (hbox); have n3_ := Asd.mk (zX hg (bX HB.out) : w.heap.size ≤ gb241); have n4_ := Asd.mk (zX hg (bX HB.out) : w.heap.size ≤ gb241); have n5_ := Asd.mk ((by rw [hg]; exact Nat.ne_of_lt (blk_lt (g := gb240) (o := .cells #[.int .u64 0, .slice none 0 0, .slice none 0 0] 28 (0, 0)) (kX BK240.out)) : gb240 ≠ gb241)); have n6_ := Asd.mk ((by rw [hg]; exact Nat.ne_of_gt (blk_lt (g := gb240) (o := .cells #[.int .u64 0, .slice none 0 0, .slice none 0 0] 28 (0, 0)) (kX BK240.out)) : gb241 ≠ gb240)); clear BK240; clear HB; have BK240 := n0_; have HB := n1_; have BK241 := n2_; have GW241 := n3_; have GE241 := n4_; have NB240_241 := n5_; have NB241_240 := n6_; clear n0_ n1_ n2_ n3_ n4_ n5_ n6_; clear hb hbox hg) | ((with_reducible refine gate_callee (f := 31) rfl ?_); refine goesL_ (some 14) rfl rfl Tryz.func31 (by kernel_rfl) rfl #[.slice A0 l0.length c0] rfl gX ?_; (with_reducible refine (anvilref02_head.calls k _ _ l0 t245 t246 _ ?side1 ?side2 A10.out).mono ?_); (case side1 => exact cX HR0.out HB.out); (case side2 => exact HC0.out); rintro e w21 ⟨rfl, hb⟩; refine ⟨_, rfl, ?_⟩; have n0_ := Asd.mk (kBe (g := gb240) (o := .cells #[.int .u64 0, .slice none 0 0, .slice none 0 0] 28 (0, 0)) (kX BK240.out) hb); have n1_ := Asd.mk (kBe (g := gb241) (o := .cells #[.int .i64 0, .int .i64 0, .int .i64 0] 35 (0, 0)) (kX BK241.out) hb); have n2_ := Asd.mk (bSt (bX HB.out) hb); clear BK240; clear BK241; clear HB; have BK240 := n0_; have BK241 := n1_; have HB := n2_; clear n0_ n1_ n2_; (try clear hb); (try clear hb2); (try clear hk); (try clear hi)) | ((with_reducible refine gDs (N := 4) rfl ?_); refine bEv ?hg (N := 4) ?hd (cs := #[.int .i64 0, .int .i64 0]) (t := 66) ?hr ?_; (case hd => rfl); (case hg => rfl); (case hr => first | (go_simp; done) | (go_simp; rfl)); intro gb247 hg w22 hbox hb; have n0_ := Asd.mk (kBe (g := gb240) (o := .cells #[.int .u64 0, .slice none 0 0, .slice none 0 0] 28 (0, 0)) (kX BK240.out) hb); have n1_ := Asd.mk (kBe (g := gb241) (o := .cells #[.int .i64 0, .int .i64 0, .int .i64 0] 35 (0, 0)) (kX BK241.out) hb); have n2_ := Asd.mk (bSt (bX HB.out) hb); have n3_ := Asd.mk (hbox); have n4_ := Asd.mk (zX hg (bX HB.out) : w.heap.size ≤ gb247); have n5_ := Asd.mk (zX hg (bX HB.out) : w.heap.size ≤ gb247); have n6_ := Asd.mk ((by rw [hg]; exact Nat.ne_of_lt (blk_lt (g := gb240) (o := .cells #[.int .u64 0, .slice none 0 0, .slice none 0 0] 28 (0, 0)) (kX BK240.out)) : gb240 ≠ gb247)); have n7_ := Asd.mk ((by rw [hg]; exact Nat.ne_of_gt (blk_lt (g := gb240) (o := .cells #[.int .u64 0, .slice none 0 0, .slice none 0 0] 28 (0, 0)) (kX BK240.out)) : gb247 ≠ gb240)); have n8_ := Asd.mk ((by rw [hg]; exact Nat.ne_of_lt (blk_lt (g := gb241) (o := .cells #[.int .i64 0, .int .i64 0, .int .i64 0] 35 (0, 0)) (kX BK241.out)) : gb241 ≠ gb247)); have n9_ := Asd.mk ((by rw [hg]; exact Nat.ne_of_gt (blk_lt (g := gb241) (o := .cells #[.int .i64 0, .int .i64 0, .int .i64 0] 35 (0, 0)) (kX BK241.out)) : gb247 ≠ gb241)); clear BK240; clear BK241; clear HB; have BK240 := n0_; have BK241 := n1_; have HB := n2_; have BK247 := n3_; have GW247 := n4_; have GE247 := n5_; have NB240_247 := n6_; have NB247_240 := n7_; have NB241_247 := n8_; have NB247_241 := n9_; clear n0_ n1_ n2_ n3_ n4_ n5_ n6_ n7_ n8_ n9_; clear hb hbox hg; have hnb23 := NB247_240.out; have hnc23 := NB240_247.out; have hnb24 := NB247_241.out; have hnc24 := NB241_247.out; have hcz25_0 : w22.cell? ⟨gb247, 0, none⟩ = some (.int .i64 0) := (kCe BK247.out 0).trans rfl; have hcz25_1 : w22.cell? ⟨gb247, 1, none⟩ = some (.int .i64 0) := (kCe BK247.out 1).trans rfl; have hfz25_0 := kFr BK247.out 0; have hfz25_1 := kFr BK247.out 1) | ((with_reducible refine gate_callee (f := 32) rfl ?_); refine goesL_ (some 23) rfl rfl Tryz.func32 (by kernel_rfl) rfl #[.slice A0 l0.length c0] rfl gX ?_; (with_reducible refine (anvilref02_program.calls k _ _ l0 t251 t254 t255 _ ?side1 ?side2 A12.out).mono ?_); (case side1 => exact Kd.C_below HR0.out (bX HB.out)); (case side2 => exact HC0.out); rintro e w26 ⟨v252, rfl, ho0, hb⟩; refine ⟨_, rfl, ?_⟩; have n0_ := Asd.mk (Kd.N_lower (Kd.N_mono (ok' := fun k_ => (w.heap.size ≤ k_) ∧ k_ ≠ gb240 ∧ k_ ≠ gb241 ∧ k_ ≠ gb247) (Kd.S_N (Kd.S_bound ho0)) (fun k_ hk_ => ⟨(Nat.le_trans (bSz (bX HB.out)) hk_.2.1), (Kd.freshB (g := gb240) (o := .cells #[.int .u64 0, .slice none 0 0, .slice none 0 0] 28 (0, 0)) (fX BK240.out) k_ hk_.2.1), (Kd.freshB (g := gb241) (o := .cells #[.int .i64 0, .int .i64 0, .int .i64 0] 35 (0, 0)) (fX BK241.out) k_ hk_.2.1), (Kd.freshB (g := gb247) (o := .cells #[.int .i64 t245, .int .i64 t246] 66 (0, 0)) (by (with_reducible repeat (first | refine kDn ?_ _ | refine kDr ?_ | refine kAl ?_ _)); refine kPu (cs := #[.int .i64 t245, .int .i64 0]) ?_ 1 _ rfl; (with_reducible repeat (first | refine kDn ?_ _ | refine kDr ?_ | refine kAl ?_ _)); refine kPu (cs := #[.int .i64 0, .int .i64 0]) ?_ 0 _ rfl; (with_reducible repeat (first | refine kDn ?_ _ | refine kDr ?_ | refine kAl ?_ _)); exact BK247.out) k_ hk_.2.1)⟩)) (bSz (bX HB.out))); have n1_ := Asd.mk (kBe (g := gb240) (o := .cells #[.int .u64 0, .slice none 0 0, .slice none 0 0] 28 (0, 0)) (fX BK240.out) hb); have n2_ := Asd.mk (kBe (g := gb241) (o := .cells #[.int .i64 0, .int .i64 0, .int .i64 0] 35 (0, 0)) (fX BK241.out) hb); have n3_ := Asd.mk (kBe (g := gb247) (o := .cells #[.int .i64 t245, .int .i64 t246] 66 (0, 0)) (by (with_reducible repeat (first | refine kDn ?_ _ | refine kDr ?_ | refine kAl ?_ _)); refine kPu (cs := #[.int .i64 t245, .int .i64 0]) ?_ 1 _ rfl; (with_reducible repeat (first | refine kDn ?_ _ | refine kDr ?_ | refine kAl ?_ _)); refine kPu (cs := #[.int .i64 0, .int .i64 0]) ?_ 0 _ rfl; (with_reducible repeat (first | refine kDn ?_ _ | refine kDr ?_ | refine kAl ?_ _)); exact BK247.out) hb); have n4_ := Asd.mk (bSt (bX HB.out) hb); clear BK240; clear BK241; clear BK247; clear HB; have HO253 := n0_; have BK240 := n1_; have BK241 := n2_; have BK247 := n3_; have HB := n4_; clear n0_ n1_ n2_ n3_ n4_; (try clear hb); (try clear hb2); (try clear hk); (try clear hi); (try clear ho0); have hcz27_0 : w26.cell? ⟨gb247, 0, none⟩ = some (.int .i64 t245) := (kCe BK247.out 0).trans rfl; have hcz27_1 : w26.cell? ⟨gb247, 1, none⟩ = some (.int .i64 t246) := (kCe BK247.out 1).trans rfl; have hfz27_0 := kFr BK247.out 0; have hfz27_1 := kFr BK247.out 1) | ((with_reducible refine gate_callee (f := 33) rfl ?_); refine goesL_ (some 34) rfl rfl Tryz.func33 (by kernel_rfl) rfl #[.slice A0 l0.length c0] rfl gX ?_; (with_reducible refine (anvilref02_names.calls k _ _ l0 t259 t262 t263 _ ?side1 ?side2 ?side3 A14.out).mono ?_); (case side1 => exact Kd.C_below HR0.out (bX HB.out)); (case side2 => exact HC0.out); (case side3 => first | exact HG.out | exact Glob.step HG.out HB.out | (refine Glob.step HG.out ?_; (repeat (first | exact Below.refl _ _ | apply bDn | apply bD1)); done) | exact Glob.step HG.out (bX HB.out)); rintro e w28 ⟨v260, rfl, ho0, hb⟩; refine ⟨_, rfl, ?_⟩; have n0_ := Asd.mk (Kd.N_elder' (by (with_reducible repeat (first | apply Kd.N_alloc | apply Kd.N_drewN | apply Kd.N_drew)); exact (Kd.N_mono (Kd.N_far (p := ⟨gb247, 1, none⟩) (Kd.N_far (p := ⟨gb247, 0, none⟩) (Kd.N_mono HO253.out (fun k_ hk => (⟨hk, hk.2.2.2⟩ : _ ∧ k_ ≠ gb247))) (fun _ hk => hk.2) (.int .i64 t254)) (fun _ hk => hk.2) (.int .i64 t255)) (fun _ h_ => h_.1))) (Kd.R_base ho0) hb); have n1_ := Asd.mk (Kd.R_lower (Kd.R_newM (M := fun k_ => (w.heap.size ≤ k_)) ho0 (bSz (bX HB.out)) (fun k_ h_ => h_)) (bSz (bX HB.out))); have n2_ := Asd.mk (kBe (g := gb240) (o := .cells #[.int .u64 0, .slice none 0 0, .slice none 0 0] 28 (0, 0)) (fX BK240.out) hb); have n3_ := Asd.mk (kBe (g := gb241) (o := .cells #[.int .i64 0, .int .i64 0, .int .i64 0] 35 (0, 0)) (fX BK241.out) hb); have n4_ := Asd.mk (kBe (g := gb247) (o := .cells #[.int .i64 t254, .int .i64 t255] 66 (0, 0)) (by (with_reducible repeat (first | refine kDn ?_ _ | refine kDr ?_ | refine kAl ?_ _)); refine kPu (cs := #[.int .i64 t254, .int .i64 t246]) ?_ 1 _ rfl; (with_reducible repeat (first | refine kDn ?_ _ | refine kDr ?_ | refine kAl ?_ _)); refine kPu (cs := #[.int .i64 t245, .int .i64 t246]) ?_ 0 _ rfl; (with_reducible repeat (first | refine kDn ?_ _ | refine kDr ?_ | refine kAl ?_ _)); exact BK247.out) hb); have n5_ := Asd.mk (bSt (bX HB.out) hb); clear HO253; clear BK240; clear BK241; clear BK247; clear HB; have HO253 := n0_; have HO261 := n1_; have BK240 := n2_; have BK241 := n3_; have BK247 := n4_; have HB := n5_; clear n0_ n1_ n2_ n3_ n4_ n5_; (try clear hb); (try clear hb2); (try clear hk); (try clear hi); (try clear ho0); have hcz29_0 : w28.cell? ⟨gb247, 0, none⟩ = some (.int .i64 t254) := (kCe BK247.out 0).trans rfl; have hcz29_1 : w28.cell? ⟨gb247, 1, none⟩ = some (.int .i64 t255) := (kCe BK247.out 1).trans rfl; have hfz29_0 := kFr BK247.out 0; have hfz29_1 := kFr BK247.out 1) | ((with_reducible refine gate_store (t := 66) (p := 4) rfl ?_); refine store_event (t := 66) (p := 4) (v := ?vo_w30) (w1 := ((w28.setCell ⟨gb247, 0, none⟩ (.int .i64 t262)).setCell ⟨gb247, 1, none⟩ (.int .i64 t263))) ?hg ?ho ?hn ?hr ?_; (case ho => rfl); (case hg => rfl); (case hn => rfl); (case hr => first | (go_simp; done) | (go_simp; rfl)); intro w30 hw; have n0_ : Asd (Kd.N k55 55 w30 w.heap.size (fun k_ => (w.heap.size ≤ k_) ∧ some k_ ≠ (v260 : Value).ownBlock ∧ k_ ≠ gb240 ∧ k_ ≠ gb241 ∧ k_ ≠ gb247) v252 t251) := ⟨(by rw [hw]; exact (by (with_reducible repeat (first | apply Kd.N_alloc | apply Kd.N_drewN | apply Kd.N_drew)); exact Kd.N_mono (Kd.N_far (p := ⟨gb247, 1, none⟩) (Kd.N_far (p := ⟨gb247, 0, none⟩) (Kd.N_mono HO253.out (fun k_ hk => (⟨hk, hk.1.2.2.2⟩ : _ ∧ k_ ≠ gb247))) (fun _ hk => hk.2) (.int .i64 t262)) (fun _ hk => hk.2) (.int .i64 t263)) (fun _ hk => ⟨hk.1.1.1, ⟨hk.1.2, ⟨hk.1.1.2.1, ⟨hk.1.1.2.2.1, hk.1.1.2.2.2⟩⟩⟩⟩)))⟩; have n1_ : Asd (Kd.R k82 82 w30 w.heap.size (fun k_ => (w.heap.size ≤ k_)) v260 t259) := ⟨(by rw [hw]; exact (by (with_reducible repeat (first | apply Kd.R_alloc | apply Kd.R_drewN | apply Kd.R_drew)); exact Kd.R_mono (Kd.R_far (p := ⟨gb247, 1, none⟩) (Kd.R_far (p := ⟨gb247, 0, none⟩) (Kd.R_types HO261.out BK247.out (by decide)) (fun _ hk => hk.2) (.int .i64 t262)) (fun _ hk => hk.2) (.int .i64 t263)) (fun _ hk => hk.1.1)))⟩; have n2_ : Asd (w30.heap[gb240]? = some (.cells #[.int .u64 0, .slice none 0 0, .slice none 0 0] 28 (0, 0))) := ⟨(by rw [hw]; exact (fX BK240.out))⟩; have n3_ : Asd (w30.heap[gb241]? = some (.cells #[.int .i64 0, .int .i64 0, .int .i64 0] 35 (0, 0))) := ⟨(by rw [hw]; exact (fX BK241.out))⟩; have n4_ : Asd (w30.heap[gb247]? = some (.cells #[.int .i64 t262, .int .i64 t263] 66 (0, 0))) := ⟨(by rw [hw]; exact (by (with_reducible repeat (first | refine kDn ?_ _ | refine kDr ?_ | refine kAl ?_ _)); refine kPu (cs := #[.int .i64 t262, .int .i64 t255]) ?_ 1 _ rfl; (with_reducible repeat (first | refine kDn ?_ _ | refine kDr ?_ | refine kAl ?_ _)); refine kPu (cs := #[.int .i64 t254, .int .i64 t255]) ?_ 0 _ rfl; (with_reducible repeat (first | refine kDn ?_ _ | refine kDr ?_ | refine kAl ?_ _)); exact BK247.out))⟩; have n5_ : Asd (Below w.heap.size w w30) := ⟨(by rw [hw]; exact (bX HB.out))⟩; clear hw; clear HO253; clear HO261; clear BK240; clear BK241; clear BK247; clear HB; have HO253 := n0_; have HO261 := n1_; have BK240 := n2_; have BK241 := n3_; have BK247 := n4_; have HB := n5_; clear n0_ n1_ n2_ n3_ n4_ n5_; have hcz31_0 : w30.cell? ⟨gb247, 0, none⟩ = some (.int .i64 t262) := (kCe BK247.out 0).trans rfl; have hcz31_1 : w30.cell? ⟨gb247, 1, none⟩ = some (.int .i64 t263) := (kCe BK247.out 1).trans rfl; have hfz31_0 := kFr BK247.out 0; have hfz31_1 := kFr BK247.out 1) | ((with_reducible refine gate_callee (f := 34) rfl ?_); refine goesL_ (some 44) rfl rfl Tryz.func34 (by kernel_rfl) rfl #[.slice A0 l0.length c0, .int .i64 24, .int .i64 8] rfl gX ?_; (with_reducible refine (anvilref02_value.calls k _ _ l0 24 8 t264 _ ?side1 ?side2 A16.out).mono ?_); (case side1 => exact cX HR0.out HB.out); (case side2 => exact HC0.out); rintro e w' ⟨rfl, ⟨nd, rfl⟩⟩; refine ⟨_, rfl, ?_⟩; skip; obtain ⟨Ao32, co32, eo32⟩ := Kd.N_slice HO253.out; subst eo32) | ((with_reducible refine gate_callee (f := 35) rfl ?_); refine goesL_ (some 46) rfl rfl Tryz.func35 (by kernel_rfl) rfl #[.slice Ao32 t251.length co32] rfl gX ?_; (with_reducible refine (anvilref02_rising.calls k (fun k_ => ((w.heap.size ≤ k_) ∧ (some k_ ≠ (v260 : Value).ownBlock ∧ (k_ ≠ gb240 ∧ (k_ ≠ gb241 ∧ k_ ≠ gb247))))) _ _ t251 t265 _ ?side1 A17.out).mono ?_); (case side1 => exact Kd.N_V (HO253.out)); rintro e w33 ⟨v266, rfl, ho0, hb⟩; refine ⟨_, rfl, ?_⟩; have n0_ := Asd.mk (Kd.N_elder' (kNX HO253.out) (Kd.N_base ho0) hb); have n1_ := Asd.mk (Kd.R_below (kRX HO261.out) hb); have n2_ := Asd.mk (Kd.N_lower (Kd.N_mono (ok' := fun k_ => (w.heap.size ≤ k_) ∧ some k_ ≠ (v260 : Value).ownBlock ∧ k_ ≠ gb240 ∧ k_ ≠ gb241 ∧ k_ ≠ gb247) ho0 (fun k_ hk_ => ⟨Or.elim hk_ (fun hs_ => hs_.1) (fun hn_ => (Nat.le_trans (bSz (bX HB.out)) hn_)), Or.elim hk_ (fun hs_ => hs_.2.1) (fun hn_ => (Kd.fresh' (Kd.R_lt (kRX HO261.out)) k_ hn_)), Or.elim hk_ (fun hs_ => hs_.2.2.1) (fun hn_ => (Kd.freshB (g := gb240) (o := .cells #[.int .u64 0, .slice none 0 0, .slice none 0 0] 28 (0, 0)) (kX BK240.out) k_ hn_)), Or.elim hk_ (fun hs_ => hs_.2.2.2.1) (fun hn_ => (Kd.freshB (g := gb241) (o := .cells #[.int .i64 0, .int .i64 0, .int .i64 0] 35 (0, 0)) (kX BK241.out) k_ hn_)), Or.elim hk_ (fun hs_ => hs_.2.2.2.2) (fun hn_ => (Kd.freshB (g := gb247) (o := .cells #[.int .i64 t262, .int .i64 t263] 66 (0, 0)) (kX BK247.out) k_ hn_))⟩)) (bSz (bX HB.out))); have n3_ := Asd.mk (kBe (g := gb240) (o := .cells #[.int .u64 0, .slice none 0 0, .slice none 0 0] 28 (0, 0)) (kX BK240.out) hb); have n4_ := Asd.mk (kBe (g := gb241) (o := .cells #[.int .i64 0, .int .i64 0, .int .i64 0] 35 (0, 0)) (kX BK241.out) hb); have n5_ := Asd.mk (kBe (g := gb247) (o := .cells #[.int .i64 t262, .int .i64 t263] 66 (0, 0)) (kX BK247.out) hb); have n6_ := Asd.mk (bSt (bX HB.out) hb); clear HO253; clear HO261; clear BK240; clear BK241; clear BK247; clear HB; have HO253 := n0_; have HO261 := n1_; have HO267 := n2_; have BK240 := n3_; have BK241 := n4_; have BK247 := n5_; have HB := n6_; clear n0_ n1_ n2_ n3_ n4_ n5_ n6_; (try clear hb); (try clear hb2); (try clear hk); (try clear hi); (try clear ho0); obtain ⟨Ao34, co34, eo34⟩ := Kd.R_slice HO261.out; subst eo34) | ((with_reducible refine gate_callee (f := 36) rfl ?_); refine goesL_ (some 48) rfl rfl Tryz.func36 (by kernel_rfl) rfl #[.slice Ao34 t259.length co34] rfl gX ?_; (with_reducible refine (anvilref02_sorted.calls k _ _ t259 t268 _ ?side1 ?side2 A18.out).mono ?_); (case side1 => repeat (first | exact (Kd.R_reads' HO261.out).2.2 | (with_reducible refine Kd.C_alloc ?_ _) | (with_reducible refine Kd.C_drewN ?_ _) | (with_reducible refine Kd.C_drew ?_))); (case side2 => exact (Kd.R_reads' HO261.out).2.1); rintro e w35 ⟨v269, rfl, ho0, hb⟩; refine ⟨_, rfl, ?_⟩; have n0_ := Asd.mk (Kd.N_elder' (kNX HO253.out) (Kd.R_base ho0) hb); have n1_ := Asd.mk (Kd.R_elder' (kRX HO261.out) (Kd.R_base ho0) hb); have n2_ := Asd.mk (Kd.N_elder' (kNX HO267.out) (Kd.R_base ho0) hb); have n3_ := Asd.mk (Kd.R_lower (Kd.R_new' (Kd.R_newM (M := fun k_ => (w.heap.size ≤ k_)) ho0 (bSz (bX HB.out)) (fun k_ h_ => h_)) (Kd.R_lt (kRX HO261.out))) (bSz (bX HB.out))); have n4_ := Asd.mk (kBe (g := gb240) (o := .cells #[.int .u64 0, .slice none 0 0, .slice none 0 0] 28 (0, 0)) (kX BK240.out) hb); have n5_ := Asd.mk (kBe (g := gb241) (o := .cells #[.int .i64 0, .int .i64 0, .int .i64 0] 35 (0, 0)) (kX BK241.out) hb); have n6_ := Asd.mk (kBe (g := gb247) (o := .cells #[.int .i64 t262, .int .i64 t263] 66 (0, 0)) (kX BK247.out) hb); have n7_ := Asd.mk (bSt (bX HB.out) hb); clear HO253; clear HO261; clear HO267; clear BK240; clear BK241; clear BK247; clear HB; have HO253 := n0_; have HO261 := n1_; have HO267 := n2_; have HO270 := n3_; have BK240 := n4_; have BK241 := n5_; have BK247 := n6_; have HB := n7_; clear n0_ n1_ n2_ n3_ n4_ n5_ n6_ n7_; (try clear hb); (try clear hb2); (try clear hk); (try clear hi); (try clear ho0); obtain ⟨Ao36, co36, eo36⟩ := Kd.R_slice HO270.out; subst eo36; obtain ⟨Ao37, co37, eo37⟩ := Kd.N_slice HO267.out; subst eo37; have hnb38 := NB240_241.out; have hnc38 := NB241_240.out; have hcz39_0 : w35.cell? ⟨gb240, 0, none⟩ = some (.int .u64 0) := (kCe BK240.out 0).trans rfl; have hcz39_1 : w35.cell? ⟨gb240, 1, none⟩ = some (.slice none 0 0) := (kCe BK240.out 1).trans rfl; have hcz39_2 : w35.cell? ⟨gb240, 2, none⟩ = some (.slice none 0 0) := (kCe BK240.out 2).trans rfl; have hfz39_0 := kFr BK240.out 0; have hfz39_1 := kFr BK240.out 1; have hfz39_2 := kFr BK240.out 2; have hcz40_0 : w35.cell? ⟨gb241, 0, none⟩ = some (.int .i64 0) := (kCe BK241.out 0).trans rfl; have hcz40_1 : w35.cell? ⟨gb241, 1, none⟩ = some (.int .i64 0) := (kCe BK241.out 1).trans rfl; have hcz40_2 : w35.cell? ⟨gb241, 2, none⟩ = some (.int .i64 0) := (kCe BK241.out 2).trans rfl; have hfz40_0 := kFr BK241.out 0; have hfz40_1 := kFr BK241.out 1; have hfz40_2 := kFr BK241.out 2))
     refine bodyPost_ret (results_cc rfl _ _ gb240 gb241 28 35 #[.int .u64 t264, .slice Ao37 t265.length co37, .slice Ao36 t268.length co36] #[.int .i64 0, .int .i64 0, .int .i64 0] (0, 0) (0, 0) _ _ rfl (by (with_reducible repeat (first | refine kDn ?_ _ | refine kDr ?_ | refine kAl ?_ _)); refine blk_far ?_ NB240_241.out _; (with_reducible repeat (first | refine kDn ?_ _ | refine kDr ?_ | refine kAl ?_ _)); refine blk_far ?_ NB240_241.out _; (with_reducible repeat (first | refine kDn ?_ _ | refine kDr ?_ | refine kAl ?_ _)); refine blk_far ?_ NB240_241.out _; (with_reducible repeat (first | refine kDn ?_ _ | refine kDr ?_ | refine kAl ?_ _)); refine kPu (cs := #[.int .u64 t264, .slice Ao37 t265.length co37, .slice none 0 0]) ?_ 2 _ rfl; (with_reducible repeat (first | refine kDn ?_ _ | refine kDr ?_ | refine kAl ?_ _)); refine kPu (cs := #[.int .u64 t264, .slice none 0 0, .slice none 0 0]) ?_ 1 _ rfl; (with_reducible repeat (first | refine kDn ?_ _ | refine kDr ?_ | refine kAl ?_ _)); refine kPu (cs := #[.int .u64 0, .slice none 0 0, .slice none 0 0]) ?_ 0 _ rfl; (with_reducible repeat (first | refine kDn ?_ _ | refine kDr ?_ | refine kAl ?_ _)); exact BK240.out) Tryz.underlying28 rfl (by kernel_rfl) rfl (by (with_reducible repeat (first | refine kDn ?_ _ | refine kDr ?_ | refine kAl ?_ _)); refine kPu (cs := #[.int .i64 0, .int .i64 0, .int .i64 0]) ?_ 2 _ rfl; (with_reducible repeat (first | refine kDn ?_ _ | refine kDr ?_ | refine kAl ?_ _)); refine kPu (cs := #[.int .i64 0, .int .i64 0, .int .i64 0]) ?_ 1 _ rfl; (with_reducible repeat (first | refine kDn ?_ _ | refine kDr ?_ | refine kAl ?_ _)); refine kPu (cs := #[.int .i64 0, .int .i64 0, .int .i64 0]) ?_ 0 _ rfl; (with_reducible repeat (first | refine kDn ?_ _ | refine kDr ?_ | refine kAl ?_ _)); refine blk_far ?_ NB241_240.out _; (with_reducible repeat (first | refine kDn ?_ _ | refine kDr ?_ | refine kAl ?_ _)); refine blk_far ?_ NB241_240.out _; (with_reducible repeat (first | refine kDn ?_ _ | refine kDr ?_ | refine kAl ?_ _)); refine blk_far ?_ NB241_240.out _; (with_reducible repeat (first | refine kDn ?_ _ | refine kDr ?_ | refine kAl ?_ _)); exact BK241.out) Tryz.underlying35 rfl (by kernel_rfl)) rfl ?_
     exact ⟨_, _, rX, by (with_reducible repeat (first | apply Kd.N_alloc | apply Kd.N_drewN | apply Kd.N_drew)); exact Kd.N_mono (Kd.N_far (p := ⟨gb241, 2, none⟩) (Kd.N_far (p := ⟨gb241, 1, none⟩) (Kd.N_far (p := ⟨gb241, 0, none⟩) (Kd.N_far (p := ⟨gb240, 2, none⟩) (Kd.N_far (p := ⟨gb240, 1, none⟩) (Kd.N_far (p := ⟨gb240, 0, none⟩) (Kd.N_mono (Kd.N_mono HO267.out (fun k_ hk => (⟨hk, hk.1.2.2.1⟩ : _ ∧ k_ ≠ gb240))) (fun k_ hk => (⟨hk, hk.1.1.2.2.2.1⟩ : _ ∧ k_ ≠ gb241))) (fun _ hk => hk.1.2) (.int .u64 t264)) (fun _ hk => hk.1.2) (.slice Ao37 t265.length co37)) (fun _ hk => hk.1.2) (.slice Ao36 t268.length co36)) (fun _ hk => hk.2) (.int .i64 0)) (fun _ hk => hk.2) (.int .i64 0)) (fun _ hk => hk.2) (.int .i64 0)) (fun _ hk => ⟨hk.1.1.1.1, hk.1.1.2⟩), by (with_reducible repeat (first | apply Kd.R_alloc | apply Kd.R_drewN | apply Kd.R_drew)); exact Kd.R_mono (Kd.R_far (p := ⟨gb241, 2, none⟩) (Kd.R_far (p := ⟨gb241, 1, none⟩) (Kd.R_far (p := ⟨gb241, 0, none⟩) (Kd.R_far (p := ⟨gb240, 2, none⟩) (Kd.R_far (p := ⟨gb240, 1, none⟩) (Kd.R_far (p := ⟨gb240, 0, none⟩) (Kd.R_types (Kd.R_types HO270.out BK240.out (by decide)) BK241.out (by decide)) (fun _ hk => hk.1.2) (.int .u64 t264)) (fun _ hk => hk.1.2) (.slice Ao37 t265.length co37)) (fun _ hk => hk.1.2) (.slice Ao36 t268.length co36)) (fun _ hk => hk.2) (.int .i64 0)) (fun _ hk => hk.2) (.int .i64 0)) (fun _ hk => hk.2) (.int .i64 0)) (fun _ hk => hk.1.1.1.1), bX HB.out⟩
    ·rw [if_neg c15] at H
     have c15b0 : (t263 == 0) = false := beq_eq_false_iff_ne.mpr c15
     have c15b1 : (t263 != 0) = true := bne_iff_ne.mpr c15
     replace H := Option.bind_eq_some_iff.mp H
     obtain ⟨⟨t271, t272, t273⟩, A410, H⟩ := H
     have A41 := Asd.mk A410
     clear A410
     simp only [Option.some.injEq, Prod.mk.injEq] at H
     obtain ⟨rfl, rfl, rfl, rfl, rfl, rfl⟩ := H
     go_enter Tryz.func12, Tryz.ntmps12
     go_wp2_with (first | ((with_reducible refine gDs (N := 2) rfl ?_); refine bEv ?hg (N := 2) ?hd (cs := #[.int .u64 0, .slice none 0 0, .slice none 0 0]) (t := 28) ?hr ?_; (case hd => rfl); (case hg => rfl); (case hr => first | (go_simp; done) | (go_simp; rfl)); intro gb240 hg w42 hbox hb; have n0_ := Asd.mk (bSt (bX HB.out) hb); have n1_ := Asd.mk (hbox); have n2_ := Asd.mk (zX hg (bX HB.out) : w.heap.size ≤ gb240); have n3_ := Asd.mk (zX hg (bX HB.out) : w.heap.size ≤ gb240); clear HB; have HB := n0_; have BK240 := n1_; have GW240 := n2_; have GE240 := n3_; clear n0_ n1_ n2_ n3_; clear hb hbox hg) | ((with_reducible refine gDs (N := 3) rfl ?_); refine bEv ?hg (N := 3) ?hd (cs := #[.int .i64 0, .int .i64 0, .int .i64 0]) (t := 35) ?hr ?_; (case hd => rfl); (case hg => rfl); (case hr => first | (go_simp; done) | (go_simp; rfl)); intro gb241 hg w43 hbox hb; have n0_ := Asd.mk (kBe (g := gb240) (o := .cells #[.int .u64 0, .slice none 0 0, .slice none 0 0] 28 (0, 0)) (kX BK240.out) hb); have n1_ := Asd.mk (bSt (bX HB.out) hb); have n2_ := Asd.mk (hbox); have n3_ := Asd.mk (zX hg (bX HB.out) : w.heap.size ≤ gb241); have n4_ := Asd.mk (zX hg (bX HB.out) : w.heap.size ≤ gb241); have n5_ := Asd.mk ((by rw [hg]; exact Nat.ne_of_lt (blk_lt (g := gb240) (o := .cells #[.int .u64 0, .slice none 0 0, .slice none 0 0] 28 (0, 0)) (kX BK240.out)) : gb240 ≠ gb241)); have n6_ := Asd.mk ((by rw [hg]; exact Nat.ne_of_gt (blk_lt (g := gb240) (o := .cells #[.int .u64 0, .slice none 0 0, .slice none 0 0] 28 (0, 0)) (kX BK240.out)) : gb241 ≠ gb240)); clear BK240; clear HB; have BK240 := n0_; have HB := n1_; have BK241 := n2_; have GW241 := n3_; have GE241 := n4_; have NB240_241 := n5_; have NB241_240 := n6_; clear n0_ n1_ n2_ n3_ n4_ n5_ n6_; clear hb hbox hg) | ((with_reducible refine gate_callee (f := 31) rfl ?_); refine goesL_ (some 14) rfl rfl Tryz.func31 (by kernel_rfl) rfl #[.slice A0 l0.length c0] rfl gX ?_; (with_reducible refine (anvilref02_head.calls k _ _ l0 t245 t246 _ ?side1 ?side2 A10.out).mono ?_); (case side1 => exact cX HR0.out HB.out); (case side2 => exact HC0.out); rintro e w44 ⟨rfl, hb⟩; refine ⟨_, rfl, ?_⟩; have n0_ := Asd.mk (kBe (g := gb240) (o := .cells #[.int .u64 0, .slice none 0 0, .slice none 0 0] 28 (0, 0)) (kX BK240.out) hb); have n1_ := Asd.mk (kBe (g := gb241) (o := .cells #[.int .i64 0, .int .i64 0, .int .i64 0] 35 (0, 0)) (kX BK241.out) hb); have n2_ := Asd.mk (bSt (bX HB.out) hb); clear BK240; clear BK241; clear HB; have BK240 := n0_; have BK241 := n1_; have HB := n2_; clear n0_ n1_ n2_; (try clear hb); (try clear hb2); (try clear hk); (try clear hi)) | ((with_reducible refine gDs (N := 4) rfl ?_); refine bEv ?hg (N := 4) ?hd (cs := #[.int .i64 0, .int .i64 0]) (t := 66) ?hr ?_; (case hd => rfl); (case hg => rfl); (case hr => first | (go_simp; done) | (go_simp; rfl)); intro gb247 hg w45 hbox hb; have n0_ := Asd.mk (kBe (g := gb240) (o := .cells #[.int .u64 0, .slice none 0 0, .slice none 0 0] 28 (0, 0)) (kX BK240.out) hb); have n1_ := Asd.mk (kBe (g := gb241) (o := .cells #[.int .i64 0, .int .i64 0, .int .i64 0] 35 (0, 0)) (kX BK241.out) hb); have n2_ := Asd.mk (bSt (bX HB.out) hb); have n3_ := Asd.mk (hbox); have n4_ := Asd.mk (zX hg (bX HB.out) : w.heap.size ≤ gb247); have n5_ := Asd.mk (zX hg (bX HB.out) : w.heap.size ≤ gb247); have n6_ := Asd.mk ((by rw [hg]; exact Nat.ne_of_lt (blk_lt (g := gb240) (o := .cells #[.int .u64 0, .slice none 0 0, .slice none 0 0] 28 (0, 0)) (kX BK240.out)) : gb240 ≠ gb247)); have n7_ := Asd.mk ((by rw [hg]; exact Nat.ne_of_gt (blk_lt (g := gb240) (o := .cells #[.int .u64 0, .slice none 0 0, .slice none 0 0] 28 (0, 0)) (kX BK240.out)) : gb247 ≠ gb240)); have n8_ := Asd.mk ((by rw [hg]; exact Nat.ne_of_lt (blk_lt (g := gb241) (o := .cells #[.int .i64 0, .int .i64 0, .int .i64 0] 35 (0, 0)) (kX BK241.out)) : gb241 ≠ gb247)); have n9_ := Asd.mk ((by rw [hg]; exact Nat.ne_of_gt (blk_lt (g := gb241) (o := .cells #[.int .i64 0, .int .i64 0, .int .i64 0] 35 (0, 0)) (kX BK241.out)) : gb247 ≠ gb241)); clear BK240; clear BK241; clear HB; have BK240 := n0_; have BK241 := n1_; have HB := n2_; have BK247 := n3_; have GW247 := n4_; have GE247 := n5_; have NB240_247 := n6_; have NB247_240 := n7_; have NB241_247 := n8_; have NB247_241 := n9_; clear n0_ n1_ n2_ n3_ n4_ n5_ n6_ n7_ n8_ n9_; clear hb hbox hg; have hnb46 := NB247_240.out; have hnc46 := NB240_247.out; have hnb47 := NB247_241.out; have hnc47 := NB241_247.out; have hcz48_0 : w45.cell? ⟨gb247, 0, none⟩ = some (.int .i64 0) := (kCe BK247.out 0).trans rfl; have hcz48_1 : w45.cell? ⟨gb247, 1, none⟩ = some (.int .i64 0) := (kCe BK247.out 1).trans rfl; have hfz48_0 := kFr BK247.out 0; have hfz48_1 := kFr BK247.out 1) | ((with_reducible refine gate_callee (f := 32) rfl ?_); refine goesL_ (some 23) rfl rfl Tryz.func32 (by kernel_rfl) rfl #[.slice A0 l0.length c0] rfl gX ?_; (with_reducible refine (anvilref02_program.calls k _ _ l0 t251 t254 t255 _ ?side1 ?side2 A12.out).mono ?_); (case side1 => exact Kd.C_below HR0.out (bX HB.out)); (case side2 => exact HC0.out); rintro e w49 ⟨v252, rfl, ho0, hb⟩; refine ⟨_, rfl, ?_⟩; have n0_ := Asd.mk (Kd.N_lower (Kd.N_mono (ok' := fun k_ => (w.heap.size ≤ k_) ∧ k_ ≠ gb240 ∧ k_ ≠ gb241 ∧ k_ ≠ gb247) (Kd.S_N (Kd.S_bound ho0)) (fun k_ hk_ => ⟨(Nat.le_trans (bSz (bX HB.out)) hk_.2.1), (Kd.freshB (g := gb240) (o := .cells #[.int .u64 0, .slice none 0 0, .slice none 0 0] 28 (0, 0)) (fX BK240.out) k_ hk_.2.1), (Kd.freshB (g := gb241) (o := .cells #[.int .i64 0, .int .i64 0, .int .i64 0] 35 (0, 0)) (fX BK241.out) k_ hk_.2.1), (Kd.freshB (g := gb247) (o := .cells #[.int .i64 t245, .int .i64 t246] 66 (0, 0)) (by (with_reducible repeat (first | refine kDn ?_ _ | refine kDr ?_ | refine kAl ?_ _)); refine kPu (cs := #[.int .i64 t245, .int .i64 0]) ?_ 1 _ rfl; (with_reducible repeat (first | refine kDn ?_ _ | refine kDr ?_ | refine kAl ?_ _)); refine kPu (cs := #[.int .i64 0, .int .i64 0]) ?_ 0 _ rfl; (with_reducible repeat (first | refine kDn ?_ _ | refine kDr ?_ | refine kAl ?_ _)); exact BK247.out) k_ hk_.2.1)⟩)) (bSz (bX HB.out))); have n1_ := Asd.mk (kBe (g := gb240) (o := .cells #[.int .u64 0, .slice none 0 0, .slice none 0 0] 28 (0, 0)) (fX BK240.out) hb); have n2_ := Asd.mk (kBe (g := gb241) (o := .cells #[.int .i64 0, .int .i64 0, .int .i64 0] 35 (0, 0)) (fX BK241.out) hb); have n3_ := Asd.mk (kBe (g := gb247) (o := .cells #[.int .i64 t245, .int .i64 t246] 66 (0, 0)) (by (with_reducible repeat (first | refine kDn ?_ _ | refine kDr ?_ | refine kAl ?_ _)); refine kPu (cs := #[.int .i64 t245, .int .i64 0]) ?_ 1 _ rfl; (with_reducible repeat (first | refine kDn ?_ _ | refine kDr ?_ | refine kAl ?_ _)); refine kPu (cs := #[.int .i64 0, .int .i64 0]) ?_ 0 _ rfl; (with_reducible repeat (first | refine kDn ?_ _ | refine kDr ?_ | refine kAl ?_ _)); exact BK247.out) hb); have n4_ := Asd.mk (bSt (bX HB.out) hb); clear BK240; clear BK241; clear BK247; clear HB; have HO253 := n0_; have BK240 := n1_; have BK241 := n2_; have BK247 := n3_; have HB := n4_; clear n0_ n1_ n2_ n3_ n4_; (try clear hb); (try clear hb2); (try clear hk); (try clear hi); (try clear ho0); have hcz50_0 : w49.cell? ⟨gb247, 0, none⟩ = some (.int .i64 t245) := (kCe BK247.out 0).trans rfl; have hcz50_1 : w49.cell? ⟨gb247, 1, none⟩ = some (.int .i64 t246) := (kCe BK247.out 1).trans rfl; have hfz50_0 := kFr BK247.out 0; have hfz50_1 := kFr BK247.out 1) | ((with_reducible refine gate_callee (f := 33) rfl ?_); refine goesL_ (some 34) rfl rfl Tryz.func33 (by kernel_rfl) rfl #[.slice A0 l0.length c0] rfl gX ?_; (with_reducible refine (anvilref02_names.calls k _ _ l0 t259 t262 t263 _ ?side1 ?side2 ?side3 A14.out).mono ?_); (case side1 => exact Kd.C_below HR0.out (bX HB.out)); (case side2 => exact HC0.out); (case side3 => first | exact HG.out | exact Glob.step HG.out HB.out | (refine Glob.step HG.out ?_; (repeat (first | exact Below.refl _ _ | apply bDn | apply bD1)); done) | exact Glob.step HG.out (bX HB.out)); rintro e w51 ⟨v260, rfl, ho0, hb⟩; refine ⟨_, rfl, ?_⟩; have n0_ := Asd.mk (Kd.N_elder' (by (with_reducible repeat (first | apply Kd.N_alloc | apply Kd.N_drewN | apply Kd.N_drew)); exact (Kd.N_mono (Kd.N_far (p := ⟨gb247, 1, none⟩) (Kd.N_far (p := ⟨gb247, 0, none⟩) (Kd.N_mono HO253.out (fun k_ hk => (⟨hk, hk.2.2.2⟩ : _ ∧ k_ ≠ gb247))) (fun _ hk => hk.2) (.int .i64 t254)) (fun _ hk => hk.2) (.int .i64 t255)) (fun _ h_ => h_.1))) (Kd.R_base ho0) hb); have n1_ := Asd.mk (Kd.R_lower (Kd.R_newM (M := fun k_ => (w.heap.size ≤ k_)) ho0 (bSz (bX HB.out)) (fun k_ h_ => h_)) (bSz (bX HB.out))); have n2_ := Asd.mk (kBe (g := gb240) (o := .cells #[.int .u64 0, .slice none 0 0, .slice none 0 0] 28 (0, 0)) (fX BK240.out) hb); have n3_ := Asd.mk (kBe (g := gb241) (o := .cells #[.int .i64 0, .int .i64 0, .int .i64 0] 35 (0, 0)) (fX BK241.out) hb); have n4_ := Asd.mk (kBe (g := gb247) (o := .cells #[.int .i64 t254, .int .i64 t255] 66 (0, 0)) (by (with_reducible repeat (first | refine kDn ?_ _ | refine kDr ?_ | refine kAl ?_ _)); refine kPu (cs := #[.int .i64 t254, .int .i64 t246]) ?_ 1 _ rfl; (with_reducible repeat (first | refine kDn ?_ _ | refine kDr ?_ | refine kAl ?_ _)); refine kPu (cs := #[.int .i64 t245, .int .i64 t246]) ?_ 0 _ rfl; (with_reducible repeat (first | refine kDn ?_ _ | refine kDr ?_ | refine kAl ?_ _)); exact BK247.out) hb); have n5_ := Asd.mk (bSt (bX HB.out) hb); clear HO253; clear BK240; clear BK241; clear BK247; clear HB; have HO253 := n0_; have HO261 := n1_; have BK240 := n2_; have BK241 := n3_; have BK247 := n4_; have HB := n5_; clear n0_ n1_ n2_ n3_ n4_ n5_; (try clear hb); (try clear hb2); (try clear hk); (try clear hi); (try clear ho0); have hcz52_0 : w51.cell? ⟨gb247, 0, none⟩ = some (.int .i64 t254) := (kCe BK247.out 0).trans rfl; have hcz52_1 : w51.cell? ⟨gb247, 1, none⟩ = some (.int .i64 t255) := (kCe BK247.out 1).trans rfl; have hfz52_0 := kFr BK247.out 0; have hfz52_1 := kFr BK247.out 1) | ((with_reducible refine gate_callee (f := 30) rfl ?_); refine goesL_ (some 42) rfl rfl Tryz.func30 (by kernel_rfl) rfl #[.agg #[.int .i64 t262, .int .i64 t263]] rfl gX ?_; (with_reducible refine (anvilref02_told.calls t262 t263 t271 t272 t273 _ A41.out).mono ?_); rintro e w53 ⟨rfl, hb⟩; refine ⟨_, rfl, ?_⟩; have n0_ := Asd.mk (Kd.N_below (by (with_reducible repeat (first | apply Kd.N_alloc | apply Kd.N_drewN | apply Kd.N_drew)); exact (Kd.N_mono (Kd.N_far (p := ⟨gb247, 1, none⟩) (Kd.N_far (p := ⟨gb247, 0, none⟩) (Kd.N_mono HO253.out (fun k_ hk => (⟨hk, hk.1.2.2.2⟩ : _ ∧ k_ ≠ gb247))) (fun _ hk => hk.2) (.int .i64 t262)) (fun _ hk => hk.2) (.int .i64 t263)) (fun _ h_ => h_.1))) hb); have n1_ := Asd.mk (Kd.R_below (by (with_reducible repeat (first | apply Kd.R_alloc | apply Kd.R_drewN | apply Kd.R_drew)); exact (Kd.R_mono (Kd.R_far (p := ⟨gb247, 1, none⟩) (Kd.R_far (p := ⟨gb247, 0, none⟩) (Kd.R_types HO261.out BK247.out (by decide)) (fun _ hk => hk.2) (.int .i64 t262)) (fun _ hk => hk.2) (.int .i64 t263)) (fun _ h_ => h_.1))) hb); have n2_ := Asd.mk (kBe (g := gb240) (o := .cells #[.int .u64 0, .slice none 0 0, .slice none 0 0] 28 (0, 0)) (fX BK240.out) hb); have n3_ := Asd.mk (kBe (g := gb241) (o := .cells #[.int .i64 0, .int .i64 0, .int .i64 0] 35 (0, 0)) (fX BK241.out) hb); have n4_ := Asd.mk (kBe (g := gb247) (o := .cells #[.int .i64 t262, .int .i64 t263] 66 (0, 0)) (by (with_reducible repeat (first | refine kDn ?_ _ | refine kDr ?_ | refine kAl ?_ _)); refine kPu (cs := #[.int .i64 t262, .int .i64 t255]) ?_ 1 _ rfl; (with_reducible repeat (first | refine kDn ?_ _ | refine kDr ?_ | refine kAl ?_ _)); refine kPu (cs := #[.int .i64 t254, .int .i64 t255]) ?_ 0 _ rfl; (with_reducible repeat (first | refine kDn ?_ _ | refine kDr ?_ | refine kAl ?_ _)); exact BK247.out) hb); have n5_ := Asd.mk (bSt (bX HB.out) hb); clear HO253; clear HO261; clear BK240; clear BK241; clear BK247; clear HB; have HO253 := n0_; have HO261 := n1_; have BK240 := n2_; have BK241 := n3_; have BK247 := n4_; have HB := n5_; clear n0_ n1_ n2_ n3_ n4_ n5_; (try clear hb); (try clear hb2); (try clear hk); (try clear hi); have hnb54 := NB240_241.out; have hnc54 := NB241_240.out; have hcz55_0 : w53.cell? ⟨gb240, 0, none⟩ = some (.int .u64 0) := (kCe BK240.out 0).trans rfl; have hcz55_1 : w53.cell? ⟨gb240, 1, none⟩ = some (.slice none 0 0) := (kCe BK240.out 1).trans rfl; have hcz55_2 : w53.cell? ⟨gb240, 2, none⟩ = some (.slice none 0 0) := (kCe BK240.out 2).trans rfl; have hfz55_0 := kFr BK240.out 0; have hfz55_1 := kFr BK240.out 1; have hfz55_2 := kFr BK240.out 2; have hcz56_0 : w53.cell? ⟨gb241, 0, none⟩ = some (.int .i64 0) := (kCe BK241.out 0).trans rfl; have hcz56_1 : w53.cell? ⟨gb241, 1, none⟩ = some (.int .i64 0) := (kCe BK241.out 1).trans rfl; have hcz56_2 : w53.cell? ⟨gb241, 2, none⟩ = some (.int .i64 0) := (kCe BK241.out 2).trans rfl; have hfz56_0 := kFr BK241.out 0; have hfz56_1 := kFr BK241.out 1; have hfz56_2 := kFr BK241.out 2))
     refine bodyPost_ret (results_cc rfl _ _ gb240 gb241 28 35 #[.int .u64 0, .slice none 0 0, .slice none 0 0] #[.int .i64 t271, .int .i64 t272, .int .i64 t273] (0, 0) (0, 0) _ _ rfl (by (with_reducible repeat (first | refine kDn ?_ _ | refine kDr ?_ | refine kAl ?_ _)); refine blk_far ?_ NB240_241.out _; (with_reducible repeat (first | refine kDn ?_ _ | refine kDr ?_ | refine kAl ?_ _)); refine blk_far ?_ NB240_241.out _; (with_reducible repeat (first | refine kDn ?_ _ | refine kDr ?_ | refine kAl ?_ _)); refine blk_far ?_ NB240_241.out _; (with_reducible repeat (first | refine kDn ?_ _ | refine kDr ?_ | refine kAl ?_ _)); refine kPu (cs := #[.int .u64 0, .slice none 0 0, .slice none 0 0]) ?_ 2 _ rfl; (with_reducible repeat (first | refine kDn ?_ _ | refine kDr ?_ | refine kAl ?_ _)); refine kPu (cs := #[.int .u64 0, .slice none 0 0, .slice none 0 0]) ?_ 1 _ rfl; (with_reducible repeat (first | refine kDn ?_ _ | refine kDr ?_ | refine kAl ?_ _)); refine kPu (cs := #[.int .u64 0, .slice none 0 0, .slice none 0 0]) ?_ 0 _ rfl; (with_reducible repeat (first | refine kDn ?_ _ | refine kDr ?_ | refine kAl ?_ _)); exact BK240.out) Tryz.underlying28 rfl (by kernel_rfl) rfl (by (with_reducible repeat (first | refine kDn ?_ _ | refine kDr ?_ | refine kAl ?_ _)); refine kPu (cs := #[.int .i64 t271, .int .i64 t272, .int .i64 0]) ?_ 2 _ rfl; (with_reducible repeat (first | refine kDn ?_ _ | refine kDr ?_ | refine kAl ?_ _)); refine kPu (cs := #[.int .i64 t271, .int .i64 0, .int .i64 0]) ?_ 1 _ rfl; (with_reducible repeat (first | refine kDn ?_ _ | refine kDr ?_ | refine kAl ?_ _)); refine kPu (cs := #[.int .i64 0, .int .i64 0, .int .i64 0]) ?_ 0 _ rfl; (with_reducible repeat (first | refine kDn ?_ _ | refine kDr ?_ | refine kAl ?_ _)); refine blk_far ?_ NB241_240.out _; (with_reducible repeat (first | refine kDn ?_ _ | refine kDr ?_ | refine kAl ?_ _)); refine blk_far ?_ NB241_240.out _; (with_reducible repeat (first | refine kDn ?_ _ | refine kDr ?_ | refine kAl ?_ _)); refine blk_far ?_ NB241_240.out _; (with_reducible repeat (first | refine kDn ?_ _ | refine kDr ?_ | refine kAl ?_ _)); exact BK241.out) Tryz.underlying35 rfl (by kernel_rfl)) rfl ?_
     exact ⟨_, _, rX, by first | exact Kd.S_nil _ _ _ _ _ | exact Kd.N_nil _ _ _ _ _ | exact Kd.V_nil _ _ _ _ _ | exact Kd.Q_nil _ _ _ _ _ | exact Kd.R_nil _ _ _ _ _, by first | exact Kd.R_nil _ _ _ _ _ | exact Kd.N_nil _ _ _ _ _ | exact Kd.V_nil _ _ _ _ _ | exact Kd.Q_nil _ _ _ _ _ | exact Kd.S_nil _ _ _ _ _, bX HB.out⟩
   ·rw [if_neg c13] at H
    have c13b0 : (t255 == 0) = false := beq_eq_false_iff_ne.mpr c13
    have c13b1 : (t255 != 0) = true := bne_iff_ne.mpr c13
    replace H := Option.bind_eq_some_iff.mp H
    obtain ⟨⟨t256, t257, t258⟩, A570, H⟩ := H
    have A57 := Asd.mk A570
    clear A570
    simp only [Option.some.injEq, Prod.mk.injEq] at H
    obtain ⟨rfl, rfl, rfl, rfl, rfl, rfl⟩ := H
    go_enter Tryz.func12, Tryz.ntmps12
    go_wp2_with (first | ((with_reducible refine gDs (N := 2) rfl ?_); refine bEv ?hg (N := 2) ?hd (cs := #[.int .u64 0, .slice none 0 0, .slice none 0 0]) (t := 28) ?hr ?_; (case hd => rfl); (case hg => rfl); (case hr => first | (go_simp; done) | (go_simp; rfl)); intro gb240 hg w58 hbox hb; have n0_ := Asd.mk (bSt (bX HB.out) hb); have n1_ := Asd.mk (hbox); have n2_ := Asd.mk (zX hg (bX HB.out) : w.heap.size ≤ gb240); have n3_ := Asd.mk (zX hg (bX HB.out) : w.heap.size ≤ gb240); clear HB; have HB := n0_; have BK240 := n1_; have GW240 := n2_; have GE240 := n3_; clear n0_ n1_ n2_ n3_; clear hb hbox hg) | ((with_reducible refine gDs (N := 3) rfl ?_); refine bEv ?hg (N := 3) ?hd (cs := #[.int .i64 0, .int .i64 0, .int .i64 0]) (t := 35) ?hr ?_; (case hd => rfl); (case hg => rfl); (case hr => first | (go_simp; done) | (go_simp; rfl)); intro gb241 hg w59 hbox hb; have n0_ := Asd.mk (kBe (g := gb240) (o := .cells #[.int .u64 0, .slice none 0 0, .slice none 0 0] 28 (0, 0)) (kX BK240.out) hb); have n1_ := Asd.mk (bSt (bX HB.out) hb); have n2_ := Asd.mk (hbox); have n3_ := Asd.mk (zX hg (bX HB.out) : w.heap.size ≤ gb241); have n4_ := Asd.mk (zX hg (bX HB.out) : w.heap.size ≤ gb241); have n5_ := Asd.mk ((by rw [hg]; exact Nat.ne_of_lt (blk_lt (g := gb240) (o := .cells #[.int .u64 0, .slice none 0 0, .slice none 0 0] 28 (0, 0)) (kX BK240.out)) : gb240 ≠ gb241)); have n6_ := Asd.mk ((by rw [hg]; exact Nat.ne_of_gt (blk_lt (g := gb240) (o := .cells #[.int .u64 0, .slice none 0 0, .slice none 0 0] 28 (0, 0)) (kX BK240.out)) : gb241 ≠ gb240)); clear BK240; clear HB; have BK240 := n0_; have HB := n1_; have BK241 := n2_; have GW241 := n3_; have GE241 := n4_; have NB240_241 := n5_; have NB241_240 := n6_; clear n0_ n1_ n2_ n3_ n4_ n5_ n6_; clear hb hbox hg) | ((with_reducible refine gate_callee (f := 31) rfl ?_); refine goesL_ (some 14) rfl rfl Tryz.func31 (by kernel_rfl) rfl #[.slice A0 l0.length c0] rfl gX ?_; (with_reducible refine (anvilref02_head.calls k _ _ l0 t245 t246 _ ?side1 ?side2 A10.out).mono ?_); (case side1 => exact cX HR0.out HB.out); (case side2 => exact HC0.out); rintro e w60 ⟨rfl, hb⟩; refine ⟨_, rfl, ?_⟩; have n0_ := Asd.mk (kBe (g := gb240) (o := .cells #[.int .u64 0, .slice none 0 0, .slice none 0 0] 28 (0, 0)) (kX BK240.out) hb); have n1_ := Asd.mk (kBe (g := gb241) (o := .cells #[.int .i64 0, .int .i64 0, .int .i64 0] 35 (0, 0)) (kX BK241.out) hb); have n2_ := Asd.mk (bSt (bX HB.out) hb); clear BK240; clear BK241; clear HB; have BK240 := n0_; have BK241 := n1_; have HB := n2_; clear n0_ n1_ n2_; (try clear hb); (try clear hb2); (try clear hk); (try clear hi)) | ((with_reducible refine gDs (N := 4) rfl ?_); refine bEv ?hg (N := 4) ?hd (cs := #[.int .i64 0, .int .i64 0]) (t := 66) ?hr ?_; (case hd => rfl); (case hg => rfl); (case hr => first | (go_simp; done) | (go_simp; rfl)); intro gb247 hg w61 hbox hb; have n0_ := Asd.mk (kBe (g := gb240) (o := .cells #[.int .u64 0, .slice none 0 0, .slice none 0 0] 28 (0, 0)) (kX BK240.out) hb); have n1_ := Asd.mk (kBe (g := gb241) (o := .cells #[.int .i64 0, .int .i64 0, .int .i64 0] 35 (0, 0)) (kX BK241.out) hb); have n2_ := Asd.mk (bSt (bX HB.out) hb); have n3_ := Asd.mk (hbox); have n4_ := Asd.mk (zX hg (bX HB.out) : w.heap.size ≤ gb247); have n5_ := Asd.mk (zX hg (bX HB.out) : w.heap.size ≤ gb247); have n6_ := Asd.mk ((by rw [hg]; exact Nat.ne_of_lt (blk_lt (g := gb240) (o := .cells #[.int .u64 0, .slice none 0 0, .slice none 0 0] 28 (0, 0)) (kX BK240.out)) : gb240 ≠ gb247)); have n7_ := Asd.mk ((by rw [hg]; exact Nat.ne_of_gt (blk_lt (g := gb240) (o := .cells #[.int .u64 0, .slice none 0 0, .slice none 0 0] 28 (0, 0)) (kX BK240.out)) : gb247 ≠ gb240)); have n8_ := Asd.mk ((by rw [hg]; exact Nat.ne_of_lt (blk_lt (g := gb241) (o := .cells #[.int .i64 0, .int .i64 0, .int .i64 0] 35 (0, 0)) (kX BK241.out)) : gb241 ≠ gb247)); have n9_ := Asd.mk ((by rw [hg]; exact Nat.ne_of_gt (blk_lt (g := gb241) (o := .cells #[.int .i64 0, .int .i64 0, .int .i64 0] 35 (0, 0)) (kX BK241.out)) : gb247 ≠ gb241)); clear BK240; clear BK241; clear HB; have BK240 := n0_; have BK241 := n1_; have HB := n2_; have BK247 := n3_; have GW247 := n4_; have GE247 := n5_; have NB240_247 := n6_; have NB247_240 := n7_; have NB241_247 := n8_; have NB247_241 := n9_; clear n0_ n1_ n2_ n3_ n4_ n5_ n6_ n7_ n8_ n9_; clear hb hbox hg; have hnb62 := NB247_240.out; have hnc62 := NB240_247.out; have hnb63 := NB247_241.out; have hnc63 := NB241_247.out; have hcz64_0 : w61.cell? ⟨gb247, 0, none⟩ = some (.int .i64 0) := (kCe BK247.out 0).trans rfl; have hcz64_1 : w61.cell? ⟨gb247, 1, none⟩ = some (.int .i64 0) := (kCe BK247.out 1).trans rfl; have hfz64_0 := kFr BK247.out 0; have hfz64_1 := kFr BK247.out 1) | ((with_reducible refine gate_callee (f := 32) rfl ?_); refine goesL_ (some 23) rfl rfl Tryz.func32 (by kernel_rfl) rfl #[.slice A0 l0.length c0] rfl gX ?_; (with_reducible refine (anvilref02_program.calls k _ _ l0 t251 t254 t255 _ ?side1 ?side2 A12.out).mono ?_); (case side1 => exact Kd.C_below HR0.out (bX HB.out)); (case side2 => exact HC0.out); rintro e w65 ⟨v252, rfl, ho0, hb⟩; refine ⟨_, rfl, ?_⟩; have n0_ := Asd.mk (Kd.N_lower (Kd.N_mono (ok' := fun k_ => (w.heap.size ≤ k_) ∧ k_ ≠ gb240 ∧ k_ ≠ gb241 ∧ k_ ≠ gb247) (Kd.S_N (Kd.S_bound ho0)) (fun k_ hk_ => ⟨(Nat.le_trans (bSz (bX HB.out)) hk_.2.1), (Kd.freshB (g := gb240) (o := .cells #[.int .u64 0, .slice none 0 0, .slice none 0 0] 28 (0, 0)) (fX BK240.out) k_ hk_.2.1), (Kd.freshB (g := gb241) (o := .cells #[.int .i64 0, .int .i64 0, .int .i64 0] 35 (0, 0)) (fX BK241.out) k_ hk_.2.1), (Kd.freshB (g := gb247) (o := .cells #[.int .i64 t245, .int .i64 t246] 66 (0, 0)) (by (with_reducible repeat (first | refine kDn ?_ _ | refine kDr ?_ | refine kAl ?_ _)); refine kPu (cs := #[.int .i64 t245, .int .i64 0]) ?_ 1 _ rfl; (with_reducible repeat (first | refine kDn ?_ _ | refine kDr ?_ | refine kAl ?_ _)); refine kPu (cs := #[.int .i64 0, .int .i64 0]) ?_ 0 _ rfl; (with_reducible repeat (first | refine kDn ?_ _ | refine kDr ?_ | refine kAl ?_ _)); exact BK247.out) k_ hk_.2.1)⟩)) (bSz (bX HB.out))); have n1_ := Asd.mk (kBe (g := gb240) (o := .cells #[.int .u64 0, .slice none 0 0, .slice none 0 0] 28 (0, 0)) (fX BK240.out) hb); have n2_ := Asd.mk (kBe (g := gb241) (o := .cells #[.int .i64 0, .int .i64 0, .int .i64 0] 35 (0, 0)) (fX BK241.out) hb); have n3_ := Asd.mk (kBe (g := gb247) (o := .cells #[.int .i64 t245, .int .i64 t246] 66 (0, 0)) (by (with_reducible repeat (first | refine kDn ?_ _ | refine kDr ?_ | refine kAl ?_ _)); refine kPu (cs := #[.int .i64 t245, .int .i64 0]) ?_ 1 _ rfl; (with_reducible repeat (first | refine kDn ?_ _ | refine kDr ?_ | refine kAl ?_ _)); refine kPu (cs := #[.int .i64 0, .int .i64 0]) ?_ 0 _ rfl; (with_reducible repeat (first | refine kDn ?_ _ | refine kDr ?_ | refine kAl ?_ _)); exact BK247.out) hb); have n4_ := Asd.mk (bSt (bX HB.out) hb); clear BK240; clear BK241; clear BK247; clear HB; have HO253 := n0_; have BK240 := n1_; have BK241 := n2_; have BK247 := n3_; have HB := n4_; clear n0_ n1_ n2_ n3_ n4_; (try clear hb); (try clear hb2); (try clear hk); (try clear hi); (try clear ho0); have hcz66_0 : w65.cell? ⟨gb247, 0, none⟩ = some (.int .i64 t245) := (kCe BK247.out 0).trans rfl; have hcz66_1 : w65.cell? ⟨gb247, 1, none⟩ = some (.int .i64 t246) := (kCe BK247.out 1).trans rfl; have hfz66_0 := kFr BK247.out 0; have hfz66_1 := kFr BK247.out 1) | ((with_reducible refine gate_callee (f := 30) rfl ?_); refine goesL_ (some 31) rfl rfl Tryz.func30 (by kernel_rfl) rfl #[.agg #[.int .i64 t254, .int .i64 t255]] rfl gX ?_; (with_reducible refine (anvilref02_told.calls t254 t255 t256 t257 t258 _ A57.out).mono ?_); rintro e w67 ⟨rfl, hb⟩; refine ⟨_, rfl, ?_⟩; have n0_ := Asd.mk (Kd.N_below (by (with_reducible repeat (first | apply Kd.N_alloc | apply Kd.N_drewN | apply Kd.N_drew)); exact (Kd.N_mono (Kd.N_far (p := ⟨gb247, 1, none⟩) (Kd.N_far (p := ⟨gb247, 0, none⟩) (Kd.N_mono HO253.out (fun k_ hk => (⟨hk, hk.2.2.2⟩ : _ ∧ k_ ≠ gb247))) (fun _ hk => hk.2) (.int .i64 t254)) (fun _ hk => hk.2) (.int .i64 t255)) (fun _ h_ => h_.1))) hb); have n1_ := Asd.mk (kBe (g := gb240) (o := .cells #[.int .u64 0, .slice none 0 0, .slice none 0 0] 28 (0, 0)) (fX BK240.out) hb); have n2_ := Asd.mk (kBe (g := gb241) (o := .cells #[.int .i64 0, .int .i64 0, .int .i64 0] 35 (0, 0)) (fX BK241.out) hb); have n3_ := Asd.mk (kBe (g := gb247) (o := .cells #[.int .i64 t254, .int .i64 t255] 66 (0, 0)) (by (with_reducible repeat (first | refine kDn ?_ _ | refine kDr ?_ | refine kAl ?_ _)); refine kPu (cs := #[.int .i64 t254, .int .i64 t246]) ?_ 1 _ rfl; (with_reducible repeat (first | refine kDn ?_ _ | refine kDr ?_ | refine kAl ?_ _)); refine kPu (cs := #[.int .i64 t245, .int .i64 t246]) ?_ 0 _ rfl; (with_reducible repeat (first | refine kDn ?_ _ | refine kDr ?_ | refine kAl ?_ _)); exact BK247.out) hb); have n4_ := Asd.mk (bSt (bX HB.out) hb); clear HO253; clear BK240; clear BK241; clear BK247; clear HB; have HO253 := n0_; have BK240 := n1_; have BK241 := n2_; have BK247 := n3_; have HB := n4_; clear n0_ n1_ n2_ n3_ n4_; (try clear hb); (try clear hb2); (try clear hk); (try clear hi); have hnb68 := NB240_241.out; have hnc68 := NB241_240.out; have hcz69_0 : w67.cell? ⟨gb240, 0, none⟩ = some (.int .u64 0) := (kCe BK240.out 0).trans rfl; have hcz69_1 : w67.cell? ⟨gb240, 1, none⟩ = some (.slice none 0 0) := (kCe BK240.out 1).trans rfl; have hcz69_2 : w67.cell? ⟨gb240, 2, none⟩ = some (.slice none 0 0) := (kCe BK240.out 2).trans rfl; have hfz69_0 := kFr BK240.out 0; have hfz69_1 := kFr BK240.out 1; have hfz69_2 := kFr BK240.out 2; have hcz70_0 : w67.cell? ⟨gb241, 0, none⟩ = some (.int .i64 0) := (kCe BK241.out 0).trans rfl; have hcz70_1 : w67.cell? ⟨gb241, 1, none⟩ = some (.int .i64 0) := (kCe BK241.out 1).trans rfl; have hcz70_2 : w67.cell? ⟨gb241, 2, none⟩ = some (.int .i64 0) := (kCe BK241.out 2).trans rfl; have hfz70_0 := kFr BK241.out 0; have hfz70_1 := kFr BK241.out 1; have hfz70_2 := kFr BK241.out 2))
    refine bodyPost_ret (results_cc rfl _ _ gb240 gb241 28 35 #[.int .u64 0, .slice none 0 0, .slice none 0 0] #[.int .i64 t256, .int .i64 t257, .int .i64 t258] (0, 0) (0, 0) _ _ rfl (by (with_reducible repeat (first | refine kDn ?_ _ | refine kDr ?_ | refine kAl ?_ _)); refine blk_far ?_ NB240_241.out _; (with_reducible repeat (first | refine kDn ?_ _ | refine kDr ?_ | refine kAl ?_ _)); refine blk_far ?_ NB240_241.out _; (with_reducible repeat (first | refine kDn ?_ _ | refine kDr ?_ | refine kAl ?_ _)); refine blk_far ?_ NB240_241.out _; (with_reducible repeat (first | refine kDn ?_ _ | refine kDr ?_ | refine kAl ?_ _)); refine kPu (cs := #[.int .u64 0, .slice none 0 0, .slice none 0 0]) ?_ 2 _ rfl; (with_reducible repeat (first | refine kDn ?_ _ | refine kDr ?_ | refine kAl ?_ _)); refine kPu (cs := #[.int .u64 0, .slice none 0 0, .slice none 0 0]) ?_ 1 _ rfl; (with_reducible repeat (first | refine kDn ?_ _ | refine kDr ?_ | refine kAl ?_ _)); refine kPu (cs := #[.int .u64 0, .slice none 0 0, .slice none 0 0]) ?_ 0 _ rfl; (with_reducible repeat (first | refine kDn ?_ _ | refine kDr ?_ | refine kAl ?_ _)); exact BK240.out) Tryz.underlying28 rfl (by kernel_rfl) rfl (by (with_reducible repeat (first | refine kDn ?_ _ | refine kDr ?_ | refine kAl ?_ _)); refine kPu (cs := #[.int .i64 t256, .int .i64 t257, .int .i64 0]) ?_ 2 _ rfl; (with_reducible repeat (first | refine kDn ?_ _ | refine kDr ?_ | refine kAl ?_ _)); refine kPu (cs := #[.int .i64 t256, .int .i64 0, .int .i64 0]) ?_ 1 _ rfl; (with_reducible repeat (first | refine kDn ?_ _ | refine kDr ?_ | refine kAl ?_ _)); refine kPu (cs := #[.int .i64 0, .int .i64 0, .int .i64 0]) ?_ 0 _ rfl; (with_reducible repeat (first | refine kDn ?_ _ | refine kDr ?_ | refine kAl ?_ _)); refine blk_far ?_ NB241_240.out _; (with_reducible repeat (first | refine kDn ?_ _ | refine kDr ?_ | refine kAl ?_ _)); refine blk_far ?_ NB241_240.out _; (with_reducible repeat (first | refine kDn ?_ _ | refine kDr ?_ | refine kAl ?_ _)); refine blk_far ?_ NB241_240.out _; (with_reducible repeat (first | refine kDn ?_ _ | refine kDr ?_ | refine kAl ?_ _)); exact BK241.out) Tryz.underlying35 rfl (by kernel_rfl)) rfl ?_
    exact ⟨_, _, rX, by first | exact Kd.S_nil _ _ _ _ _ | exact Kd.N_nil _ _ _ _ _ | exact Kd.V_nil _ _ _ _ _ | exact Kd.Q_nil _ _ _ _ _ | exact Kd.R_nil _ _ _ _ _, by first | exact Kd.R_nil _ _ _ _ _ | exact Kd.N_nil _ _ _ _ _ | exact Kd.V_nil _ _ _ _ _ | exact Kd.Q_nil _ _ _ _ _ | exact Kd.S_nil _ _ _ _ _, bX HB.out⟩
  ·rw [if_neg c11] at H
   have c11b0 : (t246 == 0) = false := beq_eq_false_iff_ne.mpr c11
   have c11b1 : (t246 != 0) = true := bne_iff_ne.mpr c11
   replace H := Option.bind_eq_some_iff.mp H
   obtain ⟨⟨t248, t249, t250⟩, A710, H⟩ := H
   have A71 := Asd.mk A710
   clear A710
   simp only [Option.some.injEq, Prod.mk.injEq] at H
   obtain ⟨rfl, rfl, rfl, rfl, rfl, rfl⟩ := H
   go_enter Tryz.func12, Tryz.ntmps12
   go_wp2_with (first | ((with_reducible refine gDs (N := 2) rfl ?_); refine bEv ?hg (N := 2) ?hd (cs := #[.int .u64 0, .slice none 0 0, .slice none 0 0]) (t := 28) ?hr ?_; (case hd => rfl); (case hg => rfl); (case hr => first | (go_simp; done) | (go_simp; rfl)); intro gb240 hg w72 hbox hb; have n0_ := Asd.mk (bSt (bX HB.out) hb); have n1_ := Asd.mk (hbox); have n2_ := Asd.mk (zX hg (bX HB.out) : w.heap.size ≤ gb240); have n3_ := Asd.mk (zX hg (bX HB.out) : w.heap.size ≤ gb240); clear HB; have HB := n0_; have BK240 := n1_; have GW240 := n2_; have GE240 := n3_; clear n0_ n1_ n2_ n3_; clear hb hbox hg) | ((with_reducible refine gDs (N := 3) rfl ?_); refine bEv ?hg (N := 3) ?hd (cs := #[.int .i64 0, .int .i64 0, .int .i64 0]) (t := 35) ?hr ?_; (case hd => rfl); (case hg => rfl); (case hr => first | (go_simp; done) | (go_simp; rfl)); intro gb241 hg w73 hbox hb; have n0_ := Asd.mk (kBe (g := gb240) (o := .cells #[.int .u64 0, .slice none 0 0, .slice none 0 0] 28 (0, 0)) (kX BK240.out) hb); have n1_ := Asd.mk (bSt (bX HB.out) hb); have n2_ := Asd.mk (hbox); have n3_ := Asd.mk (zX hg (bX HB.out) : w.heap.size ≤ gb241); have n4_ := Asd.mk (zX hg (bX HB.out) : w.heap.size ≤ gb241); have n5_ := Asd.mk ((by rw [hg]; exact Nat.ne_of_lt (blk_lt (g := gb240) (o := .cells #[.int .u64 0, .slice none 0 0, .slice none 0 0] 28 (0, 0)) (kX BK240.out)) : gb240 ≠ gb241)); have n6_ := Asd.mk ((by rw [hg]; exact Nat.ne_of_gt (blk_lt (g := gb240) (o := .cells #[.int .u64 0, .slice none 0 0, .slice none 0 0] 28 (0, 0)) (kX BK240.out)) : gb241 ≠ gb240)); clear BK240; clear HB; have BK240 := n0_; have HB := n1_; have BK241 := n2_; have GW241 := n3_; have GE241 := n4_; have NB240_241 := n5_; have NB241_240 := n6_; clear n0_ n1_ n2_ n3_ n4_ n5_ n6_; clear hb hbox hg) | ((with_reducible refine gate_callee (f := 31) rfl ?_); refine goesL_ (some 14) rfl rfl Tryz.func31 (by kernel_rfl) rfl #[.slice A0 l0.length c0] rfl gX ?_; (with_reducible refine (anvilref02_head.calls k _ _ l0 t245 t246 _ ?side1 ?side2 A10.out).mono ?_); (case side1 => exact cX HR0.out HB.out); (case side2 => exact HC0.out); rintro e w74 ⟨rfl, hb⟩; refine ⟨_, rfl, ?_⟩; have n0_ := Asd.mk (kBe (g := gb240) (o := .cells #[.int .u64 0, .slice none 0 0, .slice none 0 0] 28 (0, 0)) (kX BK240.out) hb); have n1_ := Asd.mk (kBe (g := gb241) (o := .cells #[.int .i64 0, .int .i64 0, .int .i64 0] 35 (0, 0)) (kX BK241.out) hb); have n2_ := Asd.mk (bSt (bX HB.out) hb); clear BK240; clear BK241; clear HB; have BK240 := n0_; have BK241 := n1_; have HB := n2_; clear n0_ n1_ n2_; (try clear hb); (try clear hb2); (try clear hk); (try clear hi)) | ((with_reducible refine gDs (N := 4) rfl ?_); refine bEv ?hg (N := 4) ?hd (cs := #[.int .i64 0, .int .i64 0]) (t := 66) ?hr ?_; (case hd => rfl); (case hg => rfl); (case hr => first | (go_simp; done) | (go_simp; rfl)); intro gb247 hg w75 hbox hb; have n0_ := Asd.mk (kBe (g := gb240) (o := .cells #[.int .u64 0, .slice none 0 0, .slice none 0 0] 28 (0, 0)) (kX BK240.out) hb); have n1_ := Asd.mk (kBe (g := gb241) (o := .cells #[.int .i64 0, .int .i64 0, .int .i64 0] 35 (0, 0)) (kX BK241.out) hb); have n2_ := Asd.mk (bSt (bX HB.out) hb); have n3_ := Asd.mk (hbox); have n4_ := Asd.mk (zX hg (bX HB.out) : w.heap.size ≤ gb247); have n5_ := Asd.mk (zX hg (bX HB.out) : w.heap.size ≤ gb247); have n6_ := Asd.mk ((by rw [hg]; exact Nat.ne_of_lt (blk_lt (g := gb240) (o := .cells #[.int .u64 0, .slice none 0 0, .slice none 0 0] 28 (0, 0)) (kX BK240.out)) : gb240 ≠ gb247)); have n7_ := Asd.mk ((by rw [hg]; exact Nat.ne_of_gt (blk_lt (g := gb240) (o := .cells #[.int .u64 0, .slice none 0 0, .slice none 0 0] 28 (0, 0)) (kX BK240.out)) : gb247 ≠ gb240)); have n8_ := Asd.mk ((by rw [hg]; exact Nat.ne_of_lt (blk_lt (g := gb241) (o := .cells #[.int .i64 0, .int .i64 0, .int .i64 0] 35 (0, 0)) (kX BK241.out)) : gb241 ≠ gb247)); have n9_ := Asd.mk ((by rw [hg]; exact Nat.ne_of_gt (blk_lt (g := gb241) (o := .cells #[.int .i64 0, .int .i64 0, .int .i64 0] 35 (0, 0)) (kX BK241.out)) : gb247 ≠ gb241)); clear BK240; clear BK241; clear HB; have BK240 := n0_; have BK241 := n1_; have HB := n2_; have BK247 := n3_; have GW247 := n4_; have GE247 := n5_; have NB240_247 := n6_; have NB247_240 := n7_; have NB241_247 := n8_; have NB247_241 := n9_; clear n0_ n1_ n2_ n3_ n4_ n5_ n6_ n7_ n8_ n9_; clear hb hbox hg; have hnb76 := NB247_240.out; have hnc76 := NB240_247.out; have hnb77 := NB247_241.out; have hnc77 := NB241_247.out; have hcz78_0 : w75.cell? ⟨gb247, 0, none⟩ = some (.int .i64 0) := (kCe BK247.out 0).trans rfl; have hcz78_1 : w75.cell? ⟨gb247, 1, none⟩ = some (.int .i64 0) := (kCe BK247.out 1).trans rfl; have hfz78_0 := kFr BK247.out 0; have hfz78_1 := kFr BK247.out 1) | ((with_reducible refine gate_callee (f := 30) rfl ?_); refine goesL_ (some 20) rfl rfl Tryz.func30 (by kernel_rfl) rfl #[.agg #[.int .i64 t245, .int .i64 t246]] rfl gX ?_; (with_reducible refine (anvilref02_told.calls t245 t246 t248 t249 t250 _ A71.out).mono ?_); rintro e w79 ⟨rfl, hb⟩; refine ⟨_, rfl, ?_⟩; have n0_ := Asd.mk (kBe (g := gb240) (o := .cells #[.int .u64 0, .slice none 0 0, .slice none 0 0] 28 (0, 0)) (fX BK240.out) hb); have n1_ := Asd.mk (kBe (g := gb241) (o := .cells #[.int .i64 0, .int .i64 0, .int .i64 0] 35 (0, 0)) (fX BK241.out) hb); have n2_ := Asd.mk (kBe (g := gb247) (o := .cells #[.int .i64 t245, .int .i64 t246] 66 (0, 0)) (by (with_reducible repeat (first | refine kDn ?_ _ | refine kDr ?_ | refine kAl ?_ _)); refine kPu (cs := #[.int .i64 t245, .int .i64 0]) ?_ 1 _ rfl; (with_reducible repeat (first | refine kDn ?_ _ | refine kDr ?_ | refine kAl ?_ _)); refine kPu (cs := #[.int .i64 0, .int .i64 0]) ?_ 0 _ rfl; (with_reducible repeat (first | refine kDn ?_ _ | refine kDr ?_ | refine kAl ?_ _)); exact BK247.out) hb); have n3_ := Asd.mk (bSt (bX HB.out) hb); clear BK240; clear BK241; clear BK247; clear HB; have BK240 := n0_; have BK241 := n1_; have BK247 := n2_; have HB := n3_; clear n0_ n1_ n2_ n3_; (try clear hb); (try clear hb2); (try clear hk); (try clear hi); have hnb80 := NB240_241.out; have hnc80 := NB241_240.out; have hcz81_0 : w79.cell? ⟨gb240, 0, none⟩ = some (.int .u64 0) := (kCe BK240.out 0).trans rfl; have hcz81_1 : w79.cell? ⟨gb240, 1, none⟩ = some (.slice none 0 0) := (kCe BK240.out 1).trans rfl; have hcz81_2 : w79.cell? ⟨gb240, 2, none⟩ = some (.slice none 0 0) := (kCe BK240.out 2).trans rfl; have hfz81_0 := kFr BK240.out 0; have hfz81_1 := kFr BK240.out 1; have hfz81_2 := kFr BK240.out 2; have hcz82_0 : w79.cell? ⟨gb241, 0, none⟩ = some (.int .i64 0) := (kCe BK241.out 0).trans rfl; have hcz82_1 : w79.cell? ⟨gb241, 1, none⟩ = some (.int .i64 0) := (kCe BK241.out 1).trans rfl; have hcz82_2 : w79.cell? ⟨gb241, 2, none⟩ = some (.int .i64 0) := (kCe BK241.out 2).trans rfl; have hfz82_0 := kFr BK241.out 0; have hfz82_1 := kFr BK241.out 1; have hfz82_2 := kFr BK241.out 2))
   refine bodyPost_ret (results_cc rfl _ _ gb240 gb241 28 35 #[.int .u64 0, .slice none 0 0, .slice none 0 0] #[.int .i64 t248, .int .i64 t249, .int .i64 t250] (0, 0) (0, 0) _ _ rfl (by (with_reducible repeat (first | refine kDn ?_ _ | refine kDr ?_ | refine kAl ?_ _)); refine blk_far ?_ NB240_241.out _; (with_reducible repeat (first | refine kDn ?_ _ | refine kDr ?_ | refine kAl ?_ _)); refine blk_far ?_ NB240_241.out _; (with_reducible repeat (first | refine kDn ?_ _ | refine kDr ?_ | refine kAl ?_ _)); refine blk_far ?_ NB240_241.out _; (with_reducible repeat (first | refine kDn ?_ _ | refine kDr ?_ | refine kAl ?_ _)); refine kPu (cs := #[.int .u64 0, .slice none 0 0, .slice none 0 0]) ?_ 2 _ rfl; (with_reducible repeat (first | refine kDn ?_ _ | refine kDr ?_ | refine kAl ?_ _)); refine kPu (cs := #[.int .u64 0, .slice none 0 0, .slice none 0 0]) ?_ 1 _ rfl; (with_reducible repeat (first | refine kDn ?_ _ | refine kDr ?_ | refine kAl ?_ _)); refine kPu (cs := #[.int .u64 0, .slice none 0 0, .slice none 0 0]) ?_ 0 _ rfl; (with_reducible repeat (first | refine kDn ?_ _ | refine kDr ?_ | refine kAl ?_ _)); exact BK240.out) Tryz.underlying28 rfl (by kernel_rfl) rfl (by (with_reducible repeat (first | refine kDn ?_ _ | refine kDr ?_ | refine kAl ?_ _)); refine kPu (cs := #[.int .i64 t248, .int .i64 t249, .int .i64 0]) ?_ 2 _ rfl; (with_reducible repeat (first | refine kDn ?_ _ | refine kDr ?_ | refine kAl ?_ _)); refine kPu (cs := #[.int .i64 t248, .int .i64 0, .int .i64 0]) ?_ 1 _ rfl; (with_reducible repeat (first | refine kDn ?_ _ | refine kDr ?_ | refine kAl ?_ _)); refine kPu (cs := #[.int .i64 0, .int .i64 0, .int .i64 0]) ?_ 0 _ rfl; (with_reducible repeat (first | refine kDn ?_ _ | refine kDr ?_ | refine kAl ?_ _)); refine blk_far ?_ NB241_240.out _; (with_reducible repeat (first | refine kDn ?_ _ | refine kDr ?_ | refine kAl ?_ _)); refine blk_far ?_ NB241_240.out _; (with_reducible repeat (first | refine kDn ?_ _ | refine kDr ?_ | refine kAl ?_ _)); refine blk_far ?_ NB241_240.out _; (with_reducible repeat (first | refine kDn ?_ _ | refine kDr ?_ | refine kAl ?_ _)); exact BK241.out) Tryz.underlying35 rfl (by kernel_rfl)) rfl ?_
   exact ⟨_, _, rX, by first | exact Kd.S_nil _ _ _ _ _ | exact Kd.N_nil _ _ _ _ _ | exact Kd.V_nil _ _ _ _ _ | exact Kd.Q_nil _ _ _ _ _ | exact Kd.R_nil _ _ _ _ _, by first | exact Kd.R_nil _ _ _ _ _ | exact Kd.N_nil _ _ _ _ _ | exact Kd.V_nil _ _ _ _ _ | exact Kd.Q_nil _ _ _ _ _ | exact Kd.S_nil _ _ _ _ _, bX HB.out⟩
def anvillaw02_same.f (l0 : List Int) (l1 : List Int) : Option (Bool) := some ((strOfNums l0).toList == (strOfNums l1).toList)
set_option maxHeartbeats 8000000 in
set_option maxRecDepth 100000 in
theorem anvillaw02_same.calls (A0 : Option Addr) (c0 : Nat) (l0 : List Int) (A1 : Option Addr) (c1 : Nat) (l1 : List Int) (r : Bool) (w : World) (hr0 : Kd.C (Kd.int .u8) w A0 l0.length l0) (hc0 : l0.length ≤ c0) (hr1 : Kd.C (Kd.int .u8) w A1 l1.length l1) (hc1 : l1.length ≤ c1) (h : anvillaw02_same.f l0 l1 = some r) :
 Calls Tryz.prog 38 #[.slice A0 l0.length c0, .slice A1 l1.length c1] w fun e w' => e = .returned (.bool r) ∧ Drawn0 w w' := by
 have HR0 := Asd.mk hr0
 have HC0 := Asd.mk hc0
 clear hr0 hc0
 have HR1 := Asd.mk hr1
 have HC1 := Asd.mk hc1
 clear hr1 hc1
 have H : (some ((strOfNums l0).toList == (strOfNums l1).toList)) = some r := h
 clear h
 obtain rfl := Option.some.inj H
 have hcv3 := Kd.C_string (P := Tryz.prog) (A := A0) (c := c0) Tryz.underlying22 Tryz.underlying5 Tryz.underlying9 HR0.out
 have hcv4 := Kd.C_string (P := Tryz.prog) (A := A1) (c := c1) Tryz.underlying22 Tryz.underlying5 Tryz.underlying9 HR1.out
 go_enter Tryz.func38, Tryz.ntmps38
 go_wp2
 go_ret
 exact ⟨eX, by repeat (first | exact Drawn0.refl _ | apply Drawn0.step)⟩
def anvillaw02_num.f (a0 : Int) : Option (Int) := some a0
set_option maxHeartbeats 8000000 in
set_option maxRecDepth 100000 in
theorem anvillaw02_num.calls (a0 : Int) (r : Int) (w : World) (h : anvillaw02_num.f a0 = some r) :
 Calls Tryz.prog 14 #[.int .i64 a0] w fun e w' => e = .returned (.int .i64 r) ∧ Drawn0 w w' := by
 have H : (some a0) = some r := h
 clear h
 obtain rfl := Option.some.inj H
 go_enter Tryz.func14, Tryz.ntmps14
 go_wp2
 go_ret
 exact ⟨eX, by repeat (first | exact Drawn0.refl _ | apply Drawn0.step)⟩
-- NEEDS anvil/anvillaw02.same
def segEq (x y : S55) : Bool := x.f0 == y.f0 && (x.f1 == y.f1 && (x.f2 == y.f2 && ((strOfNums x.f3).toList == (strOfNums y.f3).toList)))
def segsEq : List S55 → List S55 → Bool
 | x :: xs, y :: ys => segEq x y && segsEq xs ys
 | _, _ => true
def anvillaw02_parts.f (l0 : List S55) (l1 : List S55) : Option (Bool) := some (l0.length == l1.length && segsEq l0 l1)
theorem rd_drop_seg {l : List S55} {j : Nat} (h : j < l.length) : l.drop j = rd_T55 l (j : Int) :: l.drop (j + 1) := by
 unfold rd_T55
 rw [Int.toNat_natCast, List.getD_eq_getElem?_getD, List.getElem?_eq_getElem h]
 exact List.drop_eq_getElem_cons h
set_option maxHeartbeats 16000000 in
set_option maxRecDepth 1000000 in
theorem anvillaw02_parts.calls (A0 : Option Addr) (c0 : Nat) (l0 : List (S55)) (A1 : Option Addr) (c1 : Nat) (l1 : List (S55)) (r : Bool) (w : World) (hr0 : Kd.C k55 w A0 l0.length l0) (hc0 : l0.length ≤ c0) (hr1 : Kd.C k55 w A1 l1.length l1) (hc1 : l1.length ≤ c1) (h : anvillaw02_parts.f l0 l1 = some r) :
 Calls Tryz.prog 39 #[.slice A0 l0.length c0, .slice A1 l1.length c1] w fun e w' => e = .returned (.bool r) ∧ Below w.heap.size w w' := by
 unfold anvillaw02_parts.f at h
 cases h
 have hb0 : l0.length ≤ 9223372036854775807 := hr0.2.1
 have hb1 : l1.length ≤ 9223372036854775807 := hr1.2.1
 have HR0 := Lib.hid hr0
 have HR1 := Lib.hid hr1
 clear hr0 hr1
 by_cases hl : l0.length = l1.length
 ·have HL := Lib.hid hl
  have hlb : (l0.length == l1.length) = true := by simp [hl]
  obtain ⟨n, hn⟩ : ∃ n, l0.length = n := ⟨_, rfl⟩
  have HN0 := Lib.hid hn
  have HN1 : Hid (l1.length = n) := Lib.hid (hl ▸ hn)
  have hn1 : l1.length = n := hl ▸ hn
  rw [hlb, hn, hn1]
  rw [hn] at hb0 hc0
  rw [hn1] at hc1
  clear hl hlb hb1 hn hn1
  go_enter Tryz.func39, Tryz.ntmps39
  go_wp2
  go_loopw [5] (fun v5 wx => ∃ (j : Nat), v5 = .int .i64 (j : Int) ∧ j ≤ n ∧ Hid (Below w.heap.size w wx) ∧ Hid (segsEq l0 l1 = segsEq (l0.drop j) (l1.drop j))) (fun v5 _ => n - (RowKit.intOf v5).toNat)
  case atStart => exact ⟨0, rfl, Nat.zero_le _, Lib.hid (Below.refl _ _), Lib.hid rfl⟩
  case round =>
   obtain ⟨j, rfl, hj, HB, HE⟩ := hrel
   by_cases hjn : j < n
   ·obtain ⟨ad, A3, b3, eA, x0, x1, x2, x3, hl3, hC3⟩ := at_T55 (Kd.C_below HR0.out HB.out) (j : Int) (by omega) (by rw [HN0.out]; omega)
    obtain ⟨ae, B3, d3, eB, y0, y1, y2, y3, hm3, hD3⟩ := at_T55 (Kd.C_below HR1.out HB.out) (j : Int) (by omega) (by rw [HN1.out]; omega)
    subst eA eB
    rw [Int.toNat_natCast] at x0 x1 x2 x3 y0 y1 y2 y3
    have hd0 := rd_drop_seg (l := l0) (j := j) (by rw [HN0.out]; exact hjn)
    have hd1 := rd_drop_seg (l := l1) (j := j) (by rw [HN1.out]; exact hjn)
    obtain ⟨p, hp⟩ : ∃ p, rd_T55 l0 (j : Int) = p := ⟨_, rfl⟩
    obtain ⟨q, hq⟩ : ∃ q, rd_T55 l1 (j : Int) = q := ⟨_, rfl⟩
    rw [hp] at x0 x1 x2 x3 hl3 hC3 hd0
    rw [hq] at y0 y1 y2 y3 hm3 hD3 hd1
    have hE := HE.out
    rw [hd0, hd1, segsEq] at hE
    have HE2 := Lib.hid hE
    have hji : (j : Int) < (n : Int) := by omega
    have hj0 : (0 : Int) ≤ (j : Int) := Int.natCast_nonneg _
    have HS := Lib.hid (fun W (hW : Below wr.heap.size wr W) => anvillaw02_same.calls A3 b3 p.f3 B3 d3 q.f3 _ W (Kd.C_below hC3 hW) hl3 (Kd.C_below hD3 hW) hm3 rfl)
    obtain ⟨p0, hp0⟩ : ∃ z, p.f0 = z := ⟨_, rfl⟩
    obtain ⟨p1, hp1⟩ : ∃ z, p.f1 = z := ⟨_, rfl⟩
    obtain ⟨p2, hp2⟩ : ∃ z, p.f2 = z := ⟨_, rfl⟩
    obtain ⟨q0, hq0⟩ : ∃ z, q.f0 = z := ⟨_, rfl⟩
    obtain ⟨q1, hq1⟩ : ∃ z, q.f1 = z := ⟨_, rfl⟩
    obtain ⟨q2, hq2⟩ : ∃ z, q.f2 = z := ⟨_, rfl⟩
    obtain ⟨sb, hsb⟩ : ∃ z, ((strOfNums p.f3).toList == (strOfNums q.f3).toList) = z := ⟨_, rfl⟩
    rw [hp0] at x0
    rw [hp1] at x1
    rw [hp2] at x2
    rw [hq0] at y0
    rw [hq1] at y1
    rw [hq2] at y2
    rw [hsb] at HS
    have HQ : Hid (segEq p q = (p0 == q0 && (p1 == q1 && (p2 == q2 && sb)))) := Lib.hid (by unfold segEq; rw [hp0, hp1, hp2, hq0, hq1, hq2, hsb])
    clear hC3 hD3 hd0 hd1 hp hq hE HE hp0 hp1 hp2 hq0 hq1 hq2 hsb
    by_cases h0 : p0 = q0
    ·have e0 : (p0 != q0) = false := by simp [h0]
     have E0 : Hid ((p0 == q0) = true) := Lib.hid (by simp [h0])
     clear h0
     by_cases h1 : p1 = q1
     ·have e1 : (p1 != q1) = false := by simp [h1]
      have E1 : Hid ((p1 == q1) = true) := Lib.hid (by simp [h1])
      clear h1
      by_cases h2 : p2 = q2
      ·have e2 : (p2 != q2) = false := by simp [h2]
       have E2 : Hid ((p2 == q2) = true) := Lib.hid (by simp [h2])
       clear h2
       cases sb with
       | true =>
        go_wp2
        go_quiet ((go_at_call 38; exact Calls.quiet_of ((HS.out _ (bDn (Below.refl _ _) _)).mono fun _ _ ⟨he, hd⟩ => ⟨he, hd.out⟩)))
        go_wp2
        have hE := HE2.out
        rw [HQ.out, E0.out, E1.out, E2.out] at hE
        exact ⟨⟨j + 1, by simp, by omega, Lib.hid (HB.out.trans ((bDn (Below.refl _ _) _).mono HB.out.size)), Lib.hid (by rw [hE]; rfl)⟩, by simp [RowKit.intOf]; omega⟩
       | false =>
        go_wp2
        go_quiet ((go_at_call 38; exact Calls.quiet_of ((HS.out _ (bDn (Below.refl _ _) _)).mono fun _ _ ⟨he, hd⟩ => ⟨he, hd.out⟩)))
        go_wp2
        go_ret
        exact ⟨by rw [HE2.out, HQ.out, E0.out, E1.out, E2.out]; rfl, (HB.out.trans (bDn (Below.refl _ _) _ |>.mono HB.out.size))⟩
      ·have e2 : (p2 != q2) = true := by simp [h2]
       have E2 : Hid ((p2 == q2) = false) := Lib.hid (by simp [h2])
       clear h2
       go_wp2
       go_quiet ((go_at_call 38; exact Calls.quiet_of ((HS.out _ (bDn (Below.refl _ _) _)).mono fun _ _ ⟨he, hd⟩ => ⟨he, hd.out⟩)))
       go_wp2
       go_ret
       exact ⟨by rw [HE2.out, HQ.out, E0.out, E1.out, E2.out]; rfl, (HB.out.trans (bDn (Below.refl _ _) _ |>.mono HB.out.size))⟩
     ·have e1 : (p1 != q1) = true := by simp [h1]
      have E1 : Hid ((p1 == q1) = false) := Lib.hid (by simp [h1])
      clear h1
      go_wp2
      go_quiet ((go_at_call 38; exact Calls.quiet_of ((HS.out _ (bDn (Below.refl _ _) _)).mono fun _ _ ⟨he, hd⟩ => ⟨he, hd.out⟩)))
      go_wp2
      go_ret
      exact ⟨by rw [HE2.out, HQ.out, E0.out, E1.out]; rfl, (HB.out.trans (bDn (Below.refl _ _) _ |>.mono HB.out.size))⟩
    ·have e0 : (p0 != q0) = true := by simp [h0]
     have E0 : Hid ((p0 == q0) = false) := Lib.hid (by simp [h0])
     clear h0
     go_wp2
     go_quiet ((go_at_call 38; exact Calls.quiet_of ((HS.out _ (bDn (Below.refl _ _) _)).mono fun _ _ ⟨he, hd⟩ => ⟨he, hd.out⟩)))
     go_wp2
     go_ret
     exact ⟨by rw [HE2.out, HQ.out, E0.out]; rfl, (HB.out.trans (bDn (Below.refl _ _) _ |>.mono HB.out.size))⟩
   ·have hje : j = n := by omega
    subst hje
    have hE := HE.out
    rw [List.drop_eq_nil_of_le (by rw [HN0.out]; exact Nat.le_refl _)] at hE
    have HE2 := Lib.hid hE
    clear hE
    go_wp2
    go_ret
    exact ⟨by rw [HE2.out]; rfl, HB.out⟩
 ·have e : ((l0.length : Int) != (l1.length : Int)) = true := by simp; omega
  have e2 : (l0.length == l1.length) = false := by simp [hl]
  rw [e2]
  go_enter Tryz.func39, Tryz.ntmps39
  go_wp2
  go_ret
  exact ⟨rfl, Below.refl _ _⟩
def anvillaw02_names.l0 : Nat → List (S82) → List (S82) → Int → Option (Bool)
 | 0, _, _, _ => none
 | k + 1, x0, x1, x5 => if x5 < (x0.length : Int) then (if 0 ≤ x5 then (if x5 < (x1.length : Int) then (if (!((((rd_T82 x0 x5).f0).toList) == (((rd_T82 x1 x5).f0).toList)) || (!(((rd_T82 x0 x5).f1) == ((rd_T82 x1 x5).f1)))) = true then (some false) else (anvillaw02_names.l0 k x0 x1 (wrap64 (x5 + 1)))) else (none)) else (none)) else (some true)
def anvillaw02_names.f (k : Nat) (l0 : List (S82)) (l1 : List (S82)) : Option (Bool) := if (l0.length : Int) = (l1.length : Int) then (anvillaw02_names.l0 k l0 l1 0) else (some false)
theorem anvillaw02_names.mono_l : ∀ k, (∀ y0 y1 y2, LeO (anvillaw02_names.l0 k y0 y1 y2) (anvillaw02_names.l0 (k + 1) y0 y1 y2))
 | 0 => fun _ _ _ r h => by simp [anvillaw02_names.l0] at h
 | k + 1 => by
  have ih0 := anvillaw02_names.mono_l k
  ·intro y0 y1 y2
   unfold anvillaw02_names.l0
   repeat' first
   | (with_reducible exact ih0 _ _ _)
   | (with_reducible exact LeO.refl _)
   | (with_reducible exact LeO.none _)
   | (with_reducible refine LeO.ite ?_ ?_)
   | (with_reducible refine LeO.bind ?_ (fun _ => ?_))
   | exact ih0 _ _ _
   | exact LeO.none _
   | refine LeO.ite ?_ ?_
   | refine LeO.bind ?_ (fun _ => ?_)
theorem anvillaw02_names.mono : ∀ a0 a1 k, LeO (anvillaw02_names.f k a0 a1) (anvillaw02_names.f (k + 1) a0 a1) := by
 intro a0 a1 k
 have ih0 := anvillaw02_names.mono_l k
 unfold anvillaw02_names.f
 repeat' first
  | (with_reducible exact ih0 _ _ _)
  | (with_reducible exact LeO.refl _)
  | (with_reducible exact LeO.none _)
  | (with_reducible refine LeO.ite ?_ ?_)
  | (with_reducible refine LeO.bind ?_ (fun _ => ?_))
  | exact ih0 _ _ _
  | exact LeO.none _
  | refine LeO.ite ?_ ?_
  | refine LeO.bind ?_ (fun _ => ?_)
set_option maxHeartbeats 8000000 in
set_option maxRecDepth 100000 in
theorem anvillaw02_names.calls (k : Nat) (A0 : Option Addr) (c0 : Nat) (l0 : List (S82)) (A1 : Option Addr) (c1 : Nat) (l1 : List (S82)) (r : Bool) (w : World) (hr0 : Kd.C k82 w A0 l0.length l0) (hc0 : l0.length ≤ c0) (hr1 : Kd.C k82 w A1 l1.length l1) (hc1 : l1.length ≤ c1) (h : anvillaw02_names.f k l0 l1 = some r) :
 Calls Tryz.prog 40 #[.slice A0 l0.length c0, .slice A1 l1.length c1] w fun e w' => e = .returned (.bool r) ∧ Drawn0 w w' := by
 have hu82 := Tryz.underlying82
 have HR0 := Asd.mk hr0
 have HC0 := Asd.mk hc0
 clear hr0 hc0
 have HR1 := Asd.mk hr1
 have HC1 := Asd.mk hc1
 clear hr1 hc1
 have H : (if (l0.length : Int) = (l1.length : Int) then (anvillaw02_names.l0 k l0 l1 0) else (some false)) = some r := h
 clear h
 by_cases c3 : (l0.length : Int) = (l1.length : Int)
 ·rw [if_pos c3] at H
  have c3b0 : ((l0.length : Int) == (l1.length : Int)) = true := beq_iff_eq.mpr c3
  have c3b1 : ((l0.length : Int) != (l1.length : Int)) = false := bne_eq_false_iff_eq.mpr c3
  have c3b2 : (l0.length == l1.length) = true := by first | simpa using c3 | (simp at c3 ⊢; omega)
  clear c3
  have H' := Asd.mk H
  clear H
  go_enter Tryz.func40, Tryz.ntmps40
  go_wp2
  repeat (go_quiet (fail); try go_wp2)
  go_loopg [5] k (fun kq v5 w' => ∃ (x5_1 : Int), v5 = .int .i64 x5_1 ∧ Asd (anvillaw02_names.l0 kq l0 l1 x5_1 = some r) ∧ Asd (kq ≤ k) ∧ Drawn0 w w')
  case atStart => exact ⟨(0), eX, H', ⟨Nat.le_refl _⟩, by repeat (first | exact Drawn0.refl _ | apply Drawn0.step)⟩
  case round =>
   clear H'
   try clear c1
   try clear p2
   try clear c3
   try clear c3b0
   try clear c3b1
   try clear c3b2
   obtain ⟨x5_1, rfl, HA, HK1, ⟨m1, rfl⟩⟩ := hrel
   cases gk with
   | zero => exact absurd HA.out (by simp [anvillaw02_names.l0])
   | succ k1 =>
    have H := HA.out
    clear HA
    simp only [anvillaw02_names.l0] at H
    by_cases c4 : x5_1 < (l0.length : Int)
    ·rw [if_pos c4] at H
     have c4b0 : decide (x5_1 < (l0.length : Int)) = true := decide_eq_true c4
     clear c4
     by_cases c5 : 0 ≤ x5_1
     ·rw [if_pos c5] at H
      have c5b0 : decide (0 ≤ x5_1) = true := decide_eq_true c5
      clear c5
      by_cases c6 : x5_1 < (l1.length : Int)
      ·rw [if_pos c6] at H
       have c6b0 : decide (x5_1 < (l1.length : Int)) = true := decide_eq_true c6
       clear c6
       by_cases c7 : (!((((rd_T82 l0 x5_1).f0).toList) == (((rd_T82 l1 x5_1).f0).toList)) || (!(((rd_T82 l0 x5_1).f1) == ((rd_T82 l1 x5_1).f1)))) = true
       ·rw [if_pos c7] at H
        have c7b0 : (!((((rd_T82 l0 x5_1).f0).toList) == (((rd_T82 l1 x5_1).f0).toList)) || (!(((rd_T82 l0 x5_1).f1) == ((rd_T82 l1 x5_1).f1)))) = true := c7
        clear c7
        obtain rfl := Option.some.inj H
        have p286 : 0 ≤ (x5_1 : Int) := of_decide_eq_true aX
        have q286 : x5_1 < (l0.length : Int) := of_decide_eq_true aX
        obtain ⟨ad286, e286, hx286_0, hx286_1⟩ := at_T82 HR0.out x5_1 p286 q286
        cases e286
        replace p286 := eq_true p286
        replace q286 := eq_true q286
        have p287 : 0 ≤ (x5_1 : Int) := of_decide_eq_true aX
        have q287 : x5_1 < (l1.length : Int) := of_decide_eq_true aX
        obtain ⟨ad287, e287, hx287_0, hx287_1⟩ := at_T82 HR1.out x5_1 p287 q287
        cases e287
        replace p287 := eq_true p287
        replace q287 := eq_true q287
        go_wp2
        repeat (go_quiet (fail); try go_wp2)
        go_ret
        exact ⟨eX, by repeat (first | exact Drawn0.refl _ | apply Drawn0.step)⟩
       ·rw [if_neg c7] at H
        have c7b0 : (!((((rd_T82 l0 x5_1).f0).toList) == (((rd_T82 l1 x5_1).f0).toList)) || (!(((rd_T82 l0 x5_1).f1) == ((rd_T82 l1 x5_1).f1)))) = false := by simpa using c7
        clear c7
        have H' := Asd.mk H
        clear H
        have p286 : 0 ≤ (x5_1 : Int) := of_decide_eq_true aX
        have q286 : x5_1 < (l0.length : Int) := of_decide_eq_true aX
        obtain ⟨ad286, e286, hx286_0, hx286_1⟩ := at_T82 HR0.out x5_1 p286 q286
        cases e286
        replace p286 := eq_true p286
        replace q286 := eq_true q286
        have p287 : 0 ≤ (x5_1 : Int) := of_decide_eq_true aX
        have q287 : x5_1 < (l1.length : Int) := of_decide_eq_true aX
        obtain ⟨ad287, e287, hx287_0, hx287_1⟩ := at_T82 HR1.out x5_1 p287 q287
        cases e287
        replace p287 := eq_true p287
        replace q287 := eq_true q287
        go_wp2
        repeat (go_quiet (fail); try go_wp2)
        go_roundg k1
        case measure => have := HK1.out; omega
        case rel => exact ⟨(wrap64 (x5_1 + 1)), eX, H', ⟨by have := HK1.out; omega⟩, by repeat (first | exact Drawn0.refl _ | apply Drawn0.step)⟩
      ·rw [if_neg c6] at H
       exact absurd H (by simp)
     ·rw [if_neg c5] at H
      exact absurd H (by simp)
    ·rw [if_neg c4] at H
     have c4b0 : decide (x5_1 < (l0.length : Int)) = false := decide_eq_false c4
     clear c4
     obtain rfl := Option.some.inj H
     go_wp2
     repeat (go_quiet (fail); try go_wp2)
     go_ret
     exact ⟨eX, by repeat (first | exact Drawn0.refl _ | apply Drawn0.step)⟩
 ·rw [if_neg c3] at H
  have c3b0 : ((l0.length : Int) == (l1.length : Int)) = false := beq_eq_false_iff_ne.mpr c3
  have c3b1 : ((l0.length : Int) != (l1.length : Int)) = true := bne_iff_ne.mpr c3
  have c3b2 : (l0.length == l1.length) = false := by first | simpa using c3 | (simp at c3 ⊢; omega)
  obtain rfl := Option.some.inj H
  go_enter Tryz.func40, Tryz.ntmps40
  go_wp2
  repeat (go_quiet (fail); try go_wp2)
  go_ret
  exact ⟨eX, by repeat (first | exact Drawn0.refl _ | apply Drawn0.step)⟩
def anvillaw02_alike.f (k : Nat) (a0_0 : Int) (l0_1 : List (S55)) (l0_2 : List (S82)) (a1_0 : Int) (l1_1 : List (S55)) (l1_2 : List (S82)) : Option (Bool) := if a0_0 = a1_0 then ((anvillaw02_parts.f l0_1 l1_1).bind fun t290 => (if t290 = true then ((anvillaw02_names.f k l0_2 l1_2).bind fun t291 => (some t291)) else (some false))) else (some false)
theorem anvillaw02_alike.mono : ∀ a0 a1 a2 a3 a4 a5 k, LeO (anvillaw02_alike.f k a0 a1 a2 a3 a4 a5) (anvillaw02_alike.f (k + 1) a0 a1 a2 a3 a4 a5) := by
 intro a0 a1 a2 a3 a4 a5 k
 unfold anvillaw02_alike.f
 repeat' first
  | (with_reducible exact anvillaw02_names.mono _ _ _)
  | (with_reducible exact LeO.refl _)
  | (with_reducible exact LeO.none _)
  | (with_reducible refine LeO.ite ?_ ?_)
  | (with_reducible refine LeO.bind ?_ (fun _ => ?_))
  | exact anvillaw02_names.mono _ _ _
  | exact LeO.none _
  | refine LeO.ite ?_ ?_
  | refine LeO.bind ?_ (fun _ => ?_)
set_option maxHeartbeats 8000000 in
set_option maxRecDepth 100000 in
theorem anvillaw02_alike.calls (k : Nat) (a0_0 : Int) (A0_1 : Option Addr) (c0_1 : Nat) (l0_1 : List (S55)) (A0_2 : Option Addr) (c0_2 : Nat) (l0_2 : List (S82)) (a1_0 : Int) (A1_1 : Option Addr) (c1_1 : Nat) (l1_1 : List (S55)) (A1_2 : Option Addr) (c1_2 : Nat) (l1_2 : List (S82)) (r : Bool) (w : World) (hr0_1 : Kd.C k55 w A0_1 l0_1.length l0_1) (hc0_1 : l0_1.length ≤ c0_1) (hr0_2 : Kd.C k82 w A0_2 l0_2.length l0_2) (hc0_2 : l0_2.length ≤ c0_2) (hr1_1 : Kd.C k55 w A1_1 l1_1.length l1_1) (hc1_1 : l1_1.length ≤ c1_1) (hr1_2 : Kd.C k82 w A1_2 l1_2.length l1_2) (hc1_2 : l1_2.length ≤ c1_2) (h : anvillaw02_alike.f k a0_0 l0_1 l0_2 a1_0 l1_1 l1_2 = some r) :
 Calls Tryz.prog 16 #[.agg #[.int .u64 a0_0, .slice A0_1 l0_1.length c0_1, .slice A0_2 l0_2.length c0_2], .agg #[.int .u64 a1_0, .slice A1_1 l1_1.length c1_1, .slice A1_2 l1_2.length c1_2]] w fun e w' => e = .returned (.bool r) ∧ Below w.heap.size w w' := by
 have hu28 := Tryz.underlying28
 have HR0_1 := Asd.mk hr0_1
 have HC0_1 := Asd.mk hc0_1
 clear hr0_1 hc0_1
 have HR0_2 := Asd.mk hr0_2
 have HC0_2 := Asd.mk hc0_2
 clear hr0_2 hc0_2
 have HR1_1 := Asd.mk hr1_1
 have HC1_1 := Asd.mk hc1_1
 clear hr1_1 hc1_1
 have HR1_2 := Asd.mk hr1_2
 have HC1_2 := Asd.mk hc1_2
 clear hr1_2 hc1_2
 have HB := Asd.mk (Below.refl w.heap.size w)
 have H : (if a0_0 = a1_0 then ((anvillaw02_parts.f l0_1 l1_1).bind fun t290 => (if t290 = true then ((anvillaw02_names.f k l0_2 l1_2).bind fun t291 => (some t291)) else (some false))) else (some false)) = some r := h
 clear h
 by_cases c3 : a0_0 = a1_0
 ·rw [if_pos c3] at H
  have c3b0 : (a0_0 == a1_0) = true := beq_iff_eq.mpr c3
  have c3b1 : (a0_0 != a1_0) = false := bne_eq_false_iff_eq.mpr c3
  clear c3
  replace H := Option.bind_eq_some_iff.mp H
  obtain ⟨t290, A40, H⟩ := H
  have A4 := Asd.mk A40
  clear A40
  by_cases c5 : t290 = true
  ·subst c5
   have H1 : ((anvillaw02_names.f k l0_2 l1_2).bind fun t291 => (some t291)) = some r := by rw [if_pos rfl] at H; exact H
   clear H
   have H := H1
   clear H1
   replace H := Option.bind_eq_some_iff.mp H
   obtain ⟨t291, A60, H⟩ := H
   have A6 := Asd.mk A60
   clear A60
   obtain rfl := Option.some.inj H
   go_enter Tryz.func16, Tryz.ntmps16
   go_wp2_with (first | ((with_reducible refine gDs (N := 2) rfl ?_); refine bEv ?hg (N := 2) ?hd (cs := #[.int .u64 a0_0, .slice A0_1 l0_1.length c0_1, .slice A0_2 l0_2.length c0_2]) (t := 28) ?hr ?_; (case hd => rfl); (case hg => rfl); (case hr => first | (go_simp; done) | (go_simp; rfl)); intro gb288 hg w7 hbox hb; have n0_ := Asd.mk (bSt (bX HB.out) hb); have n1_ := Asd.mk (hbox); have n2_ := Asd.mk (zX hg (bX HB.out) : w.heap.size ≤ gb288); have n3_ := Asd.mk (zX hg (bX HB.out) : w.heap.size ≤ gb288); clear HB; have HB := n0_; have BK288 := n1_; have GW288 := n2_; have GE288 := n3_; clear n0_ n1_ n2_ n3_; clear hb hbox hg) | ((with_reducible refine gDs (N := 3) rfl ?_); refine bEv ?hg (N := 3) ?hd (cs := #[.int .u64 a1_0, .slice A1_1 l1_1.length c1_1, .slice A1_2 l1_2.length c1_2]) (t := 28) ?hr ?_; (case hd => rfl); (case hg => rfl); (case hr => first | (go_simp; done) | (go_simp; rfl)); intro gb289 hg w8 hbox hb; have n0_ := Asd.mk (kBe (g := gb288) (o := .cells #[.int .u64 a0_0, .slice A0_1 l0_1.length c0_1, .slice A0_2 l0_2.length c0_2] 28 (0, 0)) (kX BK288.out) hb); have n1_ := Asd.mk (bSt (bX HB.out) hb); have n2_ := Asd.mk (hbox); have n3_ := Asd.mk (zX hg (bX HB.out) : w.heap.size ≤ gb289); have n4_ := Asd.mk (zX hg (bX HB.out) : w.heap.size ≤ gb289); have n5_ := Asd.mk ((by rw [hg]; exact Nat.ne_of_lt (blk_lt (g := gb288) (o := .cells #[.int .u64 a0_0, .slice A0_1 l0_1.length c0_1, .slice A0_2 l0_2.length c0_2] 28 (0, 0)) (kX BK288.out)) : gb288 ≠ gb289)); have n6_ := Asd.mk ((by rw [hg]; exact Nat.ne_of_gt (blk_lt (g := gb288) (o := .cells #[.int .u64 a0_0, .slice A0_1 l0_1.length c0_1, .slice A0_2 l0_2.length c0_2] 28 (0, 0)) (kX BK288.out)) : gb289 ≠ gb288)); clear BK288; clear HB; have BK288 := n0_; have HB := n1_; have BK289 := n2_; have GW289 := n3_; have GE289 := n4_; have NB288_289 := n5_; have NB289_288 := n6_; clear n0_ n1_ n2_ n3_ n4_ n5_ n6_; clear hb hbox hg; have hnb9 := NB288_289.out; have hnc9 := NB289_288.out; have hcz10_0 : w8.cell? ⟨gb288, 0, none⟩ = some (.int .u64 a0_0) := (kCe BK288.out 0).trans rfl; have hcz10_1 : w8.cell? ⟨gb288, 1, none⟩ = some (.slice A0_1 l0_1.length c0_1) := (kCe BK288.out 1).trans rfl; have hcz10_2 : w8.cell? ⟨gb288, 2, none⟩ = some (.slice A0_2 l0_2.length c0_2) := (kCe BK288.out 2).trans rfl; have hfz10_0 := kFr BK288.out 0; have hfz10_1 := kFr BK288.out 1; have hfz10_2 := kFr BK288.out 2; have hcz11_0 : w8.cell? ⟨gb289, 0, none⟩ = some (.int .u64 a1_0) := (kCe BK289.out 0).trans rfl; have hcz11_1 : w8.cell? ⟨gb289, 1, none⟩ = some (.slice A1_1 l1_1.length c1_1) := (kCe BK289.out 1).trans rfl; have hcz11_2 : w8.cell? ⟨gb289, 2, none⟩ = some (.slice A1_2 l1_2.length c1_2) := (kCe BK289.out 2).trans rfl; have hfz11_0 := kFr BK289.out 0; have hfz11_1 := kFr BK289.out 1; have hfz11_2 := kFr BK289.out 2) | (go_at_call 39; (with_reducible refine (anvillaw02_parts.calls _ _ l0_1 _ _ l1_1 true _ ?side1 ?side2 ?side3 ?side4 A4.out).mono ?_); (case side1 => exact cX HR0_1.out HB.out); (case side2 => exact HC0_1.out); (case side3 => exact cX HR1_1.out HB.out); (case side4 => exact HC1_1.out); rintro e w12 ⟨rfl, hb⟩; have n0_ := Asd.mk (kBe (g := gb288) (o := .cells #[.int .u64 a0_0, .slice A0_1 l0_1.length c0_1, .slice A0_2 l0_2.length c0_2] 28 (0, 0)) (kX BK288.out) hb); have n1_ := Asd.mk (kBe (g := gb289) (o := .cells #[.int .u64 a1_0, .slice A1_1 l1_1.length c1_1, .slice A1_2 l1_2.length c1_2] 28 (0, 0)) (kX BK289.out) hb); have n2_ := Asd.mk (bSt (bX HB.out) hb); clear BK288; clear BK289; clear HB; have BK288 := n0_; have BK289 := n1_; have HB := n2_; clear n0_ n1_ n2_; (try clear hb); (try clear hb2); (try clear hk); (try clear hi); have hcz13_0 : w12.cell? ⟨gb288, 0, none⟩ = some (.int .u64 a0_0) := (kCe BK288.out 0).trans rfl; have hcz13_1 : w12.cell? ⟨gb288, 1, none⟩ = some (.slice A0_1 l0_1.length c0_1) := (kCe BK288.out 1).trans rfl; have hcz13_2 : w12.cell? ⟨gb288, 2, none⟩ = some (.slice A0_2 l0_2.length c0_2) := (kCe BK288.out 2).trans rfl; have hfz13_0 := kFr BK288.out 0; have hfz13_1 := kFr BK288.out 1; have hfz13_2 := kFr BK288.out 2; have hcz14_0 : w12.cell? ⟨gb289, 0, none⟩ = some (.int .u64 a1_0) := (kCe BK289.out 0).trans rfl; have hcz14_1 : w12.cell? ⟨gb289, 1, none⟩ = some (.slice A1_1 l1_1.length c1_1) := (kCe BK289.out 1).trans rfl; have hcz14_2 : w12.cell? ⟨gb289, 2, none⟩ = some (.slice A1_2 l1_2.length c1_2) := (kCe BK289.out 2).trans rfl; have hfz14_0 := kFr BK289.out 0; have hfz14_1 := kFr BK289.out 1; have hfz14_2 := kFr BK289.out 2) | (go_at_call 40; (with_reducible refine (anvillaw02_names.calls k _ _ l0_2 _ _ l1_2 t291 _ ?side1 ?side2 ?side3 ?side4 A6.out).mono ?_); (case side1 => exact cX HR0_2.out HB.out); (case side2 => exact HC0_2.out); (case side3 => exact cX HR1_2.out HB.out); (case side4 => exact HC1_2.out); rintro e w' ⟨rfl, ⟨nd, rfl⟩⟩))
   go_ret
   exact ⟨rX, bX HB.out⟩
  ·replace c5 := Bool.eq_false_iff.mpr c5
   subst c5
   have H1 : (some false) = some r := by rw [if_neg (show ¬ (false = true) by decide)] at H; exact H
   clear H
   have H := H1
   clear H1
   obtain rfl := Option.some.inj H
   go_enter Tryz.func16, Tryz.ntmps16
   go_wp2_with (first | ((with_reducible refine gDs (N := 2) rfl ?_); refine bEv ?hg (N := 2) ?hd (cs := #[.int .u64 a0_0, .slice A0_1 l0_1.length c0_1, .slice A0_2 l0_2.length c0_2]) (t := 28) ?hr ?_; (case hd => rfl); (case hg => rfl); (case hr => first | (go_simp; done) | (go_simp; rfl)); intro gb288 hg w15 hbox hb; have n0_ := Asd.mk (bSt (bX HB.out) hb); have n1_ := Asd.mk (hbox); have n2_ := Asd.mk (zX hg (bX HB.out) : w.heap.size ≤ gb288); have n3_ := Asd.mk (zX hg (bX HB.out) : w.heap.size ≤ gb288); clear HB; have HB := n0_; have BK288 := n1_; have GW288 := n2_; have GE288 := n3_; clear n0_ n1_ n2_ n3_; clear hb hbox hg) | ((with_reducible refine gDs (N := 3) rfl ?_); refine bEv ?hg (N := 3) ?hd (cs := #[.int .u64 a1_0, .slice A1_1 l1_1.length c1_1, .slice A1_2 l1_2.length c1_2]) (t := 28) ?hr ?_; (case hd => rfl); (case hg => rfl); (case hr => first | (go_simp; done) | (go_simp; rfl)); intro gb289 hg w16 hbox hb; have n0_ := Asd.mk (kBe (g := gb288) (o := .cells #[.int .u64 a0_0, .slice A0_1 l0_1.length c0_1, .slice A0_2 l0_2.length c0_2] 28 (0, 0)) (kX BK288.out) hb); have n1_ := Asd.mk (bSt (bX HB.out) hb); have n2_ := Asd.mk (hbox); have n3_ := Asd.mk (zX hg (bX HB.out) : w.heap.size ≤ gb289); have n4_ := Asd.mk (zX hg (bX HB.out) : w.heap.size ≤ gb289); have n5_ := Asd.mk ((by rw [hg]; exact Nat.ne_of_lt (blk_lt (g := gb288) (o := .cells #[.int .u64 a0_0, .slice A0_1 l0_1.length c0_1, .slice A0_2 l0_2.length c0_2] 28 (0, 0)) (kX BK288.out)) : gb288 ≠ gb289)); have n6_ := Asd.mk ((by rw [hg]; exact Nat.ne_of_gt (blk_lt (g := gb288) (o := .cells #[.int .u64 a0_0, .slice A0_1 l0_1.length c0_1, .slice A0_2 l0_2.length c0_2] 28 (0, 0)) (kX BK288.out)) : gb289 ≠ gb288)); clear BK288; clear HB; have BK288 := n0_; have HB := n1_; have BK289 := n2_; have GW289 := n3_; have GE289 := n4_; have NB288_289 := n5_; have NB289_288 := n6_; clear n0_ n1_ n2_ n3_ n4_ n5_ n6_; clear hb hbox hg; have hnb17 := NB288_289.out; have hnc17 := NB289_288.out; have hcz18_0 : w16.cell? ⟨gb288, 0, none⟩ = some (.int .u64 a0_0) := (kCe BK288.out 0).trans rfl; have hcz18_1 : w16.cell? ⟨gb288, 1, none⟩ = some (.slice A0_1 l0_1.length c0_1) := (kCe BK288.out 1).trans rfl; have hcz18_2 : w16.cell? ⟨gb288, 2, none⟩ = some (.slice A0_2 l0_2.length c0_2) := (kCe BK288.out 2).trans rfl; have hfz18_0 := kFr BK288.out 0; have hfz18_1 := kFr BK288.out 1; have hfz18_2 := kFr BK288.out 2; have hcz19_0 : w16.cell? ⟨gb289, 0, none⟩ = some (.int .u64 a1_0) := (kCe BK289.out 0).trans rfl; have hcz19_1 : w16.cell? ⟨gb289, 1, none⟩ = some (.slice A1_1 l1_1.length c1_1) := (kCe BK289.out 1).trans rfl; have hcz19_2 : w16.cell? ⟨gb289, 2, none⟩ = some (.slice A1_2 l1_2.length c1_2) := (kCe BK289.out 2).trans rfl; have hfz19_0 := kFr BK289.out 0; have hfz19_1 := kFr BK289.out 1; have hfz19_2 := kFr BK289.out 2) | (go_at_call 39; (with_reducible refine (anvillaw02_parts.calls _ _ l0_1 _ _ l1_1 false _ ?side1 ?side2 ?side3 ?side4 A4.out).mono ?_); (case side1 => exact cX HR0_1.out HB.out); (case side2 => exact HC0_1.out); (case side3 => exact cX HR1_1.out HB.out); (case side4 => exact HC1_1.out); rintro e w20 ⟨rfl, hb⟩; have n0_ := Asd.mk (kBe (g := gb288) (o := .cells #[.int .u64 a0_0, .slice A0_1 l0_1.length c0_1, .slice A0_2 l0_2.length c0_2] 28 (0, 0)) (kX BK288.out) hb); have n1_ := Asd.mk (kBe (g := gb289) (o := .cells #[.int .u64 a1_0, .slice A1_1 l1_1.length c1_1, .slice A1_2 l1_2.length c1_2] 28 (0, 0)) (kX BK289.out) hb); have n2_ := Asd.mk (bSt (bX HB.out) hb); clear BK288; clear BK289; clear HB; have BK288 := n0_; have BK289 := n1_; have HB := n2_; clear n0_ n1_ n2_; (try clear hb); (try clear hb2); (try clear hk); (try clear hi)))
   go_ret
   exact ⟨rX, bX HB.out⟩
 ·rw [if_neg c3] at H
  have c3b0 : (a0_0 == a1_0) = false := beq_eq_false_iff_ne.mpr c3
  have c3b1 : (a0_0 != a1_0) = true := bne_iff_ne.mpr c3
  obtain rfl := Option.some.inj H
  go_enter Tryz.func16, Tryz.ntmps16
  go_wp2_with (first | ((with_reducible refine gDs (N := 2) rfl ?_); refine bEv ?hg (N := 2) ?hd (cs := #[.int .u64 a0_0, .slice A0_1 l0_1.length c0_1, .slice A0_2 l0_2.length c0_2]) (t := 28) ?hr ?_; (case hd => rfl); (case hg => rfl); (case hr => first | (go_simp; done) | (go_simp; rfl)); intro gb288 hg w21 hbox hb; have n0_ := Asd.mk (bSt (bX HB.out) hb); have n1_ := Asd.mk (hbox); have n2_ := Asd.mk (zX hg (bX HB.out) : w.heap.size ≤ gb288); have n3_ := Asd.mk (zX hg (bX HB.out) : w.heap.size ≤ gb288); clear HB; have HB := n0_; have BK288 := n1_; have GW288 := n2_; have GE288 := n3_; clear n0_ n1_ n2_ n3_; clear hb hbox hg) | ((with_reducible refine gDs (N := 3) rfl ?_); refine bEv ?hg (N := 3) ?hd (cs := #[.int .u64 a1_0, .slice A1_1 l1_1.length c1_1, .slice A1_2 l1_2.length c1_2]) (t := 28) ?hr ?_; (case hd => rfl); (case hg => rfl); (case hr => first | (go_simp; done) | (go_simp; rfl)); intro gb289 hg w22 hbox hb; have n0_ := Asd.mk (kBe (g := gb288) (o := .cells #[.int .u64 a0_0, .slice A0_1 l0_1.length c0_1, .slice A0_2 l0_2.length c0_2] 28 (0, 0)) (kX BK288.out) hb); have n1_ := Asd.mk (bSt (bX HB.out) hb); have n2_ := Asd.mk (hbox); have n3_ := Asd.mk (zX hg (bX HB.out) : w.heap.size ≤ gb289); have n4_ := Asd.mk (zX hg (bX HB.out) : w.heap.size ≤ gb289); have n5_ := Asd.mk ((by rw [hg]; exact Nat.ne_of_lt (blk_lt (g := gb288) (o := .cells #[.int .u64 a0_0, .slice A0_1 l0_1.length c0_1, .slice A0_2 l0_2.length c0_2] 28 (0, 0)) (kX BK288.out)) : gb288 ≠ gb289)); have n6_ := Asd.mk ((by rw [hg]; exact Nat.ne_of_gt (blk_lt (g := gb288) (o := .cells #[.int .u64 a0_0, .slice A0_1 l0_1.length c0_1, .slice A0_2 l0_2.length c0_2] 28 (0, 0)) (kX BK288.out)) : gb289 ≠ gb288)); clear BK288; clear HB; have BK288 := n0_; have HB := n1_; have BK289 := n2_; have GW289 := n3_; have GE289 := n4_; have NB288_289 := n5_; have NB289_288 := n6_; clear n0_ n1_ n2_ n3_ n4_ n5_ n6_; clear hb hbox hg; have hnb23 := NB288_289.out; have hnc23 := NB289_288.out; have hcz24_0 : w22.cell? ⟨gb288, 0, none⟩ = some (.int .u64 a0_0) := (kCe BK288.out 0).trans rfl; have hcz24_1 : w22.cell? ⟨gb288, 1, none⟩ = some (.slice A0_1 l0_1.length c0_1) := (kCe BK288.out 1).trans rfl; have hcz24_2 : w22.cell? ⟨gb288, 2, none⟩ = some (.slice A0_2 l0_2.length c0_2) := (kCe BK288.out 2).trans rfl; have hfz24_0 := kFr BK288.out 0; have hfz24_1 := kFr BK288.out 1; have hfz24_2 := kFr BK288.out 2; have hcz25_0 : w22.cell? ⟨gb289, 0, none⟩ = some (.int .u64 a1_0) := (kCe BK289.out 0).trans rfl; have hcz25_1 : w22.cell? ⟨gb289, 1, none⟩ = some (.slice A1_1 l1_1.length c1_1) := (kCe BK289.out 1).trans rfl; have hcz25_2 : w22.cell? ⟨gb289, 2, none⟩ = some (.slice A1_2 l1_2.length c1_2) := (kCe BK289.out 2).trans rfl; have hfz25_0 := kFr BK289.out 0; have hfz25_1 := kFr BK289.out 1; have hfz25_2 := kFr BK289.out 2))
  go_ret
  exact ⟨rX, bX HB.out⟩
end Go.Proofs.YtbnlifldnjgpmaaGreatDoor.PWri
