-- BY PROGRAM of this session (the kit's printer, turned by wip/tools/patch_print.py). Lean checks it.
import Derived.Test.YtbnlifldnjgpmaaGreatDoorCGr1
import Derived.Test.YtbnlifldnjgpmaaGreatDoorCWrix1
import Derived.Test.YtbnlifldnjgpmaaGreatDoorCWrix3
namespace Go.Proofs.YtbnlifldnjgpmaaGreatDoor.PWri
open Go.RowKit Go.Proofs.YtbnlifldnjgpmaaGreatDoorW.PrintWords Go.Proofs.YtbnlifldnjgpmaaGreatDoorW.PrintLast Go.Proofs.YtbnlifldnjgpmaaGreatDoorW.PrintMore
attribute [local go_sem] max2_int min2_int max_two min_two max_three min_three max_four min_four   -- for this text's walks alone
set_option linter.unusedVariables false
set_option linter.unusedSimpArgs false
attribute [local go_sem high] eqA82
mutual
def anvilref02_table.j0 : Nat → List Int → Int → Int → Bool → Option (Int × Int × Int × Int × Int × Int)
 | 0, _, _, _, _ => none
 | k + 1, x0, x7, x8, x27 => if x27 = true then (some ((-1), 0, 0, 0, 0, 0)) else ((anvilref02_value.f k x0 58 2).bind fun t178 => (if t178 = 64 then ((anvilref02_room.f x0 x8 (IntKind.u64.wrap (wrap64 (64 * x7)))).bind fun t179 => (if t179 = true then (anvilref02_table.l0 k x0 x7 x8 (-1) (wrap64 (x7 - 1))) else (some ((-1), 0, 0, 0, 40, 20)))) else (some ((-1), 0, 0, 0, 58, 22))))
def anvilref02_table.l0 : Nat → List Int → Int → Int → Int → Int → Option (Int × Int × Int × Int × Int × Int)
 | 0, _, _, _, _, _ => none
 | k + 1, x0, x7, x8, x9, x10 => if x10 ≥ 0 then ((anvilref02_value.f k x0 (wrap64 ((wrap64 ((wrap64 (x8)) + (wrap64 (64 * x10)))) + 4)) 4).bind fun t180 => (if t180 = 2 then (anvilref02_table.l0 k x0 x7 x8 (wrap64 ((wrap64 (x8)) + (wrap64 (64 * x10)))) (wrap64 (x10 - 1))) else (anvilref02_table.l0 k x0 x7 x8 x9 (wrap64 (x10 - 1))))) else (if x9 < 0 then (some ((-1), 0, 0, 0, 0, 0)) else ((anvilref02_value.f k x0 (wrap64 (x9 + 32)) 8).bind fun t181 => ((anvilref02_value.f k x0 (wrap64 (x9 + 24)) 8).bind fun t182 => ((anvilref02_value.f k x0 (wrap64 (x9 + 40)) 4).bind fun t183 => ((anvilref02_value.f k x0 (wrap64 (x9 + 56)) 8).bind fun t184 => (if t184 = 24 then (if (Int.tmod t181 24) = 0 then ((anvilref02_room.f x0 t182 t181).bind fun t185 => (if t185 = true then (if t183 ≥ (IntKind.u64.wrap (x7)) then (some ((-1), 0, 0, 0, wrap64 (x9 + 40), 25)) else ((anvilref02_value.f k x0 (wrap64 ((wrap64 ((wrap64 (x8)) + (wrap64 (64 * (wrap64 (t183)))))) + 4)) 4).bind fun t186 => (if t186 = 3 then ((anvilref02_value.f k x0 (wrap64 ((wrap64 ((wrap64 (x8)) + (wrap64 (64 * (wrap64 (t183)))))) + 24)) 8).bind fun t187 => ((anvilref02_value.f k x0 (wrap64 ((wrap64 ((wrap64 (x8)) + (wrap64 (64 * (wrap64 (t183)))))) + 32)) 8).bind fun t188 => ((anvilref02_room.f x0 t187 t188).bind fun t189 => (if t189 = true then (some (wrap64 (t182), wrap64 (t181), wrap64 (t187), wrap64 (t188), 0, 0)) else (some ((-1), 0, 0, 0, wrap64 ((wrap64 ((wrap64 (x8)) + (wrap64 (64 * (wrap64 (t183)))))) + 24), 20)))))) else (some ((-1), 0, 0, 0, wrap64 (x9 + 40), 25))))) else (some ((-1), 0, 0, 0, wrap64 (x9 + 24), 20)))) else (some ((-1), 0, 0, 0, wrap64 (x9 + 32), 25))) else (some ((-1), 0, 0, 0, wrap64 (x9 + 56), 25))))))))
end
def anvilref02_table.f (k : Nat) (l0 : List Int) : Option (Int × Int × Int × Int × Int × Int) := (anvilref02_value.f k l0 60 2).bind fun t176 => ((anvilref02_value.f k l0 40 8).bind fun t177 => (if (wrap64 (t176)) = 0 then (anvilref02_table.j0 k l0 (wrap64 (t176)) t177 true) else (anvilref02_table.j0 k l0 (wrap64 (t176)) t177 (t177 == 0))))
theorem anvilref02_table.mono_l : ∀ k, (∀ y0 y1 y2 y3, LeO (anvilref02_table.j0 k y0 y1 y2 y3) (anvilref02_table.j0 (k + 1) y0 y1 y2 y3)) ∧ (∀ y0 y1 y2 y3 y4, LeO (anvilref02_table.l0 k y0 y1 y2 y3 y4) (anvilref02_table.l0 (k + 1) y0 y1 y2 y3 y4))
 | 0 => ⟨fun _ _ _ _ r h => by simp [anvilref02_table.j0] at h, fun _ _ _ _ _ r h => by simp [anvilref02_table.l0] at h⟩
 | k + 1 => by
  obtain ⟨ih0, ih1⟩ := anvilref02_table.mono_l k
  refine ⟨?_, ?_⟩
  ·intro y0 y1 y2 y3
   unfold anvilref02_table.j0
   repeat' first
   | (with_reducible exact ih0 _ _ _ _)
   | (with_reducible exact ih1 _ _ _ _ _)
   | (with_reducible exact anvilref02_value.mono _ _ _ _)
   | (with_reducible exact LeO.refl _)
   | (with_reducible exact LeO.none _)
   | (with_reducible refine LeO.ite ?_ ?_)
   | (with_reducible refine LeO.bind ?_ (fun _ => ?_))
   | exact ih0 _ _ _ _
   | exact ih1 _ _ _ _ _
   | exact anvilref02_value.mono _ _ _ _
   | exact LeO.none _
   | refine LeO.ite ?_ ?_
   | refine LeO.bind ?_ (fun _ => ?_)
  ·intro y0 y1 y2 y3 y4
   unfold anvilref02_table.l0
   repeat' first
   | (with_reducible exact ih0 _ _ _ _)
   | (with_reducible exact ih1 _ _ _ _ _)
   | (with_reducible exact anvilref02_value.mono _ _ _ _)
   | (with_reducible exact LeO.refl _)
   | (with_reducible exact LeO.none _)
   | (with_reducible refine LeO.ite ?_ ?_)
   | (with_reducible refine LeO.bind ?_ (fun _ => ?_))
   | exact ih0 _ _ _ _
   | exact ih1 _ _ _ _ _
   | exact anvilref02_value.mono _ _ _ _
   | exact LeO.none _
   | refine LeO.ite ?_ ?_
   | refine LeO.bind ?_ (fun _ => ?_)
theorem anvilref02_table.mono : ∀ a0 k, LeO (anvilref02_table.f k a0) (anvilref02_table.f (k + 1) a0) := by
 intro a0 k
 obtain ⟨ih0, ih1⟩ := anvilref02_table.mono_l k
 unfold anvilref02_table.f
 repeat' first
  | (with_reducible exact ih0 _ _ _ _)
  | (with_reducible exact ih1 _ _ _ _ _)
  | (with_reducible exact anvilref02_value.mono _ _ _ _)
  | (with_reducible exact LeO.refl _)
  | (with_reducible exact LeO.none _)
  | (with_reducible refine LeO.ite ?_ ?_)
  | (with_reducible refine LeO.bind ?_ (fun _ => ?_))
  | exact ih0 _ _ _ _
  | exact ih1 _ _ _ _ _
  | exact anvilref02_value.mono _ _ _ _
  | exact LeO.none _
  | refine LeO.ite ?_ ?_
  | refine LeO.bind ?_ (fun _ => ?_)
set_option maxHeartbeats 8000000 in
set_option maxRecDepth 100000 in
theorem anvilref02_table.calls (k : Nat) (A0 : Option Addr) (c0 : Nat) (l0 : List Int) (r1 : Int) (r2 : Int) (r3 : Int) (r4 : Int) (r5 : Int) (r6 : Int) (w : World) (hr0 : Kd.C (Kd.int .u8) w A0 l0.length l0) (hc0 : l0.length ≤ c0) (h : anvilref02_table.f k l0 = some (r1, r2, r3, r4, r5, r6)) :
 Calls Tryz.prog 66 #[.slice A0 l0.length c0] w fun e w' => e = .returned (.tuple #[.int .i64 r1, .int .i64 r2, .int .i64 r3, .int .i64 r4, .agg #[.int .i64 r5, .int .i64 r6]]) ∧ Below w.heap.size w w' := by
 have hu66 := Tryz.underlying66
 have HR0 := Asd.mk hr0
 have HC0 := Asd.mk hc0
 clear hr0 hc0
 have HB := Asd.mk (Below.refl w.heap.size w)
 have H : ((anvilref02_value.f k l0 60 2).bind fun t176 => ((anvilref02_value.f k l0 40 8).bind fun t177 => (if (wrap64 (t176)) = 0 then (anvilref02_table.j0 k l0 (wrap64 (t176)) t177 true) else (anvilref02_table.j0 k l0 (wrap64 (t176)) t177 (t177 == 0))))) = some (r1, r2, r3, r4, r5, r6) := h
 clear h
 replace H := Option.bind_eq_some_iff.mp H
 obtain ⟨t176, A20, H⟩ := H
 have A2 := Asd.mk A20
 clear A20
 replace H := Option.bind_eq_some_iff.mp H
 obtain ⟨t177, A30, H⟩ := H
 have A3 := Asd.mk A30
 clear A30
 have HC4 := Asd.mk H
 clear H
 go_enter Tryz.func66, Tryz.ntmps66
 go_upto_region 3 with (first | ((with_reducible refine gDs (N := 6) rfl ?_); refine bEv ?hg (N := 6) ?hd (cs := #[.int .i64 0, .int .i64 0]) (t := 66) ?hr ?_; (case hd => rfl); (case hg => rfl); (case hr => first | (go_simp; done) | (go_simp; rfl)); intro gb175 hg w5 hbox hb; have n0_ := Asd.mk (bSt (bX HB.out) hb); have n1_ := Asd.mk (hbox); have n2_ := Asd.mk (zX hg (bX HB.out) : w.heap.size ≤ gb175); have n3_ := Asd.mk (zX hg (bX HB.out) : w.heap.size ≤ gb175); clear HB; have HB := n0_; have BK175 := n1_; have GW175 := n2_; have GE175 := n3_; clear n0_ n1_ n2_ n3_; clear hb hbox hg) | ((with_reducible refine gate_callee (f := 34) rfl ?_); refine goesL_ (some 18) rfl rfl Tryz.func34 (by kernel_rfl) rfl #[.slice A0 l0.length c0, .int .i64 60, .int .i64 2] rfl gX ?_; (with_reducible refine (anvilref02_value.calls k _ _ l0 60 2 t176 _ ?side1 ?side2 A2.out).mono ?_); (case side1 => exact cX HR0.out HB.out); (case side2 => exact HC0.out); rintro e w' ⟨rfl, ⟨nd, rfl⟩⟩; refine ⟨_, rfl, ?_⟩) | ((with_reducible refine gate_callee (f := 34) rfl ?_); refine goesL_ (some 21) rfl rfl Tryz.func34 (by kernel_rfl) rfl #[.slice A0 l0.length c0, .int .i64 40, .int .i64 8] rfl gX ?_; (with_reducible refine (anvilref02_value.calls k _ _ l0 40 8 t177 _ ?side1 ?side2 A3.out).mono ?_); (case side1 => exact cX HR0.out HB.out); (case side2 => exact HC0.out); rintro e w' ⟨rfl, ⟨nd, rfl⟩⟩; refine ⟨_, rfl, ?_⟩))
 (try simp only [Act.put, List.setIfInBounds_toArray, List.set_cons_zero, List.set_cons_succ])
 go_cut [27] (fun v27 wc => ∃ (kq : Nat) (x27_3 : Bool), v27 = .bool x27_3 ∧ Asd (anvilref02_table.j0 kq l0 (wrap64 (t176)) t177 x27_3 = some (r1, r2, r3, r4, r5, r6)) ∧ Asd (kq ≤ k) ∧ Asd (wc.heap[gb175]? = some (.cells #[.int .i64 0, .int .i64 0] 66 (0, 0))) ∧ Asd (Below w.heap.size w wc))
 case first =>
  have H := HC4.out
  clear HC4
  by_cases c6 : (wrap64 (t176)) = 0
  ·rw [if_pos c6] at H
   have c6b0 : ((wrap64 (t176)) == 0) = true := beq_iff_eq.mpr c6
   have c6b1 : ((wrap64 (t176)) != 0) = false := bne_eq_false_iff_eq.mpr c6
   clear c6
   (first | rw [c6b0] | (simp only [i64_w, i32_w]; rw [c6b0]) | rw [c6b1] | skip)
   have H' := Asd.mk H
   clear H
   go_wp2
   go_meet
   case rel => exact ⟨_, (true), eX, H', ⟨by first | omega | exact Nat.le_refl _⟩, ⟨kX BK175.out⟩, ⟨bX HB.out⟩⟩
  ·rw [if_neg c6] at H
   have c6b0 : ((wrap64 (t176)) == 0) = false := beq_eq_false_iff_ne.mpr c6
   have c6b1 : ((wrap64 (t176)) != 0) = true := bne_iff_ne.mpr c6
   (first | rw [c6b0] | (simp only [i64_w, i32_w]; rw [c6b0]) | rw [c6b1] | skip)
   have H' := Asd.mk H
   clear H
   go_wp2
   go_meet
   case rel => exact ⟨_, ((t177 == 0)), eX, H', ⟨by first | omega | exact Nat.le_refl _⟩, ⟨kX BK175.out⟩, ⟨bX HB.out⟩⟩
 case rest =>
  clear HC4
  try clear p2
  try clear c3
  try clear c6
  try clear c6b0
  try clear c6b1
  try clear p6
  obtain ⟨kq, x27_3, rfl, HA, HJ3, BK175, HB⟩ := hcut
  cases kq with
  | zero => exact absurd HA.out (by simp [anvilref02_table.j0])
  | succ kj3 =>
   have H := HA.out
   clear HA
   simp only [anvilref02_table.j0] at H
   by_cases c7 : x27_3 = true
   ·subst c7
    have H1 : (some ((-1), 0, 0, 0, 0, 0)) = some (r1, r2, r3, r4, r5, r6) := by rw [if_pos rfl] at H; exact H
    clear H
    have H := H1
    clear H1
    simp only [Option.some.injEq, Prod.mk.injEq] at H
    obtain ⟨rfl, rfl, rfl, rfl, rfl, rfl⟩ := H
    have hcz8_0 : wc.cell? ⟨gb175, 0, none⟩ = some (.int .i64 0) := (kCe BK175.out 0).trans rfl
    have hcz8_1 : wc.cell? ⟨gb175, 1, none⟩ = some (.int .i64 0) := (kCe BK175.out 1).trans rfl
    have hfz8_0 := kFr BK175.out 0
    have hfz8_1 := kFr BK175.out 1
    go_wp2
    refine bodyPost_ret (results_list (rs := [.tmp 2, .tmp 3, .tmp 4, .tmp 5, .cell 6 66]) rfl (by simp) (.tmp (.tmp (.tmp (.tmp (.cell gb175 66 #[.int .i64 0, .int .i64 0] (0, 0) _ rfl (by (with_reducible repeat (first | refine kDn ?_ _ | refine kDr ?_ | refine kAl ?_ _)); refine kPu (cs := #[.int .i64 0, .int .i64 0]) ?_ 1 _ rfl; (with_reducible repeat (first | refine kDn ?_ _ | refine kDr ?_ | refine kAl ?_ _)); refine kPu (cs := #[.int .i64 0, .int .i64 0]) ?_ 0 _ rfl; (with_reducible repeat (first | refine kDn ?_ _ | refine kDr ?_ | refine kAl ?_ _)); exact BK175.out) Tryz.underlying66 rfl (by kernel_rfl) .nil)))))) rfl ?_
    exact ⟨rX, bX HB.out⟩
   ·replace c7 := Bool.eq_false_iff.mpr c7
    subst c7
    have H1 : ((anvilref02_value.f kj3 l0 58 2).bind fun t178 => (if t178 = 64 then ((anvilref02_room.f l0 t177 (IntKind.u64.wrap (wrap64 (64 * (wrap64 (t176)))))).bind fun t179 => (if t179 = true then (anvilref02_table.l0 kj3 l0 (wrap64 (t176)) t177 (-1) (wrap64 ((wrap64 (t176)) - 1))) else (some ((-1), 0, 0, 0, 40, 20)))) else (some ((-1), 0, 0, 0, 58, 22)))) = some (r1, r2, r3, r4, r5, r6) := by rw [if_neg (show ¬ (false = true) by decide)] at H; exact H
    clear H
    have H := H1
    clear H1
    replace H := Option.bind_eq_some_iff.mp H
    obtain ⟨t178, A90, H⟩ := H
    have A9 := Asd.mk A90
    clear A90
    by_cases c10 : t178 = 64
    ·rw [if_pos c10] at H
     have c10b0 : (t178 == 64) = true := beq_iff_eq.mpr c10
     have c10b1 : (t178 != 64) = false := bne_eq_false_iff_eq.mpr c10
     clear c10
     replace H := Option.bind_eq_some_iff.mp H
     obtain ⟨t179, A110, H⟩ := H
     have A11 := Asd.mk A110
     clear A110
     by_cases c12 : t179 = true
     ·subst c12
      have H1 : (anvilref02_table.l0 kj3 l0 (wrap64 (t176)) t177 (-1) (wrap64 ((wrap64 (t176)) - 1))) = some (r1, r2, r3, r4, r5, r6) := by rw [if_pos rfl] at H; exact H
      clear H
      have H := H1
      clear H1
      have H' := Asd.mk H
      clear H
      go_wp2_with (first | ((with_reducible refine gate_callee (f := 34) rfl ?_); refine goesL_ (some 30) rfl rfl Tryz.func34 (by kernel_rfl) rfl #[.slice A0 l0.length c0, .int .i64 58, .int .i64 2] rfl gX ?_; (with_reducible refine (anvilref02_value.calls kj3 _ _ l0 58 2 t178 _ ?side1 ?side2 A9.out).mono ?_); (case side1 => exact cX HR0.out HB.out); (case side2 => exact HC0.out); rintro e w' ⟨rfl, ⟨nd, rfl⟩⟩; refine ⟨_, rfl, ?_⟩) | ((with_reducible refine gate_callee (f := 62) rfl ?_); refine goesL_ (some 38) rfl rfl Tryz.func62 (by kernel_rfl) rfl #[.slice A0 l0.length c0, .int .u64 t177, .int .u64 (IntKind.u64.wrap (wrap64 (64 * (wrap64 (t176)))))] rfl gX ?_; (with_reducible refine (anvilref02_room.calls _ _ l0 t177 (IntKind.u64.wrap (wrap64 (64 * (wrap64 (t176))))) true _ ?side1 ?side2 A11.out).mono ?_); (case side1 => exact cX HR0.out HB.out); (case side2 => exact HC0.out); rintro e w' ⟨rfl, ⟨nd, rfl⟩⟩; refine ⟨_, rfl, ?_⟩))
      go_loopg [9, 10] kj3 (fun kq v9 v10 w' => ∃ (x9_2 : Int) (x10_2 : Int), v9 = .int .i64 x9_2 ∧ v10 = .int .i64 x10_2 ∧ Asd (anvilref02_table.l0 kq l0 (wrap64 (t176)) t177 x9_2 x10_2 = some (r1, r2, r3, r4, r5, r6)) ∧ Asd (kq ≤ kj3) ∧ Asd (w'.heap[gb175]? = some (.cells #[.int .i64 0, .int .i64 0] 66 (0, 0))) ∧ Asd (Below w.heap.size w w'))
      case atStart => exact ⟨((-1)), (wrap64 ((wrap64 (t176)) - 1)), eX, eX, H', ⟨Nat.le_refl _⟩, ⟨kX BK175.out⟩, ⟨bX HB.out⟩⟩
      case round =>
       clear H'
       try clear c1
       try clear p2
       try clear c3
       try clear c6
       try clear c6b0
       try clear c6b1
       try clear p6
       try clear c7
       try clear c10
       try clear c10b0
       try clear c10b1
       try clear c12
       try clear hcz8_0
       try clear hcz8_1
       try clear hfz8_0
       try clear hfz8_1
       try clear p2
       try clear p6
       obtain ⟨x9_2, x10_2, rfl, rfl, HA, HK2, BK175, HB⟩ := hrel
       cases gk with
       | zero => exact absurd HA.out (by simp [anvilref02_table.l0])
       | succ k2 =>
        have H := HA.out
        clear HA
        simp only [anvilref02_table.l0] at H
        by_cases c13 : x10_2 ≥ 0
        ·rw [if_pos c13] at H
         have c13b0 : decide (0 ≤ x10_2) = true := decide_eq_true c13
         clear c13
         replace H := Option.bind_eq_some_iff.mp H
         obtain ⟨t180, A140, H⟩ := H
         have A14 := Asd.mk A140
         clear A140
         by_cases c15 : t180 = 2
         ·rw [if_pos c15] at H
          have c15b0 : (t180 == 2) = true := beq_iff_eq.mpr c15
          have c15b1 : (t180 != 2) = false := bne_eq_false_iff_eq.mpr c15
          clear c15
          have H' := Asd.mk H
          clear H
          go_wp2_with (first | ((with_reducible refine gate_callee (f := 34) rfl ?_); refine goesL_ (some 54) rfl rfl Tryz.func34 (by kernel_rfl) rfl #[.slice A0 l0.length c0, .int .i64 (wrap64 ((wrap64 ((wrap64 (t177)) + (wrap64 (64 * x10_2)))) + 4)), .int .i64 4] rfl gX ?_; (with_reducible refine (anvilref02_value.calls k2 _ _ l0 (wrap64 ((wrap64 ((wrap64 (t177)) + (wrap64 (64 * x10_2)))) + 4)) 4 t180 _ ?side1 ?side2 A14.out).mono ?_); (case side1 => exact cX HR0.out HB.out); (case side2 => exact HC0.out); rintro e w' ⟨rfl, ⟨nd, rfl⟩⟩; refine ⟨_, rfl, ?_⟩))
          go_roundg k2
          case measure => have := HJ3.out; have := HK2.out; omega
          case rel => exact ⟨(wrap64 ((wrap64 (t177)) + (wrap64 (64 * x10_2)))), (wrap64 (x10_2 - 1)), eX, eX, H', ⟨by have := HJ3.out; have := HK2.out; omega⟩, ⟨kX BK175.out⟩, ⟨bX HB.out⟩⟩
         ·rw [if_neg c15] at H
          have c15b0 : (t180 == 2) = false := beq_eq_false_iff_ne.mpr c15
          have c15b1 : (t180 != 2) = true := bne_iff_ne.mpr c15
          have H' := Asd.mk H
          clear H
          go_wp2_with (first | ((with_reducible refine gate_callee (f := 34) rfl ?_); refine goesL_ (some 54) rfl rfl Tryz.func34 (by kernel_rfl) rfl #[.slice A0 l0.length c0, .int .i64 (wrap64 ((wrap64 ((wrap64 (t177)) + (wrap64 (64 * x10_2)))) + 4)), .int .i64 4] rfl gX ?_; (with_reducible refine (anvilref02_value.calls k2 _ _ l0 (wrap64 ((wrap64 ((wrap64 (t177)) + (wrap64 (64 * x10_2)))) + 4)) 4 t180 _ ?side1 ?side2 A14.out).mono ?_); (case side1 => exact cX HR0.out HB.out); (case side2 => exact HC0.out); rintro e w' ⟨rfl, ⟨nd, rfl⟩⟩; refine ⟨_, rfl, ?_⟩))
          go_roundg k2
          case measure => have := HJ3.out; have := HK2.out; omega
          case rel => exact ⟨(x9_2), (wrap64 (x10_2 - 1)), eX, eX, H', ⟨by have := HJ3.out; have := HK2.out; omega⟩, ⟨kX BK175.out⟩, ⟨bX HB.out⟩⟩
        ·rw [if_neg c13] at H
         have c13b0 : decide (0 ≤ x10_2) = false := decide_eq_false c13
         clear c13
         by_cases c16 : x9_2 < 0
         ·rw [if_pos c16] at H
          have c16b0 : decide (x9_2 < 0) = true := decide_eq_true c16
          clear c16
          simp only [Option.some.injEq, Prod.mk.injEq] at H
          obtain ⟨rfl, rfl, rfl, rfl, rfl, rfl⟩ := H
          have hcz17_0 : wr.cell? ⟨gb175, 0, none⟩ = some (.int .i64 0) := (kCe BK175.out 0).trans rfl
          have hcz17_1 : wr.cell? ⟨gb175, 1, none⟩ = some (.int .i64 0) := (kCe BK175.out 1).trans rfl
          have hfz17_0 := kFr BK175.out 0
          have hfz17_1 := kFr BK175.out 1
          go_wp2
          refine bodyPost_ret (results_list (rs := [.tmp 2, .tmp 3, .tmp 4, .tmp 5, .cell 6 66]) rfl (by simp) (.tmp (.tmp (.tmp (.tmp (.cell gb175 66 #[.int .i64 0, .int .i64 0] (0, 0) _ rfl (by (with_reducible repeat (first | refine kDn ?_ _ | refine kDr ?_ | refine kAl ?_ _)); refine kPu (cs := #[.int .i64 0, .int .i64 0]) ?_ 1 _ rfl; (with_reducible repeat (first | refine kDn ?_ _ | refine kDr ?_ | refine kAl ?_ _)); refine kPu (cs := #[.int .i64 0, .int .i64 0]) ?_ 0 _ rfl; (with_reducible repeat (first | refine kDn ?_ _ | refine kDr ?_ | refine kAl ?_ _)); exact BK175.out) Tryz.underlying66 rfl (by kernel_rfl) .nil)))))) rfl ?_
          exact ⟨rX, bX HB.out⟩
         ·rw [if_neg c16] at H
          have c16b0 : decide (x9_2 < 0) = false := decide_eq_false c16
          clear c16
          replace H := Option.bind_eq_some_iff.mp H
          obtain ⟨t181, A180, H⟩ := H
          have A18 := Asd.mk A180
          clear A180
          replace H := Option.bind_eq_some_iff.mp H
          obtain ⟨t182, A190, H⟩ := H
          have A19 := Asd.mk A190
          clear A190
          replace H := Option.bind_eq_some_iff.mp H
          obtain ⟨t183, A200, H⟩ := H
          have A20 := Asd.mk A200
          clear A200
          replace H := Option.bind_eq_some_iff.mp H
          obtain ⟨t184, A210, H⟩ := H
          have A21 := Asd.mk A210
          clear A210
          by_cases c22 : t184 = 24
          ·rw [if_pos c22] at H
           have c22b0 : (t184 == 24) = true := beq_iff_eq.mpr c22
           have c22b1 : (t184 != 24) = false := bne_eq_false_iff_eq.mpr c22
           clear c22
           by_cases c23 : (Int.tmod t181 24) = 0
           ·rw [if_pos c23] at H
            have c23b0 : ((Int.tmod t181 24) == 0) = true := beq_iff_eq.mpr c23
            have c23b1 : ((Int.tmod t181 24) != 0) = false := bne_eq_false_iff_eq.mpr c23
            clear c23
            replace H := Option.bind_eq_some_iff.mp H
            obtain ⟨t185, A240, H⟩ := H
            have A24 := Asd.mk A240
            clear A240
            by_cases c25 : t185 = true
            ·subst c25
             have H1 : (if t183 ≥ (IntKind.u64.wrap ((wrap64 (t176)))) then (some ((-1), 0, 0, 0, wrap64 (x9_2 + 40), 25)) else ((anvilref02_value.f k2 l0 (wrap64 ((wrap64 ((wrap64 (t177)) + (wrap64 (64 * (wrap64 (t183)))))) + 4)) 4).bind fun t186 => (if t186 = 3 then ((anvilref02_value.f k2 l0 (wrap64 ((wrap64 ((wrap64 (t177)) + (wrap64 (64 * (wrap64 (t183)))))) + 24)) 8).bind fun t187 => ((anvilref02_value.f k2 l0 (wrap64 ((wrap64 ((wrap64 (t177)) + (wrap64 (64 * (wrap64 (t183)))))) + 32)) 8).bind fun t188 => ((anvilref02_room.f l0 t187 t188).bind fun t189 => (if t189 = true then (some (wrap64 (t182), wrap64 (t181), wrap64 (t187), wrap64 (t188), 0, 0)) else (some ((-1), 0, 0, 0, wrap64 ((wrap64 ((wrap64 (t177)) + (wrap64 (64 * (wrap64 (t183)))))) + 24), 20)))))) else (some ((-1), 0, 0, 0, wrap64 (x9_2 + 40), 25))))) = some (r1, r2, r3, r4, r5, r6) := by rw [if_pos rfl] at H; exact H
             clear H
             have H := H1
             clear H1
             by_cases c26 : t183 ≥ (IntKind.u64.wrap ((wrap64 (t176))))
             ·rw [if_pos c26] at H
              have c26b0 : decide ((IntKind.u64.wrap ((wrap64 (t176)))) ≤ t183) = true := decide_eq_true c26
              clear c26
              simp only [Option.some.injEq, Prod.mk.injEq] at H
              obtain ⟨rfl, rfl, rfl, rfl, rfl, rfl⟩ := H
              go_wp2_with (first | ((with_reducible refine gate_callee (f := 34) rfl ?_); refine goesL_ (some 67) rfl rfl Tryz.func34 (by kernel_rfl) rfl #[.slice A0 l0.length c0, .int .i64 (wrap64 (x9_2 + 32)), .int .i64 8] rfl gX ?_; (with_reducible refine (anvilref02_value.calls k2 _ _ l0 (wrap64 (x9_2 + 32)) 8 t181 _ ?side1 ?side2 A18.out).mono ?_); (case side1 => exact cX HR0.out HB.out); (case side2 => exact HC0.out); rintro e w' ⟨rfl, ⟨nd, rfl⟩⟩; refine ⟨_, rfl, ?_⟩; skip) | ((with_reducible refine gate_callee (f := 34) rfl ?_); refine goesL_ (some 71) rfl rfl Tryz.func34 (by kernel_rfl) rfl #[.slice A0 l0.length c0, .int .i64 (wrap64 (x9_2 + 24)), .int .i64 8] rfl gX ?_; (with_reducible refine (anvilref02_value.calls k2 _ _ l0 (wrap64 (x9_2 + 24)) 8 t182 _ ?side1 ?side2 A19.out).mono ?_); (case side1 => exact cX HR0.out HB.out); (case side2 => exact HC0.out); rintro e w' ⟨rfl, ⟨nd, rfl⟩⟩; refine ⟨_, rfl, ?_⟩; skip) | ((with_reducible refine gate_callee (f := 34) rfl ?_); refine goesL_ (some 75) rfl rfl Tryz.func34 (by kernel_rfl) rfl #[.slice A0 l0.length c0, .int .i64 (wrap64 (x9_2 + 40)), .int .i64 4] rfl gX ?_; (with_reducible refine (anvilref02_value.calls k2 _ _ l0 (wrap64 (x9_2 + 40)) 4 t183 _ ?side1 ?side2 A20.out).mono ?_); (case side1 => exact cX HR0.out HB.out); (case side2 => exact HC0.out); rintro e w' ⟨rfl, ⟨nd, rfl⟩⟩; refine ⟨_, rfl, ?_⟩; skip) | ((with_reducible refine gate_callee (f := 34) rfl ?_); refine goesL_ (some 79) rfl rfl Tryz.func34 (by kernel_rfl) rfl #[.slice A0 l0.length c0, .int .i64 (wrap64 (x9_2 + 56)), .int .i64 8] rfl gX ?_; (with_reducible refine (anvilref02_value.calls k2 _ _ l0 (wrap64 (x9_2 + 56)) 8 t184 _ ?side1 ?side2 A21.out).mono ?_); (case side1 => exact cX HR0.out HB.out); (case side2 => exact HC0.out); rintro e w' ⟨rfl, ⟨nd, rfl⟩⟩; refine ⟨_, rfl, ?_⟩; skip) | ((with_reducible refine gate_callee (f := 62) rfl ?_); refine goesL_ (some 93) rfl rfl Tryz.func62 (by kernel_rfl) rfl #[.slice A0 l0.length c0, .int .u64 t182, .int .u64 t181] rfl gX ?_; (with_reducible refine (anvilref02_room.calls _ _ l0 t182 t181 true _ ?side1 ?side2 A24.out).mono ?_); (case side1 => exact cX HR0.out HB.out); (case side2 => exact HC0.out); rintro e w' ⟨rfl, ⟨nd, rfl⟩⟩; refine ⟨_, rfl, ?_⟩; skip; have hcz27_0 : wr.cell? ⟨gb175, 0, none⟩ = some (.int .i64 0) := (kCe BK175.out 0).trans rfl; have hcz27_1 : wr.cell? ⟨gb175, 1, none⟩ = some (.int .i64 0) := (kCe BK175.out 1).trans rfl; have hfz27_0 := kFr BK175.out 0; have hfz27_1 := kFr BK175.out 1))
              refine bodyPost_ret (results_list (rs := [.tmp 2, .tmp 3, .tmp 4, .tmp 5, .cell 6 66]) rfl (by simp) (.tmp (.tmp (.tmp (.tmp (.cell gb175 66 #[.int .i64 (wrap64 (x9_2 + 40)), .int .i64 25] (0, 0) _ rfl (by (with_reducible repeat (first | refine kDn ?_ _ | refine kDr ?_ | refine kAl ?_ _)); refine kPu (cs := #[.int .i64 (wrap64 (x9_2 + 40)), .int .i64 0]) ?_ 1 _ rfl; (with_reducible repeat (first | refine kDn ?_ _ | refine kDr ?_ | refine kAl ?_ _)); refine kPu (cs := #[.int .i64 0, .int .i64 0]) ?_ 0 _ rfl; (with_reducible repeat (first | refine kDn ?_ _ | refine kDr ?_ | refine kAl ?_ _)); exact BK175.out) Tryz.underlying66 rfl (by kernel_rfl) .nil)))))) rfl ?_
              exact ⟨rX, bX HB.out⟩
             ·rw [if_neg c26] at H
              have c26b0 : decide ((IntKind.u64.wrap ((wrap64 (t176)))) ≤ t183) = false := decide_eq_false c26
              clear c26
              replace H := Option.bind_eq_some_iff.mp H
              obtain ⟨t186, A280, H⟩ := H
              have A28 := Asd.mk A280
              clear A280
              by_cases c29 : t186 = 3
              ·rw [if_pos c29] at H
               have c29b0 : (t186 == 3) = true := beq_iff_eq.mpr c29
               have c29b1 : (t186 != 3) = false := bne_eq_false_iff_eq.mpr c29
               clear c29
               replace H := Option.bind_eq_some_iff.mp H
               obtain ⟨t187, A300, H⟩ := H
               have A30 := Asd.mk A300
               clear A300
               replace H := Option.bind_eq_some_iff.mp H
               obtain ⟨t188, A310, H⟩ := H
               have A31 := Asd.mk A310
               clear A310
               replace H := Option.bind_eq_some_iff.mp H
               obtain ⟨t189, A320, H⟩ := H
               have A32 := Asd.mk A320
               clear A320
               by_cases c33 : t189 = true
               ·subst c33
                have H1 : (some (wrap64 (t182), wrap64 (t181), wrap64 (t187), wrap64 (t188), 0, 0)) = some (r1, r2, r3, r4, r5, r6) := by rw [if_pos rfl] at H; exact H
                clear H
                have H := H1
                clear H1
                simp only [Option.some.injEq, Prod.mk.injEq] at H
                obtain ⟨rfl, rfl, rfl, rfl, rfl, rfl⟩ := H
                go_wp2_with (first | ((with_reducible refine gate_callee (f := 34) rfl ?_); refine goesL_ (some 67) rfl rfl Tryz.func34 (by kernel_rfl) rfl #[.slice A0 l0.length c0, .int .i64 (wrap64 (x9_2 + 32)), .int .i64 8] rfl gX ?_; (with_reducible refine (anvilref02_value.calls k2 _ _ l0 (wrap64 (x9_2 + 32)) 8 t181 _ ?side1 ?side2 A18.out).mono ?_); (case side1 => exact cX HR0.out HB.out); (case side2 => exact HC0.out); rintro e w' ⟨rfl, ⟨nd, rfl⟩⟩; refine ⟨_, rfl, ?_⟩; skip) | ((with_reducible refine gate_callee (f := 34) rfl ?_); refine goesL_ (some 71) rfl rfl Tryz.func34 (by kernel_rfl) rfl #[.slice A0 l0.length c0, .int .i64 (wrap64 (x9_2 + 24)), .int .i64 8] rfl gX ?_; (with_reducible refine (anvilref02_value.calls k2 _ _ l0 (wrap64 (x9_2 + 24)) 8 t182 _ ?side1 ?side2 A19.out).mono ?_); (case side1 => exact cX HR0.out HB.out); (case side2 => exact HC0.out); rintro e w' ⟨rfl, ⟨nd, rfl⟩⟩; refine ⟨_, rfl, ?_⟩; skip) | ((with_reducible refine gate_callee (f := 34) rfl ?_); refine goesL_ (some 75) rfl rfl Tryz.func34 (by kernel_rfl) rfl #[.slice A0 l0.length c0, .int .i64 (wrap64 (x9_2 + 40)), .int .i64 4] rfl gX ?_; (with_reducible refine (anvilref02_value.calls k2 _ _ l0 (wrap64 (x9_2 + 40)) 4 t183 _ ?side1 ?side2 A20.out).mono ?_); (case side1 => exact cX HR0.out HB.out); (case side2 => exact HC0.out); rintro e w' ⟨rfl, ⟨nd, rfl⟩⟩; refine ⟨_, rfl, ?_⟩; skip) | ((with_reducible refine gate_callee (f := 34) rfl ?_); refine goesL_ (some 79) rfl rfl Tryz.func34 (by kernel_rfl) rfl #[.slice A0 l0.length c0, .int .i64 (wrap64 (x9_2 + 56)), .int .i64 8] rfl gX ?_; (with_reducible refine (anvilref02_value.calls k2 _ _ l0 (wrap64 (x9_2 + 56)) 8 t184 _ ?side1 ?side2 A21.out).mono ?_); (case side1 => exact cX HR0.out HB.out); (case side2 => exact HC0.out); rintro e w' ⟨rfl, ⟨nd, rfl⟩⟩; refine ⟨_, rfl, ?_⟩; skip) | ((with_reducible refine gate_callee (f := 62) rfl ?_); refine goesL_ (some 93) rfl rfl Tryz.func62 (by kernel_rfl) rfl #[.slice A0 l0.length c0, .int .u64 t182, .int .u64 t181] rfl gX ?_; (with_reducible refine (anvilref02_room.calls _ _ l0 t182 t181 true _ ?side1 ?side2 A24.out).mono ?_); (case side1 => exact cX HR0.out HB.out); (case side2 => exact HC0.out); rintro e w' ⟨rfl, ⟨nd, rfl⟩⟩; refine ⟨_, rfl, ?_⟩; skip) | ((with_reducible refine gate_callee (f := 34) rfl ?_); refine goesL_ (some 114) rfl rfl Tryz.func34 (by kernel_rfl) rfl #[.slice A0 l0.length c0, .int .i64 (wrap64 ((wrap64 ((wrap64 (t177)) + (wrap64 (64 * (wrap64 (t183)))))) + 4)), .int .i64 4] rfl gX ?_; (with_reducible refine (anvilref02_value.calls k2 _ _ l0 (wrap64 ((wrap64 ((wrap64 (t177)) + (wrap64 (64 * (wrap64 (t183)))))) + 4)) 4 t186 _ ?side1 ?side2 A28.out).mono ?_); (case side1 => exact cX HR0.out HB.out); (case side2 => exact HC0.out); rintro e w' ⟨rfl, ⟨nd, rfl⟩⟩; refine ⟨_, rfl, ?_⟩; skip) | ((with_reducible refine gate_callee (f := 34) rfl ?_); refine goesL_ (some 122) rfl rfl Tryz.func34 (by kernel_rfl) rfl #[.slice A0 l0.length c0, .int .i64 (wrap64 ((wrap64 ((wrap64 (t177)) + (wrap64 (64 * (wrap64 (t183)))))) + 24)), .int .i64 8] rfl gX ?_; (with_reducible refine (anvilref02_value.calls k2 _ _ l0 (wrap64 ((wrap64 ((wrap64 (t177)) + (wrap64 (64 * (wrap64 (t183)))))) + 24)) 8 t187 _ ?side1 ?side2 A30.out).mono ?_); (case side1 => exact cX HR0.out HB.out); (case side2 => exact HC0.out); rintro e w' ⟨rfl, ⟨nd, rfl⟩⟩; refine ⟨_, rfl, ?_⟩; skip) | ((with_reducible refine gate_callee (f := 34) rfl ?_); refine goesL_ (some 126) rfl rfl Tryz.func34 (by kernel_rfl) rfl #[.slice A0 l0.length c0, .int .i64 (wrap64 ((wrap64 ((wrap64 (t177)) + (wrap64 (64 * (wrap64 (t183)))))) + 32)), .int .i64 8] rfl gX ?_; (with_reducible refine (anvilref02_value.calls k2 _ _ l0 (wrap64 ((wrap64 ((wrap64 (t177)) + (wrap64 (64 * (wrap64 (t183)))))) + 32)) 8 t188 _ ?side1 ?side2 A31.out).mono ?_); (case side1 => exact cX HR0.out HB.out); (case side2 => exact HC0.out); rintro e w' ⟨rfl, ⟨nd, rfl⟩⟩; refine ⟨_, rfl, ?_⟩; skip) | ((with_reducible refine gate_callee (f := 62) rfl ?_); refine goesL_ (some 130) rfl rfl Tryz.func62 (by kernel_rfl) rfl #[.slice A0 l0.length c0, .int .u64 t187, .int .u64 t188] rfl gX ?_; (with_reducible refine (anvilref02_room.calls _ _ l0 t187 t188 true _ ?side1 ?side2 A32.out).mono ?_); (case side1 => exact cX HR0.out HB.out); (case side2 => exact HC0.out); rintro e w' ⟨rfl, ⟨nd, rfl⟩⟩; refine ⟨_, rfl, ?_⟩; skip; have hcz34_0 : wr.cell? ⟨gb175, 0, none⟩ = some (.int .i64 0) := (kCe BK175.out 0).trans rfl; have hcz34_1 : wr.cell? ⟨gb175, 1, none⟩ = some (.int .i64 0) := (kCe BK175.out 1).trans rfl; have hfz34_0 := kFr BK175.out 0; have hfz34_1 := kFr BK175.out 1))
                refine bodyPost_ret (results_list (rs := [.tmp 2, .tmp 3, .tmp 4, .tmp 5, .cell 6 66]) rfl (by simp) (.tmp (.tmp (.tmp (.tmp (.cell gb175 66 #[.int .i64 0, .int .i64 0] (0, 0) _ rfl (by (with_reducible repeat (first | refine kDn ?_ _ | refine kDr ?_ | refine kAl ?_ _)); refine kPu (cs := #[.int .i64 0, .int .i64 0]) ?_ 1 _ rfl; (with_reducible repeat (first | refine kDn ?_ _ | refine kDr ?_ | refine kAl ?_ _)); refine kPu (cs := #[.int .i64 0, .int .i64 0]) ?_ 0 _ rfl; (with_reducible repeat (first | refine kDn ?_ _ | refine kDr ?_ | refine kAl ?_ _)); exact BK175.out) Tryz.underlying66 rfl (by kernel_rfl) .nil)))))) rfl ?_
                exact ⟨rX, bX HB.out⟩
               ·replace c33 := Bool.eq_false_iff.mpr c33
                subst c33
                have H1 : (some ((-1), 0, 0, 0, wrap64 ((wrap64 ((wrap64 (t177)) + (wrap64 (64 * (wrap64 (t183)))))) + 24), 20)) = some (r1, r2, r3, r4, r5, r6) := by rw [if_neg (show ¬ (false = true) by decide)] at H; exact H
                clear H
                have H := H1
                clear H1
                simp only [Option.some.injEq, Prod.mk.injEq] at H
                obtain ⟨rfl, rfl, rfl, rfl, rfl, rfl⟩ := H
                go_wp2_with (first | ((with_reducible refine gate_callee (f := 34) rfl ?_); refine goesL_ (some 67) rfl rfl Tryz.func34 (by kernel_rfl) rfl #[.slice A0 l0.length c0, .int .i64 (wrap64 (x9_2 + 32)), .int .i64 8] rfl gX ?_; (with_reducible refine (anvilref02_value.calls k2 _ _ l0 (wrap64 (x9_2 + 32)) 8 t181 _ ?side1 ?side2 A18.out).mono ?_); (case side1 => exact cX HR0.out HB.out); (case side2 => exact HC0.out); rintro e w' ⟨rfl, ⟨nd, rfl⟩⟩; refine ⟨_, rfl, ?_⟩; skip) | ((with_reducible refine gate_callee (f := 34) rfl ?_); refine goesL_ (some 71) rfl rfl Tryz.func34 (by kernel_rfl) rfl #[.slice A0 l0.length c0, .int .i64 (wrap64 (x9_2 + 24)), .int .i64 8] rfl gX ?_; (with_reducible refine (anvilref02_value.calls k2 _ _ l0 (wrap64 (x9_2 + 24)) 8 t182 _ ?side1 ?side2 A19.out).mono ?_); (case side1 => exact cX HR0.out HB.out); (case side2 => exact HC0.out); rintro e w' ⟨rfl, ⟨nd, rfl⟩⟩; refine ⟨_, rfl, ?_⟩; skip) | ((with_reducible refine gate_callee (f := 34) rfl ?_); refine goesL_ (some 75) rfl rfl Tryz.func34 (by kernel_rfl) rfl #[.slice A0 l0.length c0, .int .i64 (wrap64 (x9_2 + 40)), .int .i64 4] rfl gX ?_; (with_reducible refine (anvilref02_value.calls k2 _ _ l0 (wrap64 (x9_2 + 40)) 4 t183 _ ?side1 ?side2 A20.out).mono ?_); (case side1 => exact cX HR0.out HB.out); (case side2 => exact HC0.out); rintro e w' ⟨rfl, ⟨nd, rfl⟩⟩; refine ⟨_, rfl, ?_⟩; skip) | ((with_reducible refine gate_callee (f := 34) rfl ?_); refine goesL_ (some 79) rfl rfl Tryz.func34 (by kernel_rfl) rfl #[.slice A0 l0.length c0, .int .i64 (wrap64 (x9_2 + 56)), .int .i64 8] rfl gX ?_; (with_reducible refine (anvilref02_value.calls k2 _ _ l0 (wrap64 (x9_2 + 56)) 8 t184 _ ?side1 ?side2 A21.out).mono ?_); (case side1 => exact cX HR0.out HB.out); (case side2 => exact HC0.out); rintro e w' ⟨rfl, ⟨nd, rfl⟩⟩; refine ⟨_, rfl, ?_⟩; skip) | ((with_reducible refine gate_callee (f := 62) rfl ?_); refine goesL_ (some 93) rfl rfl Tryz.func62 (by kernel_rfl) rfl #[.slice A0 l0.length c0, .int .u64 t182, .int .u64 t181] rfl gX ?_; (with_reducible refine (anvilref02_room.calls _ _ l0 t182 t181 true _ ?side1 ?side2 A24.out).mono ?_); (case side1 => exact cX HR0.out HB.out); (case side2 => exact HC0.out); rintro e w' ⟨rfl, ⟨nd, rfl⟩⟩; refine ⟨_, rfl, ?_⟩; skip) | ((with_reducible refine gate_callee (f := 34) rfl ?_); refine goesL_ (some 114) rfl rfl Tryz.func34 (by kernel_rfl) rfl #[.slice A0 l0.length c0, .int .i64 (wrap64 ((wrap64 ((wrap64 (t177)) + (wrap64 (64 * (wrap64 (t183)))))) + 4)), .int .i64 4] rfl gX ?_; (with_reducible refine (anvilref02_value.calls k2 _ _ l0 (wrap64 ((wrap64 ((wrap64 (t177)) + (wrap64 (64 * (wrap64 (t183)))))) + 4)) 4 t186 _ ?side1 ?side2 A28.out).mono ?_); (case side1 => exact cX HR0.out HB.out); (case side2 => exact HC0.out); rintro e w' ⟨rfl, ⟨nd, rfl⟩⟩; refine ⟨_, rfl, ?_⟩; skip) | ((with_reducible refine gate_callee (f := 34) rfl ?_); refine goesL_ (some 122) rfl rfl Tryz.func34 (by kernel_rfl) rfl #[.slice A0 l0.length c0, .int .i64 (wrap64 ((wrap64 ((wrap64 (t177)) + (wrap64 (64 * (wrap64 (t183)))))) + 24)), .int .i64 8] rfl gX ?_; (with_reducible refine (anvilref02_value.calls k2 _ _ l0 (wrap64 ((wrap64 ((wrap64 (t177)) + (wrap64 (64 * (wrap64 (t183)))))) + 24)) 8 t187 _ ?side1 ?side2 A30.out).mono ?_); (case side1 => exact cX HR0.out HB.out); (case side2 => exact HC0.out); rintro e w' ⟨rfl, ⟨nd, rfl⟩⟩; refine ⟨_, rfl, ?_⟩; skip) | ((with_reducible refine gate_callee (f := 34) rfl ?_); refine goesL_ (some 126) rfl rfl Tryz.func34 (by kernel_rfl) rfl #[.slice A0 l0.length c0, .int .i64 (wrap64 ((wrap64 ((wrap64 (t177)) + (wrap64 (64 * (wrap64 (t183)))))) + 32)), .int .i64 8] rfl gX ?_; (with_reducible refine (anvilref02_value.calls k2 _ _ l0 (wrap64 ((wrap64 ((wrap64 (t177)) + (wrap64 (64 * (wrap64 (t183)))))) + 32)) 8 t188 _ ?side1 ?side2 A31.out).mono ?_); (case side1 => exact cX HR0.out HB.out); (case side2 => exact HC0.out); rintro e w' ⟨rfl, ⟨nd, rfl⟩⟩; refine ⟨_, rfl, ?_⟩; skip) | ((with_reducible refine gate_callee (f := 62) rfl ?_); refine goesL_ (some 130) rfl rfl Tryz.func62 (by kernel_rfl) rfl #[.slice A0 l0.length c0, .int .u64 t187, .int .u64 t188] rfl gX ?_; (with_reducible refine (anvilref02_room.calls _ _ l0 t187 t188 false _ ?side1 ?side2 A32.out).mono ?_); (case side1 => exact cX HR0.out HB.out); (case side2 => exact HC0.out); rintro e w' ⟨rfl, ⟨nd, rfl⟩⟩; refine ⟨_, rfl, ?_⟩; skip; have hcz35_0 : wr.cell? ⟨gb175, 0, none⟩ = some (.int .i64 0) := (kCe BK175.out 0).trans rfl; have hcz35_1 : wr.cell? ⟨gb175, 1, none⟩ = some (.int .i64 0) := (kCe BK175.out 1).trans rfl; have hfz35_0 := kFr BK175.out 0; have hfz35_1 := kFr BK175.out 1))
                refine bodyPost_ret (results_list (rs := [.tmp 2, .tmp 3, .tmp 4, .tmp 5, .cell 6 66]) rfl (by simp) (.tmp (.tmp (.tmp (.tmp (.cell gb175 66 #[.int .i64 (wrap64 ((wrap64 ((wrap64 (t177)) + (wrap64 (64 * (wrap64 (t183)))))) + 24)), .int .i64 20] (0, 0) _ rfl (by (with_reducible repeat (first | refine kDn ?_ _ | refine kDr ?_ | refine kAl ?_ _)); refine kPu (cs := #[.int .i64 (wrap64 ((wrap64 ((wrap64 (t177)) + (wrap64 (64 * (wrap64 (t183)))))) + 24)), .int .i64 0]) ?_ 1 _ rfl; (with_reducible repeat (first | refine kDn ?_ _ | refine kDr ?_ | refine kAl ?_ _)); refine kPu (cs := #[.int .i64 0, .int .i64 0]) ?_ 0 _ rfl; (with_reducible repeat (first | refine kDn ?_ _ | refine kDr ?_ | refine kAl ?_ _)); exact BK175.out) Tryz.underlying66 rfl (by kernel_rfl) .nil)))))) rfl ?_
                exact ⟨rX, bX HB.out⟩
              ·rw [if_neg c29] at H
               have c29b0 : (t186 == 3) = false := beq_eq_false_iff_ne.mpr c29
               have c29b1 : (t186 != 3) = true := bne_iff_ne.mpr c29
               simp only [Option.some.injEq, Prod.mk.injEq] at H
               obtain ⟨rfl, rfl, rfl, rfl, rfl, rfl⟩ := H
               go_wp2_with (first | ((with_reducible refine gate_callee (f := 34) rfl ?_); refine goesL_ (some 67) rfl rfl Tryz.func34 (by kernel_rfl) rfl #[.slice A0 l0.length c0, .int .i64 (wrap64 (x9_2 + 32)), .int .i64 8] rfl gX ?_; (with_reducible refine (anvilref02_value.calls k2 _ _ l0 (wrap64 (x9_2 + 32)) 8 t181 _ ?side1 ?side2 A18.out).mono ?_); (case side1 => exact cX HR0.out HB.out); (case side2 => exact HC0.out); rintro e w' ⟨rfl, ⟨nd, rfl⟩⟩; refine ⟨_, rfl, ?_⟩; skip) | ((with_reducible refine gate_callee (f := 34) rfl ?_); refine goesL_ (some 71) rfl rfl Tryz.func34 (by kernel_rfl) rfl #[.slice A0 l0.length c0, .int .i64 (wrap64 (x9_2 + 24)), .int .i64 8] rfl gX ?_; (with_reducible refine (anvilref02_value.calls k2 _ _ l0 (wrap64 (x9_2 + 24)) 8 t182 _ ?side1 ?side2 A19.out).mono ?_); (case side1 => exact cX HR0.out HB.out); (case side2 => exact HC0.out); rintro e w' ⟨rfl, ⟨nd, rfl⟩⟩; refine ⟨_, rfl, ?_⟩; skip) | ((with_reducible refine gate_callee (f := 34) rfl ?_); refine goesL_ (some 75) rfl rfl Tryz.func34 (by kernel_rfl) rfl #[.slice A0 l0.length c0, .int .i64 (wrap64 (x9_2 + 40)), .int .i64 4] rfl gX ?_; (with_reducible refine (anvilref02_value.calls k2 _ _ l0 (wrap64 (x9_2 + 40)) 4 t183 _ ?side1 ?side2 A20.out).mono ?_); (case side1 => exact cX HR0.out HB.out); (case side2 => exact HC0.out); rintro e w' ⟨rfl, ⟨nd, rfl⟩⟩; refine ⟨_, rfl, ?_⟩; skip) | ((with_reducible refine gate_callee (f := 34) rfl ?_); refine goesL_ (some 79) rfl rfl Tryz.func34 (by kernel_rfl) rfl #[.slice A0 l0.length c0, .int .i64 (wrap64 (x9_2 + 56)), .int .i64 8] rfl gX ?_; (with_reducible refine (anvilref02_value.calls k2 _ _ l0 (wrap64 (x9_2 + 56)) 8 t184 _ ?side1 ?side2 A21.out).mono ?_); (case side1 => exact cX HR0.out HB.out); (case side2 => exact HC0.out); rintro e w' ⟨rfl, ⟨nd, rfl⟩⟩; refine ⟨_, rfl, ?_⟩; skip) | ((with_reducible refine gate_callee (f := 62) rfl ?_); refine goesL_ (some 93) rfl rfl Tryz.func62 (by kernel_rfl) rfl #[.slice A0 l0.length c0, .int .u64 t182, .int .u64 t181] rfl gX ?_; (with_reducible refine (anvilref02_room.calls _ _ l0 t182 t181 true _ ?side1 ?side2 A24.out).mono ?_); (case side1 => exact cX HR0.out HB.out); (case side2 => exact HC0.out); rintro e w' ⟨rfl, ⟨nd, rfl⟩⟩; refine ⟨_, rfl, ?_⟩; skip) | ((with_reducible refine gate_callee (f := 34) rfl ?_); refine goesL_ (some 114) rfl rfl Tryz.func34 (by kernel_rfl) rfl #[.slice A0 l0.length c0, .int .i64 (wrap64 ((wrap64 ((wrap64 (t177)) + (wrap64 (64 * (wrap64 (t183)))))) + 4)), .int .i64 4] rfl gX ?_; (with_reducible refine (anvilref02_value.calls k2 _ _ l0 (wrap64 ((wrap64 ((wrap64 (t177)) + (wrap64 (64 * (wrap64 (t183)))))) + 4)) 4 t186 _ ?side1 ?side2 A28.out).mono ?_); (case side1 => exact cX HR0.out HB.out); (case side2 => exact HC0.out); rintro e w' ⟨rfl, ⟨nd, rfl⟩⟩; refine ⟨_, rfl, ?_⟩; skip; have hcz36_0 : wr.cell? ⟨gb175, 0, none⟩ = some (.int .i64 0) := (kCe BK175.out 0).trans rfl; have hcz36_1 : wr.cell? ⟨gb175, 1, none⟩ = some (.int .i64 0) := (kCe BK175.out 1).trans rfl; have hfz36_0 := kFr BK175.out 0; have hfz36_1 := kFr BK175.out 1))
               refine bodyPost_ret (results_list (rs := [.tmp 2, .tmp 3, .tmp 4, .tmp 5, .cell 6 66]) rfl (by simp) (.tmp (.tmp (.tmp (.tmp (.cell gb175 66 #[.int .i64 (wrap64 (x9_2 + 40)), .int .i64 25] (0, 0) _ rfl (by (with_reducible repeat (first | refine kDn ?_ _ | refine kDr ?_ | refine kAl ?_ _)); refine kPu (cs := #[.int .i64 (wrap64 (x9_2 + 40)), .int .i64 0]) ?_ 1 _ rfl; (with_reducible repeat (first | refine kDn ?_ _ | refine kDr ?_ | refine kAl ?_ _)); refine kPu (cs := #[.int .i64 0, .int .i64 0]) ?_ 0 _ rfl; (with_reducible repeat (first | refine kDn ?_ _ | refine kDr ?_ | refine kAl ?_ _)); exact BK175.out) Tryz.underlying66 rfl (by kernel_rfl) .nil)))))) rfl ?_
               exact ⟨rX, bX HB.out⟩
            ·replace c25 := Bool.eq_false_iff.mpr c25
             subst c25
             have H1 : (some ((-1), 0, 0, 0, wrap64 (x9_2 + 24), 20)) = some (r1, r2, r3, r4, r5, r6) := by rw [if_neg (show ¬ (false = true) by decide)] at H; exact H
             clear H
             have H := H1
             clear H1
             simp only [Option.some.injEq, Prod.mk.injEq] at H
             obtain ⟨rfl, rfl, rfl, rfl, rfl, rfl⟩ := H
             go_wp2_with (first | ((with_reducible refine gate_callee (f := 34) rfl ?_); refine goesL_ (some 67) rfl rfl Tryz.func34 (by kernel_rfl) rfl #[.slice A0 l0.length c0, .int .i64 (wrap64 (x9_2 + 32)), .int .i64 8] rfl gX ?_; (with_reducible refine (anvilref02_value.calls k2 _ _ l0 (wrap64 (x9_2 + 32)) 8 t181 _ ?side1 ?side2 A18.out).mono ?_); (case side1 => exact cX HR0.out HB.out); (case side2 => exact HC0.out); rintro e w' ⟨rfl, ⟨nd, rfl⟩⟩; refine ⟨_, rfl, ?_⟩; skip) | ((with_reducible refine gate_callee (f := 34) rfl ?_); refine goesL_ (some 71) rfl rfl Tryz.func34 (by kernel_rfl) rfl #[.slice A0 l0.length c0, .int .i64 (wrap64 (x9_2 + 24)), .int .i64 8] rfl gX ?_; (with_reducible refine (anvilref02_value.calls k2 _ _ l0 (wrap64 (x9_2 + 24)) 8 t182 _ ?side1 ?side2 A19.out).mono ?_); (case side1 => exact cX HR0.out HB.out); (case side2 => exact HC0.out); rintro e w' ⟨rfl, ⟨nd, rfl⟩⟩; refine ⟨_, rfl, ?_⟩; skip) | ((with_reducible refine gate_callee (f := 34) rfl ?_); refine goesL_ (some 75) rfl rfl Tryz.func34 (by kernel_rfl) rfl #[.slice A0 l0.length c0, .int .i64 (wrap64 (x9_2 + 40)), .int .i64 4] rfl gX ?_; (with_reducible refine (anvilref02_value.calls k2 _ _ l0 (wrap64 (x9_2 + 40)) 4 t183 _ ?side1 ?side2 A20.out).mono ?_); (case side1 => exact cX HR0.out HB.out); (case side2 => exact HC0.out); rintro e w' ⟨rfl, ⟨nd, rfl⟩⟩; refine ⟨_, rfl, ?_⟩; skip) | ((with_reducible refine gate_callee (f := 34) rfl ?_); refine goesL_ (some 79) rfl rfl Tryz.func34 (by kernel_rfl) rfl #[.slice A0 l0.length c0, .int .i64 (wrap64 (x9_2 + 56)), .int .i64 8] rfl gX ?_; (with_reducible refine (anvilref02_value.calls k2 _ _ l0 (wrap64 (x9_2 + 56)) 8 t184 _ ?side1 ?side2 A21.out).mono ?_); (case side1 => exact cX HR0.out HB.out); (case side2 => exact HC0.out); rintro e w' ⟨rfl, ⟨nd, rfl⟩⟩; refine ⟨_, rfl, ?_⟩; skip) | ((with_reducible refine gate_callee (f := 62) rfl ?_); refine goesL_ (some 93) rfl rfl Tryz.func62 (by kernel_rfl) rfl #[.slice A0 l0.length c0, .int .u64 t182, .int .u64 t181] rfl gX ?_; (with_reducible refine (anvilref02_room.calls _ _ l0 t182 t181 false _ ?side1 ?side2 A24.out).mono ?_); (case side1 => exact cX HR0.out HB.out); (case side2 => exact HC0.out); rintro e w' ⟨rfl, ⟨nd, rfl⟩⟩; refine ⟨_, rfl, ?_⟩; skip; have hcz37_0 : wr.cell? ⟨gb175, 0, none⟩ = some (.int .i64 0) := (kCe BK175.out 0).trans rfl; have hcz37_1 : wr.cell? ⟨gb175, 1, none⟩ = some (.int .i64 0) := (kCe BK175.out 1).trans rfl; have hfz37_0 := kFr BK175.out 0; have hfz37_1 := kFr BK175.out 1))
             refine bodyPost_ret (results_list (rs := [.tmp 2, .tmp 3, .tmp 4, .tmp 5, .cell 6 66]) rfl (by simp) (.tmp (.tmp (.tmp (.tmp (.cell gb175 66 #[.int .i64 (wrap64 (x9_2 + 24)), .int .i64 20] (0, 0) _ rfl (by (with_reducible repeat (first | refine kDn ?_ _ | refine kDr ?_ | refine kAl ?_ _)); refine kPu (cs := #[.int .i64 (wrap64 (x9_2 + 24)), .int .i64 0]) ?_ 1 _ rfl; (with_reducible repeat (first | refine kDn ?_ _ | refine kDr ?_ | refine kAl ?_ _)); refine kPu (cs := #[.int .i64 0, .int .i64 0]) ?_ 0 _ rfl; (with_reducible repeat (first | refine kDn ?_ _ | refine kDr ?_ | refine kAl ?_ _)); exact BK175.out) Tryz.underlying66 rfl (by kernel_rfl) .nil)))))) rfl ?_
             exact ⟨rX, bX HB.out⟩
           ·rw [if_neg c23] at H
            have c23b0 : ((Int.tmod t181 24) == 0) = false := beq_eq_false_iff_ne.mpr c23
            have c23b1 : ((Int.tmod t181 24) != 0) = true := bne_iff_ne.mpr c23
            simp only [Option.some.injEq, Prod.mk.injEq] at H
            obtain ⟨rfl, rfl, rfl, rfl, rfl, rfl⟩ := H
            go_wp2_with (first | ((with_reducible refine gate_callee (f := 34) rfl ?_); refine goesL_ (some 67) rfl rfl Tryz.func34 (by kernel_rfl) rfl #[.slice A0 l0.length c0, .int .i64 (wrap64 (x9_2 + 32)), .int .i64 8] rfl gX ?_; (with_reducible refine (anvilref02_value.calls k2 _ _ l0 (wrap64 (x9_2 + 32)) 8 t181 _ ?side1 ?side2 A18.out).mono ?_); (case side1 => exact cX HR0.out HB.out); (case side2 => exact HC0.out); rintro e w' ⟨rfl, ⟨nd, rfl⟩⟩; refine ⟨_, rfl, ?_⟩; skip) | ((with_reducible refine gate_callee (f := 34) rfl ?_); refine goesL_ (some 71) rfl rfl Tryz.func34 (by kernel_rfl) rfl #[.slice A0 l0.length c0, .int .i64 (wrap64 (x9_2 + 24)), .int .i64 8] rfl gX ?_; (with_reducible refine (anvilref02_value.calls k2 _ _ l0 (wrap64 (x9_2 + 24)) 8 t182 _ ?side1 ?side2 A19.out).mono ?_); (case side1 => exact cX HR0.out HB.out); (case side2 => exact HC0.out); rintro e w' ⟨rfl, ⟨nd, rfl⟩⟩; refine ⟨_, rfl, ?_⟩; skip) | ((with_reducible refine gate_callee (f := 34) rfl ?_); refine goesL_ (some 75) rfl rfl Tryz.func34 (by kernel_rfl) rfl #[.slice A0 l0.length c0, .int .i64 (wrap64 (x9_2 + 40)), .int .i64 4] rfl gX ?_; (with_reducible refine (anvilref02_value.calls k2 _ _ l0 (wrap64 (x9_2 + 40)) 4 t183 _ ?side1 ?side2 A20.out).mono ?_); (case side1 => exact cX HR0.out HB.out); (case side2 => exact HC0.out); rintro e w' ⟨rfl, ⟨nd, rfl⟩⟩; refine ⟨_, rfl, ?_⟩; skip) | ((with_reducible refine gate_callee (f := 34) rfl ?_); refine goesL_ (some 79) rfl rfl Tryz.func34 (by kernel_rfl) rfl #[.slice A0 l0.length c0, .int .i64 (wrap64 (x9_2 + 56)), .int .i64 8] rfl gX ?_; (with_reducible refine (anvilref02_value.calls k2 _ _ l0 (wrap64 (x9_2 + 56)) 8 t184 _ ?side1 ?side2 A21.out).mono ?_); (case side1 => exact cX HR0.out HB.out); (case side2 => exact HC0.out); rintro e w' ⟨rfl, ⟨nd, rfl⟩⟩; refine ⟨_, rfl, ?_⟩; skip; have hcz38_0 : wr.cell? ⟨gb175, 0, none⟩ = some (.int .i64 0) := (kCe BK175.out 0).trans rfl; have hcz38_1 : wr.cell? ⟨gb175, 1, none⟩ = some (.int .i64 0) := (kCe BK175.out 1).trans rfl; have hfz38_0 := kFr BK175.out 0; have hfz38_1 := kFr BK175.out 1))
            refine bodyPost_ret (results_list (rs := [.tmp 2, .tmp 3, .tmp 4, .tmp 5, .cell 6 66]) rfl (by simp) (.tmp (.tmp (.tmp (.tmp (.cell gb175 66 #[.int .i64 (wrap64 (x9_2 + 32)), .int .i64 25] (0, 0) _ rfl (by (with_reducible repeat (first | refine kDn ?_ _ | refine kDr ?_ | refine kAl ?_ _)); refine kPu (cs := #[.int .i64 (wrap64 (x9_2 + 32)), .int .i64 0]) ?_ 1 _ rfl; (with_reducible repeat (first | refine kDn ?_ _ | refine kDr ?_ | refine kAl ?_ _)); refine kPu (cs := #[.int .i64 0, .int .i64 0]) ?_ 0 _ rfl; (with_reducible repeat (first | refine kDn ?_ _ | refine kDr ?_ | refine kAl ?_ _)); exact BK175.out) Tryz.underlying66 rfl (by kernel_rfl) .nil)))))) rfl ?_
            exact ⟨rX, bX HB.out⟩
          ·rw [if_neg c22] at H
           have c22b0 : (t184 == 24) = false := beq_eq_false_iff_ne.mpr c22
           have c22b1 : (t184 != 24) = true := bne_iff_ne.mpr c22
           simp only [Option.some.injEq, Prod.mk.injEq] at H
           obtain ⟨rfl, rfl, rfl, rfl, rfl, rfl⟩ := H
           go_wp2_with (first | ((with_reducible refine gate_callee (f := 34) rfl ?_); refine goesL_ (some 67) rfl rfl Tryz.func34 (by kernel_rfl) rfl #[.slice A0 l0.length c0, .int .i64 (wrap64 (x9_2 + 32)), .int .i64 8] rfl gX ?_; (with_reducible refine (anvilref02_value.calls k2 _ _ l0 (wrap64 (x9_2 + 32)) 8 t181 _ ?side1 ?side2 A18.out).mono ?_); (case side1 => exact cX HR0.out HB.out); (case side2 => exact HC0.out); rintro e w' ⟨rfl, ⟨nd, rfl⟩⟩; refine ⟨_, rfl, ?_⟩; skip) | ((with_reducible refine gate_callee (f := 34) rfl ?_); refine goesL_ (some 71) rfl rfl Tryz.func34 (by kernel_rfl) rfl #[.slice A0 l0.length c0, .int .i64 (wrap64 (x9_2 + 24)), .int .i64 8] rfl gX ?_; (with_reducible refine (anvilref02_value.calls k2 _ _ l0 (wrap64 (x9_2 + 24)) 8 t182 _ ?side1 ?side2 A19.out).mono ?_); (case side1 => exact cX HR0.out HB.out); (case side2 => exact HC0.out); rintro e w' ⟨rfl, ⟨nd, rfl⟩⟩; refine ⟨_, rfl, ?_⟩; skip) | ((with_reducible refine gate_callee (f := 34) rfl ?_); refine goesL_ (some 75) rfl rfl Tryz.func34 (by kernel_rfl) rfl #[.slice A0 l0.length c0, .int .i64 (wrap64 (x9_2 + 40)), .int .i64 4] rfl gX ?_; (with_reducible refine (anvilref02_value.calls k2 _ _ l0 (wrap64 (x9_2 + 40)) 4 t183 _ ?side1 ?side2 A20.out).mono ?_); (case side1 => exact cX HR0.out HB.out); (case side2 => exact HC0.out); rintro e w' ⟨rfl, ⟨nd, rfl⟩⟩; refine ⟨_, rfl, ?_⟩; skip) | ((with_reducible refine gate_callee (f := 34) rfl ?_); refine goesL_ (some 79) rfl rfl Tryz.func34 (by kernel_rfl) rfl #[.slice A0 l0.length c0, .int .i64 (wrap64 (x9_2 + 56)), .int .i64 8] rfl gX ?_; (with_reducible refine (anvilref02_value.calls k2 _ _ l0 (wrap64 (x9_2 + 56)) 8 t184 _ ?side1 ?side2 A21.out).mono ?_); (case side1 => exact cX HR0.out HB.out); (case side2 => exact HC0.out); rintro e w' ⟨rfl, ⟨nd, rfl⟩⟩; refine ⟨_, rfl, ?_⟩; skip; have hcz39_0 : wr.cell? ⟨gb175, 0, none⟩ = some (.int .i64 0) := (kCe BK175.out 0).trans rfl; have hcz39_1 : wr.cell? ⟨gb175, 1, none⟩ = some (.int .i64 0) := (kCe BK175.out 1).trans rfl; have hfz39_0 := kFr BK175.out 0; have hfz39_1 := kFr BK175.out 1))
           refine bodyPost_ret (results_list (rs := [.tmp 2, .tmp 3, .tmp 4, .tmp 5, .cell 6 66]) rfl (by simp) (.tmp (.tmp (.tmp (.tmp (.cell gb175 66 #[.int .i64 (wrap64 (x9_2 + 56)), .int .i64 25] (0, 0) _ rfl (by (with_reducible repeat (first | refine kDn ?_ _ | refine kDr ?_ | refine kAl ?_ _)); refine kPu (cs := #[.int .i64 (wrap64 (x9_2 + 56)), .int .i64 0]) ?_ 1 _ rfl; (with_reducible repeat (first | refine kDn ?_ _ | refine kDr ?_ | refine kAl ?_ _)); refine kPu (cs := #[.int .i64 0, .int .i64 0]) ?_ 0 _ rfl; (with_reducible repeat (first | refine kDn ?_ _ | refine kDr ?_ | refine kAl ?_ _)); exact BK175.out) Tryz.underlying66 rfl (by kernel_rfl) .nil)))))) rfl ?_
           exact ⟨rX, bX HB.out⟩
     ·replace c12 := Bool.eq_false_iff.mpr c12
      subst c12
      have H1 : (some ((-1), 0, 0, 0, 40, 20)) = some (r1, r2, r3, r4, r5, r6) := by rw [if_neg (show ¬ (false = true) by decide)] at H; exact H
      clear H
      have H := H1
      clear H1
      simp only [Option.some.injEq, Prod.mk.injEq] at H
      obtain ⟨rfl, rfl, rfl, rfl, rfl, rfl⟩ := H
      go_wp2_with (first | ((with_reducible refine gate_callee (f := 34) rfl ?_); refine goesL_ (some 30) rfl rfl Tryz.func34 (by kernel_rfl) rfl #[.slice A0 l0.length c0, .int .i64 58, .int .i64 2] rfl gX ?_; (with_reducible refine (anvilref02_value.calls kj3 _ _ l0 58 2 t178 _ ?side1 ?side2 A9.out).mono ?_); (case side1 => exact cX HR0.out HB.out); (case side2 => exact HC0.out); rintro e w' ⟨rfl, ⟨nd, rfl⟩⟩; refine ⟨_, rfl, ?_⟩; skip) | ((with_reducible refine gate_callee (f := 62) rfl ?_); refine goesL_ (some 38) rfl rfl Tryz.func62 (by kernel_rfl) rfl #[.slice A0 l0.length c0, .int .u64 t177, .int .u64 (IntKind.u64.wrap (wrap64 (64 * (wrap64 (t176)))))] rfl gX ?_; (with_reducible refine (anvilref02_room.calls _ _ l0 t177 (IntKind.u64.wrap (wrap64 (64 * (wrap64 (t176))))) false _ ?side1 ?side2 A11.out).mono ?_); (case side1 => exact cX HR0.out HB.out); (case side2 => exact HC0.out); rintro e w' ⟨rfl, ⟨nd, rfl⟩⟩; refine ⟨_, rfl, ?_⟩; skip; have hcz40_0 : wc.cell? ⟨gb175, 0, none⟩ = some (.int .i64 0) := (kCe BK175.out 0).trans rfl; have hcz40_1 : wc.cell? ⟨gb175, 1, none⟩ = some (.int .i64 0) := (kCe BK175.out 1).trans rfl; have hfz40_0 := kFr BK175.out 0; have hfz40_1 := kFr BK175.out 1))
      refine bodyPost_ret (results_list (rs := [.tmp 2, .tmp 3, .tmp 4, .tmp 5, .cell 6 66]) rfl (by simp) (.tmp (.tmp (.tmp (.tmp (.cell gb175 66 #[.int .i64 40, .int .i64 20] (0, 0) _ rfl (by (with_reducible repeat (first | refine kDn ?_ _ | refine kDr ?_ | refine kAl ?_ _)); refine kPu (cs := #[.int .i64 40, .int .i64 0]) ?_ 1 _ rfl; (with_reducible repeat (first | refine kDn ?_ _ | refine kDr ?_ | refine kAl ?_ _)); refine kPu (cs := #[.int .i64 0, .int .i64 0]) ?_ 0 _ rfl; (with_reducible repeat (first | refine kDn ?_ _ | refine kDr ?_ | refine kAl ?_ _)); exact BK175.out) Tryz.underlying66 rfl (by kernel_rfl) .nil)))))) rfl ?_
      exact ⟨rX, bX HB.out⟩
    ·rw [if_neg c10] at H
     have c10b0 : (t178 == 64) = false := beq_eq_false_iff_ne.mpr c10
     have c10b1 : (t178 != 64) = true := bne_iff_ne.mpr c10
     simp only [Option.some.injEq, Prod.mk.injEq] at H
     obtain ⟨rfl, rfl, rfl, rfl, rfl, rfl⟩ := H
     go_wp2_with (first | ((with_reducible refine gate_callee (f := 34) rfl ?_); refine goesL_ (some 30) rfl rfl Tryz.func34 (by kernel_rfl) rfl #[.slice A0 l0.length c0, .int .i64 58, .int .i64 2] rfl gX ?_; (with_reducible refine (anvilref02_value.calls kj3 _ _ l0 58 2 t178 _ ?side1 ?side2 A9.out).mono ?_); (case side1 => exact cX HR0.out HB.out); (case side2 => exact HC0.out); rintro e w' ⟨rfl, ⟨nd, rfl⟩⟩; refine ⟨_, rfl, ?_⟩; skip; have hcz41_0 : wc.cell? ⟨gb175, 0, none⟩ = some (.int .i64 0) := (kCe BK175.out 0).trans rfl; have hcz41_1 : wc.cell? ⟨gb175, 1, none⟩ = some (.int .i64 0) := (kCe BK175.out 1).trans rfl; have hfz41_0 := kFr BK175.out 0; have hfz41_1 := kFr BK175.out 1))
     refine bodyPost_ret (results_list (rs := [.tmp 2, .tmp 3, .tmp 4, .tmp 5, .cell 6 66]) rfl (by simp) (.tmp (.tmp (.tmp (.tmp (.cell gb175 66 #[.int .i64 58, .int .i64 22] (0, 0) _ rfl (by (with_reducible repeat (first | refine kDn ?_ _ | refine kDr ?_ | refine kAl ?_ _)); refine kPu (cs := #[.int .i64 58, .int .i64 0]) ?_ 1 _ rfl; (with_reducible repeat (first | refine kDn ?_ _ | refine kDr ?_ | refine kAl ?_ _)); refine kPu (cs := #[.int .i64 0, .int .i64 0]) ?_ 0 _ rfl; (with_reducible repeat (first | refine kDn ?_ _ | refine kDr ?_ | refine kAl ?_ _)); exact BK175.out) Tryz.underlying66 rfl (by kernel_rfl) .nil)))))) rfl ?_
     exact ⟨rX, bX HB.out⟩
def anvilref02_text.l0 : Nat → List Int → Int → Int → Option (ByteArray × Bool)
 | 0, _, _, _ => none
 | k + 1, x0, x1, x6 => if x6 < (x0.length : Int) then (if 0 ≤ x6 then (if (rd x0 x6) = 0 then (if 0 ≤ x1 then (if x1 ≤ x6 then (if x6 ≤ (x0.length : Int) then (some (strOfNums ((x0.take (x6 : Int).toNat).drop (x1 : Int).toNat), true)) else (none)) else (none)) else (none)) else (anvilref02_text.l0 k x0 x1 (wrap64 (x6 + 1)))) else (none)) else (some ((⟨#[]⟩ : ByteArray), false))
def anvilref02_text.f (k : Nat) (l0 : List Int) (a1 : Int) : Option (ByteArray × Bool) := if a1 ≥ (IntKind.u64.wrap ((l0.length : Int))) then (some ((⟨#[]⟩ : ByteArray), false)) else (anvilref02_text.l0 k l0 a1 (wrap64 (a1)))
theorem anvilref02_text.mono_l : ∀ k, (∀ y0 y1 y2, LeO (anvilref02_text.l0 k y0 y1 y2) (anvilref02_text.l0 (k + 1) y0 y1 y2))
 | 0 => fun _ _ _ r h => by simp [anvilref02_text.l0] at h
 | k + 1 => by
  have ih0 := anvilref02_text.mono_l k
  ·intro y0 y1 y2
   unfold anvilref02_text.l0
   repeat' first
   | (with_reducible exact ih0 _ _ _)
   | (with_reducible exact LeO.refl _)
   | (with_reducible exact LeO.none _)
   | (with_reducible refine LeO.ite ?_ ?_)
   | (with_reducible refine LeO.bind ?_ (fun _ => ?_))
   | exact ih0 _ _ _
   | exact LeO.none _
   | refine LeO.ite ?_ ?_
   | refine LeO.bind ?_ (fun _ => ?_)
theorem anvilref02_text.mono : ∀ a0 a1 k, LeO (anvilref02_text.f k a0 a1) (anvilref02_text.f (k + 1) a0 a1) := by
 intro a0 a1 k
 have ih0 := anvilref02_text.mono_l k
 unfold anvilref02_text.f
 repeat' first
  | (with_reducible exact ih0 _ _ _)
  | (with_reducible exact LeO.refl _)
  | (with_reducible exact LeO.none _)
  | (with_reducible refine LeO.ite ?_ ?_)
  | (with_reducible refine LeO.bind ?_ (fun _ => ?_))
  | exact ih0 _ _ _
  | exact LeO.none _
  | refine LeO.ite ?_ ?_
  | refine LeO.bind ?_ (fun _ => ?_)
set_option maxHeartbeats 8000000 in
set_option maxRecDepth 100000 in
theorem anvilref02_text.calls (k : Nat) (A0 : Option Addr) (c0 : Nat) (l0 : List Int) (a1 : Int) (r1 : ByteArray) (r2 : Bool) (w : World) (hr0 : Kd.C (Kd.int .u8) w A0 l0.length l0) (hc0 : l0.length ≤ c0) (h : anvilref02_text.f k l0 a1 = some (r1, r2)) :
 Calls Tryz.prog 67 #[.slice A0 l0.length c0, .int .u64 a1] w fun e w' => e = .returned (.tuple #[.string r1, .bool r2]) ∧ Drawn0 w w' := by
 have HR0 := Asd.mk hr0
 have HC0 := Asd.mk hc0
 clear hr0 hc0
 have H : (if a1 ≥ (IntKind.u64.wrap ((l0.length : Int))) then (some ((⟨#[]⟩ : ByteArray), false)) else (anvilref02_text.l0 k l0 a1 (wrap64 (a1)))) = some (r1, r2) := h
 clear h
 by_cases c3 : a1 ≥ (IntKind.u64.wrap ((l0.length : Int)))
 ·rw [if_pos c3] at H
  have c3b0 : decide ((IntKind.u64.wrap ((l0.length : Int))) ≤ a1) = true := decide_eq_true c3
  clear c3
  simp only [Option.some.injEq, Prod.mk.injEq] at H
  obtain ⟨rfl, rfl⟩ := H
  go_enter Tryz.func67, Tryz.ntmps67
  go_wp2
  go_ret2
  exact ⟨eX, by repeat (first | exact Drawn0.refl _ | apply Drawn0.step)⟩
 ·rw [if_neg c3] at H
  have c3b0 : decide ((IntKind.u64.wrap ((l0.length : Int))) ≤ a1) = false := decide_eq_false c3
  clear c3
  have H' := Asd.mk H
  clear H
  go_enter Tryz.func67, Tryz.ntmps67
  go_wp2
  go_loopg [6] k (fun kq v6 w' => ∃ (x6_1 : Int), v6 = .int .i64 x6_1 ∧ Asd (anvilref02_text.l0 kq l0 a1 x6_1 = some (r1, r2)) ∧ Asd (kq ≤ k) ∧ Drawn0 w w')
  case atStart => exact ⟨(wrap64 (a1)), eX, H', ⟨Nat.le_refl _⟩, by repeat (first | exact Drawn0.refl _ | apply Drawn0.step)⟩
  case round =>
   clear H'
   try clear p2
   try clear c3
   try clear c3b0
   obtain ⟨x6_1, rfl, HA, HK1, ⟨m1, rfl⟩⟩ := hrel
   cases gk with
   | zero => exact absurd HA.out (by simp [anvilref02_text.l0])
   | succ k1 =>
    have H := HA.out
    clear HA
    simp only [anvilref02_text.l0] at H
    by_cases c4 : x6_1 < (l0.length : Int)
    ·rw [if_pos c4] at H
     have c4b0 : decide (x6_1 < (l0.length : Int)) = true := decide_eq_true c4
     clear c4
     by_cases c5 : 0 ≤ x6_1
     ·rw [if_pos c5] at H
      have c5b0 : decide (0 ≤ x6_1) = true := decide_eq_true c5
      clear c5
      by_cases c6 : (rd l0 x6_1) = 0
      ·rw [if_pos c6] at H
       have c6b0 : ((rd l0 x6_1) == 0) = true := beq_iff_eq.mpr c6
       have c6b1 : ((rd l0 x6_1) != 0) = false := bne_eq_false_iff_eq.mpr c6
       clear c6
       by_cases c7 : 0 ≤ a1
       ·rw [if_pos c7] at H
        have c7b0 := eq_true c7
        have c7b1 : decide (0 ≤ a1) = true := decide_eq_true c7
        clear c7
        by_cases c8 : a1 ≤ x6_1
        ·rw [if_pos c8] at H
         have c8b0 := eq_true c8
         have c8b1 : decide (a1 ≤ x6_1) = true := decide_eq_true c8
         clear c8
         by_cases c9 : x6_1 ≤ (l0.length : Int)
         ·rw [if_pos c9] at H
          have c9b0 := eq_true c9
          have c9b1 : decide (x6_1 ≤ (l0.length : Int)) = true := decide_eq_true c9
          clear c9
          simp only [Option.some.injEq, Prod.mk.injEq] at H
          obtain ⟨rfl, rfl⟩ := H
          have p190 : 0 ≤ (x6_1 : Int) := of_decide_eq_true aX
          have q190 : x6_1 < (l0.length : Int) := of_decide_eq_true aX
          obtain ⟨ad190, e190, hx190_0⟩ := Kd.at_int HR0.out x6_1 p190 q190
          cases e190
          replace p190 := eq_true p190
          replace q190 := eq_true q190
          obtain ⟨i010, hi010, _, hsz10, _⟩ := info_parts info5
          obtain ⟨A10, hcut10, hA10, hC10⟩ := print_mid_of (P := Tryz.prog) (Value.int .u8) 0 22 5 .u64 .i64 Tryz.underlying22 hi010 hsz10 (some ad190) c0 l0 a1 x6_1 (of_decide_eq_true aX) (by first | omega | exact of_decide_eq_true aX) (of_decide_eq_true aX) HC0.out
          have HR191 := Asd.mk (Kd.C_of_reads (h1 := fun _ => rfl) (hA10 _ (Kd.reads_of_C HR0.out)))
          have HC191 := Asd.mk hC10
          clear hA10 hC10 hi010 hsz10
          have hcv11 := Kd.C_string (P := Tryz.prog) (A := A10) (c := (c0 - a1.toNat)) Tryz.underlying22 Tryz.underlying5 Tryz.underlying9 HR191.out
          have hcvd11 := fun (m_ : Nat) => Kd.C_string (P := Tryz.prog) (A := A10) (c := (c0 - a1.toNat)) Tryz.underlying22 Tryz.underlying5 Tryz.underlying9 (Kd.C_drewN (HR191.out) m_)
          try simp only [show ((l0.take (x6_1 : Int).toNat).drop (a1 : Int).toNat).length = (x6_1.toNat - a1.toNat) from (by rw [List.length_drop, List.length_take]; have h_ : (x6_1 : Int) ≤ (l0.length : Int) := of_decide_eq_true aX; omega)] at hcvd11
          go_wp2
          go_ret2
          exact ⟨eX, by repeat (first | exact Drawn0.refl _ | apply Drawn0.step)⟩
         ·rw [if_neg c9] at H
          exact absurd H (by simp)
        ·rw [if_neg c8] at H
         exact absurd H (by simp)
       ·rw [if_neg c7] at H
        exact absurd H (by simp)
      ·rw [if_neg c6] at H
       have c6b0 : ((rd l0 x6_1) == 0) = false := beq_eq_false_iff_ne.mpr c6
       have c6b1 : ((rd l0 x6_1) != 0) = true := bne_iff_ne.mpr c6
       have H' := Asd.mk H
       clear H
       have p190 : 0 ≤ (x6_1 : Int) := of_decide_eq_true aX
       have q190 : x6_1 < (l0.length : Int) := of_decide_eq_true aX
       obtain ⟨ad190, e190, hx190_0⟩ := Kd.at_int HR0.out x6_1 p190 q190
       cases e190
       replace p190 := eq_true p190
       replace q190 := eq_true q190
       go_wp2
       go_roundg k1
       case measure => have := HK1.out; omega
       case rel => exact ⟨(wrap64 (x6_1 + 1)), eX, H', ⟨by have := HK1.out; omega⟩, by repeat (first | exact Drawn0.refl _ | apply Drawn0.step)⟩
     ·rw [if_neg c5] at H
      exact absurd H (by simp)
    ·rw [if_neg c4] at H
     have c4b0 : decide (x6_1 < (l0.length : Int)) = false := decide_eq_false c4
     clear c4
     simp only [Option.some.injEq, Prod.mk.injEq] at H
     obtain ⟨rfl, rfl⟩ := H
     go_wp2
     go_ret2
     exact ⟨eX, by repeat (first | exact Drawn0.refl _ | apply Drawn0.step)⟩
def anvilref02_Name.f (a0 : ByteArray) : Option (Bool) := if a0.size < 9223372036854775807 then some (nameB a0) else none
theorem anvilref02_Name.calls (a0 : ByteArray) (r : Bool) (w : World) (hG : Glob w) (h : anvilref02_Name.f a0 = some r) :
 Calls Tryz.prog 68 #[.string a0] w fun e w' => e = .returned (.bool r) ∧ Below w.heap.size w w' := by
 unfold anvilref02_Name.f at h
 split at h
 ·injection h with h
  subst h
  exact Name_calls a0 w (by assumption) hG
 ·cases h
def anvilref02_has.l0 : Nat → List (S82) → Int → ByteArray → Int → Option (Bool)
 | 0, _, _, _, _ => none
 | k + 1, x0, x5, x193000, x193001 => if x5 < (x0.length : Int) then (if 0 ≤ x5 then (if ((((rd_T82 x0 x5).f0).toList) == x193000.toList && (((rd_T82 x0 x5).f1) == x193001)) = true then (some true) else (anvilref02_has.l0 k x0 (wrap64 (x5 + 1)) x193000 x193001)) else (none)) else (some false)
def anvilref02_has.f (k : Nat) (l0 : List (S82)) (a1_0 : ByteArray) (a1_1 : Int) : Option (Bool) := anvilref02_has.l0 k l0 0 a1_0 a1_1
theorem anvilref02_has.mono_l : ∀ k, (∀ y0 y1 y2 y3, LeO (anvilref02_has.l0 k y0 y1 y2 y3) (anvilref02_has.l0 (k + 1) y0 y1 y2 y3))
 | 0 => fun _ _ _ _ r h => by simp [anvilref02_has.l0] at h
 | k + 1 => by
  have ih0 := anvilref02_has.mono_l k
  ·intro y0 y1 y2 y3
   unfold anvilref02_has.l0
   repeat' first
   | (with_reducible exact ih0 _ _ _ _)
   | (with_reducible exact LeO.refl _)
   | (with_reducible exact LeO.none _)
   | (with_reducible refine LeO.ite ?_ ?_)
   | (with_reducible refine LeO.bind ?_ (fun _ => ?_))
   | exact ih0 _ _ _ _
   | exact LeO.none _
   | refine LeO.ite ?_ ?_
   | refine LeO.bind ?_ (fun _ => ?_)
theorem anvilref02_has.mono : ∀ a0 a1 a2 k, LeO (anvilref02_has.f k a0 a1 a2) (anvilref02_has.f (k + 1) a0 a1 a2) := by
 intro a0 a1 a2 k
 have ih0 := anvilref02_has.mono_l k
 unfold anvilref02_has.f
 repeat' first
  | (with_reducible exact ih0 _ _ _ _)
  | (with_reducible exact LeO.refl _)
  | (with_reducible exact LeO.none _)
  | (with_reducible refine LeO.ite ?_ ?_)
  | (with_reducible refine LeO.bind ?_ (fun _ => ?_))
  | exact ih0 _ _ _ _
  | exact LeO.none _
  | refine LeO.ite ?_ ?_
  | refine LeO.bind ?_ (fun _ => ?_)
set_option maxHeartbeats 8000000 in
set_option maxRecDepth 100000 in
theorem anvilref02_has.calls (k : Nat) (A0 : Option Addr) (c0 : Nat) (l0 : List (S82)) (a1_0 : ByteArray) (a1_1 : Int) (r : Bool) (w : World) (hr0 : Kd.C k82 w A0 l0.length l0) (hc0 : l0.length ≤ c0) (h : anvilref02_has.f k l0 a1_0 a1_1 = some r) :
 Calls Tryz.prog 69 #[.slice A0 l0.length c0, .agg #[.string a1_0, .int .u64 a1_1]] w fun e w' => e = .returned (.bool r) ∧ Below w.heap.size w w' := by
 have hu82 := Tryz.underlying82
 have HR0 := Asd.mk hr0
 have HC0 := Asd.mk hc0
 clear hr0 hc0
 have HB := Asd.mk (Below.refl w.heap.size w)
 have H : (anvilref02_has.l0 k l0 0 a1_0 a1_1) = some r := h
 clear h
 have H' := Asd.mk H
 clear H
 go_enter Tryz.func69, Tryz.ntmps69
 go_wp2_with (first | ((with_reducible refine gDs (N := 3) rfl ?_); refine bEv ?hg (N := 3) ?hd (cs := #[.string a1_0, .int .u64 a1_1]) (t := 82) ?hr ?_; (case hd => rfl); (case hg => rfl); (case hr => first | (go_simp; done) | (go_simp; rfl)); intro gb192 hg w3 hbox hb; have n0_ := Asd.mk (bSt (bX HB.out) hb); have n1_ := Asd.mk (hbox); have n2_ := Asd.mk (zX hg (bX HB.out) : w.heap.size ≤ gb192); have n3_ := Asd.mk (zX hg (bX HB.out) : w.heap.size ≤ gb192); clear HB; have HB := n0_; have BK192 := n1_; have GW192 := n2_; have GE192 := n3_; clear n0_ n1_ n2_ n3_; clear hb hbox hg))
 go_loopg [5] k (fun kq v5 w' => ∃ (x5_1 : Int), v5 = .int .i64 x5_1 ∧ Asd (anvilref02_has.l0 kq l0 x5_1 a1_0 a1_1 = some r) ∧ Asd (kq ≤ k) ∧ Asd (w'.heap[gb192]? = some (.cells #[.string a1_0, .int .u64 a1_1] 82 (0, 0))) ∧ Asd (Below w.heap.size w w'))
 case atStart => exact ⟨(0), eX, H', ⟨Nat.le_refl _⟩, ⟨kX BK192.out⟩, ⟨bX HB.out⟩⟩
 case round =>
  clear H'
  try clear p2
  obtain ⟨x5_1, rfl, HA, HK1, BK192, HB⟩ := hrel
  cases gk with
  | zero => exact absurd HA.out (by simp [anvilref02_has.l0])
  | succ k1 =>
   have H := HA.out
   clear HA
   simp only [anvilref02_has.l0] at H
   by_cases c4 : x5_1 < (l0.length : Int)
   ·rw [if_pos c4] at H
    have c4b0 : decide (x5_1 < (l0.length : Int)) = true := decide_eq_true c4
    clear c4
    by_cases c5 : 0 ≤ x5_1
    ·rw [if_pos c5] at H
     have c5b0 : decide (0 ≤ x5_1) = true := decide_eq_true c5
     clear c5
     by_cases c6 : ((((rd_T82 l0 x5_1).f0).toList) == a1_0.toList && (((rd_T82 l0 x5_1).f1) == a1_1)) = true
     ·rw [if_pos c6] at H
      have c6b0 : ((((rd_T82 l0 x5_1).f0).toList) == a1_0.toList && (((rd_T82 l0 x5_1).f1) == a1_1)) = true := c6
      (try (have c6b1 : decide ((((rd_T82 l0 x5_1).f0).toList) = a1_0.toList && (((rd_T82 l0 x5_1).f1) == a1_1)) = true := by simpa using c6))
      (try (have c6b2 : ((((rd_T82 l0 x5_1).f0).toList) == a1_0.toList && (((rd_T82 l0 x5_1).f1) == a1_1)) = true := by simpa using c6))
      clear c6
      obtain rfl := Option.some.inj H
      have p193 : 0 ≤ (x5_1 : Int) := of_decide_eq_true aX
      have q193 : x5_1 < (l0.length : Int) := of_decide_eq_true aX
      obtain ⟨ad193, e193, hx193_0, hx193_1⟩ := at_T82 HR0.out x5_1 p193 q193
      cases e193
      replace hx193_0 := (HB.out.cell (World.block_lt_of_cell? w _ hx193_0)).trans hx193_0
      replace hx193_1 := (HB.out.cell (World.block_lt_of_cell? w _ hx193_1)).trans hx193_1
      replace p193 := eq_true p193
      replace q193 := eq_true q193
      have hcz7_0 : wr.cell? ⟨gb192, 0, none⟩ = some (.string a1_0) := (kCe BK192.out 0).trans rfl
      have hcz7_1 : wr.cell? ⟨gb192, 1, none⟩ = some (.int .u64 a1_1) := (kCe BK192.out 1).trans rfl
      have hfz7_0 := kFr BK192.out 0
      have hfz7_1 := kFr BK192.out 1
      go_wp2
      repeat (go_quiet (fail); try go_wp2)
      go_ret
      exact ⟨rX, bX HB.out⟩
     ·rw [if_neg c6] at H
      have c6b0 : ((((rd_T82 l0 x5_1).f0).toList) == a1_0.toList && (((rd_T82 l0 x5_1).f1) == a1_1)) = false := by simpa using c6
      (try (have c6b1 : decide ((((rd_T82 l0 x5_1).f0).toList) = a1_0.toList && (((rd_T82 l0 x5_1).f1) == a1_1)) = false := by simpa using c6))
      (try (have c6b2 : ((((rd_T82 l0 x5_1).f0).toList) == a1_0.toList && (((rd_T82 l0 x5_1).f1) == a1_1)) = false := by simpa using c6))
      (try (have c6b3 : ¬ ((((rd_T82 l0 x5_1).f0).toList) = a1_0.toList && (((rd_T82 l0 x5_1).f1) == a1_1)) := by simpa using c6))
      clear c6
      have H' := Asd.mk H
      clear H
      have p193 : 0 ≤ (x5_1 : Int) := of_decide_eq_true aX
      have q193 : x5_1 < (l0.length : Int) := of_decide_eq_true aX
      obtain ⟨ad193, e193, hx193_0, hx193_1⟩ := at_T82 HR0.out x5_1 p193 q193
      cases e193
      replace hx193_0 := (HB.out.cell (World.block_lt_of_cell? w _ hx193_0)).trans hx193_0
      replace hx193_1 := (HB.out.cell (World.block_lt_of_cell? w _ hx193_1)).trans hx193_1
      replace p193 := eq_true p193
      replace q193 := eq_true q193
      have hcz8_0 : wr.cell? ⟨gb192, 0, none⟩ = some (.string a1_0) := (kCe BK192.out 0).trans rfl
      have hcz8_1 : wr.cell? ⟨gb192, 1, none⟩ = some (.int .u64 a1_1) := (kCe BK192.out 1).trans rfl
      have hfz8_0 := kFr BK192.out 0
      have hfz8_1 := kFr BK192.out 1
      go_wp2
      repeat (go_quiet (fail); try go_wp2)
      go_roundg k1
      case measure => have := HK1.out; omega
      case rel => exact ⟨(wrap64 (x5_1 + 1)), eX, H', ⟨by have := HK1.out; omega⟩, ⟨kX BK192.out⟩, ⟨bX HB.out⟩⟩
    ·rw [if_neg c5] at H
     exact absurd H (by simp)
   ·rw [if_neg c4] at H
    have c4b0 : decide (x5_1 < (l0.length : Int)) = false := decide_eq_false c4
    clear c4
    obtain rfl := Option.some.inj H
    go_wp2
    repeat (go_quiet (fail); try go_wp2)
    go_ret
    exact ⟨rX, bX HB.out⟩
end Go.Proofs.YtbnlifldnjgpmaaGreatDoor.PWri
