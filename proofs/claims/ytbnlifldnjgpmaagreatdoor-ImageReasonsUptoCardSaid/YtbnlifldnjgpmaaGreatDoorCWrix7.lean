-- BY PROGRAM of this session (the kit's printer, turned by wip/tools/patch_print.py). Lean checks it.
import Derived.Test.YtbnlifldnjgpmaaGreatDoorCGr1
namespace Go.Proofs.YtbnlifldnjgpmaaGreatDoor.PWri
open Go.RowKit Go.Proofs.YtbnlifldnjgpmaaGreatDoorW.PrintWords Go.Proofs.YtbnlifldnjgpmaaGreatDoorW.PrintLast Go.Proofs.YtbnlifldnjgpmaaGreatDoorW.PrintMore
attribute [local go_sem] max2_int min2_int max_two min_two max_three min_three max_four min_four   -- for this text's walks alone
set_option linter.unusedVariables false
set_option linter.unusedSimpArgs false
mutual
def anvilref02_rising.l0 : Nat → List (S55) → List (S55) → Option ((List (S55)))
 | 0, _, _ => none
 | k + 1, x0, x3 => if (x3.length : Int) < (x0.length : Int) then (anvilref02_rising.l1 k x0 x3 (-1) 0) else (some x3)
def anvilref02_rising.l1 : Nat → List (S55) → List (S55) → Int → Int → Option ((List (S55)))
 | 0, _, _, _, _ => none
 | k + 1, x0, x3, x4, x5 => if x5 < (x0.length : Int) then (if (x3.length : Int) = 0 then (if x4 < 0 then (anvilref02_rising.l1 k x0 x3 x5 (wrap64 (x5 + 1))) else (if 0 ≤ x5 then (if 0 ≤ x4 then (if x4 < (x0.length : Int) then (if ((rd_T55 x0 x5).f0) < ((rd_T55 x0 x4).f0) then (anvilref02_rising.l1 k x0 x3 x5 (wrap64 (x5 + 1))) else (anvilref02_rising.l1 k x0 x3 x4 (wrap64 (x5 + 1)))) else (none)) else (none)) else (none))) else (if 0 ≤ x5 then (if 0 ≤ (wrap64 ((x3.length : Int) - 1)) then (if (wrap64 ((x3.length : Int) - 1)) < (x3.length : Int) then (if ((rd_T55 x0 x5).f0) > ((rd_T55 x3 (wrap64 ((x3.length : Int) - 1))).f0) then (if x4 < 0 then (anvilref02_rising.l1 k x0 x3 x5 (wrap64 (x5 + 1))) else (if 0 ≤ x4 then (if x4 < (x0.length : Int) then (if ((rd_T55 x0 x5).f0) < ((rd_T55 x0 x4).f0) then (anvilref02_rising.l1 k x0 x3 x5 (wrap64 (x5 + 1))) else (anvilref02_rising.l1 k x0 x3 x4 (wrap64 (x5 + 1)))) else (none)) else (none))) else (anvilref02_rising.l1 k x0 x3 x4 (wrap64 (x5 + 1)))) else (none)) else (none)) else (none))) else (if 0 ≤ x4 then (if x4 < (x0.length : Int) then (if x3.length < 2932031007402 then (anvilref02_rising.l0 k x0 (x3 ++ [(⟨(rd_T55 x0 x4).f0, (rd_T55 x0 x4).f1, (rd_T55 x0 x4).f2, (rd_T55 x0 x4).f3⟩ : S55)])) else (none)) else (none)) else (none))
end
def anvilref02_rising.f (k : Nat) (l0 : List (S55)) : Option ((List (S55))) := anvilref02_rising.l0 k l0 ([] : List (S55))
theorem anvilref02_rising.mono_l : ∀ k, (∀ y0 y1, LeO (anvilref02_rising.l0 k y0 y1) (anvilref02_rising.l0 (k + 1) y0 y1)) ∧ (∀ y0 y1 y2 y3, LeO (anvilref02_rising.l1 k y0 y1 y2 y3) (anvilref02_rising.l1 (k + 1) y0 y1 y2 y3))
 | 0 => ⟨fun _ _ r h => by simp [anvilref02_rising.l0] at h, fun _ _ _ _ r h => by simp [anvilref02_rising.l1] at h⟩
 | k + 1 => by
  obtain ⟨ih0, ih1⟩ := anvilref02_rising.mono_l k
  refine ⟨?_, ?_⟩
  ·intro y0 y1
   unfold anvilref02_rising.l0
   repeat' first
   | (with_reducible exact ih0 _ _)
   | (with_reducible exact ih1 _ _ _ _)
   | (with_reducible exact LeO.refl _)
   | (with_reducible exact LeO.none _)
   | (with_reducible refine LeO.ite ?_ ?_)
   | (with_reducible refine LeO.bind ?_ (fun _ => ?_))
   | exact ih0 _ _
   | exact ih1 _ _ _ _
   | exact LeO.none _
   | refine LeO.ite ?_ ?_
   | refine LeO.bind ?_ (fun _ => ?_)
  ·intro y0 y1 y2 y3
   unfold anvilref02_rising.l1
   repeat' first
   | (with_reducible exact ih0 _ _)
   | (with_reducible exact ih1 _ _ _ _)
   | (with_reducible exact LeO.refl _)
   | (with_reducible exact LeO.none _)
   | (with_reducible refine LeO.ite ?_ ?_)
   | (with_reducible refine LeO.bind ?_ (fun _ => ?_))
   | exact ih0 _ _
   | exact ih1 _ _ _ _
   | exact LeO.none _
   | refine LeO.ite ?_ ?_
   | refine LeO.bind ?_ (fun _ => ?_)
theorem anvilref02_rising.mono : ∀ a0 k, LeO (anvilref02_rising.f k a0) (anvilref02_rising.f (k + 1) a0) := by
 intro a0 k
 obtain ⟨ih0, ih1⟩ := anvilref02_rising.mono_l k
 unfold anvilref02_rising.f
 repeat' first
  | (with_reducible exact ih0 _ _)
  | (with_reducible exact ih1 _ _ _ _)
  | (with_reducible exact LeO.refl _)
  | (with_reducible exact LeO.none _)
  | (with_reducible refine LeO.ite ?_ ?_)
  | (with_reducible refine LeO.bind ?_ (fun _ => ?_))
  | exact ih0 _ _
  | exact ih1 _ _ _ _
  | exact LeO.none _
  | refine LeO.ite ?_ ?_
  | refine LeO.bind ?_ (fun _ => ?_)
set_option maxHeartbeats 8000000 in
set_option maxRecDepth 100000 in
theorem anvilref02_rising.calls (k : Nat) (P0_ : Nat → Prop) (A0 : Option Addr) (c0 : Nat) (l0 : List (S55)) (r : List (S55)) (w : World) (hs0 : Kd.V k55 55 w w.heap.size (fun k_ => P0_ k_) (.slice A0 l0.length c0) l0) (h : anvilref02_rising.f k l0 = some r) :
 Calls Tryz.prog 35 #[.slice A0 l0.length c0] w fun e w' => ∃ v0_ : Value, e = .returned (v0_) ∧ Kd.N k55 55 w' w.heap.size (fun k_ => (P0_ k_ ∨ w.heap.size ≤ k_)) v0_ r ∧ Below w.heap.size w w' := by
 have hu55 := Tryz.underlying55
 have HO0 := Asd.mk (show Kd.V k55 55 w w.heap.size (fun k_ => (P0_ k_ ∨ w.heap.size ≤ k_)) (.slice A0 l0.length c0) l0 from Kd.V_mono hs0 (fun k_ hk => .inl hk))
 have HB := Asd.mk (Below.refl w.heap.size w)
 have H : (anvilref02_rising.l0 k l0 ([] : List (S55))) = some r := h
 clear h
 have H' := Asd.mk H
 clear H
 go_enter Tryz.func35, Tryz.ntmps35
 go_wp2
 repeat (go_quiet (fail); try go_wp2)
 go_loopg [3] k (fun kq v3 w' => ∃ (x3_1 : List (S55)), Asd (anvilref02_rising.l0 kq l0 x3_1 = some r) ∧ Asd (kq ≤ k) ∧ Asd (Kd.V k55 55 w' w.heap.size (fun k_ => (P0_ k_ ∨ w.heap.size ≤ k_) ∧ some k_ ≠ (v3 : Value).ownBlock) (.slice A0 l0.length c0) l0) ∧ Asd (Kd.N k55 55 w' w.heap.size (fun k_ => (P0_ k_ ∨ w.heap.size ≤ k_)) v3 x3_1) ∧ Asd (Below w.heap.size w w'))
 case atStart => exact ⟨(([] : List (S55))), H', ⟨Nat.le_refl _⟩, ⟨by (with_reducible repeat (first | apply Kd.V_alloc | apply Kd.V_drewN | apply Kd.V_drew)); exact Kd.V_mono HO0.out (fun _ hk => ⟨hk, (by simp [Value.ownBlock])⟩)⟩, ⟨by first | exact Kd.S_nil _ _ _ _ _ | exact Kd.N_nil _ _ _ _ _ | exact Kd.V_nil _ _ _ _ _ | exact Kd.Q_nil _ _ _ _ _ | exact Kd.R_nil _ _ _ _ _⟩, ⟨bX HB.out⟩⟩
 case round =>
  clear H'
  obtain ⟨x3_1, HA, HK1, HO_0, HO_3, HB⟩ := hrel
  cases gk with
  | zero => exact absurd HA.out (by simp [anvilref02_rising.l0])
  | succ k1 =>
   have H := HA.out
   clear HA
   simp only [anvilref02_rising.l0] at H
   by_cases c2 : (x3_1.length : Int) < (l0.length : Int)
   ·rw [if_pos c2] at H
    have c2b0 : decide ((x3_1.length : Int) < (l0.length : Int)) = true := decide_eq_true c2
    have c2b1 : decide (x3_1.length < l0.length) = true := decide_eq_true (Int.ofNat_lt.mp c2)
    clear c2
    have H' := Asd.mk H
    clear H
    obtain ⟨Ao3, co3, eo3⟩ := Kd.N_slice HO_3.out
    subst eo3
    go_wp2
    repeat (go_quiet (fail); try go_wp2)
    go_loopg [4, 5] k1 (fun kq v4 v5 w' => ∃ (x4_2 : Int) (x5_2 : Int), v4 = .int .i64 x4_2 ∧ v5 = .int .i64 x5_2 ∧ Asd (anvilref02_rising.l1 kq l0 x3_1 x4_2 x5_2 = some r) ∧ Asd (kq ≤ k1) ∧ Asd (Kd.V k55 55 w' w.heap.size (fun k_ => (P0_ k_ ∨ w.heap.size ≤ k_) ∧ some k_ ≠ ((.slice Ao3 x3_1.length co3) : Value).ownBlock) (.slice A0 l0.length c0) l0) ∧ Asd (Kd.N k55 55 w' w.heap.size (fun k_ => (P0_ k_ ∨ w.heap.size ≤ k_)) (.slice Ao3 x3_1.length co3) x3_1) ∧ Asd (Below w.heap.size w w'))
    case atStart => exact ⟨((-1)), (0), eX, eX, H', ⟨Nat.le_refl _⟩, ⟨by (with_reducible repeat (first | apply Kd.V_alloc | apply Kd.V_drewN | apply Kd.V_drew)); exact HO_0.out⟩, ⟨by (with_reducible repeat (first | apply Kd.N_alloc | apply Kd.N_drewN | apply Kd.N_drew)); exact HO_3.out⟩, ⟨bX HB.out⟩⟩
    case round =>
     clear H'
     try clear c2
     try clear c2b0
     try clear c2b1
     try clear p2
     try clear c3
     obtain ⟨x4_2, x5_2, rfl, rfl, HA, HK2, HO_0, HO_3, HB⟩ := hrel
     cases gk with
     | zero => exact absurd HA.out (by simp [anvilref02_rising.l1])
     | succ k2 =>
      have H := HA.out
      clear HA
      simp only [anvilref02_rising.l1] at H
      by_cases c4 : x5_2 < (l0.length : Int)
      ·rw [if_pos c4] at H
       have c4b0 : decide (x5_2 < (l0.length : Int)) = true := decide_eq_true c4
       clear c4
       by_cases c5 : (x3_1.length : Int) = 0
       ·rw [if_pos c5] at H
        have c5b0 : ((x3_1.length : Int) == 0) = true := beq_iff_eq.mpr c5
        have c5b1 : ((x3_1.length : Int) != 0) = false := bne_eq_false_iff_eq.mpr c5
        clear c5
        by_cases c6 : x4_2 < 0
        ·rw [if_pos c6] at H
         have c6b0 : decide (x4_2 < 0) = true := decide_eq_true c6
         clear c6
         have H' := Asd.mk H
         clear H
         go_wp2
         repeat (go_quiet (fail); try go_wp2)
         go_roundg k2
         case measure => have := HK1.out; have := HK2.out; omega
         case rel => exact ⟨(x5_2), (wrap64 (x5_2 + 1)), eX, eX, H', ⟨by have := HK1.out; have := HK2.out; omega⟩, ⟨by (with_reducible repeat (first | apply Kd.V_alloc | apply Kd.V_drewN | apply Kd.V_drew)); exact HO_0.out⟩, ⟨by (with_reducible repeat (first | apply Kd.N_alloc | apply Kd.N_drewN | apply Kd.N_drew)); exact HO_3.out⟩, ⟨bX HB.out⟩⟩
        ·rw [if_neg c6] at H
         have c6b0 : decide (x4_2 < 0) = false := decide_eq_false c6
         clear c6
         by_cases c7 : 0 ≤ x5_2
         ·rw [if_pos c7] at H
          have c7b0 : decide (0 ≤ x5_2) = true := decide_eq_true c7
          clear c7
          by_cases c8 : 0 ≤ x4_2
          ·rw [if_pos c8] at H
           have c8b0 : decide (0 ≤ x4_2) = true := decide_eq_true c8
           clear c8
           by_cases c9 : x4_2 < (l0.length : Int)
           ·rw [if_pos c9] at H
            have c9b0 : decide (x4_2 < (l0.length : Int)) = true := decide_eq_true c9
            clear c9
            by_cases c10 : ((rd_T55 l0 x5_2).f0) < ((rd_T55 l0 x4_2).f0)
            ·rw [if_pos c10] at H
             have c10b0 : decide (((rd_T55 l0 x5_2).f0) < ((rd_T55 l0 x4_2).f0)) = true := decide_eq_true c10
             clear c10
             have H' := Asd.mk H
             clear H
             have p215 : 0 ≤ (x5_2 : Int) := of_decide_eq_true aX
             have q215 : x5_2 < (l0.length : Int) := of_decide_eq_true aX
             obtain ⟨ad215, A215_3, c215_3, e215, hx215_0, hx215_1, hx215_2, hx215_3, hl215_3, hi215_3⟩ := at_T55 (Kd.V_reads' HO_0.out).2.2 x5_2 p215 q215
             cases e215
             obtain ⟨ce215, hce215, hMe215, hcc215⟩ := Kd.V_get HO_0.out z55 x5_2 p215 (by first | exact q215 | exact of_decide_eq_true aX | (have e_ := (Kd.V_reads' HO_0.out).1; omega))
             obtain ⟨ua215_3, uc215_3, rfl, ul215_3, ge215_3⟩ := k55_openF hMe215
             have hv215_3 := hcc215 3 _ rfl
             rw [add_field _ _ 3 (by omega)] at hv215_3
             replace hv215_3 := Option.some.inj (hv215_3.symm.trans hx215_3)
             injection hv215_3 with hva_ hvn_ hvc_
             rw [hva_] at ge215_3
             rw [hvc_] at ul215_3
             have HL215_3 := Asd.mk (show Kd.V (Kd.int .u8) 5 _ w.heap.size _ _ ((rd_T55 l0 x5_2).f3) from Kd.V_mk ul215_3 ge215_3)
             clear hva_ hvn_ hvc_ ge215_3 ul215_3
             clear hcc215 hce215
             have HR215_3 := Asd.mk hi215_3
             have HC215_3 := Asd.mk hl215_3
             clear hi215_3 hl215_3
             replace p215 := eq_true p215
             replace q215 := eq_true q215
             have p216 : 0 ≤ (x4_2 : Int) := of_decide_eq_true aX
             have q216 : x4_2 < (l0.length : Int) := of_decide_eq_true aX
             obtain ⟨ad216, A216_3, c216_3, e216, hx216_0, hx216_1, hx216_2, hx216_3, hl216_3, hi216_3⟩ := at_T55 (Kd.V_reads' HO_0.out).2.2 x4_2 p216 q216
             obtain rfl : ad215 = ad216 := (by injection e216)
             obtain ⟨ce216, hce216, hMe216, hcc216⟩ := Kd.V_get HO_0.out z55 x4_2 p216 (by first | exact q216 | exact of_decide_eq_true aX | (have e_ := (Kd.V_reads' HO_0.out).1; omega))
             obtain ⟨ua216_3, uc216_3, rfl, ul216_3, ge216_3⟩ := k55_openF hMe216
             have hv216_3 := hcc216 3 _ rfl
             rw [add_field _ _ 3 (by omega)] at hv216_3
             replace hv216_3 := Option.some.inj (hv216_3.symm.trans hx216_3)
             injection hv216_3 with hva_ hvn_ hvc_
             rw [hva_] at ge216_3
             rw [hvc_] at ul216_3
             have HL216_3 := Asd.mk (show Kd.V (Kd.int .u8) 5 _ w.heap.size _ _ ((rd_T55 l0 x4_2).f3) from Kd.V_mk ul216_3 ge216_3)
             clear hva_ hvn_ hvc_ ge216_3 ul216_3
             clear hcc216 hce216
             have HR216_3 := Asd.mk hi216_3
             have HC216_3 := Asd.mk hl216_3
             clear hi216_3 hl216_3
             replace p216 := eq_true p216
             replace q216 := eq_true q216
             go_wp2
             repeat (go_quiet (fail); try go_wp2)
             go_roundg k2
             case measure => have := HK1.out; have := HK2.out; omega
             case rel => exact ⟨(x5_2), (wrap64 (x5_2 + 1)), eX, eX, H', ⟨by have := HK1.out; have := HK2.out; omega⟩, ⟨by (with_reducible repeat (first | apply Kd.V_alloc | apply Kd.V_drewN | apply Kd.V_drew)); exact HO_0.out⟩, ⟨by (with_reducible repeat (first | apply Kd.N_alloc | apply Kd.N_drewN | apply Kd.N_drew)); exact HO_3.out⟩, ⟨bX HB.out⟩⟩
            ·rw [if_neg c10] at H
             have c10b0 : decide (((rd_T55 l0 x5_2).f0) < ((rd_T55 l0 x4_2).f0)) = false := decide_eq_false c10
             clear c10
             have H' := Asd.mk H
             clear H
             have p215 : 0 ≤ (x5_2 : Int) := of_decide_eq_true aX
             have q215 : x5_2 < (l0.length : Int) := of_decide_eq_true aX
             obtain ⟨ad215, A215_3, c215_3, e215, hx215_0, hx215_1, hx215_2, hx215_3, hl215_3, hi215_3⟩ := at_T55 (Kd.V_reads' HO_0.out).2.2 x5_2 p215 q215
             cases e215
             obtain ⟨ce215, hce215, hMe215, hcc215⟩ := Kd.V_get HO_0.out z55 x5_2 p215 (by first | exact q215 | exact of_decide_eq_true aX | (have e_ := (Kd.V_reads' HO_0.out).1; omega))
             obtain ⟨ua215_3, uc215_3, rfl, ul215_3, ge215_3⟩ := k55_openF hMe215
             have hv215_3 := hcc215 3 _ rfl
             rw [add_field _ _ 3 (by omega)] at hv215_3
             replace hv215_3 := Option.some.inj (hv215_3.symm.trans hx215_3)
             injection hv215_3 with hva_ hvn_ hvc_
             rw [hva_] at ge215_3
             rw [hvc_] at ul215_3
             have HL215_3 := Asd.mk (show Kd.V (Kd.int .u8) 5 _ w.heap.size _ _ ((rd_T55 l0 x5_2).f3) from Kd.V_mk ul215_3 ge215_3)
             clear hva_ hvn_ hvc_ ge215_3 ul215_3
             clear hcc215 hce215
             have HR215_3 := Asd.mk hi215_3
             have HC215_3 := Asd.mk hl215_3
             clear hi215_3 hl215_3
             replace p215 := eq_true p215
             replace q215 := eq_true q215
             have p216 : 0 ≤ (x4_2 : Int) := of_decide_eq_true aX
             have q216 : x4_2 < (l0.length : Int) := of_decide_eq_true aX
             obtain ⟨ad216, A216_3, c216_3, e216, hx216_0, hx216_1, hx216_2, hx216_3, hl216_3, hi216_3⟩ := at_T55 (Kd.V_reads' HO_0.out).2.2 x4_2 p216 q216
             obtain rfl : ad215 = ad216 := (by injection e216)
             obtain ⟨ce216, hce216, hMe216, hcc216⟩ := Kd.V_get HO_0.out z55 x4_2 p216 (by first | exact q216 | exact of_decide_eq_true aX | (have e_ := (Kd.V_reads' HO_0.out).1; omega))
             obtain ⟨ua216_3, uc216_3, rfl, ul216_3, ge216_3⟩ := k55_openF hMe216
             have hv216_3 := hcc216 3 _ rfl
             rw [add_field _ _ 3 (by omega)] at hv216_3
             replace hv216_3 := Option.some.inj (hv216_3.symm.trans hx216_3)
             injection hv216_3 with hva_ hvn_ hvc_
             rw [hva_] at ge216_3
             rw [hvc_] at ul216_3
             have HL216_3 := Asd.mk (show Kd.V (Kd.int .u8) 5 _ w.heap.size _ _ ((rd_T55 l0 x4_2).f3) from Kd.V_mk ul216_3 ge216_3)
             clear hva_ hvn_ hvc_ ge216_3 ul216_3
             clear hcc216 hce216
             have HR216_3 := Asd.mk hi216_3
             have HC216_3 := Asd.mk hl216_3
             clear hi216_3 hl216_3
             replace p216 := eq_true p216
             replace q216 := eq_true q216
             go_wp2
             repeat (go_quiet (fail); try go_wp2)
             go_roundg k2
             case measure => have := HK1.out; have := HK2.out; omega
             case rel => exact ⟨(x4_2), (wrap64 (x5_2 + 1)), eX, eX, H', ⟨by have := HK1.out; have := HK2.out; omega⟩, ⟨by (with_reducible repeat (first | apply Kd.V_alloc | apply Kd.V_drewN | apply Kd.V_drew)); exact HO_0.out⟩, ⟨by (with_reducible repeat (first | apply Kd.N_alloc | apply Kd.N_drewN | apply Kd.N_drew)); exact HO_3.out⟩, ⟨bX HB.out⟩⟩
           ·rw [if_neg c9] at H
            exact absurd H (by simp)
          ·rw [if_neg c8] at H
           exact absurd H (by simp)
         ·rw [if_neg c7] at H
          exact absurd H (by simp)
       ·rw [if_neg c5] at H
        have c5b0 : ((x3_1.length : Int) == 0) = false := beq_eq_false_iff_ne.mpr c5
        have c5b1 : ((x3_1.length : Int) != 0) = true := bne_iff_ne.mpr c5
        have c5b2 : ¬ (x3_1 = []) := fun h_ => c5 (by rw [h_]; rfl)
        by_cases c11 : 0 ≤ x5_2
        ·rw [if_pos c11] at H
         have c11b0 : decide (0 ≤ x5_2) = true := decide_eq_true c11
         clear c11
         obtain ⟨ji12, hji12⟩ : ∃ j_ : Int, (wrap64 ((x3_1.length : Int) - 1)) = j_ := ⟨_, rfl⟩
         replace H : (if 0 ≤ (ji12) then (if (ji12) < (x3_1.length : Int) then (if ((rd_T55 l0 x5_2).f0) > ((rd_T55 x3_1 (ji12)).f0) then (if x4_2 < 0 then (anvilref02_rising.l1 k2 l0 x3_1 x5_2 (wrap64 (x5_2 + 1))) else (if 0 ≤ x4_2 then (if x4_2 < (l0.length : Int) then (if ((rd_T55 l0 x5_2).f0) < ((rd_T55 l0 x4_2).f0) then (anvilref02_rising.l1 k2 l0 x3_1 x5_2 (wrap64 (x5_2 + 1))) else (anvilref02_rising.l1 k2 l0 x3_1 x4_2 (wrap64 (x5_2 + 1)))) else (none)) else (none))) else (anvilref02_rising.l1 k2 l0 x3_1 x4_2 (wrap64 (x5_2 + 1)))) else (none)) else (none)) = some r := by first | (rw [hji12] at H; exact H) | (simp only [hji12] at H ⊢; exact H)
         have hji12w : (IntKind.i64.wrap ((x3_1.length : Int) - 1)) = ji12 := (i64_w _).trans hji12
         by_cases c13 : 0 ≤ (ji12)
         ·rw [if_pos c13] at H
          have c13b0 : decide (0 ≤ (ji12)) = true := decide_eq_true c13
          clear c13
          by_cases c14 : (ji12) < (x3_1.length : Int)
          ·rw [if_pos c14] at H
           have c14b0 : decide ((ji12) < (x3_1.length : Int)) = true := decide_eq_true c14
           clear c14
           by_cases c15 : ((rd_T55 l0 x5_2).f0) > ((rd_T55 x3_1 (ji12)).f0)
           ·rw [if_pos c15] at H
            have c15b0 : decide (((rd_T55 x3_1 (ji12)).f0) < ((rd_T55 l0 x5_2).f0)) = true := decide_eq_true c15
            clear c15
            by_cases c16 : x4_2 < 0
            ·rw [if_pos c16] at H
             have c16b0 : decide (x4_2 < 0) = true := decide_eq_true c16
             clear c16
             have H' := Asd.mk H
             clear H
             have p217 : 0 ≤ (x5_2 : Int) := of_decide_eq_true aX
             have q217 : x5_2 < (l0.length : Int) := of_decide_eq_true aX
             obtain ⟨ad217, A217_3, c217_3, e217, hx217_0, hx217_1, hx217_2, hx217_3, hl217_3, hi217_3⟩ := at_T55 (Kd.V_reads' HO_0.out).2.2 x5_2 p217 q217
             cases e217
             obtain ⟨ce217, hce217, hMe217, hcc217⟩ := Kd.V_get HO_0.out z55 x5_2 p217 (by first | exact q217 | exact of_decide_eq_true aX | (have e_ := (Kd.V_reads' HO_0.out).1; omega))
             obtain ⟨ua217_3, uc217_3, rfl, ul217_3, ge217_3⟩ := k55_openF hMe217
             have hv217_3 := hcc217 3 _ rfl
             rw [add_field _ _ 3 (by omega)] at hv217_3
             replace hv217_3 := Option.some.inj (hv217_3.symm.trans hx217_3)
             injection hv217_3 with hva_ hvn_ hvc_
             rw [hva_] at ge217_3
             rw [hvc_] at ul217_3
             have HL217_3 := Asd.mk (show Kd.V (Kd.int .u8) 5 _ w.heap.size _ _ ((rd_T55 l0 x5_2).f3) from Kd.V_mk ul217_3 ge217_3)
             clear hva_ hvn_ hvc_ ge217_3 ul217_3
             clear hcc217 hce217
             have HR217_3 := Asd.mk hi217_3
             have HC217_3 := Asd.mk hl217_3
             clear hi217_3 hl217_3
             replace p217 := eq_true p217
             replace q217 := eq_true q217
             have p218 : 0 ≤ ((ji12) : Int) := of_decide_eq_true aX
             have q218 : (ji12) < (x3_1.length : Int) := of_decide_eq_true aX
             obtain ⟨ad218, A218_3, c218_3, e218, hx218_0, hx218_1, hx218_2, hx218_3, hl218_3, hi218_3⟩ := at_T55 (Kd.N_reads' HO_3.out).2.2 (ji12) p218 q218
             cases e218
             obtain ⟨ce218, hce218, hMe218, hcc218⟩ := Kd.N_get HO_3.out z55 (ji12) p218 (by first | exact q218 | exact of_decide_eq_true aX | (have e_ := (Kd.N_reads' HO_3.out).1; omega))
             obtain ⟨ua218_3, uc218_3, rfl, ul218_3, ge218_3⟩ := k55_openF hMe218
             have hv218_3 := hcc218 3 _ rfl
             rw [add_field _ _ 3 (by omega)] at hv218_3
             replace hv218_3 := Option.some.inj (hv218_3.symm.trans hx218_3)
             injection hv218_3 with hva_ hvn_ hvc_
             rw [hva_] at ge218_3
             rw [hvc_] at ul218_3
             have HL218_3 := Asd.mk (show Kd.V (Kd.int .u8) 5 _ w.heap.size _ _ ((rd_T55 x3_1 (ji12)).f3) from Kd.V_mk ul218_3 ge218_3)
             clear hva_ hvn_ hvc_ ge218_3 ul218_3
             clear hcc218 hce218
             have HR218_3 := Asd.mk hi218_3
             have HC218_3 := Asd.mk hl218_3
             clear hi218_3 hl218_3
             replace p218 := eq_true p218
             replace q218 := eq_true q218
             go_wp2
             repeat (go_quiet (fail); try go_wp2)
             go_roundg k2
             case measure => have := HK1.out; have := HK2.out; omega
             case rel => exact ⟨(x5_2), (wrap64 (x5_2 + 1)), eX, eX, H', ⟨by have := HK1.out; have := HK2.out; omega⟩, ⟨by (with_reducible repeat (first | apply Kd.V_alloc | apply Kd.V_drewN | apply Kd.V_drew)); exact HO_0.out⟩, ⟨by (with_reducible repeat (first | apply Kd.N_alloc | apply Kd.N_drewN | apply Kd.N_drew)); exact HO_3.out⟩, ⟨bX HB.out⟩⟩
            ·rw [if_neg c16] at H
             have c16b0 : decide (x4_2 < 0) = false := decide_eq_false c16
             clear c16
             by_cases c17 : 0 ≤ x4_2
             ·rw [if_pos c17] at H
              have c17b0 : decide (0 ≤ x4_2) = true := decide_eq_true c17
              clear c17
              by_cases c18 : x4_2 < (l0.length : Int)
              ·rw [if_pos c18] at H
               have c18b0 : decide (x4_2 < (l0.length : Int)) = true := decide_eq_true c18
               clear c18
               by_cases c19 : ((rd_T55 l0 x5_2).f0) < ((rd_T55 l0 x4_2).f0)
               ·rw [if_pos c19] at H
                have c19b0 : decide (((rd_T55 l0 x5_2).f0) < ((rd_T55 l0 x4_2).f0)) = true := decide_eq_true c19
                clear c19
                have H' := Asd.mk H
                clear H
                have p217 : 0 ≤ (x5_2 : Int) := of_decide_eq_true aX
                have q217 : x5_2 < (l0.length : Int) := of_decide_eq_true aX
                obtain ⟨ad217, A217_3, c217_3, e217, hx217_0, hx217_1, hx217_2, hx217_3, hl217_3, hi217_3⟩ := at_T55 (Kd.V_reads' HO_0.out).2.2 x5_2 p217 q217
                cases e217
                obtain ⟨ce217, hce217, hMe217, hcc217⟩ := Kd.V_get HO_0.out z55 x5_2 p217 (by first | exact q217 | exact of_decide_eq_true aX | (have e_ := (Kd.V_reads' HO_0.out).1; omega))
                obtain ⟨ua217_3, uc217_3, rfl, ul217_3, ge217_3⟩ := k55_openF hMe217
                have hv217_3 := hcc217 3 _ rfl
                rw [add_field _ _ 3 (by omega)] at hv217_3
                replace hv217_3 := Option.some.inj (hv217_3.symm.trans hx217_3)
                injection hv217_3 with hva_ hvn_ hvc_
                rw [hva_] at ge217_3
                rw [hvc_] at ul217_3
                have HL217_3 := Asd.mk (show Kd.V (Kd.int .u8) 5 _ w.heap.size _ _ ((rd_T55 l0 x5_2).f3) from Kd.V_mk ul217_3 ge217_3)
                clear hva_ hvn_ hvc_ ge217_3 ul217_3
                clear hcc217 hce217
                have HR217_3 := Asd.mk hi217_3
                have HC217_3 := Asd.mk hl217_3
                clear hi217_3 hl217_3
                replace p217 := eq_true p217
                replace q217 := eq_true q217
                have p218 : 0 ≤ ((ji12) : Int) := of_decide_eq_true aX
                have q218 : (ji12) < (x3_1.length : Int) := of_decide_eq_true aX
                obtain ⟨ad218, A218_3, c218_3, e218, hx218_0, hx218_1, hx218_2, hx218_3, hl218_3, hi218_3⟩ := at_T55 (Kd.N_reads' HO_3.out).2.2 (ji12) p218 q218
                cases e218
                obtain ⟨ce218, hce218, hMe218, hcc218⟩ := Kd.N_get HO_3.out z55 (ji12) p218 (by first | exact q218 | exact of_decide_eq_true aX | (have e_ := (Kd.N_reads' HO_3.out).1; omega))
                obtain ⟨ua218_3, uc218_3, rfl, ul218_3, ge218_3⟩ := k55_openF hMe218
                have hv218_3 := hcc218 3 _ rfl
                rw [add_field _ _ 3 (by omega)] at hv218_3
                replace hv218_3 := Option.some.inj (hv218_3.symm.trans hx218_3)
                injection hv218_3 with hva_ hvn_ hvc_
                rw [hva_] at ge218_3
                rw [hvc_] at ul218_3
                have HL218_3 := Asd.mk (show Kd.V (Kd.int .u8) 5 _ w.heap.size _ _ ((rd_T55 x3_1 (ji12)).f3) from Kd.V_mk ul218_3 ge218_3)
                clear hva_ hvn_ hvc_ ge218_3 ul218_3
                clear hcc218 hce218
                have HR218_3 := Asd.mk hi218_3
                have HC218_3 := Asd.mk hl218_3
                clear hi218_3 hl218_3
                replace p218 := eq_true p218
                replace q218 := eq_true q218
                have p219 : 0 ≤ (x5_2 : Int) := of_decide_eq_true aX
                have q219 : x5_2 < (l0.length : Int) := of_decide_eq_true aX
                obtain ⟨ad219, A219_3, c219_3, e219, hx219_0, hx219_1, hx219_2, hx219_3, hl219_3, hi219_3⟩ := at_T55 (Kd.V_reads' HO_0.out).2.2 x5_2 p219 q219
                obtain rfl : ad217 = ad219 := (by injection e219)
                obtain ⟨ce219, hce219, hMe219, hcc219⟩ := Kd.V_get HO_0.out z55 x5_2 p219 (by first | exact q219 | exact of_decide_eq_true aX | (have e_ := (Kd.V_reads' HO_0.out).1; omega))
                obtain ⟨ua219_3, uc219_3, rfl, ul219_3, ge219_3⟩ := k55_openF hMe219
                have hv219_3 := hcc219 3 _ rfl
                rw [add_field _ _ 3 (by omega)] at hv219_3
                replace hv219_3 := Option.some.inj (hv219_3.symm.trans hx219_3)
                injection hv219_3 with hva_ hvn_ hvc_
                rw [hva_] at ge219_3
                rw [hvc_] at ul219_3
                have HL219_3 := Asd.mk (show Kd.V (Kd.int .u8) 5 _ w.heap.size _ _ ((rd_T55 l0 x5_2).f3) from Kd.V_mk ul219_3 ge219_3)
                clear hva_ hvn_ hvc_ ge219_3 ul219_3
                clear hcc219 hce219
                have HR219_3 := Asd.mk hi219_3
                have HC219_3 := Asd.mk hl219_3
                clear hi219_3 hl219_3
                replace p219 := eq_true p219
                replace q219 := eq_true q219
                have ea_ := Option.some.inj (hx217_3.symm.trans hx219_3)
                injection ea_ with ea_ en_ ec_
                subst ea_
                subst ec_
                clear en_
                have p220 : 0 ≤ (x4_2 : Int) := of_decide_eq_true aX
                have q220 : x4_2 < (l0.length : Int) := of_decide_eq_true aX
                obtain ⟨ad220, A220_3, c220_3, e220, hx220_0, hx220_1, hx220_2, hx220_3, hl220_3, hi220_3⟩ := at_T55 (Kd.V_reads' HO_0.out).2.2 x4_2 p220 q220
                obtain rfl : ad217 = ad220 := (by injection e220)
                obtain ⟨ce220, hce220, hMe220, hcc220⟩ := Kd.V_get HO_0.out z55 x4_2 p220 (by first | exact q220 | exact of_decide_eq_true aX | (have e_ := (Kd.V_reads' HO_0.out).1; omega))
                obtain ⟨ua220_3, uc220_3, rfl, ul220_3, ge220_3⟩ := k55_openF hMe220
                have hv220_3 := hcc220 3 _ rfl
                rw [add_field _ _ 3 (by omega)] at hv220_3
                replace hv220_3 := Option.some.inj (hv220_3.symm.trans hx220_3)
                injection hv220_3 with hva_ hvn_ hvc_
                rw [hva_] at ge220_3
                rw [hvc_] at ul220_3
                have HL220_3 := Asd.mk (show Kd.V (Kd.int .u8) 5 _ w.heap.size _ _ ((rd_T55 l0 x4_2).f3) from Kd.V_mk ul220_3 ge220_3)
                clear hva_ hvn_ hvc_ ge220_3 ul220_3
                clear hcc220 hce220
                have HR220_3 := Asd.mk hi220_3
                have HC220_3 := Asd.mk hl220_3
                clear hi220_3 hl220_3
                replace p220 := eq_true p220
                replace q220 := eq_true q220
                go_wp2
                repeat (go_quiet (fail); try go_wp2)
                go_roundg k2
                case measure => have := HK1.out; have := HK2.out; omega
                case rel => exact ⟨(x5_2), (wrap64 (x5_2 + 1)), eX, eX, H', ⟨by have := HK1.out; have := HK2.out; omega⟩, ⟨by (with_reducible repeat (first | apply Kd.V_alloc | apply Kd.V_drewN | apply Kd.V_drew)); exact HO_0.out⟩, ⟨by (with_reducible repeat (first | apply Kd.N_alloc | apply Kd.N_drewN | apply Kd.N_drew)); exact HO_3.out⟩, ⟨bX HB.out⟩⟩
               ·rw [if_neg c19] at H
                have c19b0 : decide (((rd_T55 l0 x5_2).f0) < ((rd_T55 l0 x4_2).f0)) = false := decide_eq_false c19
                clear c19
                have H' := Asd.mk H
                clear H
                have p217 : 0 ≤ (x5_2 : Int) := of_decide_eq_true aX
                have q217 : x5_2 < (l0.length : Int) := of_decide_eq_true aX
                obtain ⟨ad217, A217_3, c217_3, e217, hx217_0, hx217_1, hx217_2, hx217_3, hl217_3, hi217_3⟩ := at_T55 (Kd.V_reads' HO_0.out).2.2 x5_2 p217 q217
                cases e217
                obtain ⟨ce217, hce217, hMe217, hcc217⟩ := Kd.V_get HO_0.out z55 x5_2 p217 (by first | exact q217 | exact of_decide_eq_true aX | (have e_ := (Kd.V_reads' HO_0.out).1; omega))
                obtain ⟨ua217_3, uc217_3, rfl, ul217_3, ge217_3⟩ := k55_openF hMe217
                have hv217_3 := hcc217 3 _ rfl
                rw [add_field _ _ 3 (by omega)] at hv217_3
                replace hv217_3 := Option.some.inj (hv217_3.symm.trans hx217_3)
                injection hv217_3 with hva_ hvn_ hvc_
                rw [hva_] at ge217_3
                rw [hvc_] at ul217_3
                have HL217_3 := Asd.mk (show Kd.V (Kd.int .u8) 5 _ w.heap.size _ _ ((rd_T55 l0 x5_2).f3) from Kd.V_mk ul217_3 ge217_3)
                clear hva_ hvn_ hvc_ ge217_3 ul217_3
                clear hcc217 hce217
                have HR217_3 := Asd.mk hi217_3
                have HC217_3 := Asd.mk hl217_3
                clear hi217_3 hl217_3
                replace p217 := eq_true p217
                replace q217 := eq_true q217
                have p218 : 0 ≤ ((ji12) : Int) := of_decide_eq_true aX
                have q218 : (ji12) < (x3_1.length : Int) := of_decide_eq_true aX
                obtain ⟨ad218, A218_3, c218_3, e218, hx218_0, hx218_1, hx218_2, hx218_3, hl218_3, hi218_3⟩ := at_T55 (Kd.N_reads' HO_3.out).2.2 (ji12) p218 q218
                cases e218
                obtain ⟨ce218, hce218, hMe218, hcc218⟩ := Kd.N_get HO_3.out z55 (ji12) p218 (by first | exact q218 | exact of_decide_eq_true aX | (have e_ := (Kd.N_reads' HO_3.out).1; omega))
                obtain ⟨ua218_3, uc218_3, rfl, ul218_3, ge218_3⟩ := k55_openF hMe218
                have hv218_3 := hcc218 3 _ rfl
                rw [add_field _ _ 3 (by omega)] at hv218_3
                replace hv218_3 := Option.some.inj (hv218_3.symm.trans hx218_3)
                injection hv218_3 with hva_ hvn_ hvc_
                rw [hva_] at ge218_3
                rw [hvc_] at ul218_3
                have HL218_3 := Asd.mk (show Kd.V (Kd.int .u8) 5 _ w.heap.size _ _ ((rd_T55 x3_1 (ji12)).f3) from Kd.V_mk ul218_3 ge218_3)
                clear hva_ hvn_ hvc_ ge218_3 ul218_3
                clear hcc218 hce218
                have HR218_3 := Asd.mk hi218_3
                have HC218_3 := Asd.mk hl218_3
                clear hi218_3 hl218_3
                replace p218 := eq_true p218
                replace q218 := eq_true q218
                have p219 : 0 ≤ (x5_2 : Int) := of_decide_eq_true aX
                have q219 : x5_2 < (l0.length : Int) := of_decide_eq_true aX
                obtain ⟨ad219, A219_3, c219_3, e219, hx219_0, hx219_1, hx219_2, hx219_3, hl219_3, hi219_3⟩ := at_T55 (Kd.V_reads' HO_0.out).2.2 x5_2 p219 q219
                obtain rfl : ad217 = ad219 := (by injection e219)
                obtain ⟨ce219, hce219, hMe219, hcc219⟩ := Kd.V_get HO_0.out z55 x5_2 p219 (by first | exact q219 | exact of_decide_eq_true aX | (have e_ := (Kd.V_reads' HO_0.out).1; omega))
                obtain ⟨ua219_3, uc219_3, rfl, ul219_3, ge219_3⟩ := k55_openF hMe219
                have hv219_3 := hcc219 3 _ rfl
                rw [add_field _ _ 3 (by omega)] at hv219_3
                replace hv219_3 := Option.some.inj (hv219_3.symm.trans hx219_3)
                injection hv219_3 with hva_ hvn_ hvc_
                rw [hva_] at ge219_3
                rw [hvc_] at ul219_3
                have HL219_3 := Asd.mk (show Kd.V (Kd.int .u8) 5 _ w.heap.size _ _ ((rd_T55 l0 x5_2).f3) from Kd.V_mk ul219_3 ge219_3)
                clear hva_ hvn_ hvc_ ge219_3 ul219_3
                clear hcc219 hce219
                have HR219_3 := Asd.mk hi219_3
                have HC219_3 := Asd.mk hl219_3
                clear hi219_3 hl219_3
                replace p219 := eq_true p219
                replace q219 := eq_true q219
                have ea_ := Option.some.inj (hx217_3.symm.trans hx219_3)
                injection ea_ with ea_ en_ ec_
                subst ea_
                subst ec_
                clear en_
                have p220 : 0 ≤ (x4_2 : Int) := of_decide_eq_true aX
                have q220 : x4_2 < (l0.length : Int) := of_decide_eq_true aX
                obtain ⟨ad220, A220_3, c220_3, e220, hx220_0, hx220_1, hx220_2, hx220_3, hl220_3, hi220_3⟩ := at_T55 (Kd.V_reads' HO_0.out).2.2 x4_2 p220 q220
                obtain rfl : ad217 = ad220 := (by injection e220)
                obtain ⟨ce220, hce220, hMe220, hcc220⟩ := Kd.V_get HO_0.out z55 x4_2 p220 (by first | exact q220 | exact of_decide_eq_true aX | (have e_ := (Kd.V_reads' HO_0.out).1; omega))
                obtain ⟨ua220_3, uc220_3, rfl, ul220_3, ge220_3⟩ := k55_openF hMe220
                have hv220_3 := hcc220 3 _ rfl
                rw [add_field _ _ 3 (by omega)] at hv220_3
                replace hv220_3 := Option.some.inj (hv220_3.symm.trans hx220_3)
                injection hv220_3 with hva_ hvn_ hvc_
                rw [hva_] at ge220_3
                rw [hvc_] at ul220_3
                have HL220_3 := Asd.mk (show Kd.V (Kd.int .u8) 5 _ w.heap.size _ _ ((rd_T55 l0 x4_2).f3) from Kd.V_mk ul220_3 ge220_3)
                clear hva_ hvn_ hvc_ ge220_3 ul220_3
                clear hcc220 hce220
                have HR220_3 := Asd.mk hi220_3
                have HC220_3 := Asd.mk hl220_3
                clear hi220_3 hl220_3
                replace p220 := eq_true p220
                replace q220 := eq_true q220
                go_wp2
                repeat (go_quiet (fail); try go_wp2)
                go_roundg k2
                case measure => have := HK1.out; have := HK2.out; omega
                case rel => exact ⟨(x4_2), (wrap64 (x5_2 + 1)), eX, eX, H', ⟨by have := HK1.out; have := HK2.out; omega⟩, ⟨by (with_reducible repeat (first | apply Kd.V_alloc | apply Kd.V_drewN | apply Kd.V_drew)); exact HO_0.out⟩, ⟨by (with_reducible repeat (first | apply Kd.N_alloc | apply Kd.N_drewN | apply Kd.N_drew)); exact HO_3.out⟩, ⟨bX HB.out⟩⟩
              ·rw [if_neg c18] at H
               exact absurd H (by simp)
             ·rw [if_neg c17] at H
              exact absurd H (by simp)
           ·rw [if_neg c15] at H
            have c15b0 : decide (((rd_T55 x3_1 (ji12)).f0) < ((rd_T55 l0 x5_2).f0)) = false := decide_eq_false c15
            clear c15
            have H' := Asd.mk H
            clear H
            have p217 : 0 ≤ (x5_2 : Int) := of_decide_eq_true aX
            have q217 : x5_2 < (l0.length : Int) := of_decide_eq_true aX
            obtain ⟨ad217, A217_3, c217_3, e217, hx217_0, hx217_1, hx217_2, hx217_3, hl217_3, hi217_3⟩ := at_T55 (Kd.V_reads' HO_0.out).2.2 x5_2 p217 q217
            cases e217
            obtain ⟨ce217, hce217, hMe217, hcc217⟩ := Kd.V_get HO_0.out z55 x5_2 p217 (by first | exact q217 | exact of_decide_eq_true aX | (have e_ := (Kd.V_reads' HO_0.out).1; omega))
            obtain ⟨ua217_3, uc217_3, rfl, ul217_3, ge217_3⟩ := k55_openF hMe217
            have hv217_3 := hcc217 3 _ rfl
            rw [add_field _ _ 3 (by omega)] at hv217_3
            replace hv217_3 := Option.some.inj (hv217_3.symm.trans hx217_3)
            injection hv217_3 with hva_ hvn_ hvc_
            rw [hva_] at ge217_3
            rw [hvc_] at ul217_3
            have HL217_3 := Asd.mk (show Kd.V (Kd.int .u8) 5 _ w.heap.size _ _ ((rd_T55 l0 x5_2).f3) from Kd.V_mk ul217_3 ge217_3)
            clear hva_ hvn_ hvc_ ge217_3 ul217_3
            clear hcc217 hce217
            have HR217_3 := Asd.mk hi217_3
            have HC217_3 := Asd.mk hl217_3
            clear hi217_3 hl217_3
            replace p217 := eq_true p217
            replace q217 := eq_true q217
            have p218 : 0 ≤ ((ji12) : Int) := of_decide_eq_true aX
            have q218 : (ji12) < (x3_1.length : Int) := of_decide_eq_true aX
            obtain ⟨ad218, A218_3, c218_3, e218, hx218_0, hx218_1, hx218_2, hx218_3, hl218_3, hi218_3⟩ := at_T55 (Kd.N_reads' HO_3.out).2.2 (ji12) p218 q218
            cases e218
            obtain ⟨ce218, hce218, hMe218, hcc218⟩ := Kd.N_get HO_3.out z55 (ji12) p218 (by first | exact q218 | exact of_decide_eq_true aX | (have e_ := (Kd.N_reads' HO_3.out).1; omega))
            obtain ⟨ua218_3, uc218_3, rfl, ul218_3, ge218_3⟩ := k55_openF hMe218
            have hv218_3 := hcc218 3 _ rfl
            rw [add_field _ _ 3 (by omega)] at hv218_3
            replace hv218_3 := Option.some.inj (hv218_3.symm.trans hx218_3)
            injection hv218_3 with hva_ hvn_ hvc_
            rw [hva_] at ge218_3
            rw [hvc_] at ul218_3
            have HL218_3 := Asd.mk (show Kd.V (Kd.int .u8) 5 _ w.heap.size _ _ ((rd_T55 x3_1 (ji12)).f3) from Kd.V_mk ul218_3 ge218_3)
            clear hva_ hvn_ hvc_ ge218_3 ul218_3
            clear hcc218 hce218
            have HR218_3 := Asd.mk hi218_3
            have HC218_3 := Asd.mk hl218_3
            clear hi218_3 hl218_3
            replace p218 := eq_true p218
            replace q218 := eq_true q218
            go_wp2
            repeat (go_quiet (fail); try go_wp2)
            go_roundg k2
            case measure => have := HK1.out; have := HK2.out; omega
            case rel => exact ⟨(x4_2), (wrap64 (x5_2 + 1)), eX, eX, H', ⟨by have := HK1.out; have := HK2.out; omega⟩, ⟨by (with_reducible repeat (first | apply Kd.V_alloc | apply Kd.V_drewN | apply Kd.V_drew)); exact HO_0.out⟩, ⟨by (with_reducible repeat (first | apply Kd.N_alloc | apply Kd.N_drewN | apply Kd.N_drew)); exact HO_3.out⟩, ⟨bX HB.out⟩⟩
          ·rw [if_neg c14] at H
           exact absurd H (by simp)
         ·rw [if_neg c13] at H
          exact absurd H (by simp)
        ·rw [if_neg c11] at H
         exact absurd H (by simp)
      ·rw [if_neg c4] at H
       have c4b0 : decide (x5_2 < (l0.length : Int)) = false := decide_eq_false c4
       clear c4
       by_cases c20 : 0 ≤ x4_2
       ·rw [if_pos c20] at H
        have c20b0 : decide (0 ≤ x4_2) = true := decide_eq_true c20
        clear c20
        by_cases c21 : x4_2 < (l0.length : Int)
        ·rw [if_pos c21] at H
         have c21b0 : decide (x4_2 < (l0.length : Int)) = true := decide_eq_true c21
         clear c21
         by_cases c22 : x3_1.length < 2932031007402
         ·rw [if_pos c22] at H
          have LMc22 := Asd.mk c22
          clear c22
          obtain ⟨y222, hy222⟩ : ∃ y_ : List (S55), y_ = (x3_1 ++ [(⟨(rd_T55 l0 x4_2).f0, (rd_T55 l0 x4_2).f1, (rd_T55 l0 x4_2).f2, (rd_T55 l0 x4_2).f3⟩ : S55)]) := ⟨_, rfl⟩
          replace H : (anvilref02_rising.l0 k2 l0 y222) = some r := by first | (rw [hy222]; with_reducible exact H) | (have H2_ := (Option.bind_some _ _).symm.trans H; rw [hy222]; with_reducible exact H2_) | (have H2_ := (Option.bind_some _ _).symm.trans H; with_reducible exact H2_) | with_reducible exact H | (rw [hy222]; exact H) | exact H
          have Ny222 := Asd.mk hy222
          clear hy222
          have H' := Asd.mk H
          clear H
          have p221 : 0 ≤ (x4_2 : Int) := of_decide_eq_true aX
          have q221 : x4_2 < (l0.length : Int) := of_decide_eq_true aX
          obtain ⟨ad221, A221_3, c221_3, e221, hx221_0, hx221_1, hx221_2, hx221_3, hl221_3, hi221_3⟩ := at_T55 (Kd.V_reads' HO_0.out).2.2 x4_2 p221 q221
          cases e221
          obtain ⟨ce221, hce221, hMe221, hcc221⟩ := Kd.V_get HO_0.out z55 x4_2 p221 (by first | exact q221 | exact of_decide_eq_true aX | (have e_ := (Kd.V_reads' HO_0.out).1; omega))
          obtain ⟨ua221_3, uc221_3, rfl, ul221_3, ge221_3⟩ := k55_openF hMe221
          have hv221_3 := hcc221 3 _ rfl
          rw [add_field _ _ 3 (by omega)] at hv221_3
          replace hv221_3 := Option.some.inj (hv221_3.symm.trans hx221_3)
          injection hv221_3 with hva_ hvn_ hvc_
          rw [hva_] at ge221_3
          rw [hvc_] at ul221_3
          have HL221_3 := Asd.mk (show Kd.V (Kd.int .u8) 5 _ w.heap.size _ _ ((rd_T55 l0 x4_2).f3) from Kd.V_mk ul221_3 ge221_3)
          clear hva_ hvn_ hvc_ ge221_3 ul221_3
          clear hcc221 hce221
          have HR221_3 := Asd.mk hi221_3
          have HC221_3 := Asd.mk hl221_3
          clear hi221_3 hl221_3
          replace p221 := eq_true p221
          replace q221 := eq_true q221
          go_wp2_with (first | ((with_reducible refine gate_builtin (b := .append) (xs := #[.tmp 55, .tmp 60]) rfl ?_); (try (refine gate_guard (by rfl) ?_; dsimp only)); at_builtin; refine Kd.N_append k55 (w0 := w) w.heap.size rfl (.tmp 55) (.tmp 60) 25 55 (.agg #[(.int .u64 0), (.int .u64 0), (.int .i64 0), (.slice none 0 0)]) 48 rfl Tryz.underlying25 info55 rfl (by decide) (by omega) (.slice Ao3 x3_1.length co3) x3_1 (⟨(rd_T55 l0 x4_2).f0, (rd_T55 l0 x4_2).f1, (rd_T55 l0 x4_2).f2, (rd_T55 l0 x4_2).f3⟩ : S55) [.int .u64 ((rd_T55 l0 x4_2).f0), .int .u64 ((rd_T55 l0 x4_2).f1), .int .i64 ((rd_T55 l0 x4_2).f2), .slice A221_3 ((rd_T55 l0 x4_2).f3).length c221_3] (fun k_ => (P0_ k_ ∨ w.heap.size ≤ k_)) (fun k_ => ((fun k_ => (P0_ k_ ∨ w.heap.size ≤ k_))) k_ ∧ some k_ ≠ (.slice Ao3 x3_1.length co3 : Value).ownBlock) rfl rfl ?aP (fun _ hk => hk) ?aF ?aO ?aB ?aS ?aL ?_; (case aP => exact (k55_mkF _ _ (⟨(rd_T55 l0 x4_2).f0, (rd_T55 l0 x4_2).f1, (rd_T55 l0 x4_2).f2, (rd_T55 l0 x4_2).f3⟩ : S55) (Kd.V_reads' (Kd.V_mono (ok' := (fun k_ => ((fun k_ => (P0_ k_ ∨ w.heap.size ≤ k_))) k_ ∧ some k_ ≠ (.slice Ao3 x3_1.length co3 : Value).ownBlock)) (HL221_3.out) (fun k_ hk => ⟨hk.1, hk.2⟩))).2.1 (Kd.V_F (Kd.V_mono (ok' := (fun k_ => ((fun k_ => (P0_ k_ ∨ w.heap.size ≤ k_))) k_ ∧ some k_ ≠ (.slice Ao3 x3_1.length co3 : Value).ownBlock)) (HL221_3.out) (fun k_ hk => ⟨hk.1, hk.2⟩))))); (case aB => exact (bX HB.out)); (case aF => exact (fun k_ hk => (.inr (Nat.le_trans (bSz (bX HB.out)) hk)))); (case aO => exact (kNX HO_3.out)); (case aS => exact (bSz (bX HB.out))); (case aL => have := LMc22.out; omega); intro v223 w23 ho hb hg hat; rw [← Ny222.out] at ho; have n0_ := Asd.mk (Kd.V_afterv (ok := (fun k_ => (P0_ k_ ∨ w.heap.size ≤ k_))) (kVX HO_0.out) hg hat); have n1_ := Asd.mk (Kd.V_afterv (ok := (fun k_ => (P0_ k_ ∨ w.heap.size ≤ k_))) (kVX HL221_3.out) hg hat); have n2_ := Asd.mk (hb); have n3_ := Asd.mk (ho); clear HO_0; clear HL221_3; clear HB; clear HO_3; have HO_0 := n0_; have HL221_3 := n1_; have HB := n2_; have HO224 := n3_; clear n0_ n1_ n2_ n3_; clear ho hb hg hat))
          repeat (go_quiet (first | ((with_reducible refine gate_builtin (b := .append) (xs := #[.tmp 55, .tmp 60]) rfl ?_); (try (refine gate_guard (by rfl) ?_; dsimp only)); at_builtin; refine Kd.N_append k55 (w0 := w) w.heap.size rfl (.tmp 55) (.tmp 60) 25 55 (.agg #[(.int .u64 0), (.int .u64 0), (.int .i64 0), (.slice none 0 0)]) 48 rfl Tryz.underlying25 info55 rfl (by decide) (by omega) (.slice Ao3 x3_1.length co3) x3_1 (⟨(rd_T55 l0 x4_2).f0, (rd_T55 l0 x4_2).f1, (rd_T55 l0 x4_2).f2, (rd_T55 l0 x4_2).f3⟩ : S55) [.int .u64 ((rd_T55 l0 x4_2).f0), .int .u64 ((rd_T55 l0 x4_2).f1), .int .i64 ((rd_T55 l0 x4_2).f2), .slice A221_3 ((rd_T55 l0 x4_2).f3).length c221_3] (fun k_ => (P0_ k_ ∨ w.heap.size ≤ k_)) (fun k_ => ((fun k_ => (P0_ k_ ∨ w.heap.size ≤ k_))) k_ ∧ some k_ ≠ (.slice Ao3 x3_1.length co3 : Value).ownBlock) rfl rfl ?aP (fun _ hk => hk) ?aF ?aO ?aB ?aS ?aL ?_; (case aP => exact (k55_mkF _ _ (⟨(rd_T55 l0 x4_2).f0, (rd_T55 l0 x4_2).f1, (rd_T55 l0 x4_2).f2, (rd_T55 l0 x4_2).f3⟩ : S55) (Kd.V_reads' (Kd.V_mono (ok' := (fun k_ => ((fun k_ => (P0_ k_ ∨ w.heap.size ≤ k_))) k_ ∧ some k_ ≠ (.slice Ao3 x3_1.length co3 : Value).ownBlock)) (HL221_3.out) (fun k_ hk => ⟨hk.1, hk.2⟩))).2.1 (Kd.V_F (Kd.V_mono (ok' := (fun k_ => ((fun k_ => (P0_ k_ ∨ w.heap.size ≤ k_))) k_ ∧ some k_ ≠ (.slice Ao3 x3_1.length co3 : Value).ownBlock)) (HL221_3.out) (fun k_ hk => ⟨hk.1, hk.2⟩))))); (case aB => exact (bX HB.out)); (case aF => exact (fun k_ hk => (.inr (Nat.le_trans (bSz (bX HB.out)) hk)))); (case aO => exact (kNX HO_3.out)); (case aS => exact (bSz (bX HB.out))); (case aL => have := LMc22.out; omega); intro v223 w23 ho hb hg hat; rw [← Ny222.out] at ho; have n0_ := Asd.mk (Kd.V_afterv (ok := (fun k_ => (P0_ k_ ∨ w.heap.size ≤ k_))) (kVX HO_0.out) hg hat); have n1_ := Asd.mk (Kd.V_afterv (ok := (fun k_ => (P0_ k_ ∨ w.heap.size ≤ k_))) (kVX HL221_3.out) hg hat); have n2_ := Asd.mk (hb); have n3_ := Asd.mk (ho); clear HO_0; clear HL221_3; clear HB; clear HO_3; have HO_0 := n0_; have HL221_3 := n1_; have HB := n2_; have HO224 := n3_; clear n0_ n1_ n2_ n3_; clear ho hb hg hat)); try go_wp2_with (first | ((with_reducible refine gate_builtin (b := .append) (xs := #[.tmp 55, .tmp 60]) rfl ?_); (try (refine gate_guard (by rfl) ?_; dsimp only)); at_builtin; refine Kd.N_append k55 (w0 := w) w.heap.size rfl (.tmp 55) (.tmp 60) 25 55 (.agg #[(.int .u64 0), (.int .u64 0), (.int .i64 0), (.slice none 0 0)]) 48 rfl Tryz.underlying25 info55 rfl (by decide) (by omega) (.slice Ao3 x3_1.length co3) x3_1 (⟨(rd_T55 l0 x4_2).f0, (rd_T55 l0 x4_2).f1, (rd_T55 l0 x4_2).f2, (rd_T55 l0 x4_2).f3⟩ : S55) [.int .u64 ((rd_T55 l0 x4_2).f0), .int .u64 ((rd_T55 l0 x4_2).f1), .int .i64 ((rd_T55 l0 x4_2).f2), .slice A221_3 ((rd_T55 l0 x4_2).f3).length c221_3] (fun k_ => (P0_ k_ ∨ w.heap.size ≤ k_)) (fun k_ => ((fun k_ => (P0_ k_ ∨ w.heap.size ≤ k_))) k_ ∧ some k_ ≠ (.slice Ao3 x3_1.length co3 : Value).ownBlock) rfl rfl ?aP (fun _ hk => hk) ?aF ?aO ?aB ?aS ?aL ?_; (case aP => exact (k55_mkF _ _ (⟨(rd_T55 l0 x4_2).f0, (rd_T55 l0 x4_2).f1, (rd_T55 l0 x4_2).f2, (rd_T55 l0 x4_2).f3⟩ : S55) (Kd.V_reads' (Kd.V_mono (ok' := (fun k_ => ((fun k_ => (P0_ k_ ∨ w.heap.size ≤ k_))) k_ ∧ some k_ ≠ (.slice Ao3 x3_1.length co3 : Value).ownBlock)) (HL221_3.out) (fun k_ hk => ⟨hk.1, hk.2⟩))).2.1 (Kd.V_F (Kd.V_mono (ok' := (fun k_ => ((fun k_ => (P0_ k_ ∨ w.heap.size ≤ k_))) k_ ∧ some k_ ≠ (.slice Ao3 x3_1.length co3 : Value).ownBlock)) (HL221_3.out) (fun k_ hk => ⟨hk.1, hk.2⟩))))); (case aB => exact (bX HB.out)); (case aF => exact (fun k_ hk => (.inr (Nat.le_trans (bSz (bX HB.out)) hk)))); (case aO => exact (kNX HO_3.out)); (case aS => exact (bSz (bX HB.out))); (case aL => have := LMc22.out; omega); intro v223 w23 ho hb hg hat; rw [← Ny222.out] at ho; have n0_ := Asd.mk (Kd.V_afterv (ok := (fun k_ => (P0_ k_ ∨ w.heap.size ≤ k_))) (kVX HO_0.out) hg hat); have n1_ := Asd.mk (Kd.V_afterv (ok := (fun k_ => (P0_ k_ ∨ w.heap.size ≤ k_))) (kVX HL221_3.out) hg hat); have n2_ := Asd.mk (hb); have n3_ := Asd.mk (ho); clear HO_0; clear HL221_3; clear HB; clear HO_3; have HO_0 := n0_; have HL221_3 := n1_; have HB := n2_; have HO224 := n3_; clear n0_ n1_ n2_ n3_; clear ho hb hg hat)))
          go_roundg k2
          case measure => have := HK1.out; have := HK2.out; omega
          case rel => exact ⟨(y222), H', ⟨by have := HK1.out; have := HK2.out; omega⟩, ⟨by (with_reducible repeat (first | apply Kd.V_alloc | apply Kd.V_drewN | apply Kd.V_drew)); exact HO_0.out⟩, ⟨by (with_reducible repeat (first | apply Kd.N_alloc | apply Kd.N_drewN | apply Kd.N_drew)); exact HO224.out⟩, ⟨bX HB.out⟩⟩
         ·rw [if_neg c22] at H
          exact absurd H (by simp)
        ·rw [if_neg c21] at H
         exact absurd H (by simp)
       ·rw [if_neg c20] at H
        exact absurd H (by simp)
   ·rw [if_neg c2] at H
    have c2b0 : decide ((x3_1.length : Int) < (l0.length : Int)) = false := decide_eq_false c2
    have c2b1 : decide (x3_1.length < l0.length) = false := decide_eq_false (fun h => c2 (Int.ofNat_lt.mpr h))
    clear c2
    obtain rfl := Option.some.inj H
    obtain ⟨Ao24, co24, eo24⟩ := Kd.N_slice HO_3.out
    subst eo24
    go_wp2
    repeat (go_quiet (fail); try go_wp2)
    go_ret
    exact ⟨_, rX, by (with_reducible repeat (first | apply Kd.N_alloc | apply Kd.N_drewN | apply Kd.N_drew)); exact HO_3.out, bX HB.out⟩
def anvilref02_behind.f (a0_0 : ByteArray) (a0_1 : Int) (a1_0 : ByteArray) (a1_1 : Int) : Option (Bool) := if a1_1 > a0_1 then (some true) else (if a1_1 = a0_1 then (some (Op.bytesLess a0_0.toList a1_0.toList)) else (some false))
set_option maxHeartbeats 8000000 in
set_option maxRecDepth 100000 in
theorem anvilref02_behind.calls (a0_0 : ByteArray) (a0_1 : Int) (a1_0 : ByteArray) (a1_1 : Int) (r : Bool) (w : World) (h : anvilref02_behind.f a0_0 a0_1 a1_0 a1_1 = some r) :
 Calls Tryz.prog 70 #[.agg #[.string a0_0, .int .u64 a0_1], .agg #[.string a1_0, .int .u64 a1_1]] w fun e w' => e = .returned (.bool r) ∧ Below w.heap.size w w' := by
 have hu82 := Tryz.underlying82
 have HB := Asd.mk (Below.refl w.heap.size w)
 have H : (if a1_1 > a0_1 then (some true) else (if a1_1 = a0_1 then (some (Op.bytesLess a0_0.toList a1_0.toList)) else (some false))) = some r := h
 clear h
 by_cases c3 : a1_1 > a0_1
 ·rw [if_pos c3] at H
  have c3b0 : decide (a0_1 < a1_1) = true := decide_eq_true c3
  clear c3
  obtain rfl := Option.some.inj H
  go_enter Tryz.func70, Tryz.ntmps70
  go_wp2_with (first | ((with_reducible refine gDs (N := 2) rfl ?_); refine bEv ?hg (N := 2) ?hd (cs := #[.string a0_0, .int .u64 a0_1]) (t := 82) ?hr ?_; (case hd => rfl); (case hg => rfl); (case hr => first | (go_simp; done) | (go_simp; rfl)); intro gb225 hg w4 hbox hb; have n0_ := Asd.mk (bSt (bX HB.out) hb); have n1_ := Asd.mk (hbox); have n2_ := Asd.mk (zX hg (bX HB.out) : w.heap.size ≤ gb225); have n3_ := Asd.mk (zX hg (bX HB.out) : w.heap.size ≤ gb225); clear HB; have HB := n0_; have BK225 := n1_; have GW225 := n2_; have GE225 := n3_; clear n0_ n1_ n2_ n3_; clear hb hbox hg) | ((with_reducible refine gDs (N := 3) rfl ?_); refine bEv ?hg (N := 3) ?hd (cs := #[.string a1_0, .int .u64 a1_1]) (t := 82) ?hr ?_; (case hd => rfl); (case hg => rfl); (case hr => first | (go_simp; done) | (go_simp; rfl)); intro gb226 hg w5 hbox hb; have n0_ := Asd.mk (kBe (g := gb225) (o := .cells #[.string a0_0, .int .u64 a0_1] 82 (0, 0)) (kX BK225.out) hb); have n1_ := Asd.mk (bSt (bX HB.out) hb); have n2_ := Asd.mk (hbox); have n3_ := Asd.mk (zX hg (bX HB.out) : w.heap.size ≤ gb226); have n4_ := Asd.mk (zX hg (bX HB.out) : w.heap.size ≤ gb226); have n5_ := Asd.mk ((by rw [hg]; exact Nat.ne_of_lt (blk_lt (g := gb225) (o := .cells #[.string a0_0, .int .u64 a0_1] 82 (0, 0)) (kX BK225.out)) : gb225 ≠ gb226)); have n6_ := Asd.mk ((by rw [hg]; exact Nat.ne_of_gt (blk_lt (g := gb225) (o := .cells #[.string a0_0, .int .u64 a0_1] 82 (0, 0)) (kX BK225.out)) : gb226 ≠ gb225)); clear BK225; clear HB; have BK225 := n0_; have HB := n1_; have BK226 := n2_; have GW226 := n3_; have GE226 := n4_; have NB225_226 := n5_; have NB226_225 := n6_; clear n0_ n1_ n2_ n3_ n4_ n5_ n6_; clear hb hbox hg; have hnb6 := NB226_225.out; have hnc6 := NB225_226.out; have hcz7_0 : w5.cell? ⟨gb226, 0, none⟩ = some (.string a1_0) := (kCe BK226.out 0).trans rfl; have hcz7_1 : w5.cell? ⟨gb226, 1, none⟩ = some (.int .u64 a1_1) := (kCe BK226.out 1).trans rfl; have hfz7_0 := kFr BK226.out 0; have hfz7_1 := kFr BK226.out 1; have hcz8_0 : w5.cell? ⟨gb225, 0, none⟩ = some (.string a0_0) := (kCe BK225.out 0).trans rfl; have hcz8_1 : w5.cell? ⟨gb225, 1, none⟩ = some (.int .u64 a0_1) := (kCe BK225.out 1).trans rfl; have hfz8_0 := kFr BK225.out 0; have hfz8_1 := kFr BK225.out 1))
  go_ret
  exact ⟨rX, bX HB.out⟩
 ·rw [if_neg c3] at H
  have c3b0 : decide (a0_1 < a1_1) = false := decide_eq_false c3
  clear c3
  by_cases c9 : a1_1 = a0_1
  ·rw [if_pos c9] at H
   have c9b0 : (a1_1 == a0_1) = true := beq_iff_eq.mpr c9
   have c9b1 : (a1_1 != a0_1) = false := bne_eq_false_iff_eq.mpr c9
   clear c9
   obtain rfl := Option.some.inj H
   go_enter Tryz.func70, Tryz.ntmps70
   go_wp2_with (first | ((with_reducible refine gDs (N := 2) rfl ?_); refine bEv ?hg (N := 2) ?hd (cs := #[.string a0_0, .int .u64 a0_1]) (t := 82) ?hr ?_; (case hd => rfl); (case hg => rfl); (case hr => first | (go_simp; done) | (go_simp; rfl)); intro gb225 hg w10 hbox hb; have n0_ := Asd.mk (bSt (bX HB.out) hb); have n1_ := Asd.mk (hbox); have n2_ := Asd.mk (zX hg (bX HB.out) : w.heap.size ≤ gb225); have n3_ := Asd.mk (zX hg (bX HB.out) : w.heap.size ≤ gb225); clear HB; have HB := n0_; have BK225 := n1_; have GW225 := n2_; have GE225 := n3_; clear n0_ n1_ n2_ n3_; clear hb hbox hg) | ((with_reducible refine gDs (N := 3) rfl ?_); refine bEv ?hg (N := 3) ?hd (cs := #[.string a1_0, .int .u64 a1_1]) (t := 82) ?hr ?_; (case hd => rfl); (case hg => rfl); (case hr => first | (go_simp; done) | (go_simp; rfl)); intro gb226 hg w11 hbox hb; have n0_ := Asd.mk (kBe (g := gb225) (o := .cells #[.string a0_0, .int .u64 a0_1] 82 (0, 0)) (kX BK225.out) hb); have n1_ := Asd.mk (bSt (bX HB.out) hb); have n2_ := Asd.mk (hbox); have n3_ := Asd.mk (zX hg (bX HB.out) : w.heap.size ≤ gb226); have n4_ := Asd.mk (zX hg (bX HB.out) : w.heap.size ≤ gb226); have n5_ := Asd.mk ((by rw [hg]; exact Nat.ne_of_lt (blk_lt (g := gb225) (o := .cells #[.string a0_0, .int .u64 a0_1] 82 (0, 0)) (kX BK225.out)) : gb225 ≠ gb226)); have n6_ := Asd.mk ((by rw [hg]; exact Nat.ne_of_gt (blk_lt (g := gb225) (o := .cells #[.string a0_0, .int .u64 a0_1] 82 (0, 0)) (kX BK225.out)) : gb226 ≠ gb225)); clear BK225; clear HB; have BK225 := n0_; have HB := n1_; have BK226 := n2_; have GW226 := n3_; have GE226 := n4_; have NB225_226 := n5_; have NB226_225 := n6_; clear n0_ n1_ n2_ n3_ n4_ n5_ n6_; clear hb hbox hg; have hnb12 := NB226_225.out; have hnc12 := NB225_226.out; have hcz13_0 : w11.cell? ⟨gb226, 0, none⟩ = some (.string a1_0) := (kCe BK226.out 0).trans rfl; have hcz13_1 : w11.cell? ⟨gb226, 1, none⟩ = some (.int .u64 a1_1) := (kCe BK226.out 1).trans rfl; have hfz13_0 := kFr BK226.out 0; have hfz13_1 := kFr BK226.out 1; have hcz14_0 : w11.cell? ⟨gb225, 0, none⟩ = some (.string a0_0) := (kCe BK225.out 0).trans rfl; have hcz14_1 : w11.cell? ⟨gb225, 1, none⟩ = some (.int .u64 a0_1) := (kCe BK225.out 1).trans rfl; have hfz14_0 := kFr BK225.out 0; have hfz14_1 := kFr BK225.out 1))
   go_ret
   exact ⟨rX, bX HB.out⟩
  ·rw [if_neg c9] at H
   have c9b0 : (a1_1 == a0_1) = false := beq_eq_false_iff_ne.mpr c9
   have c9b1 : (a1_1 != a0_1) = true := bne_iff_ne.mpr c9
   obtain rfl := Option.some.inj H
   go_enter Tryz.func70, Tryz.ntmps70
   go_wp2_with (first | ((with_reducible refine gDs (N := 2) rfl ?_); refine bEv ?hg (N := 2) ?hd (cs := #[.string a0_0, .int .u64 a0_1]) (t := 82) ?hr ?_; (case hd => rfl); (case hg => rfl); (case hr => first | (go_simp; done) | (go_simp; rfl)); intro gb225 hg w15 hbox hb; have n0_ := Asd.mk (bSt (bX HB.out) hb); have n1_ := Asd.mk (hbox); have n2_ := Asd.mk (zX hg (bX HB.out) : w.heap.size ≤ gb225); have n3_ := Asd.mk (zX hg (bX HB.out) : w.heap.size ≤ gb225); clear HB; have HB := n0_; have BK225 := n1_; have GW225 := n2_; have GE225 := n3_; clear n0_ n1_ n2_ n3_; clear hb hbox hg) | ((with_reducible refine gDs (N := 3) rfl ?_); refine bEv ?hg (N := 3) ?hd (cs := #[.string a1_0, .int .u64 a1_1]) (t := 82) ?hr ?_; (case hd => rfl); (case hg => rfl); (case hr => first | (go_simp; done) | (go_simp; rfl)); intro gb226 hg w16 hbox hb; have n0_ := Asd.mk (kBe (g := gb225) (o := .cells #[.string a0_0, .int .u64 a0_1] 82 (0, 0)) (kX BK225.out) hb); have n1_ := Asd.mk (bSt (bX HB.out) hb); have n2_ := Asd.mk (hbox); have n3_ := Asd.mk (zX hg (bX HB.out) : w.heap.size ≤ gb226); have n4_ := Asd.mk (zX hg (bX HB.out) : w.heap.size ≤ gb226); have n5_ := Asd.mk ((by rw [hg]; exact Nat.ne_of_lt (blk_lt (g := gb225) (o := .cells #[.string a0_0, .int .u64 a0_1] 82 (0, 0)) (kX BK225.out)) : gb225 ≠ gb226)); have n6_ := Asd.mk ((by rw [hg]; exact Nat.ne_of_gt (blk_lt (g := gb225) (o := .cells #[.string a0_0, .int .u64 a0_1] 82 (0, 0)) (kX BK225.out)) : gb226 ≠ gb225)); clear BK225; clear HB; have BK225 := n0_; have HB := n1_; have BK226 := n2_; have GW226 := n3_; have GE226 := n4_; have NB225_226 := n5_; have NB226_225 := n6_; clear n0_ n1_ n2_ n3_ n4_ n5_ n6_; clear hb hbox hg; have hnb17 := NB226_225.out; have hnc17 := NB225_226.out; have hcz18_0 : w16.cell? ⟨gb226, 0, none⟩ = some (.string a1_0) := (kCe BK226.out 0).trans rfl; have hcz18_1 : w16.cell? ⟨gb226, 1, none⟩ = some (.int .u64 a1_1) := (kCe BK226.out 1).trans rfl; have hfz18_0 := kFr BK226.out 0; have hfz18_1 := kFr BK226.out 1; have hcz19_0 : w16.cell? ⟨gb225, 0, none⟩ = some (.string a0_0) := (kCe BK225.out 0).trans rfl; have hcz19_1 : w16.cell? ⟨gb225, 1, none⟩ = some (.int .u64 a0_1) := (kCe BK225.out 1).trans rfl; have hfz19_0 := kFr BK225.out 0; have hfz19_1 := kFr BK225.out 1))
   go_ret
   exact ⟨rX, bX HB.out⟩
end Go.Proofs.YtbnlifldnjgpmaaGreatDoor.PWri
