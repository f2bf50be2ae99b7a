-- BY PROGRAM of this session (the kit's printer, turned by wip/tools/patch_print.py). Lean checks it.
import Derived.Test.YtbnlifldnjgpmaaGreatDoorCGr1
import Derived.Test.YtbnlifldnjgpmaaGreatDoorCWrix3
namespace Go.Proofs.YtbnlifldnjgpmaaGreatDoor.PWri
open Go.RowKit Go.Proofs.YtbnlifldnjgpmaaGreatDoorW.PrintWords Go.Proofs.YtbnlifldnjgpmaaGreatDoorW.PrintLast Go.Proofs.YtbnlifldnjgpmaaGreatDoorW.PrintMore
attribute [local go_sem] max2_int min2_int max_two min_two max_three min_three max_four min_four   -- for this text's walks alone
set_option linter.unusedVariables false
set_option linter.unusedSimpArgs false
def anvilref02_meets.l0 : Nat → List (S55) → Int → Int → Int → Int → Int → List Int → Option (Bool)
 | 0, _, _, _, _, _, _, _ => none
 | k + 1, x0, x5, x7, x145000, x145001, x145002, x145003 => if x7 < (x0.length : Int) then (if 0 ≤ x7 then ((anvilref02_last.f ((rd_T55 x0 x7).f0) ((rd_T55 x0 x7).f1)).bind fun bt149 => (if x145000 ≤ bt149.1 then (if ((rd_T55 x0 x7).f0) ≤ x5 then (some true) else (anvilref02_meets.l0 k x0 x5 (wrap64 (x7 + 1)) x145000 x145001 x145002 x145003)) else (anvilref02_meets.l0 k x0 x5 (wrap64 (x7 + 1)) x145000 x145001 x145002 x145003))) else (none)) else (some false)
def anvilref02_meets.f (k : Nat) (l0 : List (S55)) (a1_0 : Int) (a1_1 : Int) (a1_2 : Int) (l1_3 : List Int) : Option (Bool) := (anvilref02_last.f a1_0 a1_1).bind fun bt145 => (anvilref02_meets.l0 k l0 bt145.1 0 a1_0 a1_1 a1_2 l1_3)
theorem anvilref02_meets.mono_l : ∀ k, (∀ y0 y1 y2 y3 y4 y5 y6, LeO (anvilref02_meets.l0 k y0 y1 y2 y3 y4 y5 y6) (anvilref02_meets.l0 (k + 1) y0 y1 y2 y3 y4 y5 y6))
 | 0 => fun _ _ _ _ _ _ _ r h => by simp [anvilref02_meets.l0] at h
 | k + 1 => by
  have ih0 := anvilref02_meets.mono_l k
  ·intro y0 y1 y2 y3 y4 y5 y6
   unfold anvilref02_meets.l0
   repeat' first
   | (with_reducible exact ih0 _ _ _ _ _ _ _)
   | (with_reducible exact LeO.refl _)
   | (with_reducible exact LeO.none _)
   | (with_reducible refine LeO.ite ?_ ?_)
   | (with_reducible refine LeO.bind ?_ (fun _ => ?_))
   | exact ih0 _ _ _ _ _ _ _
   | exact LeO.none _
   | refine LeO.ite ?_ ?_
   | refine LeO.bind ?_ (fun _ => ?_)
theorem anvilref02_meets.mono : ∀ a0 a1 a2 a3 a4 k, LeO (anvilref02_meets.f k a0 a1 a2 a3 a4) (anvilref02_meets.f (k + 1) a0 a1 a2 a3 a4) := by
 intro a0 a1 a2 a3 a4 k
 have ih0 := anvilref02_meets.mono_l k
 unfold anvilref02_meets.f
 repeat' first
  | (with_reducible exact ih0 _ _ _ _ _ _ _)
  | (with_reducible exact LeO.refl _)
  | (with_reducible exact LeO.none _)
  | (with_reducible refine LeO.ite ?_ ?_)
  | (with_reducible refine LeO.bind ?_ (fun _ => ?_))
  | exact ih0 _ _ _ _ _ _ _
  | exact LeO.none _
  | refine LeO.ite ?_ ?_
  | refine LeO.bind ?_ (fun _ => ?_)
set_option maxHeartbeats 8000000 in
set_option maxRecDepth 100000 in
theorem anvilref02_meets.calls (k : Nat) (A0 : Option Addr) (c0 : Nat) (l0 : List (S55)) (a1_0 : Int) (a1_1 : Int) (a1_2 : Int) (A1_3 : Option Addr) (c1_3 : Nat) (l1_3 : List Int) (r : Bool) (w : World) (hr0 : Kd.C k55 w A0 l0.length l0) (hc0 : l0.length ≤ c0) (hr1_3 : Kd.C (Kd.int .u8) w A1_3 l1_3.length l1_3) (hc1_3 : l1_3.length ≤ c1_3) (h : anvilref02_meets.f k l0 a1_0 a1_1 a1_2 l1_3 = some r) :
 Calls Tryz.prog 65 #[.slice A0 l0.length c0, .agg #[.int .u64 a1_0, .int .u64 a1_1, .int .i64 a1_2, .slice A1_3 l1_3.length c1_3]] w fun e w' => e = .returned (.bool r) ∧ Below w.heap.size w w' := by
 have hu55 := Tryz.underlying55
 have HR0 := Asd.mk hr0
 have HC0 := Asd.mk hc0
 clear hr0 hc0
 have HR1_3 := Asd.mk hr1_3
 have HC1_3 := Asd.mk hc1_3
 clear hr1_3 hc1_3
 have HB := Asd.mk (Below.refl w.heap.size w)
 have H : ((anvilref02_last.f a1_0 a1_1).bind fun bt145 => (anvilref02_meets.l0 k l0 bt145.1 0 a1_0 a1_1 a1_2 l1_3)) = some r := h
 clear h
 replace H := Option.bind_eq_some_iff.mp H
 obtain ⟨⟨t145, t146⟩, A30, H⟩ := H
 have A3 := Asd.mk A30
 clear A30
 have H' := Asd.mk H
 clear H
 go_enter Tryz.func65, Tryz.ntmps65
 go_wp2_with (first | ((with_reducible refine gDs (N := 3) rfl ?_); refine bEv ?hg (N := 3) ?hd (cs := #[.int .u64 a1_0, .int .u64 a1_1, .int .i64 a1_2, .slice A1_3 l1_3.length c1_3]) (t := 55) ?hr ?_; (case hd => rfl); (case hg => rfl); (case hr => first | (go_simp; done) | (go_simp; rfl)); intro gb144 hg w4 hbox hb; have n0_ := Asd.mk (bSt (bX HB.out) hb); have n1_ := Asd.mk (hbox); have n2_ := Asd.mk (zX hg (bX HB.out) : w.heap.size ≤ gb144); have n3_ := Asd.mk (zX hg (bX HB.out) : w.heap.size ≤ gb144); clear HB; have HB := n0_; have BK144 := n1_; have GW144 := n2_; have GE144 := n3_; clear n0_ n1_ n2_ n3_; clear hb hbox hg; have hcz5_0 : w4.cell? ⟨gb144, 0, none⟩ = some (.int .u64 a1_0) := (kCe BK144.out 0).trans rfl; have hcz5_1 : w4.cell? ⟨gb144, 1, none⟩ = some (.int .u64 a1_1) := (kCe BK144.out 1).trans rfl; have hcz5_2 : w4.cell? ⟨gb144, 2, none⟩ = some (.int .i64 a1_2) := (kCe BK144.out 2).trans rfl; have hcz5_3 : w4.cell? ⟨gb144, 3, none⟩ = some (.slice A1_3 l1_3.length c1_3) := (kCe BK144.out 3).trans rfl; have hfz5_0 := kFr BK144.out 0; have hfz5_1 := kFr BK144.out 1; have hfz5_2 := kFr BK144.out 2; have hfz5_3 := kFr BK144.out 3) | (go_at_call 64; (with_reducible refine (anvilref02_last.calls a1_0 a1_1 t145 t146 _ A3.out).mono ?_); rintro e w' ⟨rfl, ⟨nd, rfl⟩⟩; (try exact wX)))
 repeat (go_quiet (first | ((with_reducible refine gDs (N := 3) rfl ?_); refine bEv ?hg (N := 3) ?hd (cs := #[.int .u64 a1_0, .int .u64 a1_1, .int .i64 a1_2, .slice A1_3 l1_3.length c1_3]) (t := 55) ?hr ?_; (case hd => rfl); (case hg => rfl); (case hr => first | (go_simp; done) | (go_simp; rfl)); intro gb144 hg w4 hbox hb; have n0_ := Asd.mk (bSt (bX HB.out) hb); have n1_ := Asd.mk (hbox); have n2_ := Asd.mk (zX hg (bX HB.out) : w.heap.size ≤ gb144); have n3_ := Asd.mk (zX hg (bX HB.out) : w.heap.size ≤ gb144); clear HB; have HB := n0_; have BK144 := n1_; have GW144 := n2_; have GE144 := n3_; clear n0_ n1_ n2_ n3_; clear hb hbox hg; have hcz5_0 : w4.cell? ⟨gb144, 0, none⟩ = some (.int .u64 a1_0) := (kCe BK144.out 0).trans rfl; have hcz5_1 : w4.cell? ⟨gb144, 1, none⟩ = some (.int .u64 a1_1) := (kCe BK144.out 1).trans rfl; have hcz5_2 : w4.cell? ⟨gb144, 2, none⟩ = some (.int .i64 a1_2) := (kCe BK144.out 2).trans rfl; have hcz5_3 : w4.cell? ⟨gb144, 3, none⟩ = some (.slice A1_3 l1_3.length c1_3) := (kCe BK144.out 3).trans rfl; have hfz5_0 := kFr BK144.out 0; have hfz5_1 := kFr BK144.out 1; have hfz5_2 := kFr BK144.out 2; have hfz5_3 := kFr BK144.out 3) | (go_at_call 64; (with_reducible refine (anvilref02_last.calls a1_0 a1_1 t145 t146 _ A3.out).mono ?_); rintro e w' ⟨rfl, ⟨nd, rfl⟩⟩; (try exact wX))); try go_wp2_with (first | ((with_reducible refine gDs (N := 3) rfl ?_); refine bEv ?hg (N := 3) ?hd (cs := #[.int .u64 a1_0, .int .u64 a1_1, .int .i64 a1_2, .slice A1_3 l1_3.length c1_3]) (t := 55) ?hr ?_; (case hd => rfl); (case hg => rfl); (case hr => first | (go_simp; done) | (go_simp; rfl)); intro gb144 hg w4 hbox hb; have n0_ := Asd.mk (bSt (bX HB.out) hb); have n1_ := Asd.mk (hbox); have n2_ := Asd.mk (zX hg (bX HB.out) : w.heap.size ≤ gb144); have n3_ := Asd.mk (zX hg (bX HB.out) : w.heap.size ≤ gb144); clear HB; have HB := n0_; have BK144 := n1_; have GW144 := n2_; have GE144 := n3_; clear n0_ n1_ n2_ n3_; clear hb hbox hg; have hcz5_0 : w4.cell? ⟨gb144, 0, none⟩ = some (.int .u64 a1_0) := (kCe BK144.out 0).trans rfl; have hcz5_1 : w4.cell? ⟨gb144, 1, none⟩ = some (.int .u64 a1_1) := (kCe BK144.out 1).trans rfl; have hcz5_2 : w4.cell? ⟨gb144, 2, none⟩ = some (.int .i64 a1_2) := (kCe BK144.out 2).trans rfl; have hcz5_3 : w4.cell? ⟨gb144, 3, none⟩ = some (.slice A1_3 l1_3.length c1_3) := (kCe BK144.out 3).trans rfl; have hfz5_0 := kFr BK144.out 0; have hfz5_1 := kFr BK144.out 1; have hfz5_2 := kFr BK144.out 2; have hfz5_3 := kFr BK144.out 3) | (go_at_call 64; (with_reducible refine (anvilref02_last.calls a1_0 a1_1 t145 t146 _ A3.out).mono ?_); rintro e w' ⟨rfl, ⟨nd, rfl⟩⟩; (try exact wX))))
 go_loopg [7] k (fun kq v7 w' => ∃ (x7_1 : Int), v7 = .int .i64 x7_1 ∧ Asd (anvilref02_meets.l0 kq l0 t145 x7_1 a1_0 a1_1 a1_2 l1_3 = some r) ∧ Asd (kq ≤ k) ∧ Asd (w'.heap[gb144]? = some (.cells #[.int .u64 a1_0, .int .u64 a1_1, .int .i64 a1_2, (.slice A1_3 l1_3.length c1_3)] 55 (0, 0))) ∧ Asd (Below w.heap.size w w'))
 case atStart => exact ⟨(0), eX, H', ⟨Nat.le_refl _⟩, ⟨kX BK144.out⟩, ⟨bX HB.out⟩⟩
 case round =>
  clear H'
  try clear c1
  try clear p2
  try clear hcz5_0
  try clear hcz5_1
  try clear hcz5_2
  try clear hcz5_3
  try clear hfz5_0
  try clear hfz5_1
  try clear hfz5_2
  try clear hfz5_3
  obtain ⟨x7_1, rfl, HA, HK1, BK144, HB⟩ := hrel
  cases gk with
  | zero => exact absurd HA.out (by simp [anvilref02_meets.l0])
  | succ k1 =>
   have H := HA.out
   clear HA
   simp only [anvilref02_meets.l0] at H
   by_cases c6 : x7_1 < (l0.length : Int)
   ·rw [if_pos c6] at H
    have c6b0 : decide (x7_1 < (l0.length : Int)) = true := decide_eq_true c6
    clear c6
    by_cases c7 : 0 ≤ x7_1
    ·rw [if_pos c7] at H
     have c7b0 : decide (0 ≤ x7_1) = true := decide_eq_true c7
     clear c7
     replace H := Option.bind_eq_some_iff.mp H
     obtain ⟨⟨t149, t150⟩, A80, H⟩ := H
     have A8 := Asd.mk A80
     clear A80
     by_cases c9 : a1_0 ≤ t149
     ·rw [if_pos c9] at H
      have c9b0 : decide (a1_0 ≤ t149) = true := decide_eq_true c9
      clear c9
      by_cases c10 : ((rd_T55 l0 x7_1).f0) ≤ t145
      ·rw [if_pos c10] at H
       have c10b0 : decide (((rd_T55 l0 x7_1).f0) ≤ t145) = true := decide_eq_true c10
       clear c10
       obtain rfl := Option.some.inj H
       have p147 : 0 ≤ (x7_1 : Int) := of_decide_eq_true aX
       have q147 : x7_1 < (l0.length : Int) := of_decide_eq_true aX
       obtain ⟨ad147, A147_3, c147_3, e147, hx147_0, hx147_1, hx147_2, hx147_3, hl147_3, hi147_3⟩ := at_T55 HR0.out x7_1 p147 q147
       cases e147
       replace hx147_0 := (HB.out.cell (World.block_lt_of_cell? w _ hx147_0)).trans hx147_0
       replace hx147_1 := (HB.out.cell (World.block_lt_of_cell? w _ hx147_1)).trans hx147_1
       replace hx147_2 := (HB.out.cell (World.block_lt_of_cell? w _ hx147_2)).trans hx147_2
       replace hx147_3 := (HB.out.cell (World.block_lt_of_cell? w _ hx147_3)).trans hx147_3
       have HR147_3 := Asd.mk hi147_3
       have HC147_3 := Asd.mk hl147_3
       clear hi147_3 hl147_3
       replace p147 := eq_true p147
       replace q147 := eq_true q147
       have p148 : 0 ≤ (x7_1 : Int) := of_decide_eq_true aX
       have q148 : x7_1 < (l0.length : Int) := of_decide_eq_true aX
       obtain ⟨ad148, A148_3, c148_3, e148, hx148_0, hx148_1, hx148_2, hx148_3, hl148_3, hi148_3⟩ := at_T55 HR0.out x7_1 p148 q148
       obtain rfl : ad147 = ad148 := (by injection e148)
       replace hx148_0 := (HB.out.cell (World.block_lt_of_cell? w _ hx148_0)).trans hx148_0
       replace hx148_1 := (HB.out.cell (World.block_lt_of_cell? w _ hx148_1)).trans hx148_1
       replace hx148_2 := (HB.out.cell (World.block_lt_of_cell? w _ hx148_2)).trans hx148_2
       replace hx148_3 := (HB.out.cell (World.block_lt_of_cell? w _ hx148_3)).trans hx148_3
       have HR148_3 := Asd.mk hi148_3
       have HC148_3 := Asd.mk hl148_3
       clear hi148_3 hl148_3
       replace p148 := eq_true p148
       replace q148 := eq_true q148
       have ea_ := Option.some.inj (hx147_3.symm.trans hx148_3)
       injection ea_ with ea_ en_ ec_
       subst ea_
       subst ec_
       clear en_
       go_wp2_with (first | (go_at_call 64; (with_reducible refine (anvilref02_last.calls ((rd_T55 l0 x7_1).f0) ((rd_T55 l0 x7_1).f1) t149 t150 _ A8.out).mono ?_); rintro e w' ⟨rfl, ⟨nd, rfl⟩⟩; (try exact wX); have hcz11_0 : wr.cell? ⟨gb144, 0, none⟩ = some (.int .u64 a1_0) := (kCe BK144.out 0).trans rfl; have hcz11_1 : wr.cell? ⟨gb144, 1, none⟩ = some (.int .u64 a1_1) := (kCe BK144.out 1).trans rfl; have hcz11_2 : wr.cell? ⟨gb144, 2, none⟩ = some (.int .i64 a1_2) := (kCe BK144.out 2).trans rfl; have hcz11_3 : wr.cell? ⟨gb144, 3, none⟩ = some (.slice A1_3 l1_3.length c1_3) := (kCe BK144.out 3).trans rfl; have hfz11_0 := kFr BK144.out 0; have hfz11_1 := kFr BK144.out 1; have hfz11_2 := kFr BK144.out 2; have hfz11_3 := kFr BK144.out 3; have p151 : 0 ≤ (x7_1 : Int) := of_decide_eq_true aX; have q151 : x7_1 < (l0.length : Int) := of_decide_eq_true aX; obtain ⟨ad151, A151_3, c151_3, e151, hx151_0, hx151_1, hx151_2, hx151_3, hl151_3, hi151_3⟩ := at_T55 HR0.out x7_1 p151 q151; obtain rfl : ad147 = ad151 := (by injection e151); replace hx151_0 := (HB.out.cell (World.block_lt_of_cell? w _ hx151_0)).trans hx151_0; replace hx151_1 := (HB.out.cell (World.block_lt_of_cell? w _ hx151_1)).trans hx151_1; replace hx151_2 := (HB.out.cell (World.block_lt_of_cell? w _ hx151_2)).trans hx151_2; replace hx151_3 := (HB.out.cell (World.block_lt_of_cell? w _ hx151_3)).trans hx151_3; have HR151_3 := Asd.mk hi151_3; have HC151_3 := Asd.mk hl151_3; clear hi151_3 hl151_3; replace p151 := eq_true p151; replace q151 := eq_true q151; have ea_ := Option.some.inj (hx147_3.symm.trans hx151_3); injection ea_ with ea_ en_ ec_; subst ea_; subst ec_; clear en_))
       repeat (go_quiet (first | (go_at_call 64; (with_reducible refine (anvilref02_last.calls ((rd_T55 l0 x7_1).f0) ((rd_T55 l0 x7_1).f1) t149 t150 _ A8.out).mono ?_); rintro e w' ⟨rfl, ⟨nd, rfl⟩⟩; (try exact wX); have hcz11_0 : wr.cell? ⟨gb144, 0, none⟩ = some (.int .u64 a1_0) := (kCe BK144.out 0).trans rfl; have hcz11_1 : wr.cell? ⟨gb144, 1, none⟩ = some (.int .u64 a1_1) := (kCe BK144.out 1).trans rfl; have hcz11_2 : wr.cell? ⟨gb144, 2, none⟩ = some (.int .i64 a1_2) := (kCe BK144.out 2).trans rfl; have hcz11_3 : wr.cell? ⟨gb144, 3, none⟩ = some (.slice A1_3 l1_3.length c1_3) := (kCe BK144.out 3).trans rfl; have hfz11_0 := kFr BK144.out 0; have hfz11_1 := kFr BK144.out 1; have hfz11_2 := kFr BK144.out 2; have hfz11_3 := kFr BK144.out 3; have p151 : 0 ≤ (x7_1 : Int) := of_decide_eq_true aX; have q151 : x7_1 < (l0.length : Int) := of_decide_eq_true aX; obtain ⟨ad151, A151_3, c151_3, e151, hx151_0, hx151_1, hx151_2, hx151_3, hl151_3, hi151_3⟩ := at_T55 HR0.out x7_1 p151 q151; obtain rfl : ad147 = ad151 := (by injection e151); replace hx151_0 := (HB.out.cell (World.block_lt_of_cell? w _ hx151_0)).trans hx151_0; replace hx151_1 := (HB.out.cell (World.block_lt_of_cell? w _ hx151_1)).trans hx151_1; replace hx151_2 := (HB.out.cell (World.block_lt_of_cell? w _ hx151_2)).trans hx151_2; replace hx151_3 := (HB.out.cell (World.block_lt_of_cell? w _ hx151_3)).trans hx151_3; have HR151_3 := Asd.mk hi151_3; have HC151_3 := Asd.mk hl151_3; clear hi151_3 hl151_3; replace p151 := eq_true p151; replace q151 := eq_true q151; have ea_ := Option.some.inj (hx147_3.symm.trans hx151_3); injection ea_ with ea_ en_ ec_; subst ea_; subst ec_; clear en_)); try go_wp2_with (first | (go_at_call 64; (with_reducible refine (anvilref02_last.calls ((rd_T55 l0 x7_1).f0) ((rd_T55 l0 x7_1).f1) t149 t150 _ A8.out).mono ?_); rintro e w' ⟨rfl, ⟨nd, rfl⟩⟩; (try exact wX); have hcz11_0 : wr.cell? ⟨gb144, 0, none⟩ = some (.int .u64 a1_0) := (kCe BK144.out 0).trans rfl; have hcz11_1 : wr.cell? ⟨gb144, 1, none⟩ = some (.int .u64 a1_1) := (kCe BK144.out 1).trans rfl; have hcz11_2 : wr.cell? ⟨gb144, 2, none⟩ = some (.int .i64 a1_2) := (kCe BK144.out 2).trans rfl; have hcz11_3 : wr.cell? ⟨gb144, 3, none⟩ = some (.slice A1_3 l1_3.length c1_3) := (kCe BK144.out 3).trans rfl; have hfz11_0 := kFr BK144.out 0; have hfz11_1 := kFr BK144.out 1; have hfz11_2 := kFr BK144.out 2; have hfz11_3 := kFr BK144.out 3; have p151 : 0 ≤ (x7_1 : Int) := of_decide_eq_true aX; have q151 : x7_1 < (l0.length : Int) := of_decide_eq_true aX; obtain ⟨ad151, A151_3, c151_3, e151, hx151_0, hx151_1, hx151_2, hx151_3, hl151_3, hi151_3⟩ := at_T55 HR0.out x7_1 p151 q151; obtain rfl : ad147 = ad151 := (by injection e151); replace hx151_0 := (HB.out.cell (World.block_lt_of_cell? w _ hx151_0)).trans hx151_0; replace hx151_1 := (HB.out.cell (World.block_lt_of_cell? w _ hx151_1)).trans hx151_1; replace hx151_2 := (HB.out.cell (World.block_lt_of_cell? w _ hx151_2)).trans hx151_2; replace hx151_3 := (HB.out.cell (World.block_lt_of_cell? w _ hx151_3)).trans hx151_3; have HR151_3 := Asd.mk hi151_3; have HC151_3 := Asd.mk hl151_3; clear hi151_3 hl151_3; replace p151 := eq_true p151; replace q151 := eq_true q151; have ea_ := Option.some.inj (hx147_3.symm.trans hx151_3); injection ea_ with ea_ en_ ec_; subst ea_; subst ec_; clear en_)))
       go_ret
       exact ⟨rX, bX HB.out⟩
      ·rw [if_neg c10] at H
       have c10b0 : decide (((rd_T55 l0 x7_1).f0) ≤ t145) = false := decide_eq_false c10
       clear c10
       have H' := Asd.mk H
       clear H
       have p147 : 0 ≤ (x7_1 : Int) := of_decide_eq_true aX
       have q147 : x7_1 < (l0.length : Int) := of_decide_eq_true aX
       obtain ⟨ad147, A147_3, c147_3, e147, hx147_0, hx147_1, hx147_2, hx147_3, hl147_3, hi147_3⟩ := at_T55 HR0.out x7_1 p147 q147
       cases e147
       replace hx147_0 := (HB.out.cell (World.block_lt_of_cell? w _ hx147_0)).trans hx147_0
       replace hx147_1 := (HB.out.cell (World.block_lt_of_cell? w _ hx147_1)).trans hx147_1
       replace hx147_2 := (HB.out.cell (World.block_lt_of_cell? w _ hx147_2)).trans hx147_2
       replace hx147_3 := (HB.out.cell (World.block_lt_of_cell? w _ hx147_3)).trans hx147_3
       have HR147_3 := Asd.mk hi147_3
       have HC147_3 := Asd.mk hl147_3
       clear hi147_3 hl147_3
       replace p147 := eq_true p147
       replace q147 := eq_true q147
       have p148 : 0 ≤ (x7_1 : Int) := of_decide_eq_true aX
       have q148 : x7_1 < (l0.length : Int) := of_decide_eq_true aX
       obtain ⟨ad148, A148_3, c148_3, e148, hx148_0, hx148_1, hx148_2, hx148_3, hl148_3, hi148_3⟩ := at_T55 HR0.out x7_1 p148 q148
       obtain rfl : ad147 = ad148 := (by injection e148)
       replace hx148_0 := (HB.out.cell (World.block_lt_of_cell? w _ hx148_0)).trans hx148_0
       replace hx148_1 := (HB.out.cell (World.block_lt_of_cell? w _ hx148_1)).trans hx148_1
       replace hx148_2 := (HB.out.cell (World.block_lt_of_cell? w _ hx148_2)).trans hx148_2
       replace hx148_3 := (HB.out.cell (World.block_lt_of_cell? w _ hx148_3)).trans hx148_3
       have HR148_3 := Asd.mk hi148_3
       have HC148_3 := Asd.mk hl148_3
       clear hi148_3 hl148_3
       replace p148 := eq_true p148
       replace q148 := eq_true q148
       have ea_ := Option.some.inj (hx147_3.symm.trans hx148_3)
       injection ea_ with ea_ en_ ec_
       subst ea_
       subst ec_
       clear en_
       go_wp2_with (first | (go_at_call 64; (with_reducible refine (anvilref02_last.calls ((rd_T55 l0 x7_1).f0) ((rd_T55 l0 x7_1).f1) t149 t150 _ A8.out).mono ?_); rintro e w' ⟨rfl, ⟨nd, rfl⟩⟩; (try exact wX); have hcz12_0 : wr.cell? ⟨gb144, 0, none⟩ = some (.int .u64 a1_0) := (kCe BK144.out 0).trans rfl; have hcz12_1 : wr.cell? ⟨gb144, 1, none⟩ = some (.int .u64 a1_1) := (kCe BK144.out 1).trans rfl; have hcz12_2 : wr.cell? ⟨gb144, 2, none⟩ = some (.int .i64 a1_2) := (kCe BK144.out 2).trans rfl; have hcz12_3 : wr.cell? ⟨gb144, 3, none⟩ = some (.slice A1_3 l1_3.length c1_3) := (kCe BK144.out 3).trans rfl; have hfz12_0 := kFr BK144.out 0; have hfz12_1 := kFr BK144.out 1; have hfz12_2 := kFr BK144.out 2; have hfz12_3 := kFr BK144.out 3; have p151 : 0 ≤ (x7_1 : Int) := of_decide_eq_true aX; have q151 : x7_1 < (l0.length : Int) := of_decide_eq_true aX; obtain ⟨ad151, A151_3, c151_3, e151, hx151_0, hx151_1, hx151_2, hx151_3, hl151_3, hi151_3⟩ := at_T55 HR0.out x7_1 p151 q151; obtain rfl : ad147 = ad151 := (by injection e151); replace hx151_0 := (HB.out.cell (World.block_lt_of_cell? w _ hx151_0)).trans hx151_0; replace hx151_1 := (HB.out.cell (World.block_lt_of_cell? w _ hx151_1)).trans hx151_1; replace hx151_2 := (HB.out.cell (World.block_lt_of_cell? w _ hx151_2)).trans hx151_2; replace hx151_3 := (HB.out.cell (World.block_lt_of_cell? w _ hx151_3)).trans hx151_3; have HR151_3 := Asd.mk hi151_3; have HC151_3 := Asd.mk hl151_3; clear hi151_3 hl151_3; replace p151 := eq_true p151; replace q151 := eq_true q151; have ea_ := Option.some.inj (hx147_3.symm.trans hx151_3); injection ea_ with ea_ en_ ec_; subst ea_; subst ec_; clear en_))
       repeat (go_quiet (first | (go_at_call 64; (with_reducible refine (anvilref02_last.calls ((rd_T55 l0 x7_1).f0) ((rd_T55 l0 x7_1).f1) t149 t150 _ A8.out).mono ?_); rintro e w' ⟨rfl, ⟨nd, rfl⟩⟩; (try exact wX); have hcz12_0 : wr.cell? ⟨gb144, 0, none⟩ = some (.int .u64 a1_0) := (kCe BK144.out 0).trans rfl; have hcz12_1 : wr.cell? ⟨gb144, 1, none⟩ = some (.int .u64 a1_1) := (kCe BK144.out 1).trans rfl; have hcz12_2 : wr.cell? ⟨gb144, 2, none⟩ = some (.int .i64 a1_2) := (kCe BK144.out 2).trans rfl; have hcz12_3 : wr.cell? ⟨gb144, 3, none⟩ = some (.slice A1_3 l1_3.length c1_3) := (kCe BK144.out 3).trans rfl; have hfz12_0 := kFr BK144.out 0; have hfz12_1 := kFr BK144.out 1; have hfz12_2 := kFr BK144.out 2; have hfz12_3 := kFr BK144.out 3; have p151 : 0 ≤ (x7_1 : Int) := of_decide_eq_true aX; have q151 : x7_1 < (l0.length : Int) := of_decide_eq_true aX; obtain ⟨ad151, A151_3, c151_3, e151, hx151_0, hx151_1, hx151_2, hx151_3, hl151_3, hi151_3⟩ := at_T55 HR0.out x7_1 p151 q151; obtain rfl : ad147 = ad151 := (by injection e151); replace hx151_0 := (HB.out.cell (World.block_lt_of_cell? w _ hx151_0)).trans hx151_0; replace hx151_1 := (HB.out.cell (World.block_lt_of_cell? w _ hx151_1)).trans hx151_1; replace hx151_2 := (HB.out.cell (World.block_lt_of_cell? w _ hx151_2)).trans hx151_2; replace hx151_3 := (HB.out.cell (World.block_lt_of_cell? w _ hx151_3)).trans hx151_3; have HR151_3 := Asd.mk hi151_3; have HC151_3 := Asd.mk hl151_3; clear hi151_3 hl151_3; replace p151 := eq_true p151; replace q151 := eq_true q151; have ea_ := Option.some.inj (hx147_3.symm.trans hx151_3); injection ea_ with ea_ en_ ec_; subst ea_; subst ec_; clear en_)); try go_wp2_with (first | (go_at_call 64; (with_reducible refine (anvilref02_last.calls ((rd_T55 l0 x7_1).f0) ((rd_T55 l0 x7_1).f1) t149 t150 _ A8.out).mono ?_); rintro e w' ⟨rfl, ⟨nd, rfl⟩⟩; (try exact wX); have hcz12_0 : wr.cell? ⟨gb144, 0, none⟩ = some (.int .u64 a1_0) := (kCe BK144.out 0).trans rfl; have hcz12_1 : wr.cell? ⟨gb144, 1, none⟩ = some (.int .u64 a1_1) := (kCe BK144.out 1).trans rfl; have hcz12_2 : wr.cell? ⟨gb144, 2, none⟩ = some (.int .i64 a1_2) := (kCe BK144.out 2).trans rfl; have hcz12_3 : wr.cell? ⟨gb144, 3, none⟩ = some (.slice A1_3 l1_3.length c1_3) := (kCe BK144.out 3).trans rfl; have hfz12_0 := kFr BK144.out 0; have hfz12_1 := kFr BK144.out 1; have hfz12_2 := kFr BK144.out 2; have hfz12_3 := kFr BK144.out 3; have p151 : 0 ≤ (x7_1 : Int) := of_decide_eq_true aX; have q151 : x7_1 < (l0.length : Int) := of_decide_eq_true aX; obtain ⟨ad151, A151_3, c151_3, e151, hx151_0, hx151_1, hx151_2, hx151_3, hl151_3, hi151_3⟩ := at_T55 HR0.out x7_1 p151 q151; obtain rfl : ad147 = ad151 := (by injection e151); replace hx151_0 := (HB.out.cell (World.block_lt_of_cell? w _ hx151_0)).trans hx151_0; replace hx151_1 := (HB.out.cell (World.block_lt_of_cell? w _ hx151_1)).trans hx151_1; replace hx151_2 := (HB.out.cell (World.block_lt_of_cell? w _ hx151_2)).trans hx151_2; replace hx151_3 := (HB.out.cell (World.block_lt_of_cell? w _ hx151_3)).trans hx151_3; have HR151_3 := Asd.mk hi151_3; have HC151_3 := Asd.mk hl151_3; clear hi151_3 hl151_3; replace p151 := eq_true p151; replace q151 := eq_true q151; have ea_ := Option.some.inj (hx147_3.symm.trans hx151_3); injection ea_ with ea_ en_ ec_; subst ea_; subst ec_; clear en_)))
       go_roundg k1
       case measure => have := HK1.out; omega
       case rel => exact ⟨(wrap64 (x7_1 + 1)), eX, H', ⟨by have := HK1.out; omega⟩, ⟨kX BK144.out⟩, ⟨bX HB.out⟩⟩
     ·rw [if_neg c9] at H
      have c9b0 : decide (a1_0 ≤ t149) = false := decide_eq_false c9
      clear c9
      have H' := Asd.mk H
      clear H
      have p147 : 0 ≤ (x7_1 : Int) := of_decide_eq_true aX
      have q147 : x7_1 < (l0.length : Int) := of_decide_eq_true aX
      obtain ⟨ad147, A147_3, c147_3, e147, hx147_0, hx147_1, hx147_2, hx147_3, hl147_3, hi147_3⟩ := at_T55 HR0.out x7_1 p147 q147
      cases e147
      replace hx147_0 := (HB.out.cell (World.block_lt_of_cell? w _ hx147_0)).trans hx147_0
      replace hx147_1 := (HB.out.cell (World.block_lt_of_cell? w _ hx147_1)).trans hx147_1
      replace hx147_2 := (HB.out.cell (World.block_lt_of_cell? w _ hx147_2)).trans hx147_2
      replace hx147_3 := (HB.out.cell (World.block_lt_of_cell? w _ hx147_3)).trans hx147_3
      have HR147_3 := Asd.mk hi147_3
      have HC147_3 := Asd.mk hl147_3
      clear hi147_3 hl147_3
      replace p147 := eq_true p147
      replace q147 := eq_true q147
      have p148 : 0 ≤ (x7_1 : Int) := of_decide_eq_true aX
      have q148 : x7_1 < (l0.length : Int) := of_decide_eq_true aX
      obtain ⟨ad148, A148_3, c148_3, e148, hx148_0, hx148_1, hx148_2, hx148_3, hl148_3, hi148_3⟩ := at_T55 HR0.out x7_1 p148 q148
      obtain rfl : ad147 = ad148 := (by injection e148)
      replace hx148_0 := (HB.out.cell (World.block_lt_of_cell? w _ hx148_0)).trans hx148_0
      replace hx148_1 := (HB.out.cell (World.block_lt_of_cell? w _ hx148_1)).trans hx148_1
      replace hx148_2 := (HB.out.cell (World.block_lt_of_cell? w _ hx148_2)).trans hx148_2
      replace hx148_3 := (HB.out.cell (World.block_lt_of_cell? w _ hx148_3)).trans hx148_3
      have HR148_3 := Asd.mk hi148_3
      have HC148_3 := Asd.mk hl148_3
      clear hi148_3 hl148_3
      replace p148 := eq_true p148
      replace q148 := eq_true q148
      have ea_ := Option.some.inj (hx147_3.symm.trans hx148_3)
      injection ea_ with ea_ en_ ec_
      subst ea_
      subst ec_
      clear en_
      go_wp2_with (first | (go_at_call 64; (with_reducible refine (anvilref02_last.calls ((rd_T55 l0 x7_1).f0) ((rd_T55 l0 x7_1).f1) t149 t150 _ A8.out).mono ?_); rintro e w' ⟨rfl, ⟨nd, rfl⟩⟩; (try exact wX); have hcz13_0 : wr.cell? ⟨gb144, 0, none⟩ = some (.int .u64 a1_0) := (kCe BK144.out 0).trans rfl; have hcz13_1 : wr.cell? ⟨gb144, 1, none⟩ = some (.int .u64 a1_1) := (kCe BK144.out 1).trans rfl; have hcz13_2 : wr.cell? ⟨gb144, 2, none⟩ = some (.int .i64 a1_2) := (kCe BK144.out 2).trans rfl; have hcz13_3 : wr.cell? ⟨gb144, 3, none⟩ = some (.slice A1_3 l1_3.length c1_3) := (kCe BK144.out 3).trans rfl; have hfz13_0 := kFr BK144.out 0; have hfz13_1 := kFr BK144.out 1; have hfz13_2 := kFr BK144.out 2; have hfz13_3 := kFr BK144.out 3))
      repeat (go_quiet (first | (go_at_call 64; (with_reducible refine (anvilref02_last.calls ((rd_T55 l0 x7_1).f0) ((rd_T55 l0 x7_1).f1) t149 t150 _ A8.out).mono ?_); rintro e w' ⟨rfl, ⟨nd, rfl⟩⟩; (try exact wX); have hcz13_0 : wr.cell? ⟨gb144, 0, none⟩ = some (.int .u64 a1_0) := (kCe BK144.out 0).trans rfl; have hcz13_1 : wr.cell? ⟨gb144, 1, none⟩ = some (.int .u64 a1_1) := (kCe BK144.out 1).trans rfl; have hcz13_2 : wr.cell? ⟨gb144, 2, none⟩ = some (.int .i64 a1_2) := (kCe BK144.out 2).trans rfl; have hcz13_3 : wr.cell? ⟨gb144, 3, none⟩ = some (.slice A1_3 l1_3.length c1_3) := (kCe BK144.out 3).trans rfl; have hfz13_0 := kFr BK144.out 0; have hfz13_1 := kFr BK144.out 1; have hfz13_2 := kFr BK144.out 2; have hfz13_3 := kFr BK144.out 3)); try go_wp2_with (first | (go_at_call 64; (with_reducible refine (anvilref02_last.calls ((rd_T55 l0 x7_1).f0) ((rd_T55 l0 x7_1).f1) t149 t150 _ A8.out).mono ?_); rintro e w' ⟨rfl, ⟨nd, rfl⟩⟩; (try exact wX); have hcz13_0 : wr.cell? ⟨gb144, 0, none⟩ = some (.int .u64 a1_0) := (kCe BK144.out 0).trans rfl; have hcz13_1 : wr.cell? ⟨gb144, 1, none⟩ = some (.int .u64 a1_1) := (kCe BK144.out 1).trans rfl; have hcz13_2 : wr.cell? ⟨gb144, 2, none⟩ = some (.int .i64 a1_2) := (kCe BK144.out 2).trans rfl; have hcz13_3 : wr.cell? ⟨gb144, 3, none⟩ = some (.slice A1_3 l1_3.length c1_3) := (kCe BK144.out 3).trans rfl; have hfz13_0 := kFr BK144.out 0; have hfz13_1 := kFr BK144.out 1; have hfz13_2 := kFr BK144.out 2; have hfz13_3 := kFr BK144.out 3)))
      go_roundg k1
      case measure => have := HK1.out; omega
      case rel => exact ⟨(wrap64 (x7_1 + 1)), eX, H', ⟨by have := HK1.out; omega⟩, ⟨kX BK144.out⟩, ⟨bX HB.out⟩⟩
    ·rw [if_neg c7] at H
     exact absurd H (by simp)
   ·rw [if_neg c6] at H
    have c6b0 : decide (x7_1 < (l0.length : Int)) = false := decide_eq_false c6
    clear c6
    obtain rfl := Option.some.inj H
    go_wp2
    repeat (go_quiet (fail); try go_wp2)
    go_ret
    exact ⟨rX, bX HB.out⟩
mutual
def anvilref02_program.l0 : Nat → List Int → List (S55) → Int → Int → Option ((List (S55)) × Int × Int)
 | 0, _, _, _, _ => none
 | k + 1, x0, x4, x5, x6 => if x6 < x5 then ((anvilref02_value.f k x0 32 8).bind fun t154 => ((anvilref02_value.f k x0 (wrap64 ((wrap64 ((wrap64 (t154)) + (wrap64 (56 * x6)))) + 32)) 8).bind fun t155 => ((anvilref02_value.f k x0 (wrap64 ((wrap64 ((wrap64 (t154)) + (wrap64 (56 * x6)))) + 40)) 8).bind fun t156 => ((anvilref02_value.f k x0 (wrap64 ((wrap64 (t154)) + (wrap64 (56 * x6)))) 4).bind fun t157 => (if t157 = 1 then (if t155 = 0 then (anvilref02_program.j1 k x0 x4 x5 x6 (wrap64 ((wrap64 (t154)) + (wrap64 (56 * x6)))) t155 t156 (t156 == 0)) else (anvilref02_program.j1 k x0 x4 x5 x6 (wrap64 ((wrap64 (t154)) + (wrap64 (56 * x6)))) t155 t156 false)) else (anvilref02_program.j1 k x0 x4 x5 x6 (wrap64 ((wrap64 (t154)) + (wrap64 (56 * x6)))) t155 t156 true)))))) else (some (x4, 0, 0))
def anvilref02_program.j1 : Nat → List Int → List (S55) → Int → Int → Int → Int → Int → Bool → Option ((List (S55)) × Int × Int)
 | 0, _, _, _, _, _, _, _, _ => none
 | k + 1, x0, x4, x5, x6, x7, x8, x9, x47 => if x47 = true then (anvilref02_program.l0 k x0 x4 x5 (wrap64 (x6 + 1))) else ((anvilref02_value.f k x0 (wrap64 (x7 + 4)) 4).bind fun t158 => (if t158 > 7 then (some (([] : List (S55)), wrap64 (x7 + 4), 23)) else (if x8 > x9 then (some (([] : List (S55)), wrap64 (x7 + 32), 23)) else ((anvilref02_value.f k x0 (wrap64 (x7 + 8)) 8).bind fun t159 => ((anvilref02_room.f x0 t159 x8).bind fun t160 => (if t160 = true then ((anvilref02_value.f k x0 (wrap64 (x7 + 24)) 8).bind fun t161 => ((anvilref02_value.f k x0 (wrap64 (x7 + 4)) 4).bind fun t162 => ((anvilref02_flags.f t162).bind fun t163 => ((anvilref02_last.f t161 x9).bind fun bt165 => (if bt165.2 = true then ((anvilref02_meets.f k x4 t161 x9 t163 ([] : List Int)).bind fun t167 => (if t167 = true then (some (([] : List (S55)), wrap64 (x7 + 24), 24)) else (if 0 ≤ t159 then (if t159 ≤ (IntKind.u64.wrap (t159 + x8)) then (if (IntKind.u64.wrap (t159 + x8)) ≤ (x0.length : Int) then (if ([] : List Int).length + ((x0.take ((IntKind.u64.wrap (t159 + x8)) : Int).toNat).drop (t159 : Int).toNat).length < 140737488355328 then (if x4.length < 2932031007402 then (anvilref02_program.l0 k x0 (x4 ++ [(⟨t161, x9, t163, (([] : List Int) ++ ((x0.take ((IntKind.u64.wrap (t159 + x8)) : Int).toNat).drop (t159 : Int).toNat))⟩ : S55)]) x5 (wrap64 (x6 + 1))) else (none)) else (none)) else (none)) else (none)) else (none)))) else (some (([] : List (S55)), wrap64 (x7 + 24), 23))))))) else (some (([] : List (S55)), wrap64 (x7 + 8), 20))))))))
end
def anvilref02_program.f (k : Nat) (l0 : List Int) : Option ((List (S55)) × Int × Int) := (anvilref02_value.f k l0 56 2).bind fun t153 => (anvilref02_program.l0 k l0 ([] : List (S55)) (wrap64 (t153)) 0)
theorem anvilref02_program.mono_l : ∀ k, (∀ y0 y1 y2 y3, LeO (anvilref02_program.l0 k y0 y1 y2 y3) (anvilref02_program.l0 (k + 1) y0 y1 y2 y3)) ∧ (∀ y0 y1 y2 y3 y4 y5 y6 y7, LeO (anvilref02_program.j1 k y0 y1 y2 y3 y4 y5 y6 y7) (anvilref02_program.j1 (k + 1) y0 y1 y2 y3 y4 y5 y6 y7))
 | 0 => ⟨fun _ _ _ _ r h => by simp [anvilref02_program.l0] at h, fun _ _ _ _ _ _ _ _ r h => by simp [anvilref02_program.j1] at h⟩
 | k + 1 => by
  obtain ⟨ih0, ih1⟩ := anvilref02_program.mono_l k
  refine ⟨?_, ?_⟩
  ·intro y0 y1 y2 y3
   unfold anvilref02_program.l0
   repeat' first
   | (with_reducible exact ih0 _ _ _ _)
   | (with_reducible exact ih1 _ _ _ _ _ _ _ _)
   | (with_reducible exact anvilref02_meets.mono _ _ _ _ _ _)
   | (with_reducible exact anvilref02_value.mono _ _ _ _)
   | (with_reducible exact LeO.refl _)
   | (with_reducible exact LeO.none _)
   | (with_reducible refine LeO.ite ?_ ?_)
   | (with_reducible refine LeO.bind ?_ (fun _ => ?_))
   | exact ih0 _ _ _ _
   | exact ih1 _ _ _ _ _ _ _ _
   | exact anvilref02_meets.mono _ _ _ _ _ _
   | exact anvilref02_value.mono _ _ _ _
   | exact LeO.none _
   | refine LeO.ite ?_ ?_
   | refine LeO.bind ?_ (fun _ => ?_)
  ·intro y0 y1 y2 y3 y4 y5 y6 y7
   unfold anvilref02_program.j1
   repeat' first
   | (with_reducible exact ih0 _ _ _ _)
   | (with_reducible exact ih1 _ _ _ _ _ _ _ _)
   | (with_reducible exact anvilref02_meets.mono _ _ _ _ _ _)
   | (with_reducible exact anvilref02_value.mono _ _ _ _)
   | (with_reducible exact LeO.refl _)
   | (with_reducible exact LeO.none _)
   | (with_reducible refine LeO.ite ?_ ?_)
   | (with_reducible refine LeO.bind ?_ (fun _ => ?_))
   | exact ih0 _ _ _ _
   | exact ih1 _ _ _ _ _ _ _ _
   | exact anvilref02_meets.mono _ _ _ _ _ _
   | exact anvilref02_value.mono _ _ _ _
   | exact LeO.none _
   | refine LeO.ite ?_ ?_
   | refine LeO.bind ?_ (fun _ => ?_)
theorem anvilref02_program.mono : ∀ a0 k, LeO (anvilref02_program.f k a0) (anvilref02_program.f (k + 1) a0) := by
 intro a0 k
 obtain ⟨ih0, ih1⟩ := anvilref02_program.mono_l k
 unfold anvilref02_program.f
 repeat' first
  | (with_reducible exact ih0 _ _ _ _)
  | (with_reducible exact ih1 _ _ _ _ _ _ _ _)
  | (with_reducible exact anvilref02_meets.mono _ _ _ _ _ _)
  | (with_reducible exact anvilref02_value.mono _ _ _ _)
  | (with_reducible exact LeO.refl _)
  | (with_reducible exact LeO.none _)
  | (with_reducible refine LeO.ite ?_ ?_)
  | (with_reducible refine LeO.bind ?_ (fun _ => ?_))
  | exact ih0 _ _ _ _
  | exact ih1 _ _ _ _ _ _ _ _
  | exact anvilref02_meets.mono _ _ _ _ _ _
  | exact anvilref02_value.mono _ _ _ _
  | exact LeO.none _
  | refine LeO.ite ?_ ?_
  | refine LeO.bind ?_ (fun _ => ?_)
def anvilref02_program.T23 : Bool × List (List Nat × List Nat) := (true, [([], []), ([0], [0]), ([], []), ([], []), ([], []), ([], []), ([4, 5], [4, 5]), ([2, 3, 6], [2, 3, 6]), ([1, 7], [1, 7]), ([0, 1, 2, 3, 4, 5, 6, 7, 8], []), ([9, 8, 8, 0, 1, 2, 3, 4, 5, 6, 7, 8], [8, 9])])
def anvilref02_program.B23 : List Nat := [0, 1, 0, 0, 0, 0, 48, 124, 255, 511, 1023]
theorem anvilref02_program.tab23 : rtab .any (opsOf Tryz.f32 23) = anvilref02_program.T23 := by kernel_rfl
theorem anvilref02_program.bits23 : waitsOk anvilref02_program.T23.2 anvilref02_program.B23 = true := by kernel_rfl
set_option maxHeartbeats 8000000 in
set_option maxRecDepth 100000 in
theorem anvilref02_program.calls (k : Nat) (A0 : Option Addr) (c0 : Nat) (l0 : List Int) (r1 : List (S55)) (r2 : Int) (r3 : Int) (w : World) (hr0 : Kd.C (Kd.int .u8) w A0 l0.length l0) (hc0 : l0.length ≤ c0) (h : anvilref02_program.f k l0 = some (r1, r2, r3)) :
 Calls Tryz.prog 32 #[.slice A0 l0.length c0] w fun e w' => ∃ v0_ : Value, e = .returned (.tuple #[v0_, .agg #[.int .i64 r2, .int .i64 r3]]) ∧ Kd.S k55 55 w' w.heap.size (fun _ => True) v0_ r1 ∧ Below w.heap.size w w' := by
 have hu66 := Tryz.underlying66
 have hu55 := Tryz.underlying55
 have HR0 := Asd.mk hr0
 have HC0 := Asd.mk hc0
 clear hr0 hc0
 have HB := Asd.mk (Below.refl w.heap.size w)
 have H : ((anvilref02_value.f k l0 56 2).bind fun t153 => (anvilref02_program.l0 k l0 ([] : List (S55)) (wrap64 (t153)) 0)) = some (r1, r2, r3) := h
 clear h
 replace H := Option.bind_eq_some_iff.mp H
 obtain ⟨t153, A20, H⟩ := H
 have A2 := Asd.mk A20
 clear A20
 have H' := Asd.mk H
 clear H
 go_enter Tryz.func32, Tryz.ntmps32
 go_wp2_with (first | ((with_reducible refine gDs (N := 3) rfl ?_); refine bEv ?hg (N := 3) ?hd (cs := #[.int .i64 0, .int .i64 0]) (t := 66) ?hr ?_; (case hd => rfl); (case hg => rfl); (case hr => first | (go_simp; done) | (go_simp; rfl)); intro gb152 hg w3 hbox hb; have n0_ := Asd.mk (bSt (bX HB.out) hb); have n1_ := Asd.mk (hbox); have n2_ := Asd.mk (zX hg (bX HB.out) : w.heap.size ≤ gb152); have n3_ := Asd.mk (zX hg (bX HB.out) : w.heap.size ≤ gb152); clear HB; have HB := n0_; have BK152 := n1_; have GW152 := n2_; have GE152 := n3_; clear n0_ n1_ n2_ n3_; clear hb hbox hg) | ((with_reducible refine gate_callee (f := 34) rfl ?_); refine goesL_ (some 15) rfl rfl Tryz.func34 (by kernel_rfl) rfl #[.slice A0 l0.length c0, .int .i64 56, .int .i64 2] rfl gX ?_; (with_reducible refine (anvilref02_value.calls k _ _ l0 56 2 t153 _ ?side1 ?side2 A2.out).mono ?_); (case side1 => exact cX HR0.out HB.out); (case side2 => exact HC0.out); rintro e w' ⟨rfl, ⟨nd, rfl⟩⟩; refine ⟨_, rfl, ?_⟩))
 go_loopg [4, 6] k (fun kq v4 v6 w' => ∃ (x4_1 : List (S55)) (x6_1 : Int) (x153000_1 : Int) (x153001_1 : Int), v6 = .int .i64 x6_1 ∧ Asd (anvilref02_program.l0 kq l0 x4_1 (wrap64 (t153)) x6_1 = some (r1, r2, r3)) ∧ Asd (kq ≤ k) ∧ Asd (Kd.S k55 55 w' w.heap.size (fun _ => True) v4 x4_1) ∧ Asd (w'.heap[gb152]? = some (.cells #[.int .i64 x153000_1, .int .i64 x153001_1] 66 (0, 0))) ∧ Asd (Below w.heap.size w w'))
 case atStart => exact ⟨(([] : List (S55))), (0), (0), (0), eX, H', ⟨Nat.le_refl _⟩, ⟨by first | exact Kd.S_nil _ _ _ _ _ | exact Kd.N_nil _ _ _ _ _ | exact Kd.V_nil _ _ _ _ _ | exact Kd.Q_nil _ _ _ _ _ | exact Kd.R_nil _ _ _ _ _⟩, ⟨kX BK152.out⟩, ⟨bX HB.out⟩⟩
 case round =>
  clear H'
  try clear p2
  try clear c3
  obtain ⟨x4_1, x6_1, x153000_1, x153001_1, rfl, HA, HK1, HO_4, BK152, HB⟩ := hrel
  cases gk with
  | zero => exact absurd HA.out (by simp [anvilref02_program.l0])
  | succ k1 =>
   have H := HA.out
   clear HA
   simp only [anvilref02_program.l0] at H
   by_cases c4 : x6_1 < (wrap64 (t153))
   ·rw [if_pos c4] at H
    have c4b0 : decide (x6_1 < (wrap64 (t153))) = true := decide_eq_true c4
    clear c4
    replace H := Option.bind_eq_some_iff.mp H
    obtain ⟨t154, A50, H⟩ := H
    have A5 := Asd.mk A50
    clear A50
    replace H := Option.bind_eq_some_iff.mp H
    obtain ⟨t155, A60, H⟩ := H
    have A6 := Asd.mk A60
    clear A60
    replace H := Option.bind_eq_some_iff.mp H
    obtain ⟨t156, A70, H⟩ := H
    have A7 := Asd.mk A70
    clear A70
    have HC8 := Asd.mk H
    clear H
    go_upto_region 9 with (first | ((with_reducible refine gate_callee (f := 34) rfl ?_); refine goesL_ (some 23) rfl rfl Tryz.func34 (by kernel_rfl) rfl #[.slice A0 l0.length c0, .int .i64 32, .int .i64 8] rfl gX ?_; (with_reducible refine (anvilref02_value.calls k1 _ _ l0 32 8 t154 _ ?side1 ?side2 A5.out).mono ?_); (case side1 => exact cX HR0.out HB.out); (case side2 => exact HC0.out); rintro e w' ⟨rfl, ⟨nd, rfl⟩⟩; refine ⟨_, rfl, ?_⟩) | ((with_reducible refine gate_callee (f := 34) rfl ?_); refine goesL_ (some 31) rfl rfl Tryz.func34 (by kernel_rfl) rfl #[.slice A0 l0.length c0, .int .i64 (wrap64 ((wrap64 ((wrap64 (t154)) + (wrap64 (56 * x6_1)))) + 32)), .int .i64 8] rfl gX ?_; (with_reducible refine (anvilref02_value.calls k1 _ _ l0 (wrap64 ((wrap64 ((wrap64 (t154)) + (wrap64 (56 * x6_1)))) + 32)) 8 t155 _ ?side1 ?side2 A6.out).mono ?_); (case side1 => exact cX HR0.out HB.out); (case side2 => exact HC0.out); rintro e w' ⟨rfl, ⟨nd, rfl⟩⟩; refine ⟨_, rfl, ?_⟩) | ((with_reducible refine gate_callee (f := 34) rfl ?_); refine goesL_ (some 35) rfl rfl Tryz.func34 (by kernel_rfl) rfl #[.slice A0 l0.length c0, .int .i64 (wrap64 ((wrap64 ((wrap64 (t154)) + (wrap64 (56 * x6_1)))) + 40)), .int .i64 8] rfl gX ?_; (with_reducible refine (anvilref02_value.calls k1 _ _ l0 (wrap64 ((wrap64 ((wrap64 (t154)) + (wrap64 (56 * x6_1)))) + 40)) 8 t156 _ ?side1 ?side2 A7.out).mono ?_); (case side1 => exact cX HR0.out HB.out); (case side2 => exact HC0.out); rintro e w' ⟨rfl, ⟨nd, rfl⟩⟩; refine ⟨_, rfl, ?_⟩))
    (try simp only [Act.put, List.setIfInBounds_toArray, List.set_cons_zero, List.set_cons_succ])
    go_cut [47] (fun v47 wc => ∃ (kq : Nat) (x47_7 : Bool), v47 = .bool x47_7 ∧ Asd (anvilref02_program.j1 kq l0 x4_1 (wrap64 (t153)) x6_1 (wrap64 ((wrap64 (t154)) + (wrap64 (56 * x6_1)))) t155 t156 x47_7 = some (r1, r2, r3)) ∧ Asd (kq ≤ k1) ∧ Asd (Kd.S k55 55 wc w.heap.size (fun _ => True) u4 x4_1) ∧ Asd (wc.heap[gb152]? = some (.cells #[.int .i64 x153000_1, .int .i64 x153001_1] 66 (0, 0))) ∧ Asd (Below w.heap.size w wc))
    case first =>
     have H := HC8.out
     clear HC8
     replace H := Option.bind_eq_some_iff.mp H
     obtain ⟨t157, A90, H⟩ := H
     have A9 := Asd.mk A90
     clear A90
     by_cases c10 : t157 = 1
     ·rw [if_pos c10] at H
      have c10b0 : (t157 == 1) = true := beq_iff_eq.mpr c10
      have c10b1 : (t157 != 1) = false := bne_eq_false_iff_eq.mpr c10
      clear c10
      (first | rw [c10b0] | (simp only [i64_w, i32_w]; rw [c10b0]) | rw [c10b1] | skip)
      by_cases c11 : t155 = 0
      ·rw [if_pos c11] at H
       have c11b0 : (t155 == 0) = true := beq_iff_eq.mpr c11
       have c11b1 : (t155 != 0) = false := bne_eq_false_iff_eq.mpr c11
       clear c11
       have H' := Asd.mk H
       clear H
       go_wp2_with (first | ((with_reducible refine gate_callee (f := 34) rfl ?_); refine goesL_ (some 38) rfl rfl Tryz.func34 (by kernel_rfl) rfl #[.slice A0 l0.length c0, .int .i64 (wrap64 ((wrap64 (t154)) + (wrap64 (56 * x6_1)))), .int .i64 4] rfl gX ?_; (with_reducible refine (anvilref02_value.calls k1 _ _ l0 (wrap64 ((wrap64 (t154)) + (wrap64 (56 * x6_1)))) 4 t157 _ ?side1 ?side2 A9.out).mono ?_); (case side1 => exact cX HR0.out HB.out); (case side2 => exact HC0.out); rintro e w' ⟨rfl, ⟨nd, rfl⟩⟩; refine ⟨_, rfl, ?_⟩))
       go_meet
       case rel => exact ⟨_, ((t156 == 0)), eX, H', ⟨by have := HK1.out; first | omega | exact Nat.le_refl _⟩, ⟨by (with_reducible repeat (first | apply Kd.S_alloc | apply Kd.S_drewN | apply Kd.S_drew)); exact HO_4.out⟩, ⟨kX BK152.out⟩, ⟨bX HB.out⟩⟩
      ·rw [if_neg c11] at H
       have c11b0 : (t155 == 0) = false := beq_eq_false_iff_ne.mpr c11
       have c11b1 : (t155 != 0) = true := bne_iff_ne.mpr c11
       have H' := Asd.mk H
       clear H
       go_wp2_with (first | ((with_reducible refine gate_callee (f := 34) rfl ?_); refine goesL_ (some 38) rfl rfl Tryz.func34 (by kernel_rfl) rfl #[.slice A0 l0.length c0, .int .i64 (wrap64 ((wrap64 (t154)) + (wrap64 (56 * x6_1)))), .int .i64 4] rfl gX ?_; (with_reducible refine (anvilref02_value.calls k1 _ _ l0 (wrap64 ((wrap64 (t154)) + (wrap64 (56 * x6_1)))) 4 t157 _ ?side1 ?side2 A9.out).mono ?_); (case side1 => exact cX HR0.out HB.out); (case side2 => exact HC0.out); rintro e w' ⟨rfl, ⟨nd, rfl⟩⟩; refine ⟨_, rfl, ?_⟩))
       go_meet
       case rel => exact ⟨_, (false), eX, H', ⟨by have := HK1.out; first | omega | exact Nat.le_refl _⟩, ⟨by (with_reducible repeat (first | apply Kd.S_alloc | apply Kd.S_drewN | apply Kd.S_drew)); exact HO_4.out⟩, ⟨kX BK152.out⟩, ⟨bX HB.out⟩⟩
     ·rw [if_neg c10] at H
      have c10b0 : (t157 == 1) = false := beq_eq_false_iff_ne.mpr c10
      have c10b1 : (t157 != 1) = true := bne_iff_ne.mpr c10
      (first | rw [c10b0] | (simp only [i64_w, i32_w]; rw [c10b0]) | rw [c10b1] | skip)
      have H' := Asd.mk H
      clear H
      go_wp2_with (first | ((with_reducible refine gate_callee (f := 34) rfl ?_); refine goesL_ (some 38) rfl rfl Tryz.func34 (by kernel_rfl) rfl #[.slice A0 l0.length c0, .int .i64 (wrap64 ((wrap64 (t154)) + (wrap64 (56 * x6_1)))), .int .i64 4] rfl gX ?_; (with_reducible refine (anvilref02_value.calls k1 _ _ l0 (wrap64 ((wrap64 (t154)) + (wrap64 (56 * x6_1)))) 4 t157 _ ?side1 ?side2 A9.out).mono ?_); (case side1 => exact cX HR0.out HB.out); (case side2 => exact HC0.out); rintro e w' ⟨rfl, ⟨nd, rfl⟩⟩; refine ⟨_, rfl, ?_⟩))
      go_meet
      case rel => exact ⟨_, (true), eX, H', ⟨by have := HK1.out; first | omega | exact Nat.le_refl _⟩, ⟨by (with_reducible repeat (first | apply Kd.S_alloc | apply Kd.S_drewN | apply Kd.S_drew)); exact HO_4.out⟩, ⟨kX BK152.out⟩, ⟨bX HB.out⟩⟩
    case rest =>
     clear HC8
     try clear c1
     try clear p2
     try clear c3
     try clear c4
     try clear c4b0
     try clear p6
     try clear c10
     try clear c10b0
     try clear c10b1
     try clear c11
     try clear c11b0
     try clear c11b1
     try clear p2
     obtain ⟨kq, x47_7, rfl, HA, HJ7, HO_4, BK152, HB⟩ := hcut
     cases kq with
     | zero => exact absurd HA.out (by simp [anvilref02_program.j1])
     | succ kj7 =>
      have H := HA.out
      clear HA
      simp only [anvilref02_program.j1] at H
      by_cases c12 : x47_7 = true
      ·subst c12
       have H1 : (anvilref02_program.l0 kj7 l0 x4_1 (wrap64 (t153)) (wrap64 (x6_1 + 1))) = some (r1, r2, r3) := by rw [if_pos rfl] at H; exact H
       clear H
       have H := H1
       clear H1
       have H' := Asd.mk H
       clear H
       go_wp2
       go_roundg kj7
       case measure => have := HK1.out; have := HJ7.out; omega
       case rel => exact ⟨(x4_1), (wrap64 (x6_1 + 1)), (x153000_1), (x153001_1), eX, H', ⟨by have := HK1.out; have := HJ7.out; omega⟩, ⟨by (with_reducible repeat (first | apply Kd.S_alloc | apply Kd.S_drewN | apply Kd.S_drew)); exact HO_4.out⟩, ⟨kX BK152.out⟩, ⟨bX HB.out⟩⟩
      ·replace c12 := Bool.eq_false_iff.mpr c12
       subst c12
       have H1 : ((anvilref02_value.f kj7 l0 (wrap64 ((wrap64 ((wrap64 (t154)) + (wrap64 (56 * x6_1)))) + 4)) 4).bind fun t158 => (if t158 > 7 then (some (([] : List (S55)), wrap64 ((wrap64 ((wrap64 (t154)) + (wrap64 (56 * x6_1)))) + 4), 23)) else (if t155 > t156 then (some (([] : List (S55)), wrap64 ((wrap64 ((wrap64 (t154)) + (wrap64 (56 * x6_1)))) + 32), 23)) else ((anvilref02_value.f kj7 l0 (wrap64 ((wrap64 ((wrap64 (t154)) + (wrap64 (56 * x6_1)))) + 8)) 8).bind fun t159 => ((anvilref02_room.f l0 t159 t155).bind fun t160 => (if t160 = true then ((anvilref02_value.f kj7 l0 (wrap64 ((wrap64 ((wrap64 (t154)) + (wrap64 (56 * x6_1)))) + 24)) 8).bind fun t161 => ((anvilref02_value.f kj7 l0 (wrap64 ((wrap64 ((wrap64 (t154)) + (wrap64 (56 * x6_1)))) + 4)) 4).bind fun t162 => ((anvilref02_flags.f t162).bind fun t163 => ((anvilref02_last.f t161 t156).bind fun bt165 => (if bt165.2 = true then ((anvilref02_meets.f kj7 x4_1 t161 t156 t163 ([] : List Int)).bind fun t167 => (if t167 = true then (some (([] : List (S55)), wrap64 ((wrap64 ((wrap64 (t154)) + (wrap64 (56 * x6_1)))) + 24), 24)) else (if 0 ≤ t159 then (if t159 ≤ (IntKind.u64.wrap (t159 + t155)) then (if (IntKind.u64.wrap (t159 + t155)) ≤ (l0.length : Int) then (if ([] : List Int).length + ((l0.take ((IntKind.u64.wrap (t159 + t155)) : Int).toNat).drop (t159 : Int).toNat).length < 140737488355328 then (if x4_1.length < 2932031007402 then (anvilref02_program.l0 kj7 l0 (x4_1 ++ [(⟨t161, t156, t163, (([] : List Int) ++ ((l0.take ((IntKind.u64.wrap (t159 + t155)) : Int).toNat).drop (t159 : Int).toNat))⟩ : S55)]) (wrap64 (t153)) (wrap64 (x6_1 + 1))) else (none)) else (none)) else (none)) else (none)) else (none)))) else (some (([] : List (S55)), wrap64 ((wrap64 ((wrap64 (t154)) + (wrap64 (56 * x6_1)))) + 24), 23))))))) else (some (([] : List (S55)), wrap64 ((wrap64 ((wrap64 (t154)) + (wrap64 (56 * x6_1)))) + 8), 20)))))))) = some (r1, r2, r3) := by rw [if_neg (show ¬ (false = true) by decide)] at H; exact H
       clear H
       have H := H1
       clear H1
       replace H := Option.bind_eq_some_iff.mp H
       obtain ⟨t158, A130, H⟩ := H
       have A13 := Asd.mk A130
       clear A130
       by_cases c14 : t158 > 7
       ·rw [if_pos c14] at H
        have c14b0 : decide (7 < t158) = true := decide_eq_true c14
        clear c14
        simp only [Option.some.injEq, Prod.mk.injEq] at H
        obtain ⟨rfl, rfl, rfl⟩ := H
        go_wp2_with (first | ((with_reducible refine gate_callee (f := 34) rfl ?_); refine goesL_ (some 51) rfl rfl Tryz.func34 (by kernel_rfl) rfl #[.slice A0 l0.length c0, .int .i64 (wrap64 ((wrap64 ((wrap64 (t154)) + (wrap64 (56 * x6_1)))) + 4)), .int .i64 4] rfl gX ?_; (with_reducible refine (anvilref02_value.calls kj7 _ _ l0 (wrap64 ((wrap64 ((wrap64 (t154)) + (wrap64 (56 * x6_1)))) + 4)) 4 t158 _ ?side1 ?side2 A13.out).mono ?_); (case side1 => exact cX HR0.out HB.out); (case side2 => exact HC0.out); rintro e w' ⟨rfl, ⟨nd, rfl⟩⟩; refine ⟨_, rfl, ?_⟩; skip; have hcz15_0 : wc.cell? ⟨gb152, 0, none⟩ = some (.int .i64 x153000_1) := (kCe BK152.out 0).trans rfl; have hcz15_1 : wc.cell? ⟨gb152, 1, none⟩ = some (.int .i64 x153001_1) := (kCe BK152.out 1).trans rfl; have hfz15_0 := kFr BK152.out 0; have hfz15_1 := kFr BK152.out 1))
        refine bodyPost_ret (results_tc rfl _ _ gb152 66 #[.int .i64 (wrap64 ((wrap64 ((wrap64 (t154)) + (wrap64 (56 * x6_1)))) + 4)), .int .i64 23] (0, 0) _ rfl (by (with_reducible repeat (first | refine kDn ?_ _ | refine kDr ?_ | refine kAl ?_ _)); refine kPu (cs := #[.int .i64 (wrap64 ((wrap64 ((wrap64 (t154)) + (wrap64 (56 * x6_1)))) + 4)), .int .i64 x153001_1]) ?_ 1 _ rfl; (with_reducible repeat (first | refine kDn ?_ _ | refine kDr ?_ | refine kAl ?_ _)); refine kPu (cs := #[.int .i64 x153000_1, .int .i64 x153001_1]) ?_ 0 _ rfl; (with_reducible repeat (first | refine kDn ?_ _ | refine kDr ?_ | refine kAl ?_ _)); exact BK152.out) Tryz.underlying66 rfl (by kernel_rfl)) rfl ?_
        exact ⟨_, rX, by first | exact Kd.S_nil _ _ _ _ _ | exact Kd.N_nil _ _ _ _ _ | exact Kd.V_nil _ _ _ _ _ | exact Kd.Q_nil _ _ _ _ _ | exact Kd.R_nil _ _ _ _ _, bX HB.out⟩
       ·rw [if_neg c14] at H
        have c14b0 : decide (7 < t158) = false := decide_eq_false c14
        clear c14
        by_cases c16 : t155 > t156
        ·rw [if_pos c16] at H
         have c16b0 : decide (t156 < t155) = true := decide_eq_true c16
         clear c16
         simp only [Option.some.injEq, Prod.mk.injEq] at H
         obtain ⟨rfl, rfl, rfl⟩ := H
         go_wp2_with (first | ((with_reducible refine gate_callee (f := 34) rfl ?_); refine goesL_ (some 51) rfl rfl Tryz.func34 (by kernel_rfl) rfl #[.slice A0 l0.length c0, .int .i64 (wrap64 ((wrap64 ((wrap64 (t154)) + (wrap64 (56 * x6_1)))) + 4)), .int .i64 4] rfl gX ?_; (with_reducible refine (anvilref02_value.calls kj7 _ _ l0 (wrap64 ((wrap64 ((wrap64 (t154)) + (wrap64 (56 * x6_1)))) + 4)) 4 t158 _ ?side1 ?side2 A13.out).mono ?_); (case side1 => exact cX HR0.out HB.out); (case side2 => exact HC0.out); rintro e w' ⟨rfl, ⟨nd, rfl⟩⟩; refine ⟨_, rfl, ?_⟩; skip; have hcz17_0 : wc.cell? ⟨gb152, 0, none⟩ = some (.int .i64 x153000_1) := (kCe BK152.out 0).trans rfl; have hcz17_1 : wc.cell? ⟨gb152, 1, none⟩ = some (.int .i64 x153001_1) := (kCe BK152.out 1).trans rfl; have hfz17_0 := kFr BK152.out 0; have hfz17_1 := kFr BK152.out 1))
         refine bodyPost_ret (results_tc rfl _ _ gb152 66 #[.int .i64 (wrap64 ((wrap64 ((wrap64 (t154)) + (wrap64 (56 * x6_1)))) + 32)), .int .i64 23] (0, 0) _ rfl (by (with_reducible repeat (first | refine kDn ?_ _ | refine kDr ?_ | refine kAl ?_ _)); refine kPu (cs := #[.int .i64 (wrap64 ((wrap64 ((wrap64 (t154)) + (wrap64 (56 * x6_1)))) + 32)), .int .i64 x153001_1]) ?_ 1 _ rfl; (with_reducible repeat (first | refine kDn ?_ _ | refine kDr ?_ | refine kAl ?_ _)); refine kPu (cs := #[.int .i64 x153000_1, .int .i64 x153001_1]) ?_ 0 _ rfl; (with_reducible repeat (first | refine kDn ?_ _ | refine kDr ?_ | refine kAl ?_ _)); exact BK152.out) Tryz.underlying66 rfl (by kernel_rfl)) rfl ?_
         exact ⟨_, rX, by first | exact Kd.S_nil _ _ _ _ _ | exact Kd.N_nil _ _ _ _ _ | exact Kd.V_nil _ _ _ _ _ | exact Kd.Q_nil _ _ _ _ _ | exact Kd.R_nil _ _ _ _ _, bX HB.out⟩
        ·rw [if_neg c16] at H
         have c16b0 : decide (t156 < t155) = false := decide_eq_false c16
         clear c16
         replace H := Option.bind_eq_some_iff.mp H
         obtain ⟨t159, A180, H⟩ := H
         have A18 := Asd.mk A180
         clear A180
         replace H := Option.bind_eq_some_iff.mp H
         obtain ⟨t160, A190, H⟩ := H
         have A19 := Asd.mk A190
         clear A190
         by_cases c20 : t160 = true
         ·subst c20
          have H1 : ((anvilref02_value.f kj7 l0 (wrap64 ((wrap64 ((wrap64 (t154)) + (wrap64 (56 * x6_1)))) + 24)) 8).bind fun t161 => ((anvilref02_value.f kj7 l0 (wrap64 ((wrap64 ((wrap64 (t154)) + (wrap64 (56 * x6_1)))) + 4)) 4).bind fun t162 => ((anvilref02_flags.f t162).bind fun t163 => ((anvilref02_last.f t161 t156).bind fun bt165 => (if bt165.2 = true then ((anvilref02_meets.f kj7 x4_1 t161 t156 t163 ([] : List Int)).bind fun t167 => (if t167 = true then (some (([] : List (S55)), wrap64 ((wrap64 ((wrap64 (t154)) + (wrap64 (56 * x6_1)))) + 24), 24)) else (if 0 ≤ t159 then (if t159 ≤ (IntKind.u64.wrap (t159 + t155)) then (if (IntKind.u64.wrap (t159 + t155)) ≤ (l0.length : Int) then (if ([] : List Int).length + ((l0.take ((IntKind.u64.wrap (t159 + t155)) : Int).toNat).drop (t159 : Int).toNat).length < 140737488355328 then (if x4_1.length < 2932031007402 then (anvilref02_program.l0 kj7 l0 (x4_1 ++ [(⟨t161, t156, t163, (([] : List Int) ++ ((l0.take ((IntKind.u64.wrap (t159 + t155)) : Int).toNat).drop (t159 : Int).toNat))⟩ : S55)]) (wrap64 (t153)) (wrap64 (x6_1 + 1))) else (none)) else (none)) else (none)) else (none)) else (none)))) else (some (([] : List (S55)), wrap64 ((wrap64 ((wrap64 (t154)) + (wrap64 (56 * x6_1)))) + 24), 23))))))) = some (r1, r2, r3) := by rw [if_pos rfl] at H; exact H
          clear H
          have H := H1
          clear H1
          replace H := Option.bind_eq_some_iff.mp H
          obtain ⟨t161, A210, H⟩ := H
          have A21 := Asd.mk A210
          clear A210
          replace H := Option.bind_eq_some_iff.mp H
          obtain ⟨t162, A220, H⟩ := H
          have A22 := Asd.mk A220
          clear A220
          replace H := Option.bind_eq_some_iff.mp H
          obtain ⟨t163, A230, H⟩ := H
          have A23 := Asd.mk A230
          clear A230
          replace H := Option.bind_eq_some_iff.mp H
          obtain ⟨⟨t165, t166⟩, A240, H⟩ := H
          have A24 := Asd.mk A240
          clear A240
          by_cases c25 : t166 = true
          ·subst c25
           have H1 : ((anvilref02_meets.f kj7 x4_1 t161 t156 t163 ([] : List Int)).bind fun t167 => (if t167 = true then (some (([] : List (S55)), wrap64 ((wrap64 ((wrap64 (t154)) + (wrap64 (56 * x6_1)))) + 24), 24)) else (if 0 ≤ t159 then (if t159 ≤ (IntKind.u64.wrap (t159 + t155)) then (if (IntKind.u64.wrap (t159 + t155)) ≤ (l0.length : Int) then (if ([] : List Int).length + ((l0.take ((IntKind.u64.wrap (t159 + t155)) : Int).toNat).drop (t159 : Int).toNat).length < 140737488355328 then (if x4_1.length < 2932031007402 then (anvilref02_program.l0 kj7 l0 (x4_1 ++ [(⟨t161, t156, t163, (([] : List Int) ++ ((l0.take ((IntKind.u64.wrap (t159 + t155)) : Int).toNat).drop (t159 : Int).toNat))⟩ : S55)]) (wrap64 (t153)) (wrap64 (x6_1 + 1))) else (none)) else (none)) else (none)) else (none)) else (none)))) = some (r1, r2, r3) := by rw [if_pos rfl] at H; exact H
           clear H
           have H := H1
           clear H1
           replace H := Option.bind_eq_some_iff.mp H
           obtain ⟨t167, A260, H⟩ := H
           have A26 := Asd.mk A260
           clear A260
           by_cases c27 : t167 = true
           ·subst c27
            have H1 : (some (([] : List (S55)), wrap64 ((wrap64 ((wrap64 (t154)) + (wrap64 (56 * x6_1)))) + 24), 24)) = some (r1, r2, r3) := by rw [if_pos rfl] at H; exact H
            clear H
            have H := H1
            clear H1
            simp only [Option.some.injEq, Prod.mk.injEq] at H
            obtain ⟨rfl, rfl, rfl⟩ := H
            go_wp2_with (first | ((with_reducible refine gate_callee (f := 34) rfl ?_); refine goesL_ (some 51) rfl rfl Tryz.func34 (by kernel_rfl) rfl #[.slice A0 l0.length c0, .int .i64 (wrap64 ((wrap64 ((wrap64 (t154)) + (wrap64 (56 * x6_1)))) + 4)), .int .i64 4] rfl gX ?_; (with_reducible refine (anvilref02_value.calls kj7 _ _ l0 (wrap64 ((wrap64 ((wrap64 (t154)) + (wrap64 (56 * x6_1)))) + 4)) 4 t158 _ ?side1 ?side2 A13.out).mono ?_); (case side1 => exact cX HR0.out HB.out); (case side2 => exact HC0.out); rintro e w' ⟨rfl, ⟨nd, rfl⟩⟩; refine ⟨_, rfl, ?_⟩; skip) | ((with_reducible refine gate_callee (f := 34) rfl ?_); refine goesL_ (some 65) rfl rfl Tryz.func34 (by kernel_rfl) rfl #[.slice A0 l0.length c0, .int .i64 (wrap64 ((wrap64 ((wrap64 (t154)) + (wrap64 (56 * x6_1)))) + 8)), .int .i64 8] rfl gX ?_; (with_reducible refine (anvilref02_value.calls kj7 _ _ l0 (wrap64 ((wrap64 ((wrap64 (t154)) + (wrap64 (56 * x6_1)))) + 8)) 8 t159 _ ?side1 ?side2 A18.out).mono ?_); (case side1 => exact cX HR0.out HB.out); (case side2 => exact HC0.out); rintro e w' ⟨rfl, ⟨nd, rfl⟩⟩; refine ⟨_, rfl, ?_⟩; skip) | ((with_reducible refine gate_callee (f := 62) rfl ?_); refine goesL_ (some 69) rfl rfl Tryz.func62 (by kernel_rfl) rfl #[.slice A0 l0.length c0, .int .u64 t159, .int .u64 t155] rfl gX ?_; (with_reducible refine (anvilref02_room.calls _ _ l0 t159 t155 true _ ?side1 ?side2 A19.out).mono ?_); (case side1 => exact cX HR0.out HB.out); (case side2 => exact HC0.out); rintro e w' ⟨rfl, ⟨nd, rfl⟩⟩; refine ⟨_, rfl, ?_⟩; skip) | ((with_reducible refine gate_callee (f := 34) rfl ?_); refine goesL_ (some 77) rfl rfl Tryz.func34 (by kernel_rfl) rfl #[.slice A0 l0.length c0, .int .i64 (wrap64 ((wrap64 ((wrap64 (t154)) + (wrap64 (56 * x6_1)))) + 24)), .int .i64 8] rfl gX ?_; (with_reducible refine (anvilref02_value.calls kj7 _ _ l0 (wrap64 ((wrap64 ((wrap64 (t154)) + (wrap64 (56 * x6_1)))) + 24)) 8 t161 _ ?side1 ?side2 A21.out).mono ?_); (case side1 => exact cX HR0.out HB.out); (case side2 => exact HC0.out); rintro e w' ⟨rfl, ⟨nd, rfl⟩⟩; refine ⟨_, rfl, ?_⟩; skip) | ((with_reducible refine gate_callee (f := 34) rfl ?_); refine goesL_ (some 82) rfl rfl Tryz.func34 (by kernel_rfl) rfl #[.slice A0 l0.length c0, .int .i64 (wrap64 ((wrap64 ((wrap64 (t154)) + (wrap64 (56 * x6_1)))) + 4)), .int .i64 4] rfl gX ?_; (with_reducible refine (anvilref02_value.calls kj7 _ _ l0 (wrap64 ((wrap64 ((wrap64 (t154)) + (wrap64 (56 * x6_1)))) + 4)) 4 t162 _ ?side1 ?side2 A22.out).mono ?_); (case side1 => exact cX HR0.out HB.out); (case side2 => exact HC0.out); rintro e w' ⟨rfl, ⟨nd, rfl⟩⟩; refine ⟨_, rfl, ?_⟩; skip) | ((with_reducible refine gate_callee (f := 63) rfl ?_); refine goesL_ (some 83) rfl rfl Tryz.func63 (by kernel_rfl) rfl #[.int .u64 t162] rfl gX ?_; (with_reducible refine (anvilref02_flags.calls t162 t163 _ A23.out).mono ?_); rintro e w' ⟨rfl, ⟨nd, rfl⟩⟩; refine ⟨_, rfl, ?_⟩; skip) | ((with_reducible refine gDs (N := 11) rfl ?_); refine bEv ?hg (N := 11) ?hd (cs := #[.int .u64 0, .int .u64 0, .int .i64 0, .slice none 0 0]) (t := 55) ?hr ?_; (case hd => rfl); (case hg => rfl); (case hr => first | (go_simp; done) | (go_simp; rfl)); intro gb164 hg w28 hbox hb; have n0_ := Asd.mk (Kd.S_below (Kd.S_elderB (kSX HO_4.out) gb164 (Nat.le_of_eq hg.symm)) hb); have n1_ := Asd.mk (kBe (g := gb152) (o := .cells #[.int .i64 x153000_1, .int .i64 x153001_1] 66 (0, 0)) (kX BK152.out) hb); have n2_ := Asd.mk (bSt (bX HB.out) hb); have n3_ := Asd.mk (hbox); have n4_ := Asd.mk (zX hg (bX HB.out) : w.heap.size ≤ gb164); have n5_ := Asd.mk (zX hg (bX HB.out) : w.heap.size ≤ gb164); have n6_ := Asd.mk ((by rw [hg]; exact Nat.ne_of_lt (blk_lt (g := gb152) (o := .cells #[.int .i64 x153000_1, .int .i64 x153001_1] 66 (0, 0)) (kX BK152.out)) : gb152 ≠ gb164)); have n7_ := Asd.mk ((by rw [hg]; exact Nat.ne_of_gt (blk_lt (g := gb152) (o := .cells #[.int .i64 x153000_1, .int .i64 x153001_1] 66 (0, 0)) (kX BK152.out)) : gb164 ≠ gb152)); clear HO_4; clear BK152; clear HB; have HO_4 := n0_; have BK152 := n1_; have HB := n2_; have BK164 := n3_; have GW164 := n4_; have GE164 := n5_; have NB152_164 := n6_; have NB164_152 := n7_; clear n0_ n1_ n2_ n3_ n4_ n5_ n6_ n7_; clear hb hbox hg; have hnb29 := NB164_152.out; have hnc29 := NB152_164.out; have hcz30_0 : w28.cell? ⟨gb164, 0, none⟩ = some (.int .u64 0) := (kCe BK164.out 0).trans rfl; have hcz30_1 : w28.cell? ⟨gb164, 1, none⟩ = some (.int .u64 0) := (kCe BK164.out 1).trans rfl; have hcz30_2 : w28.cell? ⟨gb164, 2, none⟩ = some (.int .i64 0) := (kCe BK164.out 2).trans rfl; have hcz30_3 : w28.cell? ⟨gb164, 3, none⟩ = some (.slice none 0 0) := (kCe BK164.out 3).trans rfl; have hfz30_0 := kFr BK164.out 0; have hfz30_1 := kFr BK164.out 1; have hfz30_2 := kFr BK164.out 2; have hfz30_3 := kFr BK164.out 3) | ((with_reducible refine gate_callee (f := 64) rfl ?_); refine goesL_ (some 90) rfl rfl Tryz.func64 (by kernel_rfl) rfl #[.int .u64 t161, .int .u64 t156] rfl gX ?_; (with_reducible refine (anvilref02_last.calls t161 t156 t165 true _ A24.out).mono ?_); rintro e w' ⟨rfl, ⟨nd, rfl⟩⟩; refine ⟨_, rfl, ?_⟩; obtain ⟨Ao31, co31, eo31⟩ := Kd.S_slice HO_4.out; subst eo31) | ((with_reducible refine gate_callee (f := 65) rfl ?_); refine goesL_ (some 100) rfl rfl Tryz.func65 (by kernel_rfl) rfl #[.slice Ao31 x4_1.length co31, .agg #[.int .u64 t161, .int .u64 t156, .int .i64 t163, .slice none 0 0]] rfl gX ?_; (refine (anvilref02_meets.calls kj7 _ _ x4_1 t161 t156 t163 _ _ ([] : List Int) true _ ?side1 ?side2 ?side3 ?side4 A26.out).mono ?_); (case side1 => refine (Kd.S_reads' (e := 55) (base := w.heap.size) (ok := fun k_ => (True ∧ k_ ≠ gb164)) (n := x4_1.length) (c := co31) ?_).2.2; exact (by (with_reducible repeat (first | apply Kd.S_alloc | apply Kd.S_drewN | apply Kd.S_drew)); exact (Kd.S_mono (Kd.S_far (p := ⟨gb164, 3, none⟩) (Kd.S_far (p := ⟨gb164, 2, none⟩) (Kd.S_far (p := ⟨gb164, 1, none⟩) (Kd.S_far (p := ⟨gb164, 0, none⟩) (Kd.S_mono HO_4.out (fun k_ hk => (⟨hk, hk.2⟩ : _ ∧ k_ ≠ gb164))) (fun _ hk => hk.2) (.int .u64 t161)) (fun _ hk => hk.2) (.int .u64 t156)) (fun _ hk => hk.2) (.int .i64 t163)) (fun _ hk => hk.2) (.slice none 0 0)) (fun _ h_ => h_.1)))); (case side2 => exact (Kd.S_reads' HO_4.out).2.1); (case side3 => exact Kd.C_nil _ _); (case side4 => exact Nat.le_refl _); rintro e w32 ⟨rfl, hb⟩; refine ⟨_, rfl, ?_⟩; have n0_ := Asd.mk (Kd.S_below (by (with_reducible repeat (first | apply Kd.S_alloc | apply Kd.S_drewN | apply Kd.S_drew)); exact (Kd.S_mono (Kd.S_far (p := ⟨gb164, 3, none⟩) (Kd.S_far (p := ⟨gb164, 2, none⟩) (Kd.S_far (p := ⟨gb164, 1, none⟩) (Kd.S_far (p := ⟨gb164, 0, none⟩) (Kd.S_mono HO_4.out (fun k_ hk => (⟨hk, hk.2⟩ : _ ∧ k_ ≠ gb164))) (fun _ hk => hk.2) (.int .u64 t161)) (fun _ hk => hk.2) (.int .u64 t156)) (fun _ hk => hk.2) (.int .i64 t163)) (fun _ hk => hk.2) (.slice none 0 0)) (fun _ h_ => h_.1))) hb); have n1_ := Asd.mk (kBe (g := gb152) (o := .cells #[.int .i64 x153000_1, .int .i64 x153001_1] 66 (0, 0)) (fX BK152.out) hb); have n2_ := Asd.mk (kBe (g := gb164) (o := .cells #[.int .u64 t161, .int .u64 t156, .int .i64 t163, .slice none 0 0] 55 (0, 0)) (by (with_reducible repeat (first | refine kDn ?_ _ | refine kDr ?_ | refine kAl ?_ _)); refine kPu (cs := #[.int .u64 t161, .int .u64 t156, .int .i64 t163, .slice none 0 0]) ?_ 3 _ rfl; (with_reducible repeat (first | refine kDn ?_ _ | refine kDr ?_ | refine kAl ?_ _)); refine kPu (cs := #[.int .u64 t161, .int .u64 t156, .int .i64 0, .slice none 0 0]) ?_ 2 _ rfl; (with_reducible repeat (first | refine kDn ?_ _ | refine kDr ?_ | refine kAl ?_ _)); refine kPu (cs := #[.int .u64 t161, .int .u64 0, .int .i64 0, .slice none 0 0]) ?_ 1 _ rfl; (with_reducible repeat (first | refine kDn ?_ _ | refine kDr ?_ | refine kAl ?_ _)); refine kPu (cs := #[.int .u64 0, .int .u64 0, .int .i64 0, .slice none 0 0]) ?_ 0 _ rfl; (with_reducible repeat (first | refine kDn ?_ _ | refine kDr ?_ | refine kAl ?_ _)); exact BK164.out) hb); have n3_ := Asd.mk (bSt (bX HB.out) hb); clear HO_4; clear BK152; clear BK164; clear HB; have HO_4 := n0_; have BK152 := n1_; have BK164 := n2_; have HB := n3_; clear n0_ n1_ n2_ n3_; (try clear hb); (try clear hb2); (try clear hk); (try clear hi); have hcz33_0 : w32.cell? ⟨gb152, 0, none⟩ = some (.int .i64 x153000_1) := (kCe BK152.out 0).trans rfl; have hcz33_1 : w32.cell? ⟨gb152, 1, none⟩ = some (.int .i64 x153001_1) := (kCe BK152.out 1).trans rfl; have hfz33_0 := kFr BK152.out 0; have hfz33_1 := kFr BK152.out 1))
            refine bodyPost_ret (results_tc rfl _ _ gb152 66 #[.int .i64 (wrap64 ((wrap64 ((wrap64 (t154)) + (wrap64 (56 * x6_1)))) + 24)), .int .i64 24] (0, 0) _ rfl (by (with_reducible repeat (first | refine kDn ?_ _ | refine kDr ?_ | refine kAl ?_ _)); refine kPu (cs := #[.int .i64 (wrap64 ((wrap64 ((wrap64 (t154)) + (wrap64 (56 * x6_1)))) + 24)), .int .i64 x153001_1]) ?_ 1 _ rfl; (with_reducible repeat (first | refine kDn ?_ _ | refine kDr ?_ | refine kAl ?_ _)); refine kPu (cs := #[.int .i64 x153000_1, .int .i64 x153001_1]) ?_ 0 _ rfl; (with_reducible repeat (first | refine kDn ?_ _ | refine kDr ?_ | refine kAl ?_ _)); exact BK152.out) Tryz.underlying66 rfl (by kernel_rfl)) rfl ?_
            exact ⟨_, rX, by first | exact Kd.S_nil _ _ _ _ _ | exact Kd.N_nil _ _ _ _ _ | exact Kd.V_nil _ _ _ _ _ | exact Kd.Q_nil _ _ _ _ _ | exact Kd.R_nil _ _ _ _ _, bX HB.out⟩
           ·replace c27 := Bool.eq_false_iff.mpr c27
            subst c27
            have H1 : (if 0 ≤ t159 then (if t159 ≤ (IntKind.u64.wrap (t159 + t155)) then (if (IntKind.u64.wrap (t159 + t155)) ≤ (l0.length : Int) then (if ([] : List Int).length + ((l0.take ((IntKind.u64.wrap (t159 + t155)) : Int).toNat).drop (t159 : Int).toNat).length < 140737488355328 then (if x4_1.length < 2932031007402 then (anvilref02_program.l0 kj7 l0 (x4_1 ++ [(⟨t161, t156, t163, (([] : List Int) ++ ((l0.take ((IntKind.u64.wrap (t159 + t155)) : Int).toNat).drop (t159 : Int).toNat))⟩ : S55)]) (wrap64 (t153)) (wrap64 (x6_1 + 1))) else (none)) else (none)) else (none)) else (none)) else (none)) = some (r1, r2, r3) := by rw [if_neg (show ¬ (false = true) by decide)] at H; exact H
            clear H
            have H := H1
            clear H1
            by_cases c34 : 0 ≤ t159
            ·rw [if_pos c34] at H
             have c34b0 := eq_true c34
             have c34b1 : decide (0 ≤ t159) = true := decide_eq_true c34
             clear c34
             by_cases c35 : t159 ≤ (IntKind.u64.wrap (t159 + t155))
             ·rw [if_pos c35] at H
              have c35b0 := eq_true c35
              have c35b1 : decide (t159 ≤ (IntKind.u64.wrap (t159 + t155))) = true := decide_eq_true c35
              by_cases c36 : (IntKind.u64.wrap (t159 + t155)) ≤ (l0.length : Int)
              ·rw [if_pos c36] at H
               have c36b0 := eq_true c36
               have c36b1 : decide ((IntKind.u64.wrap (t159 + t155)) ≤ (l0.length : Int)) = true := decide_eq_true c36
               by_cases c37 : ([] : List Int).length + ((l0.take ((IntKind.u64.wrap (t159 + t155)) : Int).toNat).drop (t159 : Int).toNat).length < 140737488355328
               ·rw [if_pos c37] at H
                have LMc37 := Asd.mk c37
                clear c37
                obtain ⟨y169, hy169⟩ : ∃ y_ : List Int, y_ = (([] : List Int) ++ ((l0.take ((IntKind.u64.wrap (t159 + t155)) : Int).toNat).drop (t159 : Int).toNat)) := ⟨_, rfl⟩
                replace H : (if x4_1.length < 2932031007402 then (anvilref02_program.l0 kj7 l0 (x4_1 ++ [(⟨t161, t156, t163, y169⟩ : S55)]) (wrap64 (t153)) (wrap64 (x6_1 + 1))) else (none)) = some (r1, r2, r3) := by first | (rw [hy169]; with_reducible exact H) | (have H2_ := (Option.bind_some _ _).symm.trans H; rw [hy169]; with_reducible exact H2_) | (have H2_ := (Option.bind_some _ _).symm.trans H; with_reducible exact H2_) | with_reducible exact H | (rw [hy169]; exact H) | exact H
                have Ny169 := Asd.mk hy169
                clear hy169
                by_cases c38 : x4_1.length < 2932031007402
                ·rw [if_pos c38] at H
                 have LMc38 := Asd.mk c38
                 clear c38
                 obtain ⟨y172, hy172⟩ : ∃ y_ : List (S55), y_ = (x4_1 ++ [(⟨t161, t156, t163, y169⟩ : S55)]) := ⟨_, rfl⟩
                 replace H : (anvilref02_program.l0 kj7 l0 y172 (wrap64 (t153)) (wrap64 (x6_1 + 1))) = some (r1, r2, r3) := by first | (rw [hy172]; with_reducible exact H) | (have H2_ := (Option.bind_some _ _).symm.trans H; rw [hy172]; with_reducible exact H2_) | (have H2_ := (Option.bind_some _ _).symm.trans H; with_reducible exact H2_) | with_reducible exact H | (rw [hy172]; exact H) | exact H
                 have Ny172 := Asd.mk hy172
                 clear hy172
                 have H' := Asd.mk H
                 clear H
                 try go_wp2_with (first | ((with_reducible refine gate_callee (f := 34) rfl ?_); refine goesL_ (some 51) rfl rfl Tryz.func34 (by kernel_rfl) rfl #[.slice A0 l0.length c0, .int .i64 (wrap64 ((wrap64 ((wrap64 (t154)) + (wrap64 (56 * x6_1)))) + 4)), .int .i64 4] rfl gX ?_; (with_reducible refine (anvilref02_value.calls kj7 _ _ l0 (wrap64 ((wrap64 ((wrap64 (t154)) + (wrap64 (56 * x6_1)))) + 4)) 4 t158 _ ?side1 ?side2 A13.out).mono ?_); (case side1 => exact cX HR0.out HB.out); (case side2 => exact HC0.out); rintro e w' ⟨rfl, ⟨nd, rfl⟩⟩; refine ⟨_, rfl, ?_⟩; skip) | ((with_reducible refine gate_callee (f := 34) rfl ?_); refine goesL_ (some 65) rfl rfl Tryz.func34 (by kernel_rfl) rfl #[.slice A0 l0.length c0, .int .i64 (wrap64 ((wrap64 ((wrap64 (t154)) + (wrap64 (56 * x6_1)))) + 8)), .int .i64 8] rfl gX ?_; (with_reducible refine (anvilref02_value.calls kj7 _ _ l0 (wrap64 ((wrap64 ((wrap64 (t154)) + (wrap64 (56 * x6_1)))) + 8)) 8 t159 _ ?side1 ?side2 A18.out).mono ?_); (case side1 => exact cX HR0.out HB.out); (case side2 => exact HC0.out); rintro e w' ⟨rfl, ⟨nd, rfl⟩⟩; refine ⟨_, rfl, ?_⟩; skip) | ((with_reducible refine gate_callee (f := 62) rfl ?_); refine goesL_ (some 69) rfl rfl Tryz.func62 (by kernel_rfl) rfl #[.slice A0 l0.length c0, .int .u64 t159, .int .u64 t155] rfl gX ?_; (with_reducible refine (anvilref02_room.calls _ _ l0 t159 t155 true _ ?side1 ?side2 A19.out).mono ?_); (case side1 => exact cX HR0.out HB.out); (case side2 => exact HC0.out); rintro e w' ⟨rfl, ⟨nd, rfl⟩⟩; refine ⟨_, rfl, ?_⟩; skip) | ((with_reducible refine gate_callee (f := 34) rfl ?_); refine goesL_ (some 77) rfl rfl Tryz.func34 (by kernel_rfl) rfl #[.slice A0 l0.length c0, .int .i64 (wrap64 ((wrap64 ((wrap64 (t154)) + (wrap64 (56 * x6_1)))) + 24)), .int .i64 8] rfl gX ?_; (with_reducible refine (anvilref02_value.calls kj7 _ _ l0 (wrap64 ((wrap64 ((wrap64 (t154)) + (wrap64 (56 * x6_1)))) + 24)) 8 t161 _ ?side1 ?side2 A21.out).mono ?_); (case side1 => exact cX HR0.out HB.out); (case side2 => exact HC0.out); rintro e w' ⟨rfl, ⟨nd, rfl⟩⟩; refine ⟨_, rfl, ?_⟩; skip) | ((with_reducible refine gate_callee (f := 34) rfl ?_); refine goesL_ (some 82) rfl rfl Tryz.func34 (by kernel_rfl) rfl #[.slice A0 l0.length c0, .int .i64 (wrap64 ((wrap64 ((wrap64 (t154)) + (wrap64 (56 * x6_1)))) + 4)), .int .i64 4] rfl gX ?_; (with_reducible refine (anvilref02_value.calls kj7 _ _ l0 (wrap64 ((wrap64 ((wrap64 (t154)) + (wrap64 (56 * x6_1)))) + 4)) 4 t162 _ ?side1 ?side2 A22.out).mono ?_); (case side1 => exact cX HR0.out HB.out); (case side2 => exact HC0.out); rintro e w' ⟨rfl, ⟨nd, rfl⟩⟩; refine ⟨_, rfl, ?_⟩; skip) | ((with_reducible refine gate_callee (f := 63) rfl ?_); refine goesL_ (some 83) rfl rfl Tryz.func63 (by kernel_rfl) rfl #[.int .u64 t162] rfl gX ?_; (with_reducible refine (anvilref02_flags.calls t162 t163 _ A23.out).mono ?_); rintro e w' ⟨rfl, ⟨nd, rfl⟩⟩; refine ⟨_, rfl, ?_⟩; skip) | ((with_reducible refine gDs (N := 11) rfl ?_); refine bEv ?hg (N := 11) ?hd (cs := #[.int .u64 0, .int .u64 0, .int .i64 0, .slice none 0 0]) (t := 55) ?hr ?_; (case hd => rfl); (case hg => rfl); (case hr => first | (go_simp; done) | (go_simp; rfl)); intro gb164 hg w39 hbox hb; have n0_ := Asd.mk (Kd.S_below (Kd.S_elderB (kSX HO_4.out) gb164 (Nat.le_of_eq hg.symm)) hb); have n1_ := Asd.mk (kBe (g := gb152) (o := .cells #[.int .i64 x153000_1, .int .i64 x153001_1] 66 (0, 0)) (kX BK152.out) hb); have n2_ := Asd.mk (bSt (bX HB.out) hb); have n3_ := Asd.mk (hbox); have n4_ := Asd.mk (zX hg (bX HB.out) : w.heap.size ≤ gb164); have n5_ := Asd.mk (zX hg (bX HB.out) : w.heap.size ≤ gb164); have n6_ := Asd.mk ((by rw [hg]; exact Nat.ne_of_lt (blk_lt (g := gb152) (o := .cells #[.int .i64 x153000_1, .int .i64 x153001_1] 66 (0, 0)) (kX BK152.out)) : gb152 ≠ gb164)); have n7_ := Asd.mk ((by rw [hg]; exact Nat.ne_of_gt (blk_lt (g := gb152) (o := .cells #[.int .i64 x153000_1, .int .i64 x153001_1] 66 (0, 0)) (kX BK152.out)) : gb164 ≠ gb152)); clear HO_4; clear BK152; clear HB; have HO_4 := n0_; have BK152 := n1_; have HB := n2_; have BK164 := n3_; have GW164 := n4_; have GE164 := n5_; have NB152_164 := n6_; have NB164_152 := n7_; clear n0_ n1_ n2_ n3_ n4_ n5_ n6_ n7_; clear hb hbox hg; have hnb40 := NB164_152.out; have hnc40 := NB152_164.out; have hcz41_0 : w39.cell? ⟨gb164, 0, none⟩ = some (.int .u64 0) := (kCe BK164.out 0).trans rfl; have hcz41_1 : w39.cell? ⟨gb164, 1, none⟩ = some (.int .u64 0) := (kCe BK164.out 1).trans rfl; have hcz41_2 : w39.cell? ⟨gb164, 2, none⟩ = some (.int .i64 0) := (kCe BK164.out 2).trans rfl; have hcz41_3 : w39.cell? ⟨gb164, 3, none⟩ = some (.slice none 0 0) := (kCe BK164.out 3).trans rfl; have hfz41_0 := kFr BK164.out 0; have hfz41_1 := kFr BK164.out 1; have hfz41_2 := kFr BK164.out 2; have hfz41_3 := kFr BK164.out 3) | ((with_reducible refine gate_callee (f := 64) rfl ?_); refine goesL_ (some 90) rfl rfl Tryz.func64 (by kernel_rfl) rfl #[.int .u64 t161, .int .u64 t156] rfl gX ?_; (with_reducible refine (anvilref02_last.calls t161 t156 t165 true _ A24.out).mono ?_); rintro e w' ⟨rfl, ⟨nd, rfl⟩⟩; refine ⟨_, rfl, ?_⟩; obtain ⟨Ao42, co42, eo42⟩ := Kd.S_slice HO_4.out; subst eo42) | ((with_reducible refine gate_callee (f := 65) rfl ?_); refine goesL_ (some 100) rfl rfl Tryz.func65 (by kernel_rfl) rfl #[.slice Ao42 x4_1.length co42, .agg #[.int .u64 t161, .int .u64 t156, .int .i64 t163, .slice none 0 0]] rfl gX ?_; (refine (anvilref02_meets.calls kj7 _ _ x4_1 t161 t156 t163 _ _ ([] : List Int) false _ ?side1 ?side2 ?side3 ?side4 A26.out).mono ?_); (case side1 => refine (Kd.S_reads' (e := 55) (base := w.heap.size) (ok := fun k_ => (True ∧ k_ ≠ gb164)) (n := x4_1.length) (c := co42) ?_).2.2; exact (by (with_reducible repeat (first | apply Kd.S_alloc | apply Kd.S_drewN | apply Kd.S_drew)); exact (Kd.S_mono (Kd.S_far (p := ⟨gb164, 3, none⟩) (Kd.S_far (p := ⟨gb164, 2, none⟩) (Kd.S_far (p := ⟨gb164, 1, none⟩) (Kd.S_far (p := ⟨gb164, 0, none⟩) (Kd.S_mono HO_4.out (fun k_ hk => (⟨hk, hk.2⟩ : _ ∧ k_ ≠ gb164))) (fun _ hk => hk.2) (.int .u64 t161)) (fun _ hk => hk.2) (.int .u64 t156)) (fun _ hk => hk.2) (.int .i64 t163)) (fun _ hk => hk.2) (.slice none 0 0)) (fun _ h_ => h_.1)))); (case side2 => exact (Kd.S_reads' HO_4.out).2.1); (case side3 => exact Kd.C_nil _ _); (case side4 => exact Nat.le_refl _); rintro e w43 ⟨rfl, hb⟩; refine ⟨_, rfl, ?_⟩; have n0_ := Asd.mk (Kd.S_below (by (with_reducible repeat (first | apply Kd.S_alloc | apply Kd.S_drewN | apply Kd.S_drew)); exact (Kd.S_mono (Kd.S_far (p := ⟨gb164, 3, none⟩) (Kd.S_far (p := ⟨gb164, 2, none⟩) (Kd.S_far (p := ⟨gb164, 1, none⟩) (Kd.S_far (p := ⟨gb164, 0, none⟩) (Kd.S_mono HO_4.out (fun k_ hk => (⟨hk, hk.2⟩ : _ ∧ k_ ≠ gb164))) (fun _ hk => hk.2) (.int .u64 t161)) (fun _ hk => hk.2) (.int .u64 t156)) (fun _ hk => hk.2) (.int .i64 t163)) (fun _ hk => hk.2) (.slice none 0 0)) (fun _ h_ => h_.1))) hb); have n1_ := Asd.mk (kBe (g := gb152) (o := .cells #[.int .i64 x153000_1, .int .i64 x153001_1] 66 (0, 0)) (fX BK152.out) hb); have n2_ := Asd.mk (kBe (g := gb164) (o := .cells #[.int .u64 t161, .int .u64 t156, .int .i64 t163, .slice none 0 0] 55 (0, 0)) (by (with_reducible repeat (first | refine kDn ?_ _ | refine kDr ?_ | refine kAl ?_ _)); refine kPu (cs := #[.int .u64 t161, .int .u64 t156, .int .i64 t163, .slice none 0 0]) ?_ 3 _ rfl; (with_reducible repeat (first | refine kDn ?_ _ | refine kDr ?_ | refine kAl ?_ _)); refine kPu (cs := #[.int .u64 t161, .int .u64 t156, .int .i64 0, .slice none 0 0]) ?_ 2 _ rfl; (with_reducible repeat (first | refine kDn ?_ _ | refine kDr ?_ | refine kAl ?_ _)); refine kPu (cs := #[.int .u64 t161, .int .u64 0, .int .i64 0, .slice none 0 0]) ?_ 1 _ rfl; (with_reducible repeat (first | refine kDn ?_ _ | refine kDr ?_ | refine kAl ?_ _)); refine kPu (cs := #[.int .u64 0, .int .u64 0, .int .i64 0, .slice none 0 0]) ?_ 0 _ rfl; (with_reducible repeat (first | refine kDn ?_ _ | refine kDr ?_ | refine kAl ?_ _)); exact BK164.out) hb); have n3_ := Asd.mk (bSt (bX HB.out) hb); clear HO_4; clear BK152; clear BK164; clear HB; have HO_4 := n0_; have BK152 := n1_; have BK164 := n2_; have HB := n3_; clear n0_ n1_ n2_ n3_; (try clear hb); (try clear hb2); (try clear hk); (try clear hi)))
                 have n0_ := Asd.mk (Kd.S_drew HO_4.out)
                 have n1_ := Asd.mk (kDr BK152.out)
                 have n2_ := Asd.mk (kDr BK164.out)
                 have n3_ := Asd.mk (bD1 HB.out)
                 clear HO_4
                 clear BK152
                 clear BK164
                 clear HB
                 have HO_4 := n0_
                 have BK152 := n1_
                 have BK164 := n2_
                 have HB := n3_
                 clear n0_ n1_ n2_ n3_
                 obtain ⟨i045, hi045, _, hsz45, _⟩ := info_parts info5
                 obtain ⟨A45, hcut45, hA45, hC45⟩ := print_mid_of (P := Tryz.prog) (Value.int .u8) 0 22 5 .u64 .u64 Tryz.underlying22 hi045 hsz45 A0 c0 l0 t159 (IntKind.u64.wrap (t159 + t155)) (of_decide_eq_true aX) (by first | omega | exact of_decide_eq_true aX) (of_decide_eq_true aX) HC0.out
                 have HR168 := Asd.mk (Kd.C_of_reads (h1 := fun _ => rfl) (hA45 _ (Kd.reads_of_C HR0.out)))
                 have HC168 := Asd.mk hC45
                 clear hA45 hC45 hi045 hsz45
                 refine start_ (n := 11) (S := fun w' => w'.cell? ⟨gb164, 0, none⟩ = some (.int .u64 t161) ∧ w'.cell? ⟨gb164, 1, none⟩ = some (.int .u64 t156) ∧ w'.cell? ⟨gb164, 2, none⟩ = some (.int .i64 t163) ∧ w'.cell? ⟨gb164, 3, none⟩ = some (.slice none 0 0)) (ds := [10]) #[false, false, false, false, false, false, false, false, false, false, false] (by kernel_rfl) rfl rfl ⟨(kCe BK164.out 0).trans rfl, (kCe BK164.out 1).trans rfl, (kCe BK164.out 2).trans rfl, (kCe BK164.out 3).trans rfl⟩ (fun hHeld => ?_); refine with_tabW anvilref02_program.tab23 anvilref02_program.bits23 (fun HT_ HW_ => ?_)
                 generalize w43.drew = w44 at HO_4 BK152 BK164 HB HR168 hHeld ⊢
                 refine pure_ (i := 0) (N := some 104) (v := ?_) (a' := ?_) #[true, false, false, false, false, false, false, false, false, false, false] rfl rfl (any_of HT_.out (by kernel_rfl)) (fun _ _ _ h => h) (Or.inl ⟨by rfl, ?_⟩) ?_ ?_
                 rotate_left
                 ·intro w'
                  go_simp
                  with_reducible rfl
                 rotate_left
                 ·simp only [Act.put, List.setIfInBounds_toArray, List.set_cons_zero, List.set_cons_succ, i64_w, i32_w]
                  rfl
                 refine pure_ (i := 2) (N := some 106) (v := ?_) (a' := ?_) #[true, false, true, false, false, false, false, false, false, false, false] rfl rfl (any_of HT_.out (by kernel_rfl)) (fun _ _ _ h => h) (Or.inl ⟨by rfl, ?_⟩) ?_ ?_
                 rotate_left
                 ·intro w'
                  go_simp
                  with_reducible rfl
                 rotate_left
                 ·simp only [Act.put, List.setIfInBounds_toArray, List.set_cons_zero, List.set_cons_succ, i64_w, i32_w]
                  rfl
                 refine pure_ (i := 3) (N := some 107) (v := ?_) (a' := ?_) #[true, false, true, true, false, false, false, false, false, false, false] rfl rfl (any_of HT_.out (by kernel_rfl)) (fun _ _ _ h => h) (Or.inl ⟨by rfl, ?_⟩) ?_ ?_
                 rotate_left
                 ·intro w'
                  go_simp
                  with_reducible rfl
                 rotate_left
                 ·simp only [Act.put, List.setIfInBounds_toArray, List.set_cons_zero, List.set_cons_succ, i64_w, i32_w]
                  rfl
                 refine pure_ (i := 4) (N := some 108) (v := ?_) (a' := ?_) #[true, false, true, true, true, false, false, false, false, false, false] rfl rfl (any_of HT_.out (by kernel_rfl)) (fun _ _ _ h => h) (Or.inl ⟨by rfl, ?_⟩) ?_ ?_
                 rotate_left
                 ·intro w'
                  go_simp
                  with_reducible rfl
                 rotate_left
                 ·simp only [Act.put, List.setIfInBounds_toArray, List.set_cons_zero, List.set_cons_succ, i64_w, i32_w]
                  rfl
                 refine pure_ (i := 5) (N := some 109) (v := ?_) (a' := ?_) #[true, false, true, true, true, true, false, false, false, false, false] rfl rfl (any_of HT_.out (by kernel_rfl)) (fun _ _ _ h => h) (Or.inl ⟨by rfl, ?_⟩) ?_ ?_
                 rotate_left
                 ·intro w'
                  go_simp
                  with_reducible rfl
                 rotate_left
                 ·simp only [Act.put, List.setIfInBounds_toArray, List.set_cons_zero, List.set_cons_succ, i64_w, i32_w]
                  rfl
                 refine pure_ (i := 6) (N := some 110) (v := ?_) (a' := ?_) #[true, false, true, true, true, true, true, false, false, false, false] rfl rfl (any_of HT_.out (by kernel_rfl)) (fun _ _ _ h => h) (Or.inl ⟨by rfl, ?_⟩) ?_ ?_
                 rotate_left
                 ·intro w'
                  go_simp
                  with_reducible rfl
                 rotate_left
                 ·simp only [Act.put, List.setIfInBounds_toArray, List.set_cons_zero, List.set_cons_succ, i64_w, i32_w]
                  rfl
                 refine pure_ (i := 7) (N := some 111) (v := ?_) (a' := ?_) #[true, false, true, true, true, true, true, true, false, false, false] rfl rfl (any_of HT_.out (by kernel_rfl)) (fun _ _ _ h => h) (Or.inl ⟨by rfl, ?_⟩) ?_ ?_
                 rotate_left
                 ·intro w'
                  go_simp
                  with_reducible rfl
                 rotate_left
                 ·simp only [Act.put, List.setIfInBounds_toArray, List.set_cons_zero, List.set_cons_succ, i64_w, i32_w]
                  rfl
                 refine take_ (i := 1) (N := some 105) (v := ?_) (a' := ?_) #[true, true, true, true, true, true, true, true, false, false, false] rfl rfl (take_ofW HT_.out HW_.out (by kernel_rfl)) (fun _ _ _ h => h) (Or.inl ⟨by rfl, ?_⟩) hHeld ?_ ?_
                 rotate_left
                 ·rintro w' ⟨s0, s1, s2, s3⟩
                  go_simp
                  with_reducible rfl
                 rotate_left
                 ·simp only [Act.put, List.setIfInBounds_toArray, List.set_cons_zero, List.set_cons_succ, i64_w, i32_w]
                  rfl
                 refine one_ (i := 8) (N := some 112) #[true, true, true, true, true, true, true, true, true, false, false] rfl rfl (one_of HT_.out (by kernel_rfl)) (by decide) (fun K hK => ?_)
                 refine Kd.R_append_rows_step (Kd.int .u8) (w0 := w) w.heap.size (by rfl) (.tmp 105) (.tmp 111) 22 5 (.int .u8 0) 1 rfl Tryz.underlying22 info5 rfl (by decide) (by omega) (.slice none 0 0) ([] : List Int) ((l0.take ((IntKind.u64.wrap (t159 + t155)) : Int).toNat).drop (t159 : Int).toNat) _ _ _ (fun _ => True) (fun _ => False) rfl rfl ?aO ?aR (fun _ _ h => h) (fun _ h => h.elim) ?aF ?aB ?aS ?aL ?_
                 (case aR => first | (rw [← show ((l0.take ((IntKind.u64.wrap (t159 + t155)) : Int).toNat).drop (t159 : Int).toNat).length = ((IntKind.u64.wrap (t159 + t155)).toNat - t159.toNat) from (by rw [List.length_drop, List.length_take]; have h_ : ((IntKind.u64.wrap (t159 + t155)) : Int) ≤ (l0.length : Int) := of_decide_eq_true aX; omega)]; repeat (first | exact (Kd.C_below HR168.out HB.out) | (with_reducible refine Kd.C_alloc ?_ _) | (with_reducible refine Kd.C_drewN ?_ _) | (with_reducible refine Kd.C_drew ?_))) | (repeat (first | exact (Kd.C_below HR168.out HB.out) | (with_reducible refine Kd.C_alloc ?_ _) | (with_reducible refine Kd.C_drewN ?_ _) | (with_reducible refine Kd.C_drew ?_))))
                 (case aB => exact (bX HB.out))
                 (case aF => exact (fun _ _ => trivial))
                 (case aO => exact ((Kd.R_nil _ _ _ _ (fun _ => True))))
                 (case aS => exact (bSz (bX HB.out)))
                 (case aL => have := LMc37.out; have hlx_ := (show ((l0.take ((IntKind.u64.wrap (t159 + t155)) : Int).toNat).drop (t159 : Int).toNat).length = ((IntKind.u64.wrap (t159 + t155)).toNat - t159.toNat) from (by rw [List.length_drop, List.length_take]; have h_ : ((IntKind.u64.wrap (t159 + t155)) : Int) ≤ (l0.length : Int) := of_decide_eq_true aX; omega)); omega)
                 intro v170 w46 ho hb hg hat
                 rw [← Ny169.out] at ho
                 have n0_ := Asd.mk (Kd.S_after (Kd.S_apart_nil (kSX HO_4.out)) hg hat)
                 have n1_ := Asd.mk (blk_grown (g := gb152) (o := .cells #[.int .i64 x153000_1, .int .i64 x153001_1] 66 (0, 0)) (kX BK152.out) hg (by simp [Value.ownBlock]))
                 have n2_ := Asd.mk (blk_grown (g := gb164) (o := .cells #[.int .u64 t161, .int .u64 t156, .int .i64 t163, .slice none 0 0] 55 (0, 0)) (kX BK164.out) hg (by simp [Value.ownBlock]))
                 have n3_ := Asd.mk (hb)
                 have n4_ := Asd.mk (ho)
                 clear HO_4
                 clear BK152
                 clear BK164
                 clear HB
                 have HO_4 := n0_
                 have BK152 := n1_
                 have BK164 := n2_
                 have HB := n3_
                 have HO171 := n4_
                 clear n0_ n1_ n2_ n3_ n4_
                 clear ho hb hg hat
                 obtain ⟨Ao47, co47, eo47⟩ := Kd.R_slice HO171.out
                 (first | subst eo47 | (injection eo47 with f1_ f2_ f3_; have f4_ := f1_.symm; have f5_ := f3_.symm; clear f1_ f2_ f3_; subst f4_; subst f5_))
                 refine hK.out _ _ ⟨(kCe BK164.out 0).trans rfl, (kCe BK164.out 1).trans rfl, (kCe BK164.out 2).trans rfl, (kCe BK164.out 3).trans rfl⟩ (fun hHeld => ?_)
                 clear hK K
                 refine norm_ (a' := ?_) ?_ ?_
                 rotate_left
                 ·show Act.put _ (some 112) _ = _
                  simp only [Act.put, List.setIfInBounds_toArray, List.set_cons_zero, List.set_cons_succ, i64_w, i32_w]
                  rfl
                 refine pure_ (i := 9) (N := some 113) (v := ?_) (a' := ?_) #[true, true, true, true, true, true, true, true, true, true, false] rfl rfl (any_of HT_.out (by kernel_rfl)) (fun _ _ _ h => h) (Or.inl ⟨by rfl, ?_⟩) ?_ ?_
                 rotate_left
                 ·intro w'
                  go_simp
                  with_reducible rfl
                 rotate_left
                 ·simp only [Act.put, List.setIfInBounds_toArray, List.set_cons_zero, List.set_cons_succ, i64_w, i32_w]
                  rfl
                 refine last_ (i := 10) (N := none) #[true, true, true, true, true, true, true, true, true, true, true] rfl rfl (one_of HT_.out (by kernel_rfl)) (by decide) (fun K hK => ?_)
                 have hs48 : w46.cell? ⟨gb164, 3, none⟩ = some (.slice none 0 0) := (kCe BK164.out 3).trans rfl
                 have hfs48 := kFr BK164.out 3
                 have hns48_0 := NB152_164.out
                 have hms48_0 := NB164_152.out
                 refine skip_ (w1 := ?_) (by rfl) rfl ?_ ?_
                 rotate_left
                 ·go_simp
                  rfl
                 refine hK.out _ _ ?_
                 clear hK K
                 refine done_ (done_of HT_.out (by kernel_rfl)) ?_
                 have n0_ : Asd (Kd.S k55 55 (w46.setCell ⟨gb164, 3, none⟩ (.slice Ao47 y169.length co47)) w.heap.size (fun k_ => some k_ ≠ (.slice Ao47 y169.length co47 : Value).ownBlock ∧ k_ ≠ gb164) (.slice Ao42 x4_1.length co42) x4_1) := ⟨by (with_reducible repeat (first | apply Kd.S_alloc | apply Kd.S_drewN | apply Kd.S_drew)); exact Kd.S_mono (Kd.S_far (p := ⟨gb164, 3, none⟩) (Kd.S_mono HO_4.out (fun k_ hk => (⟨hk, hk.1.2⟩ : _ ∧ k_ ≠ gb164))) (fun _ hk => hk.2) (.slice Ao47 y169.length co47)) (fun _ hk => ⟨hk.1.2, hk.1.1.2⟩)⟩
                 have n1_ : Asd (Kd.R (Kd.int .u8) 5 (w46.setCell ⟨gb164, 3, none⟩ (.slice Ao47 y169.length co47)) w.heap.size (fun _ => True) (.slice Ao47 y169.length co47) y169) := ⟨by (with_reducible repeat (first | apply Kd.R_alloc | apply Kd.R_drewN | apply Kd.R_drew)); exact Kd.R_mono (Kd.R_far (p := ⟨gb164, 3, none⟩) (Kd.R_types HO171.out BK164.out (by decide)) (fun _ hk => hk.2) (.slice Ao47 y169.length co47)) (fun _ hk => trivial)⟩
                 have n2_ : Asd ((w46.setCell ⟨gb164, 3, none⟩ (.slice Ao47 y169.length co47)).heap[gb152]? = some (.cells #[.int .i64 x153000_1, .int .i64 x153001_1] 66 (0, 0))) := ⟨fX BK152.out⟩
                 have n3_ : Asd ((w46.setCell ⟨gb164, 3, none⟩ (.slice Ao47 y169.length co47)).heap[gb164]? = some (.cells #[.int .u64 t161, .int .u64 t156, .int .i64 t163, .slice Ao47 y169.length co47] 55 (0, 0))) := ⟨by (with_reducible repeat (first | refine kDn ?_ _ | refine kDr ?_ | refine kAl ?_ _)); refine kPu (cs := #[.int .u64 t161, .int .u64 t156, .int .i64 t163, .slice none 0 0]) ?_ 3 _ rfl; (with_reducible repeat (first | refine kDn ?_ _ | refine kDr ?_ | refine kAl ?_ _)); exact BK164.out⟩
                 have n4_ : Asd (Below w.heap.size w (w46.setCell ⟨gb164, 3, none⟩ (.slice Ao47 y169.length co47))) := ⟨bX HB.out⟩
                 (try clear HO_4)
                 (try clear HO171)
                 (try clear BK152)
                 (try clear BK164)
                 (try clear HB)
                 generalize (w46.setCell ⟨gb164, 3, none⟩ (.slice Ao47 y169.length co47)) = w49 at n0_ n1_ n2_ n3_ n4_ ⊢
                 have HO_4 := n0_
                 have HO171 := n1_
                 have BK152 := n2_
                 have BK164 := n3_
                 have HB := n4_
                 clear n0_ n1_ n2_ n3_ n4_
                 have hcz50_0 : w49.cell? ⟨gb164, 0, none⟩ = some (.int .u64 t161) := (kCe BK164.out 0).trans rfl
                 have hcz50_1 : w49.cell? ⟨gb164, 1, none⟩ = some (.int .u64 t156) := (kCe BK164.out 1).trans rfl
                 have hcz50_2 : w49.cell? ⟨gb164, 2, none⟩ = some (.int .i64 t163) := (kCe BK164.out 2).trans rfl
                 have hcz50_3 : w49.cell? ⟨gb164, 3, none⟩ = some (.slice Ao47 y169.length co47) := (kCe BK164.out 3).trans rfl
                 have hfz50_0 := kFr BK164.out 0
                 have hfz50_1 := kFr BK164.out 1
                 have hfz50_2 := kFr BK164.out 2
                 have hfz50_3 := kFr BK164.out 3
                 try go_wp2_with (first | ((with_reducible refine gate_builtin (b := .append) (xs := #[.tmp 114, .tmp 116]) rfl ?_); at_builtin; refine Kd.S_append k55 (w0 := w) w.heap.size rfl (.tmp 114) (.tmp 116) 25 55 (.agg #[(.int .u64 0), (.int .u64 0), (.int .i64 0), (.slice none 0 0)]) 48 rfl Tryz.underlying25 info55 rfl (by decide) (by omega) (.slice Ao42 x4_1.length co42) x4_1 (⟨t161, t156, t163, y169⟩ : S55) [.int .u64 t161, .int .u64 t156, .int .i64 t163, .slice Ao47 y169.length co47] (fun k_ => k_ ≠ gb164) (fun k_ => some k_ = (.slice Ao47 y169.length co47 : Value).ownBlock) rfl rfl ?aP (fun k_ hk_ => ((Kd.R_mono (ok' := fun k_ => ((fun k_ => k_ ≠ gb164)) k_ ∧ some k_ ≠ (.slice Ao42 x4_1.length co42 : Value).ownBlock) (Kd.R_types (Kd.R_apart' (HO171.out) (Kd.S_typed HO_4.out) (by decide)) BK164.out (by decide)) (fun k_ hk => ⟨hk.2, hk.1.2⟩))).1 k_ hk_.symm) ?aF ?aO ?aB ?aS ?aL ?_; (case aP => exact k55_mkM _ _ _ (⟨t161, t156, t163, y169⟩ : S55) (Kd.R_mono (Kd.R_tight rfl (Kd.R_mono (ok' := fun k_ => ((fun k_ => k_ ≠ gb164)) k_ ∧ some k_ ≠ (.slice Ao42 x4_1.length co42 : Value).ownBlock) (Kd.R_types (Kd.R_apart' (HO171.out) (Kd.S_typed HO_4.out) (by decide)) BK164.out (by decide)) (fun k_ hk => ⟨hk.2, hk.1.2⟩))) (fun _ h_ => h_))); (case aB => exact (bX HB.out)); (case aF => exact (fun k_ hk => Kd.freshB (g := gb164) (o := .cells #[.int .u64 t161, .int .u64 t156, .int .i64 t163, .slice Ao47 y169.length co47] 55 (0, 0)) (kX BK164.out) k_ hk)); (case aO => exact (by (with_reducible repeat (first | apply Kd.S_alloc | apply Kd.S_drewN | apply Kd.S_drew)); exact Kd.S_mono HO_4.out (fun k_ hk => ⟨hk.2, fun e_ => hk.1 e_⟩))); (case aS => exact (bSz (bX HB.out))); (case aL => have := LMc38.out; omega); intro v173 w51 ho hb hg hat; rw [← Ny172.out] at ho; have n0_ := Asd.mk (blk_grown (g := gb152) (o := .cells #[.int .i64 x153000_1, .int .i64 x153001_1] 66 (0, 0)) (kX BK152.out) hg (Kd.S_ne HO_4.out BK152.out (by decide))); have n1_ := Asd.mk (blk_grown (g := gb164) (o := .cells #[.int .u64 t161, .int .u64 t156, .int .i64 t163, .slice Ao47 y169.length co47] 55 (0, 0)) (kX BK164.out) hg (Kd.S_away HO_4.out (fun _ hk => hk.2))); have n2_ := Asd.mk (hb); have n3_ := Asd.mk (ho); clear BK152; clear BK164; clear HB; clear HO_4; clear HO171; have BK152 := n0_; have BK164 := n1_; have HB := n2_; have HO174 := n3_; clear n0_ n1_ n2_ n3_; clear ho hb hg hat))
                 go_roundg kj7
                 case measure => have := HK1.out; have := HJ7.out; omega
                 case rel => exact ⟨(y172), (wrap64 (x6_1 + 1)), (x153000_1), (x153001_1), eX, H', ⟨by have := HK1.out; have := HJ7.out; omega⟩, ⟨by (with_reducible repeat (first | apply Kd.S_alloc | apply Kd.S_drewN | apply Kd.S_drew)); exact Kd.S_mono HO174.out (fun _ hk => trivial)⟩, ⟨kX BK152.out⟩, ⟨bX HB.out⟩⟩
                ·rw [if_neg c38] at H
                 exact absurd H (by simp)
               ·rw [if_neg c37] at H
                exact absurd H (by simp)
              ·rw [if_neg c36] at H
               exact absurd H (by simp)
             ·rw [if_neg c35] at H
              exact absurd H (by simp)
            ·rw [if_neg c34] at H
             exact absurd H (by simp)
          ·replace c25 := Bool.eq_false_iff.mpr c25
           subst c25
           have H1 : (some (([] : List (S55)), wrap64 ((wrap64 ((wrap64 (t154)) + (wrap64 (56 * x6_1)))) + 24), 23)) = some (r1, r2, r3) := by rw [if_neg (show ¬ (false = true) by decide)] at H; exact H
           clear H
           have H := H1
           clear H1
           simp only [Option.some.injEq, Prod.mk.injEq] at H
           obtain ⟨rfl, rfl, rfl⟩ := H
           go_wp2_with (first | ((with_reducible refine gate_callee (f := 34) rfl ?_); refine goesL_ (some 51) rfl rfl Tryz.func34 (by kernel_rfl) rfl #[.slice A0 l0.length c0, .int .i64 (wrap64 ((wrap64 ((wrap64 (t154)) + (wrap64 (56 * x6_1)))) + 4)), .int .i64 4] rfl gX ?_; (with_reducible refine (anvilref02_value.calls kj7 _ _ l0 (wrap64 ((wrap64 ((wrap64 (t154)) + (wrap64 (56 * x6_1)))) + 4)) 4 t158 _ ?side1 ?side2 A13.out).mono ?_); (case side1 => exact cX HR0.out HB.out); (case side2 => exact HC0.out); rintro e w' ⟨rfl, ⟨nd, rfl⟩⟩; refine ⟨_, rfl, ?_⟩; skip) | ((with_reducible refine gate_callee (f := 34) rfl ?_); refine goesL_ (some 65) rfl rfl Tryz.func34 (by kernel_rfl) rfl #[.slice A0 l0.length c0, .int .i64 (wrap64 ((wrap64 ((wrap64 (t154)) + (wrap64 (56 * x6_1)))) + 8)), .int .i64 8] rfl gX ?_; (with_reducible refine (anvilref02_value.calls kj7 _ _ l0 (wrap64 ((wrap64 ((wrap64 (t154)) + (wrap64 (56 * x6_1)))) + 8)) 8 t159 _ ?side1 ?side2 A18.out).mono ?_); (case side1 => exact cX HR0.out HB.out); (case side2 => exact HC0.out); rintro e w' ⟨rfl, ⟨nd, rfl⟩⟩; refine ⟨_, rfl, ?_⟩; skip) | ((with_reducible refine gate_callee (f := 62) rfl ?_); refine goesL_ (some 69) rfl rfl Tryz.func62 (by kernel_rfl) rfl #[.slice A0 l0.length c0, .int .u64 t159, .int .u64 t155] rfl gX ?_; (with_reducible refine (anvilref02_room.calls _ _ l0 t159 t155 true _ ?side1 ?side2 A19.out).mono ?_); (case side1 => exact cX HR0.out HB.out); (case side2 => exact HC0.out); rintro e w' ⟨rfl, ⟨nd, rfl⟩⟩; refine ⟨_, rfl, ?_⟩; skip) | ((with_reducible refine gate_callee (f := 34) rfl ?_); refine goesL_ (some 77) rfl rfl Tryz.func34 (by kernel_rfl) rfl #[.slice A0 l0.length c0, .int .i64 (wrap64 ((wrap64 ((wrap64 (t154)) + (wrap64 (56 * x6_1)))) + 24)), .int .i64 8] rfl gX ?_; (with_reducible refine (anvilref02_value.calls kj7 _ _ l0 (wrap64 ((wrap64 ((wrap64 (t154)) + (wrap64 (56 * x6_1)))) + 24)) 8 t161 _ ?side1 ?side2 A21.out).mono ?_); (case side1 => exact cX HR0.out HB.out); (case side2 => exact HC0.out); rintro e w' ⟨rfl, ⟨nd, rfl⟩⟩; refine ⟨_, rfl, ?_⟩; skip) | ((with_reducible refine gate_callee (f := 34) rfl ?_); refine goesL_ (some 82) rfl rfl Tryz.func34 (by kernel_rfl) rfl #[.slice A0 l0.length c0, .int .i64 (wrap64 ((wrap64 ((wrap64 (t154)) + (wrap64 (56 * x6_1)))) + 4)), .int .i64 4] rfl gX ?_; (with_reducible refine (anvilref02_value.calls kj7 _ _ l0 (wrap64 ((wrap64 ((wrap64 (t154)) + (wrap64 (56 * x6_1)))) + 4)) 4 t162 _ ?side1 ?side2 A22.out).mono ?_); (case side1 => exact cX HR0.out HB.out); (case side2 => exact HC0.out); rintro e w' ⟨rfl, ⟨nd, rfl⟩⟩; refine ⟨_, rfl, ?_⟩; skip) | ((with_reducible refine gate_callee (f := 63) rfl ?_); refine goesL_ (some 83) rfl rfl Tryz.func63 (by kernel_rfl) rfl #[.int .u64 t162] rfl gX ?_; (with_reducible refine (anvilref02_flags.calls t162 t163 _ A23.out).mono ?_); rintro e w' ⟨rfl, ⟨nd, rfl⟩⟩; refine ⟨_, rfl, ?_⟩; skip) | ((with_reducible refine gDs (N := 11) rfl ?_); refine bEv ?hg (N := 11) ?hd (cs := #[.int .u64 0, .int .u64 0, .int .i64 0, .slice none 0 0]) (t := 55) ?hr ?_; (case hd => rfl); (case hg => rfl); (case hr => first | (go_simp; done) | (go_simp; rfl)); intro gb164 hg w52 hbox hb; have n0_ := Asd.mk (Kd.S_below (Kd.S_elderB (kSX HO_4.out) gb164 (Nat.le_of_eq hg.symm)) hb); have n1_ := Asd.mk (kBe (g := gb152) (o := .cells #[.int .i64 x153000_1, .int .i64 x153001_1] 66 (0, 0)) (kX BK152.out) hb); have n2_ := Asd.mk (bSt (bX HB.out) hb); have n3_ := Asd.mk (hbox); have n4_ := Asd.mk (zX hg (bX HB.out) : w.heap.size ≤ gb164); have n5_ := Asd.mk (zX hg (bX HB.out) : w.heap.size ≤ gb164); have n6_ := Asd.mk ((by rw [hg]; exact Nat.ne_of_lt (blk_lt (g := gb152) (o := .cells #[.int .i64 x153000_1, .int .i64 x153001_1] 66 (0, 0)) (kX BK152.out)) : gb152 ≠ gb164)); have n7_ := Asd.mk ((by rw [hg]; exact Nat.ne_of_gt (blk_lt (g := gb152) (o := .cells #[.int .i64 x153000_1, .int .i64 x153001_1] 66 (0, 0)) (kX BK152.out)) : gb164 ≠ gb152)); clear HO_4; clear BK152; clear HB; have HO_4 := n0_; have BK152 := n1_; have HB := n2_; have BK164 := n3_; have GW164 := n4_; have GE164 := n5_; have NB152_164 := n6_; have NB164_152 := n7_; clear n0_ n1_ n2_ n3_ n4_ n5_ n6_ n7_; clear hb hbox hg; have hnb53 := NB164_152.out; have hnc53 := NB152_164.out; have hcz54_0 : w52.cell? ⟨gb164, 0, none⟩ = some (.int .u64 0) := (kCe BK164.out 0).trans rfl; have hcz54_1 : w52.cell? ⟨gb164, 1, none⟩ = some (.int .u64 0) := (kCe BK164.out 1).trans rfl; have hcz54_2 : w52.cell? ⟨gb164, 2, none⟩ = some (.int .i64 0) := (kCe BK164.out 2).trans rfl; have hcz54_3 : w52.cell? ⟨gb164, 3, none⟩ = some (.slice none 0 0) := (kCe BK164.out 3).trans rfl; have hfz54_0 := kFr BK164.out 0; have hfz54_1 := kFr BK164.out 1; have hfz54_2 := kFr BK164.out 2; have hfz54_3 := kFr BK164.out 3) | ((with_reducible refine gate_callee (f := 64) rfl ?_); refine goesL_ (some 90) rfl rfl Tryz.func64 (by kernel_rfl) rfl #[.int .u64 t161, .int .u64 t156] rfl gX ?_; (with_reducible refine (anvilref02_last.calls t161 t156 t165 false _ A24.out).mono ?_); rintro e w' ⟨rfl, ⟨nd, rfl⟩⟩; refine ⟨_, rfl, ?_⟩; have hcz55_0 : w52.cell? ⟨gb152, 0, none⟩ = some (.int .i64 x153000_1) := (kCe BK152.out 0).trans rfl; have hcz55_1 : w52.cell? ⟨gb152, 1, none⟩ = some (.int .i64 x153001_1) := (kCe BK152.out 1).trans rfl; have hfz55_0 := kFr BK152.out 0; have hfz55_1 := kFr BK152.out 1))
           refine bodyPost_ret (results_tc rfl _ _ gb152 66 #[.int .i64 (wrap64 ((wrap64 ((wrap64 (t154)) + (wrap64 (56 * x6_1)))) + 24)), .int .i64 23] (0, 0) _ rfl (by (with_reducible repeat (first | refine kDn ?_ _ | refine kDr ?_ | refine kAl ?_ _)); refine kPu (cs := #[.int .i64 (wrap64 ((wrap64 ((wrap64 (t154)) + (wrap64 (56 * x6_1)))) + 24)), .int .i64 x153001_1]) ?_ 1 _ rfl; (with_reducible repeat (first | refine kDn ?_ _ | refine kDr ?_ | refine kAl ?_ _)); refine kPu (cs := #[.int .i64 x153000_1, .int .i64 x153001_1]) ?_ 0 _ rfl; (with_reducible repeat (first | refine kDn ?_ _ | refine kDr ?_ | refine kAl ?_ _)); refine blk_far ?_ NB152_164.out _; (with_reducible repeat (first | refine kDn ?_ _ | refine kDr ?_ | refine kAl ?_ _)); refine blk_far ?_ NB152_164.out _; (with_reducible repeat (first | refine kDn ?_ _ | refine kDr ?_ | refine kAl ?_ _)); refine blk_far ?_ NB152_164.out _; (with_reducible repeat (first | refine kDn ?_ _ | refine kDr ?_ | refine kAl ?_ _)); refine blk_far ?_ NB152_164.out _; (with_reducible repeat (first | refine kDn ?_ _ | refine kDr ?_ | refine kAl ?_ _)); exact BK152.out) Tryz.underlying66 rfl (by kernel_rfl)) rfl ?_
           exact ⟨_, rX, by first | exact Kd.S_nil _ _ _ _ _ | exact Kd.N_nil _ _ _ _ _ | exact Kd.V_nil _ _ _ _ _ | exact Kd.Q_nil _ _ _ _ _ | exact Kd.R_nil _ _ _ _ _, bX HB.out⟩
         ·replace c20 := Bool.eq_false_iff.mpr c20
          subst c20
          have H1 : (some (([] : List (S55)), wrap64 ((wrap64 ((wrap64 (t154)) + (wrap64 (56 * x6_1)))) + 8), 20)) = some (r1, r2, r3) := by rw [if_neg (show ¬ (false = true) by decide)] at H; exact H
          clear H
          have H := H1
          clear H1
          simp only [Option.some.injEq, Prod.mk.injEq] at H
          obtain ⟨rfl, rfl, rfl⟩ := H
          go_wp2_with (first | ((with_reducible refine gate_callee (f := 34) rfl ?_); refine goesL_ (some 51) rfl rfl Tryz.func34 (by kernel_rfl) rfl #[.slice A0 l0.length c0, .int .i64 (wrap64 ((wrap64 ((wrap64 (t154)) + (wrap64 (56 * x6_1)))) + 4)), .int .i64 4] rfl gX ?_; (with_reducible refine (anvilref02_value.calls kj7 _ _ l0 (wrap64 ((wrap64 ((wrap64 (t154)) + (wrap64 (56 * x6_1)))) + 4)) 4 t158 _ ?side1 ?side2 A13.out).mono ?_); (case side1 => exact cX HR0.out HB.out); (case side2 => exact HC0.out); rintro e w' ⟨rfl, ⟨nd, rfl⟩⟩; refine ⟨_, rfl, ?_⟩; skip) | ((with_reducible refine gate_callee (f := 34) rfl ?_); refine goesL_ (some 65) rfl rfl Tryz.func34 (by kernel_rfl) rfl #[.slice A0 l0.length c0, .int .i64 (wrap64 ((wrap64 ((wrap64 (t154)) + (wrap64 (56 * x6_1)))) + 8)), .int .i64 8] rfl gX ?_; (with_reducible refine (anvilref02_value.calls kj7 _ _ l0 (wrap64 ((wrap64 ((wrap64 (t154)) + (wrap64 (56 * x6_1)))) + 8)) 8 t159 _ ?side1 ?side2 A18.out).mono ?_); (case side1 => exact cX HR0.out HB.out); (case side2 => exact HC0.out); rintro e w' ⟨rfl, ⟨nd, rfl⟩⟩; refine ⟨_, rfl, ?_⟩; skip) | ((with_reducible refine gate_callee (f := 62) rfl ?_); refine goesL_ (some 69) rfl rfl Tryz.func62 (by kernel_rfl) rfl #[.slice A0 l0.length c0, .int .u64 t159, .int .u64 t155] rfl gX ?_; (with_reducible refine (anvilref02_room.calls _ _ l0 t159 t155 false _ ?side1 ?side2 A19.out).mono ?_); (case side1 => exact cX HR0.out HB.out); (case side2 => exact HC0.out); rintro e w' ⟨rfl, ⟨nd, rfl⟩⟩; refine ⟨_, rfl, ?_⟩; skip; have hcz56_0 : wc.cell? ⟨gb152, 0, none⟩ = some (.int .i64 x153000_1) := (kCe BK152.out 0).trans rfl; have hcz56_1 : wc.cell? ⟨gb152, 1, none⟩ = some (.int .i64 x153001_1) := (kCe BK152.out 1).trans rfl; have hfz56_0 := kFr BK152.out 0; have hfz56_1 := kFr BK152.out 1))
          refine bodyPost_ret (results_tc rfl _ _ gb152 66 #[.int .i64 (wrap64 ((wrap64 ((wrap64 (t154)) + (wrap64 (56 * x6_1)))) + 8)), .int .i64 20] (0, 0) _ rfl (by (with_reducible repeat (first | refine kDn ?_ _ | refine kDr ?_ | refine kAl ?_ _)); refine kPu (cs := #[.int .i64 (wrap64 ((wrap64 ((wrap64 (t154)) + (wrap64 (56 * x6_1)))) + 8)), .int .i64 x153001_1]) ?_ 1 _ rfl; (with_reducible repeat (first | refine kDn ?_ _ | refine kDr ?_ | refine kAl ?_ _)); refine kPu (cs := #[.int .i64 x153000_1, .int .i64 x153001_1]) ?_ 0 _ rfl; (with_reducible repeat (first | refine kDn ?_ _ | refine kDr ?_ | refine kAl ?_ _)); exact BK152.out) Tryz.underlying66 rfl (by kernel_rfl)) rfl ?_
          exact ⟨_, rX, by first | exact Kd.S_nil _ _ _ _ _ | exact Kd.N_nil _ _ _ _ _ | exact Kd.V_nil _ _ _ _ _ | exact Kd.Q_nil _ _ _ _ _ | exact Kd.R_nil _ _ _ _ _, bX HB.out⟩
   ·rw [if_neg c4] at H
    have c4b0 : decide (x6_1 < (wrap64 (t153))) = false := decide_eq_false c4
    clear c4
    simp only [Option.some.injEq, Prod.mk.injEq] at H
    obtain ⟨rfl, rfl, rfl⟩ := H
    have hcz57_0 : wr.cell? ⟨gb152, 0, none⟩ = some (.int .i64 x153000_1) := (kCe BK152.out 0).trans rfl
    have hcz57_1 : wr.cell? ⟨gb152, 1, none⟩ = some (.int .i64 x153001_1) := (kCe BK152.out 1).trans rfl
    have hfz57_0 := kFr BK152.out 0
    have hfz57_1 := kFr BK152.out 1
    go_wp2
    refine bodyPost_ret (results_tc rfl _ _ gb152 66 #[.int .i64 0, .int .i64 0] (0, 0) _ rfl (by (with_reducible repeat (first | refine kDn ?_ _ | refine kDr ?_ | refine kAl ?_ _)); refine kPu (cs := #[.int .i64 0, .int .i64 x153001_1]) ?_ 1 _ rfl; (with_reducible repeat (first | refine kDn ?_ _ | refine kDr ?_ | refine kAl ?_ _)); refine kPu (cs := #[.int .i64 x153000_1, .int .i64 x153001_1]) ?_ 0 _ rfl; (with_reducible repeat (first | refine kDn ?_ _ | refine kDr ?_ | refine kAl ?_ _)); exact BK152.out) Tryz.underlying66 rfl (by kernel_rfl)) rfl ?_
    exact ⟨_, rX, by (with_reducible repeat (first | apply Kd.S_alloc | apply Kd.S_drewN | apply Kd.S_drew)); exact Kd.S_mono (Kd.S_far (p := ⟨gb152, 1, none⟩) (Kd.S_far (p := ⟨gb152, 0, none⟩) (Kd.S_types HO_4.out BK152.out (by decide)) (fun _ hk => hk.2) (.int .i64 0)) (fun _ hk => hk.2) (.int .i64 0)) (fun _ hk => trivial), bX HB.out⟩
end Go.Proofs.YtbnlifldnjgpmaaGreatDoor.PWri
