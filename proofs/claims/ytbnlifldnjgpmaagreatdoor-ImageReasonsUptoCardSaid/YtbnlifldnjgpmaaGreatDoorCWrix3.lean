-- BY PROGRAM of this session (the kit's printer, turned by wip/tools/patch_print.py). Lean checks it.
import Derived.Test.YtbnlifldnjgpmaaGreatDoorCGr1
namespace Go.Proofs.YtbnlifldnjgpmaaGreatDoor.PWri
open Go.RowKit Go.Proofs.YtbnlifldnjgpmaaGreatDoorW.PrintWords Go.Proofs.YtbnlifldnjgpmaaGreatDoorW.PrintLast Go.Proofs.YtbnlifldnjgpmaaGreatDoorW.PrintMore
attribute [local go_sem] max2_int min2_int max_two min_two max_three min_three max_four min_four   -- for this text's walks alone
set_option linter.unusedVariables false
set_option linter.unusedSimpArgs false
def anvilref02_value.l0 : Nat → List Int → Int → Int → Int → Option (Int)
 | 0, _, _, _, _ => none
 | k + 1, x0, x1, x7, x8 => if x8 ≥ 0 then (if 0 ≤ (wrap64 (x1 + x8)) then (if (wrap64 (x1 + x8)) < (x0.length : Int) then (anvilref02_value.l0 k x0 x1 (IntKind.u64.wrap ((IntKind.u64.wrap (x7 * 256)) + (IntKind.u64.wrap (rd x0 (wrap64 (x1 + x8)))))) (wrap64 (x8 - 1))) else (none)) else (none)) else (some x7)
def anvilref02_value.f (k : Nat) (l0 : List Int) (a1 : Int) (a2 : Int) : Option (Int) := anvilref02_value.l0 k l0 a1 0 (wrap64 (a2 - 1))
theorem anvilref02_value.mono_l : ∀ k, (∀ y0 y1 y2 y3, LeO (anvilref02_value.l0 k y0 y1 y2 y3) (anvilref02_value.l0 (k + 1) y0 y1 y2 y3))
 | 0 => fun _ _ _ _ r h => by simp [anvilref02_value.l0] at h
 | k + 1 => by
  have ih0 := anvilref02_value.mono_l k
  ·intro y0 y1 y2 y3
   unfold anvilref02_value.l0
   repeat' first
   | (with_reducible exact ih0 _ _ _ _)
   | (with_reducible exact LeO.refl _)
   | (with_reducible exact LeO.none _)
   | (with_reducible refine LeO.ite ?_ ?_)
   | (with_reducible refine LeO.bind ?_ (fun _ => ?_))
   | exact ih0 _ _ _ _
   | exact LeO.none _
   | refine LeO.ite ?_ ?_
   | refine LeO.bind ?_ (fun _ => ?_)
theorem anvilref02_value.mono : ∀ a0 a1 a2 k, LeO (anvilref02_value.f k a0 a1 a2) (anvilref02_value.f (k + 1) a0 a1 a2) := by
 intro a0 a1 a2 k
 have ih0 := anvilref02_value.mono_l k
 unfold anvilref02_value.f
 repeat' first
  | (with_reducible exact ih0 _ _ _ _)
  | (with_reducible exact LeO.refl _)
  | (with_reducible exact LeO.none _)
  | (with_reducible refine LeO.ite ?_ ?_)
  | (with_reducible refine LeO.bind ?_ (fun _ => ?_))
  | exact ih0 _ _ _ _
  | exact LeO.none _
  | refine LeO.ite ?_ ?_
  | refine LeO.bind ?_ (fun _ => ?_)
set_option maxHeartbeats 8000000 in
set_option maxRecDepth 100000 in
theorem anvilref02_value.calls (k : Nat) (A0 : Option Addr) (c0 : Nat) (l0 : List Int) (a1 : Int) (a2 : Int) (r : Int) (w : World) (hr0 : Kd.C (Kd.int .u8) w A0 l0.length l0) (hc0 : l0.length ≤ c0) (h : anvilref02_value.f k l0 a1 a2 = some r) :
 Calls Tryz.prog 34 #[.slice A0 l0.length c0, .int .i64 a1, .int .i64 a2] w fun e w' => e = .returned (.int .u64 r) ∧ Drawn0 w w' := by
 have HR0 := Asd.mk hr0
 have HC0 := Asd.mk hc0
 clear hr0 hc0
 have H : (anvilref02_value.l0 k l0 a1 0 (wrap64 (a2 - 1))) = some r := h
 clear h
 have H' := Asd.mk H
 clear H
 go_enter Tryz.func34, Tryz.ntmps34
 go_wp2
 go_loopg [7, 8] k (fun kq v7 v8 w' => ∃ (x7_1 : Int) (x8_1 : Int), v7 = .int .u64 x7_1 ∧ v8 = .int .i64 x8_1 ∧ Asd (anvilref02_value.l0 kq l0 a1 x7_1 x8_1 = some r) ∧ Asd (kq ≤ k) ∧ Drawn0 w w')
 case atStart => exact ⟨(0), (wrap64 (a2 - 1)), eX, eX, H', ⟨Nat.le_refl _⟩, by repeat (first | exact Drawn0.refl _ | apply Drawn0.step)⟩
 case round =>
  clear H'
  try clear p2
  try clear c3
  obtain ⟨x7_1, x8_1, rfl, rfl, HA, HK1, ⟨m1, rfl⟩⟩ := hrel
  cases gk with
  | zero => exact absurd HA.out (by simp [anvilref02_value.l0])
  | succ k1 =>
   have H := HA.out
   clear HA
   simp only [anvilref02_value.l0] at H
   by_cases c4 : x8_1 ≥ 0
   ·rw [if_pos c4] at H
    have c4b0 : decide (0 ≤ x8_1) = true := decide_eq_true c4
    clear c4
    obtain ⟨ji5, hji5⟩ : ∃ j_ : Int, (wrap64 (a1 + x8_1)) = j_ := ⟨_, rfl⟩
    replace H : (if 0 ≤ (ji5) then (if (ji5) < (l0.length : Int) then (anvilref02_value.l0 k1 l0 a1 (IntKind.u64.wrap ((IntKind.u64.wrap (x7_1 * 256)) + (IntKind.u64.wrap (rd l0 (ji5))))) (wrap64 (x8_1 - 1))) else (none)) else (none)) = some r := by first | (rw [hji5] at H; exact H) | (simp only [hji5] at H ⊢; exact H)
    have hji5w : (IntKind.i64.wrap (a1 + x8_1)) = ji5 := (i64_w _).trans hji5
    by_cases c6 : 0 ≤ (ji5)
    ·rw [if_pos c6] at H
     have c6b0 : decide (0 ≤ (ji5)) = true := decide_eq_true c6
     clear c6
     by_cases c7 : (ji5) < (l0.length : Int)
     ·rw [if_pos c7] at H
      have c7b0 : decide ((ji5) < (l0.length : Int)) = true := decide_eq_true c7
      clear c7
      have H' := Asd.mk H
      clear H
      have p127 : 0 ≤ ((ji5) : Int) := of_decide_eq_true aX
      have q127 : (ji5) < (l0.length : Int) := of_decide_eq_true aX
      obtain ⟨ad127, e127, hx127_0⟩ := Kd.at_int HR0.out (ji5) p127 q127
      cases e127
      replace p127 := eq_true p127
      replace q127 := eq_true q127
      go_wp2
      go_roundg k1
      case measure => have := HK1.out; omega
      case rel => exact ⟨(IntKind.u64.wrap ((IntKind.u64.wrap (x7_1 * 256)) + (IntKind.u64.wrap (rd l0 (ji5))))), (wrap64 (x8_1 - 1)), (by first | rfl | (simp; done) | (simp only [← hji5] <;> (first | rfl | simp)) | (simp [*]; done)), eX, H', ⟨by have := HK1.out; omega⟩, by repeat (first | exact Drawn0.refl _ | apply Drawn0.step)⟩
     ·rw [if_neg c7] at H
      exact absurd H (by simp)
    ·rw [if_neg c6] at H
     exact absurd H (by simp)
   ·rw [if_neg c4] at H
    have c4b0 : decide (0 ≤ x8_1) = false := decide_eq_false c4
    clear c4
    obtain rfl := Option.some.inj H
    go_wp2
    go_ret
    exact ⟨eX, by repeat (first | exact Drawn0.refl _ | apply Drawn0.step)⟩
def anvilref02_room.f (l0 : List Int) (a1 : Int) (a2 : Int) : Option (Bool) := if a1 ≤ (IntKind.u64.wrap ((l0.length : Int))) then (some (decide (a2 ≤ (IntKind.u64.wrap ((IntKind.u64.wrap ((l0.length : Int))) - a1))))) else (some false)
set_option maxHeartbeats 8000000 in
set_option maxRecDepth 100000 in
theorem anvilref02_room.calls (A0 : Option Addr) (c0 : Nat) (l0 : List Int) (a1 : Int) (a2 : Int) (r : Bool) (w : World) (hr0 : Kd.C (Kd.int .u8) w A0 l0.length l0) (hc0 : l0.length ≤ c0) (h : anvilref02_room.f l0 a1 a2 = some r) :
 Calls Tryz.prog 62 #[.slice A0 l0.length c0, .int .u64 a1, .int .u64 a2] w fun e w' => e = .returned (.bool r) ∧ Drawn0 w w' := by
 have HR0 := Asd.mk hr0
 have HC0 := Asd.mk hc0
 clear hr0 hc0
 have H : (if a1 ≤ (IntKind.u64.wrap ((l0.length : Int))) then (some (decide (a2 ≤ (IntKind.u64.wrap ((IntKind.u64.wrap ((l0.length : Int))) - a1))))) else (some false)) = some r := h
 clear h
 by_cases c4 : a1 ≤ (IntKind.u64.wrap ((l0.length : Int)))
 ·rw [if_pos c4] at H
  have c4b0 : decide (a1 ≤ (IntKind.u64.wrap ((l0.length : Int)))) = true := decide_eq_true c4
  clear c4
  obtain rfl := Option.some.inj H
  go_enter Tryz.func62, Tryz.ntmps62
  go_wp2
  go_ret
  exact ⟨eX, by repeat (first | exact Drawn0.refl _ | apply Drawn0.step)⟩
 ·rw [if_neg c4] at H
  have c4b0 : decide (a1 ≤ (IntKind.u64.wrap ((l0.length : Int)))) = false := decide_eq_false c4
  clear c4
  obtain rfl := Option.some.inj H
  go_enter Tryz.func62, Tryz.ntmps62
  go_wp2
  go_ret
  exact ⟨eX, by repeat (first | exact Drawn0.refl _ | apply Drawn0.step)⟩
mutual
def anvilref02_head.l0 : Nat → List Int → List Int → Int → Option (Int × Int)
 | 0, _, _, _ => none
 | k + 1, x0, x3, x4 => if x4 < (x3.length : Int) then (if (x0.length : Int) ≤ x4 then (some ((x0.length : Int), 20)) else (if 0 ≤ x4 then (if x4 < (x0.length : Int) then (if (rd x0 x4) = (rd x3 x4) then (anvilref02_head.l0 k x0 x3 (wrap64 (x4 + 1))) else (some (x4, 21))) else (none)) else (none))) else (if (x0.length : Int) < 64 then (some ((x0.length : Int), 20)) else ((anvilref02_value.f k x0 56 2).bind fun t134 => ((anvilref02_value.f k x0 16 2).bind fun t135 => (if t135 = 2 then ((anvilref02_value.f k x0 18 2).bind fun t136 => (if t136 = 243 then ((anvilref02_value.f k x0 20 4).bind fun t137 => (if t137 = 1 then ((anvilref02_value.f k x0 24 8).bind fun t138 => (if (Int.tmod t138 2) = 1 then (some (24, 22)) else ((anvilref02_value.f k x0 48 4).bind fun t139 => (if t139 > 1 then (some (48, 22)) else ((anvilref02_value.f k x0 52 2).bind fun t140 => (if t140 = 64 then (if t134 = 0 then (anvilref02_head.j1 k x0 t134 false) else ((anvilref02_value.f k x0 54 2).bind fun t141 => (anvilref02_head.j1 k x0 t134 (t141 != 56)))) else (some (52, 22)))))))) else (some (20, 21)))) else (some (18, 21)))) else (some (16, 21))))))
def anvilref02_head.j1 : Nat → List Int → Int → Bool → Option (Int × Int)
 | 0, _, _, _ => none
 | k + 1, x0, x5, x70 => if x70 = true then (some (54, 22)) else (if x5 > 16 then (some (56, 2)) else ((anvilref02_value.f k x0 32 8).bind fun t142 => ((anvilref02_room.f x0 t142 (IntKind.u64.wrap (56 * x5))).bind fun t143 => (if t143 = true then (some (0, 0)) else (some (32, 20))))))
end
def anvilref02_head.f (k : Nat) (l0 : List Int) : Option (Int × Int) := anvilref02_head.l0 k l0 (([127, 69, 76, 70, 2, 1, 1] : List Int)) 0
theorem anvilref02_head.mono_l : ∀ k, (∀ y0 y1 y2, LeO (anvilref02_head.l0 k y0 y1 y2) (anvilref02_head.l0 (k + 1) y0 y1 y2)) ∧ (∀ y0 y1 y2, LeO (anvilref02_head.j1 k y0 y1 y2) (anvilref02_head.j1 (k + 1) y0 y1 y2))
 | 0 => ⟨fun _ _ _ r h => by simp [anvilref02_head.l0] at h, fun _ _ _ r h => by simp [anvilref02_head.j1] at h⟩
 | k + 1 => by
  obtain ⟨ih0, ih1⟩ := anvilref02_head.mono_l k
  refine ⟨?_, ?_⟩
  ·intro y0 y1 y2
   unfold anvilref02_head.l0
   repeat' first
   | (with_reducible exact ih0 _ _ _)
   | (with_reducible exact ih1 _ _ _)
   | (with_reducible exact anvilref02_value.mono _ _ _ _)
   | (with_reducible exact LeO.refl _)
   | (with_reducible exact LeO.none _)
   | (with_reducible refine LeO.ite ?_ ?_)
   | (with_reducible refine LeO.bind ?_ (fun _ => ?_))
   | exact ih0 _ _ _
   | exact ih1 _ _ _
   | exact anvilref02_value.mono _ _ _ _
   | exact LeO.none _
   | refine LeO.ite ?_ ?_
   | refine LeO.bind ?_ (fun _ => ?_)
  ·intro y0 y1 y2
   unfold anvilref02_head.j1
   repeat' first
   | (with_reducible exact ih0 _ _ _)
   | (with_reducible exact ih1 _ _ _)
   | (with_reducible exact anvilref02_value.mono _ _ _ _)
   | (with_reducible exact LeO.refl _)
   | (with_reducible exact LeO.none _)
   | (with_reducible refine LeO.ite ?_ ?_)
   | (with_reducible refine LeO.bind ?_ (fun _ => ?_))
   | exact ih0 _ _ _
   | exact ih1 _ _ _
   | exact anvilref02_value.mono _ _ _ _
   | exact LeO.none _
   | refine LeO.ite ?_ ?_
   | refine LeO.bind ?_ (fun _ => ?_)
theorem anvilref02_head.mono : ∀ a0 k, LeO (anvilref02_head.f k a0) (anvilref02_head.f (k + 1) a0) := by
 intro a0 k
 obtain ⟨ih0, ih1⟩ := anvilref02_head.mono_l k
 unfold anvilref02_head.f
 repeat' first
  | (with_reducible exact ih0 _ _ _)
  | (with_reducible exact ih1 _ _ _)
  | (with_reducible exact anvilref02_value.mono _ _ _ _)
  | (with_reducible exact LeO.refl _)
  | (with_reducible exact LeO.none _)
  | (with_reducible refine LeO.ite ?_ ?_)
  | (with_reducible refine LeO.bind ?_ (fun _ => ?_))
  | exact ih0 _ _ _
  | exact ih1 _ _ _
  | exact anvilref02_value.mono _ _ _ _
  | exact LeO.none _
  | refine LeO.ite ?_ ?_
  | refine LeO.bind ?_ (fun _ => ?_)
set_option maxHeartbeats 8000000 in
set_option maxRecDepth 100000 in
theorem anvilref02_head.calls (k : Nat) (A0 : Option Addr) (c0 : Nat) (l0 : List Int) (r1 : Int) (r2 : Int) (w : World) (hr0 : Kd.C (Kd.int .u8) w A0 l0.length l0) (hc0 : l0.length ≤ c0) (h : anvilref02_head.f k l0 = some (r1, r2)) :
 Calls Tryz.prog 31 #[.slice A0 l0.length c0] w fun e w' => e = .returned (.agg #[.int .i64 r1, .int .i64 r2]) ∧ Below w.heap.size w w' := by
 have hu66 := Tryz.underlying66
 have HR0 := Asd.mk hr0
 have HC0 := Asd.mk hc0
 clear hr0 hc0
 have HB := Asd.mk (Below.refl w.heap.size w)
 have H : (anvilref02_head.l0 k l0 (([127, 69, 76, 70, 2, 1, 1] : List Int)) 0) = some (r1, r2) := h
 clear h
 obtain ⟨y129, hy129⟩ : ∃ y_ : List Int, y_ = (([127, 69, 76, 70, 2, 1, 1] : List Int)) := ⟨_, rfl⟩
 replace H : (anvilref02_head.l0 k l0 y129 0) = some (r1, r2) := by first | (rw [hy129]; with_reducible exact H) | (have H2_ := (Option.bind_some _ _).symm.trans H; rw [hy129]; with_reducible exact H2_) | (have H2_ := (Option.bind_some _ _).symm.trans H; with_reducible exact H2_) | with_reducible exact H | (rw [hy129]; exact H) | exact H
 have Ny129 := Asd.mk hy129
 clear hy129
 have H' := Asd.mk H
 clear H
 go_enter Tryz.func31, Tryz.ntmps31
 go_wp2_with (first | ((with_reducible refine gDs (N := 2) rfl ?_); refine bEv ?hg (N := 2) ?hd (cs := #[.int .i64 0, .int .i64 0]) (t := 66) ?hr ?_; (case hd => rfl); (case hg => rfl); (case hr => first | (go_simp; done) | (go_simp; rfl)); intro gb128 hg w2 hbox hb; have n0_ := Asd.mk (bSt (bX HB.out) hb); have n1_ := Asd.mk (hbox); have n2_ := Asd.mk (zX hg (bX HB.out) : w.heap.size ≤ gb128); have n3_ := Asd.mk (zX hg (bX HB.out) : w.heap.size ≤ gb128); clear HB; have HB := n0_; have BK128 := n1_; have GW128 := n2_; have GE128 := n3_; clear n0_ n1_ n2_ n3_; clear hb hbox hg) | ((with_reducible refine gDs (N := 6) rfl ?_); refine Kd.R_lit (Kd.int .u8) _ 5 ?hg (N := 6) ?hd (xs := ([127, 69, 76, 70, 2, 1, 1] : List Int)) (inner := [.int .u8 127, .int .u8 69, .int .u8 76, .int .u8 70, .int .u8 2, .int .u8 1, .int .u8 1]) (ok := fun _ => True) (okp := fun _ => True) ?hr ?hp (fun _ hk => hk) trivial (Below.refl _ _) (Nat.le_refl _) (by simp) ?_; (case hd => rfl); (case hg => rfl); (case hr => first | (go_simp; done) | (go_simp; rfl)); (case hp => exact (Reps.one (show Kd.M (Kd.int .u8) _ _ _ 127 [.int .u8 127] from rfl) (Reps.one (show Kd.M (Kd.int .u8) _ _ _ 69 [.int .u8 69] from rfl) (Reps.one (show Kd.M (Kd.int .u8) _ _ _ 76 [.int .u8 76] from rfl) (Reps.one (show Kd.M (Kd.int .u8) _ _ _ 70 [.int .u8 70] from rfl) (Reps.one (show Kd.M (Kd.int .u8) _ _ _ 2 [.int .u8 2] from rfl) (Reps.one (show Kd.M (Kd.int .u8) _ _ _ 1 [.int .u8 1] from rfl) (Reps.one (show Kd.M (Kd.int .u8) _ _ _ 1 [.int .u8 1] from rfl) (Reps.none _ _))))))))); intro v130 w3 ho4 hb hg_ hnew_; clear hg_ hnew_; (first | rw [← Ny129.out] at ho4 | (simp only [Int.reduceToNat] at ho4; rw [← Ny129.out] at ho4)); have n0_ := Asd.mk (Kd.R_lower ho4 (bSz (bX HB.out))); have n1_ := Asd.mk (kBe (g := gb128) (o := .cells #[.int .i64 0, .int .i64 0] 66 (0, 0)) (kX BK128.out) hb); have n2_ := Asd.mk (bSt (bX HB.out) hb); clear BK128; clear HB; have HO131 := n0_; have BK128 := n1_; have HB := n2_; clear n0_ n1_ n2_; clear hb ho4))
 go_loopg [4] k (fun kq v4 w' => ∃ (x4_1 : Int) (x129000_1 : Int) (x129001_1 : Int), v4 = .int .i64 x4_1 ∧ Asd (anvilref02_head.l0 kq l0 y129 x4_1 = some (r1, r2)) ∧ Asd (kq ≤ k) ∧ Asd (Kd.R (Kd.int .u8) 5 w' w.heap.size (fun _ => True) v130 y129) ∧ Asd (w'.heap[gb128]? = some (.cells #[.int .i64 x129000_1, .int .i64 x129001_1] 66 (0, 0))) ∧ Asd (Below w.heap.size w w'))
 case atStart => exact ⟨(0), (0), (0), eX, H', ⟨Nat.le_refl _⟩, ⟨by (with_reducible repeat (first | apply Kd.R_alloc | apply Kd.R_drewN | apply Kd.R_drew)); exact HO131.out⟩, ⟨kX BK128.out⟩, ⟨bX HB.out⟩⟩
 case round =>
  clear H'
  try clear p2
  try clear c3
  obtain ⟨x4_1, x129000_1, x129001_1, rfl, HA, HK1, HO_3, BK128, HB⟩ := hrel
  cases gk with
  | zero => exact absurd HA.out (by simp [anvilref02_head.l0])
  | succ k1 =>
   have H := HA.out
   clear HA
   simp only [anvilref02_head.l0] at H
   by_cases c5 : x4_1 < (y129.length : Int)
   ·rw [if_pos c5] at H
    have c5b0 : decide (x4_1 < (y129.length : Int)) = true := decide_eq_true c5
    clear c5
    by_cases c6 : (l0.length : Int) ≤ x4_1
    ·rw [if_pos c6] at H
     have c6b0 : decide ((l0.length : Int) ≤ x4_1) = true := decide_eq_true c6
     clear c6
     simp only [Option.some.injEq, Prod.mk.injEq] at H
     obtain ⟨rfl, rfl⟩ := H
     obtain ⟨Ao7, co7, eo7⟩ := Kd.R_slice HO_3.out
     subst eo7
     have hcz8_0 : wr.cell? ⟨gb128, 0, none⟩ = some (.int .i64 x129000_1) := (kCe BK128.out 0).trans rfl
     have hcz8_1 : wr.cell? ⟨gb128, 1, none⟩ = some (.int .i64 x129001_1) := (kCe BK128.out 1).trans rfl
     have hfz8_0 := kFr BK128.out 0
     have hfz8_1 := kFr BK128.out 1
     go_wp2
     repeat (go_quiet (fail); try go_wp2)
     refine bodyPost_ret (results_cell_row rfl _ _ gb128 66 #[.int .i64 (l0.length : Int), .int .i64 20] (0, 0) _ rfl (by (with_reducible repeat (first | refine kDn ?_ _ | refine kDr ?_ | refine kAl ?_ _)); refine kPu (cs := #[.int .i64 (l0.length : Int), .int .i64 x129001_1]) ?_ 1 _ rfl; (with_reducible repeat (first | refine kDn ?_ _ | refine kDr ?_ | refine kAl ?_ _)); refine kPu (cs := #[.int .i64 x129000_1, .int .i64 x129001_1]) ?_ 0 _ rfl; (with_reducible repeat (first | refine kDn ?_ _ | refine kDr ?_ | refine kAl ?_ _)); exact BK128.out) Tryz.underlying66 rfl (by kernel_rfl)) rfl ?_
     exact ⟨rX, bX HB.out⟩
    ·rw [if_neg c6] at H
     have c6b0 : decide ((l0.length : Int) ≤ x4_1) = false := decide_eq_false c6
     clear c6
     by_cases c9 : 0 ≤ x4_1
     ·rw [if_pos c9] at H
      have c9b0 : decide (0 ≤ x4_1) = true := decide_eq_true c9
      clear c9
      by_cases c10 : x4_1 < (l0.length : Int)
      ·rw [if_pos c10] at H
       have c10b0 : decide (x4_1 < (l0.length : Int)) = true := decide_eq_true c10
       clear c10
       by_cases c11 : (rd l0 x4_1) = (rd y129 x4_1)
       ·rw [if_pos c11] at H
        have c11b0 : ((rd l0 x4_1) == (rd y129 x4_1)) = true := beq_iff_eq.mpr c11
        have c11b1 : ((rd l0 x4_1) != (rd y129 x4_1)) = false := bne_eq_false_iff_eq.mpr c11
        clear c11
        have H' := Asd.mk H
        clear H
        obtain ⟨Ao12, co12, eo12⟩ := Kd.R_slice HO_3.out
        subst eo12
        have p132 : 0 ≤ (x4_1 : Int) := of_decide_eq_true aX
        have q132 : x4_1 < (l0.length : Int) := of_decide_eq_true aX
        obtain ⟨ad132, e132, hx132_0⟩ := Kd.at_int HR0.out x4_1 p132 q132
        cases e132
        replace hx132_0 := (HB.out.cell (World.block_lt_of_cell? w _ hx132_0)).trans hx132_0
        replace p132 := eq_true p132
        replace q132 := eq_true q132
        have p133 : 0 ≤ (x4_1 : Int) := of_decide_eq_true aX
        have q133 : x4_1 < (y129.length : Int) := of_decide_eq_true aX
        obtain ⟨ad133, e133, hx133_0⟩ := Kd.at_int (Kd.R_reads' HO_3.out).2.2 x4_1 p133 q133
        cases e133
        replace p133 := eq_true p133
        replace q133 := eq_true q133
        go_wp2
        repeat (go_quiet (fail); try go_wp2)
        go_roundg k1
        case measure => have := HK1.out; omega
        case rel => exact ⟨(wrap64 (x4_1 + 1)), (x129000_1), (x129001_1), eX, H', ⟨by have := HK1.out; omega⟩, ⟨by (with_reducible repeat (first | apply Kd.R_alloc | apply Kd.R_drewN | apply Kd.R_drew)); exact HO_3.out⟩, ⟨kX BK128.out⟩, ⟨bX HB.out⟩⟩
       ·rw [if_neg c11] at H
        have c11b0 : ((rd l0 x4_1) == (rd y129 x4_1)) = false := beq_eq_false_iff_ne.mpr c11
        have c11b1 : ((rd l0 x4_1) != (rd y129 x4_1)) = true := bne_iff_ne.mpr c11
        simp only [Option.some.injEq, Prod.mk.injEq] at H
        obtain ⟨rfl, rfl⟩ := H
        obtain ⟨Ao13, co13, eo13⟩ := Kd.R_slice HO_3.out
        subst eo13
        have p132 : 0 ≤ (x4_1 : Int) := of_decide_eq_true aX
        have q132 : x4_1 < (l0.length : Int) := of_decide_eq_true aX
        obtain ⟨ad132, e132, hx132_0⟩ := Kd.at_int HR0.out x4_1 p132 q132
        cases e132
        replace hx132_0 := (HB.out.cell (World.block_lt_of_cell? w _ hx132_0)).trans hx132_0
        replace p132 := eq_true p132
        replace q132 := eq_true q132
        have p133 : 0 ≤ (x4_1 : Int) := of_decide_eq_true aX
        have q133 : x4_1 < (y129.length : Int) := of_decide_eq_true aX
        obtain ⟨ad133, e133, hx133_0⟩ := Kd.at_int (Kd.R_reads' HO_3.out).2.2 x4_1 p133 q133
        cases e133
        replace p133 := eq_true p133
        replace q133 := eq_true q133
        have hcz14_0 : wr.cell? ⟨gb128, 0, none⟩ = some (.int .i64 x129000_1) := (kCe BK128.out 0).trans rfl
        have hcz14_1 : wr.cell? ⟨gb128, 1, none⟩ = some (.int .i64 x129001_1) := (kCe BK128.out 1).trans rfl
        have hfz14_0 := kFr BK128.out 0
        have hfz14_1 := kFr BK128.out 1
        go_wp2
        repeat (go_quiet (fail); try go_wp2)
        refine bodyPost_ret (results_cell_row rfl _ _ gb128 66 #[.int .i64 x4_1, .int .i64 21] (0, 0) _ rfl (by (with_reducible repeat (first | refine kDn ?_ _ | refine kDr ?_ | refine kAl ?_ _)); refine kPu (cs := #[.int .i64 x4_1, .int .i64 x129001_1]) ?_ 1 _ rfl; (with_reducible repeat (first | refine kDn ?_ _ | refine kDr ?_ | refine kAl ?_ _)); refine kPu (cs := #[.int .i64 x129000_1, .int .i64 x129001_1]) ?_ 0 _ rfl; (with_reducible repeat (first | refine kDn ?_ _ | refine kDr ?_ | refine kAl ?_ _)); exact BK128.out) Tryz.underlying66 rfl (by kernel_rfl)) rfl ?_
        exact ⟨rX, bX HB.out⟩
      ·rw [if_neg c10] at H
       exact absurd H (by simp)
     ·rw [if_neg c9] at H
      exact absurd H (by simp)
   ·rw [if_neg c5] at H
    have c5b0 : decide (x4_1 < (y129.length : Int)) = false := decide_eq_false c5
    clear c5
    by_cases c15 : (l0.length : Int) < 64
    ·rw [if_pos c15] at H
     have c15b0 : decide ((l0.length : Int) < 64) = true := decide_eq_true c15
     have c15b1 : decide (l0.length < 64) = true := decide_eq_true (by omega)
     clear c15
     simp only [Option.some.injEq, Prod.mk.injEq] at H
     obtain ⟨rfl, rfl⟩ := H
     obtain ⟨Ao16, co16, eo16⟩ := Kd.R_slice HO_3.out
     subst eo16
     have hcz17_0 : wr.cell? ⟨gb128, 0, none⟩ = some (.int .i64 x129000_1) := (kCe BK128.out 0).trans rfl
     have hcz17_1 : wr.cell? ⟨gb128, 1, none⟩ = some (.int .i64 x129001_1) := (kCe BK128.out 1).trans rfl
     have hfz17_0 := kFr BK128.out 0
     have hfz17_1 := kFr BK128.out 1
     go_wp2
     repeat (go_quiet (fail); try go_wp2)
     refine bodyPost_ret (results_cell_row rfl _ _ gb128 66 #[.int .i64 (l0.length : Int), .int .i64 20] (0, 0) _ rfl (by (with_reducible repeat (first | refine kDn ?_ _ | refine kDr ?_ | refine kAl ?_ _)); refine kPu (cs := #[.int .i64 (l0.length : Int), .int .i64 x129001_1]) ?_ 1 _ rfl; (with_reducible repeat (first | refine kDn ?_ _ | refine kDr ?_ | refine kAl ?_ _)); refine kPu (cs := #[.int .i64 x129000_1, .int .i64 x129001_1]) ?_ 0 _ rfl; (with_reducible repeat (first | refine kDn ?_ _ | refine kDr ?_ | refine kAl ?_ _)); exact BK128.out) Tryz.underlying66 rfl (by kernel_rfl)) rfl ?_
     exact ⟨rX, bX HB.out⟩
    ·rw [if_neg c15] at H
     have c15b0 : decide ((l0.length : Int) < 64) = false := decide_eq_false c15
     have c15b1 : decide (l0.length < 64) = false := decide_eq_false (by omega)
     clear c15
     replace H := Option.bind_eq_some_iff.mp H
     obtain ⟨t134, A180, H⟩ := H
     have A18 := Asd.mk A180
     clear A180
     replace H := Option.bind_eq_some_iff.mp H
     obtain ⟨t135, A190, H⟩ := H
     have A19 := Asd.mk A190
     clear A190
     by_cases c20 : t135 = 2
     ·rw [if_pos c20] at H
      have c20b0 : (t135 == 2) = true := beq_iff_eq.mpr c20
      have c20b1 : (t135 != 2) = false := bne_eq_false_iff_eq.mpr c20
      clear c20
      replace H := Option.bind_eq_some_iff.mp H
      obtain ⟨t136, A210, H⟩ := H
      have A21 := Asd.mk A210
      clear A210
      by_cases c22 : t136 = 243
      ·rw [if_pos c22] at H
       have c22b0 : (t136 == 243) = true := beq_iff_eq.mpr c22
       have c22b1 : (t136 != 243) = false := bne_eq_false_iff_eq.mpr c22
       clear c22
       replace H := Option.bind_eq_some_iff.mp H
       obtain ⟨t137, A230, H⟩ := H
       have A23 := Asd.mk A230
       clear A230
       by_cases c24 : t137 = 1
       ·rw [if_pos c24] at H
        have c24b0 : (t137 == 1) = true := beq_iff_eq.mpr c24
        have c24b1 : (t137 != 1) = false := bne_eq_false_iff_eq.mpr c24
        clear c24
        replace H := Option.bind_eq_some_iff.mp H
        obtain ⟨t138, A250, H⟩ := H
        have A25 := Asd.mk A250
        clear A250
        by_cases c26 : (Int.tmod t138 2) = 1
        ·rw [if_pos c26] at H
         have c26b0 : ((Int.tmod t138 2) == 1) = true := beq_iff_eq.mpr c26
         have c26b1 : ((Int.tmod t138 2) != 1) = false := bne_eq_false_iff_eq.mpr c26
         clear c26
         simp only [Option.some.injEq, Prod.mk.injEq] at H
         obtain ⟨rfl, rfl⟩ := H
         obtain ⟨Ao27, co27, eo27⟩ := Kd.R_slice HO_3.out
         subst eo27
         go_wp2_with (first | (go_at_call 34; (with_reducible refine (anvilref02_value.calls k1 _ _ l0 56 2 t134 _ ?side1 ?side2 A18.out).mono ?_); (case side1 => exact cX HR0.out HB.out); (case side2 => exact HC0.out); rintro e w' ⟨rfl, ⟨nd, rfl⟩⟩; (try exact wX)) | (go_at_call 34; (with_reducible refine (anvilref02_value.calls k1 _ _ l0 16 2 t135 _ ?side1 ?side2 A19.out).mono ?_); (case side1 => exact cX HR0.out HB.out); (case side2 => exact HC0.out); rintro e w' ⟨rfl, ⟨nd, rfl⟩⟩; (try exact wX)) | (go_at_call 34; (with_reducible refine (anvilref02_value.calls k1 _ _ l0 18 2 t136 _ ?side1 ?side2 A21.out).mono ?_); (case side1 => exact cX HR0.out HB.out); (case side2 => exact HC0.out); rintro e w' ⟨rfl, ⟨nd, rfl⟩⟩; (try exact wX)) | (go_at_call 34; (with_reducible refine (anvilref02_value.calls k1 _ _ l0 20 4 t137 _ ?side1 ?side2 A23.out).mono ?_); (case side1 => exact cX HR0.out HB.out); (case side2 => exact HC0.out); rintro e w' ⟨rfl, ⟨nd, rfl⟩⟩; (try exact wX)) | (go_at_call 34; (with_reducible refine (anvilref02_value.calls k1 _ _ l0 24 8 t138 _ ?side1 ?side2 A25.out).mono ?_); (case side1 => exact cX HR0.out HB.out); (case side2 => exact HC0.out); rintro e w' ⟨rfl, ⟨nd, rfl⟩⟩; (try exact wX); have hcz28_0 : wr.cell? ⟨gb128, 0, none⟩ = some (.int .i64 x129000_1) := (kCe BK128.out 0).trans rfl; have hcz28_1 : wr.cell? ⟨gb128, 1, none⟩ = some (.int .i64 x129001_1) := (kCe BK128.out 1).trans rfl; have hfz28_0 := kFr BK128.out 0; have hfz28_1 := kFr BK128.out 1))
         refine bodyPost_ret (results_cell_row rfl _ _ gb128 66 #[.int .i64 24, .int .i64 22] (0, 0) _ rfl (by (with_reducible repeat (first | refine kDn ?_ _ | refine kDr ?_ | refine kAl ?_ _)); refine kPu (cs := #[.int .i64 24, .int .i64 x129001_1]) ?_ 1 _ rfl; (with_reducible repeat (first | refine kDn ?_ _ | refine kDr ?_ | refine kAl ?_ _)); refine kPu (cs := #[.int .i64 x129000_1, .int .i64 x129001_1]) ?_ 0 _ rfl; (with_reducible repeat (first | refine kDn ?_ _ | refine kDr ?_ | refine kAl ?_ _)); exact BK128.out) Tryz.underlying66 rfl (by kernel_rfl)) rfl ?_
         exact ⟨rX, bX HB.out⟩
        ·rw [if_neg c26] at H
         have c26b0 : ((Int.tmod t138 2) == 1) = false := beq_eq_false_iff_ne.mpr c26
         have c26b1 : ((Int.tmod t138 2) != 1) = true := bne_iff_ne.mpr c26
         replace H := Option.bind_eq_some_iff.mp H
         obtain ⟨t139, A290, H⟩ := H
         have A29 := Asd.mk A290
         clear A290
         by_cases c30 : t139 > 1
         ·rw [if_pos c30] at H
          have c30b0 : decide (1 < t139) = true := decide_eq_true c30
          clear c30
          simp only [Option.some.injEq, Prod.mk.injEq] at H
          obtain ⟨rfl, rfl⟩ := H
          obtain ⟨Ao31, co31, eo31⟩ := Kd.R_slice HO_3.out
          subst eo31
          go_wp2_with (first | (go_at_call 34; (with_reducible refine (anvilref02_value.calls k1 _ _ l0 56 2 t134 _ ?side1 ?side2 A18.out).mono ?_); (case side1 => exact cX HR0.out HB.out); (case side2 => exact HC0.out); rintro e w' ⟨rfl, ⟨nd, rfl⟩⟩; (try exact wX)) | (go_at_call 34; (with_reducible refine (anvilref02_value.calls k1 _ _ l0 16 2 t135 _ ?side1 ?side2 A19.out).mono ?_); (case side1 => exact cX HR0.out HB.out); (case side2 => exact HC0.out); rintro e w' ⟨rfl, ⟨nd, rfl⟩⟩; (try exact wX)) | (go_at_call 34; (with_reducible refine (anvilref02_value.calls k1 _ _ l0 18 2 t136 _ ?side1 ?side2 A21.out).mono ?_); (case side1 => exact cX HR0.out HB.out); (case side2 => exact HC0.out); rintro e w' ⟨rfl, ⟨nd, rfl⟩⟩; (try exact wX)) | (go_at_call 34; (with_reducible refine (anvilref02_value.calls k1 _ _ l0 20 4 t137 _ ?side1 ?side2 A23.out).mono ?_); (case side1 => exact cX HR0.out HB.out); (case side2 => exact HC0.out); rintro e w' ⟨rfl, ⟨nd, rfl⟩⟩; (try exact wX)) | (go_at_call 34; (with_reducible refine (anvilref02_value.calls k1 _ _ l0 24 8 t138 _ ?side1 ?side2 A25.out).mono ?_); (case side1 => exact cX HR0.out HB.out); (case side2 => exact HC0.out); rintro e w' ⟨rfl, ⟨nd, rfl⟩⟩; (try exact wX)) | (go_at_call 34; (with_reducible refine (anvilref02_value.calls k1 _ _ l0 48 4 t139 _ ?side1 ?side2 A29.out).mono ?_); (case side1 => exact cX HR0.out HB.out); (case side2 => exact HC0.out); rintro e w' ⟨rfl, ⟨nd, rfl⟩⟩; (try exact wX); have hcz32_0 : wr.cell? ⟨gb128, 0, none⟩ = some (.int .i64 x129000_1) := (kCe BK128.out 0).trans rfl; have hcz32_1 : wr.cell? ⟨gb128, 1, none⟩ = some (.int .i64 x129001_1) := (kCe BK128.out 1).trans rfl; have hfz32_0 := kFr BK128.out 0; have hfz32_1 := kFr BK128.out 1))
          refine bodyPost_ret (results_cell_row rfl _ _ gb128 66 #[.int .i64 48, .int .i64 22] (0, 0) _ rfl (by (with_reducible repeat (first | refine kDn ?_ _ | refine kDr ?_ | refine kAl ?_ _)); refine kPu (cs := #[.int .i64 48, .int .i64 x129001_1]) ?_ 1 _ rfl; (with_reducible repeat (first | refine kDn ?_ _ | refine kDr ?_ | refine kAl ?_ _)); refine kPu (cs := #[.int .i64 x129000_1, .int .i64 x129001_1]) ?_ 0 _ rfl; (with_reducible repeat (first | refine kDn ?_ _ | refine kDr ?_ | refine kAl ?_ _)); exact BK128.out) Tryz.underlying66 rfl (by kernel_rfl)) rfl ?_
          exact ⟨rX, bX HB.out⟩
         ·rw [if_neg c30] at H
          have c30b0 : decide (1 < t139) = false := decide_eq_false c30
          clear c30
          replace H := Option.bind_eq_some_iff.mp H
          obtain ⟨t140, A330, H⟩ := H
          have A33 := Asd.mk A330
          clear A330
          by_cases c34 : t140 = 64
          ·rw [if_pos c34] at H
           have c34b0 : (t140 == 64) = true := beq_iff_eq.mpr c34
           have c34b1 : (t140 != 64) = false := bne_eq_false_iff_eq.mpr c34
           clear c34
           have HC35 := Asd.mk H
           clear H
           obtain ⟨Ao36, co36, eo36⟩ := Kd.R_slice HO_3.out
           subst eo36
           go_upto_region 24 with (first | (go_at_call 34; (with_reducible refine (anvilref02_value.calls k1 _ _ l0 56 2 t134 _ ?side1 ?side2 A18.out).mono ?_); (case side1 => exact cX HR0.out HB.out); (case side2 => exact HC0.out); rintro e w' ⟨rfl, ⟨nd, rfl⟩⟩; (try exact wX)) | (go_at_call 34; (with_reducible refine (anvilref02_value.calls k1 _ _ l0 16 2 t135 _ ?side1 ?side2 A19.out).mono ?_); (case side1 => exact cX HR0.out HB.out); (case side2 => exact HC0.out); rintro e w' ⟨rfl, ⟨nd, rfl⟩⟩; (try exact wX)) | (go_at_call 34; (with_reducible refine (anvilref02_value.calls k1 _ _ l0 18 2 t136 _ ?side1 ?side2 A21.out).mono ?_); (case side1 => exact cX HR0.out HB.out); (case side2 => exact HC0.out); rintro e w' ⟨rfl, ⟨nd, rfl⟩⟩; (try exact wX)) | (go_at_call 34; (with_reducible refine (anvilref02_value.calls k1 _ _ l0 20 4 t137 _ ?side1 ?side2 A23.out).mono ?_); (case side1 => exact cX HR0.out HB.out); (case side2 => exact HC0.out); rintro e w' ⟨rfl, ⟨nd, rfl⟩⟩; (try exact wX)) | (go_at_call 34; (with_reducible refine (anvilref02_value.calls k1 _ _ l0 24 8 t138 _ ?side1 ?side2 A25.out).mono ?_); (case side1 => exact cX HR0.out HB.out); (case side2 => exact HC0.out); rintro e w' ⟨rfl, ⟨nd, rfl⟩⟩; (try exact wX)) | (go_at_call 34; (with_reducible refine (anvilref02_value.calls k1 _ _ l0 48 4 t139 _ ?side1 ?side2 A29.out).mono ?_); (case side1 => exact cX HR0.out HB.out); (case side2 => exact HC0.out); rintro e w' ⟨rfl, ⟨nd, rfl⟩⟩; (try exact wX)) | (go_at_call 34; (with_reducible refine (anvilref02_value.calls k1 _ _ l0 52 2 t140 _ ?side1 ?side2 A33.out).mono ?_); (case side1 => exact cX HR0.out HB.out); (case side2 => exact HC0.out); rintro e w' ⟨rfl, ⟨nd, rfl⟩⟩; (try exact wX)))
           (try simp only [Act.put, List.setIfInBounds_toArray, List.set_cons_zero, List.set_cons_succ])
           go_cut [70] (fun v70 wc => ∃ (kq : Nat) (x70_34 : Bool), v70 = .bool x70_34 ∧ Asd (anvilref02_head.j1 kq l0 t134 x70_34 = some (r1, r2)) ∧ Asd (kq ≤ k1) ∧ Asd (wc.heap[gb128]? = some (.cells #[.int .i64 x129000_1, .int .i64 x129001_1] 66 (0, 0))) ∧ Asd (Below w.heap.size w wc))
           case first =>
            have H := HC35.out
            clear HC35
            by_cases c37 : t134 = 0
            ·rw [if_pos c37] at H
             have c37b0 : (t134 == 0) = true := beq_iff_eq.mpr c37
             have c37b1 : (t134 != 0) = false := bne_eq_false_iff_eq.mpr c37
             clear c37
             (first | rw [c37b0] | (simp only [i64_w, i32_w]; rw [c37b0]) | rw [c37b1] | skip)
             have H' := Asd.mk H
             clear H
             go_wp2
             repeat (go_quiet (fail); try go_wp2)
             go_meet
             case rel => exact ⟨_, (false), eX, H', ⟨by have := HK1.out; first | omega | exact Nat.le_refl _⟩, ⟨kX BK128.out⟩, ⟨bX HB.out⟩⟩
            ·rw [if_neg c37] at H
             have c37b0 : (t134 == 0) = false := beq_eq_false_iff_ne.mpr c37
             have c37b1 : (t134 != 0) = true := bne_iff_ne.mpr c37
             (first | rw [c37b0] | (simp only [i64_w, i32_w]; rw [c37b0]) | rw [c37b1] | skip)
             replace H := Option.bind_eq_some_iff.mp H
             obtain ⟨t141, A380, H⟩ := H
             have A38 := Asd.mk A380
             clear A380
             have H' := Asd.mk H
             clear H
             go_wp2_with (first | (go_at_call 34; (with_reducible refine (anvilref02_value.calls k1 _ _ l0 54 2 t141 _ ?side1 ?side2 A38.out).mono ?_); (case side1 => exact cX HR0.out HB.out); (case side2 => exact HC0.out); rintro e w' ⟨rfl, ⟨nd, rfl⟩⟩; (try exact wX)))
             go_meet
             case rel => exact ⟨_, ((t141 != 56)), eX, H', ⟨by have := HK1.out; first | omega | exact Nat.le_refl _⟩, ⟨kX BK128.out⟩, ⟨bX HB.out⟩⟩
           case rest =>
            clear HC35
            try clear c1
            try clear p1
            try clear q1
            try clear hx1
            try clear c2
            try clear p2
            try clear c3
            try clear c5
            try clear c5b0
            try clear c6
            try clear c6b0
            try clear p6
            try clear c9
            try clear c9b0
            try clear c10
            try clear c10b0
            try clear c11
            try clear c11b0
            try clear c11b1
            try clear p13
            try clear q13
            try clear hx13
            try clear c15
            try clear c15b0
            try clear c15b1
            try clear c20
            try clear c20b0
            try clear c20b1
            try clear c22
            try clear c22b0
            try clear c22b1
            try clear c24
            try clear c24b0
            try clear c24b1
            try clear c26
            try clear c26b0
            try clear c26b1
            try clear c30
            try clear c30b0
            try clear c31
            try clear c34
            try clear c34b0
            try clear c34b1
            try clear c37
            try clear c37b0
            try clear c37b1
            try clear hcz14_0
            try clear hcz14_1
            try clear hcz17_0
            try clear hcz17_1
            try clear hcz28_0
            try clear hcz28_1
            try clear hcz32_0
            try clear hcz32_1
            try clear hcz8_0
            try clear hcz8_1
            try clear hfz14_0
            try clear hfz14_1
            try clear hfz17_0
            try clear hfz17_1
            try clear hfz28_0
            try clear hfz28_1
            try clear hfz32_0
            try clear hfz32_1
            try clear hfz8_0
            try clear hfz8_1
            try clear hx132_0
            try clear hx133_0
            try clear p132
            try clear p133
            try clear p2
            try clear q132
            try clear q133
            obtain ⟨kq, x70_34, rfl, HA, HJ34, BK128, HB⟩ := hcut
            cases kq with
            | zero => exact absurd HA.out (by simp [anvilref02_head.j1])
            | succ kj34 =>
             have H := HA.out
             clear HA
             simp only [anvilref02_head.j1] at H
             by_cases c39 : x70_34 = true
             ·subst c39
              have H1 : (some (54, 22)) = some (r1, r2) := by rw [if_pos rfl] at H; exact H
              clear H
              have H := H1
              clear H1
              simp only [Option.some.injEq, Prod.mk.injEq] at H
              obtain ⟨rfl, rfl⟩ := H
              have hcz40_0 : wc.cell? ⟨gb128, 0, none⟩ = some (.int .i64 x129000_1) := (kCe BK128.out 0).trans rfl
              have hcz40_1 : wc.cell? ⟨gb128, 1, none⟩ = some (.int .i64 x129001_1) := (kCe BK128.out 1).trans rfl
              have hfz40_0 := kFr BK128.out 0
              have hfz40_1 := kFr BK128.out 1
              go_wp2
              repeat (go_quiet (fail); try go_wp2)
              refine bodyPost_ret (results_cell_row rfl _ _ gb128 66 #[.int .i64 54, .int .i64 22] (0, 0) _ rfl (by (with_reducible repeat (first | refine kDn ?_ _ | refine kDr ?_ | refine kAl ?_ _)); refine kPu (cs := #[.int .i64 54, .int .i64 x129001_1]) ?_ 1 _ rfl; (with_reducible repeat (first | refine kDn ?_ _ | refine kDr ?_ | refine kAl ?_ _)); refine kPu (cs := #[.int .i64 x129000_1, .int .i64 x129001_1]) ?_ 0 _ rfl; (with_reducible repeat (first | refine kDn ?_ _ | refine kDr ?_ | refine kAl ?_ _)); exact BK128.out) Tryz.underlying66 rfl (by kernel_rfl)) rfl ?_
              exact ⟨rX, bX HB.out⟩
             ·replace c39 := Bool.eq_false_iff.mpr c39
              subst c39
              have H1 : (if t134 > 16 then (some (56, 2)) else ((anvilref02_value.f kj34 l0 32 8).bind fun t142 => ((anvilref02_room.f l0 t142 (IntKind.u64.wrap (56 * t134))).bind fun t143 => (if t143 = true then (some (0, 0)) else (some (32, 20)))))) = some (r1, r2) := by rw [if_neg (show ¬ (false = true) by decide)] at H; exact H
              clear H
              have H := H1
              clear H1
              by_cases c41 : t134 > 16
              ·rw [if_pos c41] at H
               have c41b0 : decide (16 < t134) = true := decide_eq_true c41
               clear c41
               simp only [Option.some.injEq, Prod.mk.injEq] at H
               obtain ⟨rfl, rfl⟩ := H
               have hcz42_0 : wc.cell? ⟨gb128, 0, none⟩ = some (.int .i64 x129000_1) := (kCe BK128.out 0).trans rfl
               have hcz42_1 : wc.cell? ⟨gb128, 1, none⟩ = some (.int .i64 x129001_1) := (kCe BK128.out 1).trans rfl
               have hfz42_0 := kFr BK128.out 0
               have hfz42_1 := kFr BK128.out 1
               go_wp2
               repeat (go_quiet (fail); try go_wp2)
               refine bodyPost_ret (results_cell_row rfl _ _ gb128 66 #[.int .i64 56, .int .i64 2] (0, 0) _ rfl (by (with_reducible repeat (first | refine kDn ?_ _ | refine kDr ?_ | refine kAl ?_ _)); refine kPu (cs := #[.int .i64 56, .int .i64 x129001_1]) ?_ 1 _ rfl; (with_reducible repeat (first | refine kDn ?_ _ | refine kDr ?_ | refine kAl ?_ _)); refine kPu (cs := #[.int .i64 x129000_1, .int .i64 x129001_1]) ?_ 0 _ rfl; (with_reducible repeat (first | refine kDn ?_ _ | refine kDr ?_ | refine kAl ?_ _)); exact BK128.out) Tryz.underlying66 rfl (by kernel_rfl)) rfl ?_
               exact ⟨rX, bX HB.out⟩
              ·rw [if_neg c41] at H
               have c41b0 : decide (16 < t134) = false := decide_eq_false c41
               clear c41
               replace H := Option.bind_eq_some_iff.mp H
               obtain ⟨t142, A430, H⟩ := H
               have A43 := Asd.mk A430
               clear A430
               replace H := Option.bind_eq_some_iff.mp H
               obtain ⟨t143, A440, H⟩ := H
               have A44 := Asd.mk A440
               clear A440
               by_cases c45 : t143 = true
               ·subst c45
                have H1 : (some (0, 0)) = some (r1, r2) := by rw [if_pos rfl] at H; exact H
                clear H
                have H := H1
                clear H1
                simp only [Option.some.injEq, Prod.mk.injEq] at H
                obtain ⟨rfl, rfl⟩ := H
                go_wp2_with (first | (go_at_call 34; (with_reducible refine (anvilref02_value.calls kj34 _ _ l0 32 8 t142 _ ?side1 ?side2 A43.out).mono ?_); (case side1 => exact cX HR0.out HB.out); (case side2 => exact HC0.out); rintro e w' ⟨rfl, ⟨nd, rfl⟩⟩; (try exact wX)) | (go_at_call 62; (with_reducible refine (anvilref02_room.calls _ _ l0 t142 (IntKind.u64.wrap (56 * t134)) true _ ?side1 ?side2 A44.out).mono ?_); (case side1 => exact cX HR0.out HB.out); (case side2 => exact HC0.out); rintro e w' ⟨rfl, ⟨nd, rfl⟩⟩; (try exact wX); have hcz46_0 : wc.cell? ⟨gb128, 0, none⟩ = some (.int .i64 x129000_1) := (kCe BK128.out 0).trans rfl; have hcz46_1 : wc.cell? ⟨gb128, 1, none⟩ = some (.int .i64 x129001_1) := (kCe BK128.out 1).trans rfl; have hfz46_0 := kFr BK128.out 0; have hfz46_1 := kFr BK128.out 1))
                refine bodyPost_ret (results_cell_row rfl _ _ gb128 66 #[.int .i64 0, .int .i64 0] (0, 0) _ rfl (by (with_reducible repeat (first | refine kDn ?_ _ | refine kDr ?_ | refine kAl ?_ _)); refine kPu (cs := #[.int .i64 0, .int .i64 x129001_1]) ?_ 1 _ rfl; (with_reducible repeat (first | refine kDn ?_ _ | refine kDr ?_ | refine kAl ?_ _)); refine kPu (cs := #[.int .i64 x129000_1, .int .i64 x129001_1]) ?_ 0 _ rfl; (with_reducible repeat (first | refine kDn ?_ _ | refine kDr ?_ | refine kAl ?_ _)); exact BK128.out) Tryz.underlying66 rfl (by kernel_rfl)) rfl ?_
                exact ⟨rX, bX HB.out⟩
               ·replace c45 := Bool.eq_false_iff.mpr c45
                subst c45
                have H1 : (some (32, 20)) = some (r1, r2) := by rw [if_neg (show ¬ (false = true) by decide)] at H; exact H
                clear H
                have H := H1
                clear H1
                simp only [Option.some.injEq, Prod.mk.injEq] at H
                obtain ⟨rfl, rfl⟩ := H
                go_wp2_with (first | (go_at_call 34; (with_reducible refine (anvilref02_value.calls kj34 _ _ l0 32 8 t142 _ ?side1 ?side2 A43.out).mono ?_); (case side1 => exact cX HR0.out HB.out); (case side2 => exact HC0.out); rintro e w' ⟨rfl, ⟨nd, rfl⟩⟩; (try exact wX)) | (go_at_call 62; (with_reducible refine (anvilref02_room.calls _ _ l0 t142 (IntKind.u64.wrap (56 * t134)) false _ ?side1 ?side2 A44.out).mono ?_); (case side1 => exact cX HR0.out HB.out); (case side2 => exact HC0.out); rintro e w' ⟨rfl, ⟨nd, rfl⟩⟩; (try exact wX); have hcz47_0 : wc.cell? ⟨gb128, 0, none⟩ = some (.int .i64 x129000_1) := (kCe BK128.out 0).trans rfl; have hcz47_1 : wc.cell? ⟨gb128, 1, none⟩ = some (.int .i64 x129001_1) := (kCe BK128.out 1).trans rfl; have hfz47_0 := kFr BK128.out 0; have hfz47_1 := kFr BK128.out 1))
                refine bodyPost_ret (results_cell_row rfl _ _ gb128 66 #[.int .i64 32, .int .i64 20] (0, 0) _ rfl (by (with_reducible repeat (first | refine kDn ?_ _ | refine kDr ?_ | refine kAl ?_ _)); refine kPu (cs := #[.int .i64 32, .int .i64 x129001_1]) ?_ 1 _ rfl; (with_reducible repeat (first | refine kDn ?_ _ | refine kDr ?_ | refine kAl ?_ _)); refine kPu (cs := #[.int .i64 x129000_1, .int .i64 x129001_1]) ?_ 0 _ rfl; (with_reducible repeat (first | refine kDn ?_ _ | refine kDr ?_ | refine kAl ?_ _)); exact BK128.out) Tryz.underlying66 rfl (by kernel_rfl)) rfl ?_
                exact ⟨rX, bX HB.out⟩
          ·rw [if_neg c34] at H
           have c34b0 : (t140 == 64) = false := beq_eq_false_iff_ne.mpr c34
           have c34b1 : (t140 != 64) = true := bne_iff_ne.mpr c34
           simp only [Option.some.injEq, Prod.mk.injEq] at H
           obtain ⟨rfl, rfl⟩ := H
           obtain ⟨Ao48, co48, eo48⟩ := Kd.R_slice HO_3.out
           subst eo48
           go_wp2_with (first | (go_at_call 34; (with_reducible refine (anvilref02_value.calls k1 _ _ l0 56 2 t134 _ ?side1 ?side2 A18.out).mono ?_); (case side1 => exact cX HR0.out HB.out); (case side2 => exact HC0.out); rintro e w' ⟨rfl, ⟨nd, rfl⟩⟩; (try exact wX)) | (go_at_call 34; (with_reducible refine (anvilref02_value.calls k1 _ _ l0 16 2 t135 _ ?side1 ?side2 A19.out).mono ?_); (case side1 => exact cX HR0.out HB.out); (case side2 => exact HC0.out); rintro e w' ⟨rfl, ⟨nd, rfl⟩⟩; (try exact wX)) | (go_at_call 34; (with_reducible refine (anvilref02_value.calls k1 _ _ l0 18 2 t136 _ ?side1 ?side2 A21.out).mono ?_); (case side1 => exact cX HR0.out HB.out); (case side2 => exact HC0.out); rintro e w' ⟨rfl, ⟨nd, rfl⟩⟩; (try exact wX)) | (go_at_call 34; (with_reducible refine (anvilref02_value.calls k1 _ _ l0 20 4 t137 _ ?side1 ?side2 A23.out).mono ?_); (case side1 => exact cX HR0.out HB.out); (case side2 => exact HC0.out); rintro e w' ⟨rfl, ⟨nd, rfl⟩⟩; (try exact wX)) | (go_at_call 34; (with_reducible refine (anvilref02_value.calls k1 _ _ l0 24 8 t138 _ ?side1 ?side2 A25.out).mono ?_); (case side1 => exact cX HR0.out HB.out); (case side2 => exact HC0.out); rintro e w' ⟨rfl, ⟨nd, rfl⟩⟩; (try exact wX)) | (go_at_call 34; (with_reducible refine (anvilref02_value.calls k1 _ _ l0 48 4 t139 _ ?side1 ?side2 A29.out).mono ?_); (case side1 => exact cX HR0.out HB.out); (case side2 => exact HC0.out); rintro e w' ⟨rfl, ⟨nd, rfl⟩⟩; (try exact wX)) | (go_at_call 34; (with_reducible refine (anvilref02_value.calls k1 _ _ l0 52 2 t140 _ ?side1 ?side2 A33.out).mono ?_); (case side1 => exact cX HR0.out HB.out); (case side2 => exact HC0.out); rintro e w' ⟨rfl, ⟨nd, rfl⟩⟩; (try exact wX); have hcz49_0 : wr.cell? ⟨gb128, 0, none⟩ = some (.int .i64 x129000_1) := (kCe BK128.out 0).trans rfl; have hcz49_1 : wr.cell? ⟨gb128, 1, none⟩ = some (.int .i64 x129001_1) := (kCe BK128.out 1).trans rfl; have hfz49_0 := kFr BK128.out 0; have hfz49_1 := kFr BK128.out 1))
           refine bodyPost_ret (results_cell_row rfl _ _ gb128 66 #[.int .i64 52, .int .i64 22] (0, 0) _ rfl (by (with_reducible repeat (first | refine kDn ?_ _ | refine kDr ?_ | refine kAl ?_ _)); refine kPu (cs := #[.int .i64 52, .int .i64 x129001_1]) ?_ 1 _ rfl; (with_reducible repeat (first | refine kDn ?_ _ | refine kDr ?_ | refine kAl ?_ _)); refine kPu (cs := #[.int .i64 x129000_1, .int .i64 x129001_1]) ?_ 0 _ rfl; (with_reducible repeat (first | refine kDn ?_ _ | refine kDr ?_ | refine kAl ?_ _)); exact BK128.out) Tryz.underlying66 rfl (by kernel_rfl)) rfl ?_
           exact ⟨rX, bX HB.out⟩
       ·rw [if_neg c24] at H
        have c24b0 : (t137 == 1) = false := beq_eq_false_iff_ne.mpr c24
        have c24b1 : (t137 != 1) = true := bne_iff_ne.mpr c24
        simp only [Option.some.injEq, Prod.mk.injEq] at H
        obtain ⟨rfl, rfl⟩ := H
        obtain ⟨Ao50, co50, eo50⟩ := Kd.R_slice HO_3.out
        subst eo50
        go_wp2_with (first | (go_at_call 34; (with_reducible refine (anvilref02_value.calls k1 _ _ l0 56 2 t134 _ ?side1 ?side2 A18.out).mono ?_); (case side1 => exact cX HR0.out HB.out); (case side2 => exact HC0.out); rintro e w' ⟨rfl, ⟨nd, rfl⟩⟩; (try exact wX)) | (go_at_call 34; (with_reducible refine (anvilref02_value.calls k1 _ _ l0 16 2 t135 _ ?side1 ?side2 A19.out).mono ?_); (case side1 => exact cX HR0.out HB.out); (case side2 => exact HC0.out); rintro e w' ⟨rfl, ⟨nd, rfl⟩⟩; (try exact wX)) | (go_at_call 34; (with_reducible refine (anvilref02_value.calls k1 _ _ l0 18 2 t136 _ ?side1 ?side2 A21.out).mono ?_); (case side1 => exact cX HR0.out HB.out); (case side2 => exact HC0.out); rintro e w' ⟨rfl, ⟨nd, rfl⟩⟩; (try exact wX)) | (go_at_call 34; (with_reducible refine (anvilref02_value.calls k1 _ _ l0 20 4 t137 _ ?side1 ?side2 A23.out).mono ?_); (case side1 => exact cX HR0.out HB.out); (case side2 => exact HC0.out); rintro e w' ⟨rfl, ⟨nd, rfl⟩⟩; (try exact wX); have hcz51_0 : wr.cell? ⟨gb128, 0, none⟩ = some (.int .i64 x129000_1) := (kCe BK128.out 0).trans rfl; have hcz51_1 : wr.cell? ⟨gb128, 1, none⟩ = some (.int .i64 x129001_1) := (kCe BK128.out 1).trans rfl; have hfz51_0 := kFr BK128.out 0; have hfz51_1 := kFr BK128.out 1))
        refine bodyPost_ret (results_cell_row rfl _ _ gb128 66 #[.int .i64 20, .int .i64 21] (0, 0) _ rfl (by (with_reducible repeat (first | refine kDn ?_ _ | refine kDr ?_ | refine kAl ?_ _)); refine kPu (cs := #[.int .i64 20, .int .i64 x129001_1]) ?_ 1 _ rfl; (with_reducible repeat (first | refine kDn ?_ _ | refine kDr ?_ | refine kAl ?_ _)); refine kPu (cs := #[.int .i64 x129000_1, .int .i64 x129001_1]) ?_ 0 _ rfl; (with_reducible repeat (first | refine kDn ?_ _ | refine kDr ?_ | refine kAl ?_ _)); exact BK128.out) Tryz.underlying66 rfl (by kernel_rfl)) rfl ?_
        exact ⟨rX, bX HB.out⟩
      ·rw [if_neg c22] at H
       have c22b0 : (t136 == 243) = false := beq_eq_false_iff_ne.mpr c22
       have c22b1 : (t136 != 243) = true := bne_iff_ne.mpr c22
       simp only [Option.some.injEq, Prod.mk.injEq] at H
       obtain ⟨rfl, rfl⟩ := H
       obtain ⟨Ao52, co52, eo52⟩ := Kd.R_slice HO_3.out
       subst eo52
       go_wp2_with (first | (go_at_call 34; (with_reducible refine (anvilref02_value.calls k1 _ _ l0 56 2 t134 _ ?side1 ?side2 A18.out).mono ?_); (case side1 => exact cX HR0.out HB.out); (case side2 => exact HC0.out); rintro e w' ⟨rfl, ⟨nd, rfl⟩⟩; (try exact wX)) | (go_at_call 34; (with_reducible refine (anvilref02_value.calls k1 _ _ l0 16 2 t135 _ ?side1 ?side2 A19.out).mono ?_); (case side1 => exact cX HR0.out HB.out); (case side2 => exact HC0.out); rintro e w' ⟨rfl, ⟨nd, rfl⟩⟩; (try exact wX)) | (go_at_call 34; (with_reducible refine (anvilref02_value.calls k1 _ _ l0 18 2 t136 _ ?side1 ?side2 A21.out).mono ?_); (case side1 => exact cX HR0.out HB.out); (case side2 => exact HC0.out); rintro e w' ⟨rfl, ⟨nd, rfl⟩⟩; (try exact wX); have hcz53_0 : wr.cell? ⟨gb128, 0, none⟩ = some (.int .i64 x129000_1) := (kCe BK128.out 0).trans rfl; have hcz53_1 : wr.cell? ⟨gb128, 1, none⟩ = some (.int .i64 x129001_1) := (kCe BK128.out 1).trans rfl; have hfz53_0 := kFr BK128.out 0; have hfz53_1 := kFr BK128.out 1))
       refine bodyPost_ret (results_cell_row rfl _ _ gb128 66 #[.int .i64 18, .int .i64 21] (0, 0) _ rfl (by (with_reducible repeat (first | refine kDn ?_ _ | refine kDr ?_ | refine kAl ?_ _)); refine kPu (cs := #[.int .i64 18, .int .i64 x129001_1]) ?_ 1 _ rfl; (with_reducible repeat (first | refine kDn ?_ _ | refine kDr ?_ | refine kAl ?_ _)); refine kPu (cs := #[.int .i64 x129000_1, .int .i64 x129001_1]) ?_ 0 _ rfl; (with_reducible repeat (first | refine kDn ?_ _ | refine kDr ?_ | refine kAl ?_ _)); exact BK128.out) Tryz.underlying66 rfl (by kernel_rfl)) rfl ?_
       exact ⟨rX, bX HB.out⟩
     ·rw [if_neg c20] at H
      have c20b0 : (t135 == 2) = false := beq_eq_false_iff_ne.mpr c20
      have c20b1 : (t135 != 2) = true := bne_iff_ne.mpr c20
      simp only [Option.some.injEq, Prod.mk.injEq] at H
      obtain ⟨rfl, rfl⟩ := H
      obtain ⟨Ao54, co54, eo54⟩ := Kd.R_slice HO_3.out
      subst eo54
      go_wp2_with (first | (go_at_call 34; (with_reducible refine (anvilref02_value.calls k1 _ _ l0 56 2 t134 _ ?side1 ?side2 A18.out).mono ?_); (case side1 => exact cX HR0.out HB.out); (case side2 => exact HC0.out); rintro e w' ⟨rfl, ⟨nd, rfl⟩⟩; (try exact wX)) | (go_at_call 34; (with_reducible refine (anvilref02_value.calls k1 _ _ l0 16 2 t135 _ ?side1 ?side2 A19.out).mono ?_); (case side1 => exact cX HR0.out HB.out); (case side2 => exact HC0.out); rintro e w' ⟨rfl, ⟨nd, rfl⟩⟩; (try exact wX); have hcz55_0 : wr.cell? ⟨gb128, 0, none⟩ = some (.int .i64 x129000_1) := (kCe BK128.out 0).trans rfl; have hcz55_1 : wr.cell? ⟨gb128, 1, none⟩ = some (.int .i64 x129001_1) := (kCe BK128.out 1).trans rfl; have hfz55_0 := kFr BK128.out 0; have hfz55_1 := kFr BK128.out 1))
      refine bodyPost_ret (results_cell_row rfl _ _ gb128 66 #[.int .i64 16, .int .i64 21] (0, 0) _ rfl (by (with_reducible repeat (first | refine kDn ?_ _ | refine kDr ?_ | refine kAl ?_ _)); refine kPu (cs := #[.int .i64 16, .int .i64 x129001_1]) ?_ 1 _ rfl; (with_reducible repeat (first | refine kDn ?_ _ | refine kDr ?_ | refine kAl ?_ _)); refine kPu (cs := #[.int .i64 x129000_1, .int .i64 x129001_1]) ?_ 0 _ rfl; (with_reducible repeat (first | refine kDn ?_ _ | refine kDr ?_ | refine kAl ?_ _)); exact BK128.out) Tryz.underlying66 rfl (by kernel_rfl)) rfl ?_
      exact ⟨rX, bX HB.out⟩
def anvilref02_flags.f (a0 : Int) : Option (Int) := some (wrap64 ((wrap64 ((wrap64 (Int.tmod (IntKind.u64.wrap (Int.tdiv a0 4)) 2)) + (wrap64 ((wrap64 (Int.tmod (IntKind.u64.wrap (Int.tdiv a0 2)) 2)) * 2)))) + (wrap64 ((wrap64 (Int.tmod a0 2)) * 4))))
set_option maxHeartbeats 8000000 in
set_option maxRecDepth 100000 in
theorem anvilref02_flags.calls (a0 : Int) (r : Int) (w : World) (h : anvilref02_flags.f a0 = some r) :
 Calls Tryz.prog 63 #[.int .u64 a0] w fun e w' => e = .returned (.int .i64 r) ∧ Drawn0 w w' := by
 have H : (some (wrap64 ((wrap64 ((wrap64 (Int.tmod (IntKind.u64.wrap (Int.tdiv a0 4)) 2)) + (wrap64 ((wrap64 (Int.tmod (IntKind.u64.wrap (Int.tdiv a0 2)) 2)) * 2)))) + (wrap64 ((wrap64 (Int.tmod a0 2)) * 4))))) = some r := h
 clear h
 obtain rfl := Option.some.inj H
 go_enter Tryz.func63, Tryz.ntmps63
 go_wp2
 go_ret
 exact ⟨eX, by repeat (first | exact Drawn0.refl _ | apply Drawn0.step)⟩
def anvilref02_last.f (a0 : Int) (a1 : Int) : Option (Int × Bool) := some (IntKind.u64.wrap (a0 + (IntKind.u64.wrap (a1 - 1))), decide ((IntKind.u64.wrap (a0 + (IntKind.u64.wrap (a1 - 1)))) ≥ a0))
set_option maxHeartbeats 8000000 in
set_option maxRecDepth 100000 in
theorem anvilref02_last.calls (a0 : Int) (a1 : Int) (r1 : Int) (r2 : Bool) (w : World) (h : anvilref02_last.f a0 a1 = some (r1, r2)) :
 Calls Tryz.prog 64 #[.int .u64 a0, .int .u64 a1] w fun e w' => e = .returned (.tuple #[.int .u64 r1, .bool r2]) ∧ Drawn0 w w' := by
 have H : (some (IntKind.u64.wrap (a0 + (IntKind.u64.wrap (a1 - 1))), decide ((IntKind.u64.wrap (a0 + (IntKind.u64.wrap (a1 - 1)))) ≥ a0))) = some (r1, r2) := h
 clear h
 simp only [Option.some.injEq, Prod.mk.injEq] at H
 obtain ⟨rfl, rfl⟩ := H
 go_enter Tryz.func64, Tryz.ntmps64
 go_wp2
 go_ret2
 exact ⟨eX, by repeat (first | exact Drawn0.refl _ | apply Drawn0.step)⟩
end Go.Proofs.YtbnlifldnjgpmaaGreatDoor.PWri
