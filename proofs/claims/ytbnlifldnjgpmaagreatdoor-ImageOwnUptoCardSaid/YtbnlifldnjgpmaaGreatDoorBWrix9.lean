-- BY PROGRAM of this session (the kit's printer, turned by wip/tools/patch_print.py). Lean checks it.
import Derived.Test.YtbnlifldnjgpmaaGreatDoorBGr1
import Derived.Test.YtbnlifldnjgpmaaGreatDoorBGr2
import Derived.Test.YtbnlifldnjgpmaaGreatDoorBWrix2
import Derived.Test.YtbnlifldnjgpmaaGreatDoorBWrix3
import Derived.Test.YtbnlifldnjgpmaaGreatDoorBWrix4
import Derived.Test.YtbnlifldnjgpmaaGreatDoorBWrix6
import Derived.Test.YtbnlifldnjgpmaaGreatDoorBWrix7
import Derived.Test.YtbnlifldnjgpmaaGreatDoorBWrix8
namespace Go.Proofs.YtbnlifldnjgpmaaGreatDoor.PWri
open Go.RowKit Go.Proofs.YtbnlifldnjgpmaaGreatDoorW.PrintWords Go.Proofs.YtbnlifldnjgpmaaGreatDoorW.PrintLast Go.Proofs.YtbnlifldnjgpmaaGreatDoorW.PrintMore
attribute [local go_sem] max2_int min2_int max_two min_two max_three min_three max_four min_four   -- for this text's walks alone
set_option linter.unusedVariables false
set_option linter.unusedSimpArgs false
attribute [local go_sem high] eqA82
def anvillaw02_same.f (l0 : List Int) (l1 : List Int) : Option (Bool) := some ((strOfNums l0).toList == (strOfNums l1).toList)
set_option maxHeartbeats 8000000 in
set_option maxRecDepth 100000 in
theorem anvillaw02_same.calls (A0 : Option Addr) (c0 : Nat) (l0 : List Int) (A1 : Option Addr) (c1 : Nat) (l1 : List Int) (r : Bool) (w : World) (hr0 : Kd.C (Kd.int .u8) w A0 l0.length l0) (hc0 : l0.length ≤ c0) (hr1 : Kd.C (Kd.int .u8) w A1 l1.length l1) (hc1 : l1.length ≤ c1) (h : anvillaw02_same.f l0 l1 = some r) :
 Calls Tryz.prog 38 #[.slice A0 l0.length c0, .slice A1 l1.length c1] w fun e w' => e = .returned (.bool r) ∧ Drawn0 w w' := by
 have HR0 := Asd.mk hr0
 have HC0 := Asd.mk hc0
 clear hr0 hc0
 have HR1 := Asd.mk hr1
 have HC1 := Asd.mk hc1
 clear hr1 hc1
 have H : (some ((strOfNums l0).toList == (strOfNums l1).toList)) = some r := h
 clear h
 obtain rfl := Option.some.inj H
 have hcv3 := Kd.C_string (P := Tryz.prog) (A := A0) (c := c0) Tryz.underlying22 Tryz.underlying5 Tryz.underlying9 HR0.out
 have hcv4 := Kd.C_string (P := Tryz.prog) (A := A1) (c := c1) Tryz.underlying22 Tryz.underlying5 Tryz.underlying9 HR1.out
 go_enter Tryz.func38, Tryz.ntmps38
 go_wp2
 go_ret
 exact ⟨by first | rfl | (simp; done) | (simp only [i64_w, i32_w]; done) | (simp [i64_w, i32_w]; done) | (simp [*]; done), by repeat (first | exact Drawn0.refl _ | apply Drawn0.step)⟩
def anvillaw02_num.f (a0 : Int) : Option (Int) := some a0
set_option maxHeartbeats 8000000 in
set_option maxRecDepth 100000 in
theorem anvillaw02_num.calls (a0 : Int) (r : Int) (w : World) (h : anvillaw02_num.f a0 = some r) :
 Calls Tryz.prog 14 #[.int .i64 a0] w fun e w' => e = .returned (.int .i64 r) ∧ Drawn0 w w' := by
 have H : (some a0) = some r := h
 clear h
 obtain rfl := Option.some.inj H
 go_enter Tryz.func14, Tryz.ntmps14
 go_wp2
 go_ret
 exact ⟨by first | rfl | (simp; done) | (simp only [i64_w, i32_w]; done) | (simp [i64_w, i32_w]; done) | (simp [*]; done), by repeat (first | exact Drawn0.refl _ | apply Drawn0.step)⟩
-- NEEDS anvil/anvillaw02.same
def segEq (x y : S55) : Bool := x.f0 == y.f0 && (x.f1 == y.f1 && (x.f2 == y.f2 && ((strOfNums x.f3).toList == (strOfNums y.f3).toList)))
def segsEq : List S55 → List S55 → Bool
 | x :: xs, y :: ys => segEq x y && segsEq xs ys
 | _, _ => true
def anvillaw02_parts.f (l0 : List S55) (l1 : List S55) : Option (Bool) := some (l0.length == l1.length && segsEq l0 l1)
theorem rd_drop_seg {l : List S55} {j : Nat} (h : j < l.length) : l.drop j = rd_T55 l (j : Int) :: l.drop (j + 1) := by
 unfold rd_T55
 rw [Int.toNat_natCast, List.getD_eq_getElem?_getD, List.getElem?_eq_getElem h]
 exact List.drop_eq_getElem_cons h
set_option maxHeartbeats 16000000 in
set_option maxRecDepth 1000000 in
theorem anvillaw02_parts.calls (A0 : Option Addr) (c0 : Nat) (l0 : List (S55)) (A1 : Option Addr) (c1 : Nat) (l1 : List (S55)) (r : Bool) (w : World) (hr0 : Kd.C k55 w A0 l0.length l0) (hc0 : l0.length ≤ c0) (hr1 : Kd.C k55 w A1 l1.length l1) (hc1 : l1.length ≤ c1) (h : anvillaw02_parts.f l0 l1 = some r) :
 Calls Tryz.prog 39 #[.slice A0 l0.length c0, .slice A1 l1.length c1] w fun e w' => e = .returned (.bool r) ∧ Below w.heap.size w w' := by
 unfold anvillaw02_parts.f at h
 cases h
 have hb0 : l0.length ≤ 9223372036854775807 := hr0.2.1
 have hb1 : l1.length ≤ 9223372036854775807 := hr1.2.1
 have HR0 := Lib.hid hr0
 have HR1 := Lib.hid hr1
 clear hr0 hr1
 by_cases hl : l0.length = l1.length
 ·have HL := Lib.hid hl
  have hlb : (l0.length == l1.length) = true := by simp [hl]
  obtain ⟨n, hn⟩ : ∃ n, l0.length = n := ⟨_, rfl⟩
  have HN0 := Lib.hid hn
  have HN1 : Hid (l1.length = n) := Lib.hid (hl ▸ hn)
  have hn1 : l1.length = n := hl ▸ hn
  rw [hlb, hn, hn1]
  rw [hn] at hb0 hc0
  rw [hn1] at hc1
  clear hl hlb hb1 hn hn1
  go_enter Tryz.func39, Tryz.ntmps39
  go_wp2
  go_loopw [5] (fun v5 wx => ∃ (j : Nat), v5 = .int .i64 (j : Int) ∧ j ≤ n ∧ Hid (Below w.heap.size w wx) ∧ Hid (segsEq l0 l1 = segsEq (l0.drop j) (l1.drop j))) (fun v5 _ => n - (RowKit.intOf v5).toNat)
  case atStart => exact ⟨0, rfl, Nat.zero_le _, Lib.hid (Below.refl _ _), Lib.hid rfl⟩
  case round =>
   obtain ⟨j, rfl, hj, HB, HE⟩ := hrel
   by_cases hjn : j < n
   ·obtain ⟨ad, A3, b3, eA, x0, x1, x2, x3, hl3, hC3⟩ := at_T55 (Kd.C_below HR0.out HB.out) (j : Int) (by omega) (by rw [HN0.out]; omega)
    obtain ⟨ae, B3, d3, eB, y0, y1, y2, y3, hm3, hD3⟩ := at_T55 (Kd.C_below HR1.out HB.out) (j : Int) (by omega) (by rw [HN1.out]; omega)
    subst eA eB
    rw [Int.toNat_natCast] at x0 x1 x2 x3 y0 y1 y2 y3
    have hd0 := rd_drop_seg (l := l0) (j := j) (by rw [HN0.out]; exact hjn)
    have hd1 := rd_drop_seg (l := l1) (j := j) (by rw [HN1.out]; exact hjn)
    obtain ⟨p, hp⟩ : ∃ p, rd_T55 l0 (j : Int) = p := ⟨_, rfl⟩
    obtain ⟨q, hq⟩ : ∃ q, rd_T55 l1 (j : Int) = q := ⟨_, rfl⟩
    rw [hp] at x0 x1 x2 x3 hl3 hC3 hd0
    rw [hq] at y0 y1 y2 y3 hm3 hD3 hd1
    have hE := HE.out
    rw [hd0, hd1, segsEq] at hE
    have HE2 := Lib.hid hE
    have hji : (j : Int) < (n : Int) := by omega
    have hj0 : (0 : Int) ≤ (j : Int) := Int.natCast_nonneg _
    have HS := Lib.hid (fun W (hW : Below wr.heap.size wr W) => anvillaw02_same.calls A3 b3 p.f3 B3 d3 q.f3 _ W (Kd.C_below hC3 hW) hl3 (Kd.C_below hD3 hW) hm3 rfl)
    obtain ⟨p0, hp0⟩ : ∃ z, p.f0 = z := ⟨_, rfl⟩
    obtain ⟨p1, hp1⟩ : ∃ z, p.f1 = z := ⟨_, rfl⟩
    obtain ⟨p2, hp2⟩ : ∃ z, p.f2 = z := ⟨_, rfl⟩
    obtain ⟨q0, hq0⟩ : ∃ z, q.f0 = z := ⟨_, rfl⟩
    obtain ⟨q1, hq1⟩ : ∃ z, q.f1 = z := ⟨_, rfl⟩
    obtain ⟨q2, hq2⟩ : ∃ z, q.f2 = z := ⟨_, rfl⟩
    obtain ⟨sb, hsb⟩ : ∃ z, ((strOfNums p.f3).toList == (strOfNums q.f3).toList) = z := ⟨_, rfl⟩
    rw [hp0] at x0
    rw [hp1] at x1
    rw [hp2] at x2
    rw [hq0] at y0
    rw [hq1] at y1
    rw [hq2] at y2
    rw [hsb] at HS
    have HQ : Hid (segEq p q = (p0 == q0 && (p1 == q1 && (p2 == q2 && sb)))) := Lib.hid (by unfold segEq; rw [hp0, hp1, hp2, hq0, hq1, hq2, hsb])
    clear hC3 hD3 hd0 hd1 hp hq hE HE hp0 hp1 hp2 hq0 hq1 hq2 hsb
    by_cases h0 : p0 = q0
    ·have e0 : (p0 != q0) = false := by simp [h0]
     have E0 : Hid ((p0 == q0) = true) := Lib.hid (by simp [h0])
     clear h0
     by_cases h1 : p1 = q1
     ·have e1 : (p1 != q1) = false := by simp [h1]
      have E1 : Hid ((p1 == q1) = true) := Lib.hid (by simp [h1])
      clear h1
      by_cases h2 : p2 = q2
      ·have e2 : (p2 != q2) = false := by simp [h2]
       have E2 : Hid ((p2 == q2) = true) := Lib.hid (by simp [h2])
       clear h2
       cases sb with
       | true =>
        go_wp2
        go_quiet ((go_at_call 38; exact Calls.quiet_of ((HS.out _ (bDn (Below.refl _ _) _)).mono fun _ _ ⟨he, hd⟩ => ⟨he, hd.out⟩)))
        go_wp2
        have hE := HE2.out
        rw [HQ.out, E0.out, E1.out, E2.out] at hE
        exact ⟨⟨j + 1, by simp, by omega, Lib.hid (HB.out.trans ((bDn (Below.refl _ _) _).mono HB.out.size)), Lib.hid (by rw [hE]; rfl)⟩, by simp [RowKit.intOf]; omega⟩
       | false =>
        go_wp2
        go_quiet ((go_at_call 38; exact Calls.quiet_of ((HS.out _ (bDn (Below.refl _ _) _)).mono fun _ _ ⟨he, hd⟩ => ⟨he, hd.out⟩)))
        go_wp2
        go_ret
        exact ⟨by rw [HE2.out, HQ.out, E0.out, E1.out, E2.out]; rfl, (HB.out.trans (bDn (Below.refl _ _) _ |>.mono HB.out.size))⟩
      ·have e2 : (p2 != q2) = true := by simp [h2]
       have E2 : Hid ((p2 == q2) = false) := Lib.hid (by simp [h2])
       clear h2
       go_wp2
       go_quiet ((go_at_call 38; exact Calls.quiet_of ((HS.out _ (bDn (Below.refl _ _) _)).mono fun _ _ ⟨he, hd⟩ => ⟨he, hd.out⟩)))
       go_wp2
       go_ret
       exact ⟨by rw [HE2.out, HQ.out, E0.out, E1.out, E2.out]; rfl, (HB.out.trans (bDn (Below.refl _ _) _ |>.mono HB.out.size))⟩
     ·have e1 : (p1 != q1) = true := by simp [h1]
      have E1 : Hid ((p1 == q1) = false) := Lib.hid (by simp [h1])
      clear h1
      go_wp2
      go_quiet ((go_at_call 38; exact Calls.quiet_of ((HS.out _ (bDn (Below.refl _ _) _)).mono fun _ _ ⟨he, hd⟩ => ⟨he, hd.out⟩)))
      go_wp2
      go_ret
      exact ⟨by rw [HE2.out, HQ.out, E0.out, E1.out]; rfl, (HB.out.trans (bDn (Below.refl _ _) _ |>.mono HB.out.size))⟩
    ·have e0 : (p0 != q0) = true := by simp [h0]
     have E0 : Hid ((p0 == q0) = false) := Lib.hid (by simp [h0])
     clear h0
     go_wp2
     go_quiet ((go_at_call 38; exact Calls.quiet_of ((HS.out _ (bDn (Below.refl _ _) _)).mono fun _ _ ⟨he, hd⟩ => ⟨he, hd.out⟩)))
     go_wp2
     go_ret
     exact ⟨by rw [HE2.out, HQ.out, E0.out]; rfl, (HB.out.trans (bDn (Below.refl _ _) _ |>.mono HB.out.size))⟩
   ·have hje : j = n := by omega
    subst hje
    have hE := HE.out
    rw [List.drop_eq_nil_of_le (by rw [HN0.out]; exact Nat.le_refl _)] at hE
    have HE2 := Lib.hid hE
    clear hE
    go_wp2
    go_ret
    exact ⟨by rw [HE2.out]; rfl, HB.out⟩
 ·have e : ((l0.length : Int) != (l1.length : Int)) = true := by simp; omega
  have e2 : (l0.length == l1.length) = false := by simp [hl]
  rw [e2]
  go_enter Tryz.func39, Tryz.ntmps39
  go_wp2
  go_ret
  exact ⟨rfl, Below.refl _ _⟩
def anvillaw02_names.l0 : Nat → List (S82) → List (S82) → Int → Option (Bool)
 | 0, _, _, _ => none
 | k + 1, x0, x1, x5 => if x5 < (x0.length : Int) then (if 0 ≤ x5 then (if x5 < (x1.length : Int) then (if (!((((rd_T82 x0 x5).f0).toList) == (((rd_T82 x1 x5).f0).toList)) || (!(((rd_T82 x0 x5).f1) == ((rd_T82 x1 x5).f1)))) = true then (some false) else (anvillaw02_names.l0 k x0 x1 (wrap64 (x5 + 1)))) else (none)) else (none)) else (some true)
def anvillaw02_names.f (k : Nat) (l0 : List (S82)) (l1 : List (S82)) : Option (Bool) := if (l0.length : Int) = (l1.length : Int) then (anvillaw02_names.l0 k l0 l1 0) else (some false)
theorem anvillaw02_names.mono_l : ∀ k, (∀ y0 y1 y2, LeO (anvillaw02_names.l0 k y0 y1 y2) (anvillaw02_names.l0 (k + 1) y0 y1 y2))
 | 0 => fun _ _ _ r h => by simp [anvillaw02_names.l0] at h
 | k + 1 => by
  have ih0 := anvillaw02_names.mono_l k
  ·intro y0 y1 y2
   unfold anvillaw02_names.l0
   repeat' first
   | (with_reducible exact ih0 _ _ _)
   | (with_reducible exact LeO.refl _)
   | (with_reducible exact LeO.none _)
   | (with_reducible refine LeO.ite ?_ ?_)
   | (with_reducible refine LeO.bind ?_ (fun _ => ?_))
   | exact ih0 _ _ _
   | exact LeO.none _
   | refine LeO.ite ?_ ?_
   | refine LeO.bind ?_ (fun _ => ?_)
theorem anvillaw02_names.mono : ∀ a0 a1 k, LeO (anvillaw02_names.f k a0 a1) (anvillaw02_names.f (k + 1) a0 a1) := by
 intro a0 a1 k
 have ih0 := anvillaw02_names.mono_l k
 unfold anvillaw02_names.f
 repeat' first
  | (with_reducible exact ih0 _ _ _)
  | (with_reducible exact LeO.refl _)
  | (with_reducible exact LeO.none _)
  | (with_reducible refine LeO.ite ?_ ?_)
  | (with_reducible refine LeO.bind ?_ (fun _ => ?_))
  | exact ih0 _ _ _
  | exact LeO.none _
  | refine LeO.ite ?_ ?_
  | refine LeO.bind ?_ (fun _ => ?_)
set_option maxHeartbeats 8000000 in
set_option maxRecDepth 100000 in
theorem anvillaw02_names.calls (k : Nat) (A0 : Option Addr) (c0 : Nat) (l0 : List (S82)) (A1 : Option Addr) (c1 : Nat) (l1 : List (S82)) (r : Bool) (w : World) (hr0 : Kd.C k82 w A0 l0.length l0) (hc0 : l0.length ≤ c0) (hr1 : Kd.C k82 w A1 l1.length l1) (hc1 : l1.length ≤ c1) (h : anvillaw02_names.f k l0 l1 = some r) :
 Calls Tryz.prog 40 #[.slice A0 l0.length c0, .slice A1 l1.length c1] w fun e w' => e = .returned (.bool r) ∧ Drawn0 w w' := by
 have hu82 := Tryz.underlying82
 have HR0 := Asd.mk hr0
 have HC0 := Asd.mk hc0
 clear hr0 hc0
 have HR1 := Asd.mk hr1
 have HC1 := Asd.mk hc1
 clear hr1 hc1
 have H : (if (l0.length : Int) = (l1.length : Int) then (anvillaw02_names.l0 k l0 l1 0) else (some false)) = some r := h
 clear h
 by_cases c3 : (l0.length : Int) = (l1.length : Int)
 ·rw [if_pos c3] at H
  have c3b0 : ((l0.length : Int) == (l1.length : Int)) = true := beq_iff_eq.mpr c3
  have c3b1 : ((l0.length : Int) != (l1.length : Int)) = false := bne_eq_false_iff_eq.mpr c3
  have c3b2 : (l0.length == l1.length) = true := by first | simpa using c3 | (simp at c3 ⊢; omega)
  clear c3
  have H' := Asd.mk H
  clear H
  go_enter Tryz.func40, Tryz.ntmps40
  go_wp2
  repeat (go_quiet (fail); try go_wp2)
  go_loopg [5] k (fun kq v5 w' => ∃ (x5_1 : Int), v5 = .int .i64 x5_1 ∧ Asd (anvillaw02_names.l0 kq l0 l1 x5_1 = some r) ∧ Asd (kq ≤ k) ∧ Drawn0 w w')
  case atStart => exact ⟨(0), (by first | rfl | (simp; done) | (simp only [i64_w, i32_w]; done) | (simp [i64_w, i32_w]; done) | (simp [*]; done)), H', ⟨Nat.le_refl _⟩, by repeat (first | exact Drawn0.refl _ | apply Drawn0.step)⟩
  case round =>
   clear H'
   try clear c1
   try clear p2
   try clear c3
   try clear c3b0
   try clear c3b1
   try clear c3b2
   obtain ⟨x5_1, rfl, HA, HK1, ⟨m1, rfl⟩⟩ := hrel
   cases gk with
   | zero => exact absurd HA.out (by simp [anvillaw02_names.l0])
   | succ k1 =>
    have H := HA.out
    clear HA
    simp only [anvillaw02_names.l0] at H
    by_cases c4 : x5_1 < (l0.length : Int)
    ·rw [if_pos c4] at H
     have c4b0 : decide (x5_1 < (l0.length : Int)) = true := decide_eq_true c4
     clear c4
     by_cases c5 : 0 ≤ x5_1
     ·rw [if_pos c5] at H
      have c5b0 : decide (0 ≤ x5_1) = true := decide_eq_true c5
      clear c5
      by_cases c6 : x5_1 < (l1.length : Int)
      ·rw [if_pos c6] at H
       have c6b0 : decide (x5_1 < (l1.length : Int)) = true := decide_eq_true c6
       clear c6
       by_cases c7 : (!((((rd_T82 l0 x5_1).f0).toList) == (((rd_T82 l1 x5_1).f0).toList)) || (!(((rd_T82 l0 x5_1).f1) == ((rd_T82 l1 x5_1).f1)))) = true
       ·rw [if_pos c7] at H
        have c7b0 : (!((((rd_T82 l0 x5_1).f0).toList) == (((rd_T82 l1 x5_1).f0).toList)) || (!(((rd_T82 l0 x5_1).f1) == ((rd_T82 l1 x5_1).f1)))) = true := c7
        clear c7
        obtain rfl := Option.some.inj H
        have p286 : 0 ≤ (x5_1 : Int) := of_decide_eq_true (by first | (with_reducible assumption) | assumption)
        have q286 : x5_1 < (l0.length : Int) := of_decide_eq_true (by first | (with_reducible assumption) | assumption)
        obtain ⟨ad286, e286, hx286_0, hx286_1⟩ := at_T82 HR0.out x5_1 p286 q286
        cases e286
        replace p286 := eq_true p286
        replace q286 := eq_true q286
        have p287 : 0 ≤ (x5_1 : Int) := of_decide_eq_true (by first | (with_reducible assumption) | assumption)
        have q287 : x5_1 < (l1.length : Int) := of_decide_eq_true (by first | (with_reducible assumption) | assumption)
        obtain ⟨ad287, e287, hx287_0, hx287_1⟩ := at_T82 HR1.out x5_1 p287 q287
        cases e287
        replace p287 := eq_true p287
        replace q287 := eq_true q287
        go_wp2
        repeat (go_quiet (fail); try go_wp2)
        go_ret
        exact ⟨by first | rfl | (simp; done) | (simp only [i64_w, i32_w]; done) | (simp [i64_w, i32_w]; done) | (simp [*]; done), by repeat (first | exact Drawn0.refl _ | apply Drawn0.step)⟩
       ·rw [if_neg c7] at H
        have c7b0 : (!((((rd_T82 l0 x5_1).f0).toList) == (((rd_T82 l1 x5_1).f0).toList)) || (!(((rd_T82 l0 x5_1).f1) == ((rd_T82 l1 x5_1).f1)))) = false := by simpa using c7
        clear c7
        have H' := Asd.mk H
        clear H
        have p286 : 0 ≤ (x5_1 : Int) := of_decide_eq_true (by first | (with_reducible assumption) | assumption)
        have q286 : x5_1 < (l0.length : Int) := of_decide_eq_true (by first | (with_reducible assumption) | assumption)
        obtain ⟨ad286, e286, hx286_0, hx286_1⟩ := at_T82 HR0.out x5_1 p286 q286
        cases e286
        replace p286 := eq_true p286
        replace q286 := eq_true q286
        have p287 : 0 ≤ (x5_1 : Int) := of_decide_eq_true (by first | (with_reducible assumption) | assumption)
        have q287 : x5_1 < (l1.length : Int) := of_decide_eq_true (by first | (with_reducible assumption) | assumption)
        obtain ⟨ad287, e287, hx287_0, hx287_1⟩ := at_T82 HR1.out x5_1 p287 q287
        cases e287
        replace p287 := eq_true p287
        replace q287 := eq_true q287
        go_wp2
        repeat (go_quiet (fail); try go_wp2)
        go_roundg k1
        case measure => have := HK1.out; omega
        case rel => exact ⟨(wrap64 (x5_1 + 1)), (by first | rfl | (simp; done) | (simp only [i64_w, i32_w]; done) | (simp [i64_w, i32_w]; done) | (simp [*]; done)), H', ⟨by have := HK1.out; omega⟩, by repeat (first | exact Drawn0.refl _ | apply Drawn0.step)⟩
      ·rw [if_neg c6] at H
       exact absurd H (by simp)
     ·rw [if_neg c5] at H
      exact absurd H (by simp)
    ·rw [if_neg c4] at H
     have c4b0 : decide (x5_1 < (l0.length : Int)) = false := decide_eq_false c4
     clear c4
     obtain rfl := Option.some.inj H
     go_wp2
     repeat (go_quiet (fail); try go_wp2)
     go_ret
     exact ⟨by first | rfl | (simp; done) | (simp only [i64_w, i32_w]; done) | (simp [i64_w, i32_w]; done) | (simp [*]; done), by repeat (first | exact Drawn0.refl _ | apply Drawn0.step)⟩
 ·rw [if_neg c3] at H
  have c3b0 : ((l0.length : Int) == (l1.length : Int)) = false := beq_eq_false_iff_ne.mpr c3
  have c3b1 : ((l0.length : Int) != (l1.length : Int)) = true := bne_iff_ne.mpr c3
  have c3b2 : (l0.length == l1.length) = false := by first | simpa using c3 | (simp at c3 ⊢; omega)
  obtain rfl := Option.some.inj H
  go_enter Tryz.func40, Tryz.ntmps40
  go_wp2
  repeat (go_quiet (fail); try go_wp2)
  go_ret
  exact ⟨by first | rfl | (simp; done) | (simp only [i64_w, i32_w]; done) | (simp [i64_w, i32_w]; done) | (simp [*]; done), by repeat (first | exact Drawn0.refl _ | apply Drawn0.step)⟩
def anvillaw02_alike.f (k : Nat) (a0_0 : Int) (l0_1 : List (S55)) (l0_2 : List (S82)) (a1_0 : Int) (l1_1 : List (S55)) (l1_2 : List (S82)) : Option (Bool) := if a0_0 = a1_0 then ((anvillaw02_parts.f l0_1 l1_1).bind fun t290 => (if t290 = true then ((anvillaw02_names.f k l0_2 l1_2).bind fun t291 => (some t291)) else (some false))) else (some false)
theorem anvillaw02_alike.mono : ∀ a0 a1 a2 a3 a4 a5 k, LeO (anvillaw02_alike.f k a0 a1 a2 a3 a4 a5) (anvillaw02_alike.f (k + 1) a0 a1 a2 a3 a4 a5) := by
 intro a0 a1 a2 a3 a4 a5 k
 unfold anvillaw02_alike.f
 repeat' first
  | (with_reducible exact anvillaw02_names.mono _ _ _)
  | (with_reducible exact LeO.refl _)
  | (with_reducible exact LeO.none _)
  | (with_reducible refine LeO.ite ?_ ?_)
  | (with_reducible refine LeO.bind ?_ (fun _ => ?_))
  | exact anvillaw02_names.mono _ _ _
  | exact LeO.none _
  | refine LeO.ite ?_ ?_
  | refine LeO.bind ?_ (fun _ => ?_)
set_option maxHeartbeats 8000000 in
set_option maxRecDepth 100000 in
theorem anvillaw02_alike.calls (k : Nat) (a0_0 : Int) (A0_1 : Option Addr) (c0_1 : Nat) (l0_1 : List (S55)) (A0_2 : Option Addr) (c0_2 : Nat) (l0_2 : List (S82)) (a1_0 : Int) (A1_1 : Option Addr) (c1_1 : Nat) (l1_1 : List (S55)) (A1_2 : Option Addr) (c1_2 : Nat) (l1_2 : List (S82)) (r : Bool) (w : World) (hr0_1 : Kd.C k55 w A0_1 l0_1.length l0_1) (hc0_1 : l0_1.length ≤ c0_1) (hr0_2 : Kd.C k82 w A0_2 l0_2.length l0_2) (hc0_2 : l0_2.length ≤ c0_2) (hr1_1 : Kd.C k55 w A1_1 l1_1.length l1_1) (hc1_1 : l1_1.length ≤ c1_1) (hr1_2 : Kd.C k82 w A1_2 l1_2.length l1_2) (hc1_2 : l1_2.length ≤ c1_2) (h : anvillaw02_alike.f k a0_0 l0_1 l0_2 a1_0 l1_1 l1_2 = some r) :
 Calls Tryz.prog 16 #[.agg #[.int .u64 a0_0, .slice A0_1 l0_1.length c0_1, .slice A0_2 l0_2.length c0_2], .agg #[.int .u64 a1_0, .slice A1_1 l1_1.length c1_1, .slice A1_2 l1_2.length c1_2]] w fun e w' => e = .returned (.bool r) ∧ Below w.heap.size w w' := by
 have hu28 := Tryz.underlying28
 have HR0_1 := Asd.mk hr0_1
 have HC0_1 := Asd.mk hc0_1
 clear hr0_1 hc0_1
 have HR0_2 := Asd.mk hr0_2
 have HC0_2 := Asd.mk hc0_2
 clear hr0_2 hc0_2
 have HR1_1 := Asd.mk hr1_1
 have HC1_1 := Asd.mk hc1_1
 clear hr1_1 hc1_1
 have HR1_2 := Asd.mk hr1_2
 have HC1_2 := Asd.mk hc1_2
 clear hr1_2 hc1_2
 have HB := Asd.mk (Below.refl w.heap.size w)
 have H : (if a0_0 = a1_0 then ((anvillaw02_parts.f l0_1 l1_1).bind fun t290 => (if t290 = true then ((anvillaw02_names.f k l0_2 l1_2).bind fun t291 => (some t291)) else (some false))) else (some false)) = some r := h
 clear h
 by_cases c3 : a0_0 = a1_0
 ·rw [if_pos c3] at H
  have c3b0 : (a0_0 == a1_0) = true := beq_iff_eq.mpr c3
  have c3b1 : (a0_0 != a1_0) = false := bne_eq_false_iff_eq.mpr c3
  clear c3
  replace H := Option.bind_eq_some_iff.mp H
  obtain ⟨t290, A40, H⟩ := H
  replace H : (if t290 = true then ((anvillaw02_names.f k l0_2 l1_2).bind fun t291 => (some t291)) else (some false)) = some r := H
  have A4 := Asd.mk A40
  clear A40
  by_cases c5 : t290 = true
  ·subst c5
   have H1 : ((anvillaw02_names.f k l0_2 l1_2).bind fun t291 => (some t291)) = some r := by rw [if_pos rfl] at H; exact H
   clear H
   have H := H1
   clear H1
   replace H := Option.bind_eq_some_iff.mp H
   obtain ⟨t291, A60, H⟩ := H
   replace H : (some t291) = some r := H
   have A6 := Asd.mk A60
   clear A60
   obtain rfl := Option.some.inj H
   go_enter Tryz.func16, Tryz.ntmps16
   go_wp2_with (first | ((with_reducible refine gDs (N := 2) rfl ?_); refine bEv ?hg (N := 2) ?hd (cs := #[.int .u64 a0_0, .slice A0_1 l0_1.length c0_1, .slice A0_2 l0_2.length c0_2]) (t := 28) ?hr ?_; (case hd => rfl); (case hg => rfl); (case hr => first | (go_simp; done) | (go_simp; rfl)); intro gb288 hg w7 hbox hb; have n0_ := Asd.mk (bSt (by repeat (first | (with_reducible first | exact HB.out | apply bAl | apply bDn | apply bD1) | exact HB.out)) hb); have n1_ := Asd.mk (hbox); have n2_ := Asd.mk ((by rw [hg]; exact (bSz (by repeat (first | (with_reducible first | exact HB.out | apply bAl | apply bDn | apply bD1) | exact HB.out))) : w.heap.size ≤ gb288)); have n3_ := Asd.mk ((by rw [hg]; exact (bSz (by repeat (first | (with_reducible first | exact HB.out | apply bAl | apply bDn | apply bD1) | exact HB.out))) : w.heap.size ≤ gb288)); clear HB; have HB := n0_; have BK288 := n1_; have GW288 := n2_; have GE288 := n3_; clear n0_ n1_ n2_ n3_; clear hb hbox hg) | ((with_reducible refine gDs (N := 3) rfl ?_); refine bEv ?hg (N := 3) ?hd (cs := #[.int .u64 a1_0, .slice A1_1 l1_1.length c1_1, .slice A1_2 l1_2.length c1_2]) (t := 28) ?hr ?_; (case hd => rfl); (case hg => rfl); (case hr => first | (go_simp; done) | (go_simp; rfl)); intro gb289 hg w8 hbox hb; have n0_ := Asd.mk (kBe (g := gb288) (o := .cells #[.int .u64 a0_0, .slice A0_1 l0_1.length c0_1, .slice A0_2 l0_2.length c0_2] 28 (0, 0)) (by (with_reducible repeat (first | refine kDn ?_ _ | refine kDr ?_ | refine kAl ?_ _)); exact BK288.out) hb); have n1_ := Asd.mk (bSt (by repeat (first | (with_reducible first | exact HB.out | apply bAl | apply bDn | apply bD1 | refine bSe ?_ GE288.out) | exact HB.out)) hb); have n2_ := Asd.mk (hbox); have n3_ := Asd.mk ((by rw [hg]; exact (bSz (by repeat (first | (with_reducible first | exact HB.out | apply bAl | apply bDn | apply bD1 | refine bSe ?_ GE288.out) | exact HB.out))) : w.heap.size ≤ gb289)); have n4_ := Asd.mk ((by rw [hg]; exact (bSz (by repeat (first | (with_reducible first | exact HB.out | apply bAl | apply bDn | apply bD1 | refine bSe ?_ GE288.out) | exact HB.out))) : w.heap.size ≤ gb289)); have n5_ := Asd.mk ((by rw [hg]; exact Nat.ne_of_lt (blk_lt (g := gb288) (o := .cells #[.int .u64 a0_0, .slice A0_1 l0_1.length c0_1, .slice A0_2 l0_2.length c0_2] 28 (0, 0)) (by (with_reducible repeat (first | refine kDn ?_ _ | refine kDr ?_ | refine kAl ?_ _)); exact BK288.out)) : gb288 ≠ gb289)); have n6_ := Asd.mk ((by rw [hg]; exact Nat.ne_of_gt (blk_lt (g := gb288) (o := .cells #[.int .u64 a0_0, .slice A0_1 l0_1.length c0_1, .slice A0_2 l0_2.length c0_2] 28 (0, 0)) (by (with_reducible repeat (first | refine kDn ?_ _ | refine kDr ?_ | refine kAl ?_ _)); exact BK288.out)) : gb289 ≠ gb288)); clear BK288; clear HB; have BK288 := n0_; have HB := n1_; have BK289 := n2_; have GW289 := n3_; have GE289 := n4_; have NB288_289 := n5_; have NB289_288 := n6_; clear n0_ n1_ n2_ n3_ n4_ n5_ n6_; clear hb hbox hg; have hnb9 := NB288_289.out; have hnc9 := NB289_288.out; have hcz10_0 : w8.cell? ⟨gb288, 0, none⟩ = some (.int .u64 a0_0) := (kCe BK288.out 0).trans rfl; have hcz10_1 : w8.cell? ⟨gb288, 1, none⟩ = some (.slice A0_1 l0_1.length c0_1) := (kCe BK288.out 1).trans rfl; have hcz10_2 : w8.cell? ⟨gb288, 2, none⟩ = some (.slice A0_2 l0_2.length c0_2) := (kCe BK288.out 2).trans rfl; have hfz10_0 := kFr BK288.out 0; have hfz10_1 := kFr BK288.out 1; have hfz10_2 := kFr BK288.out 2; have hcz11_0 : w8.cell? ⟨gb289, 0, none⟩ = some (.int .u64 a1_0) := (kCe BK289.out 0).trans rfl; have hcz11_1 : w8.cell? ⟨gb289, 1, none⟩ = some (.slice A1_1 l1_1.length c1_1) := (kCe BK289.out 1).trans rfl; have hcz11_2 : w8.cell? ⟨gb289, 2, none⟩ = some (.slice A1_2 l1_2.length c1_2) := (kCe BK289.out 2).trans rfl; have hfz11_0 := kFr BK289.out 0; have hfz11_1 := kFr BK289.out 1; have hfz11_2 := kFr BK289.out 2) | (go_at_call 39; (with_reducible refine (anvillaw02_parts.calls _ _ l0_1 _ _ l1_1 true _ ?side1 ?side2 ?side3 ?side4 A4.out).mono ?_); (case side1 => repeat (first | exact (Kd.C_below HR0_1.out HB.out) | (with_reducible refine Kd.C_alloc ?_ _) | (with_reducible refine Kd.C_drewN ?_ _) | (with_reducible refine Kd.C_drew ?_))); (case side2 => exact HC0_1.out); (case side3 => repeat (first | exact (Kd.C_below HR1_1.out HB.out) | (with_reducible refine Kd.C_alloc ?_ _) | (with_reducible refine Kd.C_drewN ?_ _) | (with_reducible refine Kd.C_drew ?_))); (case side4 => exact HC1_1.out); rintro e w12 ⟨rfl, hb⟩; have n0_ := Asd.mk (kBe (g := gb288) (o := .cells #[.int .u64 a0_0, .slice A0_1 l0_1.length c0_1, .slice A0_2 l0_2.length c0_2] 28 (0, 0)) (by (with_reducible repeat (first | refine kDn ?_ _ | refine kDr ?_ | refine kAl ?_ _)); exact BK288.out) hb); have n1_ := Asd.mk (kBe (g := gb289) (o := .cells #[.int .u64 a1_0, .slice A1_1 l1_1.length c1_1, .slice A1_2 l1_2.length c1_2] 28 (0, 0)) (by (with_reducible repeat (first | refine kDn ?_ _ | refine kDr ?_ | refine kAl ?_ _)); exact BK289.out) hb); have n2_ := Asd.mk (bSt (by repeat (first | (with_reducible first | exact HB.out | apply bAl | apply bDn | apply bD1 | refine bSe ?_ GE288.out | refine bSe ?_ GE289.out) | exact HB.out)) hb); clear BK288; clear BK289; clear HB; have BK288 := n0_; have BK289 := n1_; have HB := n2_; clear n0_ n1_ n2_; (try clear hb); (try clear hb2); (try clear hk); (try clear hi); have hcz13_0 : w12.cell? ⟨gb288, 0, none⟩ = some (.int .u64 a0_0) := (kCe BK288.out 0).trans rfl; have hcz13_1 : w12.cell? ⟨gb288, 1, none⟩ = some (.slice A0_1 l0_1.length c0_1) := (kCe BK288.out 1).trans rfl; have hcz13_2 : w12.cell? ⟨gb288, 2, none⟩ = some (.slice A0_2 l0_2.length c0_2) := (kCe BK288.out 2).trans rfl; have hfz13_0 := kFr BK288.out 0; have hfz13_1 := kFr BK288.out 1; have hfz13_2 := kFr BK288.out 2; have hcz14_0 : w12.cell? ⟨gb289, 0, none⟩ = some (.int .u64 a1_0) := (kCe BK289.out 0).trans rfl; have hcz14_1 : w12.cell? ⟨gb289, 1, none⟩ = some (.slice A1_1 l1_1.length c1_1) := (kCe BK289.out 1).trans rfl; have hcz14_2 : w12.cell? ⟨gb289, 2, none⟩ = some (.slice A1_2 l1_2.length c1_2) := (kCe BK289.out 2).trans rfl; have hfz14_0 := kFr BK289.out 0; have hfz14_1 := kFr BK289.out 1; have hfz14_2 := kFr BK289.out 2) | (go_at_call 40; (with_reducible refine (anvillaw02_names.calls k _ _ l0_2 _ _ l1_2 t291 _ ?side1 ?side2 ?side3 ?side4 A6.out).mono ?_); (case side1 => repeat (first | exact (Kd.C_below HR0_2.out HB.out) | (with_reducible refine Kd.C_alloc ?_ _) | (with_reducible refine Kd.C_drewN ?_ _) | (with_reducible refine Kd.C_drew ?_))); (case side2 => exact HC0_2.out); (case side3 => repeat (first | exact (Kd.C_below HR1_2.out HB.out) | (with_reducible refine Kd.C_alloc ?_ _) | (with_reducible refine Kd.C_drewN ?_ _) | (with_reducible refine Kd.C_drew ?_))); (case side4 => exact HC1_2.out); rintro e w' ⟨rfl, ⟨nd, rfl⟩⟩))
   go_ret
   exact ⟨by first | rfl | (simp [errW_none, errW_some] <;> rfl) | (simp [*, errW_none, errW_some] <;> rfl), by repeat (first | (with_reducible first | exact HB.out | apply bAl | apply bDn | apply bD1 | refine bSe ?_ GE288.out | refine bSe ?_ GE289.out) | exact HB.out)⟩
  ·replace c5 := Bool.eq_false_iff.mpr c5
   subst c5
   have H1 : (some false) = some r := by rw [if_neg (show ¬ (false = true) by decide)] at H; exact H
   clear H
   have H := H1
   clear H1
   obtain rfl := Option.some.inj H
   go_enter Tryz.func16, Tryz.ntmps16
   go_wp2_with (first | ((with_reducible refine gDs (N := 2) rfl ?_); refine bEv ?hg (N := 2) ?hd (cs := #[.int .u64 a0_0, .slice A0_1 l0_1.length c0_1, .slice A0_2 l0_2.length c0_2]) (t := 28) ?hr ?_; (case hd => rfl); (case hg => rfl); (case hr => first | (go_simp; done) | (go_simp; rfl)); intro gb288 hg w15 hbox hb; have n0_ := Asd.mk (bSt (by repeat (first | (with_reducible first | exact HB.out | apply bAl | apply bDn | apply bD1) | exact HB.out)) hb); have n1_ := Asd.mk (hbox); have n2_ := Asd.mk ((by rw [hg]; exact (bSz (by repeat (first | (with_reducible first | exact HB.out | apply bAl | apply bDn | apply bD1) | exact HB.out))) : w.heap.size ≤ gb288)); have n3_ := Asd.mk ((by rw [hg]; exact (bSz (by repeat (first | (with_reducible first | exact HB.out | apply bAl | apply bDn | apply bD1) | exact HB.out))) : w.heap.size ≤ gb288)); clear HB; have HB := n0_; have BK288 := n1_; have GW288 := n2_; have GE288 := n3_; clear n0_ n1_ n2_ n3_; clear hb hbox hg) | ((with_reducible refine gDs (N := 3) rfl ?_); refine bEv ?hg (N := 3) ?hd (cs := #[.int .u64 a1_0, .slice A1_1 l1_1.length c1_1, .slice A1_2 l1_2.length c1_2]) (t := 28) ?hr ?_; (case hd => rfl); (case hg => rfl); (case hr => first | (go_simp; done) | (go_simp; rfl)); intro gb289 hg w16 hbox hb; have n0_ := Asd.mk (kBe (g := gb288) (o := .cells #[.int .u64 a0_0, .slice A0_1 l0_1.length c0_1, .slice A0_2 l0_2.length c0_2] 28 (0, 0)) (by (with_reducible repeat (first | refine kDn ?_ _ | refine kDr ?_ | refine kAl ?_ _)); exact BK288.out) hb); have n1_ := Asd.mk (bSt (by repeat (first | (with_reducible first | exact HB.out | apply bAl | apply bDn | apply bD1 | refine bSe ?_ GE288.out) | exact HB.out)) hb); have n2_ := Asd.mk (hbox); have n3_ := Asd.mk ((by rw [hg]; exact (bSz (by repeat (first | (with_reducible first | exact HB.out | apply bAl | apply bDn | apply bD1 | refine bSe ?_ GE288.out) | exact HB.out))) : w.heap.size ≤ gb289)); have n4_ := Asd.mk ((by rw [hg]; exact (bSz (by repeat (first | (with_reducible first | exact HB.out | apply bAl | apply bDn | apply bD1 | refine bSe ?_ GE288.out) | exact HB.out))) : w.heap.size ≤ gb289)); have n5_ := Asd.mk ((by rw [hg]; exact Nat.ne_of_lt (blk_lt (g := gb288) (o := .cells #[.int .u64 a0_0, .slice A0_1 l0_1.length c0_1, .slice A0_2 l0_2.length c0_2] 28 (0, 0)) (by (with_reducible repeat (first | refine kDn ?_ _ | refine kDr ?_ | refine kAl ?_ _)); exact BK288.out)) : gb288 ≠ gb289)); have n6_ := Asd.mk ((by rw [hg]; exact Nat.ne_of_gt (blk_lt (g := gb288) (o := .cells #[.int .u64 a0_0, .slice A0_1 l0_1.length c0_1, .slice A0_2 l0_2.length c0_2] 28 (0, 0)) (by (with_reducible repeat (first | refine kDn ?_ _ | refine kDr ?_ | refine kAl ?_ _)); exact BK288.out)) : gb289 ≠ gb288)); clear BK288; clear HB; have BK288 := n0_; have HB := n1_; have BK289 := n2_; have GW289 := n3_; have GE289 := n4_; have NB288_289 := n5_; have NB289_288 := n6_; clear n0_ n1_ n2_ n3_ n4_ n5_ n6_; clear hb hbox hg; have hnb17 := NB288_289.out; have hnc17 := NB289_288.out; have hcz18_0 : w16.cell? ⟨gb288, 0, none⟩ = some (.int .u64 a0_0) := (kCe BK288.out 0).trans rfl; have hcz18_1 : w16.cell? ⟨gb288, 1, none⟩ = some (.slice A0_1 l0_1.length c0_1) := (kCe BK288.out 1).trans rfl; have hcz18_2 : w16.cell? ⟨gb288, 2, none⟩ = some (.slice A0_2 l0_2.length c0_2) := (kCe BK288.out 2).trans rfl; have hfz18_0 := kFr BK288.out 0; have hfz18_1 := kFr BK288.out 1; have hfz18_2 := kFr BK288.out 2; have hcz19_0 : w16.cell? ⟨gb289, 0, none⟩ = some (.int .u64 a1_0) := (kCe BK289.out 0).trans rfl; have hcz19_1 : w16.cell? ⟨gb289, 1, none⟩ = some (.slice A1_1 l1_1.length c1_1) := (kCe BK289.out 1).trans rfl; have hcz19_2 : w16.cell? ⟨gb289, 2, none⟩ = some (.slice A1_2 l1_2.length c1_2) := (kCe BK289.out 2).trans rfl; have hfz19_0 := kFr BK289.out 0; have hfz19_1 := kFr BK289.out 1; have hfz19_2 := kFr BK289.out 2) | (go_at_call 39; (with_reducible refine (anvillaw02_parts.calls _ _ l0_1 _ _ l1_1 false _ ?side1 ?side2 ?side3 ?side4 A4.out).mono ?_); (case side1 => repeat (first | exact (Kd.C_below HR0_1.out HB.out) | (with_reducible refine Kd.C_alloc ?_ _) | (with_reducible refine Kd.C_drewN ?_ _) | (with_reducible refine Kd.C_drew ?_))); (case side2 => exact HC0_1.out); (case side3 => repeat (first | exact (Kd.C_below HR1_1.out HB.out) | (with_reducible refine Kd.C_alloc ?_ _) | (with_reducible refine Kd.C_drewN ?_ _) | (with_reducible refine Kd.C_drew ?_))); (case side4 => exact HC1_1.out); rintro e w20 ⟨rfl, hb⟩; have n0_ := Asd.mk (kBe (g := gb288) (o := .cells #[.int .u64 a0_0, .slice A0_1 l0_1.length c0_1, .slice A0_2 l0_2.length c0_2] 28 (0, 0)) (by (with_reducible repeat (first | refine kDn ?_ _ | refine kDr ?_ | refine kAl ?_ _)); exact BK288.out) hb); have n1_ := Asd.mk (kBe (g := gb289) (o := .cells #[.int .u64 a1_0, .slice A1_1 l1_1.length c1_1, .slice A1_2 l1_2.length c1_2] 28 (0, 0)) (by (with_reducible repeat (first | refine kDn ?_ _ | refine kDr ?_ | refine kAl ?_ _)); exact BK289.out) hb); have n2_ := Asd.mk (bSt (by repeat (first | (with_reducible first | exact HB.out | apply bAl | apply bDn | apply bD1 | refine bSe ?_ GE288.out | refine bSe ?_ GE289.out) | exact HB.out)) hb); clear BK288; clear BK289; clear HB; have BK288 := n0_; have BK289 := n1_; have HB := n2_; clear n0_ n1_ n2_; (try clear hb); (try clear hb2); (try clear hk); (try clear hi)))
   go_ret
   exact ⟨by first | rfl | (simp [errW_none, errW_some] <;> rfl) | (simp [*, errW_none, errW_some] <;> rfl), by repeat (first | (with_reducible first | exact HB.out | apply bAl | apply bDn | apply bD1 | refine bSe ?_ GE288.out | refine bSe ?_ GE289.out) | exact HB.out)⟩
 ·rw [if_neg c3] at H
  have c3b0 : (a0_0 == a1_0) = false := beq_eq_false_iff_ne.mpr c3
  have c3b1 : (a0_0 != a1_0) = true := bne_iff_ne.mpr c3
  obtain rfl := Option.some.inj H
  go_enter Tryz.func16, Tryz.ntmps16
  go_wp2_with (first | ((with_reducible refine gDs (N := 2) rfl ?_); refine bEv ?hg (N := 2) ?hd (cs := #[.int .u64 a0_0, .slice A0_1 l0_1.length c0_1, .slice A0_2 l0_2.length c0_2]) (t := 28) ?hr ?_; (case hd => rfl); (case hg => rfl); (case hr => first | (go_simp; done) | (go_simp; rfl)); intro gb288 hg w21 hbox hb; have n0_ := Asd.mk (bSt (by repeat (first | (with_reducible first | exact HB.out | apply bAl | apply bDn | apply bD1) | exact HB.out)) hb); have n1_ := Asd.mk (hbox); have n2_ := Asd.mk ((by rw [hg]; exact (bSz (by repeat (first | (with_reducible first | exact HB.out | apply bAl | apply bDn | apply bD1) | exact HB.out))) : w.heap.size ≤ gb288)); have n3_ := Asd.mk ((by rw [hg]; exact (bSz (by repeat (first | (with_reducible first | exact HB.out | apply bAl | apply bDn | apply bD1) | exact HB.out))) : w.heap.size ≤ gb288)); clear HB; have HB := n0_; have BK288 := n1_; have GW288 := n2_; have GE288 := n3_; clear n0_ n1_ n2_ n3_; clear hb hbox hg) | ((with_reducible refine gDs (N := 3) rfl ?_); refine bEv ?hg (N := 3) ?hd (cs := #[.int .u64 a1_0, .slice A1_1 l1_1.length c1_1, .slice A1_2 l1_2.length c1_2]) (t := 28) ?hr ?_; (case hd => rfl); (case hg => rfl); (case hr => first | (go_simp; done) | (go_simp; rfl)); intro gb289 hg w22 hbox hb; have n0_ := Asd.mk (kBe (g := gb288) (o := .cells #[.int .u64 a0_0, .slice A0_1 l0_1.length c0_1, .slice A0_2 l0_2.length c0_2] 28 (0, 0)) (by (with_reducible repeat (first | refine kDn ?_ _ | refine kDr ?_ | refine kAl ?_ _)); exact BK288.out) hb); have n1_ := Asd.mk (bSt (by repeat (first | (with_reducible first | exact HB.out | apply bAl | apply bDn | apply bD1 | refine bSe ?_ GE288.out) | exact HB.out)) hb); have n2_ := Asd.mk (hbox); have n3_ := Asd.mk ((by rw [hg]; exact (bSz (by repeat (first | (with_reducible first | exact HB.out | apply bAl | apply bDn | apply bD1 | refine bSe ?_ GE288.out) | exact HB.out))) : w.heap.size ≤ gb289)); have n4_ := Asd.mk ((by rw [hg]; exact (bSz (by repeat (first | (with_reducible first | exact HB.out | apply bAl | apply bDn | apply bD1 | refine bSe ?_ GE288.out) | exact HB.out))) : w.heap.size ≤ gb289)); have n5_ := Asd.mk ((by rw [hg]; exact Nat.ne_of_lt (blk_lt (g := gb288) (o := .cells #[.int .u64 a0_0, .slice A0_1 l0_1.length c0_1, .slice A0_2 l0_2.length c0_2] 28 (0, 0)) (by (with_reducible repeat (first | refine kDn ?_ _ | refine kDr ?_ | refine kAl ?_ _)); exact BK288.out)) : gb288 ≠ gb289)); have n6_ := Asd.mk ((by rw [hg]; exact Nat.ne_of_gt (blk_lt (g := gb288) (o := .cells #[.int .u64 a0_0, .slice A0_1 l0_1.length c0_1, .slice A0_2 l0_2.length c0_2] 28 (0, 0)) (by (with_reducible repeat (first | refine kDn ?_ _ | refine kDr ?_ | refine kAl ?_ _)); exact BK288.out)) : gb289 ≠ gb288)); clear BK288; clear HB; have BK288 := n0_; have HB := n1_; have BK289 := n2_; have GW289 := n3_; have GE289 := n4_; have NB288_289 := n5_; have NB289_288 := n6_; clear n0_ n1_ n2_ n3_ n4_ n5_ n6_; clear hb hbox hg; have hnb23 := NB288_289.out; have hnc23 := NB289_288.out; have hcz24_0 : w22.cell? ⟨gb288, 0, none⟩ = some (.int .u64 a0_0) := (kCe BK288.out 0).trans rfl; have hcz24_1 : w22.cell? ⟨gb288, 1, none⟩ = some (.slice A0_1 l0_1.length c0_1) := (kCe BK288.out 1).trans rfl; have hcz24_2 : w22.cell? ⟨gb288, 2, none⟩ = some (.slice A0_2 l0_2.length c0_2) := (kCe BK288.out 2).trans rfl; have hfz24_0 := kFr BK288.out 0; have hfz24_1 := kFr BK288.out 1; have hfz24_2 := kFr BK288.out 2; have hcz25_0 : w22.cell? ⟨gb289, 0, none⟩ = some (.int .u64 a1_0) := (kCe BK289.out 0).trans rfl; have hcz25_1 : w22.cell? ⟨gb289, 1, none⟩ = some (.slice A1_1 l1_1.length c1_1) := (kCe BK289.out 1).trans rfl; have hcz25_2 : w22.cell? ⟨gb289, 2, none⟩ = some (.slice A1_2 l1_2.length c1_2) := (kCe BK289.out 2).trans rfl; have hfz25_0 := kFr BK289.out 0; have hfz25_1 := kFr BK289.out 1; have hfz25_2 := kFr BK289.out 2))
  go_ret
  exact ⟨by first | rfl | (simp [errW_none, errW_some] <;> rfl) | (simp [*, errW_none, errW_some] <;> rfl), by repeat (first | (with_reducible first | exact HB.out | apply bAl | apply bDn | apply bD1 | refine bSe ?_ GE288.out | refine bSe ?_ GE289.out) | exact HB.out)⟩
end Go.Proofs.YtbnlifldnjgpmaaGreatDoor.PWri
