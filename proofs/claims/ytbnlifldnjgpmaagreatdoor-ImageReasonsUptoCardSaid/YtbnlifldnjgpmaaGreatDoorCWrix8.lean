-- BY PROGRAM of this session (the kit's printer, turned by wip/tools/patch_print.py). Lean checks it.
import Derived.Test.YtbnlifldnjgpmaaGreatDoorCGr1
import Derived.Test.YtbnlifldnjgpmaaGreatDoorCWrix7
namespace Go.Proofs.YtbnlifldnjgpmaaGreatDoor.PWri
open Go.RowKit Go.Proofs.YtbnlifldnjgpmaaGreatDoorW.PrintWords Go.Proofs.YtbnlifldnjgpmaaGreatDoorW.PrintLast Go.Proofs.YtbnlifldnjgpmaaGreatDoorW.PrintMore
attribute [local go_sem] max2_int min2_int max_two min_two max_three min_three max_four min_four   -- for this text's walks alone
set_option linter.unusedVariables false
set_option linter.unusedSimpArgs false
mutual
def anvilref02_sorted.l0 : Nat → List (S82) → List (S82) → Int → Option ((List (S82)))
 | 0, _, _, _ => none
 | k + 1, x0, x3, x4 => if x4 < (x0.length : Int) then (if 0 ≤ x4 then (if x3.length < 5864062014805 then (anvilref02_sorted.l1 k x0 (x3 ++ [(⟨(rd_T82 x0 x4).f0, (rd_T82 x0 x4).f1⟩ : S82)]) x4 (x3.length : Int)) else (none)) else (none)) else (some x3)
def anvilref02_sorted.l1 : Nat → List (S82) → List (S82) → Int → Int → Option ((List (S82)))
 | 0, _, _, _, _ => none
 | k + 1, x0, x3, x4, x5 => if x5 > 0 then (if 0 ≤ x4 then (if x4 < (x0.length : Int) then (if 0 ≤ (wrap64 (x5 - 1)) then (if (wrap64 (x5 - 1)) < (x3.length : Int) then ((anvilref02_behind.f ((rd_T82 x0 x4).f0) ((rd_T82 x0 x4).f1) ((rd_T82 x3 (wrap64 (x5 - 1))).f0) ((rd_T82 x3 (wrap64 (x5 - 1))).f1)).bind fun t233 => (if t233 = true then (if 0 ≤ x5 then (if x5 < (x3.length : Int) then (anvilref02_sorted.l1 k x0 (x3.set (x5 : Int).toNat (⟨(rd_T82 x3 (wrap64 (x5 - 1))).f0, (rd_T82 x3 (wrap64 (x5 - 1))).f1⟩ : S82)) x4 (wrap64 (x5 - 1))) else (none)) else (none)) else (if 0 ≤ x5 then (if x5 < (x3.length : Int) then (anvilref02_sorted.l0 k x0 (x3.set (x5 : Int).toNat (⟨(rd_T82 x0 x4).f0, (rd_T82 x0 x4).f1⟩ : S82)) (wrap64 (x4 + 1))) else (none)) else (none)))) else (none)) else (none)) else (none)) else (none)) else (if 0 ≤ x4 then (if x4 < (x0.length : Int) then (if 0 ≤ x5 then (if x5 < (x3.length : Int) then (anvilref02_sorted.l0 k x0 (x3.set (x5 : Int).toNat (⟨(rd_T82 x0 x4).f0, (rd_T82 x0 x4).f1⟩ : S82)) (wrap64 (x4 + 1))) else (none)) else (none)) else (none)) else (none))
end
def anvilref02_sorted.f (k : Nat) (l0 : List (S82)) : Option ((List (S82))) := anvilref02_sorted.l0 k l0 ([] : List (S82)) 0
theorem anvilref02_sorted.mono_l : ∀ k, (∀ y0 y1 y2, LeO (anvilref02_sorted.l0 k y0 y1 y2) (anvilref02_sorted.l0 (k + 1) y0 y1 y2)) ∧ (∀ y0 y1 y2 y3, LeO (anvilref02_sorted.l1 k y0 y1 y2 y3) (anvilref02_sorted.l1 (k + 1) y0 y1 y2 y3))
 | 0 => ⟨fun _ _ _ r h => by simp [anvilref02_sorted.l0] at h, fun _ _ _ _ r h => by simp [anvilref02_sorted.l1] at h⟩
 | k + 1 => by
  obtain ⟨ih0, ih1⟩ := anvilref02_sorted.mono_l k
  refine ⟨?_, ?_⟩
  ·intro y0 y1 y2
   unfold anvilref02_sorted.l0
   repeat' first
   | (with_reducible exact ih0 _ _ _)
   | (with_reducible exact ih1 _ _ _ _)
   | (with_reducible exact LeO.refl _)
   | (with_reducible exact LeO.none _)
   | (with_reducible refine LeO.ite ?_ ?_)
   | (with_reducible refine LeO.bind ?_ (fun _ => ?_))
   | exact ih0 _ _ _
   | exact ih1 _ _ _ _
   | exact LeO.none _
   | refine LeO.ite ?_ ?_
   | refine LeO.bind ?_ (fun _ => ?_)
  ·intro y0 y1 y2 y3
   unfold anvilref02_sorted.l1
   repeat' first
   | (with_reducible exact ih0 _ _ _)
   | (with_reducible exact ih1 _ _ _ _)
   | (with_reducible exact LeO.refl _)
   | (with_reducible exact LeO.none _)
   | (with_reducible refine LeO.ite ?_ ?_)
   | (with_reducible refine LeO.bind ?_ (fun _ => ?_))
   | exact ih0 _ _ _
   | exact ih1 _ _ _ _
   | exact LeO.none _
   | refine LeO.ite ?_ ?_
   | refine LeO.bind ?_ (fun _ => ?_)
theorem anvilref02_sorted.mono : ∀ a0 k, LeO (anvilref02_sorted.f k a0) (anvilref02_sorted.f (k + 1) a0) := by
 intro a0 k
 obtain ⟨ih0, ih1⟩ := anvilref02_sorted.mono_l k
 unfold anvilref02_sorted.f
 repeat' first
  | (with_reducible exact ih0 _ _ _)
  | (with_reducible exact ih1 _ _ _ _)
  | (with_reducible exact LeO.refl _)
  | (with_reducible exact LeO.none _)
  | (with_reducible refine LeO.ite ?_ ?_)
  | (with_reducible refine LeO.bind ?_ (fun _ => ?_))
  | exact ih0 _ _ _
  | exact ih1 _ _ _ _
  | exact LeO.none _
  | refine LeO.ite ?_ ?_
  | refine LeO.bind ?_ (fun _ => ?_)
def anvilref02_sorted.T7 : Bool × List (List Nat × List Nat) := (true, [([], []), ([0], [0]), ([1], [1]), ([2], [2]), ([2], [2]), ([3, 4, 2], [2, 3, 4]), ([5, 2], [2, 5]), ([2], [2]), ([2], [2]), ([8, 2], [2, 8]), ([7, 9, 2], [2, 7, 9]), ([10, 2], [2, 10]), ([6, 11, 2, 2], [2, 6, 11]), ([2, 12], [2, 12])])
def anvilref02_sorted.B7 : List Nat := [0, 1, 3, 7, 7, 31, 63, 7, 7, 263, 903, 1927, 4095, 8191]
theorem anvilref02_sorted.tab7 : rtab .any (opsOf Tryz.f36 7) = anvilref02_sorted.T7 := by kernel_rfl
theorem anvilref02_sorted.bits7 : waitsOk anvilref02_sorted.T7.2 anvilref02_sorted.B7 = true := by kernel_rfl
set_option maxHeartbeats 8000000 in
set_option maxRecDepth 100000 in
theorem anvilref02_sorted.calls (k : Nat) (A0 : Option Addr) (c0 : Nat) (l0 : List (S82)) (r : List (S82)) (w : World) (hr0 : Kd.C k82 w A0 l0.length l0) (hc0 : l0.length ≤ c0) (h : anvilref02_sorted.f k l0 = some r) :
 Calls Tryz.prog 36 #[.slice A0 l0.length c0] w fun e w' => ∃ v0_ : Value, e = .returned (v0_) ∧ Kd.R k82 82 w' w.heap.size (fun _ => True) v0_ r ∧ Below w.heap.size w w' := by
 have hu82 := Tryz.underlying82
 have HR0 := Asd.mk hr0
 have HC0 := Asd.mk hc0
 clear hr0 hc0
 have HB := Asd.mk (Below.refl w.heap.size w)
 have H : (anvilref02_sorted.l0 k l0 ([] : List (S82)) 0) = some r := h
 clear h
 have H' := Asd.mk H
 clear H
 go_enter Tryz.func36, Tryz.ntmps36
 go_wp2
 go_loopg [3, 4] k (fun kq v3 v4 w' => ∃ (x3_1 : List (S82)) (x4_1 : Int), v4 = .int .i64 x4_1 ∧ Asd (anvilref02_sorted.l0 kq l0 x3_1 x4_1 = some r) ∧ Asd (kq ≤ k) ∧ Asd (Kd.R k82 82 w' w.heap.size (fun _ => True) v3 x3_1) ∧ Asd (Below w.heap.size w w'))
 case atStart => exact ⟨(([] : List (S82))), (0), eX, H', ⟨Nat.le_refl _⟩, ⟨by first | exact Kd.R_nil _ _ _ _ _ | exact Kd.N_nil _ _ _ _ _ | exact Kd.V_nil _ _ _ _ _ | exact Kd.Q_nil _ _ _ _ _ | exact Kd.S_nil _ _ _ _ _⟩, ⟨bX HB.out⟩⟩
 case round =>
  clear H'
  obtain ⟨x3_1, x4_1, rfl, HA, HK1, HO_3, HB⟩ := hrel
  cases gk with
  | zero => exact absurd HA.out (by simp [anvilref02_sorted.l0])
  | succ k1 =>
   have H := HA.out
   clear HA
   simp only [anvilref02_sorted.l0] at H
   by_cases c2 : x4_1 < (l0.length : Int)
   ·rw [if_pos c2] at H
    have c2b0 : decide (x4_1 < (l0.length : Int)) = true := decide_eq_true c2
    clear c2
    by_cases c3 : 0 ≤ x4_1
    ·rw [if_pos c3] at H
     have c3b0 : decide (0 ≤ x4_1) = true := decide_eq_true c3
     clear c3
     by_cases c4 : x3_1.length < 5864062014805
     ·rw [if_pos c4] at H
      have LMc4 := Asd.mk c4
      clear c4
      obtain ⟨y228, hy228⟩ : ∃ y_ : List (S82), y_ = (x3_1 ++ [(⟨(rd_T82 l0 x4_1).f0, (rd_T82 l0 x4_1).f1⟩ : S82)]) := ⟨_, rfl⟩
      replace H : (anvilref02_sorted.l1 k1 l0 y228 x4_1 (x3_1.length : Int)) = some r := by first | (rw [hy228]; with_reducible exact H) | (have H2_ := (Option.bind_some _ _).symm.trans H; rw [hy228]; with_reducible exact H2_) | (have H2_ := (Option.bind_some _ _).symm.trans H; with_reducible exact H2_) | with_reducible exact H | (rw [hy228]; exact H) | exact H
      have Ny228 := Asd.mk hy228
      clear hy228
      have H' := Asd.mk H
      clear H
      obtain ⟨Ao5, co5, eo5⟩ := Kd.R_slice HO_3.out
      subst eo5
      have p227 : 0 ≤ (x4_1 : Int) := of_decide_eq_true aX
      have q227 : x4_1 < (l0.length : Int) := of_decide_eq_true aX
      obtain ⟨ad227, e227, hx227_0, hx227_1⟩ := at_T82 HR0.out x4_1 p227 q227
      cases e227
      replace hx227_0 := (HB.out.cell (World.block_lt_of_cell? w _ hx227_0)).trans hx227_0
      replace hx227_1 := (HB.out.cell (World.block_lt_of_cell? w _ hx227_1)).trans hx227_1
      replace p227 := eq_true p227
      replace q227 := eq_true q227
      go_wp2_with (first | ((with_reducible refine gate_builtin (b := .append) (xs := #[.tmp 14, .tmp 19]) rfl ?_); at_builtin; refine Kd.R_append k82 (w0 := w) w.heap.size rfl (.tmp 14) (.tmp 19) 26 82 (.agg #[(.string ⟨#[]⟩), (.int .u64 0)]) 24 rfl Tryz.underlying26 info82 rfl (by decide) (by omega) (.slice Ao5 x3_1.length co5) x3_1 (⟨(rd_T82 l0 x4_1).f0, (rd_T82 l0 x4_1).f1⟩ : S82) [.string ((rd_T82 l0 x4_1).f0), .int .u64 ((rd_T82 l0 x4_1).f1)] (fun _ => True) (fun _ => False) rfl rfl ?aP (fun _ hk => hk.elim) ?aF ?aO ?aB ?aS ?aL ?_; (case aP => exact k82_mkM _ _ _ (⟨(rd_T82 l0 x4_1).f0, (rd_T82 l0 x4_1).f1⟩ : S82)); (case aB => exact (bX HB.out)); (case aF => exact (fun _ _ => trivial)); (case aO => exact (kRX HO_3.out)); (case aS => exact (bSz (bX HB.out))); (case aL => have := LMc4.out; omega); intro v229 w6 ho hb hg hat; rw [← Ny228.out] at ho; have n0_ := Asd.mk (hb); have n1_ := Asd.mk (ho); clear HB; clear HO_3; have HB := n0_; have HO230 := n1_; clear n0_ n1_; clear ho hb hg hat))
      go_loopg [5] k1 (fun kq v5 w' => ∃ (x3_2 : List (S82)) (x5_2 : Int), v5 = .int .i64 x5_2 ∧ Asd (anvilref02_sorted.l1 kq l0 x3_2 x4_1 x5_2 = some r) ∧ Asd (kq ≤ k1) ∧ Asd (Kd.R k82 82 w' w.heap.size (fun _ => True) v229 x3_2) ∧ Asd (Below w.heap.size w w'))
      case atStart => exact ⟨(y228), ((x3_1.length : Int)), eX, H', ⟨Nat.le_refl _⟩, ⟨by (with_reducible repeat (first | apply Kd.R_alloc | apply Kd.R_drewN | apply Kd.R_drew)); exact HO230.out⟩, ⟨bX HB.out⟩⟩
      case round =>
       clear H'
       try clear c2
       try clear c2b0
       try clear p2
       try clear q2
       try clear hx2
       try clear c3
       try clear c3b0
       try clear c4
       try clear hx227_0
       try clear hx227_1
       try clear p227
       try clear q227
       obtain ⟨x3_2, x5_2, rfl, HA, HK2, HO_3, HB⟩ := hrel
       cases gk with
       | zero => exact absurd HA.out (by simp [anvilref02_sorted.l1])
       | succ k2 =>
        have H := HA.out
        clear HA
        simp only [anvilref02_sorted.l1] at H
        by_cases c7 : x5_2 > 0
        ·rw [if_pos c7] at H
         have c7b0 : decide (0 < x5_2) = true := decide_eq_true c7
         clear c7
         by_cases c8 : 0 ≤ x4_1
         ·rw [if_pos c8] at H
          have c8b0 : decide (0 ≤ x4_1) = true := decide_eq_true c8
          clear c8
          by_cases c9 : x4_1 < (l0.length : Int)
          ·rw [if_pos c9] at H
           have c9b0 : decide (x4_1 < (l0.length : Int)) = true := decide_eq_true c9
           clear c9
           obtain ⟨ji10, hji10⟩ : ∃ j_ : Int, (wrap64 (x5_2 - 1)) = j_ := ⟨_, rfl⟩
           replace H : (if 0 ≤ (ji10) then (if (ji10) < (x3_2.length : Int) then ((anvilref02_behind.f ((rd_T82 l0 x4_1).f0) ((rd_T82 l0 x4_1).f1) ((rd_T82 x3_2 (ji10)).f0) ((rd_T82 x3_2 (ji10)).f1)).bind fun t233 => (if t233 = true then (if 0 ≤ x5_2 then (if x5_2 < (x3_2.length : Int) then (anvilref02_sorted.l1 k2 l0 (x3_2.set (x5_2 : Int).toNat (⟨(rd_T82 x3_2 (ji10)).f0, (rd_T82 x3_2 (ji10)).f1⟩ : S82)) x4_1 ji10) else (none)) else (none)) else (if 0 ≤ x5_2 then (if x5_2 < (x3_2.length : Int) then (anvilref02_sorted.l0 k2 l0 (x3_2.set (x5_2 : Int).toNat (⟨(rd_T82 l0 x4_1).f0, (rd_T82 l0 x4_1).f1⟩ : S82)) (wrap64 (x4_1 + 1))) else (none)) else (none)))) else (none)) else (none)) = some r := by first | (rw [hji10] at H; exact H) | (simp only [hji10] at H ⊢; exact H)
           have hji10w : (IntKind.i64.wrap (x5_2 - 1)) = ji10 := (i64_w _).trans hji10
           by_cases c11 : 0 ≤ (ji10)
           ·rw [if_pos c11] at H
            have c11b0 : decide (0 ≤ (ji10)) = true := decide_eq_true c11
            clear c11
            by_cases c12 : (ji10) < (x3_2.length : Int)
            ·rw [if_pos c12] at H
             have c12b0 : decide ((ji10) < (x3_2.length : Int)) = true := decide_eq_true c12
             clear c12
             replace H := Option.bind_eq_some_iff.mp H
             obtain ⟨t233, A130, H⟩ := H
             have A13 := Asd.mk A130
             clear A130
             by_cases c14 : t233 = true
             ·subst c14
              have H1 : (if 0 ≤ x5_2 then (if x5_2 < (x3_2.length : Int) then (anvilref02_sorted.l1 k2 l0 (x3_2.set (x5_2 : Int).toNat (⟨(rd_T82 x3_2 (ji10)).f0, (rd_T82 x3_2 (ji10)).f1⟩ : S82)) x4_1 ji10) else (none)) else (none)) = some r := by rw [if_pos rfl] at H; exact H
              clear H
              have H := H1
              clear H1
              by_cases c15 : 0 ≤ x5_2
              ·rw [if_pos c15] at H
               have c15b0 : decide (0 ≤ x5_2) = true := decide_eq_true c15
               clear c15
               by_cases c16 : x5_2 < (x3_2.length : Int)
               ·rw [if_pos c16] at H
                have c16b0 : decide (x5_2 < (x3_2.length : Int)) = true := decide_eq_true c16
                clear c16
                obtain ⟨y235, hy235⟩ : ∃ y_ : List (S82), y_ = (x3_2.set (x5_2 : Int).toNat (⟨(rd_T82 x3_2 (ji10)).f0, (rd_T82 x3_2 (ji10)).f1⟩ : S82)) := ⟨_, rfl⟩
                replace H : (anvilref02_sorted.l1 k2 l0 y235 x4_1 ji10) = some r := by first | (rw [hy235]; with_reducible exact H) | (have H2_ := (Option.bind_some _ _).symm.trans H; rw [hy235]; with_reducible exact H2_) | (have H2_ := (Option.bind_some _ _).symm.trans H; with_reducible exact H2_) | with_reducible exact H | (rw [hy235]; exact H) | exact H
                have Ny235 := Asd.mk hy235
                clear hy235
                have H' := Asd.mk H
                clear H
                try go_wp2
                have n0_ := Asd.mk (Kd.R_drew HO_3.out)
                have n1_ := Asd.mk (bD1 HB.out)
                clear HO_3
                clear HB
                have HO_3 := n0_
                have HB := n1_
                clear n0_ n1_
                have p231 : 0 ≤ (x4_1 : Int) := of_decide_eq_true aX
                have q231 : x4_1 < (l0.length : Int) := of_decide_eq_true aX
                obtain ⟨ad231, e231, hx231_0, hx231_1⟩ := at_T82 HR0.out x4_1 p231 q231
                have hw231_1 := hx231_1
                have hw231_0 := hx231_0
                obtain rfl : ad227 = ad231 := (by injection e231)
                replace hx231_0 := (HB.out.cell (World.block_lt_of_cell? w _ hx231_0)).trans hx231_0
                replace hx231_1 := (HB.out.cell (World.block_lt_of_cell? w _ hx231_1)).trans hx231_1
                replace p231 := eq_true p231
                replace q231 := eq_true q231
                obtain ⟨Ao19, co19, eo19⟩ := Kd.R_slice HO_3.out
                (first | subst eo19 | (injection eo19 with f1_ f2_ f3_; have f4_ := f1_.symm; have f5_ := f3_.symm; clear f1_ f2_ f3_; subst f4_; subst f5_))
                have p232 : 0 ≤ ((ji10) : Int) := of_decide_eq_true aX
                have q232 : (ji10) < (x3_2.length : Int) := of_decide_eq_true aX
                obtain ⟨ad232, e232, hx232_0, hx232_1⟩ := at_T82 (Kd.R_reads' HO_3.out).2.2 (ji10) p232 q232
                cases e232
                replace p232 := eq_true p232
                replace q232 := eq_true q232
                refine start_ (n := 14) (S := fun w' => w'.cell? (ad227.add ((x4_1).toNat * 2)) = some (.string ((rd_T82 l0 x4_1).f0)) ∧ w'.cell? ⟨(ad227.add ((x4_1).toNat * 2)).block, (ad227.add ((x4_1).toNat * 2)).off + 1, none⟩ = some (.int .u64 ((rd_T82 l0 x4_1).f1)) ∧ w'.cell? (ad232.add (((ji10)).toNat * 2)) = some (.string ((rd_T82 x3_2 (ji10)).f0)) ∧ w'.cell? ⟨(ad232.add (((ji10)).toNat * 2)).block, (ad232.add (((ji10)).toNat * 2)).off + 1, none⟩ = some (.int .u64 ((rd_T82 x3_2 (ji10)).f1))) (ds := []) #[false, false, false, false, false, false, false, false, false, false, false, false, false, false] (by kernel_rfl) rfl rfl ⟨((HB.out.cell (World.block_lt_of_cell? w _ hw231_0)).trans hw231_0), ((HB.out.cell (World.block_lt_of_cell? w _ hw231_1)).trans hw231_1), hx232_0, hx232_1⟩ (fun hHeld => ?_); refine with_tabW anvilref02_sorted.tab7 anvilref02_sorted.bits7 (fun HT_ HW_ => ?_)
                generalize wr.drew = w18 at HO_3 HB hx231_0 hx231_1 hx232_0 hx232_1 hHeld ⊢
                refine pure_ (i := 0) (N := some 21) (v := ?_) (a' := ?_) #[true, false, false, false, false, false, false, false, false, false, false, false, false, false] rfl rfl (any_of HT_.out (by kernel_rfl)) (fun _ _ _ h => h) (Or.inl ⟨by rfl, ?_⟩) ?_ ?_
                rotate_left
                ·intro w'
                 go_simp
                 with_reducible rfl
                rotate_left
                ·simp only [Act.put, List.setIfInBounds_toArray, List.set_cons_zero, List.set_cons_succ, i64_w, i32_w]
                 rfl
                refine pure_ (i := 1) (N := some 22) (v := ?_) (a' := ?_) #[true, true, false, false, false, false, false, false, false, false, false, false, false, false] rfl rfl (any_of HT_.out (by kernel_rfl)) (fun _ _ _ h => h) (Or.inl ⟨by rfl, ?_⟩) ?_ ?_
                rotate_left
                ·intro w'
                 go_simp
                 with_reducible rfl
                rotate_left
                ·simp only [Act.put, List.setIfInBounds_toArray, List.set_cons_zero, List.set_cons_succ, i64_w, i32_w]
                 rfl
                refine pure_ (i := 2) (N := some 23) (v := ?_) (a' := ?_) #[true, true, true, false, false, false, false, false, false, false, false, false, false, false] rfl rfl (any_of HT_.out (by kernel_rfl)) (fun _ _ _ h => h) (Or.inl ⟨by rfl, ?_⟩) ?_ ?_
                rotate_left
                ·intro w'
                 go_simp
                 with_reducible rfl
                rotate_left
                ·simp only [Act.put, List.setIfInBounds_toArray, List.set_cons_zero, List.set_cons_succ, i64_w, i32_w]
                 rfl
                refine pure_ (i := 3) (N := some 24) (v := ?_) (a' := ?_) #[true, true, true, true, false, false, false, false, false, false, false, false, false, false] rfl rfl (any_of HT_.out (by kernel_rfl)) (fun _ _ _ h => h) (Or.inl ⟨by rfl, ?_⟩) ?_ ?_
                rotate_left
                ·intro w'
                 go_simp
                 with_reducible rfl
                rotate_left
                ·simp only [Act.put, List.setIfInBounds_toArray, List.set_cons_zero, List.set_cons_succ, i64_w, i32_w]
                 rfl
                refine pure_ (i := 4) (N := some 25) (v := ?_) (a' := ?_) #[true, true, true, true, true, false, false, false, false, false, false, false, false, false] rfl rfl (any_of HT_.out (by kernel_rfl)) (fun _ _ _ h => h) (Or.inl ⟨by rfl, ?_⟩) ?_ ?_
                rotate_left
                ·intro w'
                 go_simp
                 with_reducible rfl
                rotate_left
                ·simp only [Act.put, List.setIfInBounds_toArray, List.set_cons_zero, List.set_cons_succ, i64_w, i32_w]
                 rfl
                refine pure_ (i := 5) (N := some 26) (v := ?_) (a' := ?_) #[true, true, true, true, true, true, false, false, false, false, false, false, false, false] rfl rfl (any_of HT_.out (by kernel_rfl)) (fun _ _ _ h => h) (Or.inl ⟨by rfl, ?_⟩) ?_ ?_
                rotate_left
                ·intro w'
                 go_simp
                 with_reducible rfl
                rotate_left
                ·simp only [Act.put, List.setIfInBounds_toArray, List.set_cons_zero, List.set_cons_succ, i64_w, i32_w]
                 rfl
                refine pure_ (i := 7) (N := some 28) (v := ?_) (a' := ?_) #[true, true, true, true, true, true, false, true, false, false, false, false, false, false] rfl rfl (any_of HT_.out (by kernel_rfl)) (fun _ _ _ h => h) (Or.inl ⟨by rfl, ?_⟩) ?_ ?_
                rotate_left
                ·intro w'
                 go_simp
                 with_reducible rfl
                rotate_left
                ·simp only [Act.put, List.setIfInBounds_toArray, List.set_cons_zero, List.set_cons_succ, i64_w, i32_w]
                 rfl
                refine pure_ (i := 8) (N := some 29) (v := ?_) (a' := ?_) #[true, true, true, true, true, true, false, true, true, false, false, false, false, false] rfl rfl (any_of HT_.out (by kernel_rfl)) (fun _ _ _ h => h) (Or.inl ⟨by rfl, ?_⟩) ?_ ?_
                rotate_left
                ·intro w'
                 go_simp
                 with_reducible rfl
                rotate_left
                ·simp only [Act.put, List.setIfInBounds_toArray, List.set_cons_zero, List.set_cons_succ, i64_w, i32_w]
                 rfl
                refine pure_ (i := 9) (N := some 30) (v := ?_) (a' := ?_) #[true, true, true, true, true, true, false, true, true, true, false, false, false, false] rfl rfl (any_of HT_.out (by kernel_rfl)) (fun _ _ _ h => h) (Or.inl ⟨by rfl, ?_⟩) ?_ ?_
                rotate_left
                ·intro w'
                 go_simp
                 with_reducible rfl
                rotate_left
                ·simp only [Act.put, List.setIfInBounds_toArray, List.set_cons_zero, List.set_cons_succ, i64_w, i32_w]
                 rfl
                refine pure_ (i := 10) (N := some 31) (v := ?_) (a' := ?_) #[true, true, true, true, true, true, false, true, true, true, true, false, false, false] rfl rfl (any_of HT_.out (by kernel_rfl)) (fun _ _ _ h => h) (Or.inl ⟨by rfl, ?_⟩) ?_ ?_
                rotate_left
                ·intro w'
                 go_simp
                 with_reducible rfl
                rotate_left
                ·simp only [Act.put, List.setIfInBounds_toArray, List.set_cons_zero, List.set_cons_succ, i64_w, i32_w]
                 rfl
                refine take_ (i := 6) (N := some 27) (v := ?_) (a' := ?_) #[true, true, true, true, true, true, true, true, true, true, true, false, false, false] rfl rfl (take_ofW HT_.out HW_.out (by kernel_rfl)) (fun _ _ _ h => h) (Or.inl ⟨by rfl, ?_⟩) hHeld ?_ ?_
                rotate_left
                ·rintro w' ⟨s0, s1, s2, s3⟩
                 go_simp
                 with_reducible rfl
                rotate_left
                ·simp only [Act.put, List.setIfInBounds_toArray, List.set_cons_zero, List.set_cons_succ, i64_w, i32_w]
                 rfl
                refine take_ (i := 11) (N := some 32) (v := ?_) (a' := ?_) #[true, true, true, true, true, true, true, true, true, true, true, true, false, false] rfl rfl (take_ofW HT_.out HW_.out (by kernel_rfl)) (fun _ _ _ h => h) (Or.inl ⟨by rfl, ?_⟩) hHeld ?_ ?_
                rotate_left
                ·rintro w' ⟨s0, s1, s2, s3⟩
                 go_simp
                 with_reducible rfl
                rotate_left
                ·simp only [Act.put, List.setIfInBounds_toArray, List.set_cons_zero, List.set_cons_succ, i64_w, i32_w]
                 rfl
                refine one_ (i := 12) (N := some 33) #[true, true, true, true, true, true, true, true, true, true, true, true, true, false] rfl rfl (one_of HT_.out (by kernel_rfl)) (by decide) (fun K hK => ?_)
                refine goes_ Tryz.func70 (by kernel_rfl) rfl #[.agg #[.string ((rd_T82 l0 x4_1).f0), .int .u64 ((rd_T82 l0 x4_1).f1)], .agg #[.string ((rd_T82 x3_2 (ji10)).f0), .int .u64 ((rd_T82 x3_2 (ji10)).f1)]] (by rfl) rfl rfl (by (try simp only [List.map_toArray, List.map_cons, List.map_nil]); first | done | (simp only [hji10]; rfl) | rfl | (simp only [List.length_drop, List.length_take]; rfl)) ?_
                with_reducible refine (anvilref02_behind.calls ((rd_T82 l0 x4_1).f0) ((rd_T82 l0 x4_1).f1) ((rd_T82 x3_2 (ji10)).f0) ((rd_T82 x3_2 (ji10)).f1) true _ A13.out).mono ?_
                rintro e w20 ⟨rfl, hb⟩
                have HS2_ := (hb.cell (World.block_lt_of_cell? _ _ (hHeld.2.2.1))).trans (hHeld.2.2.1)
                have HS3_ := (hb.cell (World.block_lt_of_cell? _ _ (hHeld.2.2.2))).trans (hHeld.2.2.2)
                refine ⟨_, rfl, ?_⟩
                have n0_ := Asd.mk (Kd.R_below (kRX HO_3.out) hb)
                have n1_ := Asd.mk (bSt (bX HB.out) hb)
                clear HO_3
                clear HB
                have HO_3 := n0_
                have HB := n1_
                clear n0_ n1_
                (try clear hb)
                (try clear hb2)
                (try clear hk)
                (try clear hi)
                refine hK.out _ _ ⟨((HB.out.cell (World.block_lt_of_cell? w _ hw231_0)).trans hw231_0), ((HB.out.cell (World.block_lt_of_cell? w _ hw231_1)).trans hw231_1), HS2_, HS3_⟩ (fun hHeld => ?_)
                clear hK K
                refine norm_ (a' := ?_) ?_ ?_
                rotate_left
                ·show Act.put _ (some 33) _ = _
                 simp only [Act.put, List.setIfInBounds_toArray, List.set_cons_zero, List.set_cons_succ, i64_w, i32_w]
                 rfl
                refine pure_ (i := 13) (N := some 34) (v := ?_) (a' := ?_) #[true, true, true, true, true, true, true, true, true, true, true, true, true, true] rfl rfl (any_of HT_.out (by kernel_rfl)) (fun _ _ _ h => h) (Or.inl ⟨by rfl, ?_⟩) ?_ ?_
                rotate_left
                ·intro w'
                 go_simp
                 with_reducible rfl
                rotate_left
                ·simp only [Act.put, List.setIfInBounds_toArray, List.set_cons_zero, List.set_cons_succ, i64_w, i32_w]
                 rfl
                refine done_ (done_of HT_.out (by kernel_rfl)) ?_
                have p234 : 0 ≤ ((ji10) : Int) := of_decide_eq_true aX
                have q234 : (ji10) < (x3_2.length : Int) := of_decide_eq_true aX
                obtain ⟨ad234, e234, hx234_0, hx234_1⟩ := at_T82 (Kd.R_reads' HO_3.out).2.2 (ji10) p234 q234
                obtain rfl : ad232 = ad234 := (by injection e234)
                replace p234 := eq_true p234
                replace q234 := eq_true q234
                have p17 : 0 ≤ (x5_2 : Int) := of_decide_eq_true aX
                have q17 : (x5_2 : Int) < ((x3_2.length : Int) : Int) := of_decide_eq_true aX
                obtain ⟨go17, co17, eo17, gb17, gl17, cl17, HG17⟩ := Kd.R_form HO_3.out (by omega)
                (first | cases eo17 | (injection eo17 with ea_ en_ ec_; (first | subst ea_ | (injection ea_ with ea_; subst ea_)); subst ec_; clear en_))
                have GB17 := Asd.mk gb17
                have GG17 := Asd.mk HG17
                clear gb17 gl17 HG17
                (first | simp only [add_plain] at hx232_0 | skip)
                (first | simp only [add_plain] at hx232_1 | skip)
                (first | simp only [add_plain] at hx234_0 | skip)
                (first | simp only [add_plain] at hx234_1 | skip)
                obtain ⟨ce17, hcl17, hM17, hcc17, hfr17⟩ := Kd.R_elem HO_3.out z82 (x5_2 : Int) p17 q17
                obtain rfl := k82_openM hM17
                have hx17_0 : w20.cell? ⟨go17, (x5_2 : Int).toNat * 2, none⟩ = some (.string ((rd_T82 x3_2 x5_2).f0)) := hcc17 0 _ rfl
                have hx17_1 : w20.cell? ⟨go17, (x5_2 : Int).toNat * 2 + 1, none⟩ = some (.int .u64 ((rd_T82 x3_2 x5_2).f1)) := hcc17 1 _ rfl
                have hf17_0 : w20.frozen? ⟨go17, (x5_2 : Int).toNat * 2, none⟩ = false := hfr17 0
                have hf17_1 : w20.frozen? ⟨go17, (x5_2 : Int).toNat * 2 + 1, none⟩ = false := hfr17 1
                clear hcl17 hcc17 hfr17 hM17
                replace p17 := eq_true p17
                replace q17 := eq_true q17
                have HX21 := Asd.mk (show Kd.R k82 82 w20 w.heap.size (fun _ => True) (.slice (some ⟨go17, 0, none⟩) x3_2.length co19) x3_2 from (kRX HO_3.out))
                obtain ⟨ce21, hcl21, hM21, hcc21, hfr21⟩ := Kd.R_elem HX21.out z82 (x5_2 : Int) (of_decide_eq_true aX) (by have h_ : (x5_2 : Int) < ((x3_2.length : Int) : Int) := of_decide_eq_true aX; first | exact h_ | (have e_ := (Kd.R_reads' HO_3.out).1; omega) | simpa using h_)
                obtain rfl := k82_openM hM21
                have HP21 := Kd.R_seg HX21.out (x5_2 : Int) (of_decide_eq_true aX) (by have h_ : (x5_2 : Int) < ((x3_2.length : Int) : Int) := of_decide_eq_true aX; first | exact h_ | (have e_ := (Kd.R_reads' HO_3.out).1; omega) | simpa using h_) (seg := [.string ((rd_T82 x3_2 (ji10)).f0), .int .u64 ((rd_T82 x3_2 (ji10)).f1)]) (j := 0) hcl21 hcc21 (show 2 ≤ 2 from by decide) (x' := (⟨(rd_T82 x3_2 (ji10)).f0, (rd_T82 x3_2 (ji10)).f1⟩ : S82)) (k82_mkM _ _ _ (⟨(rd_T82 x3_2 (ji10)).f0, (rd_T82 x3_2 (ji10)).f1⟩ : S82) ) (fun _ hk => hk)
                have hx21_0 := hcc21 0 _ rfl
                (try simp only [show (k82).sz = 2 from rfl, Nat.mul_one, Nat.add_zero] at hx21_0)
                have hf21_0 := hfr21 0
                (try simp only [show (k82).sz = 2 from rfl, Nat.mul_one, Nat.add_zero] at hf21_0)
                have hx21_1 := hcc21 1 _ rfl
                (try simp only [show (k82).sz = 2 from rfl, Nat.mul_one, Nat.add_zero] at hx21_1)
                have hf21_1 := hfr21 1
                (try simp only [show (k82).sz = 2 from rfl, Nat.mul_one, Nat.add_zero] at hf21_1)
                clear hcl21 hcc21 hfr21 hM21
                try go_wp2_with (first | ((with_reducible refine gate_store (t := 82) (p := 42) rfl ?_); refine store_event (t := 82) (p := 42) (v := ?vo_w22) (w1 := ((w20.setCell ⟨go17, (x5_2 : Int).toNat * 2, none⟩ (.string ((rd_T82 x3_2 (ji10)).f0))).setCell ⟨go17, (x5_2 : Int).toNat * 2 + 1, none⟩ (.int .u64 ((rd_T82 x3_2 (ji10)).f1)))) ?hg ?ho ?hn ?hr ?_; (case ho => rfl); (case hg => rfl); (case hn => rfl); (case hr => first | (go_simp; done) | (go_simp; rfl)); intro w22 hw; have hg : w20.grownBy w22 (some go17) := (by rw [hw]; exact HP21.2); have hp_ : Kd.R k82 82 w22 w.heap.size (fun _ => True) (.slice (some ⟨go17, 0, none⟩) x3_2.length co19) y235 := (by rw [hw, Ny235.out]; exact HP21.1); clear HP21; have n0_ := Asd.mk (hp_); have n1_ := Asd.mk ((by rw [hw]; exact bSe (bSe (HB.out) GB17.out) GB17.out : Below w.heap.size w w22)); clear HO_3; clear HB; have HO_3 := n0_; have HB := n1_; clear n0_ n1_; clear hg hw hp_))
                go_roundg k2
                case measure => have := HK1.out; have := HK2.out; omega
                case rel => exact ⟨(y235), (ji10), (by first | rfl | (simp; done) | (simp only [← hji10] <;> (first | rfl | simp)) | (simp [*]; done)), H', ⟨by have := HK1.out; have := HK2.out; omega⟩, ⟨by (with_reducible repeat (first | apply Kd.R_alloc | apply Kd.R_drewN | apply Kd.R_drew)); exact HO_3.out⟩, ⟨bX HB.out⟩⟩
               ·rw [if_neg c16] at H
                exact absurd H (by simp)
              ·rw [if_neg c15] at H
               exact absurd H (by simp)
             ·replace c14 := Bool.eq_false_iff.mpr c14
              subst c14
              have H1 : (if 0 ≤ x5_2 then (if x5_2 < (x3_2.length : Int) then (anvilref02_sorted.l0 k2 l0 (x3_2.set (x5_2 : Int).toNat (⟨(rd_T82 l0 x4_1).f0, (rd_T82 l0 x4_1).f1⟩ : S82)) (wrap64 (x4_1 + 1))) else (none)) else (none)) = some r := by rw [if_neg (show ¬ (false = true) by decide)] at H; exact H
              clear H
              have H := H1
              clear H1
              by_cases c23 : 0 ≤ x5_2
              ·rw [if_pos c23] at H
               have c23b0 : decide (0 ≤ x5_2) = true := decide_eq_true c23
               clear c23
               by_cases c24 : x5_2 < (x3_2.length : Int)
               ·rw [if_pos c24] at H
                have c24b0 : decide (x5_2 < (x3_2.length : Int)) = true := decide_eq_true c24
                clear c24
                obtain ⟨y237, hy237⟩ : ∃ y_ : List (S82), y_ = (x3_2.set (x5_2 : Int).toNat (⟨(rd_T82 l0 x4_1).f0, (rd_T82 l0 x4_1).f1⟩ : S82)) := ⟨_, rfl⟩
                replace H : (anvilref02_sorted.l0 k2 l0 y237 (wrap64 (x4_1 + 1))) = some r := by first | (rw [hy237]; with_reducible exact H) | (have H2_ := (Option.bind_some _ _).symm.trans H; rw [hy237]; with_reducible exact H2_) | (have H2_ := (Option.bind_some _ _).symm.trans H; with_reducible exact H2_) | with_reducible exact H | (rw [hy237]; exact H) | exact H
                have Ny237 := Asd.mk hy237
                clear hy237
                have H' := Asd.mk H
                clear H
                try go_wp2
                have n0_ := Asd.mk (Kd.R_drew HO_3.out)
                have n1_ := Asd.mk (bD1 HB.out)
                clear HO_3
                clear HB
                have HO_3 := n0_
                have HB := n1_
                clear n0_ n1_
                have p231 : 0 ≤ (x4_1 : Int) := of_decide_eq_true aX
                have q231 : x4_1 < (l0.length : Int) := of_decide_eq_true aX
                obtain ⟨ad231, e231, hx231_0, hx231_1⟩ := at_T82 HR0.out x4_1 p231 q231
                have hw231_1 := hx231_1
                have hw231_0 := hx231_0
                obtain rfl : ad227 = ad231 := (by injection e231)
                replace hx231_0 := (HB.out.cell (World.block_lt_of_cell? w _ hx231_0)).trans hx231_0
                replace hx231_1 := (HB.out.cell (World.block_lt_of_cell? w _ hx231_1)).trans hx231_1
                replace p231 := eq_true p231
                replace q231 := eq_true q231
                obtain ⟨Ao27, co27, eo27⟩ := Kd.R_slice HO_3.out
                (first | subst eo27 | (injection eo27 with f1_ f2_ f3_; have f4_ := f1_.symm; have f5_ := f3_.symm; clear f1_ f2_ f3_; subst f4_; subst f5_))
                have p232 : 0 ≤ ((ji10) : Int) := of_decide_eq_true aX
                have q232 : (ji10) < (x3_2.length : Int) := of_decide_eq_true aX
                obtain ⟨ad232, e232, hx232_0, hx232_1⟩ := at_T82 (Kd.R_reads' HO_3.out).2.2 (ji10) p232 q232
                cases e232
                replace p232 := eq_true p232
                replace q232 := eq_true q232
                refine start_ (n := 14) (S := fun w' => w'.cell? (ad227.add ((x4_1).toNat * 2)) = some (.string ((rd_T82 l0 x4_1).f0)) ∧ w'.cell? ⟨(ad227.add ((x4_1).toNat * 2)).block, (ad227.add ((x4_1).toNat * 2)).off + 1, none⟩ = some (.int .u64 ((rd_T82 l0 x4_1).f1)) ∧ w'.cell? (ad232.add (((ji10)).toNat * 2)) = some (.string ((rd_T82 x3_2 (ji10)).f0)) ∧ w'.cell? ⟨(ad232.add (((ji10)).toNat * 2)).block, (ad232.add (((ji10)).toNat * 2)).off + 1, none⟩ = some (.int .u64 ((rd_T82 x3_2 (ji10)).f1))) (ds := []) #[false, false, false, false, false, false, false, false, false, false, false, false, false, false] (by kernel_rfl) rfl rfl ⟨((HB.out.cell (World.block_lt_of_cell? w _ hw231_0)).trans hw231_0), ((HB.out.cell (World.block_lt_of_cell? w _ hw231_1)).trans hw231_1), hx232_0, hx232_1⟩ (fun hHeld => ?_); refine with_tabW anvilref02_sorted.tab7 anvilref02_sorted.bits7 (fun HT_ HW_ => ?_)
                generalize wr.drew = w26 at HO_3 HB hx231_0 hx231_1 hx232_0 hx232_1 hHeld ⊢
                refine pure_ (i := 0) (N := some 21) (v := ?_) (a' := ?_) #[true, false, false, false, false, false, false, false, false, false, false, false, false, false] rfl rfl (any_of HT_.out (by kernel_rfl)) (fun _ _ _ h => h) (Or.inl ⟨by rfl, ?_⟩) ?_ ?_
                rotate_left
                ·intro w'
                 go_simp
                 with_reducible rfl
                rotate_left
                ·simp only [Act.put, List.setIfInBounds_toArray, List.set_cons_zero, List.set_cons_succ, i64_w, i32_w]
                 rfl
                refine pure_ (i := 1) (N := some 22) (v := ?_) (a' := ?_) #[true, true, false, false, false, false, false, false, false, false, false, false, false, false] rfl rfl (any_of HT_.out (by kernel_rfl)) (fun _ _ _ h => h) (Or.inl ⟨by rfl, ?_⟩) ?_ ?_
                rotate_left
                ·intro w'
                 go_simp
                 with_reducible rfl
                rotate_left
                ·simp only [Act.put, List.setIfInBounds_toArray, List.set_cons_zero, List.set_cons_succ, i64_w, i32_w]
                 rfl
                refine pure_ (i := 2) (N := some 23) (v := ?_) (a' := ?_) #[true, true, true, false, false, false, false, false, false, false, false, false, false, false] rfl rfl (any_of HT_.out (by kernel_rfl)) (fun _ _ _ h => h) (Or.inl ⟨by rfl, ?_⟩) ?_ ?_
                rotate_left
                ·intro w'
                 go_simp
                 with_reducible rfl
                rotate_left
                ·simp only [Act.put, List.setIfInBounds_toArray, List.set_cons_zero, List.set_cons_succ, i64_w, i32_w]
                 rfl
                refine pure_ (i := 3) (N := some 24) (v := ?_) (a' := ?_) #[true, true, true, true, false, false, false, false, false, false, false, false, false, false] rfl rfl (any_of HT_.out (by kernel_rfl)) (fun _ _ _ h => h) (Or.inl ⟨by rfl, ?_⟩) ?_ ?_
                rotate_left
                ·intro w'
                 go_simp
                 with_reducible rfl
                rotate_left
                ·simp only [Act.put, List.setIfInBounds_toArray, List.set_cons_zero, List.set_cons_succ, i64_w, i32_w]
                 rfl
                refine pure_ (i := 4) (N := some 25) (v := ?_) (a' := ?_) #[true, true, true, true, true, false, false, false, false, false, false, false, false, false] rfl rfl (any_of HT_.out (by kernel_rfl)) (fun _ _ _ h => h) (Or.inl ⟨by rfl, ?_⟩) ?_ ?_
                rotate_left
                ·intro w'
                 go_simp
                 with_reducible rfl
                rotate_left
                ·simp only [Act.put, List.setIfInBounds_toArray, List.set_cons_zero, List.set_cons_succ, i64_w, i32_w]
                 rfl
                refine pure_ (i := 5) (N := some 26) (v := ?_) (a' := ?_) #[true, true, true, true, true, true, false, false, false, false, false, false, false, false] rfl rfl (any_of HT_.out (by kernel_rfl)) (fun _ _ _ h => h) (Or.inl ⟨by rfl, ?_⟩) ?_ ?_
                rotate_left
                ·intro w'
                 go_simp
                 with_reducible rfl
                rotate_left
                ·simp only [Act.put, List.setIfInBounds_toArray, List.set_cons_zero, List.set_cons_succ, i64_w, i32_w]
                 rfl
                refine pure_ (i := 7) (N := some 28) (v := ?_) (a' := ?_) #[true, true, true, true, true, true, false, true, false, false, false, false, false, false] rfl rfl (any_of HT_.out (by kernel_rfl)) (fun _ _ _ h => h) (Or.inl ⟨by rfl, ?_⟩) ?_ ?_
                rotate_left
                ·intro w'
                 go_simp
                 with_reducible rfl
                rotate_left
                ·simp only [Act.put, List.setIfInBounds_toArray, List.set_cons_zero, List.set_cons_succ, i64_w, i32_w]
                 rfl
                refine pure_ (i := 8) (N := some 29) (v := ?_) (a' := ?_) #[true, true, true, true, true, true, false, true, true, false, false, false, false, false] rfl rfl (any_of HT_.out (by kernel_rfl)) (fun _ _ _ h => h) (Or.inl ⟨by rfl, ?_⟩) ?_ ?_
                rotate_left
                ·intro w'
                 go_simp
                 with_reducible rfl
                rotate_left
                ·simp only [Act.put, List.setIfInBounds_toArray, List.set_cons_zero, List.set_cons_succ, i64_w, i32_w]
                 rfl
                refine pure_ (i := 9) (N := some 30) (v := ?_) (a' := ?_) #[true, true, true, true, true, true, false, true, true, true, false, false, false, false] rfl rfl (any_of HT_.out (by kernel_rfl)) (fun _ _ _ h => h) (Or.inl ⟨by rfl, ?_⟩) ?_ ?_
                rotate_left
                ·intro w'
                 go_simp
                 with_reducible rfl
                rotate_left
                ·simp only [Act.put, List.setIfInBounds_toArray, List.set_cons_zero, List.set_cons_succ, i64_w, i32_w]
                 rfl
                refine pure_ (i := 10) (N := some 31) (v := ?_) (a' := ?_) #[true, true, true, true, true, true, false, true, true, true, true, false, false, false] rfl rfl (any_of HT_.out (by kernel_rfl)) (fun _ _ _ h => h) (Or.inl ⟨by rfl, ?_⟩) ?_ ?_
                rotate_left
                ·intro w'
                 go_simp
                 with_reducible rfl
                rotate_left
                ·simp only [Act.put, List.setIfInBounds_toArray, List.set_cons_zero, List.set_cons_succ, i64_w, i32_w]
                 rfl
                refine take_ (i := 6) (N := some 27) (v := ?_) (a' := ?_) #[true, true, true, true, true, true, true, true, true, true, true, false, false, false] rfl rfl (take_ofW HT_.out HW_.out (by kernel_rfl)) (fun _ _ _ h => h) (Or.inl ⟨by rfl, ?_⟩) hHeld ?_ ?_
                rotate_left
                ·rintro w' ⟨s0, s1, s2, s3⟩
                 go_simp
                 with_reducible rfl
                rotate_left
                ·simp only [Act.put, List.setIfInBounds_toArray, List.set_cons_zero, List.set_cons_succ, i64_w, i32_w]
                 rfl
                refine take_ (i := 11) (N := some 32) (v := ?_) (a' := ?_) #[true, true, true, true, true, true, true, true, true, true, true, true, false, false] rfl rfl (take_ofW HT_.out HW_.out (by kernel_rfl)) (fun _ _ _ h => h) (Or.inl ⟨by rfl, ?_⟩) hHeld ?_ ?_
                rotate_left
                ·rintro w' ⟨s0, s1, s2, s3⟩
                 go_simp
                 with_reducible rfl
                rotate_left
                ·simp only [Act.put, List.setIfInBounds_toArray, List.set_cons_zero, List.set_cons_succ, i64_w, i32_w]
                 rfl
                refine one_ (i := 12) (N := some 33) #[true, true, true, true, true, true, true, true, true, true, true, true, true, false] rfl rfl (one_of HT_.out (by kernel_rfl)) (by decide) (fun K hK => ?_)
                refine goes_ Tryz.func70 (by kernel_rfl) rfl #[.agg #[.string ((rd_T82 l0 x4_1).f0), .int .u64 ((rd_T82 l0 x4_1).f1)], .agg #[.string ((rd_T82 x3_2 (ji10)).f0), .int .u64 ((rd_T82 x3_2 (ji10)).f1)]] (by rfl) rfl rfl (by (try simp only [List.map_toArray, List.map_cons, List.map_nil]); first | done | (simp only [hji10]; rfl) | rfl | (simp only [List.length_drop, List.length_take]; rfl)) ?_
                with_reducible refine (anvilref02_behind.calls ((rd_T82 l0 x4_1).f0) ((rd_T82 l0 x4_1).f1) ((rd_T82 x3_2 (ji10)).f0) ((rd_T82 x3_2 (ji10)).f1) false _ A13.out).mono ?_
                rintro e w28 ⟨rfl, hb⟩
                have HS2_ := (hb.cell (World.block_lt_of_cell? _ _ (hHeld.2.2.1))).trans (hHeld.2.2.1)
                have HS3_ := (hb.cell (World.block_lt_of_cell? _ _ (hHeld.2.2.2))).trans (hHeld.2.2.2)
                refine ⟨_, rfl, ?_⟩
                have n0_ := Asd.mk (Kd.R_below (kRX HO_3.out) hb)
                have n1_ := Asd.mk (bSt (bX HB.out) hb)
                clear HO_3
                clear HB
                have HO_3 := n0_
                have HB := n1_
                clear n0_ n1_
                (try clear hb)
                (try clear hb2)
                (try clear hk)
                (try clear hi)
                refine hK.out _ _ ⟨((HB.out.cell (World.block_lt_of_cell? w _ hw231_0)).trans hw231_0), ((HB.out.cell (World.block_lt_of_cell? w _ hw231_1)).trans hw231_1), HS2_, HS3_⟩ (fun hHeld => ?_)
                clear hK K
                refine norm_ (a' := ?_) ?_ ?_
                rotate_left
                ·show Act.put _ (some 33) _ = _
                 simp only [Act.put, List.setIfInBounds_toArray, List.set_cons_zero, List.set_cons_succ, i64_w, i32_w]
                 rfl
                refine pure_ (i := 13) (N := some 34) (v := ?_) (a' := ?_) #[true, true, true, true, true, true, true, true, true, true, true, true, true, true] rfl rfl (any_of HT_.out (by kernel_rfl)) (fun _ _ _ h => h) (Or.inl ⟨by rfl, ?_⟩) ?_ ?_
                rotate_left
                ·intro w'
                 go_simp
                 with_reducible rfl
                rotate_left
                ·simp only [Act.put, List.setIfInBounds_toArray, List.set_cons_zero, List.set_cons_succ, i64_w, i32_w]
                 rfl
                refine done_ (done_of HT_.out (by kernel_rfl)) ?_
                have p236 : 0 ≤ (x4_1 : Int) := of_decide_eq_true aX
                have q236 : x4_1 < (l0.length : Int) := of_decide_eq_true aX
                obtain ⟨ad236, e236, hx236_0, hx236_1⟩ := at_T82 HR0.out x4_1 p236 q236
                obtain rfl : ad227 = ad236 := (by injection e236)
                replace hx236_0 := (HB.out.cell (World.block_lt_of_cell? w _ hx236_0)).trans hx236_0
                replace hx236_1 := (HB.out.cell (World.block_lt_of_cell? w _ hx236_1)).trans hx236_1
                replace p236 := eq_true p236
                replace q236 := eq_true q236
                have p25 : 0 ≤ (x5_2 : Int) := of_decide_eq_true aX
                have q25 : (x5_2 : Int) < ((x3_2.length : Int) : Int) := of_decide_eq_true aX
                obtain ⟨go25, co25, eo25, gb25, gl25, cl25, HG25⟩ := Kd.R_form HO_3.out (by omega)
                (first | cases eo25 | (injection eo25 with ea_ en_ ec_; (first | subst ea_ | (injection ea_ with ea_; subst ea_)); subst ec_; clear en_))
                have GB25 := Asd.mk gb25
                have GG25 := Asd.mk HG25
                clear gb25 gl25 HG25
                (first | simp only [add_plain] at hx232_0 | skip)
                (first | simp only [add_plain] at hx232_1 | skip)
                obtain ⟨ce25, hcl25, hM25, hcc25, hfr25⟩ := Kd.R_elem HO_3.out z82 (x5_2 : Int) p25 q25
                obtain rfl := k82_openM hM25
                have hx25_0 : w28.cell? ⟨go25, (x5_2 : Int).toNat * 2, none⟩ = some (.string ((rd_T82 x3_2 x5_2).f0)) := hcc25 0 _ rfl
                have hx25_1 : w28.cell? ⟨go25, (x5_2 : Int).toNat * 2 + 1, none⟩ = some (.int .u64 ((rd_T82 x3_2 x5_2).f1)) := hcc25 1 _ rfl
                have hf25_0 : w28.frozen? ⟨go25, (x5_2 : Int).toNat * 2, none⟩ = false := hfr25 0
                have hf25_1 : w28.frozen? ⟨go25, (x5_2 : Int).toNat * 2 + 1, none⟩ = false := hfr25 1
                clear hcl25 hcc25 hfr25 hM25
                replace p25 := eq_true p25
                replace q25 := eq_true q25
                have HX29 := Asd.mk (show Kd.R k82 82 w28 w.heap.size (fun _ => True) (.slice (some ⟨go25, 0, none⟩) x3_2.length co27) x3_2 from (kRX HO_3.out))
                obtain ⟨ce29, hcl29, hM29, hcc29, hfr29⟩ := Kd.R_elem HX29.out z82 (x5_2 : Int) (of_decide_eq_true aX) (by have h_ : (x5_2 : Int) < ((x3_2.length : Int) : Int) := of_decide_eq_true aX; first | exact h_ | (have e_ := (Kd.R_reads' HO_3.out).1; omega) | simpa using h_)
                obtain rfl := k82_openM hM29
                have HP29 := Kd.R_seg HX29.out (x5_2 : Int) (of_decide_eq_true aX) (by have h_ : (x5_2 : Int) < ((x3_2.length : Int) : Int) := of_decide_eq_true aX; first | exact h_ | (have e_ := (Kd.R_reads' HO_3.out).1; omega) | simpa using h_) (seg := [.string ((rd_T82 l0 x4_1).f0), .int .u64 ((rd_T82 l0 x4_1).f1)]) (j := 0) hcl29 hcc29 (show 2 ≤ 2 from by decide) (x' := (⟨(rd_T82 l0 x4_1).f0, (rd_T82 l0 x4_1).f1⟩ : S82)) (k82_mkM _ _ _ (⟨(rd_T82 l0 x4_1).f0, (rd_T82 l0 x4_1).f1⟩ : S82) ) (fun _ hk => hk)
                have hx29_0 := hcc29 0 _ rfl
                (try simp only [show (k82).sz = 2 from rfl, Nat.mul_one, Nat.add_zero] at hx29_0)
                have hf29_0 := hfr29 0
                (try simp only [show (k82).sz = 2 from rfl, Nat.mul_one, Nat.add_zero] at hf29_0)
                have hx29_1 := hcc29 1 _ rfl
                (try simp only [show (k82).sz = 2 from rfl, Nat.mul_one, Nat.add_zero] at hx29_1)
                have hf29_1 := hfr29 1
                (try simp only [show (k82).sz = 2 from rfl, Nat.mul_one, Nat.add_zero] at hf29_1)
                clear hcl29 hcc29 hfr29 hM29
                try go_wp2_with (first | ((with_reducible refine gate_store (t := 82) (p := 51) rfl ?_); refine store_event (t := 82) (p := 51) (v := ?vo_w30) (w1 := ((w28.setCell ⟨go25, (x5_2 : Int).toNat * 2, none⟩ (.string ((rd_T82 l0 x4_1).f0))).setCell ⟨go25, (x5_2 : Int).toNat * 2 + 1, none⟩ (.int .u64 ((rd_T82 l0 x4_1).f1)))) ?hg ?ho ?hn ?hr ?_; (case ho => rfl); (case hg => rfl); (case hn => rfl); (case hr => first | (go_simp; done) | (go_simp; rfl)); intro w30 hw; have hg : w28.grownBy w30 (some go25) := (by rw [hw]; exact HP29.2); have hp_ : Kd.R k82 82 w30 w.heap.size (fun _ => True) (.slice (some ⟨go25, 0, none⟩) x3_2.length co27) y237 := (by rw [hw, Ny237.out]; exact HP29.1); clear HP29; have n0_ := Asd.mk (hp_); have n1_ := Asd.mk ((by rw [hw]; exact bSe (bSe (HB.out) GB25.out) GB25.out : Below w.heap.size w w30)); clear HO_3; clear HB; have HO_3 := n0_; have HB := n1_; clear n0_ n1_; clear hg hw hp_))
                go_roundg k2
                case measure => have := HK1.out; have := HK2.out; omega
                case rel => exact ⟨(y237), (wrap64 (x4_1 + 1)), eX, H', ⟨by have := HK1.out; have := HK2.out; omega⟩, ⟨by (with_reducible repeat (first | apply Kd.R_alloc | apply Kd.R_drewN | apply Kd.R_drew)); exact HO_3.out⟩, ⟨bX HB.out⟩⟩
               ·rw [if_neg c24] at H
                exact absurd H (by simp)
              ·rw [if_neg c23] at H
               exact absurd H (by simp)
            ·rw [if_neg c12] at H
             exact absurd H (by simp)
           ·rw [if_neg c11] at H
            exact absurd H (by simp)
          ·rw [if_neg c9] at H
           exact absurd H (by simp)
         ·rw [if_neg c8] at H
          exact absurd H (by simp)
        ·rw [if_neg c7] at H
         have c7b0 : decide (0 < x5_2) = false := decide_eq_false c7
         clear c7
         by_cases c31 : 0 ≤ x4_1
         ·rw [if_pos c31] at H
          have c31b0 : decide (0 ≤ x4_1) = true := decide_eq_true c31
          clear c31
          by_cases c32 : x4_1 < (l0.length : Int)
          ·rw [if_pos c32] at H
           have c32b0 : decide (x4_1 < (l0.length : Int)) = true := decide_eq_true c32
           clear c32
           by_cases c33 : 0 ≤ x5_2
           ·rw [if_pos c33] at H
            have c33b0 : decide (0 ≤ x5_2) = true := decide_eq_true c33
            clear c33
            by_cases c34 : x5_2 < (x3_2.length : Int)
            ·rw [if_pos c34] at H
             have c34b0 : decide (x5_2 < (x3_2.length : Int)) = true := decide_eq_true c34
             clear c34
             obtain ⟨y239, hy239⟩ : ∃ y_ : List (S82), y_ = (x3_2.set (x5_2 : Int).toNat (⟨(rd_T82 l0 x4_1).f0, (rd_T82 l0 x4_1).f1⟩ : S82)) := ⟨_, rfl⟩
             replace H : (anvilref02_sorted.l0 k2 l0 y239 (wrap64 (x4_1 + 1))) = some r := by first | (rw [hy239]; with_reducible exact H) | (have H2_ := (Option.bind_some _ _).symm.trans H; rw [hy239]; with_reducible exact H2_) | (have H2_ := (Option.bind_some _ _).symm.trans H; with_reducible exact H2_) | with_reducible exact H | (rw [hy239]; exact H) | exact H
             have Ny239 := Asd.mk hy239
             clear hy239
             have H' := Asd.mk H
             clear H
             try go_wp2
             have n0_ := Asd.mk (Kd.R_drew HO_3.out)
             have n1_ := Asd.mk (bD1 HB.out)
             clear HO_3
             clear HB
             have HO_3 := n0_
             have HB := n1_
             clear n0_ n1_
             refine start_ (n := 14) (S := fun w' => True) (ds := []) #[false, false, false, false, false, false, false, false, false, false, false, false, false, false] (by kernel_rfl) rfl rfl trivial (fun hHeld => ?_); refine with_tabW anvilref02_sorted.tab7 anvilref02_sorted.bits7 (fun HT_ HW_ => ?_)
             generalize wr.drew = w36 at HO_3 HB hHeld ⊢
             refine pure_ (i := 0) (N := some 21) (v := ?_) (a' := ?_) #[true, false, false, false, false, false, false, false, false, false, false, false, false, false] rfl rfl (any_of HT_.out (by kernel_rfl)) (fun _ _ _ h => h) (Or.inl ⟨by rfl, ?_⟩) ?_ ?_
             rotate_left
             ·intro w'
              go_simp
              with_reducible rfl
             rotate_left
             ·simp only [Act.put, List.setIfInBounds_toArray, List.set_cons_zero, List.set_cons_succ, i64_w, i32_w]
              rfl
             refine pure_ (i := 1) (N := some 22) (v := ?_) (a' := ?_) #[true, true, false, false, false, false, false, false, false, false, false, false, false, false] rfl rfl (any_of HT_.out (by kernel_rfl)) (fun _ _ _ h => h) (Or.inl ⟨by rfl, ?_⟩) ?_ ?_
             rotate_left
             ·intro w'
              go_simp
              with_reducible rfl
             rotate_left
             ·simp only [Act.put, List.setIfInBounds_toArray, List.set_cons_zero, List.set_cons_succ, i64_w, i32_w]
              rfl
             refine pure_ (i := 2) (N := some 23) (v := ?_) (a' := ?_) #[true, true, true, false, false, false, false, false, false, false, false, false, false, false] rfl rfl (any_of HT_.out (by kernel_rfl)) (fun _ _ _ h => h) (Or.inl ⟨by rfl, ?_⟩) ?_ ?_
             rotate_left
             ·intro w'
              go_simp
              with_reducible rfl
             rotate_left
             ·simp only [Act.put, List.setIfInBounds_toArray, List.set_cons_zero, List.set_cons_succ, i64_w, i32_w]
              rfl
             refine pure_ (i := 3) (N := some 24) (v := undef) (a' := ?_) #[true, true, true, true, false, false, false, false, false, false, false, false, false, false] rfl rfl (any_of HT_.out (by kernel_rfl)) (fun _ _ _ h => h) (Or.inr ⟨by rfl, rfl⟩) ?_ ?_
             rotate_left
             ·simp only [Act.put, List.setIfInBounds_toArray, List.set_cons_zero, List.set_cons_succ, i64_w, i32_w]
              rfl
             refine pure_ (i := 4) (N := some 25) (v := undef) (a' := ?_) #[true, true, true, true, true, false, false, false, false, false, false, false, false, false] rfl rfl (any_of HT_.out (by kernel_rfl)) (fun _ _ _ h => h) (Or.inr ⟨by rfl, rfl⟩) ?_ ?_
             rotate_left
             ·simp only [Act.put, List.setIfInBounds_toArray, List.set_cons_zero, List.set_cons_succ, i64_w, i32_w]
              rfl
             refine pure_ (i := 5) (N := some 26) (v := undef) (a' := ?_) #[true, true, true, true, true, true, false, false, false, false, false, false, false, false] rfl rfl (any_of HT_.out (by kernel_rfl)) (fun _ _ _ h => h) (Or.inr ⟨by rfl, rfl⟩) ?_ ?_
             rotate_left
             ·simp only [Act.put, List.setIfInBounds_toArray, List.set_cons_zero, List.set_cons_succ, i64_w, i32_w]
              rfl
             refine pure_ (i := 6) (N := some 27) (v := undef) (a' := ?_) #[true, true, true, true, true, true, true, false, false, false, false, false, false, false] rfl rfl (any_of HT_.out (by kernel_rfl)) (fun _ _ _ h => h) (Or.inr ⟨by rfl, rfl⟩) ?_ ?_
             rotate_left
             ·simp only [Act.put, List.setIfInBounds_toArray, List.set_cons_zero, List.set_cons_succ, i64_w, i32_w]
              rfl
             refine pure_ (i := 7) (N := some 28) (v := undef) (a' := ?_) #[true, true, true, true, true, true, true, true, false, false, false, false, false, false] rfl rfl (any_of HT_.out (by kernel_rfl)) (fun _ _ _ h => h) (Or.inr ⟨by rfl, rfl⟩) ?_ ?_
             rotate_left
             ·simp only [Act.put, List.setIfInBounds_toArray, List.set_cons_zero, List.set_cons_succ, i64_w, i32_w]
              rfl
             refine pure_ (i := 8) (N := some 29) (v := undef) (a' := ?_) #[true, true, true, true, true, true, true, true, true, false, false, false, false, false] rfl rfl (any_of HT_.out (by kernel_rfl)) (fun _ _ _ h => h) (Or.inr ⟨by rfl, rfl⟩) ?_ ?_
             rotate_left
             ·simp only [Act.put, List.setIfInBounds_toArray, List.set_cons_zero, List.set_cons_succ, i64_w, i32_w]
              rfl
             refine pure_ (i := 9) (N := some 30) (v := undef) (a' := ?_) #[true, true, true, true, true, true, true, true, true, true, false, false, false, false] rfl rfl (any_of HT_.out (by kernel_rfl)) (fun _ _ _ h => h) (Or.inr ⟨by rfl, rfl⟩) ?_ ?_
             rotate_left
             ·simp only [Act.put, List.setIfInBounds_toArray, List.set_cons_zero, List.set_cons_succ, i64_w, i32_w]
              rfl
             refine pure_ (i := 10) (N := some 31) (v := undef) (a' := ?_) #[true, true, true, true, true, true, true, true, true, true, true, false, false, false] rfl rfl (any_of HT_.out (by kernel_rfl)) (fun _ _ _ h => h) (Or.inr ⟨by rfl, rfl⟩) ?_ ?_
             rotate_left
             ·simp only [Act.put, List.setIfInBounds_toArray, List.set_cons_zero, List.set_cons_succ, i64_w, i32_w]
              rfl
             refine pure_ (i := 11) (N := some 32) (v := undef) (a' := ?_) #[true, true, true, true, true, true, true, true, true, true, true, true, false, false] rfl rfl (any_of HT_.out (by kernel_rfl)) (fun _ _ _ h => h) (Or.inr ⟨by rfl, rfl⟩) ?_ ?_
             rotate_left
             ·simp only [Act.put, List.setIfInBounds_toArray, List.set_cons_zero, List.set_cons_succ, i64_w, i32_w]
              rfl
             refine pure_ (i := 12) (N := some 33) (v := undef) (a' := ?_) #[true, true, true, true, true, true, true, true, true, true, true, true, true, false] rfl rfl (any_of HT_.out (by kernel_rfl)) (fun _ _ _ h => h) (Or.inr ⟨by rfl, rfl⟩) ?_ ?_
             rotate_left
             ·simp only [Act.put, List.setIfInBounds_toArray, List.set_cons_zero, List.set_cons_succ, i64_w, i32_w]
              rfl
             refine pure_ (i := 13) (N := some 34) (v := ?_) (a' := ?_) #[true, true, true, true, true, true, true, true, true, true, true, true, true, true] rfl rfl (any_of HT_.out (by kernel_rfl)) (fun _ _ _ h => h) (Or.inl ⟨by rfl, ?_⟩) ?_ ?_
             rotate_left
             ·intro w'
              go_simp
              with_reducible rfl
             rotate_left
             ·simp only [Act.put, List.setIfInBounds_toArray, List.set_cons_zero, List.set_cons_succ, i64_w, i32_w]
              rfl
             refine done_ (done_of HT_.out (by kernel_rfl)) ?_
             have p238 : 0 ≤ (x4_1 : Int) := of_decide_eq_true aX
             have q238 : x4_1 < (l0.length : Int) := of_decide_eq_true aX
             obtain ⟨ad238, e238, hx238_0, hx238_1⟩ := at_T82 HR0.out x4_1 p238 q238
             obtain rfl : ad227 = ad238 := (by injection e238)
             replace hx238_0 := (HB.out.cell (World.block_lt_of_cell? w _ hx238_0)).trans hx238_0
             replace hx238_1 := (HB.out.cell (World.block_lt_of_cell? w _ hx238_1)).trans hx238_1
             replace p238 := eq_true p238
             replace q238 := eq_true q238
             have p35 : 0 ≤ (x5_2 : Int) := of_decide_eq_true aX
             have q35 : (x5_2 : Int) < ((x3_2.length : Int) : Int) := of_decide_eq_true aX
             obtain ⟨go35, co35, eo35, gb35, gl35, cl35, HG35⟩ := Kd.R_form HO_3.out (by omega)
             (first | cases eo35 | (injection eo35 with ea_ en_ ec_; (first | subst ea_ | (injection ea_ with ea_; subst ea_)); subst ec_; clear en_))
             have GB35 := Asd.mk gb35
             have GG35 := Asd.mk HG35
             clear gb35 gl35 HG35
             obtain ⟨ce35, hcl35, hM35, hcc35, hfr35⟩ := Kd.R_elem HO_3.out z82 (x5_2 : Int) p35 q35
             obtain rfl := k82_openM hM35
             have hx35_0 : w36.cell? ⟨go35, (x5_2 : Int).toNat * 2, none⟩ = some (.string ((rd_T82 x3_2 x5_2).f0)) := hcc35 0 _ rfl
             have hx35_1 : w36.cell? ⟨go35, (x5_2 : Int).toNat * 2 + 1, none⟩ = some (.int .u64 ((rd_T82 x3_2 x5_2).f1)) := hcc35 1 _ rfl
             have hf35_0 : w36.frozen? ⟨go35, (x5_2 : Int).toNat * 2, none⟩ = false := hfr35 0
             have hf35_1 : w36.frozen? ⟨go35, (x5_2 : Int).toNat * 2 + 1, none⟩ = false := hfr35 1
             clear hcl35 hcc35 hfr35 hM35
             replace p35 := eq_true p35
             replace q35 := eq_true q35
             have HX37 := Asd.mk (show Kd.R k82 82 w36 w.heap.size (fun _ => True) (.slice (some ⟨go35, 0, none⟩) x3_2.length co35) x3_2 from (kRX HO_3.out))
             obtain ⟨ce37, hcl37, hM37, hcc37, hfr37⟩ := Kd.R_elem HX37.out z82 (x5_2 : Int) (of_decide_eq_true aX) (by have h_ : (x5_2 : Int) < ((x3_2.length : Int) : Int) := of_decide_eq_true aX; first | exact h_ | (have e_ := (Kd.R_reads' HO_3.out).1; omega) | simpa using h_)
             obtain rfl := k82_openM hM37
             have HP37 := Kd.R_seg HX37.out (x5_2 : Int) (of_decide_eq_true aX) (by have h_ : (x5_2 : Int) < ((x3_2.length : Int) : Int) := of_decide_eq_true aX; first | exact h_ | (have e_ := (Kd.R_reads' HO_3.out).1; omega) | simpa using h_) (seg := [.string ((rd_T82 l0 x4_1).f0), .int .u64 ((rd_T82 l0 x4_1).f1)]) (j := 0) hcl37 hcc37 (show 2 ≤ 2 from by decide) (x' := (⟨(rd_T82 l0 x4_1).f0, (rd_T82 l0 x4_1).f1⟩ : S82)) (k82_mkM _ _ _ (⟨(rd_T82 l0 x4_1).f0, (rd_T82 l0 x4_1).f1⟩ : S82) ) (fun _ hk => hk)
             have hx37_0 := hcc37 0 _ rfl
             (try simp only [show (k82).sz = 2 from rfl, Nat.mul_one, Nat.add_zero] at hx37_0)
             have hf37_0 := hfr37 0
             (try simp only [show (k82).sz = 2 from rfl, Nat.mul_one, Nat.add_zero] at hf37_0)
             have hx37_1 := hcc37 1 _ rfl
             (try simp only [show (k82).sz = 2 from rfl, Nat.mul_one, Nat.add_zero] at hx37_1)
             have hf37_1 := hfr37 1
             (try simp only [show (k82).sz = 2 from rfl, Nat.mul_one, Nat.add_zero] at hf37_1)
             clear hcl37 hcc37 hfr37 hM37
             try go_wp2_with (first | ((with_reducible refine gate_store (t := 82) (p := 51) rfl ?_); refine store_event (t := 82) (p := 51) (v := ?vo_w38) (w1 := ((w36.setCell ⟨go35, (x5_2 : Int).toNat * 2, none⟩ (.string ((rd_T82 l0 x4_1).f0))).setCell ⟨go35, (x5_2 : Int).toNat * 2 + 1, none⟩ (.int .u64 ((rd_T82 l0 x4_1).f1)))) ?hg ?ho ?hn ?hr ?_; (case ho => rfl); (case hg => rfl); (case hn => rfl); (case hr => first | (go_simp; done) | (go_simp; rfl)); intro w38 hw; have hg : w36.grownBy w38 (some go35) := (by rw [hw]; exact HP37.2); have hp_ : Kd.R k82 82 w38 w.heap.size (fun _ => True) (.slice (some ⟨go35, 0, none⟩) x3_2.length co35) y239 := (by rw [hw, Ny239.out]; exact HP37.1); clear HP37; have n0_ := Asd.mk (hp_); have n1_ := Asd.mk ((by rw [hw]; exact bSe (bSe (HB.out) GB35.out) GB35.out : Below w.heap.size w w38)); clear HO_3; clear HB; have HO_3 := n0_; have HB := n1_; clear n0_ n1_; clear hg hw hp_))
             go_roundg k2
             case measure => have := HK1.out; have := HK2.out; omega
             case rel => exact ⟨(y239), (wrap64 (x4_1 + 1)), eX, H', ⟨by have := HK1.out; have := HK2.out; omega⟩, ⟨by (with_reducible repeat (first | apply Kd.R_alloc | apply Kd.R_drewN | apply Kd.R_drew)); exact HO_3.out⟩, ⟨bX HB.out⟩⟩
            ·rw [if_neg c34] at H
             exact absurd H (by simp)
           ·rw [if_neg c33] at H
            exact absurd H (by simp)
          ·rw [if_neg c32] at H
           exact absurd H (by simp)
         ·rw [if_neg c31] at H
          exact absurd H (by simp)
     ·rw [if_neg c4] at H
      exact absurd H (by simp)
    ·rw [if_neg c3] at H
     exact absurd H (by simp)
   ·rw [if_neg c2] at H
    have c2b0 : decide (x4_1 < (l0.length : Int)) = false := decide_eq_false c2
    clear c2
    obtain rfl := Option.some.inj H
    go_wp2
    go_ret
    exact ⟨_, rX, by (with_reducible repeat (first | apply Kd.R_alloc | apply Kd.R_drewN | apply Kd.R_drew)); exact HO_3.out, bX HB.out⟩
end Go.Proofs.YtbnlifldnjgpmaaGreatDoor.PWri
