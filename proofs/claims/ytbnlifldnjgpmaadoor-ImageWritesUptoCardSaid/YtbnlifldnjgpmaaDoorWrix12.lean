-- BY PROGRAM of this session (the kit's printer, turned by wip/tools/patch_print.py). Lean checks it.
import Derived.Test.YtbnlifldnjgpmaaDoorGr1
import Derived.Test.YtbnlifldnjgpmaaDoorWrix2
import Derived.Test.YtbnlifldnjgpmaaDoorWrix6
import Derived.Test.YtbnlifldnjgpmaaDoorWrix10
import Derived.Test.YtbnlifldnjgpmaaDoorGr3
namespace Go.Proofs.YtbnlifldnjgpmaaDoor.PWri
open Go.RowKit Go.Proofs.YtbnlifldnjgpmaaDoorW.PrintWords Go.Proofs.YtbnlifldnjgpmaaDoorW.PrintLast Go.Proofs.YtbnlifldnjgpmaaDoorW.PrintMore
attribute [local go_sem] max2_int min2_int max_two min_two max_three min_three max_four min_four   -- for this text's walks alone
set_option linter.unusedVariables false
set_option linter.unusedSimpArgs false

/-! ### anvillaw02_ImageWrites: function 4 -/
mutual
def anvillaw02_ImageWrites.j0 : Nat → List Int → List Int → Bool → Int → List (S41) → List (S44) → Option (Bool)
  | 0, _, _, _, _, _, _ => none
  | k + 1, x4, x6, x37, x378000, x378001, x378002 => if x37 = true then (some false) else (anvillaw02_ImageWrites.l0 k x4 x6 0 x378000 x378001 x378002)
def anvillaw02_ImageWrites.l0 : Nat → List Int → List Int → Int → Int → List (S41) → List (S44) → Option (Bool)
  | 0, _, _, _, _, _, _ => none
  | k + 1, x4, x6, x8, x378000, x378001, x378002 => if x8 < (x378001.length : Int) then (anvillaw02_ImageWrites.l1 k x4 x6 x8 0 x378000 x378001 x378002) else ((anvillaw02_same.f x4 x6).bind fun t389 => (some t389))
def anvillaw02_ImageWrites.l1 : Nat → List Int → List Int → Int → Int → Int → List (S41) → List (S44) → Option (Bool)
  | 0, _, _, _, _, _, _, _ => none
  | k + 1, x4, x6, x8, x9, x378000, x378001, x378002 => if 0 ≤ x8 then (if x8 < (x378001.length : Int) then (if x9 < (((rd_T41 x378001 x8).f3).length : Int) then (if 0 ≤ x9 then (anvillaw02_ImageWrites.l1 k x4 x6 x8 (wrap64 (x9 + 1)) x378000 (x378001.set (x8 : Int).toNat (⟨(rd_T41 x378001 x8).f0, (rd_T41 x378001 x8).f1, (rd_T41 x378001 x8).f2, (((rd_T41 x378001 x8).f3).set (x9 : Int).toNat 238)⟩ : S41)) x378002) else (none)) else (anvillaw02_ImageWrites.l0 k x4 x6 (wrap64 (x8 + 1)) x378000 x378001 x378002)) else (none)) else (none)
end
def anvillaw02_ImageWrites.f (k : Nat) (a0_0 : Int) (l0_1 : List (S41)) (l0_2 : List (S44)) : Option (Bool) := (anvillaw02_twin.f k a0_0 l0_1 l0_2).bind fun bt370 => ((image_Write.f k bt370.1 bt370.2.1 bt370.2.2).bind fun bt378 => ((anvilref02_Write.f k a0_0 l0_1 l0_2).bind fun bt382 => ((anvillaw02_num.f bt378.2).bind fun t386 => (if t386 = bt382.2 then ((anvillaw02_same.f bt378.1 bt382.1).bind fun t387 => (if t387 = true then ((anvillaw02_alike.f k bt370.1 bt370.2.1 bt370.2.2 a0_0 l0_1 l0_2).bind fun t388 => (anvillaw02_ImageWrites.j0 k bt378.1 bt382.1 (!t388) bt370.1 bt370.2.1 bt370.2.2)) else (anvillaw02_ImageWrites.j0 k bt378.1 bt382.1 true bt370.1 bt370.2.1 bt370.2.2))) else (anvillaw02_ImageWrites.j0 k bt378.1 bt382.1 true bt370.1 bt370.2.1 bt370.2.2)))))
theorem anvillaw02_ImageWrites.mono_l : ∀ k, (∀ y0 y1 y2 y3 y4 y5, LeO (anvillaw02_ImageWrites.j0 k y0 y1 y2 y3 y4 y5) (anvillaw02_ImageWrites.j0 (k + 1) y0 y1 y2 y3 y4 y5)) ∧ (∀ y0 y1 y2 y3 y4 y5, LeO (anvillaw02_ImageWrites.l0 k y0 y1 y2 y3 y4 y5) (anvillaw02_ImageWrites.l0 (k + 1) y0 y1 y2 y3 y4 y5)) ∧ (∀ y0 y1 y2 y3 y4 y5 y6, LeO (anvillaw02_ImageWrites.l1 k y0 y1 y2 y3 y4 y5 y6) (anvillaw02_ImageWrites.l1 (k + 1) y0 y1 y2 y3 y4 y5 y6))
  | 0 => ⟨fun _ _ _ _ _ _ r h => by simp [anvillaw02_ImageWrites.j0] at h, fun _ _ _ _ _ _ r h => by simp [anvillaw02_ImageWrites.l0] at h, fun _ _ _ _ _ _ _ r h => by simp [anvillaw02_ImageWrites.l1] at h⟩
  | k + 1 => by
    obtain ⟨ih0, ih1, ih2⟩ := anvillaw02_ImageWrites.mono_l k
    refine ⟨?_, ?_, ?_⟩
    · intro y0 y1 y2 y3 y4 y5
      unfold anvillaw02_ImageWrites.j0
      repeat' first
      | (with_reducible exact ih0 _ _ _ _ _ _)
      | (with_reducible exact ih1 _ _ _ _ _ _)
      | (with_reducible exact ih2 _ _ _ _ _ _ _)
      | (with_reducible exact anvillaw02_alike.mono _ _ _ _ _ _ _)
      | (with_reducible exact anvillaw02_twin.mono _ _ _ _)
      | (with_reducible exact anvilref02_Write.mono _ _ _ _)
      | (with_reducible exact image_Write.mono _ _ _ _)
      | (with_reducible exact LeO.refl _)
      | (with_reducible exact LeO.none _)
      | (with_reducible refine LeO.ite ?_ ?_)
      | (with_reducible refine LeO.bind ?_ (fun _ => ?_))
      | exact ih0 _ _ _ _ _ _
      | exact ih1 _ _ _ _ _ _
      | exact ih2 _ _ _ _ _ _ _
      | exact anvillaw02_alike.mono _ _ _ _ _ _ _
      | exact anvillaw02_twin.mono _ _ _ _
      | exact anvilref02_Write.mono _ _ _ _
      | exact image_Write.mono _ _ _ _
      | exact LeO.none _
      | refine LeO.ite ?_ ?_
      | refine LeO.bind ?_ (fun _ => ?_)
    · intro y0 y1 y2 y3 y4 y5
      unfold anvillaw02_ImageWrites.l0
      repeat' first
      | (with_reducible exact ih0 _ _ _ _ _ _)
      | (with_reducible exact ih1 _ _ _ _ _ _)
      | (with_reducible exact ih2 _ _ _ _ _ _ _)
      | (with_reducible exact anvillaw02_alike.mono _ _ _ _ _ _ _)
      | (with_reducible exact anvillaw02_twin.mono _ _ _ _)
      | (with_reducible exact anvilref02_Write.mono _ _ _ _)
      | (with_reducible exact image_Write.mono _ _ _ _)
      | (with_reducible exact LeO.refl _)
      | (with_reducible exact LeO.none _)
      | (with_reducible refine LeO.ite ?_ ?_)
      | (with_reducible refine LeO.bind ?_ (fun _ => ?_))
      | exact ih0 _ _ _ _ _ _
      | exact ih1 _ _ _ _ _ _
      | exact ih2 _ _ _ _ _ _ _
      | exact anvillaw02_alike.mono _ _ _ _ _ _ _
      | exact anvillaw02_twin.mono _ _ _ _
      | exact anvilref02_Write.mono _ _ _ _
      | exact image_Write.mono _ _ _ _
      | exact LeO.none _
      | refine LeO.ite ?_ ?_
      | refine LeO.bind ?_ (fun _ => ?_)
    · intro y0 y1 y2 y3 y4 y5 y6
      unfold anvillaw02_ImageWrites.l1
      repeat' first
      | (with_reducible exact ih0 _ _ _ _ _ _)
      | (with_reducible exact ih1 _ _ _ _ _ _)
      | (with_reducible exact ih2 _ _ _ _ _ _ _)
      | (with_reducible exact anvillaw02_alike.mono _ _ _ _ _ _ _)
      | (with_reducible exact anvillaw02_twin.mono _ _ _ _)
      | (with_reducible exact anvilref02_Write.mono _ _ _ _)
      | (with_reducible exact image_Write.mono _ _ _ _)
      | (with_reducible exact LeO.refl _)
      | (with_reducible exact LeO.none _)
      | (with_reducible refine LeO.ite ?_ ?_)
      | (with_reducible refine LeO.bind ?_ (fun _ => ?_))
      | exact ih0 _ _ _ _ _ _
      | exact ih1 _ _ _ _ _ _
      | exact ih2 _ _ _ _ _ _ _
      | exact anvillaw02_alike.mono _ _ _ _ _ _ _
      | exact anvillaw02_twin.mono _ _ _ _
      | exact anvilref02_Write.mono _ _ _ _
      | exact image_Write.mono _ _ _ _
      | exact LeO.none _
      | refine LeO.ite ?_ ?_
      | refine LeO.bind ?_ (fun _ => ?_)
theorem anvillaw02_ImageWrites.mono : ∀ a0 a1 a2 k, LeO (anvillaw02_ImageWrites.f k a0 a1 a2) (anvillaw02_ImageWrites.f (k + 1) a0 a1 a2) := by
  intro a0 a1 a2 k
  obtain ⟨ih0, ih1, ih2⟩ := anvillaw02_ImageWrites.mono_l k
  unfold anvillaw02_ImageWrites.f
  repeat' first
      | (with_reducible exact ih0 _ _ _ _ _ _)
      | (with_reducible exact ih1 _ _ _ _ _ _)
      | (with_reducible exact ih2 _ _ _ _ _ _ _)
      | (with_reducible exact anvillaw02_alike.mono _ _ _ _ _ _ _)
      | (with_reducible exact anvillaw02_twin.mono _ _ _ _)
      | (with_reducible exact anvilref02_Write.mono _ _ _ _)
      | (with_reducible exact image_Write.mono _ _ _ _)
      | (with_reducible exact LeO.refl _)
      | (with_reducible exact LeO.none _)
      | (with_reducible refine LeO.ite ?_ ?_)
      | (with_reducible refine LeO.bind ?_ (fun _ => ?_))
      | exact ih0 _ _ _ _ _ _
      | exact ih1 _ _ _ _ _ _
      | exact ih2 _ _ _ _ _ _ _
      | exact anvillaw02_alike.mono _ _ _ _ _ _ _
      | exact anvillaw02_twin.mono _ _ _ _
      | exact anvilref02_Write.mono _ _ _ _
      | exact image_Write.mono _ _ _ _
      | exact LeO.none _
      | refine LeO.ite ?_ ?_
      | refine LeO.bind ?_ (fun _ => ?_)
set_option maxHeartbeats 8000000 in
set_option maxRecDepth 100000 in
theorem anvillaw02_ImageWrites.calls (k : Nat) (a0_0 : Int) (A0_1 : Option Addr) (c0_1 : Nat) (l0_1 : List (S41)) (A0_2 : Option Addr) (c0_2 : Nat) (l0_2 : List (S44)) (r : Bool) (w : World) (hr0_1 : Kd.C k41 w A0_1 l0_1.length l0_1) (hc0_1 : l0_1.length ≤ c0_1) (hr0_2 : Kd.C k44 w A0_2 l0_2.length l0_2) (hc0_2 : l0_2.length ≤ c0_2) (hG : Glob w) (h : anvillaw02_ImageWrites.f k a0_0 l0_1 l0_2 = some r) :
    Calls Tryd.prog 4 #[.agg #[.int .u64 a0_0, .slice A0_1 l0_1.length c0_1, .slice A0_2 l0_2.length c0_2]] w fun e w' => e = .returned (.bool r) ∧ Below w.heap.size w w' := by
  have hu26 := Tryd.underlying26
  have HR0_1 := Aside0.mk hr0_1
  have HC0_1 := Aside0.mk hc0_1
  clear hr0_1 hc0_1
  have HR0_2 := Aside0.mk hr0_2
  have HC0_2 := Aside0.mk hc0_2
  clear hr0_2 hc0_2
  have HG := Aside0.mk hG
  clear hG
  have HB := Aside0.mk (Below.refl w.heap.size w)
  have H : ((anvillaw02_twin.f k a0_0 l0_1 l0_2).bind fun bt370 => ((image_Write.f k bt370.1 bt370.2.1 bt370.2.2).bind fun bt378 => ((anvilref02_Write.f k a0_0 l0_1 l0_2).bind fun bt382 => ((anvillaw02_num.f bt378.2).bind fun t386 => (if t386 = bt382.2 then ((anvillaw02_same.f bt378.1 bt382.1).bind fun t387 => (if t387 = true then ((anvillaw02_alike.f k bt370.1 bt370.2.1 bt370.2.2 a0_0 l0_1 l0_2).bind fun t388 => (anvillaw02_ImageWrites.j0 k bt378.1 bt382.1 (!t388) bt370.1 bt370.2.1 bt370.2.2)) else (anvillaw02_ImageWrites.j0 k bt378.1 bt382.1 true bt370.1 bt370.2.1 bt370.2.2))) else (anvillaw02_ImageWrites.j0 k bt378.1 bt382.1 true bt370.1 bt370.2.1 bt370.2.2)))))) = some r := h
  clear h
  replace H := Option.bind_eq_some_iff.mp H
  obtain ⟨⟨t370, t371, t374⟩, A20, H⟩ := H
  replace H : ((image_Write.f k t370 t371 t374).bind fun bt378 => ((anvilref02_Write.f k a0_0 l0_1 l0_2).bind fun bt382 => ((anvillaw02_num.f bt378.2).bind fun t386 => (if t386 = bt382.2 then ((anvillaw02_same.f bt378.1 bt382.1).bind fun t387 => (if t387 = true then ((anvillaw02_alike.f k t370 t371 t374 a0_0 l0_1 l0_2).bind fun t388 => (anvillaw02_ImageWrites.j0 k bt378.1 bt382.1 (!t388) t370 t371 t374)) else (anvillaw02_ImageWrites.j0 k bt378.1 bt382.1 true t370 t371 t374))) else (anvillaw02_ImageWrites.j0 k bt378.1 bt382.1 true t370 t371 t374))))) = some r := H
  have A2 := Aside0.mk A20
  clear A20
  replace H := Option.bind_eq_some_iff.mp H
  obtain ⟨⟨t378, t381⟩, A30, H⟩ := H
  replace H : ((anvilref02_Write.f k a0_0 l0_1 l0_2).bind fun bt382 => ((anvillaw02_num.f t381).bind fun t386 => (if t386 = bt382.2 then ((anvillaw02_same.f t378 bt382.1).bind fun t387 => (if t387 = true then ((anvillaw02_alike.f k t370 t371 t374 a0_0 l0_1 l0_2).bind fun t388 => (anvillaw02_ImageWrites.j0 k t378 bt382.1 (!t388) t370 t371 t374)) else (anvillaw02_ImageWrites.j0 k t378 bt382.1 true t370 t371 t374))) else (anvillaw02_ImageWrites.j0 k t378 bt382.1 true t370 t371 t374)))) = some r := H
  have A3 := Aside0.mk A30
  clear A30
  replace H := Option.bind_eq_some_iff.mp H
  obtain ⟨⟨t382, t385⟩, A40, H⟩ := H
  replace H : ((anvillaw02_num.f t381).bind fun t386 => (if t386 = t385 then ((anvillaw02_same.f t378 t382).bind fun t387 => (if t387 = true then ((anvillaw02_alike.f k t370 t371 t374 a0_0 l0_1 l0_2).bind fun t388 => (anvillaw02_ImageWrites.j0 k t378 t382 (!t388) t370 t371 t374)) else (anvillaw02_ImageWrites.j0 k t378 t382 true t370 t371 t374))) else (anvillaw02_ImageWrites.j0 k t378 t382 true t370 t371 t374))) = some r := H
  have A4 := Aside0.mk A40
  clear A40
  have HC5 := Aside0.mk H
  clear H
  go_enter Tryd.func4, Tryd.ntmps4
  go_upto_region 4 with (first | ((with_reducible refine gate_dst (N := 1) rfl ?_); refine box_event ?hg (N := 1) ?hd (cs := #[.int .u64 a0_0, .slice A0_1 l0_1.length c0_1, .slice A0_2 l0_2.length c0_2]) (t := 26) ?hr ?_; (case hd => rfl); (case hg => rfl); (case hr => first | (go_simp; done) | (go_simp; rfl)); intro gb369 hg w6 hbox hb; have n0_ := Aside0.mk (below_step (by repeat (first | (with_reducible first | exact HB.out | apply below_alloc | apply pw_below_drewN | apply below_drew1) | exact HB.out)) hb); have n1_ := Aside0.mk (hbox); have n2_ := Aside0.mk ((by rw [hg]; exact (below_size (by repeat (first | (with_reducible first | exact HB.out | apply below_alloc | apply pw_below_drewN | apply below_drew1) | exact HB.out))) : w.heap.size ≤ gb369)); have n3_ := Aside0.mk ((by rw [hg]; exact (below_size (by repeat (first | (with_reducible first | exact HB.out | apply below_alloc | apply pw_below_drewN | apply below_drew1) | exact HB.out))) : w.heap.size ≤ gb369)); clear HB; have HB := n0_; have BK369 := n1_; have GW369 := n2_; have GE369 := n3_; clear n0_ n1_ n2_ n3_; clear hb hbox hg; have hcz7_0 : w6.cell? ⟨gb369, 0, none⟩ = some (.int .u64 a0_0) := (blk_cell BK369.out 0).trans rfl; have hcz7_1 : w6.cell? ⟨gb369, 1, none⟩ = some (.slice A0_1 l0_1.length c0_1) := (blk_cell BK369.out 1).trans rfl; have hcz7_2 : w6.cell? ⟨gb369, 2, none⟩ = some (.slice A0_2 l0_2.length c0_2) := (blk_cell BK369.out 2).trans rfl; have hfz7_0 := blk_frozen BK369.out 0; have hfz7_1 := blk_frozen BK369.out 1; have hfz7_2 := blk_frozen BK369.out 2) | ((with_reducible refine gate_callee (f := 7) rfl ?_); refine goesL_ (some 11) rfl rfl Tryd.func7 (by kernel_rfl) rfl #[.agg #[.int .u64 a0_0, .slice A0_1 l0_1.length c0_1, .slice A0_2 l0_2.length c0_2]] rfl (by (try simp only [List.map_toArray, List.map_cons, List.map_nil]); first | done | rfl | (simp only [List.length_drop, List.length_take]; rfl)) ?_; (with_reducible refine (anvillaw02_twin.calls k a0_0 _ _ l0_1 _ _ l0_2 t370 t371 t374 _ ?side1 ?side2 ?side3 ?side4 A2.out).mono ?_); (case side1 => repeat (first | exact (Kd.C_below HR0_1.out HB.out) | (with_reducible refine Kd.C_alloc ?_ _) | (with_reducible refine Kd.C_drewN ?_ _) | (with_reducible refine Kd.C_drew ?_))); (case side2 => exact HC0_1.out); (case side3 => repeat (first | exact (Kd.C_below HR0_2.out HB.out) | (with_reducible refine Kd.C_alloc ?_ _) | (with_reducible refine Kd.C_drewN ?_ _) | (with_reducible refine Kd.C_drew ?_))); (case side4 => exact HC0_2.out); rintro e w8 ⟨v372, v375, rfl, ho0, ho1, hb⟩; refine ⟨_, rfl, ?_⟩; have n0_ := Aside0.mk (Kd.S_lower ho0 (below_size (by repeat (first | (with_reducible first | exact HB.out | apply below_alloc | apply pw_below_drewN | apply below_drew1 | refine below_set ?_ GE369.out) | exact HB.out)))); have n1_ := Aside0.mk (Kd.R_lower ho1 (below_size (by repeat (first | (with_reducible first | exact HB.out | apply below_alloc | apply pw_below_drewN | apply below_drew1 | refine below_set ?_ GE369.out) | exact HB.out)))); have n2_ := Aside0.mk (blk_below (g := gb369) (o := .cells #[.int .u64 a0_0, .slice A0_1 l0_1.length c0_1, .slice A0_2 l0_2.length c0_2] 26 (0, 0)) (by (with_reducible repeat (first | refine blk_drewN ?_ _ | refine blk_drew ?_ | refine blk_alloc ?_ _)); exact BK369.out) hb); have n3_ := Aside0.mk (below_step (by repeat (first | (with_reducible first | exact HB.out | apply below_alloc | apply pw_below_drewN | apply below_drew1 | refine below_set ?_ GE369.out) | exact HB.out)) hb); clear BK369; clear HB; have HO373 := n0_; have HO376 := n1_; have BK369 := n2_; have HB := n3_; clear n0_ n1_ n2_ n3_; (try clear hb); (try clear hb2); (try clear hk); (try clear hi); (try clear ho0); (try clear ho1)) | ((with_reducible refine gate_dst (N := 3) rfl ?_); refine box_event ?hg (N := 3) ?hd (cs := #[.int .u64 0, .slice none 0 0, .slice none 0 0]) (t := 26) ?hr ?_; (case hd => rfl); (case hg => rfl); (case hr => first | (go_simp; done) | (go_simp; rfl)); intro gb377 hg w9 hbox hb; have n0_ := Aside0.mk (Kd.S_below (by (with_reducible repeat (first | apply Kd.S_alloc | apply Kd.S_drewN | apply Kd.S_drew)); exact HO373.out) hb); have n1_ := Aside0.mk (Kd.R_below (by (with_reducible repeat (first | apply Kd.R_alloc | apply Kd.R_drewN | apply Kd.R_drew)); exact HO376.out) hb); have n2_ := Aside0.mk (blk_below (g := gb369) (o := .cells #[.int .u64 a0_0, .slice A0_1 l0_1.length c0_1, .slice A0_2 l0_2.length c0_2] 26 (0, 0)) (by (with_reducible repeat (first | refine blk_drewN ?_ _ | refine blk_drew ?_ | refine blk_alloc ?_ _)); exact BK369.out) hb); have n3_ := Aside0.mk (below_step (by repeat (first | (with_reducible first | exact HB.out | apply below_alloc | apply pw_below_drewN | apply below_drew1 | refine below_set ?_ GE369.out) | exact HB.out)) hb); have n4_ := Aside0.mk (hbox); have n5_ := Aside0.mk ((by rw [hg]; exact (below_size (by repeat (first | (with_reducible first | exact HB.out | apply below_alloc | apply pw_below_drewN | apply below_drew1 | refine below_set ?_ GE369.out) | exact HB.out))) : w.heap.size ≤ gb377)); have n6_ := Aside0.mk ((by rw [hg]; exact (below_size (by repeat (first | (with_reducible first | exact HB.out | apply below_alloc | apply pw_below_drewN | apply below_drew1 | refine below_set ?_ GE369.out) | exact HB.out))) : w.heap.size ≤ gb377)); have n7_ := Aside0.mk ((by rw [hg]; exact Nat.ne_of_lt (blk_lt (g := gb369) (o := .cells #[.int .u64 a0_0, .slice A0_1 l0_1.length c0_1, .slice A0_2 l0_2.length c0_2] 26 (0, 0)) (by (with_reducible repeat (first | refine blk_drewN ?_ _ | refine blk_drew ?_ | refine blk_alloc ?_ _)); exact BK369.out)) : gb369 ≠ gb377)); have n8_ := Aside0.mk ((by rw [hg]; exact Nat.ne_of_gt (blk_lt (g := gb369) (o := .cells #[.int .u64 a0_0, .slice A0_1 l0_1.length c0_1, .slice A0_2 l0_2.length c0_2] 26 (0, 0)) (by (with_reducible repeat (first | refine blk_drewN ?_ _ | refine blk_drew ?_ | refine blk_alloc ?_ _)); exact BK369.out)) : gb377 ≠ gb369)); clear HO373; clear HO376; clear BK369; clear HB; have HO373 := n0_; have HO376 := n1_; have BK369 := n2_; have HB := n3_; have BK377 := n4_; have GW377 := n5_; have GE377 := n6_; have NB369_377 := n7_; have NB377_369 := n8_; clear n0_ n1_ n2_ n3_ n4_ n5_ n6_ n7_ n8_; clear hb hbox hg; have hnb10 := NB377_369.out; have hnc10 := NB369_377.out; have hcz11_0 : w9.cell? ⟨gb377, 0, none⟩ = some (.int .u64 0) := (blk_cell BK377.out 0).trans rfl; have hcz11_1 : w9.cell? ⟨gb377, 1, none⟩ = some (.slice none 0 0) := (blk_cell BK377.out 1).trans rfl; have hcz11_2 : w9.cell? ⟨gb377, 2, none⟩ = some (.slice none 0 0) := (blk_cell BK377.out 2).trans rfl; have hfz11_0 := blk_frozen BK377.out 0; have hfz11_1 := blk_frozen BK377.out 1; have hfz11_2 := blk_frozen BK377.out 2; obtain ⟨Ao12, co12, eo12⟩ := Kd.S_slice HO373.out; subst eo12; obtain ⟨Ao13, co13, eo13⟩ := Kd.R_slice HO376.out; subst eo13) | ((with_reducible refine gate_callee (f := 9) rfl ?_); refine goesL_ (some 14) rfl rfl Tryd.func9 (by kernel_rfl) rfl #[.agg #[.int .u64 t370, .slice Ao12 t371.length co12, .slice Ao13 t374.length co13]] rfl (by (try simp only [List.map_toArray, List.map_cons, List.map_nil]); first | done | rfl | (simp only [List.length_drop, List.length_take]; rfl)) ?_; (with_reducible refine (image_Write.calls k t370 _ _ t371 _ _ t374 t378 t381 _ ?side1 ?side2 ?side3 ?side4 ?side5 A3.out).mono ?_); (case side1 => refine (Kd.S_reads' (e := 41) (base := w.heap.size) (ok := fun k_ => True) (n := t371.length) (c := co12) ?_).2.2; exact (by (with_reducible repeat (first | apply Kd.S_alloc | apply Kd.S_drewN | apply Kd.S_drew)); exact (Kd.S_mono (Kd.S_far (p := ⟨gb377, 2, none⟩) (Kd.S_far (p := ⟨gb377, 1, none⟩) (Kd.S_far (p := ⟨gb377, 0, none⟩) (Kd.S_types HO373.out BK377.out (by decide)) (fun _ hk => hk.2) (.int .u64 t370)) (fun _ hk => hk.2) (.slice Ao12 t371.length co12)) (fun _ hk => hk.2) (.slice Ao13 t374.length co13)) (fun _ h_ => h_.1)))); (case side2 => exact (Kd.S_reads' HO373.out).2.1); (case side3 => refine (Kd.R_reads' (e := 44) (base := w.heap.size) (ok := fun k_ => True) (n := t374.length) (c := co13) ?_).2.2; exact (by (with_reducible repeat (first | apply Kd.R_alloc | apply Kd.R_drewN | apply Kd.R_drew)); exact (Kd.R_mono (Kd.R_far (p := ⟨gb377, 2, none⟩) (Kd.R_far (p := ⟨gb377, 1, none⟩) (Kd.R_far (p := ⟨gb377, 0, none⟩) (Kd.R_types HO376.out BK377.out (by decide)) (fun _ hk => hk.2) (.int .u64 t370)) (fun _ hk => hk.2) (.slice Ao12 t371.length co12)) (fun _ hk => hk.2) (.slice Ao13 t374.length co13)) (fun _ h_ => h_.1)))); (case side4 => exact (Kd.R_reads' HO376.out).2.1); (case side5 => first | exact HG.out | exact Glob.step HG.out HB.out | (refine Glob.step HG.out ?_; (repeat (first | exact Below.refl _ _ | apply pw_below_drewN | apply below_drew1)); done) | exact Glob.step HG.out (by repeat (first | (with_reducible first | exact HB.out | apply below_alloc | apply pw_below_drewN | apply below_drew1 | refine below_set ?_ GE369.out | refine below_set ?_ GE377.out) | exact HB.out))); rintro e w14 ⟨v379, rfl, ho0, hb⟩; refine ⟨_, rfl, ?_⟩; have n0_ := Aside0.mk (Kd.S_elder' (by (with_reducible repeat (first | apply Kd.S_alloc | apply Kd.S_drewN | apply Kd.S_drew)); exact (Kd.S_mono (Kd.S_far (p := ⟨gb377, 2, none⟩) (Kd.S_far (p := ⟨gb377, 1, none⟩) (Kd.S_far (p := ⟨gb377, 0, none⟩) (Kd.S_types HO373.out BK377.out (by decide)) (fun _ hk => hk.2) (.int .u64 t370)) (fun _ hk => hk.2) (.slice Ao12 t371.length co12)) (fun _ hk => hk.2) (.slice Ao13 t374.length co13)) (fun _ h_ => h_.1))) (Kd.R_base ho0) hb); have n1_ := Aside0.mk (Kd.R_below (by (with_reducible repeat (first | apply Kd.R_alloc | apply Kd.R_drewN | apply Kd.R_drew)); exact (Kd.R_mono (Kd.R_far (p := ⟨gb377, 2, none⟩) (Kd.R_far (p := ⟨gb377, 1, none⟩) (Kd.R_far (p := ⟨gb377, 0, none⟩) (Kd.R_types HO376.out BK377.out (by decide)) (fun _ hk => hk.2) (.int .u64 t370)) (fun _ hk => hk.2) (.slice Ao12 t371.length co12)) (fun _ hk => hk.2) (.slice Ao13 t374.length co13)) (fun _ h_ => h_.1))) hb); have n2_ := Aside0.mk (Kd.R_lower ho0 (below_size (by repeat (first | (with_reducible first | exact HB.out | apply below_alloc | apply pw_below_drewN | apply below_drew1 | refine below_set ?_ GE369.out | refine below_set ?_ GE377.out) | exact HB.out)))); have n3_ := Aside0.mk (blk_below (g := gb369) (o := .cells #[.int .u64 a0_0, .slice A0_1 l0_1.length c0_1, .slice A0_2 l0_2.length c0_2] 26 (0, 0)) (by (with_reducible repeat (first | refine blk_drewN ?_ _ | refine blk_drew ?_ | refine blk_alloc ?_ _)); refine blk_far ?_ NB369_377.out _; (with_reducible repeat (first | refine blk_drewN ?_ _ | refine blk_drew ?_ | refine blk_alloc ?_ _)); refine blk_far ?_ NB369_377.out _; (with_reducible repeat (first | refine blk_drewN ?_ _ | refine blk_drew ?_ | refine blk_alloc ?_ _)); refine blk_far ?_ NB369_377.out _; (with_reducible repeat (first | refine blk_drewN ?_ _ | refine blk_drew ?_ | refine blk_alloc ?_ _)); exact BK369.out) hb); have n4_ := Aside0.mk (blk_below (g := gb377) (o := .cells #[.int .u64 t370, .slice Ao12 t371.length co12, .slice Ao13 t374.length co13] 26 (0, 0)) (by (with_reducible repeat (first | refine blk_drewN ?_ _ | refine blk_drew ?_ | refine blk_alloc ?_ _)); refine blk_put (cs := #[.int .u64 t370, .slice Ao12 t371.length co12, .slice none 0 0]) ?_ 2 _ rfl; (with_reducible repeat (first | refine blk_drewN ?_ _ | refine blk_drew ?_ | refine blk_alloc ?_ _)); refine blk_put (cs := #[.int .u64 t370, .slice none 0 0, .slice none 0 0]) ?_ 1 _ rfl; (with_reducible repeat (first | refine blk_drewN ?_ _ | refine blk_drew ?_ | refine blk_alloc ?_ _)); refine blk_put (cs := #[.int .u64 0, .slice none 0 0, .slice none 0 0]) ?_ 0 _ rfl; (with_reducible repeat (first | refine blk_drewN ?_ _ | refine blk_drew ?_ | refine blk_alloc ?_ _)); exact BK377.out) hb); have n5_ := Aside0.mk (below_step (by repeat (first | (with_reducible first | exact HB.out | apply below_alloc | apply pw_below_drewN | apply below_drew1 | refine below_set ?_ GE369.out | refine below_set ?_ GE377.out) | exact HB.out)) hb); clear HO373; clear HO376; clear BK369; clear BK377; clear HB; have HO373 := n0_; have HO376 := n1_; have HO380 := n2_; have BK369 := n3_; have BK377 := n4_; have HB := n5_; clear n0_ n1_ n2_ n3_ n4_ n5_; (try clear hb); (try clear hb2); (try clear hk); (try clear hi); (try clear ho0); have hcz15_0 : w14.cell? ⟨gb369, 0, none⟩ = some (.int .u64 a0_0) := (blk_cell BK369.out 0).trans rfl; have hcz15_1 : w14.cell? ⟨gb369, 1, none⟩ = some (.slice A0_1 l0_1.length c0_1) := (blk_cell BK369.out 1).trans rfl; have hcz15_2 : w14.cell? ⟨gb369, 2, none⟩ = some (.slice A0_2 l0_2.length c0_2) := (blk_cell BK369.out 2).trans rfl; have hfz15_0 := blk_frozen BK369.out 0; have hfz15_1 := blk_frozen BK369.out 1; have hfz15_2 := blk_frozen BK369.out 2) | ((with_reducible refine gate_callee (f := 10) rfl ?_); refine goesL_ (some 19) rfl rfl Tryd.func10 (by kernel_rfl) rfl #[.agg #[.int .u64 a0_0, .slice A0_1 l0_1.length c0_1, .slice A0_2 l0_2.length c0_2]] rfl (by (try simp only [List.map_toArray, List.map_cons, List.map_nil]); first | done | rfl | (simp only [List.length_drop, List.length_take]; rfl)) ?_; (with_reducible refine (anvilref02_Write.calls k a0_0 _ _ l0_1 _ _ l0_2 t382 t385 _ ?side1 ?side2 ?side3 ?side4 ?side5 A4.out).mono ?_); (case side1 => repeat (first | exact (Kd.C_below HR0_1.out HB.out) | (with_reducible refine Kd.C_alloc ?_ _) | (with_reducible refine Kd.C_drewN ?_ _) | (with_reducible refine Kd.C_drew ?_))); (case side2 => exact HC0_1.out); (case side3 => repeat (first | exact (Kd.C_below HR0_2.out HB.out) | (with_reducible refine Kd.C_alloc ?_ _) | (with_reducible refine Kd.C_drewN ?_ _) | (with_reducible refine Kd.C_drew ?_))); (case side4 => exact HC0_2.out); (case side5 => first | exact HG.out | exact Glob.step HG.out HB.out | (refine Glob.step HG.out ?_; (repeat (first | exact Below.refl _ _ | apply pw_below_drewN | apply below_drew1)); done) | exact Glob.step HG.out (by repeat (first | (with_reducible first | exact HB.out | apply below_alloc | apply pw_below_drewN | apply below_drew1 | refine below_set ?_ GE369.out | refine below_set ?_ GE377.out) | exact HB.out))); rintro e w16 ⟨v383, rfl, ho0, hb⟩; refine ⟨_, rfl, ?_⟩; have n0_ := Aside0.mk (Kd.S_elder' (by (with_reducible repeat (first | apply Kd.S_alloc | apply Kd.S_drewN | apply Kd.S_drew)); exact HO373.out) (Kd.R_base ho0) hb); have n1_ := Aside0.mk (Kd.R_below (by (with_reducible repeat (first | apply Kd.R_alloc | apply Kd.R_drewN | apply Kd.R_drew)); exact HO376.out) hb); have n2_ := Aside0.mk (Kd.R_elder' (by (with_reducible repeat (first | apply Kd.R_alloc | apply Kd.R_drewN | apply Kd.R_drew)); exact HO380.out) (Kd.R_base ho0) hb); have n3_ := Aside0.mk (Kd.R_lower (Kd.R_new' ho0 (Kd.R_lt (by (with_reducible repeat (first | apply Kd.R_alloc | apply Kd.R_drewN | apply Kd.R_drew)); exact HO380.out))) (below_size (by repeat (first | (with_reducible first | exact HB.out | apply below_alloc | apply pw_below_drewN | apply below_drew1 | refine below_set ?_ GE369.out | refine below_set ?_ GE377.out) | exact HB.out)))); have n4_ := Aside0.mk (blk_below (g := gb369) (o := .cells #[.int .u64 a0_0, .slice A0_1 l0_1.length c0_1, .slice A0_2 l0_2.length c0_2] 26 (0, 0)) (by (with_reducible repeat (first | refine blk_drewN ?_ _ | refine blk_drew ?_ | refine blk_alloc ?_ _)); exact BK369.out) hb); have n5_ := Aside0.mk (blk_below (g := gb377) (o := .cells #[.int .u64 t370, .slice Ao12 t371.length co12, .slice Ao13 t374.length co13] 26 (0, 0)) (by (with_reducible repeat (first | refine blk_drewN ?_ _ | refine blk_drew ?_ | refine blk_alloc ?_ _)); exact BK377.out) hb); have n6_ := Aside0.mk (below_step (by repeat (first | (with_reducible first | exact HB.out | apply below_alloc | apply pw_below_drewN | apply below_drew1 | refine below_set ?_ GE369.out | refine below_set ?_ GE377.out) | exact HB.out)) hb); clear HO373; clear HO376; clear HO380; clear BK369; clear BK377; clear HB; have HO373 := n0_; have HO376 := n1_; have HO380 := n2_; have HO384 := n3_; have BK369 := n4_; have BK377 := n5_; have HB := n6_; clear n0_ n1_ n2_ n3_ n4_ n5_ n6_; (try clear hb); (try clear hb2); (try clear hk); (try clear hi); (try clear ho0)))
  (try simp only [Act.put, List.setIfInBounds_toArray, List.set_cons_zero, List.set_cons_succ])
  go_cut [37] (fun v37 wc => ∃ (kq : Nat) (x37_4 : Bool), v37 = .bool x37_4 ∧ Aside0 (anvillaw02_ImageWrites.j0 kq t378 t382 x37_4 t370 t371 t374 = some r) ∧ Aside0 (kq ≤ k) ∧ Aside0 (Kd.R (Kd.int .u8) 5 wc w.heap.size (fun k_ => some k_ ≠ (v383 : Value).ownBlock) v379 t378) ∧ Aside0 (Kd.R (Kd.int .u8) 5 wc w.heap.size (fun k_ => some k_ ≠ (v379 : Value).ownBlock) v383 t382) ∧ Aside0 (Kd.S k41 41 wc w.heap.size (fun k_ => some k_ ≠ (v379 : Value).ownBlock ∧ some k_ ≠ (v383 : Value).ownBlock) (.slice Ao12 t371.length co12) t371) ∧ Aside0 (Kd.R k44 44 wc w.heap.size (fun _ => True) (.slice Ao13 t374.length co13) t374) ∧ Aside0 (wc.heap[gb369]? = some (.cells #[.int .u64 a0_0, (.slice A0_1 l0_1.length c0_1), (.slice A0_2 l0_2.length c0_2)] 26 (0, 0))) ∧ Aside0 (wc.heap[gb377]? = some (.cells #[.int .u64 t370, (.slice Ao12 t371.length co12), (.slice Ao13 t374.length co13)] 26 (0, 0))) ∧ Aside0 (Below w.heap.size w wc))
  case first =>
    have H := HC5.out
    clear HC5
    replace H := Option.bind_eq_some_iff.mp H
    obtain ⟨t386, A170, H⟩ := H
    replace H : (if t386 = t385 then ((anvillaw02_same.f t378 t382).bind fun t387 => (if t387 = true then ((anvillaw02_alike.f k t370 t371 t374 a0_0 l0_1 l0_2).bind fun t388 => (anvillaw02_ImageWrites.j0 k t378 t382 (!t388) t370 t371 t374)) else (anvillaw02_ImageWrites.j0 k t378 t382 true t370 t371 t374))) else (anvillaw02_ImageWrites.j0 k t378 t382 true t370 t371 t374)) = some r := H
    have A17 := Aside0.mk A170
    clear A170
    by_cases c18 : t386 = t385
    · rw [if_pos c18] at H
      have c18b0 : (t386 == t385) = true := beq_iff_eq.mpr c18
      have c18b1 : (t386 != t385) = false := bne_eq_false_iff_eq.mpr c18
      clear c18
      (first | rw [c18b0] | (simp only [i64_w, i32_w]; rw [c18b0]) | rw [c18b1] | skip)
      replace H := Option.bind_eq_some_iff.mp H
      obtain ⟨t387, A190, H⟩ := H
      replace H : (if t387 = true then ((anvillaw02_alike.f k t370 t371 t374 a0_0 l0_1 l0_2).bind fun t388 => (anvillaw02_ImageWrites.j0 k t378 t382 (!t388) t370 t371 t374)) else (anvillaw02_ImageWrites.j0 k t378 t382 true t370 t371 t374)) = some r := H
      have A19 := Aside0.mk A190
      clear A190
      by_cases c20 : t387 = true
      · subst c20
        have H1 : ((anvillaw02_alike.f k t370 t371 t374 a0_0 l0_1 l0_2).bind fun t388 => (anvillaw02_ImageWrites.j0 k t378 t382 (!t388) t370 t371 t374)) = some r := by rw [if_pos rfl] at H; exact H
        clear H
        have H := H1
        clear H1
        replace H := Option.bind_eq_some_iff.mp H
        obtain ⟨t388, A210, H⟩ := H
        replace H : (anvillaw02_ImageWrites.j0 k t378 t382 (!t388) t370 t371 t374) = some r := H
        have A21 := Aside0.mk A210
        clear A210
        have H' := Aside0.mk H
        clear H
        go_wp2_with (first | ((with_reducible refine gate_callee (f := 5) rfl ?_); refine goesL_ (some 23) rfl rfl Tryd.func5 (by kernel_rfl) rfl #[.int .i64 t381] rfl (by (try simp only [List.map_toArray, List.map_cons, List.map_nil]); first | done | rfl | (simp only [List.length_drop, List.length_take]; rfl)) ?_; (with_reducible refine (anvillaw02_num.calls t381 t386 _ A17.out).mono ?_); rintro e w' ⟨rfl, ⟨nd, rfl⟩⟩; refine ⟨_, rfl, ?_⟩; obtain ⟨Ao22, co22, eo22⟩ := Kd.R_slice HO380.out; subst eo22; obtain ⟨Ao23, co23, eo23⟩ := Kd.R_slice HO384.out; subst eo23) | (go_at_call 11; (with_reducible refine (anvillaw02_same.calls _ _ t378 _ _ t382 true _ ?side1 ?side2 ?side3 ?side4 A19.out).mono ?_); (case side1 => repeat (first | exact (Kd.R_reads' HO380.out).2.2 | (with_reducible refine Kd.C_alloc ?_ _) | (with_reducible refine Kd.C_drewN ?_ _) | (with_reducible refine Kd.C_drew ?_))); (case side2 => exact (Kd.R_reads' HO380.out).2.1); (case side3 => repeat (first | exact (Kd.R_reads' HO384.out).2.2 | (with_reducible refine Kd.C_alloc ?_ _) | (with_reducible refine Kd.C_drewN ?_ _) | (with_reducible refine Kd.C_drew ?_))); (case side4 => exact (Kd.R_reads' HO384.out).2.1); rintro e w' ⟨rfl, ⟨nd, rfl⟩⟩; have hnb24 := NB377_369.out; have hnc24 := NB369_377.out; have hcz25_0 : w16.cell? ⟨gb377, 0, none⟩ = some (.int .u64 t370) := (blk_cell BK377.out 0).trans rfl; have hcz25_1 : w16.cell? ⟨gb377, 1, none⟩ = some (.slice Ao12 t371.length co12) := (blk_cell BK377.out 1).trans rfl; have hcz25_2 : w16.cell? ⟨gb377, 2, none⟩ = some (.slice Ao13 t374.length co13) := (blk_cell BK377.out 2).trans rfl; have hfz25_0 := blk_frozen BK377.out 0; have hfz25_1 := blk_frozen BK377.out 1; have hfz25_2 := blk_frozen BK377.out 2; have hcz26_0 : w16.cell? ⟨gb369, 0, none⟩ = some (.int .u64 a0_0) := (blk_cell BK369.out 0).trans rfl; have hcz26_1 : w16.cell? ⟨gb369, 1, none⟩ = some (.slice A0_1 l0_1.length c0_1) := (blk_cell BK369.out 1).trans rfl; have hcz26_2 : w16.cell? ⟨gb369, 2, none⟩ = some (.slice A0_2 l0_2.length c0_2) := (blk_cell BK369.out 2).trans rfl; have hfz26_0 := blk_frozen BK369.out 0; have hfz26_1 := blk_frozen BK369.out 1; have hfz26_2 := blk_frozen BK369.out 2) | (go_at_call 12; (with_reducible refine (anvillaw02_alike.calls k t370 _ _ t371 _ _ t374 a0_0 _ _ l0_1 _ _ l0_2 t388 _ ?side1 ?side2 ?side3 ?side4 ?side5 ?side6 ?side7 ?side8 A21.out).mono ?_); (case side1 => repeat (first | exact (Kd.S_reads' HO373.out).2.2 | (with_reducible refine Kd.C_alloc ?_ _) | (with_reducible refine Kd.C_drewN ?_ _) | (with_reducible refine Kd.C_drew ?_))); (case side2 => exact (Kd.S_reads' HO373.out).2.1); (case side3 => repeat (first | exact (Kd.R_reads' HO376.out).2.2 | (with_reducible refine Kd.C_alloc ?_ _) | (with_reducible refine Kd.C_drewN ?_ _) | (with_reducible refine Kd.C_drew ?_))); (case side4 => exact (Kd.R_reads' HO376.out).2.1); (case side5 => repeat (first | exact (Kd.C_below HR0_1.out (by repeat (first | (with_reducible first | exact HB.out | apply below_alloc | apply pw_below_drewN | apply below_drew1 | refine below_set ?_ GE369.out | refine below_set ?_ GE377.out) | exact HB.out))) | (with_reducible refine Kd.C_alloc ?_ _) | (with_reducible refine Kd.C_drewN ?_ _) | (with_reducible refine Kd.C_drew ?_))); (case side6 => exact HC0_1.out); (case side7 => repeat (first | exact (Kd.C_below HR0_2.out (by repeat (first | (with_reducible first | exact HB.out | apply below_alloc | apply pw_below_drewN | apply below_drew1 | refine below_set ?_ GE369.out | refine below_set ?_ GE377.out) | exact HB.out))) | (with_reducible refine Kd.C_alloc ?_ _) | (with_reducible refine Kd.C_drewN ?_ _) | (with_reducible refine Kd.C_drew ?_))); (case side8 => exact HC0_2.out); rintro e w27 ⟨rfl, hb⟩; have n0_ := Aside0.mk (Kd.S_below (by (with_reducible repeat (first | apply Kd.S_alloc | apply Kd.S_drewN | apply Kd.S_drew)); exact HO373.out) hb); have n1_ := Aside0.mk (Kd.R_below (by (with_reducible repeat (first | apply Kd.R_alloc | apply Kd.R_drewN | apply Kd.R_drew)); exact HO376.out) hb); have n2_ := Aside0.mk (Kd.R_below (by (with_reducible repeat (first | apply Kd.R_alloc | apply Kd.R_drewN | apply Kd.R_drew)); exact HO380.out) hb); have n3_ := Aside0.mk (Kd.R_below (by (with_reducible repeat (first | apply Kd.R_alloc | apply Kd.R_drewN | apply Kd.R_drew)); exact HO384.out) hb); have n4_ := Aside0.mk (blk_below (g := gb369) (o := .cells #[.int .u64 a0_0, .slice A0_1 l0_1.length c0_1, .slice A0_2 l0_2.length c0_2] 26 (0, 0)) (by (with_reducible repeat (first | refine blk_drewN ?_ _ | refine blk_drew ?_ | refine blk_alloc ?_ _)); exact BK369.out) hb); have n5_ := Aside0.mk (blk_below (g := gb377) (o := .cells #[.int .u64 t370, .slice Ao12 t371.length co12, .slice Ao13 t374.length co13] 26 (0, 0)) (by (with_reducible repeat (first | refine blk_drewN ?_ _ | refine blk_drew ?_ | refine blk_alloc ?_ _)); exact BK377.out) hb); have n6_ := Aside0.mk (below_step (by repeat (first | (with_reducible first | exact HB.out | apply below_alloc | apply pw_below_drewN | apply below_drew1 | refine below_set ?_ GE369.out | refine below_set ?_ GE377.out) | exact HB.out)) hb); clear HO373; clear HO376; clear HO380; clear HO384; clear BK369; clear BK377; clear HB; have HO373 := n0_; have HO376 := n1_; have HO380 := n2_; have HO384 := n3_; have BK369 := n4_; have BK377 := n5_; have HB := n6_; clear n0_ n1_ n2_ n3_ n4_ n5_ n6_; (try clear hb); (try clear hb2); (try clear hk); (try clear hi)))
        go_meet
        case rel => exact ⟨_, (!t388), (by first | rfl | (simp; done) | (simp only [i64_w, i32_w]; done) | (simp [i64_w, i32_w]; done) | (simp [*]; done)), H', ⟨by first | omega | exact Nat.le_refl _⟩, ⟨by (with_reducible repeat (first | apply Kd.R_alloc | apply Kd.R_drewN | apply Kd.R_drew)); exact Kd.R_mono HO380.out (fun _ hk => hk.2)⟩, ⟨by (with_reducible repeat (first | apply Kd.R_alloc | apply Kd.R_drewN | apply Kd.R_drew)); exact Kd.R_mono HO384.out (fun _ hk => hk.2)⟩, ⟨by (with_reducible repeat (first | apply Kd.S_alloc | apply Kd.S_drewN | apply Kd.S_drew)); exact Kd.S_mono HO373.out (fun _ hk => ⟨hk.1.2, hk.2⟩)⟩, ⟨by (with_reducible repeat (first | apply Kd.R_alloc | apply Kd.R_drewN | apply Kd.R_drew)); exact HO376.out⟩, ⟨by (with_reducible repeat (first | refine blk_drewN ?_ _ | refine blk_drew ?_ | refine blk_alloc ?_ _)); exact BK369.out⟩, ⟨by (with_reducible repeat (first | refine blk_drewN ?_ _ | refine blk_drew ?_ | refine blk_alloc ?_ _)); exact BK377.out⟩, ⟨by repeat (first | (with_reducible first | exact HB.out | apply below_alloc | apply pw_below_drewN | apply below_drew1 | refine below_set ?_ GE369.out | refine below_set ?_ GE377.out) | exact HB.out)⟩⟩
      · replace c20 := Bool.eq_false_iff.mpr c20
        subst c20
        have H1 : (anvillaw02_ImageWrites.j0 k t378 t382 true t370 t371 t374) = some r := by rw [if_neg (show ¬ (false = true) by decide)] at H; exact H
        clear H
        have H := H1
        clear H1
        have H' := Aside0.mk H
        clear H
        go_wp2_with (first | ((with_reducible refine gate_callee (f := 5) rfl ?_); refine goesL_ (some 23) rfl rfl Tryd.func5 (by kernel_rfl) rfl #[.int .i64 t381] rfl (by (try simp only [List.map_toArray, List.map_cons, List.map_nil]); first | done | rfl | (simp only [List.length_drop, List.length_take]; rfl)) ?_; (with_reducible refine (anvillaw02_num.calls t381 t386 _ A17.out).mono ?_); rintro e w' ⟨rfl, ⟨nd, rfl⟩⟩; refine ⟨_, rfl, ?_⟩; obtain ⟨Ao28, co28, eo28⟩ := Kd.R_slice HO380.out; subst eo28; obtain ⟨Ao29, co29, eo29⟩ := Kd.R_slice HO384.out; subst eo29) | (go_at_call 11; (with_reducible refine (anvillaw02_same.calls _ _ t378 _ _ t382 false _ ?side1 ?side2 ?side3 ?side4 A19.out).mono ?_); (case side1 => repeat (first | exact (Kd.R_reads' HO380.out).2.2 | (with_reducible refine Kd.C_alloc ?_ _) | (with_reducible refine Kd.C_drewN ?_ _) | (with_reducible refine Kd.C_drew ?_))); (case side2 => exact (Kd.R_reads' HO380.out).2.1); (case side3 => repeat (first | exact (Kd.R_reads' HO384.out).2.2 | (with_reducible refine Kd.C_alloc ?_ _) | (with_reducible refine Kd.C_drewN ?_ _) | (with_reducible refine Kd.C_drew ?_))); (case side4 => exact (Kd.R_reads' HO384.out).2.1); rintro e w' ⟨rfl, ⟨nd, rfl⟩⟩))
        go_meet
        case rel => exact ⟨_, (true), (by first | rfl | (simp; done) | (simp only [i64_w, i32_w]; done) | (simp [i64_w, i32_w]; done) | (simp [*]; done)), H', ⟨by first | omega | exact Nat.le_refl _⟩, ⟨by (with_reducible repeat (first | apply Kd.R_alloc | apply Kd.R_drewN | apply Kd.R_drew)); exact Kd.R_mono HO380.out (fun _ hk => hk.2)⟩, ⟨by (with_reducible repeat (first | apply Kd.R_alloc | apply Kd.R_drewN | apply Kd.R_drew)); exact Kd.R_mono HO384.out (fun _ hk => hk.2)⟩, ⟨by (with_reducible repeat (first | apply Kd.S_alloc | apply Kd.S_drewN | apply Kd.S_drew)); exact Kd.S_mono HO373.out (fun _ hk => ⟨hk.1.2, hk.2⟩)⟩, ⟨by (with_reducible repeat (first | apply Kd.R_alloc | apply Kd.R_drewN | apply Kd.R_drew)); exact HO376.out⟩, ⟨by (with_reducible repeat (first | refine blk_drewN ?_ _ | refine blk_drew ?_ | refine blk_alloc ?_ _)); exact BK369.out⟩, ⟨by (with_reducible repeat (first | refine blk_drewN ?_ _ | refine blk_drew ?_ | refine blk_alloc ?_ _)); exact BK377.out⟩, ⟨by repeat (first | (with_reducible first | exact HB.out | apply below_alloc | apply pw_below_drewN | apply below_drew1 | refine below_set ?_ GE369.out | refine below_set ?_ GE377.out) | exact HB.out)⟩⟩
    · rw [if_neg c18] at H
      have c18b0 : (t386 == t385) = false := beq_eq_false_iff_ne.mpr c18
      have c18b1 : (t386 != t385) = true := bne_iff_ne.mpr c18
      (first | rw [c18b0] | (simp only [i64_w, i32_w]; rw [c18b0]) | rw [c18b1] | skip)
      have H' := Aside0.mk H
      clear H
      go_wp2_with (first | ((with_reducible refine gate_callee (f := 5) rfl ?_); refine goesL_ (some 23) rfl rfl Tryd.func5 (by kernel_rfl) rfl #[.int .i64 t381] rfl (by (try simp only [List.map_toArray, List.map_cons, List.map_nil]); first | done | rfl | (simp only [List.length_drop, List.length_take]; rfl)) ?_; (with_reducible refine (anvillaw02_num.calls t381 t386 _ A17.out).mono ?_); rintro e w' ⟨rfl, ⟨nd, rfl⟩⟩; refine ⟨_, rfl, ?_⟩))
      go_meet
      case rel => exact ⟨_, (true), (by first | rfl | (simp; done) | (simp only [i64_w, i32_w]; done) | (simp [i64_w, i32_w]; done) | (simp [*]; done)), H', ⟨by first | omega | exact Nat.le_refl _⟩, ⟨by (with_reducible repeat (first | apply Kd.R_alloc | apply Kd.R_drewN | apply Kd.R_drew)); exact Kd.R_mono HO380.out (fun _ hk => hk.2)⟩, ⟨by (with_reducible repeat (first | apply Kd.R_alloc | apply Kd.R_drewN | apply Kd.R_drew)); exact Kd.R_mono HO384.out (fun _ hk => hk.2)⟩, ⟨by (with_reducible repeat (first | apply Kd.S_alloc | apply Kd.S_drewN | apply Kd.S_drew)); exact Kd.S_mono HO373.out (fun _ hk => ⟨hk.1.2, hk.2⟩)⟩, ⟨by (with_reducible repeat (first | apply Kd.R_alloc | apply Kd.R_drewN | apply Kd.R_drew)); exact HO376.out⟩, ⟨by (with_reducible repeat (first | refine blk_drewN ?_ _ | refine blk_drew ?_ | refine blk_alloc ?_ _)); exact BK369.out⟩, ⟨by (with_reducible repeat (first | refine blk_drewN ?_ _ | refine blk_drew ?_ | refine blk_alloc ?_ _)); exact BK377.out⟩, ⟨by repeat (first | (with_reducible first | exact HB.out | apply below_alloc | apply pw_below_drewN | apply below_drew1 | refine below_set ?_ GE369.out | refine below_set ?_ GE377.out) | exact HB.out)⟩⟩
  case rest =>
    clear HC5
    try clear c1
    try clear c2
    try clear p2
    try clear c4
    try clear c5
    try clear c7
    try clear c9
    try clear c10
    try clear c18
    try clear c18b0
    try clear c18b1
    try clear c20
    try clear c24
    try clear hcz11_0
    try clear hcz11_1
    try clear hcz11_2
    try clear hcz15_0
    try clear hcz15_1
    try clear hcz15_2
    try clear hcz25_0
    try clear hcz25_1
    try clear hcz25_2
    try clear hcz26_0
    try clear hcz26_1
    try clear hcz26_2
    try clear hcz7_0
    try clear hcz7_1
    try clear hcz7_2
    try clear hfz11_0
    try clear hfz11_1
    try clear hfz11_2
    try clear hfz15_0
    try clear hfz15_1
    try clear hfz15_2
    try clear hfz25_0
    try clear hfz25_1
    try clear hfz25_2
    try clear hfz26_0
    try clear hfz26_1
    try clear hfz26_2
    try clear hfz7_0
    try clear hfz7_1
    try clear hfz7_2
    obtain ⟨kq, x37_4, rfl, HA, HJ4, HO_4, HO_6, HO_378001, HO_378002, BK369, BK377, HB⟩ := hcut
    cases kq with
    | zero => exact absurd HA.out (by simp [anvillaw02_ImageWrites.j0])
    | succ kj4 =>
      have H := HA.out
      clear HA
      simp only [anvillaw02_ImageWrites.j0] at H
      by_cases c30 : x37_4 = true
      · subst c30
        have H1 : (some false) = some r := by rw [if_pos rfl] at H; exact H
        clear H
        have H := H1
        clear H1
        obtain rfl := Option.some.inj H
        go_wp2
        go_ret
        exact ⟨by first | rfl | (simp [errW_none, errW_some] <;> rfl) | (simp [*, errW_none, errW_some] <;> rfl), by repeat (first | (with_reducible first | exact HB.out | apply below_alloc | apply pw_below_drewN | apply below_drew1 | refine below_set ?_ GE369.out | refine below_set ?_ GE377.out) | exact HB.out)⟩
      · replace c30 := Bool.eq_false_iff.mpr c30
        subst c30
        have H1 : (anvillaw02_ImageWrites.l0 kj4 t378 t382 0 t370 t371 t374) = some r := by rw [if_neg (show ¬ (false = true) by decide)] at H; exact H
        clear H
        have H := H1
        clear H1
        have H' := Aside0.mk H
        clear H
        go_wp2
        go_loopg [8] kj4 (fun kq v8 w' => ∃ (x4_2 : List Int) (x6_2 : List Int) (x8_2 : Int) (x378001_2 : List (S41)) (u378001 : Value), v8 = .int .i64 x8_2 ∧ Aside0 (anvillaw02_ImageWrites.l0 kq x4_2 x6_2 x8_2 t370 x378001_2 t374 = some r) ∧ Aside0 (kq ≤ kj4) ∧ Aside0 (Kd.R (Kd.int .u8) 5 w' w.heap.size (fun k_ => some k_ ≠ (v383 : Value).ownBlock) v379 x4_2) ∧ Aside0 (Kd.R (Kd.int .u8) 5 w' w.heap.size (fun k_ => some k_ ≠ (v379 : Value).ownBlock) v383 x6_2) ∧ Aside0 (Kd.S k41 41 w' w.heap.size (fun k_ => some k_ ≠ (v379 : Value).ownBlock ∧ some k_ ≠ (v383 : Value).ownBlock) u378001 x378001_2) ∧ Aside0 (Kd.R k44 44 w' w.heap.size (fun _ => True) (.slice Ao13 t374.length co13) t374) ∧ Aside0 (w'.heap[gb369]? = some (.cells #[.int .u64 a0_0, (.slice A0_1 l0_1.length c0_1), (.slice A0_2 l0_2.length c0_2)] 26 (0, 0))) ∧ Aside0 (w'.heap[gb377]? = some (.cells #[.int .u64 t370, u378001, (.slice Ao13 t374.length co13)] 26 (0, 0))) ∧ Aside0 (Below w.heap.size w w'))
        case atStart => exact ⟨(t378), (t382), (0), (t371), (.slice Ao12 t371.length co12), (by first | rfl | (simp; done) | (simp only [i64_w, i32_w]; done) | (simp [i64_w, i32_w]; done) | (simp [*]; done)), H', ⟨Nat.le_refl _⟩, ⟨by (with_reducible repeat (first | apply Kd.R_alloc | apply Kd.R_drewN | apply Kd.R_drew)); exact HO_4.out⟩, ⟨by (with_reducible repeat (first | apply Kd.R_alloc | apply Kd.R_drewN | apply Kd.R_drew)); exact HO_6.out⟩, ⟨by (with_reducible repeat (first | apply Kd.S_alloc | apply Kd.S_drewN | apply Kd.S_drew)); exact HO_378001.out⟩, ⟨by (with_reducible repeat (first | apply Kd.R_alloc | apply Kd.R_drewN | apply Kd.R_drew)); exact HO_378002.out⟩, ⟨by (with_reducible repeat (first | refine blk_drewN ?_ _ | refine blk_drew ?_ | refine blk_alloc ?_ _)); exact BK369.out⟩, ⟨by (with_reducible repeat (first | refine blk_drewN ?_ _ | refine blk_drew ?_ | refine blk_alloc ?_ _)); exact BK377.out⟩, ⟨by repeat (first | (with_reducible first | exact HB.out | apply below_alloc | apply pw_below_drewN | apply below_drew1 | refine below_set ?_ GE369.out | refine below_set ?_ GE377.out) | exact HB.out)⟩⟩
        case round =>
          clear H'
          try clear c1
          try clear c2
          try clear p2
          try clear c3
          try clear c4
          try clear c5
          try clear c7
          try clear c9
          try clear c10
          try clear c18
          try clear c18b0
          try clear c18b1
          try clear c20
          try clear c24
          try clear c30
          try clear hcz11_0
          try clear hcz11_1
          try clear hcz11_2
          try clear hcz15_0
          try clear hcz15_1
          try clear hcz15_2
          try clear hcz25_0
          try clear hcz25_1
          try clear hcz25_2
          try clear hcz26_0
          try clear hcz26_1
          try clear hcz26_2
          try clear hcz7_0
          try clear hcz7_1
          try clear hcz7_2
          try clear hfz11_0
          try clear hfz11_1
          try clear hfz11_2
          try clear hfz15_0
          try clear hfz15_1
          try clear hfz15_2
          try clear hfz25_0
          try clear hfz25_1
          try clear hfz25_2
          try clear hfz26_0
          try clear hfz26_1
          try clear hfz26_2
          try clear hfz7_0
          try clear hfz7_1
          try clear hfz7_2
          try clear p2
          obtain ⟨x4_2, x6_2, x8_2, x378001_2, u378001, rfl, HA, HK2, HO_4, HO_6, HO_378001, HO_378002, BK369, BK377, HB⟩ := hrel
          cases gk with
          | zero => exact absurd HA.out (by simp [anvillaw02_ImageWrites.l0])
          | succ k2 =>
            have H := HA.out
            clear HA
            simp only [anvillaw02_ImageWrites.l0] at H
            by_cases c31 : x8_2 < (x378001_2.length : Int)
            · rw [if_pos c31] at H
              have c31b0 : decide (x8_2 < (x378001_2.length : Int)) = true := decide_eq_true c31
              clear c31
              have H' := Aside0.mk H
              clear H
              have hnb32 := NB377_369.out
              have hnc32 := NB369_377.out
              have hcz33_0 : wr.cell? ⟨gb377, 0, none⟩ = some (.int .u64 t370) := (blk_cell BK377.out 0).trans rfl
              have hcz33_1 : wr.cell? ⟨gb377, 1, none⟩ = some (u378001) := (blk_cell BK377.out 1).trans rfl
              have hcz33_2 : wr.cell? ⟨gb377, 2, none⟩ = some (.slice Ao13 t374.length co13) := (blk_cell BK377.out 2).trans rfl
              have hfz33_0 := blk_frozen BK377.out 0
              have hfz33_1 := blk_frozen BK377.out 1
              have hfz33_2 := blk_frozen BK377.out 2
              obtain ⟨Ao34, co34, eo34⟩ := Kd.S_slice HO_378001.out
              subst eo34
              go_wp2
              go_loopg [9] k2 (fun kq v9 w' => ∃ (x4_3 : List Int) (x6_3 : List Int) (x9_3 : Int) (x378001_3 : List (S41)) (u378001 : Value), v9 = .int .i64 x9_3 ∧ Aside0 (anvillaw02_ImageWrites.l1 kq x4_3 x6_3 x8_2 x9_3 t370 x378001_3 t374 = some r) ∧ Aside0 (kq ≤ k2) ∧ Aside0 (Kd.R (Kd.int .u8) 5 w' w.heap.size (fun k_ => some k_ ≠ (v383 : Value).ownBlock) v379 x4_3) ∧ Aside0 (Kd.R (Kd.int .u8) 5 w' w.heap.size (fun k_ => some k_ ≠ (v379 : Value).ownBlock) v383 x6_3) ∧ Aside0 (Kd.S k41 41 w' w.heap.size (fun k_ => some k_ ≠ (v379 : Value).ownBlock ∧ some k_ ≠ (v383 : Value).ownBlock) u378001 x378001_3) ∧ Aside0 (Kd.R k44 44 w' w.heap.size (fun _ => True) (.slice Ao13 t374.length co13) t374) ∧ Aside0 (w'.heap[gb369]? = some (.cells #[.int .u64 a0_0, (.slice A0_1 l0_1.length c0_1), (.slice A0_2 l0_2.length c0_2)] 26 (0, 0))) ∧ Aside0 (w'.heap[gb377]? = some (.cells #[.int .u64 t370, u378001, (.slice Ao13 t374.length co13)] 26 (0, 0))) ∧ Aside0 (Below w.heap.size w w'))
              case atStart => exact ⟨(x4_2), (x6_2), (0), (x378001_2), (.slice Ao34 x378001_2.length co34), (by first | rfl | (simp; done) | (simp only [i64_w, i32_w]; done) | (simp [i64_w, i32_w]; done) | (simp [*]; done)), H', ⟨Nat.le_refl _⟩, ⟨by (with_reducible repeat (first | apply Kd.R_alloc | apply Kd.R_drewN | apply Kd.R_drew)); exact HO_4.out⟩, ⟨by (with_reducible repeat (first | apply Kd.R_alloc | apply Kd.R_drewN | apply Kd.R_drew)); exact HO_6.out⟩, ⟨by (with_reducible repeat (first | apply Kd.S_alloc | apply Kd.S_drewN | apply Kd.S_drew)); exact HO_378001.out⟩, ⟨by (with_reducible repeat (first | apply Kd.R_alloc | apply Kd.R_drewN | apply Kd.R_drew)); exact HO_378002.out⟩, ⟨by (with_reducible repeat (first | refine blk_drewN ?_ _ | refine blk_drew ?_ | refine blk_alloc ?_ _)); exact BK369.out⟩, ⟨by (with_reducible repeat (first | refine blk_drewN ?_ _ | refine blk_drew ?_ | refine blk_alloc ?_ _)); exact BK377.out⟩, ⟨by repeat (first | (with_reducible first | exact HB.out | apply below_alloc | apply pw_below_drewN | apply below_drew1 | refine below_set ?_ GE369.out | refine below_set ?_ GE377.out) | exact HB.out)⟩⟩
              case round =>
                clear H'
                try clear c1
                try clear c2
                try clear p2
                try clear c3
                try clear c4
                try clear c5
                try clear c7
                try clear c9
                try clear c10
                try clear c18
                try clear c18b0
                try clear c18b1
                try clear c20
                try clear c24
                try clear c30
                try clear c31
                try clear c31b0
                try clear c32
                try clear hcz11_0
                try clear hcz11_1
                try clear hcz11_2
                try clear hcz15_0
                try clear hcz15_1
                try clear hcz15_2
                try clear hcz25_0
                try clear hcz25_1
                try clear hcz25_2
                try clear hcz26_0
                try clear hcz26_1
                try clear hcz26_2
                try clear hcz33_0
                try clear hcz33_1
                try clear hcz33_2
                try clear hcz7_0
                try clear hcz7_1
                try clear hcz7_2
                try clear hfz11_0
                try clear hfz11_1
                try clear hfz11_2
                try clear hfz15_0
                try clear hfz15_1
                try clear hfz15_2
                try clear hfz25_0
                try clear hfz25_1
                try clear hfz25_2
                try clear hfz26_0
                try clear hfz26_1
                try clear hfz26_2
                try clear hfz33_0
                try clear hfz33_1
                try clear hfz33_2
                try clear hfz7_0
                try clear hfz7_1
                try clear hfz7_2
                try clear p2
                obtain ⟨x4_3, x6_3, x9_3, x378001_3, u378001, rfl, HA, HK3, HO_4, HO_6, HO_378001, HO_378002, BK369, BK377, HB⟩ := hrel
                cases gk with
                | zero => exact absurd HA.out (by simp [anvillaw02_ImageWrites.l1])
                | succ k3 =>
                  have H := HA.out
                  clear HA
                  simp only [anvillaw02_ImageWrites.l1] at H
                  by_cases c35 : 0 ≤ x8_2
                  · rw [if_pos c35] at H
                    have c35b0 : decide (0 ≤ x8_2) = true := decide_eq_true c35
                    clear c35
                    by_cases c36 : x8_2 < (x378001_3.length : Int)
                    · rw [if_pos c36] at H
                      have c36b0 : decide (x8_2 < (x378001_3.length : Int)) = true := decide_eq_true c36
                      clear c36
                      by_cases c37 : x9_3 < (((rd_T41 x378001_3 x8_2).f3).length : Int)
                      · rw [if_pos c37] at H
                        have c37b0 : decide (x9_3 < (((rd_T41 x378001_3 x8_2).f3).length : Int)) = true := decide_eq_true c37
                        clear c37
                        by_cases c38 : 0 ≤ x9_3
                        · rw [if_pos c38] at H
                          have c38b0 : decide (0 ≤ x9_3) = true := decide_eq_true c38
                          clear c38
                          obtain ⟨y392, hy392⟩ : ∃ y_ : List Int, y_ = (((rd_T41 x378001_3 x8_2).f3).set (x9_3 : Int).toNat 238) := ⟨_, rfl⟩
                          replace H : (anvillaw02_ImageWrites.l1 k3 x4_3 x6_3 x8_2 (wrap64 (x9_3 + 1)) t370 (x378001_3.set (x8_2 : Int).toNat (⟨(rd_T41 x378001_3 x8_2).f0, (rd_T41 x378001_3 x8_2).f1, (rd_T41 x378001_3 x8_2).f2, y392⟩ : S41)) t374) = some r := by first | (rw [hy392]; with_reducible exact H) | (have H2_ := (Option.bind_some _ _).symm.trans H; rw [hy392]; with_reducible exact H2_) | (have H2_ := (Option.bind_some _ _).symm.trans H; with_reducible exact H2_) | with_reducible exact H | (rw [hy392]; exact H) | exact H
                          have Ny392 := Aside0.mk hy392
                          clear hy392
                          obtain ⟨y394, hy394⟩ : ∃ y_ : List (S41), y_ = (x378001_3.set (x8_2 : Int).toNat (⟨(rd_T41 x378001_3 x8_2).f0, (rd_T41 x378001_3 x8_2).f1, (rd_T41 x378001_3 x8_2).f2, y392⟩ : S41)) := ⟨_, rfl⟩
                          replace H : (anvillaw02_ImageWrites.l1 k3 x4_3 x6_3 x8_2 (wrap64 (x9_3 + 1)) t370 y394 t374) = some r := by first | (rw [hy394]; with_reducible exact H) | (have H2_ := (Option.bind_some _ _).symm.trans H; rw [hy394]; with_reducible exact H2_) | (have H2_ := (Option.bind_some _ _).symm.trans H; with_reducible exact H2_) | with_reducible exact H | (rw [hy394]; exact H) | exact H
                          have Ny394 := Aside0.mk hy394
                          clear hy394
                          have H' := Aside0.mk H
                          clear H
                          have hnb40 := NB377_369.out
                          have hnc40 := NB369_377.out
                          have hcz41_0 : wr.cell? ⟨gb377, 0, none⟩ = some (.int .u64 t370) := (blk_cell BK377.out 0).trans rfl
                          have hcz41_1 : wr.cell? ⟨gb377, 1, none⟩ = some (u378001) := (blk_cell BK377.out 1).trans rfl
                          have hcz41_2 : wr.cell? ⟨gb377, 2, none⟩ = some (.slice Ao13 t374.length co13) := (blk_cell BK377.out 2).trans rfl
                          have hfz41_0 := blk_frozen BK377.out 0
                          have hfz41_1 := blk_frozen BK377.out 1
                          have hfz41_2 := blk_frozen BK377.out 2
                          obtain ⟨Ao42, co42, eo42⟩ := Kd.S_slice HO_378001.out
                          subst eo42
                          have p390 : 0 ≤ (x8_2 : Int) := of_decide_eq_true (by first | (with_reducible assumption) | assumption)
                          have q390 : x8_2 < (x378001_3.length : Int) := of_decide_eq_true (by first | (with_reducible assumption) | assumption)
                          obtain ⟨ad390, A390_3, c390_3, e390, hx390_0, hx390_1, hx390_2, hx390_3, hl390_3, hi390_3⟩ := at_T41 (Kd.S_reads' HO_378001.out).2.2 x8_2 p390 q390
                          cases e390
                          obtain ⟨ce390, hce390, hMe390, hcc390⟩ := Kd.S_get HO_378001.out z41 x8_2 p390 (by first | exact q390 | exact of_decide_eq_true (by first | (with_reducible assumption) | assumption) | (have e_ := (Kd.S_reads' HO_378001.out).1; omega))
                          obtain ⟨ve390_3, rfl, ge390_3⟩ := k41_openM hMe390
                          have hv390_3 := hcc390 3 _ rfl
                          rw [add_field _ _ 3 (by omega)] at hv390_3
                          replace hv390_3 := Option.some.inj (hv390_3.symm.trans hx390_3)
                          rw [hv390_3] at ge390_3
                          have HL390_3 := Aside0.mk (show Kd.R (Kd.int .u8) 5 _ _ _ _ ((rd_T41 x378001_3 x8_2).f3) from ge390_3)
                          clear hv390_3 ge390_3
                          have HX390_3 := Aside0.mk hx390_3
                          clear hcc390 hce390
                          have HR390_3 := Aside0.mk hi390_3
                          have HC390_3 := Aside0.mk hl390_3
                          clear hi390_3 hl390_3
                          replace p390 := eq_true p390
                          replace q390 := eq_true q390
                          have p391 : 0 ≤ (x8_2 : Int) := of_decide_eq_true (by first | (with_reducible assumption) | assumption)
                          have q391 : x8_2 < (x378001_3.length : Int) := of_decide_eq_true (by first | (with_reducible assumption) | assumption)
                          obtain ⟨ad391, A391_3, c391_3, e391, hx391_0, hx391_1, hx391_2, hx391_3, hl391_3, hi391_3⟩ := at_T41 (Kd.S_reads' HO_378001.out).2.2 x8_2 p391 q391
                          obtain rfl : ad390 = ad391 := (by injection e391)
                          obtain ⟨ce391, hce391, hMe391, hcc391⟩ := Kd.S_get HO_378001.out z41 x8_2 p391 (by first | exact q391 | exact of_decide_eq_true (by first | (with_reducible assumption) | assumption) | (have e_ := (Kd.S_reads' HO_378001.out).1; omega))
                          obtain ⟨ve391_3, rfl, ge391_3⟩ := k41_openM hMe391
                          have hv391_3 := hcc391 3 _ rfl
                          rw [add_field _ _ 3 (by omega)] at hv391_3
                          replace hv391_3 := Option.some.inj (hv391_3.symm.trans hx391_3)
                          rw [hv391_3] at ge391_3
                          have HL391_3 := Aside0.mk (show Kd.R (Kd.int .u8) 5 _ _ _ _ ((rd_T41 x378001_3 x8_2).f3) from ge391_3)
                          clear hv391_3 ge391_3
                          have HX391_3 := Aside0.mk hx391_3
                          clear hcc391 hce391
                          have HR391_3 := Aside0.mk hi391_3
                          have HC391_3 := Aside0.mk hl391_3
                          clear hi391_3 hl391_3
                          replace p391 := eq_true p391
                          replace q391 := eq_true q391
                          have ea_ := Option.some.inj (hx390_3.symm.trans hx391_3)
                          injection ea_ with ea_ en_ ec_
                          subst ea_
                          subst ec_
                          clear en_
                          have p39 : 0 ≤ (x9_3 : Int) := of_decide_eq_true (by first | (with_reducible assumption) | assumption)
                          have q39 : (x9_3 : Int) < ((((rd_T41 x378001_3 x8_2).f3).length : Int) : Int) := of_decide_eq_true (by first | (with_reducible assumption) | assumption)
                          obtain ⟨go39, co39, eo39, gb39, gl39, cl39, HG39⟩ := Kd.R_form HL391_3.out (by omega)
                          (first | cases eo39 | (injection eo39 with ea_ en_ ec_; (first | subst ea_ | (injection ea_ with ea_; subst ea_)); subst ec_; clear en_))
                          have GB39 := Aside0.mk gb39
                          have GG39 := Aside0.mk HG39
                          clear gb39 gl39 HG39
                          obtain ⟨hx39_0, hf39_0⟩ := Kd.R_celln 0 HL391_3.out (x9_3 : Int) p39 q39
                          replace p39 := eq_true p39
                          replace q39 := eq_true q39
                          have hq43 : (x8_2 : Int) < (x378001_3.length : Int) := (by have h_ : (x8_2 : Int) < ((x378001_3.length : Int) : Int) := of_decide_eq_true (by first | (with_reducible assumption) | assumption); first | exact h_ | (have e_ := (Kd.S_reads' HO_378001.out).1; omega) | simpa only [List.length_set, List.length_set] using h_)
                          obtain ⟨oki43, ce43, hcl43, hM43, hcc43, hok43, hbk43⟩ := Kd.S_borrow HO_378001.out z41 (x8_2 : Int) (of_decide_eq_true (by first | (with_reducible assumption) | assumption)) hq43
                          obtain ⟨ve43_3, rfl, ge43_3⟩ := k41_openM hM43
                          have hv43 := hcc43 3 _ rfl
                          rw [add_field _ _ 3 (by omega)] at hv43
                          replace hv43 := Option.some.inj (hv43.symm.trans HX391_3.out)
                          subst hv43
                          clear hcc43 hcl43
                          replace ge43_3 := (show Kd.R (Kd.int .u8) 5 _ _ _ _ ((rd_T41 x378001_3 x8_2).f3) from ge43_3)
                          have HP43 := Kd.R_putg ge43_3 (x9_3 : Int) 238
                          go_wp2_with (first | ((with_reducible refine gate_store (t := 5) (p := 63) rfl ?_); refine store_event (t := 5) (p := 63) (v := ?vo_w44) (w1 := (wr.setCell ⟨go39, (x9_3 : Int).toNat, none⟩ (.int .u8 238))) ?hg ?ho ?hn ?hr ?_; (case ho => rfl); (case hg => rfl); (case hn => rfl); (case hr => first | (go_simp; done) | (go_simp; rfl)); intro w44 hw; have hg : wr.grownBy w44 (some go39) := (by rw [hw]; exact HP43.2); have hz_ : Kd.R (Kd.int .u8) 5 w44 w.heap.size oki43 (.slice (some ⟨go39, 0, none⟩) ((rd_T41 x378001_3 x8_2).f3).length c390_3) y392 := (by rw [hw, Ny392.out]; exact HP43.1); have hp_ : Kd.S k41 41 w44 w.heap.size (fun k_ => some k_ ≠ (v379 : Value).ownBlock ∧ some k_ ≠ (v383 : Value).ownBlock) (.slice (some ad390) x378001_3.length co42) y394 := (by rw [Ny394.out]; exact hbk43 hg (fun k_ e_ => by injection e_ with e_; subst e_; exact ge43_3.1 _ rfl) (k41_mkM _ _ _ (⟨(rd_T41 x378001_3 x8_2).f0, (rd_T41 x378001_3 x8_2).f1, (rd_T41 x378001_3 x8_2).f2, y392⟩ : S41) hz_)); have hm_ := Kd.R_mono hz_ hok43; clear HP43 hbk43; have n0_ := Aside0.mk (Kd.R_grown1 (by (with_reducible repeat (first | apply Kd.R_alloc | apply Kd.R_drewN | apply Kd.R_drew)); exact HO_4.out) rfl hg ((HL391_3.out.1 _ rfl).1.1)); have n1_ := Aside0.mk (Kd.R_grown1 (by (with_reducible repeat (first | apply Kd.R_alloc | apply Kd.R_drewN | apply Kd.R_drew)); exact HO_6.out) rfl hg ((HL391_3.out.1 _ rfl).1.2)); have n2_ := Aside0.mk (hp_); have n3_ := Aside0.mk (Kd.R_over' (v := (.slice (some ⟨go39, 0, none⟩) ((rd_T41 x378001_3 x8_2).f3).length c390_3)) (by (with_reducible repeat (first | apply Kd.R_alloc | apply Kd.R_drewN | apply Kd.R_drew)); exact HO_378002.out) (Kd.R_typed HL391_3.out) (by decide) hg); have n4_ := Aside0.mk (blk_grown (g := gb369) (o := .cells #[.int .u64 a0_0, .slice A0_1 l0_1.length c0_1, .slice A0_2 l0_2.length c0_2] 26 (0, 0)) (by (with_reducible repeat (first | refine blk_drewN ?_ _ | refine blk_drew ?_ | refine blk_alloc ?_ _)); exact BK369.out) hg (Kd.R_ne HL391_3.out BK369.out (by decide))); have n5_ := Aside0.mk (blk_grown (g := gb377) (o := .cells #[.int .u64 t370, .slice (some ad390) x378001_3.length co42, .slice Ao13 t374.length co13] 26 (0, 0)) (by (with_reducible repeat (first | refine blk_drewN ?_ _ | refine blk_drew ?_ | refine blk_alloc ?_ _)); exact BK377.out) hg (Kd.R_ne HL391_3.out BK377.out (by decide))); have n6_ := Aside0.mk ((by rw [hw]; exact below_set (HB.out) GB39.out : Below w.heap.size w w44)); have n7_ := Aside0.mk (hm_); have n8_ := Aside0.mk ((Kd.R_reads' hm_).2.1); clear HO_4; clear HO_6; clear HO_378001; clear HO_378002; clear BK369; clear BK377; clear HB; clear HL390_3; clear HL391_3; have HO_4 := n0_; have HO_6 := n1_; have HO_378001 := n2_; have HO_378002 := n3_; have BK369 := n4_; have BK377 := n5_; have HB := n6_; have HL395 := n7_; have HC393 := n8_; clear n0_ n1_ n2_ n3_ n4_ n5_ n6_ n7_ n8_; clear hg hw hp_ hz_ hm_ hok43))
                          go_roundg k3
                          case measure => have := HJ4.out; have := HK2.out; have := HK3.out; omega
                          case rel => exact ⟨(x4_3), (x6_3), (wrap64 (x9_3 + 1)), (y394), (.slice (some ad390) x378001_3.length co42), (by first | rfl | (simp; done) | (simp only [i64_w, i32_w]; done) | (simp [i64_w, i32_w]; done) | (simp [*]; done)), H', ⟨by have := HJ4.out; have := HK2.out; have := HK3.out; omega⟩, ⟨by (with_reducible repeat (first | apply Kd.R_alloc | apply Kd.R_drewN | apply Kd.R_drew)); exact HO_4.out⟩, ⟨by (with_reducible repeat (first | apply Kd.R_alloc | apply Kd.R_drewN | apply Kd.R_drew)); exact HO_6.out⟩, ⟨by (with_reducible repeat (first | apply Kd.S_alloc | apply Kd.S_drewN | apply Kd.S_drew)); exact HO_378001.out⟩, ⟨by (with_reducible repeat (first | apply Kd.R_alloc | apply Kd.R_drewN | apply Kd.R_drew)); exact HO_378002.out⟩, ⟨by (with_reducible repeat (first | refine blk_drewN ?_ _ | refine blk_drew ?_ | refine blk_alloc ?_ _)); exact BK369.out⟩, ⟨by (with_reducible repeat (first | refine blk_drewN ?_ _ | refine blk_drew ?_ | refine blk_alloc ?_ _)); exact BK377.out⟩, ⟨by repeat (first | (with_reducible first | exact HB.out | apply below_alloc | apply pw_below_drewN | apply below_drew1 | refine below_set ?_ GE369.out | refine below_set ?_ GE377.out) | exact HB.out)⟩⟩
                        · rw [if_neg c38] at H
                          exact absurd H (by simp)
                      · rw [if_neg c37] at H
                        have c37b0 : decide (x9_3 < (((rd_T41 x378001_3 x8_2).f3).length : Int)) = false := decide_eq_false c37
                        clear c37
                        have H' := Aside0.mk H
                        clear H
                        have hnb45 := NB377_369.out
                        have hnc45 := NB369_377.out
                        have hcz46_0 : wr.cell? ⟨gb377, 0, none⟩ = some (.int .u64 t370) := (blk_cell BK377.out 0).trans rfl
                        have hcz46_1 : wr.cell? ⟨gb377, 1, none⟩ = some (u378001) := (blk_cell BK377.out 1).trans rfl
                        have hcz46_2 : wr.cell? ⟨gb377, 2, none⟩ = some (.slice Ao13 t374.length co13) := (blk_cell BK377.out 2).trans rfl
                        have hfz46_0 := blk_frozen BK377.out 0
                        have hfz46_1 := blk_frozen BK377.out 1
                        have hfz46_2 := blk_frozen BK377.out 2
                        obtain ⟨Ao47, co47, eo47⟩ := Kd.S_slice HO_378001.out
                        subst eo47
                        have p390 : 0 ≤ (x8_2 : Int) := of_decide_eq_true (by first | (with_reducible assumption) | assumption)
                        have q390 : x8_2 < (x378001_3.length : Int) := of_decide_eq_true (by first | (with_reducible assumption) | assumption)
                        obtain ⟨ad390, A390_3, c390_3, e390, hx390_0, hx390_1, hx390_2, hx390_3, hl390_3, hi390_3⟩ := at_T41 (Kd.S_reads' HO_378001.out).2.2 x8_2 p390 q390
                        cases e390
                        obtain ⟨ce390, hce390, hMe390, hcc390⟩ := Kd.S_get HO_378001.out z41 x8_2 p390 (by first | exact q390 | exact of_decide_eq_true (by first | (with_reducible assumption) | assumption) | (have e_ := (Kd.S_reads' HO_378001.out).1; omega))
                        obtain ⟨ve390_3, rfl, ge390_3⟩ := k41_openM hMe390
                        have hv390_3 := hcc390 3 _ rfl
                        rw [add_field _ _ 3 (by omega)] at hv390_3
                        replace hv390_3 := Option.some.inj (hv390_3.symm.trans hx390_3)
                        rw [hv390_3] at ge390_3
                        have HL390_3 := Aside0.mk (show Kd.R (Kd.int .u8) 5 _ _ _ _ ((rd_T41 x378001_3 x8_2).f3) from ge390_3)
                        clear hv390_3 ge390_3
                        have HX390_3 := Aside0.mk hx390_3
                        clear hcc390 hce390
                        have HR390_3 := Aside0.mk hi390_3
                        have HC390_3 := Aside0.mk hl390_3
                        clear hi390_3 hl390_3
                        replace p390 := eq_true p390
                        replace q390 := eq_true q390
                        go_wp2
                        go_roundg k3
                        case measure => have := HJ4.out; have := HK2.out; have := HK3.out; omega
                        case rel => exact ⟨(x4_3), (x6_3), (wrap64 (x8_2 + 1)), (x378001_3), (.slice (some ad390) x378001_3.length co47), (by first | rfl | (simp; done) | (simp only [i64_w, i32_w]; done) | (simp [i64_w, i32_w]; done) | (simp [*]; done)), H', ⟨by have := HJ4.out; have := HK2.out; have := HK3.out; omega⟩, ⟨by (with_reducible repeat (first | apply Kd.R_alloc | apply Kd.R_drewN | apply Kd.R_drew)); exact HO_4.out⟩, ⟨by (with_reducible repeat (first | apply Kd.R_alloc | apply Kd.R_drewN | apply Kd.R_drew)); exact HO_6.out⟩, ⟨by (with_reducible repeat (first | apply Kd.S_alloc | apply Kd.S_drewN | apply Kd.S_drew)); exact HO_378001.out⟩, ⟨by (with_reducible repeat (first | apply Kd.R_alloc | apply Kd.R_drewN | apply Kd.R_drew)); exact HO_378002.out⟩, ⟨by (with_reducible repeat (first | refine blk_drewN ?_ _ | refine blk_drew ?_ | refine blk_alloc ?_ _)); exact BK369.out⟩, ⟨by (with_reducible repeat (first | refine blk_drewN ?_ _ | refine blk_drew ?_ | refine blk_alloc ?_ _)); exact BK377.out⟩, ⟨by repeat (first | (with_reducible first | exact HB.out | apply below_alloc | apply pw_below_drewN | apply below_drew1 | refine below_set ?_ GE369.out | refine below_set ?_ GE377.out) | exact HB.out)⟩⟩
                    · rw [if_neg c36] at H
                      exact absurd H (by simp)
                  · rw [if_neg c35] at H
                    exact absurd H (by simp)
            · rw [if_neg c31] at H
              have c31b0 : decide (x8_2 < (x378001_2.length : Int)) = false := decide_eq_false c31
              clear c31
              replace H := Option.bind_eq_some_iff.mp H
              obtain ⟨t389, A480, H⟩ := H
              replace H : (some t389) = some r := H
              have A48 := Aside0.mk A480
              clear A480
              obtain rfl := Option.some.inj H
              have hnb49 := NB377_369.out
              have hnc49 := NB369_377.out
              have hcz50_0 : wr.cell? ⟨gb377, 0, none⟩ = some (.int .u64 t370) := (blk_cell BK377.out 0).trans rfl
              have hcz50_1 : wr.cell? ⟨gb377, 1, none⟩ = some (u378001) := (blk_cell BK377.out 1).trans rfl
              have hcz50_2 : wr.cell? ⟨gb377, 2, none⟩ = some (.slice Ao13 t374.length co13) := (blk_cell BK377.out 2).trans rfl
              have hfz50_0 := blk_frozen BK377.out 0
              have hfz50_1 := blk_frozen BK377.out 1
              have hfz50_2 := blk_frozen BK377.out 2
              obtain ⟨Ao51, co51, eo51⟩ := Kd.S_slice HO_378001.out
              subst eo51
              obtain ⟨Ao52, co52, eo52⟩ := Kd.R_slice HO_4.out
              subst eo52
              obtain ⟨Ao53, co53, eo53⟩ := Kd.R_slice HO_6.out
              subst eo53
              go_wp2_with (first | ((with_reducible refine gate_callee (f := 11) rfl ?_); refine goesL_ (some 66) rfl rfl Tryd.func11 (by kernel_rfl) rfl #[.slice Ao52 x4_2.length co52, .slice Ao53 x6_2.length co53] rfl (by (try simp only [List.map_toArray, List.map_cons, List.map_nil]); first | done | rfl | (simp only [List.length_drop, List.length_take]; rfl)) ?_; (with_reducible refine (anvillaw02_same.calls _ _ x4_2 _ _ x6_2 t389 _ ?side1 ?side2 ?side3 ?side4 A48.out).mono ?_); (case side1 => repeat (first | exact (Kd.R_reads' HO_4.out).2.2 | (with_reducible refine Kd.C_alloc ?_ _) | (with_reducible refine Kd.C_drewN ?_ _) | (with_reducible refine Kd.C_drew ?_))); (case side2 => exact (Kd.R_reads' HO_4.out).2.1); (case side3 => repeat (first | exact (Kd.R_reads' HO_6.out).2.2 | (with_reducible refine Kd.C_alloc ?_ _) | (with_reducible refine Kd.C_drewN ?_ _) | (with_reducible refine Kd.C_drew ?_))); (case side4 => exact (Kd.R_reads' HO_6.out).2.1); rintro e w' ⟨rfl, ⟨nd, rfl⟩⟩; refine ⟨_, rfl, ?_⟩))
              go_ret
              exact ⟨by first | rfl | (simp [errW_none, errW_some] <;> rfl) | (simp [*, errW_none, errW_some] <;> rfl), by repeat (first | (with_reducible first | exact HB.out | apply below_alloc | apply pw_below_drewN | apply below_drew1 | refine below_set ?_ GE369.out | refine below_set ?_ GE377.out) | exact HB.out)⟩

end Go.Proofs.YtbnlifldnjgpmaaDoor.PWri
