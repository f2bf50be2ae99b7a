-- BY PROGRAM of this session (the kit's printer, turned by wip/tools/patch_print.py). Lean checks it.
import Derived.Test.YtbnlifldnjgpmaaGreatDoorCGr1
import Derived.Test.YtbnlifldnjgpmaaGreatDoorCWrix3
import Derived.Test.YtbnlifldnjgpmaaGreatDoorCWrix5
namespace Go.Proofs.YtbnlifldnjgpmaaGreatDoor.PWri
open Go.RowKit Go.Proofs.YtbnlifldnjgpmaaGreatDoorW.PrintWords Go.Proofs.YtbnlifldnjgpmaaGreatDoorW.PrintLast Go.Proofs.YtbnlifldnjgpmaaGreatDoorW.PrintMore
attribute [local go_sem] max2_int min2_int max_two min_two max_three min_three max_four min_four   -- for this text's walks alone
set_option linter.unusedVariables false
set_option linter.unusedSimpArgs false
mutual
def anvilref02_names.j0 : Nat → List Int → Int → Int → Int → Int → Bool → Int → Int → Option ((List (S82)) × Int × Int)
 | 0, _, _, _, _, _, _, _, _ => none
 | k + 1, x0, x4, x5, x6, x7, x31, x202000, x202001 => if x31 = true then (some (([] : List (S82)), x202000, x202001)) else (anvilref02_names.l0 k x0 x4 x5 x6 x7 ([] : List (S82)) 1)
def anvilref02_names.l0 : Nat → List Int → Int → Int → Int → Int → List (S82) → Int → Option ((List (S82)) × Int × Int)
 | 0, _, _, _, _, _, _, _ => none
 | k + 1, x0, x4, x5, x6, x7, x9, x10 => if x10 < (wrap64 (Int.tdiv x5 24)) then (if 0 ≤ x6 then (if x6 ≤ (wrap64 (x6 + x7)) then (if (wrap64 (x6 + x7)) ≤ (x0.length : Int) then ((anvilref02_value.f k x0 (wrap64 (x4 + (wrap64 (24 * x10)))) 4).bind fun t203 => ((anvilref02_text.f k ((x0.take ((wrap64 (x6 + x7)) : Int).toNat).drop (x6 : Int).toNat) t203).bind fun bt204 => (if bt204.2 = true then (if 0 ≤ (wrap64 ((wrap64 (x4 + (wrap64 (24 * x10)))) + 4)) then (if (wrap64 ((wrap64 (x4 + (wrap64 (24 * x10)))) + 4)) < (x0.length : Int) then ((anvilref02_value.f k x0 (wrap64 ((wrap64 (x4 + (wrap64 (24 * x10)))) + 8)) 8).bind fun t207 => ((anvilref02_Name.f bt204.1).bind fun t209 => (if t209 = true then (if (Int.tmod (rd x0 (wrap64 ((wrap64 (x4 + (wrap64 (24 * x10)))) + 4))) 16) = 3 then (anvilref02_names.j2 k x0 x4 x5 x6 x7 x9 x10 (wrap64 (x4 + (wrap64 (24 * x10)))) true bt204.1 t207) else (if (Int.tmod (rd x0 (wrap64 ((wrap64 (x4 + (wrap64 (24 * x10)))) + 4))) 16) = 4 then (anvilref02_names.j2 k x0 x4 x5 x6 x7 x9 x10 (wrap64 (x4 + (wrap64 (24 * x10)))) true bt204.1 t207) else ((anvilref02_value.f k x0 (wrap64 ((wrap64 (x4 + (wrap64 (24 * x10)))) + 6)) 2).bind fun t210 => (if t210 = 0 then (anvilref02_names.j2 k x0 x4 x5 x6 x7 x9 x10 (wrap64 (x4 + (wrap64 (24 * x10)))) true bt204.1 t207) else ((anvilref02_has.f k x9 bt204.1 t207).bind fun t211 => (anvilref02_names.j2 k x0 x4 x5 x6 x7 x9 x10 (wrap64 (x4 + (wrap64 (24 * x10)))) t211 bt204.1 t207)))))) else (anvilref02_names.j2 k x0 x4 x5 x6 x7 x9 x10 (wrap64 (x4 + (wrap64 (24 * x10)))) true bt204.1 t207)))) else (none)) else (none)) else (some (([] : List (S82)), wrap64 (x4 + (wrap64 (24 * x10))), 25))))) else (none)) else (none)) else (none)) else (some (x9, 0, 0))
def anvilref02_names.j2 : Nat → List Int → Int → Int → Int → Int → List (S82) → Int → Int → Bool → ByteArray → Int → Option ((List (S82)) × Int × Int)
 | 0, _, _, _, _, _, _, _, _, _, _, _ => none
 | k + 1, x0, x4, x5, x6, x7, x9, x10, x11, x95, x209000, x209001 => if x95 = true then (anvilref02_names.l0 k x0 x4 x5 x6 x7 x9 (wrap64 (x10 + 1))) else (if (x9.length : Int) = 400 then (some (([] : List (S82)), x11, 2)) else (if x9.length < 5864062014805 then (anvilref02_names.l0 k x0 x4 x5 x6 x7 (x9 ++ [(⟨x209000, x209001⟩ : S82)]) (wrap64 (x10 + 1))) else (none)))
end
def anvilref02_names.f (k : Nat) (l0 : List Int) : Option ((List (S82)) × Int × Int) := (anvilref02_table.f k l0).bind fun bt195 => (if bt195.2.2.2.2.2 = 0 then (anvilref02_names.j0 k l0 bt195.1 bt195.2.1 bt195.2.2.1 bt195.2.2.2.1 (decide (bt195.1 < 0)) bt195.2.2.2.2.1 bt195.2.2.2.2.2) else (anvilref02_names.j0 k l0 bt195.1 bt195.2.1 bt195.2.2.1 bt195.2.2.2.1 true bt195.2.2.2.2.1 bt195.2.2.2.2.2))
theorem anvilref02_names.mono_l : ∀ k, (∀ y0 y1 y2 y3 y4 y5 y6 y7, LeO (anvilref02_names.j0 k y0 y1 y2 y3 y4 y5 y6 y7) (anvilref02_names.j0 (k + 1) y0 y1 y2 y3 y4 y5 y6 y7)) ∧ (∀ y0 y1 y2 y3 y4 y5 y6, LeO (anvilref02_names.l0 k y0 y1 y2 y3 y4 y5 y6) (anvilref02_names.l0 (k + 1) y0 y1 y2 y3 y4 y5 y6)) ∧ (∀ y0 y1 y2 y3 y4 y5 y6 y7 y8 y9 y10, LeO (anvilref02_names.j2 k y0 y1 y2 y3 y4 y5 y6 y7 y8 y9 y10) (anvilref02_names.j2 (k + 1) y0 y1 y2 y3 y4 y5 y6 y7 y8 y9 y10))
 | 0 => ⟨fun _ _ _ _ _ _ _ _ r h => by simp [anvilref02_names.j0] at h, fun _ _ _ _ _ _ _ r h => by simp [anvilref02_names.l0] at h, fun _ _ _ _ _ _ _ _ _ _ _ r h => by simp [anvilref02_names.j2] at h⟩
 | k + 1 => by
  obtain ⟨ih0, ih1, ih2⟩ := anvilref02_names.mono_l k
  refine ⟨?_, ?_, ?_⟩
  ·intro y0 y1 y2 y3 y4 y5 y6 y7
   unfold anvilref02_names.j0
   repeat' first
   | (with_reducible exact ih0 _ _ _ _ _ _ _ _)
   | (with_reducible exact ih1 _ _ _ _ _ _ _)
   | (with_reducible exact ih2 _ _ _ _ _ _ _ _ _ _ _)
   | (with_reducible exact anvilref02_has.mono _ _ _ _)
   | (with_reducible exact anvilref02_table.mono _ _)
   | (with_reducible exact anvilref02_text.mono _ _ _)
   | (with_reducible exact anvilref02_value.mono _ _ _ _)
   | (with_reducible exact LeO.refl _)
   | (with_reducible exact LeO.none _)
   | (with_reducible refine LeO.ite ?_ ?_)
   | (with_reducible refine LeO.bind ?_ (fun _ => ?_))
   | exact ih0 _ _ _ _ _ _ _ _
   | exact ih1 _ _ _ _ _ _ _
   | exact ih2 _ _ _ _ _ _ _ _ _ _ _
   | exact anvilref02_has.mono _ _ _ _
   | exact anvilref02_table.mono _ _
   | exact anvilref02_text.mono _ _ _
   | exact anvilref02_value.mono _ _ _ _
   | exact LeO.none _
   | refine LeO.ite ?_ ?_
   | refine LeO.bind ?_ (fun _ => ?_)
  ·intro y0 y1 y2 y3 y4 y5 y6
   unfold anvilref02_names.l0
   repeat' first
   | (with_reducible exact ih0 _ _ _ _ _ _ _ _)
   | (with_reducible exact ih1 _ _ _ _ _ _ _)
   | (with_reducible exact ih2 _ _ _ _ _ _ _ _ _ _ _)
   | (with_reducible exact anvilref02_has.mono _ _ _ _)
   | (with_reducible exact anvilref02_table.mono _ _)
   | (with_reducible exact anvilref02_text.mono _ _ _)
   | (with_reducible exact anvilref02_value.mono _ _ _ _)
   | (with_reducible exact LeO.refl _)
   | (with_reducible exact LeO.none _)
   | (with_reducible refine LeO.ite ?_ ?_)
   | (with_reducible refine LeO.bind ?_ (fun _ => ?_))
   | exact ih0 _ _ _ _ _ _ _ _
   | exact ih1 _ _ _ _ _ _ _
   | exact ih2 _ _ _ _ _ _ _ _ _ _ _
   | exact anvilref02_has.mono _ _ _ _
   | exact anvilref02_table.mono _ _
   | exact anvilref02_text.mono _ _ _
   | exact anvilref02_value.mono _ _ _ _
   | exact LeO.none _
   | refine LeO.ite ?_ ?_
   | refine LeO.bind ?_ (fun _ => ?_)
  ·intro y0 y1 y2 y3 y4 y5 y6 y7 y8 y9 y10
   unfold anvilref02_names.j2
   repeat' first
   | (with_reducible exact ih0 _ _ _ _ _ _ _ _)
   | (with_reducible exact ih1 _ _ _ _ _ _ _)
   | (with_reducible exact ih2 _ _ _ _ _ _ _ _ _ _ _)
   | (with_reducible exact anvilref02_has.mono _ _ _ _)
   | (with_reducible exact anvilref02_table.mono _ _)
   | (with_reducible exact anvilref02_text.mono _ _ _)
   | (with_reducible exact anvilref02_value.mono _ _ _ _)
   | (with_reducible exact LeO.refl _)
   | (with_reducible exact LeO.none _)
   | (with_reducible refine LeO.ite ?_ ?_)
   | (with_reducible refine LeO.bind ?_ (fun _ => ?_))
   | exact ih0 _ _ _ _ _ _ _ _
   | exact ih1 _ _ _ _ _ _ _
   | exact ih2 _ _ _ _ _ _ _ _ _ _ _
   | exact anvilref02_has.mono _ _ _ _
   | exact anvilref02_table.mono _ _
   | exact anvilref02_text.mono _ _ _
   | exact anvilref02_value.mono _ _ _ _
   | exact LeO.none _
   | refine LeO.ite ?_ ?_
   | refine LeO.bind ?_ (fun _ => ?_)
theorem anvilref02_names.mono : ∀ a0 k, LeO (anvilref02_names.f k a0) (anvilref02_names.f (k + 1) a0) := by
 intro a0 k
 obtain ⟨ih0, ih1, ih2⟩ := anvilref02_names.mono_l k
 unfold anvilref02_names.f
 repeat' first
  | (with_reducible exact ih0 _ _ _ _ _ _ _ _)
  | (with_reducible exact ih1 _ _ _ _ _ _ _)
  | (with_reducible exact ih2 _ _ _ _ _ _ _ _ _ _ _)
  | (with_reducible exact anvilref02_has.mono _ _ _ _)
  | (with_reducible exact anvilref02_table.mono _ _)
  | (with_reducible exact anvilref02_text.mono _ _ _)
  | (with_reducible exact anvilref02_value.mono _ _ _ _)
  | (with_reducible exact LeO.refl _)
  | (with_reducible exact LeO.none _)
  | (with_reducible refine LeO.ite ?_ ?_)
  | (with_reducible refine LeO.bind ?_ (fun _ => ?_))
  | exact ih0 _ _ _ _ _ _ _ _
  | exact ih1 _ _ _ _ _ _ _
  | exact ih2 _ _ _ _ _ _ _ _ _ _ _
  | exact anvilref02_has.mono _ _ _ _
  | exact anvilref02_table.mono _ _
  | exact anvilref02_text.mono _ _ _
  | exact anvilref02_value.mono _ _ _ _
  | exact LeO.none _
  | refine LeO.ite ?_ ?_
  | refine LeO.bind ?_ (fun _ => ?_)
def anvilref02_names.T9 : Bool × List (List Nat × List Nat) := (true, [([], []), ([], []), ([], []), ([], []), ([2, 3], [2, 3]), ([0, 1, 4], [0, 1, 4]), ([], []), ([], []), ([6, 7], [6, 7]), ([5, 8, 8], [5, 8]), ([9], [9]), ([10], [10]), ([10], [10]), ([11, 9, 0, 1, 2, 3, 4, 5, 6, 7, 8, 9, 10, 11], [11]), ([12, 13, 0, 1, 2, 3, 4, 5, 6, 7, 8, 9, 10, 11, 12, 13], [12])])
def anvilref02_names.B9 : List Nat := [0, 0, 0, 0, 12, 31, 0, 0, 192, 511, 1023, 2047, 2047, 4095, 16383]
theorem anvilref02_names.tab9 : rtab .any (opsOf Tryz.f33 9) = anvilref02_names.T9 := by kernel_rfl
theorem anvilref02_names.bits9 : waitsOk anvilref02_names.T9.2 anvilref02_names.B9 = true := by kernel_rfl
set_option maxHeartbeats 8000000 in
set_option maxRecDepth 100000 in
theorem anvilref02_names.calls (k : Nat) (A0 : Option Addr) (c0 : Nat) (l0 : List Int) (r1 : List (S82)) (r2 : Int) (r3 : Int) (w : World) (hr0 : Kd.C (Kd.int .u8) w A0 l0.length l0) (hc0 : l0.length ≤ c0) (hG : Glob w) (h : anvilref02_names.f k l0 = some (r1, r2, r3)) :
 Calls Tryz.prog 33 #[.slice A0 l0.length c0] w fun e w' => ∃ v0_ : Value, e = .returned (.tuple #[v0_, .agg #[.int .i64 r2, .int .i64 r3]]) ∧ Kd.R k82 82 w' w.heap.size (fun _ => True) v0_ r1 ∧ Below w.heap.size w w' := by
 have hu66 := Tryz.underlying66
 have hu82 := Tryz.underlying82
 have HR0 := Asd.mk hr0
 have HC0 := Asd.mk hc0
 clear hr0 hc0
 have HG := Asd.mk hG
 clear hG
 have HB := Asd.mk (Below.refl w.heap.size w)
 have H : ((anvilref02_table.f k l0).bind fun bt195 => (if bt195.2.2.2.2.2 = 0 then (anvilref02_names.j0 k l0 bt195.1 bt195.2.1 bt195.2.2.1 bt195.2.2.2.1 (decide (bt195.1 < 0)) bt195.2.2.2.2.1 bt195.2.2.2.2.2) else (anvilref02_names.j0 k l0 bt195.1 bt195.2.1 bt195.2.2.1 bt195.2.2.2.1 true bt195.2.2.2.2.1 bt195.2.2.2.2.2))) = some (r1, r2, r3) := h
 clear h
 replace H := Option.bind_eq_some_iff.mp H
 obtain ⟨⟨t195, t196, t197, t198, t199, t200⟩, A20, H⟩ := H
 have A2 := Asd.mk A20
 clear A20
 have HC3 := Asd.mk H
 clear H
 go_enter Tryz.func33, Tryz.ntmps33
 go_upto_region 2 with (first | ((with_reducible refine gDs (N := 3) rfl ?_); refine bEv ?hg (N := 3) ?hd (cs := #[.int .i64 0, .int .i64 0]) (t := 66) ?hr ?_; (case hd => rfl); (case hg => rfl); (case hr => first | (go_simp; done) | (go_simp; rfl)); intro gb194 hg w4 hbox hb; have n0_ := Asd.mk (bSt (bX HB.out) hb); have n1_ := Asd.mk (hbox); have n2_ := Asd.mk (zX hg (bX HB.out) : w.heap.size ≤ gb194); have n3_ := Asd.mk (zX hg (bX HB.out) : w.heap.size ≤ gb194); clear HB; have HB := n0_; have BK194 := n1_; have GW194 := n2_; have GE194 := n3_; clear n0_ n1_ n2_ n3_; clear hb hbox hg) | ((with_reducible refine gate_callee (f := 66) rfl ?_); refine goesL_ (some 19) rfl rfl Tryz.func66 (by kernel_rfl) rfl #[.slice A0 l0.length c0] rfl gX ?_; (with_reducible refine (anvilref02_table.calls k _ _ l0 t195 t196 t197 t198 t199 t200 _ ?side1 ?side2 A2.out).mono ?_); (case side1 => exact cX HR0.out HB.out); (case side2 => exact HC0.out); rintro e w5 ⟨rfl, hb⟩; refine ⟨_, rfl, ?_⟩; have n0_ := Asd.mk (kBe (g := gb194) (o := .cells #[.int .i64 0, .int .i64 0] 66 (0, 0)) (kX BK194.out) hb); have n1_ := Asd.mk (bSt (bX HB.out) hb); clear BK194; clear HB; have BK194 := n0_; have HB := n1_; clear n0_ n1_; (try clear hb); (try clear hb2); (try clear hk); (try clear hi)) | ((with_reducible refine gDs (N := 8) rfl ?_); refine bEv ?hg (N := 8) ?hd (cs := #[.int .i64 0, .int .i64 0]) (t := 66) ?hr ?_; (case hd => rfl); (case hg => rfl); (case hr => first | (go_simp; done) | (go_simp; rfl)); intro gb201 hg w6 hbox hb; have n0_ := Asd.mk (kBe (g := gb194) (o := .cells #[.int .i64 0, .int .i64 0] 66 (0, 0)) (kX BK194.out) hb); have n1_ := Asd.mk (bSt (bX HB.out) hb); have n2_ := Asd.mk (hbox); have n3_ := Asd.mk (zX hg (bX HB.out) : w.heap.size ≤ gb201); have n4_ := Asd.mk (zX hg (bX HB.out) : w.heap.size ≤ gb201); have n5_ := Asd.mk ((by rw [hg]; exact Nat.ne_of_lt (blk_lt (g := gb194) (o := .cells #[.int .i64 0, .int .i64 0] 66 (0, 0)) (kX BK194.out)) : gb194 ≠ gb201)); have n6_ := Asd.mk ((by rw [hg]; exact Nat.ne_of_gt (blk_lt (g := gb194) (o := .cells #[.int .i64 0, .int .i64 0] 66 (0, 0)) (kX BK194.out)) : gb201 ≠ gb194)); clear BK194; clear HB; have BK194 := n0_; have HB := n1_; have BK201 := n2_; have GW201 := n3_; have GE201 := n4_; have NB194_201 := n5_; have NB201_194 := n6_; clear n0_ n1_ n2_ n3_ n4_ n5_ n6_; clear hb hbox hg; have hnb7 := NB201_194.out; have hnc7 := NB194_201.out; have hcz8_0 : w6.cell? ⟨gb201, 0, none⟩ = some (.int .i64 0) := (kCe BK201.out 0).trans rfl; have hcz8_1 : w6.cell? ⟨gb201, 1, none⟩ = some (.int .i64 0) := (kCe BK201.out 1).trans rfl; have hfz8_0 := kFr BK201.out 0; have hfz8_1 := kFr BK201.out 1))
 (try simp only [Act.put, List.setIfInBounds_toArray, List.set_cons_zero, List.set_cons_succ])
 go_cut [31] (fun v31 wc => ∃ (kq : Nat) (x31_2 : Bool), v31 = .bool x31_2 ∧ Asd (anvilref02_names.j0 kq l0 t195 t196 t197 t198 x31_2 t199 t200 = some (r1, r2, r3)) ∧ Asd (kq ≤ k) ∧ Asd (wc.heap[gb194]? = some (.cells #[.int .i64 0, .int .i64 0] 66 (0, 0))) ∧ Asd (wc.heap[gb201]? = some (.cells #[.int .i64 t199, .int .i64 t200] 66 (0, 0))) ∧ Asd (Below w.heap.size w wc))
 case first =>
  have H := HC3.out
  clear HC3
  by_cases c9 : t200 = 0
  ·rw [if_pos c9] at H
   have c9b0 : (t200 == 0) = true := beq_iff_eq.mpr c9
   have c9b1 : (t200 != 0) = false := bne_eq_false_iff_eq.mpr c9
   clear c9
   (first | rw [c9b0] | (simp only [i64_w, i32_w]; rw [c9b0]) | rw [c9b1] | skip)
   have H' := Asd.mk H
   clear H
   have hnb10 := NB201_194.out
   have hnc10 := NB194_201.out
   have hcz11_0 : w6.cell? ⟨gb201, 0, none⟩ = some (.int .i64 0) := (kCe BK201.out 0).trans rfl
   have hcz11_1 : w6.cell? ⟨gb201, 1, none⟩ = some (.int .i64 0) := (kCe BK201.out 1).trans rfl
   have hfz11_0 := kFr BK201.out 0
   have hfz11_1 := kFr BK201.out 1
   go_wp2
   go_meet
   case rel => exact ⟨_, (decide (t195 < 0)), eX, H', ⟨by first | omega | exact Nat.le_refl _⟩, ⟨fX BK194.out⟩, ⟨by (with_reducible repeat (first | refine kDn ?_ _ | refine kDr ?_ | refine kAl ?_ _)); refine kPu (cs := #[.int .i64 t199, .int .i64 0]) ?_ 1 _ rfl; (with_reducible repeat (first | refine kDn ?_ _ | refine kDr ?_ | refine kAl ?_ _)); refine kPu (cs := #[.int .i64 0, .int .i64 0]) ?_ 0 _ rfl; (with_reducible repeat (first | refine kDn ?_ _ | refine kDr ?_ | refine kAl ?_ _)); exact BK201.out⟩, ⟨bX HB.out⟩⟩
  ·rw [if_neg c9] at H
   have c9b0 : (t200 == 0) = false := beq_eq_false_iff_ne.mpr c9
   have c9b1 : (t200 != 0) = true := bne_iff_ne.mpr c9
   (first | rw [c9b0] | (simp only [i64_w, i32_w]; rw [c9b0]) | rw [c9b1] | skip)
   have H' := Asd.mk H
   clear H
   have hnb12 := NB201_194.out
   have hnc12 := NB194_201.out
   have hcz13_0 : w6.cell? ⟨gb201, 0, none⟩ = some (.int .i64 0) := (kCe BK201.out 0).trans rfl
   have hcz13_1 : w6.cell? ⟨gb201, 1, none⟩ = some (.int .i64 0) := (kCe BK201.out 1).trans rfl
   have hfz13_0 := kFr BK201.out 0
   have hfz13_1 := kFr BK201.out 1
   go_wp2
   go_meet
   case rel => exact ⟨_, (true), eX, H', ⟨by first | omega | exact Nat.le_refl _⟩, ⟨fX BK194.out⟩, ⟨by (with_reducible repeat (first | refine kDn ?_ _ | refine kDr ?_ | refine kAl ?_ _)); refine kPu (cs := #[.int .i64 t199, .int .i64 0]) ?_ 1 _ rfl; (with_reducible repeat (first | refine kDn ?_ _ | refine kDr ?_ | refine kAl ?_ _)); refine kPu (cs := #[.int .i64 0, .int .i64 0]) ?_ 0 _ rfl; (with_reducible repeat (first | refine kDn ?_ _ | refine kDr ?_ | refine kAl ?_ _)); exact BK201.out⟩, ⟨bX HB.out⟩⟩
 case rest =>
  clear HC3
  try clear c1
  try clear p2
  try clear c3
  try clear c6
  try clear c7
  try clear c9
  try clear c9b0
  try clear c9b1
  try clear c10
  try clear c12
  try clear hcz11_0
  try clear hcz11_1
  try clear hcz13_0
  try clear hcz13_1
  try clear hcz8_0
  try clear hcz8_1
  try clear hfz11_0
  try clear hfz11_1
  try clear hfz13_0
  try clear hfz13_1
  try clear hfz8_0
  try clear hfz8_1
  obtain ⟨kq, x31_2, rfl, HA, HJ2, BK194, BK201, HB⟩ := hcut
  cases kq with
  | zero => exact absurd HA.out (by simp [anvilref02_names.j0])
  | succ kj2 =>
   have H := HA.out
   clear HA
   simp only [anvilref02_names.j0] at H
   by_cases c14 : x31_2 = true
   ·subst c14
    have H1 : (some (([] : List (S82)), t199, t200)) = some (r1, r2, r3) := by rw [if_pos rfl] at H; exact H
    clear H
    have H := H1
    clear H1
    simp only [Option.some.injEq, Prod.mk.injEq] at H
    obtain ⟨rfl, rfl, rfl⟩ := H
    try go_wp2
    have n0_ := Asd.mk (kDr BK194.out)
    have n1_ := Asd.mk (kDr BK201.out)
    have n2_ := Asd.mk (bD1 HB.out)
    clear BK194
    clear BK201
    clear HB
    have BK194 := n0_
    have BK201 := n1_
    have HB := n2_
    clear n0_ n1_ n2_
    refine start_ (n := 3) (S := fun w' => w'.cell? ⟨gb201, 0, none⟩ = some (.int .i64 t199) ∧ w'.cell? ⟨gb201, 1, none⟩ = some (.int .i64 t200)) (ds := []) #[false, false, false] (by kernel_rfl) rfl rfl ⟨(kCe BK201.out 0).trans rfl, (kCe BK201.out 1).trans rfl⟩ (fun hHeld => ?_)
    generalize wc.drew = w15 at BK194 BK201 HB hHeld ⊢
    refine pure_ (i := 1) (N := some 2) (v := ?_) (a' := ?_) #[false, true, false] rfl rfl (by kernel_rfl) (fun _ _ _ h => h) (Or.inl ⟨by rfl, ?_⟩) ?_ ?_
    rotate_left
    ·intro w'
     go_simp
     with_reducible rfl
    rotate_left
    ·simp only [Act.put, List.setIfInBounds_toArray, List.set_cons_zero, List.set_cons_succ, i64_w, i32_w]
     rfl
    refine take_ (i := 0) (N := some 32) (v := ?_) (a' := ?_) #[true, true, false] rfl rfl (by kernel_rfl) (fun _ _ _ h => h) (Or.inl ⟨by rfl, ?_⟩) hHeld ?_ ?_
    rotate_left
    ·rintro w' ⟨s0, s1⟩
     go_simp
     with_reducible rfl
    rotate_left
    ·simp only [Act.put, List.setIfInBounds_toArray, List.set_cons_zero, List.set_cons_succ, i64_w, i32_w]
     rfl
    refine one_ (i := 2) (N := none) #[true, true, true] rfl rfl (by kernel_rfl) (by decide) (fun K hK => ?_)
    have hs16 : w15.cell? ⟨gb194, 0, none⟩ = some (.int .i64 0) := (kCe BK194.out 0).trans rfl
    have hfs16 := kFr BK194.out 0
    have hns16_1 := NB201_194.out
    have hms16_1 := NB194_201.out
    have hs17 : w15.cell? ⟨gb194, 1, none⟩ = some (.int .i64 0) := (kCe BK194.out 1).trans rfl
    have hfs17 := kFr BK194.out 1
    have hns17_1 := NB201_194.out
    have hms17_1 := NB194_201.out
    refine skip_ (w1 := ?_) (by rfl) rfl ?_ ?_
    rotate_left
    ·go_simp
     rfl
    refine hK.out _ _ ⟨((cell_far (p := ⟨gb194, _, none⟩) NB201_194.out _).trans (((cell_far (p := ⟨gb194, _, none⟩) NB201_194.out _).trans (hHeld.1)))), ((cell_far (p := ⟨gb194, _, none⟩) NB201_194.out _).trans (((cell_far (p := ⟨gb194, _, none⟩) NB201_194.out _).trans (hHeld.2))))⟩ (fun hHeld => ?_)
    clear hK K
    refine done_ (by kernel_rfl) ?_
    try go_wp2
    refine bodyPost_ret (results_tc rfl _ _ gb194 66 #[.int .i64 t199, .int .i64 t200] (0, 0) _ rfl (by (with_reducible repeat (first | refine kDn ?_ _ | refine kDr ?_ | refine kAl ?_ _)); refine kPu (cs := #[.int .i64 t199, .int .i64 0]) ?_ 1 _ rfl; (with_reducible repeat (first | refine kDn ?_ _ | refine kDr ?_ | refine kAl ?_ _)); refine kPu (cs := #[.int .i64 0, .int .i64 0]) ?_ 0 _ rfl; (with_reducible repeat (first | refine kDn ?_ _ | refine kDr ?_ | refine kAl ?_ _)); exact BK194.out) Tryz.underlying66 rfl (by kernel_rfl)) rfl ?_
    exact ⟨_, rX, by first | exact Kd.R_nil _ _ _ _ _ | exact Kd.N_nil _ _ _ _ _ | exact Kd.V_nil _ _ _ _ _ | exact Kd.Q_nil _ _ _ _ _ | exact Kd.S_nil _ _ _ _ _, bX HB.out⟩
   ·replace c14 := Bool.eq_false_iff.mpr c14
    subst c14
    have H1 : (anvilref02_names.l0 kj2 l0 t195 t196 t197 t198 ([] : List (S82)) 1) = some (r1, r2, r3) := by rw [if_neg (show ¬ (false = true) by decide)] at H; exact H
    clear H
    have H := H1
    clear H1
    have H' := Asd.mk H
    clear H
    go_wp2
    go_loopg [9, 10] kj2 (fun kq v9 v10 w' => ∃ (x9_2 : List (S82)) (x10_2 : Int) (x195000_2 : Int) (x195001_2 : Int), v10 = .int .i64 x10_2 ∧ Asd (anvilref02_names.l0 kq l0 t195 t196 t197 t198 x9_2 x10_2 = some (r1, r2, r3)) ∧ Asd (kq ≤ kj2) ∧ Asd (Kd.R k82 82 w' w.heap.size (fun _ => True) v9 x9_2) ∧ Asd (w'.heap[gb194]? = some (.cells #[.int .i64 x195000_2, .int .i64 x195001_2] 66 (0, 0))) ∧ Asd (w'.heap[gb201]? = some (.cells #[.int .i64 t199, .int .i64 t200] 66 (0, 0))) ∧ Asd (Below w.heap.size w w'))
    case atStart => exact ⟨(([] : List (S82))), (1), (0), (0), eX, H', ⟨Nat.le_refl _⟩, ⟨by first | exact Kd.R_nil _ _ _ _ _ | exact Kd.N_nil _ _ _ _ _ | exact Kd.V_nil _ _ _ _ _ | exact Kd.Q_nil _ _ _ _ _ | exact Kd.S_nil _ _ _ _ _⟩, ⟨kX BK194.out⟩, ⟨kX BK201.out⟩, ⟨bX HB.out⟩⟩
    case round =>
     clear H'
     try clear c1
     try clear p2
     try clear c3
     try clear c6
     try clear c7
     try clear c9
     try clear c9b0
     try clear c9b1
     try clear c10
     try clear c12
     try clear c14
     try clear hcz11_0
     try clear hcz11_1
     try clear hcz13_0
     try clear hcz13_1
     try clear hcz8_0
     try clear hcz8_1
     try clear hfz11_0
     try clear hfz11_1
     try clear hfz13_0
     try clear hfz13_1
     try clear hfz8_0
     try clear hfz8_1
     try clear p2
     obtain ⟨x9_2, x10_2, x195000_2, x195001_2, rfl, HA, HK2, HO_9, BK194, BK201, HB⟩ := hrel
     cases gk with
     | zero => exact absurd HA.out (by simp [anvilref02_names.l0])
     | succ k2 =>
      have H := HA.out
      clear HA
      simp only [anvilref02_names.l0] at H
      by_cases c18 : x10_2 < (wrap64 (Int.tdiv t196 24))
      ·rw [if_pos c18] at H
       have c18b0 : decide (x10_2 < (wrap64 (Int.tdiv t196 24))) = true := decide_eq_true c18
       clear c18
       by_cases c19 : 0 ≤ t197
       ·rw [if_pos c19] at H
        have c19b0 := eq_true c19
        have c19b1 : decide (0 ≤ t197) = true := decide_eq_true c19
        clear c19
        by_cases c20 : t197 ≤ (wrap64 (t197 + t198))
        ·rw [if_pos c20] at H
         have c20b0 := eq_true c20
         have c20b1 : decide (t197 ≤ (wrap64 (t197 + t198))) = true := decide_eq_true c20
         by_cases c21 : (wrap64 (t197 + t198)) ≤ (l0.length : Int)
         ·rw [if_pos c21] at H
          have c21b0 := eq_true c21
          have c21b1 : decide ((wrap64 (t197 + t198)) ≤ (l0.length : Int)) = true := decide_eq_true c21
          replace H := Option.bind_eq_some_iff.mp H
          obtain ⟨t203, A220, H⟩ := H
          have A22 := Asd.mk A220
          clear A220
          replace H := Option.bind_eq_some_iff.mp H
          obtain ⟨⟨t204, t205⟩, A230, H⟩ := H
          have A23 := Asd.mk A230
          clear A230
          by_cases c24 : t205 = true
          ·subst c24
           have H1 : (if 0 ≤ (wrap64 ((wrap64 (t195 + (wrap64 (24 * x10_2)))) + 4)) then (if (wrap64 ((wrap64 (t195 + (wrap64 (24 * x10_2)))) + 4)) < (l0.length : Int) then ((anvilref02_value.f k2 l0 (wrap64 ((wrap64 (t195 + (wrap64 (24 * x10_2)))) + 8)) 8).bind fun t207 => ((anvilref02_Name.f t204).bind fun t209 => (if t209 = true then (if (Int.tmod (rd l0 (wrap64 ((wrap64 (t195 + (wrap64 (24 * x10_2)))) + 4))) 16) = 3 then (anvilref02_names.j2 k2 l0 t195 t196 t197 t198 x9_2 x10_2 (wrap64 (t195 + (wrap64 (24 * x10_2)))) true t204 t207) else (if (Int.tmod (rd l0 (wrap64 ((wrap64 (t195 + (wrap64 (24 * x10_2)))) + 4))) 16) = 4 then (anvilref02_names.j2 k2 l0 t195 t196 t197 t198 x9_2 x10_2 (wrap64 (t195 + (wrap64 (24 * x10_2)))) true t204 t207) else ((anvilref02_value.f k2 l0 (wrap64 ((wrap64 (t195 + (wrap64 (24 * x10_2)))) + 6)) 2).bind fun t210 => (if t210 = 0 then (anvilref02_names.j2 k2 l0 t195 t196 t197 t198 x9_2 x10_2 (wrap64 (t195 + (wrap64 (24 * x10_2)))) true t204 t207) else ((anvilref02_has.f k2 x9_2 t204 t207).bind fun t211 => (anvilref02_names.j2 k2 l0 t195 t196 t197 t198 x9_2 x10_2 (wrap64 (t195 + (wrap64 (24 * x10_2)))) t211 t204 t207)))))) else (anvilref02_names.j2 k2 l0 t195 t196 t197 t198 x9_2 x10_2 (wrap64 (t195 + (wrap64 (24 * x10_2)))) true t204 t207)))) else (none)) else (none)) = some (r1, r2, r3) := by rw [if_pos rfl] at H; exact H
           clear H
           have H := H1
           clear H1
           obtain ⟨ji25, hji25⟩ : ∃ j_ : Int, (wrap64 ((wrap64 (t195 + (wrap64 (24 * x10_2)))) + 4)) = j_ := ⟨_, rfl⟩
           replace H : (if 0 ≤ (ji25) then (if (ji25) < (l0.length : Int) then ((anvilref02_value.f k2 l0 (wrap64 ((wrap64 (t195 + (wrap64 (24 * x10_2)))) + 8)) 8).bind fun t207 => ((anvilref02_Name.f t204).bind fun t209 => (if t209 = true then (if (Int.tmod (rd l0 (ji25)) 16) = 3 then (anvilref02_names.j2 k2 l0 t195 t196 t197 t198 x9_2 x10_2 (wrap64 (t195 + (wrap64 (24 * x10_2)))) true t204 t207) else (if (Int.tmod (rd l0 (ji25)) 16) = 4 then (anvilref02_names.j2 k2 l0 t195 t196 t197 t198 x9_2 x10_2 (wrap64 (t195 + (wrap64 (24 * x10_2)))) true t204 t207) else ((anvilref02_value.f k2 l0 (wrap64 ((wrap64 (t195 + (wrap64 (24 * x10_2)))) + 6)) 2).bind fun t210 => (if t210 = 0 then (anvilref02_names.j2 k2 l0 t195 t196 t197 t198 x9_2 x10_2 (wrap64 (t195 + (wrap64 (24 * x10_2)))) true t204 t207) else ((anvilref02_has.f k2 x9_2 t204 t207).bind fun t211 => (anvilref02_names.j2 k2 l0 t195 t196 t197 t198 x9_2 x10_2 (wrap64 (t195 + (wrap64 (24 * x10_2)))) t211 t204 t207)))))) else (anvilref02_names.j2 k2 l0 t195 t196 t197 t198 x9_2 x10_2 (wrap64 (t195 + (wrap64 (24 * x10_2)))) true t204 t207)))) else (none)) else (none)) = some (r1, r2, r3) := by first | (rw [hji25] at H; exact H) | (simp only [hji25] at H ⊢; exact H)
           (try rw [hji25] at A22)
           (try rw [hji25] at A23)
           have hji25w : (IntKind.i64.wrap ((wrap64 (t195 + (wrap64 (24 * x10_2)))) + 4)) = ji25 := (i64_w _).trans hji25
           by_cases c26 : 0 ≤ (ji25)
           ·rw [if_pos c26] at H
            have c26b0 : decide (0 ≤ (ji25)) = true := decide_eq_true c26
            clear c26
            by_cases c27 : (ji25) < (l0.length : Int)
            ·rw [if_pos c27] at H
             have c27b0 : decide ((ji25) < (l0.length : Int)) = true := decide_eq_true c27
             clear c27
             replace H := Option.bind_eq_some_iff.mp H
             obtain ⟨t207, A280, H⟩ := H
             have A28 := Asd.mk A280
             clear A280
             replace H := Option.bind_eq_some_iff.mp H
             obtain ⟨t209, A290, H⟩ := H
             have A29 := Asd.mk A290
             clear A290
             have HC30 := Asd.mk H
             clear H
             try go_wp2
             have n0_ := Asd.mk (Kd.R_drew HO_9.out)
             have n1_ := Asd.mk (kDr BK194.out)
             have n2_ := Asd.mk (kDr BK201.out)
             have n3_ := Asd.mk (bD1 HB.out)
             clear HO_9
             clear BK194
             clear BK201
             clear HB
             have HO_9 := n0_
             have BK194 := n1_
             have BK201 := n2_
             have HB := n3_
             clear n0_ n1_ n2_ n3_
             obtain ⟨i032, hi032, _, hsz32, _⟩ := info_parts info5
             obtain ⟨A32, hcut32, hA32, hC32⟩ := print_mid_of (P := Tryz.prog) (Value.int .u8) 0 22 5 .i64 .i64 Tryz.underlying22 hi032 hsz32 A0 c0 l0 t197 (wrap64 (t197 + t198)) (of_decide_eq_true aX) (by first | omega | exact of_decide_eq_true aX) (of_decide_eq_true aX) HC0.out
             have HR202 := Asd.mk (Kd.C_of_reads (h1 := fun _ => rfl) (hA32 _ (Kd.reads_of_C HR0.out)))
             have HC202 := Asd.mk hC32
             clear hA32 hC32 hi032 hsz32
             refine start_ (n := 15) (S := fun w' => True) (ds := []) #[false, false, false, false, false, false, false, false, false, false, false, false, false, false, false] (by kernel_rfl) rfl rfl trivial (fun hHeld => ?_); refine with_tabW anvilref02_names.tab9 anvilref02_names.bits9 (fun HT_ HW_ => ?_)
             generalize wr.drew = w31 at HO_9 BK194 BK201 HB HR202 hHeld ⊢
             refine pure_ (i := 0) (N := some 44) (v := ?_) (a' := ?_) #[true, false, false, false, false, false, false, false, false, false, false, false, false, false, false] rfl rfl (any_of HT_.out (by kernel_rfl)) (fun _ _ _ h => h) (Or.inl ⟨by rfl, ?_⟩) ?_ ?_
             rotate_left
             ·intro w'
              go_simp
              with_reducible rfl
             rotate_left
             ·simp only [Act.put, List.setIfInBounds_toArray, List.set_cons_zero, List.set_cons_succ, i64_w, i32_w]
              rfl
             refine pure_ (i := 1) (N := some 45) (v := ?_) (a' := ?_) #[true, true, false, false, false, false, false, false, false, false, false, false, false, false, false] rfl rfl (any_of HT_.out (by kernel_rfl)) (fun _ _ _ h => h) (Or.inl ⟨by rfl, ?_⟩) ?_ ?_
             rotate_left
             ·intro w'
              go_simp
              with_reducible rfl
             rotate_left
             ·simp only [Act.put, List.setIfInBounds_toArray, List.set_cons_zero, List.set_cons_succ, i64_w, i32_w]
              rfl
             refine pure_ (i := 2) (N := some 46) (v := ?_) (a' := ?_) #[true, true, true, false, false, false, false, false, false, false, false, false, false, false, false] rfl rfl (any_of HT_.out (by kernel_rfl)) (fun _ _ _ h => h) (Or.inl ⟨by rfl, ?_⟩) ?_ ?_
             rotate_left
             ·intro w'
              go_simp
              with_reducible rfl
             rotate_left
             ·simp only [Act.put, List.setIfInBounds_toArray, List.set_cons_zero, List.set_cons_succ, i64_w, i32_w]
              rfl
             refine pure_ (i := 3) (N := some 47) (v := ?_) (a' := ?_) #[true, true, true, true, false, false, false, false, false, false, false, false, false, false, false] rfl rfl (any_of HT_.out (by kernel_rfl)) (fun _ _ _ h => h) (Or.inl ⟨by rfl, ?_⟩) ?_ ?_
             rotate_left
             ·intro w'
              go_simp
              with_reducible rfl
             rotate_left
             ·simp only [Act.put, List.setIfInBounds_toArray, List.set_cons_zero, List.set_cons_succ, i64_w, i32_w]
              rfl
             refine pure_ (i := 4) (N := some 48) (v := ?_) (a' := ?_) #[true, true, true, true, true, false, false, false, false, false, false, false, false, false, false] rfl rfl (any_of HT_.out (by kernel_rfl)) (fun _ _ _ h => h) (Or.inl ⟨by rfl, ?_⟩) ?_ ?_
             rotate_left
             ·intro w'
              go_simp
              with_reducible rfl
             rotate_left
             ·simp only [Act.put, List.setIfInBounds_toArray, List.set_cons_zero, List.set_cons_succ, i64_w, i32_w]
              rfl
             refine pure_ (i := 5) (N := some 49) (v := ?_) (a' := ?_) #[true, true, true, true, true, true, false, false, false, false, false, false, false, false, false] rfl rfl (any_of HT_.out (by kernel_rfl)) (fun _ _ _ h => h) (Or.inl ⟨by rfl, ?_⟩) ?_ ?_
             rotate_left
             ·intro w'
              go_simp
              with_reducible rfl
             rotate_left
             ·simp only [Act.put, List.setIfInBounds_toArray, List.set_cons_zero, List.set_cons_succ, i64_w, i32_w]
              rfl
             refine pure_ (i := 6) (N := some 50) (v := ?_) (a' := ?_) #[true, true, true, true, true, true, true, false, false, false, false, false, false, false, false] rfl rfl (any_of HT_.out (by kernel_rfl)) (fun _ _ _ h => h) (Or.inl ⟨by rfl, ?_⟩) ?_ ?_
             rotate_left
             ·intro w'
              go_simp
              with_reducible rfl
             rotate_left
             ·simp only [Act.put, List.setIfInBounds_toArray, List.set_cons_zero, List.set_cons_succ, i64_w, i32_w]
              rfl
             refine pure_ (i := 7) (N := some 51) (v := ?_) (a' := ?_) #[true, true, true, true, true, true, true, true, false, false, false, false, false, false, false] rfl rfl (any_of HT_.out (by kernel_rfl)) (fun _ _ _ h => h) (Or.inl ⟨by rfl, ?_⟩) ?_ ?_
             rotate_left
             ·intro w'
              go_simp
              with_reducible rfl
             rotate_left
             ·simp only [Act.put, List.setIfInBounds_toArray, List.set_cons_zero, List.set_cons_succ, i64_w, i32_w]
              rfl
             refine one_ (i := 8) (N := some 52) #[true, true, true, true, true, true, true, true, true, false, false, false, false, false, false] rfl rfl (one_of HT_.out (by kernel_rfl)) (by decide) (fun K hK => ?_)
             refine goes_ Tryz.func34 (by kernel_rfl) rfl #[.slice A0 l0.length c0, .int .i64 (wrap64 (t195 + (wrap64 (24 * x10_2)))), .int .i64 4] (by rfl) rfl rfl gX ?_
             with_reducible refine (anvilref02_value.calls k2 _ _ l0 (wrap64 (t195 + (wrap64 (24 * x10_2)))) 4 t203 _ ?side1 ?side2 A22.out).mono ?_
             (case side1 => exact cX HR0.out HB.out)
             (case side2 => exact HC0.out)
             rintro e w' ⟨rfl, ⟨nd, rfl⟩⟩
             refine ⟨_, rfl, ?_⟩
             refine hK.out _ _ trivial (fun hHeld => ?_)
             clear hK K
             refine norm_ (a' := ?_) ?_ ?_
             rotate_left
             ·show Act.put _ (some 52) _ = _
              simp only [Act.put, List.setIfInBounds_toArray, List.set_cons_zero, List.set_cons_succ, i64_w, i32_w]
              rfl
             refine one_ (i := 9) (N := some 53) #[true, true, true, true, true, true, true, true, true, true, false, false, false, false, false] rfl rfl (one_of HT_.out (by kernel_rfl)) (by decide) (fun K hK => ?_)
             refine goes_ Tryz.func67 (by kernel_rfl) rfl #[.slice A32 ((l0.take ((wrap64 (t197 + t198)) : Int).toNat).drop (t197 : Int).toNat).length (c0 - t197.toNat), .int .u64 t203] (by rfl) rfl rfl (by (try simp only [List.map_toArray, List.map_cons, List.map_nil]); first | done | (rw [show ((l0.take ((wrap64 (t197 + t198)) : Int).toNat).drop (t197 : Int).toNat).length = ((wrap64 (t197 + t198)).toNat - t197.toNat) from (by rw [List.length_drop, List.length_take]; have h_ : ((wrap64 (t197 + t198)) : Int) ≤ (l0.length : Int) := of_decide_eq_true aX; omega)] <;> rfl) | rfl | (simp only [List.length_drop, List.length_take]; rfl)) ?_
             with_reducible refine (anvilref02_text.calls k2 _ _ ((l0.take ((wrap64 (t197 + t198)) : Int).toNat).drop (t197 : Int).toNat) t203 t204 true _ ?side1 ?side2 A23.out).mono ?_
             (case side1 => exact cX HR202.out HB.out)
             (case side2 => exact HC202.out)
             rintro e w' ⟨rfl, ⟨nd, rfl⟩⟩
             refine ⟨_, rfl, ?_⟩
             refine hK.out _ _ trivial (fun hHeld => ?_)
             clear hK K
             refine norm_ (a' := ?_) ?_ ?_
             rotate_left
             ·show Act.put _ (some 53) _ = _
              simp only [Act.put, List.setIfInBounds_toArray, List.set_cons_zero, List.set_cons_succ, i64_w, i32_w]
              rfl
             refine pure_ (i := 10) (N := some 43) (v := ?_) (a' := ?_) #[true, true, true, true, true, true, true, true, true, true, true, false, false, false, false] rfl rfl (any_of HT_.out (by kernel_rfl)) (fun _ _ _ h => h) (Or.inl ⟨by rfl, ?_⟩) ?_ ?_
             rotate_left
             ·intro w'
              go_simp
              with_reducible rfl
             rotate_left
             ·simp only [Act.put, List.setIfInBounds_toArray, List.set_cons_zero, List.set_cons_succ, i64_w, i32_w]
              rfl
             refine pure_ (i := 11) (N := some 54) (v := ?_) (a' := ?_) #[true, true, true, true, true, true, true, true, true, true, true, true, false, false, false] rfl rfl (any_of HT_.out (by kernel_rfl)) (fun _ _ _ h => h) (Or.inl ⟨by rfl, ?_⟩) ?_ ?_
             rotate_left
             ·intro w'
              go_simp
              with_reducible rfl
             rotate_left
             ·simp only [Act.put, List.setIfInBounds_toArray, List.set_cons_zero, List.set_cons_succ, i64_w, i32_w]
              rfl
             refine pure_ (i := 12) (N := some 55) (v := ?_) (a' := ?_) #[true, true, true, true, true, true, true, true, true, true, true, true, true, false, false] rfl rfl (any_of HT_.out (by kernel_rfl)) (fun _ _ _ h => h) (Or.inl ⟨by rfl, ?_⟩) ?_ ?_
             rotate_left
             ·intro w'
              go_simp
              with_reducible rfl
             rotate_left
             ·simp only [Act.put, List.setIfInBounds_toArray, List.set_cons_zero, List.set_cons_succ, i64_w, i32_w]
              rfl
             refine pure_ (i := 13) (N := some 12) (v := ?_) (a' := ?_) #[true, true, true, true, true, true, true, true, true, true, true, true, true, true, false] rfl rfl (any_of HT_.out (by kernel_rfl)) (fun _ _ _ h => h) (Or.inl ⟨by rfl, ?_⟩) ?_ ?_
             rotate_left
             ·intro w'
              go_simp
              with_reducible rfl
             rotate_left
             ·simp only [Act.put, List.setIfInBounds_toArray, List.set_cons_zero, List.set_cons_succ, i64_w, i32_w]
              rfl
             refine pure_ (i := 14) (N := some 13) (v := ?_) (a' := ?_) #[true, true, true, true, true, true, true, true, true, true, true, true, true, true, true] rfl rfl (any_of HT_.out (by kernel_rfl)) (fun _ _ _ h => h) (Or.inl ⟨by rfl, ?_⟩) ?_ ?_
             rotate_left
             ·intro w'
              go_simp
              with_reducible rfl
             rotate_left
             ·simp only [Act.put, List.setIfInBounds_toArray, List.set_cons_zero, List.set_cons_succ, i64_w, i32_w]
              rfl
             refine done_ (done_of HT_.out (by kernel_rfl)) ?_
             have p206 : 0 ≤ ((ji25) : Int) := of_decide_eq_true aX
             have q206 : (ji25) < (l0.length : Int) := of_decide_eq_true aX
             obtain ⟨ad206, e206, hx206_0⟩ := Kd.at_int HR0.out (ji25) p206 q206
             cases e206
             replace hx206_0 := (HB.out.cell (World.block_lt_of_cell? w _ hx206_0)).trans hx206_0
             replace p206 := eq_true p206
             replace q206 := eq_true q206
             go_upto_region 15 with (first | ((with_reducible refine gate_callee (f := 34) rfl ?_); refine goesL_ (some 70) rfl rfl Tryz.func34 (by kernel_rfl) rfl #[.slice (some ad206) l0.length c0, .int .i64 (wrap64 ((wrap64 (t195 + (wrap64 (24 * x10_2)))) + 8)), .int .i64 8] rfl gX ?_; (with_reducible refine (anvilref02_value.calls k2 _ _ l0 (wrap64 ((wrap64 (t195 + (wrap64 (24 * x10_2)))) + 8)) 8 t207 _ ?side1 ?side2 A28.out).mono ?_); (case side1 => exact cX HR0.out HB.out); (case side2 => exact HC0.out); rintro e w' ⟨rfl, ⟨nd, rfl⟩⟩; refine ⟨_, rfl, ?_⟩; skip) | ((with_reducible refine gDs (N := 15) rfl ?_); refine bEv ?hg (N := 15) ?hd (cs := #[.string (⟨#[]⟩ : ByteArray), .int .u64 0]) (t := 82) ?hr ?_; (case hd => rfl); (case hg => rfl); (case hr => first | (go_simp; done) | (go_simp; rfl)); intro gb208 hg w33 hbox hb; have n0_ := Asd.mk (Kd.R_below (Kd.R_elderB (kRX HO_9.out) gb208 (Nat.le_of_eq hg.symm)) hb); have n1_ := Asd.mk (kBe (g := gb194) (o := .cells #[.int .i64 x195000_2, .int .i64 x195001_2] 66 (0, 0)) (kX BK194.out) hb); have n2_ := Asd.mk (kBe (g := gb201) (o := .cells #[.int .i64 t199, .int .i64 t200] 66 (0, 0)) (kX BK201.out) hb); have n3_ := Asd.mk (bSt (bX HB.out) hb); have n4_ := Asd.mk (hbox); have n5_ := Asd.mk (zX hg (bX HB.out) : w.heap.size ≤ gb208); have n6_ := Asd.mk (zX hg (bX HB.out) : w.heap.size ≤ gb208); have n7_ := Asd.mk ((by rw [hg]; exact Nat.ne_of_lt (blk_lt (g := gb194) (o := .cells #[.int .i64 x195000_2, .int .i64 x195001_2] 66 (0, 0)) (kX BK194.out)) : gb194 ≠ gb208)); have n8_ := Asd.mk ((by rw [hg]; exact Nat.ne_of_gt (blk_lt (g := gb194) (o := .cells #[.int .i64 x195000_2, .int .i64 x195001_2] 66 (0, 0)) (kX BK194.out)) : gb208 ≠ gb194)); have n9_ := Asd.mk ((by rw [hg]; exact Nat.ne_of_lt (blk_lt (g := gb201) (o := .cells #[.int .i64 t199, .int .i64 t200] 66 (0, 0)) (kX BK201.out)) : gb201 ≠ gb208)); have n10_ := Asd.mk ((by rw [hg]; exact Nat.ne_of_gt (blk_lt (g := gb201) (o := .cells #[.int .i64 t199, .int .i64 t200] 66 (0, 0)) (kX BK201.out)) : gb208 ≠ gb201)); clear HO_9; clear BK194; clear BK201; clear HB; have HO_9 := n0_; have BK194 := n1_; have BK201 := n2_; have HB := n3_; have BK208 := n4_; have GW208 := n5_; have GE208 := n6_; have NB194_208 := n7_; have NB208_194 := n8_; have NB201_208 := n9_; have NB208_201 := n10_; clear n0_ n1_ n2_ n3_ n4_ n5_ n6_ n7_ n8_ n9_ n10_; clear hb hbox hg; have hnb34 := NB208_194.out; have hnc34 := NB194_208.out; have hnb35 := NB208_201.out; have hnc35 := NB201_208.out; have hcz36_0 : w33.cell? ⟨gb208, 0, none⟩ = some (.string (⟨#[]⟩ : ByteArray)) := (kCe BK208.out 0).trans rfl; have hcz36_1 : w33.cell? ⟨gb208, 1, none⟩ = some (.int .u64 0) := (kCe BK208.out 1).trans rfl; have hfz36_0 := kFr BK208.out 0; have hfz36_1 := kFr BK208.out 1) | ((with_reducible refine gate_callee (f := 68) rfl ?_); refine goesL_ (some 73) rfl rfl Tryz.func68 (by kernel_rfl) rfl #[.string t204] rfl gX ?_; (with_reducible refine (anvilref02_Name.calls t204 t209 _ ?side1 A29.out).mono ?_); (case side1 => first | exact HG.out | exact Glob.step HG.out HB.out | (refine Glob.step HG.out ?_; (repeat (first | exact Below.refl _ _ | apply bDn | apply bD1)); done) | exact Glob.step HG.out (bX HB.out)); rintro e w37 ⟨rfl, hb⟩; refine ⟨_, rfl, ?_⟩; have n0_ := Asd.mk (Kd.R_below (by (with_reducible repeat (first | apply Kd.R_alloc | apply Kd.R_drewN | apply Kd.R_drew)); exact (Kd.R_mono (Kd.R_far (p := ⟨gb208, 1, none⟩) (Kd.R_far (p := ⟨gb208, 0, none⟩) (Kd.R_mono HO_9.out (fun k_ hk => (⟨hk, hk.2⟩ : _ ∧ k_ ≠ gb208))) (fun _ hk => hk.2) (.string t204)) (fun _ hk => hk.2) (.int .u64 t207)) (fun _ h_ => h_.1))) hb); have n1_ := Asd.mk (kBe (g := gb194) (o := .cells #[.int .i64 x195000_2, .int .i64 x195001_2] 66 (0, 0)) (fX BK194.out) hb); have n2_ := Asd.mk (kBe (g := gb201) (o := .cells #[.int .i64 t199, .int .i64 t200] 66 (0, 0)) (fX BK201.out) hb); have n3_ := Asd.mk (kBe (g := gb208) (o := .cells #[.string t204, .int .u64 t207] 82 (0, 0)) (by (with_reducible repeat (first | refine kDn ?_ _ | refine kDr ?_ | refine kAl ?_ _)); refine kPu (cs := #[.string t204, .int .u64 0]) ?_ 1 _ rfl; (with_reducible repeat (first | refine kDn ?_ _ | refine kDr ?_ | refine kAl ?_ _)); refine kPu (cs := #[.string (⟨#[]⟩ : ByteArray), .int .u64 0]) ?_ 0 _ rfl; (with_reducible repeat (first | refine kDn ?_ _ | refine kDr ?_ | refine kAl ?_ _)); exact BK208.out) hb); have n4_ := Asd.mk (bSt (bX HB.out) hb); clear HO_9; clear BK194; clear BK201; clear BK208; clear HB; have HO_9 := n0_; have BK194 := n1_; have BK201 := n2_; have BK208 := n3_; have HB := n4_; clear n0_ n1_ n2_ n3_ n4_; (try clear hb); (try clear hb2); (try clear hk); (try clear hi)))
             (try simp only [Act.put, List.setIfInBounds_toArray, List.set_cons_zero, List.set_cons_succ])
             go_cut [95] (fun v95 wc => ∃ (kq : Nat) (x95_29 : Bool), v95 = .bool x95_29 ∧ Asd (anvilref02_names.j2 kq l0 t195 t196 t197 t198 x9_2 x10_2 (wrap64 (t195 + (wrap64 (24 * x10_2)))) x95_29 t204 t207 = some (r1, r2, r3)) ∧ Asd (kq ≤ k2) ∧ Asd (Kd.R k82 82 wc w.heap.size (fun k_ => k_ ≠ gb208) u9 x9_2) ∧ Asd (wc.heap[gb194]? = some (.cells #[.int .i64 x195000_2, .int .i64 x195001_2] 66 (0, 0))) ∧ Asd (wc.heap[gb201]? = some (.cells #[.int .i64 t199, .int .i64 t200] 66 (0, 0))) ∧ Asd (wc.heap[gb208]? = some (.cells #[.string t204, .int .u64 t207] 82 (0, 0))) ∧ Asd (Below w.heap.size w wc))
             case first =>
              have H := HC30.out
              clear HC30
              by_cases c38 : t209 = true
              ·subst c38
               have H1 : (if (Int.tmod (rd l0 (ji25)) 16) = 3 then (anvilref02_names.j2 k2 l0 t195 t196 t197 t198 x9_2 x10_2 (wrap64 (t195 + (wrap64 (24 * x10_2)))) true t204 t207) else (if (Int.tmod (rd l0 (ji25)) 16) = 4 then (anvilref02_names.j2 k2 l0 t195 t196 t197 t198 x9_2 x10_2 (wrap64 (t195 + (wrap64 (24 * x10_2)))) true t204 t207) else ((anvilref02_value.f k2 l0 (wrap64 ((wrap64 (t195 + (wrap64 (24 * x10_2)))) + 6)) 2).bind fun t210 => (if t210 = 0 then (anvilref02_names.j2 k2 l0 t195 t196 t197 t198 x9_2 x10_2 (wrap64 (t195 + (wrap64 (24 * x10_2)))) true t204 t207) else ((anvilref02_has.f k2 x9_2 t204 t207).bind fun t211 => (anvilref02_names.j2 k2 l0 t195 t196 t197 t198 x9_2 x10_2 (wrap64 (t195 + (wrap64 (24 * x10_2)))) t211 t204 t207)))))) = some (r1, r2, r3) := by rw [if_pos rfl] at H; exact H
               clear H
               have H := H1
               clear H1
               by_cases c39 : (Int.tmod (rd l0 (ji25)) 16) = 3
               ·rw [if_pos c39] at H
                have c39b0 : ((Int.tmod (rd l0 (ji25)) 16) == 3) = true := beq_iff_eq.mpr c39
                have c39b1 : ((Int.tmod (rd l0 (ji25)) 16) != 3) = false := bne_eq_false_iff_eq.mpr c39
                clear c39
                (first | rw [c39b0] | (simp only [i64_w, i32_w]; rw [c39b0]) | rw [c39b1] | skip)
                have H' := Asd.mk H
                clear H
                go_wp2
                go_meet
                case rel => exact ⟨_, (true), eX, H', ⟨by have := HJ2.out; have := HK2.out; first | omega | exact Nat.le_refl _⟩, ⟨by (with_reducible repeat (first | apply Kd.R_alloc | apply Kd.R_drewN | apply Kd.R_drew)); exact Kd.R_mono HO_9.out (fun _ hk => hk.2)⟩, ⟨kX BK194.out⟩, ⟨kX BK201.out⟩, ⟨kX BK208.out⟩, ⟨bX HB.out⟩⟩
               ·rw [if_neg c39] at H
                have c39b0 : ((Int.tmod (rd l0 (ji25)) 16) == 3) = false := beq_eq_false_iff_ne.mpr c39
                have c39b1 : ((Int.tmod (rd l0 (ji25)) 16) != 3) = true := bne_iff_ne.mpr c39
                (first | rw [c39b0] | (simp only [i64_w, i32_w]; rw [c39b0]) | rw [c39b1] | skip)
                by_cases c40 : (Int.tmod (rd l0 (ji25)) 16) = 4
                ·rw [if_pos c40] at H
                 have c40b0 : ((Int.tmod (rd l0 (ji25)) 16) == 4) = true := beq_iff_eq.mpr c40
                 have c40b1 : ((Int.tmod (rd l0 (ji25)) 16) != 4) = false := bne_eq_false_iff_eq.mpr c40
                 clear c40
                 have H' := Asd.mk H
                 clear H
                 go_wp2
                 go_meet
                 case rel => exact ⟨_, (true), eX, H', ⟨by have := HJ2.out; have := HK2.out; first | omega | exact Nat.le_refl _⟩, ⟨by (with_reducible repeat (first | apply Kd.R_alloc | apply Kd.R_drewN | apply Kd.R_drew)); exact Kd.R_mono HO_9.out (fun _ hk => hk.2)⟩, ⟨kX BK194.out⟩, ⟨kX BK201.out⟩, ⟨kX BK208.out⟩, ⟨bX HB.out⟩⟩
                ·rw [if_neg c40] at H
                 have c40b0 : ((Int.tmod (rd l0 (ji25)) 16) == 4) = false := beq_eq_false_iff_ne.mpr c40
                 have c40b1 : ((Int.tmod (rd l0 (ji25)) 16) != 4) = true := bne_iff_ne.mpr c40
                 replace H := Option.bind_eq_some_iff.mp H
                 obtain ⟨t210, A410, H⟩ := H
                 have A41 := Asd.mk A410
                 clear A410
                 by_cases c42 : t210 = 0
                 ·rw [if_pos c42] at H
                  have c42b0 : (t210 == 0) = true := beq_iff_eq.mpr c42
                  have c42b1 : (t210 != 0) = false := bne_eq_false_iff_eq.mpr c42
                  clear c42
                  have H' := Asd.mk H
                  clear H
                  go_wp2_with (first | (go_at_call 34; (with_reducible refine (anvilref02_value.calls k2 _ _ l0 (wrap64 ((wrap64 (t195 + (wrap64 (24 * x10_2)))) + 6)) 2 t210 _ ?side1 ?side2 A41.out).mono ?_); (case side1 => exact cX HR0.out HB.out); (case side2 => exact HC0.out); rintro e w' ⟨rfl, ⟨nd, rfl⟩⟩))
                  go_meet
                  case rel => exact ⟨_, (true), eX, H', ⟨by have := HJ2.out; have := HK2.out; first | omega | exact Nat.le_refl _⟩, ⟨by (with_reducible repeat (first | apply Kd.R_alloc | apply Kd.R_drewN | apply Kd.R_drew)); exact Kd.R_mono HO_9.out (fun _ hk => hk.2)⟩, ⟨kX BK194.out⟩, ⟨kX BK201.out⟩, ⟨kX BK208.out⟩, ⟨bX HB.out⟩⟩
                 ·rw [if_neg c42] at H
                  have c42b0 : (t210 == 0) = false := beq_eq_false_iff_ne.mpr c42
                  have c42b1 : (t210 != 0) = true := bne_iff_ne.mpr c42
                  replace H := Option.bind_eq_some_iff.mp H
                  obtain ⟨t211, A430, H⟩ := H
                  have A43 := Asd.mk A430
                  clear A430
                  have H' := Asd.mk H
                  clear H
                  go_wp2_with (first | (go_at_call 34; (with_reducible refine (anvilref02_value.calls k2 _ _ l0 (wrap64 ((wrap64 (t195 + (wrap64 (24 * x10_2)))) + 6)) 2 t210 _ ?side1 ?side2 A41.out).mono ?_); (case side1 => exact cX HR0.out HB.out); (case side2 => exact HC0.out); rintro e w' ⟨rfl, ⟨nd, rfl⟩⟩; have hnb44 := NB208_194.out; have hnc44 := NB194_208.out; have hnb45 := NB208_201.out; have hnc45 := NB201_208.out; have hcz46_0 : w37.cell? ⟨gb208, 0, none⟩ = some (.string t204) := (kCe BK208.out 0).trans rfl; have hcz46_1 : w37.cell? ⟨gb208, 1, none⟩ = some (.int .u64 t207) := (kCe BK208.out 1).trans rfl; have hfz46_0 := kFr BK208.out 0; have hfz46_1 := kFr BK208.out 1; obtain ⟨Ao47, co47, eo47⟩ := Kd.R_slice HO_9.out; subst eo47) | (go_at_call 69; (with_reducible refine (anvilref02_has.calls k2 _ _ x9_2 t204 t207 t211 _ ?side1 ?side2 A43.out).mono ?_); (case side1 => repeat (first | exact (Kd.R_reads' HO_9.out).2.2 | (with_reducible refine Kd.C_alloc ?_ _) | (with_reducible refine Kd.C_drewN ?_ _) | (with_reducible refine Kd.C_drew ?_))); (case side2 => exact (Kd.R_reads' HO_9.out).2.1); rintro e w48 ⟨rfl, hb⟩; have n0_ := Asd.mk (Kd.R_below (kRX HO_9.out) hb); have n1_ := Asd.mk (kBe (g := gb194) (o := .cells #[.int .i64 x195000_2, .int .i64 x195001_2] 66 (0, 0)) (kX BK194.out) hb); have n2_ := Asd.mk (kBe (g := gb201) (o := .cells #[.int .i64 t199, .int .i64 t200] 66 (0, 0)) (kX BK201.out) hb); have n3_ := Asd.mk (kBe (g := gb208) (o := .cells #[.string t204, .int .u64 t207] 82 (0, 0)) (kX BK208.out) hb); have n4_ := Asd.mk (bSt (bX HB.out) hb); clear HO_9; clear BK194; clear BK201; clear BK208; clear HB; have HO_9 := n0_; have BK194 := n1_; have BK201 := n2_; have BK208 := n3_; have HB := n4_; clear n0_ n1_ n2_ n3_ n4_; (try clear hb); (try clear hb2); (try clear hk); (try clear hi)))
                  go_meet
                  case rel => exact ⟨_, (t211), eX, H', ⟨by have := HJ2.out; have := HK2.out; first | omega | exact Nat.le_refl _⟩, ⟨by (with_reducible repeat (first | apply Kd.R_alloc | apply Kd.R_drewN | apply Kd.R_drew)); exact Kd.R_mono HO_9.out (fun _ hk => hk.2)⟩, ⟨kX BK194.out⟩, ⟨kX BK201.out⟩, ⟨kX BK208.out⟩, ⟨bX HB.out⟩⟩
              ·replace c38 := Bool.eq_false_iff.mpr c38
               subst c38
               have H1 : (anvilref02_names.j2 k2 l0 t195 t196 t197 t198 x9_2 x10_2 (wrap64 (t195 + (wrap64 (24 * x10_2)))) true t204 t207) = some (r1, r2, r3) := by rw [if_neg (show ¬ (false = true) by decide)] at H; exact H
               clear H
               have H := H1
               clear H1
               have H' := Asd.mk H
               clear H
               go_wp2
               go_meet
               case rel => exact ⟨_, (true), eX, H', ⟨by have := HJ2.out; have := HK2.out; first | omega | exact Nat.le_refl _⟩, ⟨by (with_reducible repeat (first | apply Kd.R_alloc | apply Kd.R_drewN | apply Kd.R_drew)); exact Kd.R_mono HO_9.out (fun _ hk => hk.2)⟩, ⟨kX BK194.out⟩, ⟨kX BK201.out⟩, ⟨kX BK208.out⟩, ⟨bX HB.out⟩⟩
             case rest =>
              clear HC30
              try clear c1
              try clear c2
              try clear p2
              try clear q2
              try clear hx2
              try clear c3
              try clear c4
              try clear c6
              try clear p6
              try clear c7
              try clear c9
              try clear c9b0
              try clear c9b1
              try clear c10
              try clear c12
              try clear c14
              try clear c18
              try clear c18b0
              try clear c19
              try clear c19b0
              try clear c19b1
              try clear c20
              try clear c20b0
              try clear c20b1
              try clear p20
              try clear q20
              try clear hx20
              try clear c21
              try clear c21b0
              try clear c21b1
              try clear c24
              try clear c26
              try clear c26b0
              try clear c27
              try clear c27b0
              try clear c33
              try clear c34
              try clear c35
              try clear c38
              try clear c39
              try clear c39b0
              try clear c39b1
              try clear c40
              try clear c40b0
              try clear c40b1
              try clear c42
              try clear c42b0
              try clear c42b1
              try clear c44
              try clear c45
              try clear hcz11_0
              try clear hcz11_1
              try clear hcz13_0
              try clear hcz13_1
              try clear hcz36_0
              try clear hcz36_1
              try clear hcz46_0
              try clear hcz46_1
              try clear hcz8_0
              try clear hcz8_1
              try clear hfz11_0
              try clear hfz11_1
              try clear hfz13_0
              try clear hfz13_1
              try clear hfz36_0
              try clear hfz36_1
              try clear hfz46_0
              try clear hfz46_1
              try clear hfz8_0
              try clear hfz8_1
              try clear hx206_0
              try clear p2
              try clear p206
              try clear q206
              obtain ⟨kq, x95_29, rfl, HA, HJ29, HO_9, BK194, BK201, BK208, HB⟩ := hcut
              cases kq with
              | zero => exact absurd HA.out (by simp [anvilref02_names.j2])
              | succ kj29 =>
               have H := HA.out
               clear HA
               simp only [anvilref02_names.j2] at H
               by_cases c49 : x95_29 = true
               ·subst c49
                have H1 : (anvilref02_names.l0 kj29 l0 t195 t196 t197 t198 x9_2 (wrap64 (x10_2 + 1))) = some (r1, r2, r3) := by rw [if_pos rfl] at H; exact H
                clear H
                have H := H1
                clear H1
                have H' := Asd.mk H
                clear H
                go_wp2
                go_roundg kj29
                case measure => have := HJ2.out; have := HK2.out; have := HJ29.out; omega
                case rel => exact ⟨(x9_2), (wrap64 (x10_2 + 1)), (x195000_2), (x195001_2), eX, H', ⟨by have := HJ2.out; have := HK2.out; have := HJ29.out; omega⟩, ⟨by (with_reducible repeat (first | apply Kd.R_alloc | apply Kd.R_drewN | apply Kd.R_drew)); exact Kd.R_mono HO_9.out (fun _ hk => trivial)⟩, ⟨kX BK194.out⟩, ⟨kX BK201.out⟩, ⟨bX HB.out⟩⟩
               ·replace c49 := Bool.eq_false_iff.mpr c49
                subst c49
                have H1 : (if (x9_2.length : Int) = 400 then (some (([] : List (S82)), (wrap64 (t195 + (wrap64 (24 * x10_2)))), 2)) else (if x9_2.length < 5864062014805 then (anvilref02_names.l0 kj29 l0 t195 t196 t197 t198 (x9_2 ++ [(⟨t204, t207⟩ : S82)]) (wrap64 (x10_2 + 1))) else (none))) = some (r1, r2, r3) := by rw [if_neg (show ¬ (false = true) by decide)] at H; exact H
                clear H
                have H := H1
                clear H1
                by_cases c50 : (x9_2.length : Int) = 400
                ·rw [if_pos c50] at H
                 have c50b0 : ((x9_2.length : Int) == 400) = true := beq_iff_eq.mpr c50
                 have c50b1 : ((x9_2.length : Int) != 400) = false := bne_eq_false_iff_eq.mpr c50
                 clear c50
                 simp only [Option.some.injEq, Prod.mk.injEq] at H
                 obtain ⟨rfl, rfl, rfl⟩ := H
                 obtain ⟨Ao51, co51, eo51⟩ := Kd.R_slice HO_9.out
                 subst eo51
                 have hnb52 := NB194_201.out
                 have hnc52 := NB201_194.out
                 have hnb53 := NB194_208.out
                 have hnc53 := NB208_194.out
                 have hcz54_0 : wc.cell? ⟨gb194, 0, none⟩ = some (.int .i64 x195000_2) := (kCe BK194.out 0).trans rfl
                 have hcz54_1 : wc.cell? ⟨gb194, 1, none⟩ = some (.int .i64 x195001_2) := (kCe BK194.out 1).trans rfl
                 have hfz54_0 := kFr BK194.out 0
                 have hfz54_1 := kFr BK194.out 1
                 go_wp2
                 refine bodyPost_ret (results_tc rfl _ _ gb194 66 #[.int .i64 (wrap64 (t195 + (wrap64 (24 * x10_2)))), .int .i64 2] (0, 0) _ rfl (by (with_reducible repeat (first | refine kDn ?_ _ | refine kDr ?_ | refine kAl ?_ _)); refine kPu (cs := #[.int .i64 (wrap64 (t195 + (wrap64 (24 * x10_2)))), .int .i64 x195001_2]) ?_ 1 _ rfl; (with_reducible repeat (first | refine kDn ?_ _ | refine kDr ?_ | refine kAl ?_ _)); refine kPu (cs := #[.int .i64 x195000_2, .int .i64 x195001_2]) ?_ 0 _ rfl; (with_reducible repeat (first | refine kDn ?_ _ | refine kDr ?_ | refine kAl ?_ _)); exact BK194.out) Tryz.underlying66 rfl (by kernel_rfl)) rfl ?_
                 exact ⟨_, by first | rfl | (simp [errW_none, errW_some] <;> rfl) | (simp only [← hji25]; first | rfl | (simp [errW_none, errW_some] <;> rfl)) | (simp [*, errW_none, errW_some] <;> rfl), by first | exact Kd.R_nil _ _ _ _ _ | exact Kd.N_nil _ _ _ _ _ | exact Kd.V_nil _ _ _ _ _ | exact Kd.Q_nil _ _ _ _ _ | exact Kd.S_nil _ _ _ _ _, bX HB.out⟩
                ·rw [if_neg c50] at H
                 have c50b0 : ((x9_2.length : Int) == 400) = false := beq_eq_false_iff_ne.mpr c50
                 have c50b1 : ((x9_2.length : Int) != 400) = true := bne_iff_ne.mpr c50
                 by_cases c55 : x9_2.length < 5864062014805
                 ·rw [if_pos c55] at H
                  have LMc55 := Asd.mk c55
                  clear c55
                  obtain ⟨y212, hy212⟩ : ∃ y_ : List (S82), y_ = (x9_2 ++ [(⟨t204, t207⟩ : S82)]) := ⟨_, rfl⟩
                  replace H : (anvilref02_names.l0 kj29 l0 t195 t196 t197 t198 y212 (wrap64 (x10_2 + 1))) = some (r1, r2, r3) := by first | (rw [hy212]; with_reducible exact H) | (have H2_ := (Option.bind_some _ _).symm.trans H; rw [hy212]; with_reducible exact H2_) | (have H2_ := (Option.bind_some _ _).symm.trans H; with_reducible exact H2_) | with_reducible exact H | (rw [hy212]; exact H) | exact H
                  have Ny212 := Asd.mk hy212
                  clear hy212
                  have H' := Asd.mk H
                  clear H
                  obtain ⟨Ao56, co56, eo56⟩ := Kd.R_slice HO_9.out
                  subst eo56
                  have hnb57 := NB208_194.out
                  have hnc57 := NB194_208.out
                  have hnb58 := NB208_201.out
                  have hnc58 := NB201_208.out
                  have hcz59_0 : wc.cell? ⟨gb208, 0, none⟩ = some (.string t204) := (kCe BK208.out 0).trans rfl
                  have hcz59_1 : wc.cell? ⟨gb208, 1, none⟩ = some (.int .u64 t207) := (kCe BK208.out 1).trans rfl
                  have hfz59_0 := kFr BK208.out 0
                  have hfz59_1 := kFr BK208.out 1
                  go_wp2_with (first | ((with_reducible refine gate_builtin (b := .append) (xs := #[.tmp 101, .tmp 103]) rfl ?_); at_builtin; refine Kd.R_append k82 (w0 := w) w.heap.size rfl (.tmp 101) (.tmp 103) 26 82 (.agg #[(.string ⟨#[]⟩), (.int .u64 0)]) 24 rfl Tryz.underlying26 info82 rfl (by decide) (by omega) (.slice Ao56 x9_2.length co56) x9_2 (⟨t204, t207⟩ : S82) [.string t204, .int .u64 t207] (fun k_ => k_ ≠ gb208) (fun _ => False) rfl rfl ?aP (fun _ hk => hk.elim) ?aF ?aO ?aB ?aS ?aL ?_; (case aP => exact k82_mkM _ _ _ (⟨t204, t207⟩ : S82)); (case aB => exact (bX HB.out)); (case aF => exact (fun k_ hk => Kd.freshB (g := gb208) (o := .cells #[.string t204, .int .u64 t207] 82 (0, 0)) (kX BK208.out) k_ hk)); (case aO => exact (kRX HO_9.out)); (case aS => exact (bSz (bX HB.out))); (case aL => have := LMc55.out; omega); intro v213 w60 ho hb hg hat; rw [← Ny212.out] at ho; have n0_ := Asd.mk (blk_grown (g := gb194) (o := .cells #[.int .i64 x195000_2, .int .i64 x195001_2] 66 (0, 0)) (kX BK194.out) hg (Kd.R_ne HO_9.out BK194.out (by decide))); have n1_ := Asd.mk (blk_grown (g := gb201) (o := .cells #[.int .i64 t199, .int .i64 t200] 66 (0, 0)) (kX BK201.out) hg (Kd.R_ne HO_9.out BK201.out (by decide))); have n2_ := Asd.mk (blk_grown (g := gb208) (o := .cells #[.string t204, .int .u64 t207] 82 (0, 0)) (kX BK208.out) hg (Kd.R_away HO_9.out (fun _ hk => hk))); have n3_ := Asd.mk (hb); have n4_ := Asd.mk (ho); clear BK194; clear BK201; clear BK208; clear HB; clear HO_9; have BK194 := n0_; have BK201 := n1_; have BK208 := n2_; have HB := n3_; have HO214 := n4_; clear n0_ n1_ n2_ n3_ n4_; clear ho hb hg hat))
                  go_roundg kj29
                  case measure => have := HJ2.out; have := HK2.out; have := HJ29.out; omega
                  case rel => exact ⟨(y212), (wrap64 (x10_2 + 1)), (x195000_2), (x195001_2), eX, H', ⟨by have := HJ2.out; have := HK2.out; have := HJ29.out; omega⟩, ⟨by (with_reducible repeat (first | apply Kd.R_alloc | apply Kd.R_drewN | apply Kd.R_drew)); exact Kd.R_mono HO214.out (fun _ hk => trivial)⟩, ⟨kX BK194.out⟩, ⟨kX BK201.out⟩, ⟨bX HB.out⟩⟩
                 ·rw [if_neg c55] at H
                  exact absurd H (by simp)
            ·rw [if_neg c27] at H
             exact absurd H (by simp)
           ·rw [if_neg c26] at H
            exact absurd H (by simp)
          ·replace c24 := Bool.eq_false_iff.mpr c24
           subst c24
           have H1 : (some (([] : List (S82)), wrap64 (t195 + (wrap64 (24 * x10_2))), 25)) = some (r1, r2, r3) := by rw [if_neg (show ¬ (false = true) by decide)] at H; exact H
           clear H
           have H := H1
           clear H1
           simp only [Option.some.injEq, Prod.mk.injEq] at H
           obtain ⟨rfl, rfl, rfl⟩ := H
           try go_wp2
           have n0_ := Asd.mk (Kd.R_drew HO_9.out)
           have n1_ := Asd.mk (kDr BK194.out)
           have n2_ := Asd.mk (kDr BK201.out)
           have n3_ := Asd.mk (bD1 HB.out)
           clear HO_9
           clear BK194
           clear BK201
           clear HB
           have HO_9 := n0_
           have BK194 := n1_
           have BK201 := n2_
           have HB := n3_
           clear n0_ n1_ n2_ n3_
           obtain ⟨i062, hi062, _, hsz62, _⟩ := info_parts info5
           obtain ⟨A62, hcut62, hA62, hC62⟩ := print_mid_of (P := Tryz.prog) (Value.int .u8) 0 22 5 .i64 .i64 Tryz.underlying22 hi062 hsz62 A0 c0 l0 t197 (wrap64 (t197 + t198)) (of_decide_eq_true aX) (by first | omega | exact of_decide_eq_true aX) (of_decide_eq_true aX) HC0.out
           have HR202 := Asd.mk (Kd.C_of_reads (h1 := fun _ => rfl) (hA62 _ (Kd.reads_of_C HR0.out)))
           have HC202 := Asd.mk hC62
           clear hA62 hC62 hi062 hsz62
           refine start_ (n := 15) (S := fun w' => True) (ds := []) #[false, false, false, false, false, false, false, false, false, false, false, false, false, false, false] (by kernel_rfl) rfl rfl trivial (fun hHeld => ?_); refine with_tabW anvilref02_names.tab9 anvilref02_names.bits9 (fun HT_ HW_ => ?_)
           generalize wr.drew = w61 at HO_9 BK194 BK201 HB HR202 hHeld ⊢
           refine pure_ (i := 0) (N := some 44) (v := ?_) (a' := ?_) #[true, false, false, false, false, false, false, false, false, false, false, false, false, false, false] rfl rfl (any_of HT_.out (by kernel_rfl)) (fun _ _ _ h => h) (Or.inl ⟨by rfl, ?_⟩) ?_ ?_
           rotate_left
           ·intro w'
            go_simp
            with_reducible rfl
           rotate_left
           ·simp only [Act.put, List.setIfInBounds_toArray, List.set_cons_zero, List.set_cons_succ, i64_w, i32_w]
            rfl
           refine pure_ (i := 1) (N := some 45) (v := ?_) (a' := ?_) #[true, true, false, false, false, false, false, false, false, false, false, false, false, false, false] rfl rfl (any_of HT_.out (by kernel_rfl)) (fun _ _ _ h => h) (Or.inl ⟨by rfl, ?_⟩) ?_ ?_
           rotate_left
           ·intro w'
            go_simp
            with_reducible rfl
           rotate_left
           ·simp only [Act.put, List.setIfInBounds_toArray, List.set_cons_zero, List.set_cons_succ, i64_w, i32_w]
            rfl
           refine pure_ (i := 2) (N := some 46) (v := ?_) (a' := ?_) #[true, true, true, false, false, false, false, false, false, false, false, false, false, false, false] rfl rfl (any_of HT_.out (by kernel_rfl)) (fun _ _ _ h => h) (Or.inl ⟨by rfl, ?_⟩) ?_ ?_
           rotate_left
           ·intro w'
            go_simp
            with_reducible rfl
           rotate_left
           ·simp only [Act.put, List.setIfInBounds_toArray, List.set_cons_zero, List.set_cons_succ, i64_w, i32_w]
            rfl
           refine pure_ (i := 3) (N := some 47) (v := ?_) (a' := ?_) #[true, true, true, true, false, false, false, false, false, false, false, false, false, false, false] rfl rfl (any_of HT_.out (by kernel_rfl)) (fun _ _ _ h => h) (Or.inl ⟨by rfl, ?_⟩) ?_ ?_
           rotate_left
           ·intro w'
            go_simp
            with_reducible rfl
           rotate_left
           ·simp only [Act.put, List.setIfInBounds_toArray, List.set_cons_zero, List.set_cons_succ, i64_w, i32_w]
            rfl
           refine pure_ (i := 4) (N := some 48) (v := ?_) (a' := ?_) #[true, true, true, true, true, false, false, false, false, false, false, false, false, false, false] rfl rfl (any_of HT_.out (by kernel_rfl)) (fun _ _ _ h => h) (Or.inl ⟨by rfl, ?_⟩) ?_ ?_
           rotate_left
           ·intro w'
            go_simp
            with_reducible rfl
           rotate_left
           ·simp only [Act.put, List.setIfInBounds_toArray, List.set_cons_zero, List.set_cons_succ, i64_w, i32_w]
            rfl
           refine pure_ (i := 5) (N := some 49) (v := ?_) (a' := ?_) #[true, true, true, true, true, true, false, false, false, false, false, false, false, false, false] rfl rfl (any_of HT_.out (by kernel_rfl)) (fun _ _ _ h => h) (Or.inl ⟨by rfl, ?_⟩) ?_ ?_
           rotate_left
           ·intro w'
            go_simp
            with_reducible rfl
           rotate_left
           ·simp only [Act.put, List.setIfInBounds_toArray, List.set_cons_zero, List.set_cons_succ, i64_w, i32_w]
            rfl
           refine pure_ (i := 6) (N := some 50) (v := ?_) (a' := ?_) #[true, true, true, true, true, true, true, false, false, false, false, false, false, false, false] rfl rfl (any_of HT_.out (by kernel_rfl)) (fun _ _ _ h => h) (Or.inl ⟨by rfl, ?_⟩) ?_ ?_
           rotate_left
           ·intro w'
            go_simp
            with_reducible rfl
           rotate_left
           ·simp only [Act.put, List.setIfInBounds_toArray, List.set_cons_zero, List.set_cons_succ, i64_w, i32_w]
            rfl
           refine pure_ (i := 7) (N := some 51) (v := ?_) (a' := ?_) #[true, true, true, true, true, true, true, true, false, false, false, false, false, false, false] rfl rfl (any_of HT_.out (by kernel_rfl)) (fun _ _ _ h => h) (Or.inl ⟨by rfl, ?_⟩) ?_ ?_
           rotate_left
           ·intro w'
            go_simp
            with_reducible rfl
           rotate_left
           ·simp only [Act.put, List.setIfInBounds_toArray, List.set_cons_zero, List.set_cons_succ, i64_w, i32_w]
            rfl
           refine one_ (i := 8) (N := some 52) #[true, true, true, true, true, true, true, true, true, false, false, false, false, false, false] rfl rfl (one_of HT_.out (by kernel_rfl)) (by decide) (fun K hK => ?_)
           refine goes_ Tryz.func34 (by kernel_rfl) rfl #[.slice A0 l0.length c0, .int .i64 (wrap64 (t195 + (wrap64 (24 * x10_2)))), .int .i64 4] (by rfl) rfl rfl gX ?_
           with_reducible refine (anvilref02_value.calls k2 _ _ l0 (wrap64 (t195 + (wrap64 (24 * x10_2)))) 4 t203 _ ?side1 ?side2 A22.out).mono ?_
           (case side1 => exact cX HR0.out HB.out)
           (case side2 => exact HC0.out)
           rintro e w' ⟨rfl, ⟨nd, rfl⟩⟩
           refine ⟨_, rfl, ?_⟩
           refine hK.out _ _ trivial (fun hHeld => ?_)
           clear hK K
           refine norm_ (a' := ?_) ?_ ?_
           rotate_left
           ·show Act.put _ (some 52) _ = _
            simp only [Act.put, List.setIfInBounds_toArray, List.set_cons_zero, List.set_cons_succ, i64_w, i32_w]
            rfl
           refine one_ (i := 9) (N := some 53) #[true, true, true, true, true, true, true, true, true, true, false, false, false, false, false] rfl rfl (one_of HT_.out (by kernel_rfl)) (by decide) (fun K hK => ?_)
           refine goes_ Tryz.func67 (by kernel_rfl) rfl #[.slice A62 ((l0.take ((wrap64 (t197 + t198)) : Int).toNat).drop (t197 : Int).toNat).length (c0 - t197.toNat), .int .u64 t203] (by rfl) rfl rfl (by (try simp only [List.map_toArray, List.map_cons, List.map_nil]); first | done | (rw [show ((l0.take ((wrap64 (t197 + t198)) : Int).toNat).drop (t197 : Int).toNat).length = ((wrap64 (t197 + t198)).toNat - t197.toNat) from (by rw [List.length_drop, List.length_take]; have h_ : ((wrap64 (t197 + t198)) : Int) ≤ (l0.length : Int) := of_decide_eq_true aX; omega)] <;> rfl) | rfl | (simp only [List.length_drop, List.length_take]; rfl)) ?_
           with_reducible refine (anvilref02_text.calls k2 _ _ ((l0.take ((wrap64 (t197 + t198)) : Int).toNat).drop (t197 : Int).toNat) t203 t204 false _ ?side1 ?side2 A23.out).mono ?_
           (case side1 => exact cX HR202.out HB.out)
           (case side2 => exact HC202.out)
           rintro e w' ⟨rfl, ⟨nd, rfl⟩⟩
           refine ⟨_, rfl, ?_⟩
           refine hK.out _ _ trivial (fun hHeld => ?_)
           clear hK K
           refine norm_ (a' := ?_) ?_ ?_
           rotate_left
           ·show Act.put _ (some 53) _ = _
            simp only [Act.put, List.setIfInBounds_toArray, List.set_cons_zero, List.set_cons_succ, i64_w, i32_w]
            rfl
           refine pure_ (i := 10) (N := some 43) (v := ?_) (a' := ?_) #[true, true, true, true, true, true, true, true, true, true, true, false, false, false, false] rfl rfl (any_of HT_.out (by kernel_rfl)) (fun _ _ _ h => h) (Or.inl ⟨by rfl, ?_⟩) ?_ ?_
           rotate_left
           ·intro w'
            go_simp
            with_reducible rfl
           rotate_left
           ·simp only [Act.put, List.setIfInBounds_toArray, List.set_cons_zero, List.set_cons_succ, i64_w, i32_w]
            rfl
           refine pure_ (i := 11) (N := some 54) (v := ?_) (a' := ?_) #[true, true, true, true, true, true, true, true, true, true, true, true, false, false, false] rfl rfl (any_of HT_.out (by kernel_rfl)) (fun _ _ _ h => h) (Or.inl ⟨by rfl, ?_⟩) ?_ ?_
           rotate_left
           ·intro w'
            go_simp
            with_reducible rfl
           rotate_left
           ·simp only [Act.put, List.setIfInBounds_toArray, List.set_cons_zero, List.set_cons_succ, i64_w, i32_w]
            rfl
           refine pure_ (i := 12) (N := some 55) (v := ?_) (a' := ?_) #[true, true, true, true, true, true, true, true, true, true, true, true, true, false, false] rfl rfl (any_of HT_.out (by kernel_rfl)) (fun _ _ _ h => h) (Or.inl ⟨by rfl, ?_⟩) ?_ ?_
           rotate_left
           ·intro w'
            go_simp
            with_reducible rfl
           rotate_left
           ·simp only [Act.put, List.setIfInBounds_toArray, List.set_cons_zero, List.set_cons_succ, i64_w, i32_w]
            rfl
           refine pure_ (i := 13) (N := some 12) (v := ?_) (a' := ?_) #[true, true, true, true, true, true, true, true, true, true, true, true, true, true, false] rfl rfl (any_of HT_.out (by kernel_rfl)) (fun _ _ _ h => h) (Or.inl ⟨by rfl, ?_⟩) ?_ ?_
           rotate_left
           ·intro w'
            go_simp
            with_reducible rfl
           rotate_left
           ·simp only [Act.put, List.setIfInBounds_toArray, List.set_cons_zero, List.set_cons_succ, i64_w, i32_w]
            rfl
           refine pure_ (i := 14) (N := some 13) (v := ?_) (a' := ?_) #[true, true, true, true, true, true, true, true, true, true, true, true, true, true, true] rfl rfl (any_of HT_.out (by kernel_rfl)) (fun _ _ _ h => h) (Or.inl ⟨by rfl, ?_⟩) ?_ ?_
           rotate_left
           ·intro w'
            go_simp
            with_reducible rfl
           rotate_left
           ·simp only [Act.put, List.setIfInBounds_toArray, List.set_cons_zero, List.set_cons_succ, i64_w, i32_w]
            rfl
           refine done_ (done_of HT_.out (by kernel_rfl)) ?_
           have hnb63 := NB194_201.out
           have hnc63 := NB201_194.out
           have hcz64_0 : w61.cell? ⟨gb194, 0, none⟩ = some (.int .i64 x195000_2) := (kCe BK194.out 0).trans rfl
           have hcz64_1 : w61.cell? ⟨gb194, 1, none⟩ = some (.int .i64 x195001_2) := (kCe BK194.out 1).trans rfl
           have hfz64_0 := kFr BK194.out 0
           have hfz64_1 := kFr BK194.out 1
           try go_wp2
           refine bodyPost_ret (results_tc rfl _ _ gb194 66 #[.int .i64 (wrap64 (t195 + (wrap64 (24 * x10_2)))), .int .i64 25] (0, 0) _ rfl (by (with_reducible repeat (first | refine kDn ?_ _ | refine kDr ?_ | refine kAl ?_ _)); refine kPu (cs := #[.int .i64 (wrap64 (t195 + (wrap64 (24 * x10_2)))), .int .i64 x195001_2]) ?_ 1 _ rfl; (with_reducible repeat (first | refine kDn ?_ _ | refine kDr ?_ | refine kAl ?_ _)); refine kPu (cs := #[.int .i64 x195000_2, .int .i64 x195001_2]) ?_ 0 _ rfl; (with_reducible repeat (first | refine kDn ?_ _ | refine kDr ?_ | refine kAl ?_ _)); exact BK194.out) Tryz.underlying66 rfl (by kernel_rfl)) rfl ?_
           exact ⟨_, rX, by first | exact Kd.R_nil _ _ _ _ _ | exact Kd.N_nil _ _ _ _ _ | exact Kd.V_nil _ _ _ _ _ | exact Kd.Q_nil _ _ _ _ _ | exact Kd.S_nil _ _ _ _ _, bX HB.out⟩
         ·rw [if_neg c21] at H
          exact absurd H (by simp)
        ·rw [if_neg c20] at H
         exact absurd H (by simp)
       ·rw [if_neg c19] at H
        exact absurd H (by simp)
      ·rw [if_neg c18] at H
       have c18b0 : decide (x10_2 < (wrap64 (Int.tdiv t196 24))) = false := decide_eq_false c18
       clear c18
       simp only [Option.some.injEq, Prod.mk.injEq] at H
       obtain ⟨rfl, rfl, rfl⟩ := H
       have hnb65 := NB194_201.out
       have hnc65 := NB201_194.out
       have hcz66_0 : wr.cell? ⟨gb194, 0, none⟩ = some (.int .i64 x195000_2) := (kCe BK194.out 0).trans rfl
       have hcz66_1 : wr.cell? ⟨gb194, 1, none⟩ = some (.int .i64 x195001_2) := (kCe BK194.out 1).trans rfl
       have hfz66_0 := kFr BK194.out 0
       have hfz66_1 := kFr BK194.out 1
       go_wp2
       refine bodyPost_ret (results_tc rfl _ _ gb194 66 #[.int .i64 0, .int .i64 0] (0, 0) _ rfl (by (with_reducible repeat (first | refine kDn ?_ _ | refine kDr ?_ | refine kAl ?_ _)); refine kPu (cs := #[.int .i64 0, .int .i64 x195001_2]) ?_ 1 _ rfl; (with_reducible repeat (first | refine kDn ?_ _ | refine kDr ?_ | refine kAl ?_ _)); refine kPu (cs := #[.int .i64 x195000_2, .int .i64 x195001_2]) ?_ 0 _ rfl; (with_reducible repeat (first | refine kDn ?_ _ | refine kDr ?_ | refine kAl ?_ _)); exact BK194.out) Tryz.underlying66 rfl (by kernel_rfl)) rfl ?_
       exact ⟨_, rX, by (with_reducible repeat (first | apply Kd.R_alloc | apply Kd.R_drewN | apply Kd.R_drew)); exact Kd.R_mono (Kd.R_far (p := ⟨gb194, 1, none⟩) (Kd.R_far (p := ⟨gb194, 0, none⟩) (Kd.R_types HO_9.out BK194.out (by decide)) (fun _ hk => hk.2) (.int .i64 0)) (fun _ hk => hk.2) (.int .i64 0)) (fun _ hk => trivial), bX HB.out⟩
end Go.Proofs.YtbnlifldnjgpmaaGreatDoor.PWri
