-- BY PROGRAM of this session (the kit's printer, turned by wip/tools/patch_print.py). Lean checks it.
import Derived.Test.YtbnlifldnjgpmaaDoorGr1
import Derived.Test.YtbnlifldnjgpmaaDoorWrix6
import Derived.Test.YtbnlifldnjgpmaaDoorWrix7
import Derived.Test.YtbnlifldnjgpmaaDoorWrix8
import Derived.Test.YtbnlifldnjgpmaaDoorWrix9
namespace Go.Proofs.YtbnlifldnjgpmaaDoor.PWri
open Go.RowKit Go.Proofs.YtbnlifldnjgpmaaDoorW.PrintWords Go.Proofs.YtbnlifldnjgpmaaDoorW.PrintLast Go.Proofs.YtbnlifldnjgpmaaDoorW.PrintMore
attribute [local go_sem] max2_int min2_int max_two min_two max_three min_three max_four min_four   -- for this text's walks alone
set_option linter.unusedVariables false
set_option linter.unusedSimpArgs false

/-! ### anvilref02_Write: function 10 -/
mutual
def anvilref02_Write.j0 : Nat → List Int → Int → Int → Int → Int → List (S41) → List (S44) → Option (List Int × Int)
  | 0, _, _, _, _, _, _, _ => none
  | k + 1, x5, x6, x7, x8, x281000, x281001, x281002 => (anvilref02_num.f k x5 2 2).bind fun t286 => ((anvilref02_num.f k t286 243 2).bind fun t289 => ((anvilref02_num.f k t289 1 4).bind fun t292 => ((anvilref02_num.f k t292 x281000 8).bind fun t295 => ((anvilref02_num.f k t295 64 8).bind fun t298 => ((anvilref02_num.f k t298 (IntKind.u64.wrap (x6)) 8).bind fun t301 => ((anvilref02_num.f k t301 1 4).bind fun t304 => ((anvilref02_num.f k t304 64 2).bind fun t307 => ((anvilref02_num.f k t307 56 2).bind fun t310 => ((anvilref02_num.f k t310 (IntKind.u64.wrap ((x281001.length : Int))) 2).bind fun t313 => ((anvilref02_num.f k t313 64 2).bind fun t316 => ((anvilref02_num.f k t316 x7 2).bind fun t319 => ((anvilref02_num.f k t319 x8 2).bind fun t322 => (anvilref02_Write.l0 k t322 (wrap64 (64 + (wrap64 (56 * (x281001.length : Int))))) 0 x281000 x281001 x281002)))))))))))))
def anvilref02_Write.l0 : Nat → List Int → Int → Int → Int → List (S41) → List (S44) → Option (List Int × Int)
  | 0, _, _, _, _, _, _ => none
  | k + 1, x5, x9, x10, x281000, x281001, x281002 => if x10 < (x281001.length : Int) then (if 0 ≤ x10 then (if (((rd_T41 x281001 x10).f3).length : Int) > 0 then ((anvilref02_up.f k x9).bind fun t327 => (anvilref02_Write.j2 k x5 (wrap64 (t327 + (((rd_T41 x281001 x10).f3).length : Int))) x10 t327 x281000 x281001 x281002 ((rd_T41 x281001 x10).f0) ((rd_T41 x281001 x10).f1) ((rd_T41 x281001 x10).f2) ((rd_T41 x281001 x10).f3))) else (anvilref02_Write.j2 k x5 x9 x10 0 x281000 x281001 x281002 ((rd_T41 x281001 x10).f0) ((rd_T41 x281001 x10).f1) ((rd_T41 x281001 x10).f2) ((rd_T41 x281001 x10).f3))) else (none)) else (anvilref02_Write.l1 k x5 0 x281000 x281001 x281002)
def anvilref02_Write.j2 : Nat → List Int → Int → Int → Int → Int → List (S41) → List (S44) → Int → Int → Int → List Int → Option (List Int × Int)
  | 0, _, _, _, _, _, _, _, _, _, _, _ => none
  | k + 1, x5, x9, x10, x12, x281000, x281001, x281002, x327000, x327001, x327002, x327003 => (anvilref02_num.f k x5 1 4).bind fun t328 => ((anvilref02_num.f k t328 (IntKind.u64.wrap (wrap64 ((wrap64 ((Int.tmod (wrap64 (Int.tdiv x327002 4)) 2) + (wrap64 ((Int.tmod (wrap64 (Int.tdiv x327002 2)) 2) * 2)))) + (wrap64 ((Int.tmod x327002 2) * 4))))) 4).bind fun t331 => ((anvilref02_num.f k t331 (IntKind.u64.wrap (x12)) 8).bind fun t334 => ((anvilref02_num.f k t334 x327000 8).bind fun t337 => ((anvilref02_num.f k t337 x327000 8).bind fun t340 => ((anvilref02_num.f k t340 (IntKind.u64.wrap ((x327003.length : Int))) 8).bind fun t343 => ((anvilref02_num.f k t343 x327001 8).bind fun t346 => ((anvilref02_num.f k t346 1 8).bind fun t349 => (anvilref02_Write.l0 k t349 x9 (wrap64 (x10 + 1)) x281000 x281001 x281002))))))))
def anvilref02_Write.l1 : Nat → List Int → Int → Int → List (S41) → List (S44) → Option (List Int × Int)
  | 0, _, _, _, _, _ => none
  | k + 1, x5, x14, x281000, x281001, x281002 => if x14 < (x281001.length : Int) then (if 0 ≤ x14 then (if (((rd_T41 x281001 x14).f3).length : Int) > 0 then ((anvilref02_pad.f k x5).bind fun t353 => (if t353.length + ((rd_T41 x281001 x14).f3).length < 140737488355328 then (anvilref02_Write.l1 k (t353 ++ ((rd_T41 x281001 x14).f3)) (wrap64 (x14 + 1)) x281000 x281001 x281002) else (none))) else (anvilref02_Write.l1 k x5 (wrap64 (x14 + 1)) x281000 x281001 x281002)) else (none)) else (if (x281002.length : Int) = 0 then (some (x5, 0)) else ((anvilref02_symbols.f k x5 x281002).bind fun t360 => (some (t360, 0))))
end
def anvilref02_Write.f (k : Nat) (a0_0 : Int) (l0_1 : List (S41)) (l0_2 : List (S44)) : Option (List Int × Int) := (anvilref02_Check.f k a0_0 l0_1 l0_2).bind fun t281 => (if t281 = 0 then ((some (([127, 69, 76, 70, 2, 1, 1, 0, 0, 0, 0, 0, 0, 0, 0, 0] : List Int) : List Int)).bind fun y282 => (if (l0_2.length : Int) > 0 then ((anvilref02_size.f k a0_0 l0_1 l0_2).bind fun t285 => (anvilref02_Write.j0 k y282 (wrap64 (t285 - 256)) 4 3 a0_0 l0_1 l0_2)) else (anvilref02_Write.j0 k y282 0 0 0 a0_0 l0_1 l0_2))) else (some (([] : List Int), t281)))
theorem anvilref02_Write.mono_l : ∀ k, (∀ y0 y1 y2 y3 y4 y5 y6, LeO (anvilref02_Write.j0 k y0 y1 y2 y3 y4 y5 y6) (anvilref02_Write.j0 (k + 1) y0 y1 y2 y3 y4 y5 y6)) ∧ (∀ y0 y1 y2 y3 y4 y5, LeO (anvilref02_Write.l0 k y0 y1 y2 y3 y4 y5) (anvilref02_Write.l0 (k + 1) y0 y1 y2 y3 y4 y5)) ∧ (∀ y0 y1 y2 y3 y4 y5 y6 y7 y8 y9 y10, LeO (anvilref02_Write.j2 k y0 y1 y2 y3 y4 y5 y6 y7 y8 y9 y10) (anvilref02_Write.j2 (k + 1) y0 y1 y2 y3 y4 y5 y6 y7 y8 y9 y10)) ∧ (∀ y0 y1 y2 y3 y4, LeO (anvilref02_Write.l1 k y0 y1 y2 y3 y4) (anvilref02_Write.l1 (k + 1) y0 y1 y2 y3 y4))
  | 0 => ⟨fun _ _ _ _ _ _ _ r h => by simp [anvilref02_Write.j0] at h, fun _ _ _ _ _ _ r h => by simp [anvilref02_Write.l0] at h, fun _ _ _ _ _ _ _ _ _ _ _ r h => by simp [anvilref02_Write.j2] at h, fun _ _ _ _ _ r h => by simp [anvilref02_Write.l1] at h⟩
  | k + 1 => by
    obtain ⟨ih0, ih1, ih2, ih3⟩ := anvilref02_Write.mono_l k
    refine ⟨?_, ?_, ?_, ?_⟩
    · intro y0 y1 y2 y3 y4 y5 y6
      unfold anvilref02_Write.j0
      repeat' first
      | (with_reducible exact ih0 _ _ _ _ _ _ _)
      | (with_reducible exact ih1 _ _ _ _ _ _)
      | (with_reducible exact ih2 _ _ _ _ _ _ _ _ _ _ _)
      | (with_reducible exact ih3 _ _ _ _ _)
      | (with_reducible exact anvilref02_Check.mono _ _ _ _)
      | (with_reducible exact anvilref02_num.mono _ _ _ _)
      | (with_reducible exact anvilref02_pad.mono _ _)
      | (with_reducible exact anvilref02_size.mono _ _ _ _)
      | (with_reducible exact anvilref02_symbols.mono _ _ _)
      | (with_reducible exact anvilref02_up.mono _ _)
      | (with_reducible exact LeO.refl _)
      | (with_reducible exact LeO.none _)
      | (with_reducible refine LeO.ite ?_ ?_)
      | (with_reducible refine LeO.bind ?_ (fun _ => ?_))
      | exact ih0 _ _ _ _ _ _ _
      | exact ih1 _ _ _ _ _ _
      | exact ih2 _ _ _ _ _ _ _ _ _ _ _
      | exact ih3 _ _ _ _ _
      | exact anvilref02_Check.mono _ _ _ _
      | exact anvilref02_num.mono _ _ _ _
      | exact anvilref02_pad.mono _ _
      | exact anvilref02_size.mono _ _ _ _
      | exact anvilref02_symbols.mono _ _ _
      | exact anvilref02_up.mono _ _
      | exact LeO.none _
      | refine LeO.ite ?_ ?_
      | refine LeO.bind ?_ (fun _ => ?_)
    · intro y0 y1 y2 y3 y4 y5
      unfold anvilref02_Write.l0
      repeat' first
      | (with_reducible exact ih0 _ _ _ _ _ _ _)
      | (with_reducible exact ih1 _ _ _ _ _ _)
      | (with_reducible exact ih2 _ _ _ _ _ _ _ _ _ _ _)
      | (with_reducible exact ih3 _ _ _ _ _)
      | (with_reducible exact anvilref02_Check.mono _ _ _ _)
      | (with_reducible exact anvilref02_num.mono _ _ _ _)
      | (with_reducible exact anvilref02_pad.mono _ _)
      | (with_reducible exact anvilref02_size.mono _ _ _ _)
      | (with_reducible exact anvilref02_symbols.mono _ _ _)
      | (with_reducible exact anvilref02_up.mono _ _)
      | (with_reducible exact LeO.refl _)
      | (with_reducible exact LeO.none _)
      | (with_reducible refine LeO.ite ?_ ?_)
      | (with_reducible refine LeO.bind ?_ (fun _ => ?_))
      | exact ih0 _ _ _ _ _ _ _
      | exact ih1 _ _ _ _ _ _
      | exact ih2 _ _ _ _ _ _ _ _ _ _ _
      | exact ih3 _ _ _ _ _
      | exact anvilref02_Check.mono _ _ _ _
      | exact anvilref02_num.mono _ _ _ _
      | exact anvilref02_pad.mono _ _
      | exact anvilref02_size.mono _ _ _ _
      | exact anvilref02_symbols.mono _ _ _
      | exact anvilref02_up.mono _ _
      | exact LeO.none _
      | refine LeO.ite ?_ ?_
      | refine LeO.bind ?_ (fun _ => ?_)
    · intro y0 y1 y2 y3 y4 y5 y6 y7 y8 y9 y10
      unfold anvilref02_Write.j2
      repeat' first
      | (with_reducible exact ih0 _ _ _ _ _ _ _)
      | (with_reducible exact ih1 _ _ _ _ _ _)
      | (with_reducible exact ih2 _ _ _ _ _ _ _ _ _ _ _)
      | (with_reducible exact ih3 _ _ _ _ _)
      | (with_reducible exact anvilref02_Check.mono _ _ _ _)
      | (with_reducible exact anvilref02_num.mono _ _ _ _)
      | (with_reducible exact anvilref02_pad.mono _ _)
      | (with_reducible exact anvilref02_size.mono _ _ _ _)
      | (with_reducible exact anvilref02_symbols.mono _ _ _)
      | (with_reducible exact anvilref02_up.mono _ _)
      | (with_reducible exact LeO.refl _)
      | (with_reducible exact LeO.none _)
      | (with_reducible refine LeO.ite ?_ ?_)
      | (with_reducible refine LeO.bind ?_ (fun _ => ?_))
      | exact ih0 _ _ _ _ _ _ _
      | exact ih1 _ _ _ _ _ _
      | exact ih2 _ _ _ _ _ _ _ _ _ _ _
      | exact ih3 _ _ _ _ _
      | exact anvilref02_Check.mono _ _ _ _
      | exact anvilref02_num.mono _ _ _ _
      | exact anvilref02_pad.mono _ _
      | exact anvilref02_size.mono _ _ _ _
      | exact anvilref02_symbols.mono _ _ _
      | exact anvilref02_up.mono _ _
      | exact LeO.none _
      | refine LeO.ite ?_ ?_
      | refine LeO.bind ?_ (fun _ => ?_)
    · intro y0 y1 y2 y3 y4
      unfold anvilref02_Write.l1
      repeat' first
      | (with_reducible exact ih0 _ _ _ _ _ _ _)
      | (with_reducible exact ih1 _ _ _ _ _ _)
      | (with_reducible exact ih2 _ _ _ _ _ _ _ _ _ _ _)
      | (with_reducible exact ih3 _ _ _ _ _)
      | (with_reducible exact anvilref02_Check.mono _ _ _ _)
      | (with_reducible exact anvilref02_num.mono _ _ _ _)
      | (with_reducible exact anvilref02_pad.mono _ _)
      | (with_reducible exact anvilref02_size.mono _ _ _ _)
      | (with_reducible exact anvilref02_symbols.mono _ _ _)
      | (with_reducible exact anvilref02_up.mono _ _)
      | (with_reducible exact LeO.refl _)
      | (with_reducible exact LeO.none _)
      | (with_reducible refine LeO.ite ?_ ?_)
      | (with_reducible refine LeO.bind ?_ (fun _ => ?_))
      | exact ih0 _ _ _ _ _ _ _
      | exact ih1 _ _ _ _ _ _
      | exact ih2 _ _ _ _ _ _ _ _ _ _ _
      | exact ih3 _ _ _ _ _
      | exact anvilref02_Check.mono _ _ _ _
      | exact anvilref02_num.mono _ _ _ _
      | exact anvilref02_pad.mono _ _
      | exact anvilref02_size.mono _ _ _ _
      | exact anvilref02_symbols.mono _ _ _
      | exact anvilref02_up.mono _ _
      | exact LeO.none _
      | refine LeO.ite ?_ ?_
      | refine LeO.bind ?_ (fun _ => ?_)
theorem anvilref02_Write.mono : ∀ a0 a1 a2 k, LeO (anvilref02_Write.f k a0 a1 a2) (anvilref02_Write.f (k + 1) a0 a1 a2) := by
  intro a0 a1 a2 k
  obtain ⟨ih0, ih1, ih2, ih3⟩ := anvilref02_Write.mono_l k
  unfold anvilref02_Write.f
  repeat' first
      | (with_reducible exact ih0 _ _ _ _ _ _ _)
      | (with_reducible exact ih1 _ _ _ _ _ _)
      | (with_reducible exact ih2 _ _ _ _ _ _ _ _ _ _ _)
      | (with_reducible exact ih3 _ _ _ _ _)
      | (with_reducible exact anvilref02_Check.mono _ _ _ _)
      | (with_reducible exact anvilref02_num.mono _ _ _ _)
      | (with_reducible exact anvilref02_pad.mono _ _)
      | (with_reducible exact anvilref02_size.mono _ _ _ _)
      | (with_reducible exact anvilref02_symbols.mono _ _ _)
      | (with_reducible exact anvilref02_up.mono _ _)
      | (with_reducible exact LeO.refl _)
      | (with_reducible exact LeO.none _)
      | (with_reducible refine LeO.ite ?_ ?_)
      | (with_reducible refine LeO.bind ?_ (fun _ => ?_))
      | exact ih0 _ _ _ _ _ _ _
      | exact ih1 _ _ _ _ _ _
      | exact ih2 _ _ _ _ _ _ _ _ _ _ _
      | exact ih3 _ _ _ _ _
      | exact anvilref02_Check.mono _ _ _ _
      | exact anvilref02_num.mono _ _ _ _
      | exact anvilref02_pad.mono _ _
      | exact anvilref02_size.mono _ _ _ _
      | exact anvilref02_symbols.mono _ _ _
      | exact anvilref02_up.mono _ _
      | exact LeO.none _
      | refine LeO.ite ?_ ?_
      | refine LeO.bind ?_ (fun _ => ?_)
set_option maxHeartbeats 8000000 in
set_option maxRecDepth 100000 in
theorem anvilref02_Write.calls (k : Nat) (a0_0 : Int) (A0_1 : Option Addr) (c0_1 : Nat) (l0_1 : List (S41)) (A0_2 : Option Addr) (c0_2 : Nat) (l0_2 : List (S44)) (r1 : List Int) (r2 : Int) (w : World) (hr0_1 : Kd.C k41 w A0_1 l0_1.length l0_1) (hc0_1 : l0_1.length ≤ c0_1) (hr0_2 : Kd.C k44 w A0_2 l0_2.length l0_2) (hc0_2 : l0_2.length ≤ c0_2) (hG : Glob w) (h : anvilref02_Write.f k a0_0 l0_1 l0_2 = some (r1, r2)) :
    Calls Tryd.prog 10 #[.agg #[.int .u64 a0_0, .slice A0_1 l0_1.length c0_1, .slice A0_2 l0_2.length c0_2]] w fun e w' => ∃ v0_ : Value, e = .returned (.tuple #[v0_, .int .i64 r2]) ∧ Kd.R (Kd.int .u8) 5 w' w.heap.size (fun _ => True) v0_ r1 ∧ Below w.heap.size w w' := by
  have hu26 := Tryd.underlying26
  have hu41 := Tryd.underlying41
  have HR0_1 := Aside0.mk hr0_1
  have HC0_1 := Aside0.mk hc0_1
  clear hr0_1 hc0_1
  have HR0_2 := Aside0.mk hr0_2
  have HC0_2 := Aside0.mk hc0_2
  clear hr0_2 hc0_2
  have HG := Aside0.mk hG
  clear hG
  have HB := Aside0.mk (Below.refl w.heap.size w)
  have H : ((anvilref02_Check.f k a0_0 l0_1 l0_2).bind fun t281 => (if t281 = 0 then ((some (([127, 69, 76, 70, 2, 1, 1, 0, 0, 0, 0, 0, 0, 0, 0, 0] : List Int) : List Int)).bind fun y282 => (if (l0_2.length : Int) > 0 then ((anvilref02_size.f k a0_0 l0_1 l0_2).bind fun t285 => (anvilref02_Write.j0 k y282 (wrap64 (t285 - 256)) 4 3 a0_0 l0_1 l0_2)) else (anvilref02_Write.j0 k y282 0 0 0 a0_0 l0_1 l0_2))) else (some (([] : List Int), t281)))) = some (r1, r2) := h
  clear h
  replace H := Option.bind_eq_some_iff.mp H
  obtain ⟨t281, A20, H⟩ := H
  replace H : (if t281 = 0 then ((some (([127, 69, 76, 70, 2, 1, 1, 0, 0, 0, 0, 0, 0, 0, 0, 0] : List Int) : List Int)).bind fun y282 => (if (l0_2.length : Int) > 0 then ((anvilref02_size.f k a0_0 l0_1 l0_2).bind fun t285 => (anvilref02_Write.j0 k y282 (wrap64 (t285 - 256)) 4 3 a0_0 l0_1 l0_2)) else (anvilref02_Write.j0 k y282 0 0 0 a0_0 l0_1 l0_2))) else (some (([] : List Int), t281))) = some (r1, r2) := H
  have A2 := Aside0.mk A20
  clear A20
  by_cases c3 : t281 = 0
  · rw [if_pos c3] at H
    have c3b0 : (t281 == 0) = true := beq_iff_eq.mpr c3
    have c3b1 : (t281 != 0) = false := bne_eq_false_iff_eq.mpr c3
    clear c3
    obtain ⟨y282, hy282⟩ : ∃ y_ : List Int, y_ = (([127, 69, 76, 70, 2, 1, 1, 0, 0, 0, 0, 0, 0, 0, 0, 0] : List Int)) := ⟨_, rfl⟩
    replace H : (if (l0_2.length : Int) > 0 then ((anvilref02_size.f k a0_0 l0_1 l0_2).bind fun t285 => (anvilref02_Write.j0 k y282 (wrap64 (t285 - 256)) 4 3 a0_0 l0_1 l0_2)) else (anvilref02_Write.j0 k y282 0 0 0 a0_0 l0_1 l0_2)) = some (r1, r2) := by first | (rw [hy282]; with_reducible exact H) | (have H2_ := (Option.bind_some _ _).symm.trans H; rw [hy282]; with_reducible exact H2_) | (have H2_ := (Option.bind_some _ _).symm.trans H; with_reducible exact H2_) | with_reducible exact H | (rw [hy282]; exact H) | exact H
    have Ny282 := Aside0.mk hy282
    clear hy282
    have HC4 := Aside0.mk H
    clear H
    go_enter Tryd.func10, Tryd.ntmps10
    go_upto_if 24 with (first | ((with_reducible refine gate_dst (N := 1) rfl ?_); refine box_event ?hg (N := 1) ?hd (cs := #[.int .u64 a0_0, .slice A0_1 l0_1.length c0_1, .slice A0_2 l0_2.length c0_2]) (t := 26) ?hr ?_; (case hd => rfl); (case hg => rfl); (case hr => first | (go_simp; done) | (go_simp; rfl)); intro gb280 hg w5 hbox hb; have n0_ := Aside0.mk (below_step (by repeat (first | (with_reducible first | exact HB.out | apply below_alloc | apply pw_below_drewN | apply below_drew1) | exact HB.out)) hb); have n1_ := Aside0.mk (hbox); have n2_ := Aside0.mk ((by rw [hg]; exact (below_size (by repeat (first | (with_reducible first | exact HB.out | apply below_alloc | apply pw_below_drewN | apply below_drew1) | exact HB.out))) : w.heap.size ≤ gb280)); have n3_ := Aside0.mk ((by rw [hg]; exact (below_size (by repeat (first | (with_reducible first | exact HB.out | apply below_alloc | apply pw_below_drewN | apply below_drew1) | exact HB.out))) : w.heap.size ≤ gb280)); clear HB; have HB := n0_; have BK280 := n1_; have GW280 := n2_; have GE280 := n3_; clear n0_ n1_ n2_ n3_; clear hb hbox hg; have hcz6_0 : w5.cell? ⟨gb280, 0, none⟩ = some (.int .u64 a0_0) := (blk_cell BK280.out 0).trans rfl; have hcz6_1 : w5.cell? ⟨gb280, 1, none⟩ = some (.slice A0_1 l0_1.length c0_1) := (blk_cell BK280.out 1).trans rfl; have hcz6_2 : w5.cell? ⟨gb280, 2, none⟩ = some (.slice A0_2 l0_2.length c0_2) := (blk_cell BK280.out 2).trans rfl; have hfz6_0 := blk_frozen BK280.out 0; have hfz6_1 := blk_frozen BK280.out 1; have hfz6_2 := blk_frozen BK280.out 2) | ((with_reducible refine gate_callee (f := 8) rfl ?_); refine goesL_ (some 16) rfl rfl Tryd.func8 (by kernel_rfl) rfl #[.agg #[.int .u64 a0_0, .slice A0_1 l0_1.length c0_1, .slice A0_2 l0_2.length c0_2]] rfl (by (try simp only [List.map_toArray, List.map_cons, List.map_nil]); first | done | rfl | (simp only [List.length_drop, List.length_take]; rfl)) ?_; (with_reducible refine (anvilref02_Check.calls k a0_0 _ _ l0_1 _ _ l0_2 t281 _ ?side1 ?side2 ?side3 ?side4 ?side5 A2.out).mono ?_); (case side1 => repeat (first | exact (Kd.C_below HR0_1.out HB.out) | (with_reducible refine Kd.C_alloc ?_ _) | (with_reducible refine Kd.C_drewN ?_ _) | (with_reducible refine Kd.C_drew ?_))); (case side2 => exact HC0_1.out); (case side3 => repeat (first | exact (Kd.C_below HR0_2.out HB.out) | (with_reducible refine Kd.C_alloc ?_ _) | (with_reducible refine Kd.C_drewN ?_ _) | (with_reducible refine Kd.C_drew ?_))); (case side4 => exact HC0_2.out); (case side5 => first | exact HG.out | exact Glob.step HG.out HB.out | (refine Glob.step HG.out ?_; (repeat (first | exact Below.refl _ _ | apply pw_below_drewN | apply below_drew1)); done) | exact Glob.step HG.out (by repeat (first | (with_reducible first | exact HB.out | apply below_alloc | apply pw_below_drewN | apply below_drew1 | refine below_set ?_ GE280.out) | exact HB.out))); rintro e w7 ⟨rfl, hb⟩; refine ⟨_, rfl, ?_⟩; have n0_ := Aside0.mk (blk_below (g := gb280) (o := .cells #[.int .u64 a0_0, .slice A0_1 l0_1.length c0_1, .slice A0_2 l0_2.length c0_2] 26 (0, 0)) (by (with_reducible repeat (first | refine blk_drewN ?_ _ | refine blk_drew ?_ | refine blk_alloc ?_ _)); exact BK280.out) hb); have n1_ := Aside0.mk (below_step (by repeat (first | (with_reducible first | exact HB.out | apply below_alloc | apply pw_below_drewN | apply below_drew1 | refine below_set ?_ GE280.out) | exact HB.out)) hb); clear BK280; clear HB; have BK280 := n0_; have HB := n1_; clear n0_ n1_; (try clear hb); (try clear hb2); (try clear hk); (try clear hi)) | ((with_reducible refine gate_dst (N := 20) rfl ?_); refine Kd.R_lit (Kd.int .u8) _ 5 ?hg (N := 20) ?hd (xs := ([127, 69, 76, 70, 2, 1, 1, 0, 0, 0, 0, 0, 0, 0, 0, 0] : List Int)) (inner := [.int .u8 127, .int .u8 69, .int .u8 76, .int .u8 70, .int .u8 2, .int .u8 1, .int .u8 1, .int .u8 0, .int .u8 0, .int .u8 0, .int .u8 0, .int .u8 0, .int .u8 0, .int .u8 0, .int .u8 0, .int .u8 0]) (ok := fun _ => True) (okp := fun _ => True) ?hr ?hp (fun _ hk => hk) trivial (Below.refl _ _) (Nat.le_refl _) (by simp) ?_; (case hd => rfl); (case hg => rfl); (case hr => first | (go_simp; done) | (go_simp; rfl)); (case hp => exact (Reps.one (show Kd.M (Kd.int .u8) _ _ _ 127 [.int .u8 127] from rfl) (Reps.one (show Kd.M (Kd.int .u8) _ _ _ 69 [.int .u8 69] from rfl) (Reps.one (show Kd.M (Kd.int .u8) _ _ _ 76 [.int .u8 76] from rfl) (Reps.one (show Kd.M (Kd.int .u8) _ _ _ 70 [.int .u8 70] from rfl) (Reps.one (show Kd.M (Kd.int .u8) _ _ _ 2 [.int .u8 2] from rfl) (Reps.one (show Kd.M (Kd.int .u8) _ _ _ 1 [.int .u8 1] from rfl) (Reps.one (show Kd.M (Kd.int .u8) _ _ _ 1 [.int .u8 1] from rfl) (Reps.one (show Kd.M (Kd.int .u8) _ _ _ 0 [.int .u8 0] from rfl) (Reps.one (show Kd.M (Kd.int .u8) _ _ _ 0 [.int .u8 0] from rfl) (Reps.one (show Kd.M (Kd.int .u8) _ _ _ 0 [.int .u8 0] from rfl) (Reps.one (show Kd.M (Kd.int .u8) _ _ _ 0 [.int .u8 0] from rfl) (Reps.one (show Kd.M (Kd.int .u8) _ _ _ 0 [.int .u8 0] from rfl) (Reps.one (show Kd.M (Kd.int .u8) _ _ _ 0 [.int .u8 0] from rfl) (Reps.one (show Kd.M (Kd.int .u8) _ _ _ 0 [.int .u8 0] from rfl) (Reps.one (show Kd.M (Kd.int .u8) _ _ _ 0 [.int .u8 0] from rfl) (Reps.one (show Kd.M (Kd.int .u8) _ _ _ 0 [.int .u8 0] from rfl) (Reps.none _ _)))))))))))))))))); intro v283 w8 ho9 hb hg_ hnew_; clear hg_ hnew_; (first | rw [← Ny282.out] at ho9 | (simp only [Int.reduceToNat] at ho9; rw [← Ny282.out] at ho9)); have n0_ := Aside0.mk (Kd.R_lower ho9 (below_size (by repeat (first | (with_reducible first | exact HB.out | apply below_alloc | apply pw_below_drewN | apply below_drew1 | refine below_set ?_ GE280.out) | exact HB.out)))); have n1_ := Aside0.mk (blk_below (g := gb280) (o := .cells #[.int .u64 a0_0, .slice A0_1 l0_1.length c0_1, .slice A0_2 l0_2.length c0_2] 26 (0, 0)) (by (with_reducible repeat (first | refine blk_drewN ?_ _ | refine blk_drew ?_ | refine blk_alloc ?_ _)); exact BK280.out) hb); have n2_ := Aside0.mk (below_step (by repeat (first | (with_reducible first | exact HB.out | apply below_alloc | apply pw_below_drewN | apply below_drew1 | refine below_set ?_ GE280.out) | exact HB.out)) hb); clear BK280; clear HB; have HO284 := n0_; have BK280 := n1_; have HB := n2_; clear n0_ n1_ n2_; clear hb ho9; have hcz10_0 : w8.cell? ⟨gb280, 0, none⟩ = some (.int .u64 a0_0) := (blk_cell BK280.out 0).trans rfl; have hcz10_1 : w8.cell? ⟨gb280, 1, none⟩ = some (.slice A0_1 l0_1.length c0_1) := (blk_cell BK280.out 1).trans rfl; have hcz10_2 : w8.cell? ⟨gb280, 2, none⟩ = some (.slice A0_2 l0_2.length c0_2) := (blk_cell BK280.out 2).trans rfl; have hfz10_0 := blk_frozen BK280.out 0; have hfz10_1 := blk_frozen BK280.out 1; have hfz10_2 := blk_frozen BK280.out 2))
    (try simp only [Act.put, List.setIfInBounds_toArray, List.set_cons_zero, List.set_cons_succ])
    go_cut [6, 7, 8] (fun v6 v7 v8 wc => ∃ (kq : Nat) (x6_3 : Int) (x7_3 : Int) (x8_3 : Int), v6 = .int .i64 x6_3 ∧ v7 = .int .u64 x7_3 ∧ v8 = .int .u64 x8_3 ∧ Aside0 (anvilref02_Write.j0 kq y282 x6_3 x7_3 x8_3 a0_0 l0_1 l0_2 = some (r1, r2)) ∧ Aside0 (kq ≤ k) ∧ Aside0 (Kd.R (Kd.int .u8) 5 wc w.heap.size (fun _ => True) v283 y282) ∧ Aside0 (wc.heap[gb280]? = some (.cells #[.int .u64 a0_0, (.slice A0_1 l0_1.length c0_1), (.slice A0_2 l0_2.length c0_2)] 26 (0, 0))) ∧ Aside0 (Below w.heap.size w wc))
    case first =>
      have H := HC4.out
      clear HC4
      by_cases c11 : (l0_2.length : Int) > 0
      · rw [if_pos c11] at H
        have c11b0 : decide (0 < (l0_2.length : Int)) = true := decide_eq_true c11
        have c11b1 : decide (0 < l0_2.length) = true := decide_eq_true (by omega)
        clear c11
        (first | rw [c11b0] | (simp only [i64_w, i32_w]; rw [c11b0]) | rw [c11b1] | skip)
        replace H := Option.bind_eq_some_iff.mp H
        obtain ⟨t285, A120, H⟩ := H
        replace H : (anvilref02_Write.j0 k y282 (wrap64 (t285 - 256)) 4 3 a0_0 l0_1 l0_2) = some (r1, r2) := H
        have A12 := Aside0.mk A120
        clear A120
        have H' := Aside0.mk H
        clear H
        have hcz13_0 : w8.cell? ⟨gb280, 0, none⟩ = some (.int .u64 a0_0) := (blk_cell BK280.out 0).trans rfl
        have hcz13_1 : w8.cell? ⟨gb280, 1, none⟩ = some (.slice A0_1 l0_1.length c0_1) := (blk_cell BK280.out 1).trans rfl
        have hcz13_2 : w8.cell? ⟨gb280, 2, none⟩ = some (.slice A0_2 l0_2.length c0_2) := (blk_cell BK280.out 2).trans rfl
        have hfz13_0 := blk_frozen BK280.out 0
        have hfz13_1 := blk_frozen BK280.out 1
        have hfz13_2 := blk_frozen BK280.out 2
        go_wp2_with (first | ((with_reducible refine gate_callee (f := 20) rfl ?_); refine goesL_ (some 26) rfl rfl Tryd.func20 (by kernel_rfl) rfl #[.agg #[.int .u64 a0_0, .slice A0_1 l0_1.length c0_1, .slice A0_2 l0_2.length c0_2]] rfl (by (try simp only [List.map_toArray, List.map_cons, List.map_nil]); first | done | rfl | (simp only [List.length_drop, List.length_take]; rfl)) ?_; (with_reducible refine (anvilref02_size.calls k a0_0 _ _ l0_1 _ _ l0_2 t285 _ ?side1 ?side2 ?side3 ?side4 A12.out).mono ?_); (case side1 => repeat (first | exact (Kd.C_below HR0_1.out HB.out) | (with_reducible refine Kd.C_alloc ?_ _) | (with_reducible refine Kd.C_drewN ?_ _) | (with_reducible refine Kd.C_drew ?_))); (case side2 => exact HC0_1.out); (case side3 => repeat (first | exact (Kd.C_below HR0_2.out HB.out) | (with_reducible refine Kd.C_alloc ?_ _) | (with_reducible refine Kd.C_drewN ?_ _) | (with_reducible refine Kd.C_drew ?_))); (case side4 => exact HC0_2.out); rintro e w14 ⟨rfl, hb⟩; refine ⟨_, rfl, ?_⟩; have n0_ := Aside0.mk (Kd.R_below (by (with_reducible repeat (first | apply Kd.R_alloc | apply Kd.R_drewN | apply Kd.R_drew)); exact HO284.out) hb); have n1_ := Aside0.mk (blk_below (g := gb280) (o := .cells #[.int .u64 a0_0, .slice A0_1 l0_1.length c0_1, .slice A0_2 l0_2.length c0_2] 26 (0, 0)) (by (with_reducible repeat (first | refine blk_drewN ?_ _ | refine blk_drew ?_ | refine blk_alloc ?_ _)); exact BK280.out) hb); have n2_ := Aside0.mk (below_step (by repeat (first | (with_reducible first | exact HB.out | apply below_alloc | apply pw_below_drewN | apply below_drew1 | refine below_set ?_ GE280.out) | exact HB.out)) hb); clear HO284; clear BK280; clear HB; have HO284 := n0_; have BK280 := n1_; have HB := n2_; clear n0_ n1_ n2_; (try clear hb); (try clear hb2); (try clear hk); (try clear hi)))
        go_meet
        case rel => exact ⟨_, (wrap64 (t285 - 256)), (4), (3), (by first | rfl | (simp; done) | (simp only [i64_w, i32_w]; done) | (simp [i64_w, i32_w]; done) | (simp [*]; done)), (by first | rfl | (simp; done) | (simp only [i64_w, i32_w]; done) | (simp [i64_w, i32_w]; done) | (simp [*]; done)), (by first | rfl | (simp; done) | (simp only [i64_w, i32_w]; done) | (simp [i64_w, i32_w]; done) | (simp [*]; done)), H', ⟨by first | omega | exact Nat.le_refl _⟩, ⟨by (with_reducible repeat (first | apply Kd.R_alloc | apply Kd.R_drewN | apply Kd.R_drew)); exact HO284.out⟩, ⟨by (with_reducible repeat (first | refine blk_drewN ?_ _ | refine blk_drew ?_ | refine blk_alloc ?_ _)); exact BK280.out⟩, ⟨by repeat (first | (with_reducible first | exact HB.out | apply below_alloc | apply pw_below_drewN | apply below_drew1 | refine below_set ?_ GE280.out) | exact HB.out)⟩⟩
      · rw [if_neg c11] at H
        have c11b0 : decide (0 < (l0_2.length : Int)) = false := decide_eq_false c11
        have c11b1 : decide (0 < l0_2.length) = false := decide_eq_false (by omega)
        clear c11
        (first | rw [c11b0] | (simp only [i64_w, i32_w]; rw [c11b0]) | rw [c11b1] | skip)
        have H' := Aside0.mk H
        clear H
        go_wp2
        go_meet
        case rel => exact ⟨_, (0), (0), (0), (by first | rfl | (simp; done) | (simp only [i64_w, i32_w]; done) | (simp [i64_w, i32_w]; done) | (simp [*]; done)), (by first | rfl | (simp; done) | (simp only [i64_w, i32_w]; done) | (simp [i64_w, i32_w]; done) | (simp [*]; done)), (by first | rfl | (simp; done) | (simp only [i64_w, i32_w]; done) | (simp [i64_w, i32_w]; done) | (simp [*]; done)), H', ⟨by first | omega | exact Nat.le_refl _⟩, ⟨by (with_reducible repeat (first | apply Kd.R_alloc | apply Kd.R_drewN | apply Kd.R_drew)); exact HO284.out⟩, ⟨by (with_reducible repeat (first | refine blk_drewN ?_ _ | refine blk_drew ?_ | refine blk_alloc ?_ _)); exact BK280.out⟩, ⟨by repeat (first | (with_reducible first | exact HB.out | apply below_alloc | apply pw_below_drewN | apply below_drew1 | refine below_set ?_ GE280.out) | exact HB.out)⟩⟩
    case rest =>
      clear HC4
      try clear c1
      try clear c2
      try clear p2
      try clear c3
      try clear c3b0
      try clear c3b1
      try clear p6
      try clear c8
      try clear c10
      try clear c11
      try clear c11b0
      try clear c11b1
      try clear hcz10_0
      try clear hcz10_1
      try clear hcz10_2
      try clear hcz13_0
      try clear hcz13_1
      try clear hcz13_2
      try clear hcz6_0
      try clear hcz6_1
      try clear hcz6_2
      try clear hfz10_0
      try clear hfz10_1
      try clear hfz10_2
      try clear hfz13_0
      try clear hfz13_1
      try clear hfz13_2
      try clear hfz6_0
      try clear hfz6_1
      try clear hfz6_2
      obtain ⟨kq, x6_3, x7_3, x8_3, rfl, rfl, rfl, HA, HJ3, HO_5, BK280, HB⟩ := hcut
      cases kq with
      | zero => exact absurd HA.out (by simp [anvilref02_Write.j0])
      | succ kj3 =>
        have H := HA.out
        clear HA
        simp only [anvilref02_Write.j0] at H
        replace H := Option.bind_eq_some_iff.mp H
        obtain ⟨t286, A150, H⟩ := H
        replace H : ((anvilref02_num.f kj3 t286 243 2).bind fun t289 => ((anvilref02_num.f kj3 t289 1 4).bind fun t292 => ((anvilref02_num.f kj3 t292 a0_0 8).bind fun t295 => ((anvilref02_num.f kj3 t295 64 8).bind fun t298 => ((anvilref02_num.f kj3 t298 (IntKind.u64.wrap (x6_3)) 8).bind fun t301 => ((anvilref02_num.f kj3 t301 1 4).bind fun t304 => ((anvilref02_num.f kj3 t304 64 2).bind fun t307 => ((anvilref02_num.f kj3 t307 56 2).bind fun t310 => ((anvilref02_num.f kj3 t310 (IntKind.u64.wrap ((l0_1.length : Int))) 2).bind fun t313 => ((anvilref02_num.f kj3 t313 64 2).bind fun t316 => ((anvilref02_num.f kj3 t316 x7_3 2).bind fun t319 => ((anvilref02_num.f kj3 t319 x8_3 2).bind fun t322 => (anvilref02_Write.l0 kj3 t322 (wrap64 (64 + (wrap64 (56 * (l0_1.length : Int))))) 0 a0_0 l0_1 l0_2))))))))))))) = some (r1, r2) := H
        have A15 := Aside0.mk A150
        clear A150
        replace H := Option.bind_eq_some_iff.mp H
        obtain ⟨t289, A160, H⟩ := H
        replace H : ((anvilref02_num.f kj3 t289 1 4).bind fun t292 => ((anvilref02_num.f kj3 t292 a0_0 8).bind fun t295 => ((anvilref02_num.f kj3 t295 64 8).bind fun t298 => ((anvilref02_num.f kj3 t298 (IntKind.u64.wrap (x6_3)) 8).bind fun t301 => ((anvilref02_num.f kj3 t301 1 4).bind fun t304 => ((anvilref02_num.f kj3 t304 64 2).bind fun t307 => ((anvilref02_num.f kj3 t307 56 2).bind fun t310 => ((anvilref02_num.f kj3 t310 (IntKind.u64.wrap ((l0_1.length : Int))) 2).bind fun t313 => ((anvilref02_num.f kj3 t313 64 2).bind fun t316 => ((anvilref02_num.f kj3 t316 x7_3 2).bind fun t319 => ((anvilref02_num.f kj3 t319 x8_3 2).bind fun t322 => (anvilref02_Write.l0 kj3 t322 (wrap64 (64 + (wrap64 (56 * (l0_1.length : Int))))) 0 a0_0 l0_1 l0_2)))))))))))) = some (r1, r2) := H
        have A16 := Aside0.mk A160
        clear A160
        replace H := Option.bind_eq_some_iff.mp H
        obtain ⟨t292, A170, H⟩ := H
        replace H : ((anvilref02_num.f kj3 t292 a0_0 8).bind fun t295 => ((anvilref02_num.f kj3 t295 64 8).bind fun t298 => ((anvilref02_num.f kj3 t298 (IntKind.u64.wrap (x6_3)) 8).bind fun t301 => ((anvilref02_num.f kj3 t301 1 4).bind fun t304 => ((anvilref02_num.f kj3 t304 64 2).bind fun t307 => ((anvilref02_num.f kj3 t307 56 2).bind fun t310 => ((anvilref02_num.f kj3 t310 (IntKind.u64.wrap ((l0_1.length : Int))) 2).bind fun t313 => ((anvilref02_num.f kj3 t313 64 2).bind fun t316 => ((anvilref02_num.f kj3 t316 x7_3 2).bind fun t319 => ((anvilref02_num.f kj3 t319 x8_3 2).bind fun t322 => (anvilref02_Write.l0 kj3 t322 (wrap64 (64 + (wrap64 (56 * (l0_1.length : Int))))) 0 a0_0 l0_1 l0_2))))))))))) = some (r1, r2) := H
        have A17 := Aside0.mk A170
        clear A170
        replace H := Option.bind_eq_some_iff.mp H
        obtain ⟨t295, A180, H⟩ := H
        replace H : ((anvilref02_num.f kj3 t295 64 8).bind fun t298 => ((anvilref02_num.f kj3 t298 (IntKind.u64.wrap (x6_3)) 8).bind fun t301 => ((anvilref02_num.f kj3 t301 1 4).bind fun t304 => ((anvilref02_num.f kj3 t304 64 2).bind fun t307 => ((anvilref02_num.f kj3 t307 56 2).bind fun t310 => ((anvilref02_num.f kj3 t310 (IntKind.u64.wrap ((l0_1.length : Int))) 2).bind fun t313 => ((anvilref02_num.f kj3 t313 64 2).bind fun t316 => ((anvilref02_num.f kj3 t316 x7_3 2).bind fun t319 => ((anvilref02_num.f kj3 t319 x8_3 2).bind fun t322 => (anvilref02_Write.l0 kj3 t322 (wrap64 (64 + (wrap64 (56 * (l0_1.length : Int))))) 0 a0_0 l0_1 l0_2)))))))))) = some (r1, r2) := H
        have A18 := Aside0.mk A180
        clear A180
        replace H := Option.bind_eq_some_iff.mp H
        obtain ⟨t298, A190, H⟩ := H
        replace H : ((anvilref02_num.f kj3 t298 (IntKind.u64.wrap (x6_3)) 8).bind fun t301 => ((anvilref02_num.f kj3 t301 1 4).bind fun t304 => ((anvilref02_num.f kj3 t304 64 2).bind fun t307 => ((anvilref02_num.f kj3 t307 56 2).bind fun t310 => ((anvilref02_num.f kj3 t310 (IntKind.u64.wrap ((l0_1.length : Int))) 2).bind fun t313 => ((anvilref02_num.f kj3 t313 64 2).bind fun t316 => ((anvilref02_num.f kj3 t316 x7_3 2).bind fun t319 => ((anvilref02_num.f kj3 t319 x8_3 2).bind fun t322 => (anvilref02_Write.l0 kj3 t322 (wrap64 (64 + (wrap64 (56 * (l0_1.length : Int))))) 0 a0_0 l0_1 l0_2))))))))) = some (r1, r2) := H
        have A19 := Aside0.mk A190
        clear A190
        replace H := Option.bind_eq_some_iff.mp H
        obtain ⟨t301, A200, H⟩ := H
        replace H : ((anvilref02_num.f kj3 t301 1 4).bind fun t304 => ((anvilref02_num.f kj3 t304 64 2).bind fun t307 => ((anvilref02_num.f kj3 t307 56 2).bind fun t310 => ((anvilref02_num.f kj3 t310 (IntKind.u64.wrap ((l0_1.length : Int))) 2).bind fun t313 => ((anvilref02_num.f kj3 t313 64 2).bind fun t316 => ((anvilref02_num.f kj3 t316 x7_3 2).bind fun t319 => ((anvilref02_num.f kj3 t319 x8_3 2).bind fun t322 => (anvilref02_Write.l0 kj3 t322 (wrap64 (64 + (wrap64 (56 * (l0_1.length : Int))))) 0 a0_0 l0_1 l0_2)))))))) = some (r1, r2) := H
        have A20 := Aside0.mk A200
        clear A200
        replace H := Option.bind_eq_some_iff.mp H
        obtain ⟨t304, A210, H⟩ := H
        replace H : ((anvilref02_num.f kj3 t304 64 2).bind fun t307 => ((anvilref02_num.f kj3 t307 56 2).bind fun t310 => ((anvilref02_num.f kj3 t310 (IntKind.u64.wrap ((l0_1.length : Int))) 2).bind fun t313 => ((anvilref02_num.f kj3 t313 64 2).bind fun t316 => ((anvilref02_num.f kj3 t316 x7_3 2).bind fun t319 => ((anvilref02_num.f kj3 t319 x8_3 2).bind fun t322 => (anvilref02_Write.l0 kj3 t322 (wrap64 (64 + (wrap64 (56 * (l0_1.length : Int))))) 0 a0_0 l0_1 l0_2))))))) = some (r1, r2) := H
        have A21 := Aside0.mk A210
        clear A210
        replace H := Option.bind_eq_some_iff.mp H
        obtain ⟨t307, A220, H⟩ := H
        replace H : ((anvilref02_num.f kj3 t307 56 2).bind fun t310 => ((anvilref02_num.f kj3 t310 (IntKind.u64.wrap ((l0_1.length : Int))) 2).bind fun t313 => ((anvilref02_num.f kj3 t313 64 2).bind fun t316 => ((anvilref02_num.f kj3 t316 x7_3 2).bind fun t319 => ((anvilref02_num.f kj3 t319 x8_3 2).bind fun t322 => (anvilref02_Write.l0 kj3 t322 (wrap64 (64 + (wrap64 (56 * (l0_1.length : Int))))) 0 a0_0 l0_1 l0_2)))))) = some (r1, r2) := H
        have A22 := Aside0.mk A220
        clear A220
        replace H := Option.bind_eq_some_iff.mp H
        obtain ⟨t310, A230, H⟩ := H
        replace H : ((anvilref02_num.f kj3 t310 (IntKind.u64.wrap ((l0_1.length : Int))) 2).bind fun t313 => ((anvilref02_num.f kj3 t313 64 2).bind fun t316 => ((anvilref02_num.f kj3 t316 x7_3 2).bind fun t319 => ((anvilref02_num.f kj3 t319 x8_3 2).bind fun t322 => (anvilref02_Write.l0 kj3 t322 (wrap64 (64 + (wrap64 (56 * (l0_1.length : Int))))) 0 a0_0 l0_1 l0_2))))) = some (r1, r2) := H
        have A23 := Aside0.mk A230
        clear A230
        replace H := Option.bind_eq_some_iff.mp H
        obtain ⟨t313, A240, H⟩ := H
        replace H : ((anvilref02_num.f kj3 t313 64 2).bind fun t316 => ((anvilref02_num.f kj3 t316 x7_3 2).bind fun t319 => ((anvilref02_num.f kj3 t319 x8_3 2).bind fun t322 => (anvilref02_Write.l0 kj3 t322 (wrap64 (64 + (wrap64 (56 * (l0_1.length : Int))))) 0 a0_0 l0_1 l0_2)))) = some (r1, r2) := H
        have A24 := Aside0.mk A240
        clear A240
        replace H := Option.bind_eq_some_iff.mp H
        obtain ⟨t316, A250, H⟩ := H
        replace H : ((anvilref02_num.f kj3 t316 x7_3 2).bind fun t319 => ((anvilref02_num.f kj3 t319 x8_3 2).bind fun t322 => (anvilref02_Write.l0 kj3 t322 (wrap64 (64 + (wrap64 (56 * (l0_1.length : Int))))) 0 a0_0 l0_1 l0_2))) = some (r1, r2) := H
        have A25 := Aside0.mk A250
        clear A250
        replace H := Option.bind_eq_some_iff.mp H
        obtain ⟨t319, A260, H⟩ := H
        replace H : ((anvilref02_num.f kj3 t319 x8_3 2).bind fun t322 => (anvilref02_Write.l0 kj3 t322 (wrap64 (64 + (wrap64 (56 * (l0_1.length : Int))))) 0 a0_0 l0_1 l0_2)) = some (r1, r2) := H
        have A26 := Aside0.mk A260
        clear A260
        replace H := Option.bind_eq_some_iff.mp H
        obtain ⟨t322, A270, H⟩ := H
        replace H : (anvilref02_Write.l0 kj3 t322 (wrap64 (64 + (wrap64 (56 * (l0_1.length : Int))))) 0 a0_0 l0_1 l0_2) = some (r1, r2) := H
        have A27 := Aside0.mk A270
        clear A270
        have H' := Aside0.mk H
        clear H
        obtain ⟨Ao28, co28, eo28⟩ := Kd.R_slice HO_5.out
        subst eo28
        go_wp2_with (first | ((with_reducible refine gate_callee (f := 25) rfl ?_); refine goesL_ (some 29) rfl rfl Tryd.func25 (by kernel_rfl) rfl #[.slice Ao28 y282.length co28, .int .u64 2, .int .i64 2] rfl (by (try simp only [List.map_toArray, List.map_cons, List.map_nil]); first | done | rfl | (simp only [List.length_drop, List.length_take]; rfl)) ?_; (with_reducible refine (anvilref02_num.calls kj3 (fun k_ => some k_ = (.slice Ao28 y282.length co28 : Value).ownBlock) (.slice Ao28 y282.length co28) y282 2 2 t286 w _ ?side1 ?side2 A15.out).mono ?_); (case side1 => repeat (first | (with_reducible first | exact HB.out | apply below_alloc | apply pw_below_drewN | apply below_drew1 | refine below_set ?_ GE280.out) | exact HB.out)); (case side2 => exact Kd.R_tight rfl HO_5.out); rintro e w29 ⟨v287, rfl, ho0, hb, hkp⟩; refine ⟨_, rfl, ?_⟩; have n0_ := Aside0.mk (blk_kept (by (with_reducible repeat (first | refine blk_drewN ?_ _ | refine blk_drew ?_ | refine blk_alloc ?_ _)); exact BK280.out) hkp (fun hs_ => (fun e_ => (Kd.R_ne HO_5.out BK280.out (by decide)) e_) hs_)); have n1_ := Aside0.mk (Kd.R_mono (ok' := fun k_ => True) ho0 (fun k_ hk_ => trivial)); have n2_ := Aside0.mk (hb); clear BK280; clear HB; clear HO_5; have BK280 := n0_; have HO288 := n1_; have HB := n2_; clear n0_ n1_ n2_; (try clear hb); (try clear hkp); (try clear ho0); obtain ⟨Ao30, co30, eo30⟩ := Kd.R_slice HO288.out; subst eo30) | ((with_reducible refine gate_callee (f := 25) rfl ?_); refine goesL_ (some 31) rfl rfl Tryd.func25 (by kernel_rfl) rfl #[.slice Ao30 t286.length co30, .int .u64 243, .int .i64 2] rfl (by (try simp only [List.map_toArray, List.map_cons, List.map_nil]); first | done | rfl | (simp only [List.length_drop, List.length_take]; rfl)) ?_; (with_reducible refine (anvilref02_num.calls kj3 (fun k_ => some k_ = (.slice Ao30 t286.length co30 : Value).ownBlock) (.slice Ao30 t286.length co30) t286 243 2 t289 w _ ?side1 ?side2 A16.out).mono ?_); (case side1 => repeat (first | (with_reducible first | exact HB.out | apply below_alloc | apply pw_below_drewN | apply below_drew1 | refine below_set ?_ GE280.out) | exact HB.out)); (case side2 => exact Kd.R_tight rfl HO288.out); rintro e w31 ⟨v290, rfl, ho0, hb, hkp⟩; refine ⟨_, rfl, ?_⟩; have n0_ := Aside0.mk (blk_kept (by (with_reducible repeat (first | refine blk_drewN ?_ _ | refine blk_drew ?_ | refine blk_alloc ?_ _)); exact BK280.out) hkp (fun hs_ => (fun e_ => (Kd.R_ne HO288.out BK280.out (by decide)) e_) hs_)); have n1_ := Aside0.mk (Kd.R_mono (ok' := fun k_ => True) ho0 (fun k_ hk_ => trivial)); have n2_ := Aside0.mk (hb); clear BK280; clear HB; clear HO288; have BK280 := n0_; have HO291 := n1_; have HB := n2_; clear n0_ n1_ n2_; (try clear hb); (try clear hkp); (try clear ho0); obtain ⟨Ao32, co32, eo32⟩ := Kd.R_slice HO291.out; subst eo32) | ((with_reducible refine gate_callee (f := 25) rfl ?_); refine goesL_ (some 33) rfl rfl Tryd.func25 (by kernel_rfl) rfl #[.slice Ao32 t289.length co32, .int .u64 1, .int .i64 4] rfl (by (try simp only [List.map_toArray, List.map_cons, List.map_nil]); first | done | rfl | (simp only [List.length_drop, List.length_take]; rfl)) ?_; (with_reducible refine (anvilref02_num.calls kj3 (fun k_ => some k_ = (.slice Ao32 t289.length co32 : Value).ownBlock) (.slice Ao32 t289.length co32) t289 1 4 t292 w _ ?side1 ?side2 A17.out).mono ?_); (case side1 => repeat (first | (with_reducible first | exact HB.out | apply below_alloc | apply pw_below_drewN | apply below_drew1 | refine below_set ?_ GE280.out) | exact HB.out)); (case side2 => exact Kd.R_tight rfl HO291.out); rintro e w33 ⟨v293, rfl, ho0, hb, hkp⟩; refine ⟨_, rfl, ?_⟩; have n0_ := Aside0.mk (blk_kept (by (with_reducible repeat (first | refine blk_drewN ?_ _ | refine blk_drew ?_ | refine blk_alloc ?_ _)); exact BK280.out) hkp (fun hs_ => (fun e_ => (Kd.R_ne HO291.out BK280.out (by decide)) e_) hs_)); have n1_ := Aside0.mk (Kd.R_mono (ok' := fun k_ => True) ho0 (fun k_ hk_ => trivial)); have n2_ := Aside0.mk (hb); clear BK280; clear HB; clear HO291; have BK280 := n0_; have HO294 := n1_; have HB := n2_; clear n0_ n1_ n2_; (try clear hb); (try clear hkp); (try clear ho0); have hcz34_0 : w33.cell? ⟨gb280, 0, none⟩ = some (.int .u64 a0_0) := (blk_cell BK280.out 0).trans rfl; have hcz34_1 : w33.cell? ⟨gb280, 1, none⟩ = some (.slice A0_1 l0_1.length c0_1) := (blk_cell BK280.out 1).trans rfl; have hcz34_2 : w33.cell? ⟨gb280, 2, none⟩ = some (.slice A0_2 l0_2.length c0_2) := (blk_cell BK280.out 2).trans rfl; have hfz34_0 := blk_frozen BK280.out 0; have hfz34_1 := blk_frozen BK280.out 1; have hfz34_2 := blk_frozen BK280.out 2; obtain ⟨Ao35, co35, eo35⟩ := Kd.R_slice HO294.out; subst eo35) | ((with_reducible refine gate_callee (f := 25) rfl ?_); refine goesL_ (some 37) rfl rfl Tryd.func25 (by kernel_rfl) rfl #[.slice Ao35 t292.length co35, .int .u64 a0_0, .int .i64 8] rfl (by (try simp only [List.map_toArray, List.map_cons, List.map_nil]); first | done | rfl | (simp only [List.length_drop, List.length_take]; rfl)) ?_; (with_reducible refine (anvilref02_num.calls kj3 (fun k_ => some k_ = (.slice Ao35 t292.length co35 : Value).ownBlock) (.slice Ao35 t292.length co35) t292 a0_0 8 t295 w _ ?side1 ?side2 A18.out).mono ?_); (case side1 => repeat (first | (with_reducible first | exact HB.out | apply below_alloc | apply pw_below_drewN | apply below_drew1 | refine below_set ?_ GE280.out) | exact HB.out)); (case side2 => exact Kd.R_tight rfl HO294.out); rintro e w36 ⟨v296, rfl, ho0, hb, hkp⟩; refine ⟨_, rfl, ?_⟩; have n0_ := Aside0.mk (blk_kept (by (with_reducible repeat (first | refine blk_drewN ?_ _ | refine blk_drew ?_ | refine blk_alloc ?_ _)); exact BK280.out) hkp (fun hs_ => (fun e_ => (Kd.R_ne HO294.out BK280.out (by decide)) e_) hs_)); have n1_ := Aside0.mk (Kd.R_mono (ok' := fun k_ => True) ho0 (fun k_ hk_ => trivial)); have n2_ := Aside0.mk (hb); clear BK280; clear HB; clear HO294; have BK280 := n0_; have HO297 := n1_; have HB := n2_; clear n0_ n1_ n2_; (try clear hb); (try clear hkp); (try clear ho0); obtain ⟨Ao37, co37, eo37⟩ := Kd.R_slice HO297.out; subst eo37) | ((with_reducible refine gate_callee (f := 25) rfl ?_); refine goesL_ (some 39) rfl rfl Tryd.func25 (by kernel_rfl) rfl #[.slice Ao37 t295.length co37, .int .u64 64, .int .i64 8] rfl (by (try simp only [List.map_toArray, List.map_cons, List.map_nil]); first | done | rfl | (simp only [List.length_drop, List.length_take]; rfl)) ?_; (with_reducible refine (anvilref02_num.calls kj3 (fun k_ => some k_ = (.slice Ao37 t295.length co37 : Value).ownBlock) (.slice Ao37 t295.length co37) t295 64 8 t298 w _ ?side1 ?side2 A19.out).mono ?_); (case side1 => repeat (first | (with_reducible first | exact HB.out | apply below_alloc | apply pw_below_drewN | apply below_drew1 | refine below_set ?_ GE280.out) | exact HB.out)); (case side2 => exact Kd.R_tight rfl HO297.out); rintro e w38 ⟨v299, rfl, ho0, hb, hkp⟩; refine ⟨_, rfl, ?_⟩; have n0_ := Aside0.mk (blk_kept (by (with_reducible repeat (first | refine blk_drewN ?_ _ | refine blk_drew ?_ | refine blk_alloc ?_ _)); exact BK280.out) hkp (fun hs_ => (fun e_ => (Kd.R_ne HO297.out BK280.out (by decide)) e_) hs_)); have n1_ := Aside0.mk (Kd.R_mono (ok' := fun k_ => True) ho0 (fun k_ hk_ => trivial)); have n2_ := Aside0.mk (hb); clear BK280; clear HB; clear HO297; have BK280 := n0_; have HO300 := n1_; have HB := n2_; clear n0_ n1_ n2_; (try clear hb); (try clear hkp); (try clear ho0); obtain ⟨Ao39, co39, eo39⟩ := Kd.R_slice HO300.out; subst eo39) | ((with_reducible refine gate_callee (f := 25) rfl ?_); refine goesL_ (some 43) rfl rfl Tryd.func25 (by kernel_rfl) rfl #[.slice Ao39 t298.length co39, .int .u64 (IntKind.u64.wrap (x6_3)), .int .i64 8] rfl (by (try simp only [List.map_toArray, List.map_cons, List.map_nil]); first | done | rfl | (simp only [List.length_drop, List.length_take]; rfl)) ?_; (with_reducible refine (anvilref02_num.calls kj3 (fun k_ => some k_ = (.slice Ao39 t298.length co39 : Value).ownBlock) (.slice Ao39 t298.length co39) t298 (IntKind.u64.wrap (x6_3)) 8 t301 w _ ?side1 ?side2 A20.out).mono ?_); (case side1 => repeat (first | (with_reducible first | exact HB.out | apply below_alloc | apply pw_below_drewN | apply below_drew1 | refine below_set ?_ GE280.out) | exact HB.out)); (case side2 => exact Kd.R_tight rfl HO300.out); rintro e w40 ⟨v302, rfl, ho0, hb, hkp⟩; refine ⟨_, rfl, ?_⟩; have n0_ := Aside0.mk (blk_kept (by (with_reducible repeat (first | refine blk_drewN ?_ _ | refine blk_drew ?_ | refine blk_alloc ?_ _)); exact BK280.out) hkp (fun hs_ => (fun e_ => (Kd.R_ne HO300.out BK280.out (by decide)) e_) hs_)); have n1_ := Aside0.mk (Kd.R_mono (ok' := fun k_ => True) ho0 (fun k_ hk_ => trivial)); have n2_ := Aside0.mk (hb); clear BK280; clear HB; clear HO300; have BK280 := n0_; have HO303 := n1_; have HB := n2_; clear n0_ n1_ n2_; (try clear hb); (try clear hkp); (try clear ho0); obtain ⟨Ao41, co41, eo41⟩ := Kd.R_slice HO303.out; subst eo41) | ((with_reducible refine gate_callee (f := 25) rfl ?_); refine goesL_ (some 45) rfl rfl Tryd.func25 (by kernel_rfl) rfl #[.slice Ao41 t301.length co41, .int .u64 1, .int .i64 4] rfl (by (try simp only [List.map_toArray, List.map_cons, List.map_nil]); first | done | rfl | (simp only [List.length_drop, List.length_take]; rfl)) ?_; (with_reducible refine (anvilref02_num.calls kj3 (fun k_ => some k_ = (.slice Ao41 t301.length co41 : Value).ownBlock) (.slice Ao41 t301.length co41) t301 1 4 t304 w _ ?side1 ?side2 A21.out).mono ?_); (case side1 => repeat (first | (with_reducible first | exact HB.out | apply below_alloc | apply pw_below_drewN | apply below_drew1 | refine below_set ?_ GE280.out) | exact HB.out)); (case side2 => exact Kd.R_tight rfl HO303.out); rintro e w42 ⟨v305, rfl, ho0, hb, hkp⟩; refine ⟨_, rfl, ?_⟩; have n0_ := Aside0.mk (blk_kept (by (with_reducible repeat (first | refine blk_drewN ?_ _ | refine blk_drew ?_ | refine blk_alloc ?_ _)); exact BK280.out) hkp (fun hs_ => (fun e_ => (Kd.R_ne HO303.out BK280.out (by decide)) e_) hs_)); have n1_ := Aside0.mk (Kd.R_mono (ok' := fun k_ => True) ho0 (fun k_ hk_ => trivial)); have n2_ := Aside0.mk (hb); clear BK280; clear HB; clear HO303; have BK280 := n0_; have HO306 := n1_; have HB := n2_; clear n0_ n1_ n2_; (try clear hb); (try clear hkp); (try clear ho0); obtain ⟨Ao43, co43, eo43⟩ := Kd.R_slice HO306.out; subst eo43) | ((with_reducible refine gate_callee (f := 25) rfl ?_); refine goesL_ (some 47) rfl rfl Tryd.func25 (by kernel_rfl) rfl #[.slice Ao43 t304.length co43, .int .u64 64, .int .i64 2] rfl (by (try simp only [List.map_toArray, List.map_cons, List.map_nil]); first | done | rfl | (simp only [List.length_drop, List.length_take]; rfl)) ?_; (with_reducible refine (anvilref02_num.calls kj3 (fun k_ => some k_ = (.slice Ao43 t304.length co43 : Value).ownBlock) (.slice Ao43 t304.length co43) t304 64 2 t307 w _ ?side1 ?side2 A22.out).mono ?_); (case side1 => repeat (first | (with_reducible first | exact HB.out | apply below_alloc | apply pw_below_drewN | apply below_drew1 | refine below_set ?_ GE280.out) | exact HB.out)); (case side2 => exact Kd.R_tight rfl HO306.out); rintro e w44 ⟨v308, rfl, ho0, hb, hkp⟩; refine ⟨_, rfl, ?_⟩; have n0_ := Aside0.mk (blk_kept (by (with_reducible repeat (first | refine blk_drewN ?_ _ | refine blk_drew ?_ | refine blk_alloc ?_ _)); exact BK280.out) hkp (fun hs_ => (fun e_ => (Kd.R_ne HO306.out BK280.out (by decide)) e_) hs_)); have n1_ := Aside0.mk (Kd.R_mono (ok' := fun k_ => True) ho0 (fun k_ hk_ => trivial)); have n2_ := Aside0.mk (hb); clear BK280; clear HB; clear HO306; have BK280 := n0_; have HO309 := n1_; have HB := n2_; clear n0_ n1_ n2_; (try clear hb); (try clear hkp); (try clear ho0); obtain ⟨Ao45, co45, eo45⟩ := Kd.R_slice HO309.out; subst eo45) | ((with_reducible refine gate_callee (f := 25) rfl ?_); refine goesL_ (some 49) rfl rfl Tryd.func25 (by kernel_rfl) rfl #[.slice Ao45 t307.length co45, .int .u64 56, .int .i64 2] rfl (by (try simp only [List.map_toArray, List.map_cons, List.map_nil]); first | done | rfl | (simp only [List.length_drop, List.length_take]; rfl)) ?_; (with_reducible refine (anvilref02_num.calls kj3 (fun k_ => some k_ = (.slice Ao45 t307.length co45 : Value).ownBlock) (.slice Ao45 t307.length co45) t307 56 2 t310 w _ ?side1 ?side2 A23.out).mono ?_); (case side1 => repeat (first | (with_reducible first | exact HB.out | apply below_alloc | apply pw_below_drewN | apply below_drew1 | refine below_set ?_ GE280.out) | exact HB.out)); (case side2 => exact Kd.R_tight rfl HO309.out); rintro e w46 ⟨v311, rfl, ho0, hb, hkp⟩; refine ⟨_, rfl, ?_⟩; have n0_ := Aside0.mk (blk_kept (by (with_reducible repeat (first | refine blk_drewN ?_ _ | refine blk_drew ?_ | refine blk_alloc ?_ _)); exact BK280.out) hkp (fun hs_ => (fun e_ => (Kd.R_ne HO309.out BK280.out (by decide)) e_) hs_)); have n1_ := Aside0.mk (Kd.R_mono (ok' := fun k_ => True) ho0 (fun k_ hk_ => trivial)); have n2_ := Aside0.mk (hb); clear BK280; clear HB; clear HO309; have BK280 := n0_; have HO312 := n1_; have HB := n2_; clear n0_ n1_ n2_; (try clear hb); (try clear hkp); (try clear ho0); have hcz47_0 : w46.cell? ⟨gb280, 0, none⟩ = some (.int .u64 a0_0) := (blk_cell BK280.out 0).trans rfl; have hcz47_1 : w46.cell? ⟨gb280, 1, none⟩ = some (.slice A0_1 l0_1.length c0_1) := (blk_cell BK280.out 1).trans rfl; have hcz47_2 : w46.cell? ⟨gb280, 2, none⟩ = some (.slice A0_2 l0_2.length c0_2) := (blk_cell BK280.out 2).trans rfl; have hfz47_0 := blk_frozen BK280.out 0; have hfz47_1 := blk_frozen BK280.out 1; have hfz47_2 := blk_frozen BK280.out 2; obtain ⟨Ao48, co48, eo48⟩ := Kd.R_slice HO312.out; subst eo48) | ((with_reducible refine gate_callee (f := 25) rfl ?_); refine goesL_ (some 55) rfl rfl Tryd.func25 (by kernel_rfl) rfl #[.slice Ao48 t310.length co48, .int .u64 (IntKind.u64.wrap ((l0_1.length : Int))), .int .i64 2] rfl (by (try simp only [List.map_toArray, List.map_cons, List.map_nil]); first | done | rfl | (simp only [List.length_drop, List.length_take]; rfl)) ?_; (with_reducible refine (anvilref02_num.calls kj3 (fun k_ => some k_ = (.slice Ao48 t310.length co48 : Value).ownBlock) (.slice Ao48 t310.length co48) t310 (IntKind.u64.wrap ((l0_1.length : Int))) 2 t313 w _ ?side1 ?side2 A24.out).mono ?_); (case side1 => repeat (first | (with_reducible first | exact HB.out | apply below_alloc | apply pw_below_drewN | apply below_drew1 | refine below_set ?_ GE280.out) | exact HB.out)); (case side2 => exact Kd.R_tight rfl HO312.out); rintro e w49 ⟨v314, rfl, ho0, hb, hkp⟩; refine ⟨_, rfl, ?_⟩; have n0_ := Aside0.mk (blk_kept (by (with_reducible repeat (first | refine blk_drewN ?_ _ | refine blk_drew ?_ | refine blk_alloc ?_ _)); exact BK280.out) hkp (fun hs_ => (fun e_ => (Kd.R_ne HO312.out BK280.out (by decide)) e_) hs_)); have n1_ := Aside0.mk (Kd.R_mono (ok' := fun k_ => True) ho0 (fun k_ hk_ => trivial)); have n2_ := Aside0.mk (hb); clear BK280; clear HB; clear HO312; have BK280 := n0_; have HO315 := n1_; have HB := n2_; clear n0_ n1_ n2_; (try clear hb); (try clear hkp); (try clear ho0); obtain ⟨Ao50, co50, eo50⟩ := Kd.R_slice HO315.out; subst eo50) | ((with_reducible refine gate_callee (f := 25) rfl ?_); refine goesL_ (some 57) rfl rfl Tryd.func25 (by kernel_rfl) rfl #[.slice Ao50 t313.length co50, .int .u64 64, .int .i64 2] rfl (by (try simp only [List.map_toArray, List.map_cons, List.map_nil]); first | done | rfl | (simp only [List.length_drop, List.length_take]; rfl)) ?_; (with_reducible refine (anvilref02_num.calls kj3 (fun k_ => some k_ = (.slice Ao50 t313.length co50 : Value).ownBlock) (.slice Ao50 t313.length co50) t313 64 2 t316 w _ ?side1 ?side2 A25.out).mono ?_); (case side1 => repeat (first | (with_reducible first | exact HB.out | apply below_alloc | apply pw_below_drewN | apply below_drew1 | refine below_set ?_ GE280.out) | exact HB.out)); (case side2 => exact Kd.R_tight rfl HO315.out); rintro e w51 ⟨v317, rfl, ho0, hb, hkp⟩; refine ⟨_, rfl, ?_⟩; have n0_ := Aside0.mk (blk_kept (by (with_reducible repeat (first | refine blk_drewN ?_ _ | refine blk_drew ?_ | refine blk_alloc ?_ _)); exact BK280.out) hkp (fun hs_ => (fun e_ => (Kd.R_ne HO315.out BK280.out (by decide)) e_) hs_)); have n1_ := Aside0.mk (Kd.R_mono (ok' := fun k_ => True) ho0 (fun k_ hk_ => trivial)); have n2_ := Aside0.mk (hb); clear BK280; clear HB; clear HO315; have BK280 := n0_; have HO318 := n1_; have HB := n2_; clear n0_ n1_ n2_; (try clear hb); (try clear hkp); (try clear ho0); obtain ⟨Ao52, co52, eo52⟩ := Kd.R_slice HO318.out; subst eo52) | ((with_reducible refine gate_callee (f := 25) rfl ?_); refine goesL_ (some 60) rfl rfl Tryd.func25 (by kernel_rfl) rfl #[.slice Ao52 t316.length co52, .int .u64 x7_3, .int .i64 2] rfl (by (try simp only [List.map_toArray, List.map_cons, List.map_nil]); first | done | rfl | (simp only [List.length_drop, List.length_take]; rfl)) ?_; (with_reducible refine (anvilref02_num.calls kj3 (fun k_ => some k_ = (.slice Ao52 t316.length co52 : Value).ownBlock) (.slice Ao52 t316.length co52) t316 x7_3 2 t319 w _ ?side1 ?side2 A26.out).mono ?_); (case side1 => repeat (first | (with_reducible first | exact HB.out | apply below_alloc | apply pw_below_drewN | apply below_drew1 | refine below_set ?_ GE280.out) | exact HB.out)); (case side2 => exact Kd.R_tight rfl HO318.out); rintro e w53 ⟨v320, rfl, ho0, hb, hkp⟩; refine ⟨_, rfl, ?_⟩; have n0_ := Aside0.mk (blk_kept (by (with_reducible repeat (first | refine blk_drewN ?_ _ | refine blk_drew ?_ | refine blk_alloc ?_ _)); exact BK280.out) hkp (fun hs_ => (fun e_ => (Kd.R_ne HO318.out BK280.out (by decide)) e_) hs_)); have n1_ := Aside0.mk (Kd.R_mono (ok' := fun k_ => True) ho0 (fun k_ hk_ => trivial)); have n2_ := Aside0.mk (hb); clear BK280; clear HB; clear HO318; have BK280 := n0_; have HO321 := n1_; have HB := n2_; clear n0_ n1_ n2_; (try clear hb); (try clear hkp); (try clear ho0); obtain ⟨Ao54, co54, eo54⟩ := Kd.R_slice HO321.out; subst eo54) | ((with_reducible refine gate_callee (f := 25) rfl ?_); refine goesL_ (some 63) rfl rfl Tryd.func25 (by kernel_rfl) rfl #[.slice Ao54 t319.length co54, .int .u64 x8_3, .int .i64 2] rfl (by (try simp only [List.map_toArray, List.map_cons, List.map_nil]); first | done | rfl | (simp only [List.length_drop, List.length_take]; rfl)) ?_; (with_reducible refine (anvilref02_num.calls kj3 (fun k_ => some k_ = (.slice Ao54 t319.length co54 : Value).ownBlock) (.slice Ao54 t319.length co54) t319 x8_3 2 t322 w _ ?side1 ?side2 A27.out).mono ?_); (case side1 => repeat (first | (with_reducible first | exact HB.out | apply below_alloc | apply pw_below_drewN | apply below_drew1 | refine below_set ?_ GE280.out) | exact HB.out)); (case side2 => exact Kd.R_tight rfl HO321.out); rintro e w55 ⟨v323, rfl, ho0, hb, hkp⟩; refine ⟨_, rfl, ?_⟩; have n0_ := Aside0.mk (blk_kept (by (with_reducible repeat (first | refine blk_drewN ?_ _ | refine blk_drew ?_ | refine blk_alloc ?_ _)); exact BK280.out) hkp (fun hs_ => (fun e_ => (Kd.R_ne HO321.out BK280.out (by decide)) e_) hs_)); have n1_ := Aside0.mk (Kd.R_mono (ok' := fun k_ => True) ho0 (fun k_ hk_ => trivial)); have n2_ := Aside0.mk (hb); clear BK280; clear HB; clear HO321; have BK280 := n0_; have HO324 := n1_; have HB := n2_; clear n0_ n1_ n2_; (try clear hb); (try clear hkp); (try clear ho0); have hcz56_0 : w55.cell? ⟨gb280, 0, none⟩ = some (.int .u64 a0_0) := (blk_cell BK280.out 0).trans rfl; have hcz56_1 : w55.cell? ⟨gb280, 1, none⟩ = some (.slice A0_1 l0_1.length c0_1) := (blk_cell BK280.out 1).trans rfl; have hcz56_2 : w55.cell? ⟨gb280, 2, none⟩ = some (.slice A0_2 l0_2.length c0_2) := (blk_cell BK280.out 2).trans rfl; have hfz56_0 := blk_frozen BK280.out 0; have hfz56_1 := blk_frozen BK280.out 1; have hfz56_2 := blk_frozen BK280.out 2))
        go_loopg [5, 9, 10] kj3 (fun kq v5 v9 v10 w' => ∃ (x5_2 : List Int) (x9_2 : Int) (x10_2 : Int), v9 = .int .i64 x9_2 ∧ v10 = .int .i64 x10_2 ∧ Aside0 (anvilref02_Write.l0 kq x5_2 x9_2 x10_2 a0_0 l0_1 l0_2 = some (r1, r2)) ∧ Aside0 (kq ≤ kj3) ∧ Aside0 (Kd.R (Kd.int .u8) 5 w' w.heap.size (fun _ => True) v5 x5_2) ∧ Aside0 (w'.heap[gb280]? = some (.cells #[.int .u64 a0_0, (.slice A0_1 l0_1.length c0_1), (.slice A0_2 l0_2.length c0_2)] 26 (0, 0))) ∧ Aside0 (Below w.heap.size w w'))
        case atStart => exact ⟨(t322), (wrap64 (64 + (wrap64 (56 * (l0_1.length : Int))))), (0), (by first | rfl | (simp; done) | (simp only [i64_w, i32_w]; done) | (simp [i64_w, i32_w]; done) | (simp [*]; done)), (by first | rfl | (simp; done) | (simp only [i64_w, i32_w]; done) | (simp [i64_w, i32_w]; done) | (simp [*]; done)), H', ⟨Nat.le_refl _⟩, ⟨by (with_reducible repeat (first | apply Kd.R_alloc | apply Kd.R_drewN | apply Kd.R_drew)); exact HO324.out⟩, ⟨by (with_reducible repeat (first | refine blk_drewN ?_ _ | refine blk_drew ?_ | refine blk_alloc ?_ _)); exact BK280.out⟩, ⟨by repeat (first | (with_reducible first | exact HB.out | apply below_alloc | apply pw_below_drewN | apply below_drew1 | refine below_set ?_ GE280.out) | exact HB.out)⟩⟩
        case round =>
          clear H'
          try clear c1
          try clear c2
          try clear p2
          try clear c3
          try clear c3b0
          try clear c3b1
          try clear p6
          try clear c8
          try clear c10
          try clear c11
          try clear c11b0
          try clear c11b1
          try clear c20
          try clear c25
          try clear hcz10_0
          try clear hcz10_1
          try clear hcz10_2
          try clear hcz13_0
          try clear hcz13_1
          try clear hcz13_2
          try clear hcz34_0
          try clear hcz34_1
          try clear hcz34_2
          try clear hcz47_0
          try clear hcz47_1
          try clear hcz47_2
          try clear hcz56_0
          try clear hcz56_1
          try clear hcz56_2
          try clear hcz6_0
          try clear hcz6_1
          try clear hcz6_2
          try clear hfz10_0
          try clear hfz10_1
          try clear hfz10_2
          try clear hfz13_0
          try clear hfz13_1
          try clear hfz13_2
          try clear hfz34_0
          try clear hfz34_1
          try clear hfz34_2
          try clear hfz47_0
          try clear hfz47_1
          try clear hfz47_2
          try clear hfz56_0
          try clear hfz56_1
          try clear hfz56_2
          try clear hfz6_0
          try clear hfz6_1
          try clear hfz6_2
          try clear p2
          try clear p6
          obtain ⟨x5_2, x9_2, x10_2, rfl, rfl, HA, HK2, HO_5, BK280, HB⟩ := hrel
          cases gk with
          | zero => exact absurd HA.out (by simp [anvilref02_Write.l0])
          | succ k2 =>
            have H := HA.out
            clear HA
            simp only [anvilref02_Write.l0] at H
            by_cases c57 : x10_2 < (l0_1.length : Int)
            · rw [if_pos c57] at H
              have c57b0 : decide (x10_2 < (l0_1.length : Int)) = true := decide_eq_true c57
              clear c57
              by_cases c58 : 0 ≤ x10_2
              · rw [if_pos c58] at H
                have c58b0 : decide (0 ≤ x10_2) = true := decide_eq_true c58
                clear c58
                have HC59 := Aside0.mk H
                clear H
                have hcz60_0 : wr.cell? ⟨gb280, 0, none⟩ = some (.int .u64 a0_0) := (blk_cell BK280.out 0).trans rfl
                have hcz60_1 : wr.cell? ⟨gb280, 1, none⟩ = some (.slice A0_1 l0_1.length c0_1) := (blk_cell BK280.out 1).trans rfl
                have hcz60_2 : wr.cell? ⟨gb280, 2, none⟩ = some (.slice A0_2 l0_2.length c0_2) := (blk_cell BK280.out 2).trans rfl
                have hfz60_0 := blk_frozen BK280.out 0
                have hfz60_1 := blk_frozen BK280.out 1
                have hfz60_2 := blk_frozen BK280.out 2
                have p325 : 0 ≤ (x10_2 : Int) := of_decide_eq_true (by first | (with_reducible assumption) | assumption)
                have q325 : x10_2 < (l0_1.length : Int) := of_decide_eq_true (by first | (with_reducible assumption) | assumption)
                obtain ⟨ad325, A325_3, c325_3, e325, hx325_0, hx325_1, hx325_2, hx325_3, hl325_3, hi325_3⟩ := at_T41 HR0_1.out x10_2 p325 q325
                cases e325
                replace hx325_0 := (HB.out.cell (World.block_lt_of_cell? w _ hx325_0)).trans hx325_0
                replace hx325_1 := (HB.out.cell (World.block_lt_of_cell? w _ hx325_1)).trans hx325_1
                replace hx325_2 := (HB.out.cell (World.block_lt_of_cell? w _ hx325_2)).trans hx325_2
                replace hx325_3 := (HB.out.cell (World.block_lt_of_cell? w _ hx325_3)).trans hx325_3
                have HR325_3 := Aside0.mk hi325_3
                have HC325_3 := Aside0.mk hl325_3
                clear hi325_3 hl325_3
                replace p325 := eq_true p325
                replace q325 := eq_true q325
                go_upto_if 84 with (first | ((with_reducible refine gate_dst (N := 11) rfl ?_); refine box_event ?hg (N := 11) ?hd (cs := #[.int .u64 0, .int .u64 0, .int .i64 0, .slice none 0 0]) (t := 41) ?hr ?_; (case hd => rfl); (case hg => rfl); (case hr => first | (go_simp; done) | (go_simp; rfl)); intro gb326 hg w61 hbox hb; have n0_ := Aside0.mk (Kd.R_below (by (with_reducible repeat (first | apply Kd.R_alloc | apply Kd.R_drewN | apply Kd.R_drew)); exact HO_5.out) hb); have n1_ := Aside0.mk (blk_below (g := gb280) (o := .cells #[.int .u64 a0_0, .slice (some ad325) l0_1.length c0_1, .slice A0_2 l0_2.length c0_2] 26 (0, 0)) (by (with_reducible repeat (first | refine blk_drewN ?_ _ | refine blk_drew ?_ | refine blk_alloc ?_ _)); exact BK280.out) hb); have n2_ := Aside0.mk (below_step (by repeat (first | (with_reducible first | exact HB.out | apply below_alloc | apply pw_below_drewN | apply below_drew1 | refine below_set ?_ GE280.out) | exact HB.out)) hb); have n3_ := Aside0.mk (hbox); have n4_ := Aside0.mk ((by rw [hg]; exact (below_size (by repeat (first | (with_reducible first | exact HB.out | apply below_alloc | apply pw_below_drewN | apply below_drew1 | refine below_set ?_ GE280.out) | exact HB.out))) : w.heap.size ≤ gb326)); have n5_ := Aside0.mk ((by rw [hg]; exact (below_size (by repeat (first | (with_reducible first | exact HB.out | apply below_alloc | apply pw_below_drewN | apply below_drew1 | refine below_set ?_ GE280.out) | exact HB.out))) : w.heap.size ≤ gb326)); have n6_ := Aside0.mk ((by rw [hg]; exact Nat.ne_of_lt (blk_lt (g := gb280) (o := .cells #[.int .u64 a0_0, .slice (some ad325) l0_1.length c0_1, .slice A0_2 l0_2.length c0_2] 26 (0, 0)) (by (with_reducible repeat (first | refine blk_drewN ?_ _ | refine blk_drew ?_ | refine blk_alloc ?_ _)); exact BK280.out)) : gb280 ≠ gb326)); have n7_ := Aside0.mk ((by rw [hg]; exact Nat.ne_of_gt (blk_lt (g := gb280) (o := .cells #[.int .u64 a0_0, .slice (some ad325) l0_1.length c0_1, .slice A0_2 l0_2.length c0_2] 26 (0, 0)) (by (with_reducible repeat (first | refine blk_drewN ?_ _ | refine blk_drew ?_ | refine blk_alloc ?_ _)); exact BK280.out)) : gb326 ≠ gb280)); clear HO_5; clear BK280; clear HB; have HO_5 := n0_; have BK280 := n1_; have HB := n2_; have BK326 := n3_; have GW326 := n4_; have GE326 := n5_; have NB280_326 := n6_; have NB326_280 := n7_; clear n0_ n1_ n2_ n3_ n4_ n5_ n6_ n7_; clear hb hbox hg; have hnb62 := NB326_280.out; have hnc62 := NB280_326.out; have hcz63_0 : w61.cell? ⟨gb326, 0, none⟩ = some (.int .u64 0) := (blk_cell BK326.out 0).trans rfl; have hcz63_1 : w61.cell? ⟨gb326, 1, none⟩ = some (.int .u64 0) := (blk_cell BK326.out 1).trans rfl; have hcz63_2 : w61.cell? ⟨gb326, 2, none⟩ = some (.int .i64 0) := (blk_cell BK326.out 2).trans rfl; have hcz63_3 : w61.cell? ⟨gb326, 3, none⟩ = some (.slice none 0 0) := (blk_cell BK326.out 3).trans rfl; have hfz63_0 := blk_frozen BK326.out 0; have hfz63_1 := blk_frozen BK326.out 1; have hfz63_2 := blk_frozen BK326.out 2; have hfz63_3 := blk_frozen BK326.out 3))
                (try simp only [Act.put, List.setIfInBounds_toArray, List.set_cons_zero, List.set_cons_succ])
                go_cut [9, 12] (fun v9 v12 wc => ∃ (kq : Nat) (x9_58 : Int) (x12_58 : Int), v9 = .int .i64 x9_58 ∧ v12 = .int .i64 x12_58 ∧ Aside0 (anvilref02_Write.j2 kq x5_2 x9_58 x10_2 x12_58 a0_0 l0_1 l0_2 ((rd_T41 l0_1 x10_2).f0) ((rd_T41 l0_1 x10_2).f1) ((rd_T41 l0_1 x10_2).f2) ((rd_T41 l0_1 x10_2).f3) = some (r1, r2)) ∧ Aside0 (kq ≤ k2) ∧ Aside0 (Kd.R (Kd.int .u8) 5 wc w.heap.size (fun _ => True) u5 x5_2) ∧ Aside0 (wc.heap[gb280]? = some (.cells #[.int .u64 a0_0, (.slice (some ad325) l0_1.length c0_1), (.slice A0_2 l0_2.length c0_2)] 26 (0, 0))) ∧ Aside0 (wc.heap[gb326]? = some (.cells #[.int .u64 ((rd_T41 l0_1 x10_2).f0), .int .u64 ((rd_T41 l0_1 x10_2).f1), .int .i64 ((rd_T41 l0_1 x10_2).f2), (.slice A325_3 ((rd_T41 l0_1 x10_2).f3).length c325_3)] 41 (0, 0))) ∧ Aside0 (Below w.heap.size w wc))
                case first =>
                  have H := HC59.out
                  clear HC59
                  by_cases c64 : (((rd_T41 l0_1 x10_2).f3).length : Int) > 0
                  · rw [if_pos c64] at H
                    have c64b0 : decide (0 < (((rd_T41 l0_1 x10_2).f3).length : Int)) = true := decide_eq_true c64
                    have c64b1 : decide (0 < ((rd_T41 l0_1 x10_2).f3).length) = true := decide_eq_true (by omega)
                    clear c64
                    (first | rw [c64b0] | (simp only [i64_w, i32_w]; rw [c64b0]) | rw [c64b1] | skip)
                    replace H := Option.bind_eq_some_iff.mp H
                    obtain ⟨t327, A650, H⟩ := H
                    replace H : (anvilref02_Write.j2 k2 x5_2 (wrap64 (t327 + (((rd_T41 l0_1 x10_2).f3).length : Int))) x10_2 t327 a0_0 l0_1 l0_2 ((rd_T41 l0_1 x10_2).f0) ((rd_T41 l0_1 x10_2).f1) ((rd_T41 l0_1 x10_2).f2) ((rd_T41 l0_1 x10_2).f3)) = some (r1, r2) := H
                    have A65 := Aside0.mk A650
                    clear A650
                    have H' := Aside0.mk H
                    clear H
                    go_wp2_with (first | ((with_reducible refine gate_callee (f := 26) rfl ?_); refine goesL_ (some 86) rfl rfl Tryd.func26 (by kernel_rfl) rfl #[.int .i64 x9_2] rfl (by (try simp only [List.map_toArray, List.map_cons, List.map_nil]); first | done | rfl | (simp only [List.length_drop, List.length_take]; rfl)) ?_; (with_reducible refine (anvilref02_up.calls k2 x9_2 t327 _ A65.out).mono ?_); rintro e w' ⟨rfl, ⟨nd, rfl⟩⟩; refine ⟨_, rfl, ?_⟩; have hnb66 := NB326_280.out; have hnc66 := NB280_326.out; have hcz67_0 : w61.cell? ⟨gb326, 0, none⟩ = some (.int .u64 0) := (blk_cell BK326.out 0).trans rfl; have hcz67_1 : w61.cell? ⟨gb326, 1, none⟩ = some (.int .u64 0) := (blk_cell BK326.out 1).trans rfl; have hcz67_2 : w61.cell? ⟨gb326, 2, none⟩ = some (.int .i64 0) := (blk_cell BK326.out 2).trans rfl; have hcz67_3 : w61.cell? ⟨gb326, 3, none⟩ = some (.slice none 0 0) := (blk_cell BK326.out 3).trans rfl; have hfz67_0 := blk_frozen BK326.out 0; have hfz67_1 := blk_frozen BK326.out 1; have hfz67_2 := blk_frozen BK326.out 2; have hfz67_3 := blk_frozen BK326.out 3))
                    go_meet
                    case rel => exact ⟨_, (wrap64 (t327 + (((rd_T41 l0_1 x10_2).f3).length : Int))), (t327), (by first | rfl | (simp; done) | (simp only [i64_w, i32_w]; done) | (simp [i64_w, i32_w]; done) | (simp [*]; done)), (by first | rfl | (simp; done) | (simp only [i64_w, i32_w]; done) | (simp [i64_w, i32_w]; done) | (simp [*]; done)), H', ⟨by have := HJ3.out; have := HK2.out; first | omega | exact Nat.le_refl _⟩, ⟨by (with_reducible repeat (first | apply Kd.R_alloc | apply Kd.R_drewN | apply Kd.R_drew)); exact Kd.R_mono (Kd.R_far (p := ⟨gb326, 3, none⟩) (Kd.R_far (p := ⟨gb326, 2, none⟩) (Kd.R_far (p := ⟨gb326, 1, none⟩) (Kd.R_far (p := ⟨gb326, 0, none⟩) (Kd.R_types HO_5.out BK326.out (by decide)) (fun _ hk => hk.2) (.int .u64 ((rd_T41 l0_1 x10_2).f0))) (fun _ hk => hk.2) (.int .u64 ((rd_T41 l0_1 x10_2).f1))) (fun _ hk => hk.2) (.int .i64 ((rd_T41 l0_1 x10_2).f2))) (fun _ hk => hk.2) (.slice A325_3 ((rd_T41 l0_1 x10_2).f3).length c325_3)) (fun _ hk => trivial)⟩, ⟨by (with_reducible repeat (first | refine blk_drewN ?_ _ | refine blk_drew ?_ | refine blk_alloc ?_ _)); refine blk_far ?_ NB280_326.out _; (with_reducible repeat (first | refine blk_drewN ?_ _ | refine blk_drew ?_ | refine blk_alloc ?_ _)); refine blk_far ?_ NB280_326.out _; (with_reducible repeat (first | refine blk_drewN ?_ _ | refine blk_drew ?_ | refine blk_alloc ?_ _)); refine blk_far ?_ NB280_326.out _; (with_reducible repeat (first | refine blk_drewN ?_ _ | refine blk_drew ?_ | refine blk_alloc ?_ _)); refine blk_far ?_ NB280_326.out _; (with_reducible repeat (first | refine blk_drewN ?_ _ | refine blk_drew ?_ | refine blk_alloc ?_ _)); exact BK280.out⟩, ⟨by (with_reducible repeat (first | refine blk_drewN ?_ _ | refine blk_drew ?_ | refine blk_alloc ?_ _)); refine blk_put (cs := #[.int .u64 ((rd_T41 l0_1 x10_2).f0), .int .u64 ((rd_T41 l0_1 x10_2).f1), .int .i64 ((rd_T41 l0_1 x10_2).f2), .slice none 0 0]) ?_ 3 _ rfl; (with_reducible repeat (first | refine blk_drewN ?_ _ | refine blk_drew ?_ | refine blk_alloc ?_ _)); refine blk_put (cs := #[.int .u64 ((rd_T41 l0_1 x10_2).f0), .int .u64 ((rd_T41 l0_1 x10_2).f1), .int .i64 0, .slice none 0 0]) ?_ 2 _ rfl; (with_reducible repeat (first | refine blk_drewN ?_ _ | refine blk_drew ?_ | refine blk_alloc ?_ _)); refine blk_put (cs := #[.int .u64 ((rd_T41 l0_1 x10_2).f0), .int .u64 0, .int .i64 0, .slice none 0 0]) ?_ 1 _ rfl; (with_reducible repeat (first | refine blk_drewN ?_ _ | refine blk_drew ?_ | refine blk_alloc ?_ _)); refine blk_put (cs := #[.int .u64 0, .int .u64 0, .int .i64 0, .slice none 0 0]) ?_ 0 _ rfl; (with_reducible repeat (first | refine blk_drewN ?_ _ | refine blk_drew ?_ | refine blk_alloc ?_ _)); exact BK326.out⟩, ⟨by repeat (first | (with_reducible first | exact HB.out | apply below_alloc | apply pw_below_drewN | apply below_drew1 | refine below_set ?_ GE280.out | refine below_set ?_ GE326.out) | exact HB.out)⟩⟩
                  · rw [if_neg c64] at H
                    have c64b0 : decide (0 < (((rd_T41 l0_1 x10_2).f3).length : Int)) = false := decide_eq_false c64
                    have c64b1 : decide (0 < ((rd_T41 l0_1 x10_2).f3).length) = false := decide_eq_false (by omega)
                    clear c64
                    (first | rw [c64b0] | (simp only [i64_w, i32_w]; rw [c64b0]) | rw [c64b1] | skip)
                    have H' := Aside0.mk H
                    clear H
                    go_wp2
                    go_meet
                    case rel => exact ⟨_, (x9_2), (0), (by first | rfl | (simp; done) | (simp only [i64_w, i32_w]; done) | (simp [i64_w, i32_w]; done) | (simp [*]; done)), (by first | rfl | (simp; done) | (simp only [i64_w, i32_w]; done) | (simp [i64_w, i32_w]; done) | (simp [*]; done)), H', ⟨by have := HJ3.out; have := HK2.out; first | omega | exact Nat.le_refl _⟩, ⟨by (with_reducible repeat (first | apply Kd.R_alloc | apply Kd.R_drewN | apply Kd.R_drew)); exact Kd.R_mono (Kd.R_far (p := ⟨gb326, 3, none⟩) (Kd.R_far (p := ⟨gb326, 2, none⟩) (Kd.R_far (p := ⟨gb326, 1, none⟩) (Kd.R_far (p := ⟨gb326, 0, none⟩) (Kd.R_types HO_5.out BK326.out (by decide)) (fun _ hk => hk.2) (.int .u64 ((rd_T41 l0_1 x10_2).f0))) (fun _ hk => hk.2) (.int .u64 ((rd_T41 l0_1 x10_2).f1))) (fun _ hk => hk.2) (.int .i64 ((rd_T41 l0_1 x10_2).f2))) (fun _ hk => hk.2) (.slice A325_3 ((rd_T41 l0_1 x10_2).f3).length c325_3)) (fun _ hk => trivial)⟩, ⟨by (with_reducible repeat (first | refine blk_drewN ?_ _ | refine blk_drew ?_ | refine blk_alloc ?_ _)); refine blk_far ?_ NB280_326.out _; (with_reducible repeat (first | refine blk_drewN ?_ _ | refine blk_drew ?_ | refine blk_alloc ?_ _)); refine blk_far ?_ NB280_326.out _; (with_reducible repeat (first | refine blk_drewN ?_ _ | refine blk_drew ?_ | refine blk_alloc ?_ _)); refine blk_far ?_ NB280_326.out _; (with_reducible repeat (first | refine blk_drewN ?_ _ | refine blk_drew ?_ | refine blk_alloc ?_ _)); refine blk_far ?_ NB280_326.out _; (with_reducible repeat (first | refine blk_drewN ?_ _ | refine blk_drew ?_ | refine blk_alloc ?_ _)); exact BK280.out⟩, ⟨by (with_reducible repeat (first | refine blk_drewN ?_ _ | refine blk_drew ?_ | refine blk_alloc ?_ _)); refine blk_put (cs := #[.int .u64 ((rd_T41 l0_1 x10_2).f0), .int .u64 ((rd_T41 l0_1 x10_2).f1), .int .i64 ((rd_T41 l0_1 x10_2).f2), .slice none 0 0]) ?_ 3 _ rfl; (with_reducible repeat (first | refine blk_drewN ?_ _ | refine blk_drew ?_ | refine blk_alloc ?_ _)); refine blk_put (cs := #[.int .u64 ((rd_T41 l0_1 x10_2).f0), .int .u64 ((rd_T41 l0_1 x10_2).f1), .int .i64 0, .slice none 0 0]) ?_ 2 _ rfl; (with_reducible repeat (first | refine blk_drewN ?_ _ | refine blk_drew ?_ | refine blk_alloc ?_ _)); refine blk_put (cs := #[.int .u64 ((rd_T41 l0_1 x10_2).f0), .int .u64 0, .int .i64 0, .slice none 0 0]) ?_ 1 _ rfl; (with_reducible repeat (first | refine blk_drewN ?_ _ | refine blk_drew ?_ | refine blk_alloc ?_ _)); refine blk_put (cs := #[.int .u64 0, .int .u64 0, .int .i64 0, .slice none 0 0]) ?_ 0 _ rfl; (with_reducible repeat (first | refine blk_drewN ?_ _ | refine blk_drew ?_ | refine blk_alloc ?_ _)); exact BK326.out⟩, ⟨by repeat (first | (with_reducible first | exact HB.out | apply below_alloc | apply pw_below_drewN | apply below_drew1 | refine below_set ?_ GE280.out | refine below_set ?_ GE326.out) | exact HB.out)⟩⟩
                case rest =>
                  clear HC59
                  try clear c1
                  try clear c2
                  try clear p2
                  try clear c3
                  try clear c3b0
                  try clear c3b1
                  try clear p3
                  try clear q3
                  try clear hx3
                  try clear c5
                  try clear c6
                  try clear p6
                  try clear c8
                  try clear c10
                  try clear c11
                  try clear c11b0
                  try clear c11b1
                  try clear c20
                  try clear c25
                  try clear c26
                  try clear c32
                  try clear p32
                  try clear q32
                  try clear hx32
                  try clear c57
                  try clear c57b0
                  try clear c58
                  try clear c58b0
                  try clear c62
                  try clear c64
                  try clear c64b0
                  try clear c64b1
                  try clear p64
                  try clear c66
                  try clear hcz10_0
                  try clear hcz10_1
                  try clear hcz10_2
                  try clear hcz13_0
                  try clear hcz13_1
                  try clear hcz13_2
                  try clear hcz34_0
                  try clear hcz34_1
                  try clear hcz34_2
                  try clear hcz47_0
                  try clear hcz47_1
                  try clear hcz47_2
                  try clear hcz56_0
                  try clear hcz56_1
                  try clear hcz56_2
                  try clear hcz60_0
                  try clear hcz60_1
                  try clear hcz60_2
                  try clear hcz63_0
                  try clear hcz63_1
                  try clear hcz63_2
                  try clear hcz63_3
                  try clear hcz67_0
                  try clear hcz67_1
                  try clear hcz67_2
                  try clear hcz67_3
                  try clear hcz6_0
                  try clear hcz6_1
                  try clear hcz6_2
                  try clear hfz10_0
                  try clear hfz10_1
                  try clear hfz10_2
                  try clear hfz13_0
                  try clear hfz13_1
                  try clear hfz13_2
                  try clear hfz34_0
                  try clear hfz34_1
                  try clear hfz34_2
                  try clear hfz47_0
                  try clear hfz47_1
                  try clear hfz47_2
                  try clear hfz56_0
                  try clear hfz56_1
                  try clear hfz56_2
                  try clear hfz60_0
                  try clear hfz60_1
                  try clear hfz60_2
                  try clear hfz63_0
                  try clear hfz63_1
                  try clear hfz63_2
                  try clear hfz63_3
                  try clear hfz67_0
                  try clear hfz67_1
                  try clear hfz67_2
                  try clear hfz67_3
                  try clear hfz6_0
                  try clear hfz6_1
                  try clear hfz6_2
                  try clear hx325_0
                  try clear hx325_1
                  try clear hx325_2
                  try clear hx325_3
                  try clear p2
                  try clear p325
                  try clear p6
                  try clear q325
                  obtain ⟨kq, x9_58, x12_58, rfl, rfl, HA, HJ58, HO_5, BK280, BK326, HB⟩ := hcut
                  cases kq with
                  | zero => exact absurd HA.out (by simp [anvilref02_Write.j2])
                  | succ kj58 =>
                    have H := HA.out
                    clear HA
                    simp only [anvilref02_Write.j2] at H
                    replace H := Option.bind_eq_some_iff.mp H
                    obtain ⟨t328, A680, H⟩ := H
                    replace H : ((anvilref02_num.f kj58 t328 (IntKind.u64.wrap (wrap64 ((wrap64 ((Int.tmod (wrap64 (Int.tdiv ((rd_T41 l0_1 x10_2).f2) 4)) 2) + (wrap64 ((Int.tmod (wrap64 (Int.tdiv ((rd_T41 l0_1 x10_2).f2) 2)) 2) * 2)))) + (wrap64 ((Int.tmod ((rd_T41 l0_1 x10_2).f2) 2) * 4))))) 4).bind fun t331 => ((anvilref02_num.f kj58 t331 (IntKind.u64.wrap (x12_58)) 8).bind fun t334 => ((anvilref02_num.f kj58 t334 ((rd_T41 l0_1 x10_2).f0) 8).bind fun t337 => ((anvilref02_num.f kj58 t337 ((rd_T41 l0_1 x10_2).f0) 8).bind fun t340 => ((anvilref02_num.f kj58 t340 (IntKind.u64.wrap ((((rd_T41 l0_1 x10_2).f3).length : Int))) 8).bind fun t343 => ((anvilref02_num.f kj58 t343 ((rd_T41 l0_1 x10_2).f1) 8).bind fun t346 => ((anvilref02_num.f kj58 t346 1 8).bind fun t349 => (anvilref02_Write.l0 kj58 t349 x9_58 (wrap64 (x10_2 + 1)) a0_0 l0_1 l0_2)))))))) = some (r1, r2) := H
                    have A68 := Aside0.mk A680
                    clear A680
                    replace H := Option.bind_eq_some_iff.mp H
                    obtain ⟨t331, A690, H⟩ := H
                    replace H : ((anvilref02_num.f kj58 t331 (IntKind.u64.wrap (x12_58)) 8).bind fun t334 => ((anvilref02_num.f kj58 t334 ((rd_T41 l0_1 x10_2).f0) 8).bind fun t337 => ((anvilref02_num.f kj58 t337 ((rd_T41 l0_1 x10_2).f0) 8).bind fun t340 => ((anvilref02_num.f kj58 t340 (IntKind.u64.wrap ((((rd_T41 l0_1 x10_2).f3).length : Int))) 8).bind fun t343 => ((anvilref02_num.f kj58 t343 ((rd_T41 l0_1 x10_2).f1) 8).bind fun t346 => ((anvilref02_num.f kj58 t346 1 8).bind fun t349 => (anvilref02_Write.l0 kj58 t349 x9_58 (wrap64 (x10_2 + 1)) a0_0 l0_1 l0_2))))))) = some (r1, r2) := H
                    have A69 := Aside0.mk A690
                    clear A690
                    replace H := Option.bind_eq_some_iff.mp H
                    obtain ⟨t334, A700, H⟩ := H
                    replace H : ((anvilref02_num.f kj58 t334 ((rd_T41 l0_1 x10_2).f0) 8).bind fun t337 => ((anvilref02_num.f kj58 t337 ((rd_T41 l0_1 x10_2).f0) 8).bind fun t340 => ((anvilref02_num.f kj58 t340 (IntKind.u64.wrap ((((rd_T41 l0_1 x10_2).f3).length : Int))) 8).bind fun t343 => ((anvilref02_num.f kj58 t343 ((rd_T41 l0_1 x10_2).f1) 8).bind fun t346 => ((anvilref02_num.f kj58 t346 1 8).bind fun t349 => (anvilref02_Write.l0 kj58 t349 x9_58 (wrap64 (x10_2 + 1)) a0_0 l0_1 l0_2)))))) = some (r1, r2) := H
                    have A70 := Aside0.mk A700
                    clear A700
                    replace H := Option.bind_eq_some_iff.mp H
                    obtain ⟨t337, A710, H⟩ := H
                    replace H : ((anvilref02_num.f kj58 t337 ((rd_T41 l0_1 x10_2).f0) 8).bind fun t340 => ((anvilref02_num.f kj58 t340 (IntKind.u64.wrap ((((rd_T41 l0_1 x10_2).f3).length : Int))) 8).bind fun t343 => ((anvilref02_num.f kj58 t343 ((rd_T41 l0_1 x10_2).f1) 8).bind fun t346 => ((anvilref02_num.f kj58 t346 1 8).bind fun t349 => (anvilref02_Write.l0 kj58 t349 x9_58 (wrap64 (x10_2 + 1)) a0_0 l0_1 l0_2))))) = some (r1, r2) := H
                    have A71 := Aside0.mk A710
                    clear A710
                    replace H := Option.bind_eq_some_iff.mp H
                    obtain ⟨t340, A720, H⟩ := H
                    replace H : ((anvilref02_num.f kj58 t340 (IntKind.u64.wrap ((((rd_T41 l0_1 x10_2).f3).length : Int))) 8).bind fun t343 => ((anvilref02_num.f kj58 t343 ((rd_T41 l0_1 x10_2).f1) 8).bind fun t346 => ((anvilref02_num.f kj58 t346 1 8).bind fun t349 => (anvilref02_Write.l0 kj58 t349 x9_58 (wrap64 (x10_2 + 1)) a0_0 l0_1 l0_2)))) = some (r1, r2) := H
                    have A72 := Aside0.mk A720
                    clear A720
                    replace H := Option.bind_eq_some_iff.mp H
                    obtain ⟨t343, A730, H⟩ := H
                    replace H : ((anvilref02_num.f kj58 t343 ((rd_T41 l0_1 x10_2).f1) 8).bind fun t346 => ((anvilref02_num.f kj58 t346 1 8).bind fun t349 => (anvilref02_Write.l0 kj58 t349 x9_58 (wrap64 (x10_2 + 1)) a0_0 l0_1 l0_2))) = some (r1, r2) := H
                    have A73 := Aside0.mk A730
                    clear A730
                    replace H := Option.bind_eq_some_iff.mp H
                    obtain ⟨t346, A740, H⟩ := H
                    replace H : ((anvilref02_num.f kj58 t346 1 8).bind fun t349 => (anvilref02_Write.l0 kj58 t349 x9_58 (wrap64 (x10_2 + 1)) a0_0 l0_1 l0_2)) = some (r1, r2) := H
                    have A74 := Aside0.mk A740
                    clear A740
                    replace H := Option.bind_eq_some_iff.mp H
                    obtain ⟨t349, A750, H⟩ := H
                    replace H : (anvilref02_Write.l0 kj58 t349 x9_58 (wrap64 (x10_2 + 1)) a0_0 l0_1 l0_2) = some (r1, r2) := H
                    have A75 := Aside0.mk A750
                    clear A750
                    have H' := Aside0.mk H
                    clear H
                    have hnb76 := NB326_280.out
                    have hnc76 := NB280_326.out
                    have hcz77_0 : wc.cell? ⟨gb326, 0, none⟩ = some (.int .u64 ((rd_T41 l0_1 x10_2).f0)) := (blk_cell BK326.out 0).trans rfl
                    have hcz77_1 : wc.cell? ⟨gb326, 1, none⟩ = some (.int .u64 ((rd_T41 l0_1 x10_2).f1)) := (blk_cell BK326.out 1).trans rfl
                    have hcz77_2 : wc.cell? ⟨gb326, 2, none⟩ = some (.int .i64 ((rd_T41 l0_1 x10_2).f2)) := (blk_cell BK326.out 2).trans rfl
                    have hcz77_3 : wc.cell? ⟨gb326, 3, none⟩ = some (.slice A325_3 ((rd_T41 l0_1 x10_2).f3).length c325_3) := (blk_cell BK326.out 3).trans rfl
                    have hfz77_0 := blk_frozen BK326.out 0
                    have hfz77_1 := blk_frozen BK326.out 1
                    have hfz77_2 := blk_frozen BK326.out 2
                    have hfz77_3 := blk_frozen BK326.out 3
                    obtain ⟨Ao78, co78, eo78⟩ := Kd.R_slice HO_5.out
                    subst eo78
                    go_wp2_with (first | ((with_reducible refine gate_callee (f := 25) rfl ?_); refine goesL_ (some 108) rfl rfl Tryd.func25 (by kernel_rfl) rfl #[.slice Ao78 x5_2.length co78, .int .u64 1, .int .i64 4] rfl (by (try simp only [List.map_toArray, List.map_cons, List.map_nil]); first | done | rfl | (simp only [List.length_drop, List.length_take]; rfl)) ?_; (with_reducible refine (anvilref02_num.calls kj58 (fun k_ => some k_ = (.slice Ao78 x5_2.length co78 : Value).ownBlock) (.slice Ao78 x5_2.length co78) x5_2 1 4 t328 w _ ?side1 ?side2 A68.out).mono ?_); (case side1 => repeat (first | (with_reducible first | exact HB.out | apply below_alloc | apply pw_below_drewN | apply below_drew1 | refine below_set ?_ GE280.out | refine below_set ?_ GE326.out) | exact HB.out)); (case side2 => exact Kd.R_tight rfl HO_5.out); rintro e w79 ⟨v329, rfl, ho0, hb, hkp⟩; refine ⟨_, rfl, ?_⟩; have n0_ := Aside0.mk (blk_kept (by (with_reducible repeat (first | refine blk_drewN ?_ _ | refine blk_drew ?_ | refine blk_alloc ?_ _)); exact BK280.out) hkp (fun hs_ => (fun e_ => (Kd.R_ne HO_5.out BK280.out (by decide)) e_) hs_)); have n1_ := Aside0.mk (blk_kept (by (with_reducible repeat (first | refine blk_drewN ?_ _ | refine blk_drew ?_ | refine blk_alloc ?_ _)); exact BK326.out) hkp (fun hs_ => (fun e_ => (Kd.R_ne HO_5.out BK326.out (by decide)) e_) hs_)); have n2_ := Aside0.mk (Kd.R_mono (ok' := fun k_ => True) ho0 (fun k_ hk_ => trivial)); have n3_ := Aside0.mk (hb); clear BK280; clear BK326; clear HB; clear HO_5; have BK280 := n0_; have BK326 := n1_; have HO330 := n2_; have HB := n3_; clear n0_ n1_ n2_ n3_; (try clear hb); (try clear hkp); (try clear ho0); obtain ⟨Ao80, co80, eo80⟩ := Kd.R_slice HO330.out; subst eo80) | ((with_reducible refine gate_callee (f := 25) rfl ?_); refine goesL_ (some 112) rfl rfl Tryd.func25 (by kernel_rfl) rfl #[.slice Ao80 t328.length co80, .int .u64 (IntKind.u64.wrap (wrap64 ((wrap64 ((Int.tmod (wrap64 (Int.tdiv ((rd_T41 l0_1 x10_2).f2) 4)) 2) + (wrap64 ((Int.tmod (wrap64 (Int.tdiv ((rd_T41 l0_1 x10_2).f2) 2)) 2) * 2)))) + (wrap64 ((Int.tmod ((rd_T41 l0_1 x10_2).f2) 2) * 4))))), .int .i64 4] rfl (by (try simp only [List.map_toArray, List.map_cons, List.map_nil]); first | done | rfl | (simp only [List.length_drop, List.length_take]; rfl)) ?_; (with_reducible refine (anvilref02_num.calls kj58 (fun k_ => some k_ = (.slice Ao80 t328.length co80 : Value).ownBlock) (.slice Ao80 t328.length co80) t328 (IntKind.u64.wrap (wrap64 ((wrap64 ((Int.tmod (wrap64 (Int.tdiv ((rd_T41 l0_1 x10_2).f2) 4)) 2) + (wrap64 ((Int.tmod (wrap64 (Int.tdiv ((rd_T41 l0_1 x10_2).f2) 2)) 2) * 2)))) + (wrap64 ((Int.tmod ((rd_T41 l0_1 x10_2).f2) 2) * 4))))) 4 t331 w _ ?side1 ?side2 A69.out).mono ?_); (case side1 => repeat (first | (with_reducible first | exact HB.out | apply below_alloc | apply pw_below_drewN | apply below_drew1 | refine below_set ?_ GE280.out | refine below_set ?_ GE326.out) | exact HB.out)); (case side2 => exact Kd.R_tight rfl HO330.out); rintro e w81 ⟨v332, rfl, ho0, hb, hkp⟩; refine ⟨_, rfl, ?_⟩; have n0_ := Aside0.mk (blk_kept (by (with_reducible repeat (first | refine blk_drewN ?_ _ | refine blk_drew ?_ | refine blk_alloc ?_ _)); exact BK280.out) hkp (fun hs_ => (fun e_ => (Kd.R_ne HO330.out BK280.out (by decide)) e_) hs_)); have n1_ := Aside0.mk (blk_kept (by (with_reducible repeat (first | refine blk_drewN ?_ _ | refine blk_drew ?_ | refine blk_alloc ?_ _)); exact BK326.out) hkp (fun hs_ => (fun e_ => (Kd.R_ne HO330.out BK326.out (by decide)) e_) hs_)); have n2_ := Aside0.mk (Kd.R_mono (ok' := fun k_ => True) ho0 (fun k_ hk_ => trivial)); have n3_ := Aside0.mk (hb); clear BK280; clear BK326; clear HB; clear HO330; have BK280 := n0_; have BK326 := n1_; have HO333 := n2_; have HB := n3_; clear n0_ n1_ n2_ n3_; (try clear hb); (try clear hkp); (try clear ho0); obtain ⟨Ao82, co82, eo82⟩ := Kd.R_slice HO333.out; subst eo82) | ((with_reducible refine gate_callee (f := 25) rfl ?_); refine goesL_ (some 116) rfl rfl Tryd.func25 (by kernel_rfl) rfl #[.slice Ao82 t331.length co82, .int .u64 (IntKind.u64.wrap (x12_58)), .int .i64 8] rfl (by (try simp only [List.map_toArray, List.map_cons, List.map_nil]); first | done | rfl | (simp only [List.length_drop, List.length_take]; rfl)) ?_; (with_reducible refine (anvilref02_num.calls kj58 (fun k_ => some k_ = (.slice Ao82 t331.length co82 : Value).ownBlock) (.slice Ao82 t331.length co82) t331 (IntKind.u64.wrap (x12_58)) 8 t334 w _ ?side1 ?side2 A70.out).mono ?_); (case side1 => repeat (first | (with_reducible first | exact HB.out | apply below_alloc | apply pw_below_drewN | apply below_drew1 | refine below_set ?_ GE280.out | refine below_set ?_ GE326.out) | exact HB.out)); (case side2 => exact Kd.R_tight rfl HO333.out); rintro e w83 ⟨v335, rfl, ho0, hb, hkp⟩; refine ⟨_, rfl, ?_⟩; have n0_ := Aside0.mk (blk_kept (by (with_reducible repeat (first | refine blk_drewN ?_ _ | refine blk_drew ?_ | refine blk_alloc ?_ _)); exact BK280.out) hkp (fun hs_ => (fun e_ => (Kd.R_ne HO333.out BK280.out (by decide)) e_) hs_)); have n1_ := Aside0.mk (blk_kept (by (with_reducible repeat (first | refine blk_drewN ?_ _ | refine blk_drew ?_ | refine blk_alloc ?_ _)); exact BK326.out) hkp (fun hs_ => (fun e_ => (Kd.R_ne HO333.out BK326.out (by decide)) e_) hs_)); have n2_ := Aside0.mk (Kd.R_mono (ok' := fun k_ => True) ho0 (fun k_ hk_ => trivial)); have n3_ := Aside0.mk (hb); clear BK280; clear BK326; clear HB; clear HO333; have BK280 := n0_; have BK326 := n1_; have HO336 := n2_; have HB := n3_; clear n0_ n1_ n2_ n3_; (try clear hb); (try clear hkp); (try clear ho0); have hcz84_0 : w83.cell? ⟨gb326, 0, none⟩ = some (.int .u64 ((rd_T41 l0_1 x10_2).f0)) := (blk_cell BK326.out 0).trans rfl; have hcz84_1 : w83.cell? ⟨gb326, 1, none⟩ = some (.int .u64 ((rd_T41 l0_1 x10_2).f1)) := (blk_cell BK326.out 1).trans rfl; have hcz84_2 : w83.cell? ⟨gb326, 2, none⟩ = some (.int .i64 ((rd_T41 l0_1 x10_2).f2)) := (blk_cell BK326.out 2).trans rfl; have hcz84_3 : w83.cell? ⟨gb326, 3, none⟩ = some (.slice A325_3 ((rd_T41 l0_1 x10_2).f3).length c325_3) := (blk_cell BK326.out 3).trans rfl; have hfz84_0 := blk_frozen BK326.out 0; have hfz84_1 := blk_frozen BK326.out 1; have hfz84_2 := blk_frozen BK326.out 2; have hfz84_3 := blk_frozen BK326.out 3; obtain ⟨Ao85, co85, eo85⟩ := Kd.R_slice HO336.out; subst eo85) | ((with_reducible refine gate_callee (f := 25) rfl ?_); refine goesL_ (some 120) rfl rfl Tryd.func25 (by kernel_rfl) rfl #[.slice Ao85 t334.length co85, .int .u64 ((rd_T41 l0_1 x10_2).f0), .int .i64 8] rfl (by (try simp only [List.map_toArray, List.map_cons, List.map_nil]); first | done | rfl | (simp only [List.length_drop, List.length_take]; rfl)) ?_; (with_reducible refine (anvilref02_num.calls kj58 (fun k_ => some k_ = (.slice Ao85 t334.length co85 : Value).ownBlock) (.slice Ao85 t334.length co85) t334 ((rd_T41 l0_1 x10_2).f0) 8 t337 w _ ?side1 ?side2 A71.out).mono ?_); (case side1 => repeat (first | (with_reducible first | exact HB.out | apply below_alloc | apply pw_below_drewN | apply below_drew1 | refine below_set ?_ GE280.out | refine below_set ?_ GE326.out) | exact HB.out)); (case side2 => exact Kd.R_tight rfl HO336.out); rintro e w86 ⟨v338, rfl, ho0, hb, hkp⟩; refine ⟨_, rfl, ?_⟩; have n0_ := Aside0.mk (blk_kept (by (with_reducible repeat (first | refine blk_drewN ?_ _ | refine blk_drew ?_ | refine blk_alloc ?_ _)); exact BK280.out) hkp (fun hs_ => (fun e_ => (Kd.R_ne HO336.out BK280.out (by decide)) e_) hs_)); have n1_ := Aside0.mk (blk_kept (by (with_reducible repeat (first | refine blk_drewN ?_ _ | refine blk_drew ?_ | refine blk_alloc ?_ _)); exact BK326.out) hkp (fun hs_ => (fun e_ => (Kd.R_ne HO336.out BK326.out (by decide)) e_) hs_)); have n2_ := Aside0.mk (Kd.R_mono (ok' := fun k_ => True) ho0 (fun k_ hk_ => trivial)); have n3_ := Aside0.mk (hb); clear BK280; clear BK326; clear HB; clear HO336; have BK280 := n0_; have BK326 := n1_; have HO339 := n2_; have HB := n3_; clear n0_ n1_ n2_ n3_; (try clear hb); (try clear hkp); (try clear ho0); have hcz87_0 : w86.cell? ⟨gb326, 0, none⟩ = some (.int .u64 ((rd_T41 l0_1 x10_2).f0)) := (blk_cell BK326.out 0).trans rfl; have hcz87_1 : w86.cell? ⟨gb326, 1, none⟩ = some (.int .u64 ((rd_T41 l0_1 x10_2).f1)) := (blk_cell BK326.out 1).trans rfl; have hcz87_2 : w86.cell? ⟨gb326, 2, none⟩ = some (.int .i64 ((rd_T41 l0_1 x10_2).f2)) := (blk_cell BK326.out 2).trans rfl; have hcz87_3 : w86.cell? ⟨gb326, 3, none⟩ = some (.slice A325_3 ((rd_T41 l0_1 x10_2).f3).length c325_3) := (blk_cell BK326.out 3).trans rfl; have hfz87_0 := blk_frozen BK326.out 0; have hfz87_1 := blk_frozen BK326.out 1; have hfz87_2 := blk_frozen BK326.out 2; have hfz87_3 := blk_frozen BK326.out 3; obtain ⟨Ao88, co88, eo88⟩ := Kd.R_slice HO339.out; subst eo88) | ((with_reducible refine gate_callee (f := 25) rfl ?_); refine goesL_ (some 124) rfl rfl Tryd.func25 (by kernel_rfl) rfl #[.slice Ao88 t337.length co88, .int .u64 ((rd_T41 l0_1 x10_2).f0), .int .i64 8] rfl (by (try simp only [List.map_toArray, List.map_cons, List.map_nil]); first | done | rfl | (simp only [List.length_drop, List.length_take]; rfl)) ?_; (with_reducible refine (anvilref02_num.calls kj58 (fun k_ => some k_ = (.slice Ao88 t337.length co88 : Value).ownBlock) (.slice Ao88 t337.length co88) t337 ((rd_T41 l0_1 x10_2).f0) 8 t340 w _ ?side1 ?side2 A72.out).mono ?_); (case side1 => repeat (first | (with_reducible first | exact HB.out | apply below_alloc | apply pw_below_drewN | apply below_drew1 | refine below_set ?_ GE280.out | refine below_set ?_ GE326.out) | exact HB.out)); (case side2 => exact Kd.R_tight rfl HO339.out); rintro e w89 ⟨v341, rfl, ho0, hb, hkp⟩; refine ⟨_, rfl, ?_⟩; have n0_ := Aside0.mk (blk_kept (by (with_reducible repeat (first | refine blk_drewN ?_ _ | refine blk_drew ?_ | refine blk_alloc ?_ _)); exact BK280.out) hkp (fun hs_ => (fun e_ => (Kd.R_ne HO339.out BK280.out (by decide)) e_) hs_)); have n1_ := Aside0.mk (blk_kept (by (with_reducible repeat (first | refine blk_drewN ?_ _ | refine blk_drew ?_ | refine blk_alloc ?_ _)); exact BK326.out) hkp (fun hs_ => (fun e_ => (Kd.R_ne HO339.out BK326.out (by decide)) e_) hs_)); have n2_ := Aside0.mk (Kd.R_mono (ok' := fun k_ => True) ho0 (fun k_ hk_ => trivial)); have n3_ := Aside0.mk (hb); clear BK280; clear BK326; clear HB; clear HO339; have BK280 := n0_; have BK326 := n1_; have HO342 := n2_; have HB := n3_; clear n0_ n1_ n2_ n3_; (try clear hb); (try clear hkp); (try clear ho0); have hcz90_0 : w89.cell? ⟨gb326, 0, none⟩ = some (.int .u64 ((rd_T41 l0_1 x10_2).f0)) := (blk_cell BK326.out 0).trans rfl; have hcz90_1 : w89.cell? ⟨gb326, 1, none⟩ = some (.int .u64 ((rd_T41 l0_1 x10_2).f1)) := (blk_cell BK326.out 1).trans rfl; have hcz90_2 : w89.cell? ⟨gb326, 2, none⟩ = some (.int .i64 ((rd_T41 l0_1 x10_2).f2)) := (blk_cell BK326.out 2).trans rfl; have hcz90_3 : w89.cell? ⟨gb326, 3, none⟩ = some (.slice A325_3 ((rd_T41 l0_1 x10_2).f3).length c325_3) := (blk_cell BK326.out 3).trans rfl; have hfz90_0 := blk_frozen BK326.out 0; have hfz90_1 := blk_frozen BK326.out 1; have hfz90_2 := blk_frozen BK326.out 2; have hfz90_3 := blk_frozen BK326.out 3; obtain ⟨Ao91, co91, eo91⟩ := Kd.R_slice HO342.out; subst eo91) | ((with_reducible refine gate_callee (f := 25) rfl ?_); refine goesL_ (some 130) rfl rfl Tryd.func25 (by kernel_rfl) rfl #[.slice Ao91 t340.length co91, .int .u64 (IntKind.u64.wrap ((((rd_T41 l0_1 x10_2).f3).length : Int))), .int .i64 8] rfl (by (try simp only [List.map_toArray, List.map_cons, List.map_nil]); first | done | rfl | (simp only [List.length_drop, List.length_take]; rfl)) ?_; (with_reducible refine (anvilref02_num.calls kj58 (fun k_ => some k_ = (.slice Ao91 t340.length co91 : Value).ownBlock) (.slice Ao91 t340.length co91) t340 (IntKind.u64.wrap ((((rd_T41 l0_1 x10_2).f3).length : Int))) 8 t343 w _ ?side1 ?side2 A73.out).mono ?_); (case side1 => repeat (first | (with_reducible first | exact HB.out | apply below_alloc | apply pw_below_drewN | apply below_drew1 | refine below_set ?_ GE280.out | refine below_set ?_ GE326.out) | exact HB.out)); (case side2 => exact Kd.R_tight rfl HO342.out); rintro e w92 ⟨v344, rfl, ho0, hb, hkp⟩; refine ⟨_, rfl, ?_⟩; have n0_ := Aside0.mk (blk_kept (by (with_reducible repeat (first | refine blk_drewN ?_ _ | refine blk_drew ?_ | refine blk_alloc ?_ _)); exact BK280.out) hkp (fun hs_ => (fun e_ => (Kd.R_ne HO342.out BK280.out (by decide)) e_) hs_)); have n1_ := Aside0.mk (blk_kept (by (with_reducible repeat (first | refine blk_drewN ?_ _ | refine blk_drew ?_ | refine blk_alloc ?_ _)); exact BK326.out) hkp (fun hs_ => (fun e_ => (Kd.R_ne HO342.out BK326.out (by decide)) e_) hs_)); have n2_ := Aside0.mk (Kd.R_mono (ok' := fun k_ => True) ho0 (fun k_ hk_ => trivial)); have n3_ := Aside0.mk (hb); clear BK280; clear BK326; clear HB; clear HO342; have BK280 := n0_; have BK326 := n1_; have HO345 := n2_; have HB := n3_; clear n0_ n1_ n2_ n3_; (try clear hb); (try clear hkp); (try clear ho0); have hcz93_0 : w92.cell? ⟨gb326, 0, none⟩ = some (.int .u64 ((rd_T41 l0_1 x10_2).f0)) := (blk_cell BK326.out 0).trans rfl; have hcz93_1 : w92.cell? ⟨gb326, 1, none⟩ = some (.int .u64 ((rd_T41 l0_1 x10_2).f1)) := (blk_cell BK326.out 1).trans rfl; have hcz93_2 : w92.cell? ⟨gb326, 2, none⟩ = some (.int .i64 ((rd_T41 l0_1 x10_2).f2)) := (blk_cell BK326.out 2).trans rfl; have hcz93_3 : w92.cell? ⟨gb326, 3, none⟩ = some (.slice A325_3 ((rd_T41 l0_1 x10_2).f3).length c325_3) := (blk_cell BK326.out 3).trans rfl; have hfz93_0 := blk_frozen BK326.out 0; have hfz93_1 := blk_frozen BK326.out 1; have hfz93_2 := blk_frozen BK326.out 2; have hfz93_3 := blk_frozen BK326.out 3; obtain ⟨Ao94, co94, eo94⟩ := Kd.R_slice HO345.out; subst eo94) | ((with_reducible refine gate_callee (f := 25) rfl ?_); refine goesL_ (some 134) rfl rfl Tryd.func25 (by kernel_rfl) rfl #[.slice Ao94 t343.length co94, .int .u64 ((rd_T41 l0_1 x10_2).f1), .int .i64 8] rfl (by (try simp only [List.map_toArray, List.map_cons, List.map_nil]); first | done | rfl | (simp only [List.length_drop, List.length_take]; rfl)) ?_; (with_reducible refine (anvilref02_num.calls kj58 (fun k_ => some k_ = (.slice Ao94 t343.length co94 : Value).ownBlock) (.slice Ao94 t343.length co94) t343 ((rd_T41 l0_1 x10_2).f1) 8 t346 w _ ?side1 ?side2 A74.out).mono ?_); (case side1 => repeat (first | (with_reducible first | exact HB.out | apply below_alloc | apply pw_below_drewN | apply below_drew1 | refine below_set ?_ GE280.out | refine below_set ?_ GE326.out) | exact HB.out)); (case side2 => exact Kd.R_tight rfl HO345.out); rintro e w95 ⟨v347, rfl, ho0, hb, hkp⟩; refine ⟨_, rfl, ?_⟩; have n0_ := Aside0.mk (blk_kept (by (with_reducible repeat (first | refine blk_drewN ?_ _ | refine blk_drew ?_ | refine blk_alloc ?_ _)); exact BK280.out) hkp (fun hs_ => (fun e_ => (Kd.R_ne HO345.out BK280.out (by decide)) e_) hs_)); have n1_ := Aside0.mk (blk_kept (by (with_reducible repeat (first | refine blk_drewN ?_ _ | refine blk_drew ?_ | refine blk_alloc ?_ _)); exact BK326.out) hkp (fun hs_ => (fun e_ => (Kd.R_ne HO345.out BK326.out (by decide)) e_) hs_)); have n2_ := Aside0.mk (Kd.R_mono (ok' := fun k_ => True) ho0 (fun k_ hk_ => trivial)); have n3_ := Aside0.mk (hb); clear BK280; clear BK326; clear HB; clear HO345; have BK280 := n0_; have BK326 := n1_; have HO348 := n2_; have HB := n3_; clear n0_ n1_ n2_ n3_; (try clear hb); (try clear hkp); (try clear ho0); obtain ⟨Ao96, co96, eo96⟩ := Kd.R_slice HO348.out; subst eo96) | ((with_reducible refine gate_callee (f := 25) rfl ?_); refine goesL_ (some 136) rfl rfl Tryd.func25 (by kernel_rfl) rfl #[.slice Ao96 t346.length co96, .int .u64 1, .int .i64 8] rfl (by (try simp only [List.map_toArray, List.map_cons, List.map_nil]); first | done | rfl | (simp only [List.length_drop, List.length_take]; rfl)) ?_; (with_reducible refine (anvilref02_num.calls kj58 (fun k_ => some k_ = (.slice Ao96 t346.length co96 : Value).ownBlock) (.slice Ao96 t346.length co96) t346 1 8 t349 w _ ?side1 ?side2 A75.out).mono ?_); (case side1 => repeat (first | (with_reducible first | exact HB.out | apply below_alloc | apply pw_below_drewN | apply below_drew1 | refine below_set ?_ GE280.out | refine below_set ?_ GE326.out) | exact HB.out)); (case side2 => exact Kd.R_tight rfl HO348.out); rintro e w97 ⟨v350, rfl, ho0, hb, hkp⟩; refine ⟨_, rfl, ?_⟩; have n0_ := Aside0.mk (blk_kept (by (with_reducible repeat (first | refine blk_drewN ?_ _ | refine blk_drew ?_ | refine blk_alloc ?_ _)); exact BK280.out) hkp (fun hs_ => (fun e_ => (Kd.R_ne HO348.out BK280.out (by decide)) e_) hs_)); have n1_ := Aside0.mk (blk_kept (by (with_reducible repeat (first | refine blk_drewN ?_ _ | refine blk_drew ?_ | refine blk_alloc ?_ _)); exact BK326.out) hkp (fun hs_ => (fun e_ => (Kd.R_ne HO348.out BK326.out (by decide)) e_) hs_)); have n2_ := Aside0.mk (Kd.R_mono (ok' := fun k_ => True) ho0 (fun k_ hk_ => trivial)); have n3_ := Aside0.mk (hb); clear BK280; clear BK326; clear HB; clear HO348; have BK280 := n0_; have BK326 := n1_; have HO351 := n2_; have HB := n3_; clear n0_ n1_ n2_ n3_; (try clear hb); (try clear hkp); (try clear ho0)))
                    go_roundg kj58
                    case measure => have := HJ3.out; have := HK2.out; have := HJ58.out; omega
                    case rel => exact ⟨(t349), (x9_58), (wrap64 (x10_2 + 1)), (by first | rfl | (simp; done) | (simp only [i64_w, i32_w]; done) | (simp [i64_w, i32_w]; done) | (simp [*]; done)), (by first | rfl | (simp; done) | (simp only [i64_w, i32_w]; done) | (simp [i64_w, i32_w]; done) | (simp [*]; done)), H', ⟨by have := HJ3.out; have := HK2.out; have := HJ58.out; omega⟩, ⟨by (with_reducible repeat (first | apply Kd.R_alloc | apply Kd.R_drewN | apply Kd.R_drew)); exact HO351.out⟩, ⟨by (with_reducible repeat (first | refine blk_drewN ?_ _ | refine blk_drew ?_ | refine blk_alloc ?_ _)); exact BK280.out⟩, ⟨by repeat (first | (with_reducible first | exact HB.out | apply below_alloc | apply pw_below_drewN | apply below_drew1 | refine below_set ?_ GE280.out | refine below_set ?_ GE326.out) | exact HB.out)⟩⟩
              · rw [if_neg c58] at H
                exact absurd H (by simp)
            · rw [if_neg c57] at H
              have c57b0 : decide (x10_2 < (l0_1.length : Int)) = false := decide_eq_false c57
              clear c57
              have H' := Aside0.mk H
              clear H
              have hcz98_0 : wr.cell? ⟨gb280, 0, none⟩ = some (.int .u64 a0_0) := (blk_cell BK280.out 0).trans rfl
              have hcz98_1 : wr.cell? ⟨gb280, 1, none⟩ = some (.slice A0_1 l0_1.length c0_1) := (blk_cell BK280.out 1).trans rfl
              have hcz98_2 : wr.cell? ⟨gb280, 2, none⟩ = some (.slice A0_2 l0_2.length c0_2) := (blk_cell BK280.out 2).trans rfl
              have hfz98_0 := blk_frozen BK280.out 0
              have hfz98_1 := blk_frozen BK280.out 1
              have hfz98_2 := blk_frozen BK280.out 2
              go_wp2
              go_loopg [5, 14] k2 (fun kq v5 v14 w' => ∃ (x5_3 : List Int) (x14_3 : Int), v14 = .int .i64 x14_3 ∧ Aside0 (anvilref02_Write.l1 kq x5_3 x14_3 a0_0 l0_1 l0_2 = some (r1, r2)) ∧ Aside0 (kq ≤ k2) ∧ Aside0 (Kd.R (Kd.int .u8) 5 w' w.heap.size (fun _ => True) v5 x5_3) ∧ Aside0 (w'.heap[gb280]? = some (.cells #[.int .u64 a0_0, (.slice A0_1 l0_1.length c0_1), (.slice A0_2 l0_2.length c0_2)] 26 (0, 0))) ∧ Aside0 (Below w.heap.size w w'))
              case atStart => exact ⟨(x5_2), (0), (by first | rfl | (simp; done) | (simp only [i64_w, i32_w]; done) | (simp [i64_w, i32_w]; done) | (simp [*]; done)), H', ⟨Nat.le_refl _⟩, ⟨by (with_reducible repeat (first | apply Kd.R_alloc | apply Kd.R_drewN | apply Kd.R_drew)); exact HO_5.out⟩, ⟨by (with_reducible repeat (first | refine blk_drewN ?_ _ | refine blk_drew ?_ | refine blk_alloc ?_ _)); exact BK280.out⟩, ⟨by repeat (first | (with_reducible first | exact HB.out | apply below_alloc | apply pw_below_drewN | apply below_drew1 | refine below_set ?_ GE280.out) | exact HB.out)⟩⟩
              case round =>
                clear H'
                try clear c1
                try clear c2
                try clear p2
                try clear c3
                try clear c3b0
                try clear c3b1
                try clear p3
                try clear q3
                try clear hx3
                try clear c5
                try clear c6
                try clear p6
                try clear c7
                try clear c8
                try clear c10
                try clear c11
                try clear c11b0
                try clear c11b1
                try clear c20
                try clear c25
                try clear c26
                try clear c32
                try clear p32
                try clear q32
                try clear hx32
                try clear c57
                try clear c57b0
                try clear c58
                try clear c58b0
                try clear c62
                try clear c64
                try clear c64b0
                try clear c64b1
                try clear p64
                try clear c66
                try clear c76
                try clear hcz10_0
                try clear hcz10_1
                try clear hcz10_2
                try clear hcz13_0
                try clear hcz13_1
                try clear hcz13_2
                try clear hcz34_0
                try clear hcz34_1
                try clear hcz34_2
                try clear hcz47_0
                try clear hcz47_1
                try clear hcz47_2
                try clear hcz56_0
                try clear hcz56_1
                try clear hcz56_2
                try clear hcz60_0
                try clear hcz60_1
                try clear hcz60_2
                try clear hcz63_0
                try clear hcz63_1
                try clear hcz63_2
                try clear hcz63_3
                try clear hcz67_0
                try clear hcz67_1
                try clear hcz67_2
                try clear hcz67_3
                try clear hcz6_0
                try clear hcz6_1
                try clear hcz6_2
                try clear hcz77_0
                try clear hcz77_1
                try clear hcz77_2
                try clear hcz77_3
                try clear hcz84_0
                try clear hcz84_1
                try clear hcz84_2
                try clear hcz84_3
                try clear hcz87_0
                try clear hcz87_1
                try clear hcz87_2
                try clear hcz87_3
                try clear hcz90_0
                try clear hcz90_1
                try clear hcz90_2
                try clear hcz90_3
                try clear hcz93_0
                try clear hcz93_1
                try clear hcz93_2
                try clear hcz93_3
                try clear hcz98_0
                try clear hcz98_1
                try clear hcz98_2
                try clear hfz10_0
                try clear hfz10_1
                try clear hfz10_2
                try clear hfz13_0
                try clear hfz13_1
                try clear hfz13_2
                try clear hfz34_0
                try clear hfz34_1
                try clear hfz34_2
                try clear hfz47_0
                try clear hfz47_1
                try clear hfz47_2
                try clear hfz56_0
                try clear hfz56_1
                try clear hfz56_2
                try clear hfz60_0
                try clear hfz60_1
                try clear hfz60_2
                try clear hfz63_0
                try clear hfz63_1
                try clear hfz63_2
                try clear hfz63_3
                try clear hfz67_0
                try clear hfz67_1
                try clear hfz67_2
                try clear hfz67_3
                try clear hfz6_0
                try clear hfz6_1
                try clear hfz6_2
                try clear hfz77_0
                try clear hfz77_1
                try clear hfz77_2
                try clear hfz77_3
                try clear hfz84_0
                try clear hfz84_1
                try clear hfz84_2
                try clear hfz84_3
                try clear hfz87_0
                try clear hfz87_1
                try clear hfz87_2
                try clear hfz87_3
                try clear hfz90_0
                try clear hfz90_1
                try clear hfz90_2
                try clear hfz90_3
                try clear hfz93_0
                try clear hfz93_1
                try clear hfz93_2
                try clear hfz93_3
                try clear hfz98_0
                try clear hfz98_1
                try clear hfz98_2
                try clear hx325_0
                try clear hx325_1
                try clear hx325_2
                try clear hx325_3
                try clear p2
                try clear p3
                try clear p32
                try clear p325
                try clear p6
                try clear p64
                try clear q3
                try clear q32
                try clear q325
                obtain ⟨x5_3, x14_3, rfl, HA, HK3, HO_5, BK280, HB⟩ := hrel
                cases gk with
                | zero => exact absurd HA.out (by simp [anvilref02_Write.l1])
                | succ k3 =>
                  have H := HA.out
                  clear HA
                  simp only [anvilref02_Write.l1] at H
                  by_cases c99 : x14_3 < (l0_1.length : Int)
                  · rw [if_pos c99] at H
                    have c99b0 : decide (x14_3 < (l0_1.length : Int)) = true := decide_eq_true c99
                    clear c99
                    by_cases c100 : 0 ≤ x14_3
                    · rw [if_pos c100] at H
                      have c100b0 : decide (0 ≤ x14_3) = true := decide_eq_true c100
                      clear c100
                      by_cases c101 : (((rd_T41 l0_1 x14_3).f3).length : Int) > 0
                      · rw [if_pos c101] at H
                        have c101b0 : decide (0 < (((rd_T41 l0_1 x14_3).f3).length : Int)) = true := decide_eq_true c101
                        have c101b1 : decide (0 < ((rd_T41 l0_1 x14_3).f3).length) = true := decide_eq_true (by omega)
                        clear c101
                        replace H := Option.bind_eq_some_iff.mp H
                        obtain ⟨t353, A1020, H⟩ := H
                        replace H : (if t353.length + ((rd_T41 l0_1 x14_3).f3).length < 140737488355328 then (anvilref02_Write.l1 k3 (t353 ++ ((rd_T41 l0_1 x14_3).f3)) (wrap64 (x14_3 + 1)) a0_0 l0_1 l0_2) else (none)) = some (r1, r2) := H
                        have A102 := Aside0.mk A1020
                        clear A1020
                        by_cases c103 : t353.length + ((rd_T41 l0_1 x14_3).f3).length < 140737488355328
                        · rw [if_pos c103] at H
                          have LMc103 := Aside0.mk c103
                          clear c103
                          obtain ⟨y357, hy357⟩ : ∃ y_ : List Int, y_ = (t353 ++ ((rd_T41 l0_1 x14_3).f3)) := ⟨_, rfl⟩
                          replace H : (anvilref02_Write.l1 k3 y357 (wrap64 (x14_3 + 1)) a0_0 l0_1 l0_2) = some (r1, r2) := by first | (rw [hy357]; with_reducible exact H) | (have H2_ := (Option.bind_some _ _).symm.trans H; rw [hy357]; with_reducible exact H2_) | (have H2_ := (Option.bind_some _ _).symm.trans H; with_reducible exact H2_) | with_reducible exact H | (rw [hy357]; exact H) | exact H
                          have Ny357 := Aside0.mk hy357
                          clear hy357
                          have H' := Aside0.mk H
                          clear H
                          have hcz104_0 : wr.cell? ⟨gb280, 0, none⟩ = some (.int .u64 a0_0) := (blk_cell BK280.out 0).trans rfl
                          have hcz104_1 : wr.cell? ⟨gb280, 1, none⟩ = some (.slice A0_1 l0_1.length c0_1) := (blk_cell BK280.out 1).trans rfl
                          have hcz104_2 : wr.cell? ⟨gb280, 2, none⟩ = some (.slice A0_2 l0_2.length c0_2) := (blk_cell BK280.out 2).trans rfl
                          have hfz104_0 := blk_frozen BK280.out 0
                          have hfz104_1 := blk_frozen BK280.out 1
                          have hfz104_2 := blk_frozen BK280.out 2
                          have p352 : 0 ≤ (x14_3 : Int) := of_decide_eq_true (by first | (with_reducible assumption) | assumption)
                          have q352 : x14_3 < (l0_1.length : Int) := of_decide_eq_true (by first | (with_reducible assumption) | assumption)
                          obtain ⟨ad352, A352_3, c352_3, e352, hx352_0, hx352_1, hx352_2, hx352_3, hl352_3, hi352_3⟩ := at_T41 HR0_1.out x14_3 p352 q352
                          cases e352
                          replace hx352_0 := (HB.out.cell (World.block_lt_of_cell? w _ hx352_0)).trans hx352_0
                          replace hx352_1 := (HB.out.cell (World.block_lt_of_cell? w _ hx352_1)).trans hx352_1
                          replace hx352_2 := (HB.out.cell (World.block_lt_of_cell? w _ hx352_2)).trans hx352_2
                          replace hx352_3 := (HB.out.cell (World.block_lt_of_cell? w _ hx352_3)).trans hx352_3
                          have HR352_3 := Aside0.mk hi352_3
                          have HC352_3 := Aside0.mk hl352_3
                          clear hi352_3 hl352_3
                          replace p352 := eq_true p352
                          replace q352 := eq_true q352
                          obtain ⟨Ao105, co105, eo105⟩ := Kd.R_slice HO_5.out
                          subst eo105
                          go_wp2_with (first | ((with_reducible refine gate_callee (f := 27) rfl ?_); refine goesL_ (some 153) rfl rfl Tryd.func27 (by kernel_rfl) rfl #[.slice Ao105 x5_3.length co105] rfl (by (try simp only [List.map_toArray, List.map_cons, List.map_nil]); first | done | rfl | (simp only [List.length_drop, List.length_take]; rfl)) ?_; (with_reducible refine (anvilref02_pad.calls k3 (fun k_ => some k_ = (.slice Ao105 x5_3.length co105 : Value).ownBlock) (.slice Ao105 x5_3.length co105) x5_3 t353 w _ ?side1 ?side2 A102.out).mono ?_); (case side1 => repeat (first | (with_reducible first | exact HB.out | apply below_alloc | apply pw_below_drewN | apply below_drew1 | refine below_set ?_ GE280.out) | exact HB.out)); (case side2 => exact Kd.R_tight rfl HO_5.out); rintro e w106 ⟨v354, rfl, ho0, hb, hkp⟩; refine ⟨_, rfl, ?_⟩; have n0_ := Aside0.mk (blk_kept (by (with_reducible repeat (first | refine blk_drewN ?_ _ | refine blk_drew ?_ | refine blk_alloc ?_ _)); exact BK280.out) hkp (fun hs_ => (fun e_ => (Kd.R_ne HO_5.out BK280.out (by decide)) e_) hs_)); have n1_ := Aside0.mk (Kd.R_mono (ok' := fun k_ => True) ho0 (fun k_ hk_ => trivial)); have n2_ := Aside0.mk (hb); clear BK280; clear HB; clear HO_5; have BK280 := n0_; have HO355 := n1_; have HB := n2_; clear n0_ n1_ n2_; (try clear hb); (try clear hkp); (try clear ho0); have hcz107_0 : w106.cell? ⟨gb280, 0, none⟩ = some (.int .u64 a0_0) := (blk_cell BK280.out 0).trans rfl; have hcz107_1 : w106.cell? ⟨gb280, 1, none⟩ = some (.slice (some ad352) l0_1.length c0_1) := (blk_cell BK280.out 1).trans rfl; have hcz107_2 : w106.cell? ⟨gb280, 2, none⟩ = some (.slice A0_2 l0_2.length c0_2) := (blk_cell BK280.out 2).trans rfl; have hfz107_0 := blk_frozen BK280.out 0; have hfz107_1 := blk_frozen BK280.out 1; have hfz107_2 := blk_frozen BK280.out 2; have p356 : 0 ≤ (x14_3 : Int) := of_decide_eq_true (by first | (with_reducible assumption) | assumption); have q356 : x14_3 < (l0_1.length : Int) := of_decide_eq_true (by first | (with_reducible assumption) | assumption); obtain ⟨ad356, A356_3, c356_3, e356, hx356_0, hx356_1, hx356_2, hx356_3, hl356_3, hi356_3⟩ := at_T41 HR0_1.out x14_3 p356 q356; obtain rfl : ad352 = ad356 := (by injection e356); replace hx356_0 := (HB.out.cell (World.block_lt_of_cell? w _ hx356_0)).trans hx356_0; replace hx356_1 := (HB.out.cell (World.block_lt_of_cell? w _ hx356_1)).trans hx356_1; replace hx356_2 := (HB.out.cell (World.block_lt_of_cell? w _ hx356_2)).trans hx356_2; replace hx356_3 := (HB.out.cell (World.block_lt_of_cell? w _ hx356_3)).trans hx356_3; have HR356_3 := Aside0.mk hi356_3; have HC356_3 := Aside0.mk hl356_3; clear hi356_3 hl356_3; replace p356 := eq_true p356; replace q356 := eq_true q356) | ((with_reducible refine gate_builtin (b := .append) (xs := #[.tmp 154, .tmp 160]) rfl ?_); at_builtin; refine Kd.R_append_rows (Kd.int .u8) (w0 := w) w.heap.size rfl (.tmp 154) (.tmp 160) 33 5 (.int .u8 0) 1 rfl Tryd.underlying33 info5 rfl (by decide) (by omega) v354 t353 ((rd_T41 l0_1 x14_3).f3) _ _ _ (fun _ => True) (fun _ => False) rfl rfl ?aO ?aR (fun _ _ h => h) (fun _ h => h.elim) ?aF ?aB ?aS ?aL ?_; (case aR => repeat (first | exact (Kd.C_below HR356_3.out HB.out) | (with_reducible refine Kd.C_alloc ?_ _) | (with_reducible refine Kd.C_drewN ?_ _) | (with_reducible refine Kd.C_drew ?_))); (case aB => exact (by repeat (first | (with_reducible first | exact HB.out | apply below_alloc | apply pw_below_drewN | apply below_drew1 | refine below_set ?_ GE280.out) | exact HB.out))); (case aF => exact (fun _ _ => trivial)); (case aO => exact (by (with_reducible repeat (first | apply Kd.R_alloc | apply Kd.R_drewN | apply Kd.R_drew)); exact HO355.out)); (case aS => exact (below_size (by repeat (first | (with_reducible first | exact HB.out | apply below_alloc | apply pw_below_drewN | apply below_drew1 | refine below_set ?_ GE280.out) | exact HB.out)))); (case aL => have := LMc103.out; omega); intro v358 w108 ho hb hg hat; rw [← Ny357.out] at ho; have n0_ := Aside0.mk (blk_grown (g := gb280) (o := .cells #[.int .u64 a0_0, .slice (some ad352) l0_1.length c0_1, .slice A0_2 l0_2.length c0_2] 26 (0, 0)) (by (with_reducible repeat (first | refine blk_drewN ?_ _ | refine blk_drew ?_ | refine blk_alloc ?_ _)); exact BK280.out) hg (Kd.R_ne HO355.out BK280.out (by decide))); have n1_ := Aside0.mk (hb); have n2_ := Aside0.mk (ho); clear BK280; clear HB; clear HO355; have BK280 := n0_; have HB := n1_; have HO359 := n2_; clear n0_ n1_ n2_; clear ho hb hg hat))
                          go_roundg k3
                          case measure => have := HJ3.out; have := HK2.out; have := HK3.out; omega
                          case rel => exact ⟨(y357), (wrap64 (x14_3 + 1)), (by first | rfl | (simp; done) | (simp only [i64_w, i32_w]; done) | (simp [i64_w, i32_w]; done) | (simp [*]; done)), H', ⟨by have := HJ3.out; have := HK2.out; have := HK3.out; omega⟩, ⟨by (with_reducible repeat (first | apply Kd.R_alloc | apply Kd.R_drewN | apply Kd.R_drew)); exact HO359.out⟩, ⟨by (with_reducible repeat (first | refine blk_drewN ?_ _ | refine blk_drew ?_ | refine blk_alloc ?_ _)); exact BK280.out⟩, ⟨by repeat (first | (with_reducible first | exact HB.out | apply below_alloc | apply pw_below_drewN | apply below_drew1 | refine below_set ?_ GE280.out) | exact HB.out)⟩⟩
                        · rw [if_neg c103] at H
                          exact absurd H (by simp)
                      · rw [if_neg c101] at H
                        have c101b0 : decide (0 < (((rd_T41 l0_1 x14_3).f3).length : Int)) = false := decide_eq_false c101
                        have c101b1 : decide (0 < ((rd_T41 l0_1 x14_3).f3).length) = false := decide_eq_false (by omega)
                        clear c101
                        have H' := Aside0.mk H
                        clear H
                        have hcz109_0 : wr.cell? ⟨gb280, 0, none⟩ = some (.int .u64 a0_0) := (blk_cell BK280.out 0).trans rfl
                        have hcz109_1 : wr.cell? ⟨gb280, 1, none⟩ = some (.slice A0_1 l0_1.length c0_1) := (blk_cell BK280.out 1).trans rfl
                        have hcz109_2 : wr.cell? ⟨gb280, 2, none⟩ = some (.slice A0_2 l0_2.length c0_2) := (blk_cell BK280.out 2).trans rfl
                        have hfz109_0 := blk_frozen BK280.out 0
                        have hfz109_1 := blk_frozen BK280.out 1
                        have hfz109_2 := blk_frozen BK280.out 2
                        have p352 : 0 ≤ (x14_3 : Int) := of_decide_eq_true (by first | (with_reducible assumption) | assumption)
                        have q352 : x14_3 < (l0_1.length : Int) := of_decide_eq_true (by first | (with_reducible assumption) | assumption)
                        obtain ⟨ad352, A352_3, c352_3, e352, hx352_0, hx352_1, hx352_2, hx352_3, hl352_3, hi352_3⟩ := at_T41 HR0_1.out x14_3 p352 q352
                        cases e352
                        replace hx352_0 := (HB.out.cell (World.block_lt_of_cell? w _ hx352_0)).trans hx352_0
                        replace hx352_1 := (HB.out.cell (World.block_lt_of_cell? w _ hx352_1)).trans hx352_1
                        replace hx352_2 := (HB.out.cell (World.block_lt_of_cell? w _ hx352_2)).trans hx352_2
                        replace hx352_3 := (HB.out.cell (World.block_lt_of_cell? w _ hx352_3)).trans hx352_3
                        have HR352_3 := Aside0.mk hi352_3
                        have HC352_3 := Aside0.mk hl352_3
                        clear hi352_3 hl352_3
                        replace p352 := eq_true p352
                        replace q352 := eq_true q352
                        go_wp2
                        go_roundg k3
                        case measure => have := HJ3.out; have := HK2.out; have := HK3.out; omega
                        case rel => exact ⟨(x5_3), (wrap64 (x14_3 + 1)), (by first | rfl | (simp; done) | (simp only [i64_w, i32_w]; done) | (simp [i64_w, i32_w]; done) | (simp [*]; done)), H', ⟨by have := HJ3.out; have := HK2.out; have := HK3.out; omega⟩, ⟨by (with_reducible repeat (first | apply Kd.R_alloc | apply Kd.R_drewN | apply Kd.R_drew)); exact HO_5.out⟩, ⟨by (with_reducible repeat (first | refine blk_drewN ?_ _ | refine blk_drew ?_ | refine blk_alloc ?_ _)); exact BK280.out⟩, ⟨by repeat (first | (with_reducible first | exact HB.out | apply below_alloc | apply pw_below_drewN | apply below_drew1 | refine below_set ?_ GE280.out) | exact HB.out)⟩⟩
                    · rw [if_neg c100] at H
                      exact absurd H (by simp)
                  · rw [if_neg c99] at H
                    have c99b0 : decide (x14_3 < (l0_1.length : Int)) = false := decide_eq_false c99
                    clear c99
                    by_cases c110 : (l0_2.length : Int) = 0
                    · rw [if_pos c110] at H
                      have c110b0 : ((l0_2.length : Int) == 0) = true := beq_iff_eq.mpr c110
                      have c110b1 : ((l0_2.length : Int) != 0) = false := bne_eq_false_iff_eq.mpr c110
                      clear c110
                      simp only [Option.some.injEq, Prod.mk.injEq] at H
                      obtain ⟨rfl, rfl⟩ := H
                      have hcz111_0 : wr.cell? ⟨gb280, 0, none⟩ = some (.int .u64 a0_0) := (blk_cell BK280.out 0).trans rfl
                      have hcz111_1 : wr.cell? ⟨gb280, 1, none⟩ = some (.slice A0_1 l0_1.length c0_1) := (blk_cell BK280.out 1).trans rfl
                      have hcz111_2 : wr.cell? ⟨gb280, 2, none⟩ = some (.slice A0_2 l0_2.length c0_2) := (blk_cell BK280.out 2).trans rfl
                      have hfz111_0 := blk_frozen BK280.out 0
                      have hfz111_1 := blk_frozen BK280.out 1
                      have hfz111_2 := blk_frozen BK280.out 2
                      go_wp2
                      go_ret2
                      exact ⟨_, by first | rfl | (simp [errW_none, errW_some] <;> rfl) | (simp [*, errW_none, errW_some] <;> rfl), by (with_reducible repeat (first | apply Kd.R_alloc | apply Kd.R_drewN | apply Kd.R_drew)); exact HO_5.out, by repeat (first | (with_reducible first | exact HB.out | apply below_alloc | apply pw_below_drewN | apply below_drew1 | refine below_set ?_ GE280.out) | exact HB.out)⟩
                    · rw [if_neg c110] at H
                      have c110b0 : ((l0_2.length : Int) == 0) = false := beq_eq_false_iff_ne.mpr c110
                      have c110b1 : ((l0_2.length : Int) != 0) = true := bne_iff_ne.mpr c110
                      have c110b2 : ¬ (l0_2 = []) := fun h_ => c110 (by rw [h_]; rfl)
                      replace H := Option.bind_eq_some_iff.mp H
                      obtain ⟨t360, A1120, H⟩ := H
                      replace H : (some (t360, 0)) = some (r1, r2) := H
                      have A112 := Aside0.mk A1120
                      clear A1120
                      simp only [Option.some.injEq, Prod.mk.injEq] at H
                      obtain ⟨rfl, rfl⟩ := H
                      have hcz113_0 : wr.cell? ⟨gb280, 0, none⟩ = some (.int .u64 a0_0) := (blk_cell BK280.out 0).trans rfl
                      have hcz113_1 : wr.cell? ⟨gb280, 1, none⟩ = some (.slice A0_1 l0_1.length c0_1) := (blk_cell BK280.out 1).trans rfl
                      have hcz113_2 : wr.cell? ⟨gb280, 2, none⟩ = some (.slice A0_2 l0_2.length c0_2) := (blk_cell BK280.out 2).trans rfl
                      have hfz113_0 := blk_frozen BK280.out 0
                      have hfz113_1 := blk_frozen BK280.out 1
                      have hfz113_2 := blk_frozen BK280.out 2
                      obtain ⟨Ao114, co114, eo114⟩ := Kd.R_slice HO_5.out
                      subst eo114
                      go_wp2_with (first | ((with_reducible refine gate_callee (f := 28) rfl ?_); refine goesL_ (some 170) rfl rfl Tryd.func28 (by kernel_rfl) rfl #[.slice Ao114 x5_3.length co114, .slice A0_2 l0_2.length c0_2] rfl (by (try simp only [List.map_toArray, List.map_cons, List.map_nil]); first | done | rfl | (simp only [List.length_drop, List.length_take]; rfl)) ?_; (with_reducible refine (anvilref02_symbols.calls k3 (fun k_ => some k_ = (.slice Ao114 x5_3.length co114 : Value).ownBlock) (.slice Ao114 x5_3.length co114) x5_3 _ _ l0_2 t360 w _ ?side1 ?side2 ?side3 ?side4 A112.out).mono ?_); (case side1 => repeat (first | (with_reducible first | exact HB.out | apply below_alloc | apply pw_below_drewN | apply below_drew1 | refine below_set ?_ GE280.out) | exact HB.out)); (case side2 => exact Kd.R_tight rfl HO_5.out); (case side3 => exact Kd.C_kept_came k44_heap HR0_2.out (by repeat (first | (with_reducible first | exact HB.out | apply below_alloc | apply pw_below_drewN | apply below_drew1 | refine below_set ?_ GE280.out) | exact HB.out)) (fun k_ hs_ => (fun e_ => Kd.R_base HO_5.out k_ e_.symm) hs_)); (case side4 => exact HC0_2.out); rintro e w115 ⟨v361, rfl, ho0, hb, hkp⟩; refine ⟨_, rfl, ?_⟩; have n0_ := Aside0.mk (blk_kept (by (with_reducible repeat (first | refine blk_drewN ?_ _ | refine blk_drew ?_ | refine blk_alloc ?_ _)); exact BK280.out) hkp (fun hs_ => (fun e_ => (Kd.R_ne HO_5.out BK280.out (by decide)) e_) hs_)); have n1_ := Aside0.mk (Kd.R_mono (ok' := fun k_ => True) ho0 (fun k_ hk_ => trivial)); have n2_ := Aside0.mk (hb); clear BK280; clear HB; clear HO_5; have BK280 := n0_; have HO362 := n1_; have HB := n2_; clear n0_ n1_ n2_; (try clear hb); (try clear hkp); (try clear ho0)))
                      go_ret2
                      exact ⟨_, by first | rfl | (simp [errW_none, errW_some] <;> rfl) | (simp [*, errW_none, errW_some] <;> rfl), by (with_reducible repeat (first | apply Kd.R_alloc | apply Kd.R_drewN | apply Kd.R_drew)); exact HO362.out, by repeat (first | (with_reducible first | exact HB.out | apply below_alloc | apply pw_below_drewN | apply below_drew1 | refine below_set ?_ GE280.out) | exact HB.out)⟩
  · rw [if_neg c3] at H
    have c3b0 : (t281 == 0) = false := beq_eq_false_iff_ne.mpr c3
    have c3b1 : (t281 != 0) = true := bne_iff_ne.mpr c3
    simp only [Option.some.injEq, Prod.mk.injEq] at H
    obtain ⟨rfl, rfl⟩ := H
    go_enter Tryd.func10, Tryd.ntmps10
    go_wp2_with (first | ((with_reducible refine gate_dst (N := 1) rfl ?_); refine box_event ?hg (N := 1) ?hd (cs := #[.int .u64 a0_0, .slice A0_1 l0_1.length c0_1, .slice A0_2 l0_2.length c0_2]) (t := 26) ?hr ?_; (case hd => rfl); (case hg => rfl); (case hr => first | (go_simp; done) | (go_simp; rfl)); intro gb280 hg w116 hbox hb; have n0_ := Aside0.mk (below_step (by repeat (first | (with_reducible first | exact HB.out | apply below_alloc | apply pw_below_drewN | apply below_drew1) | exact HB.out)) hb); have n1_ := Aside0.mk (hbox); have n2_ := Aside0.mk ((by rw [hg]; exact (below_size (by repeat (first | (with_reducible first | exact HB.out | apply below_alloc | apply pw_below_drewN | apply below_drew1) | exact HB.out))) : w.heap.size ≤ gb280)); have n3_ := Aside0.mk ((by rw [hg]; exact (below_size (by repeat (first | (with_reducible first | exact HB.out | apply below_alloc | apply pw_below_drewN | apply below_drew1) | exact HB.out))) : w.heap.size ≤ gb280)); clear HB; have HB := n0_; have BK280 := n1_; have GW280 := n2_; have GE280 := n3_; clear n0_ n1_ n2_ n3_; clear hb hbox hg; have hcz117_0 : w116.cell? ⟨gb280, 0, none⟩ = some (.int .u64 a0_0) := (blk_cell BK280.out 0).trans rfl; have hcz117_1 : w116.cell? ⟨gb280, 1, none⟩ = some (.slice A0_1 l0_1.length c0_1) := (blk_cell BK280.out 1).trans rfl; have hcz117_2 : w116.cell? ⟨gb280, 2, none⟩ = some (.slice A0_2 l0_2.length c0_2) := (blk_cell BK280.out 2).trans rfl; have hfz117_0 := blk_frozen BK280.out 0; have hfz117_1 := blk_frozen BK280.out 1; have hfz117_2 := blk_frozen BK280.out 2) | ((with_reducible refine gate_callee (f := 8) rfl ?_); refine goesL_ (some 16) rfl rfl Tryd.func8 (by kernel_rfl) rfl #[.agg #[.int .u64 a0_0, .slice A0_1 l0_1.length c0_1, .slice A0_2 l0_2.length c0_2]] rfl (by (try simp only [List.map_toArray, List.map_cons, List.map_nil]); first | done | rfl | (simp only [List.length_drop, List.length_take]; rfl)) ?_; (with_reducible refine (anvilref02_Check.calls k a0_0 _ _ l0_1 _ _ l0_2 t281 _ ?side1 ?side2 ?side3 ?side4 ?side5 A2.out).mono ?_); (case side1 => repeat (first | exact (Kd.C_below HR0_1.out HB.out) | (with_reducible refine Kd.C_alloc ?_ _) | (with_reducible refine Kd.C_drewN ?_ _) | (with_reducible refine Kd.C_drew ?_))); (case side2 => exact HC0_1.out); (case side3 => repeat (first | exact (Kd.C_below HR0_2.out HB.out) | (with_reducible refine Kd.C_alloc ?_ _) | (with_reducible refine Kd.C_drewN ?_ _) | (with_reducible refine Kd.C_drew ?_))); (case side4 => exact HC0_2.out); (case side5 => first | exact HG.out | exact Glob.step HG.out HB.out | (refine Glob.step HG.out ?_; (repeat (first | exact Below.refl _ _ | apply pw_below_drewN | apply below_drew1)); done) | exact Glob.step HG.out (by repeat (first | (with_reducible first | exact HB.out | apply below_alloc | apply pw_below_drewN | apply below_drew1 | refine below_set ?_ GE280.out) | exact HB.out))); rintro e w118 ⟨rfl, hb⟩; refine ⟨_, rfl, ?_⟩; have n0_ := Aside0.mk (blk_below (g := gb280) (o := .cells #[.int .u64 a0_0, .slice A0_1 l0_1.length c0_1, .slice A0_2 l0_2.length c0_2] 26 (0, 0)) (by (with_reducible repeat (first | refine blk_drewN ?_ _ | refine blk_drew ?_ | refine blk_alloc ?_ _)); exact BK280.out) hb); have n1_ := Aside0.mk (below_step (by repeat (first | (with_reducible first | exact HB.out | apply below_alloc | apply pw_below_drewN | apply below_drew1 | refine below_set ?_ GE280.out) | exact HB.out)) hb); clear BK280; clear HB; have BK280 := n0_; have HB := n1_; clear n0_ n1_; (try clear hb); (try clear hb2); (try clear hk); (try clear hi)))
    go_ret2
    exact ⟨_, by first | rfl | (simp [errW_none, errW_some] <;> rfl) | (simp [*, errW_none, errW_some] <;> rfl), by first | exact Kd.R_nil _ _ _ _ _ | exact Kd.N_nil _ _ _ _ _ | exact Kd.V_nil _ _ _ _ _ | exact Kd.Q_nil _ _ _ _ _ | exact Kd.S_nil _ _ _ _ _, by repeat (first | (with_reducible first | exact HB.out | apply below_alloc | apply pw_below_drewN | apply below_drew1 | refine below_set ?_ GE280.out) | exact HB.out)⟩

end Go.Proofs.YtbnlifldnjgpmaaDoor.PWri
