-- BY PROGRAM of this session (the kit's printer, turned by wip/tools/patch_print.py). Lean checks it.
import Derived.Test.YtbnlifldnjgpmaaGreatDoorCGr1
namespace Go.Proofs.YtbnlifldnjgpmaaGreatDoor.PWri
open Go.RowKit Go.Proofs.YtbnlifldnjgpmaaGreatDoorW.PrintWords Go.Proofs.YtbnlifldnjgpmaaGreatDoorW.PrintLast Go.Proofs.YtbnlifldnjgpmaaGreatDoorW.PrintMore
attribute [local go_sem] max2_int min2_int max_two min_two max_three min_three max_four min_four   -- for this text's walks alone
set_option linter.unusedVariables false
set_option linter.unusedSimpArgs false
def anvillaw02_sample.f  : Option (Int × (List (S55)) × (List (S82))) := some (2147483648, (([(⟨2147483648, 6, 5, (([1, 2, 3, 4] : List Int))⟩ : S55)] : List (S55))), (([(⟨(⟨#[95, 115, 116, 97, 114, 116]⟩ : ByteArray), 2147483648⟩ : S82)] : List (S82))))
set_option maxHeartbeats 8000000 in
set_option maxRecDepth 100000 in
theorem anvillaw02_sample.calls  (r1 : Int) (r2 : List (S55)) (r3 : List (S82)) (w : World) (h : anvillaw02_sample.f  = some (r1, r2, r3)) :
 Calls Tryz.prog 21 #[] w fun e w' => ∃ v1_ v2_ : Value, e = .returned (.agg #[.int .u64 r1, v1_, v2_]) ∧ Kd.N k55 55 w' w.heap.size (fun k_ => (w.heap.size ≤ k_) ∧ some k_ ≠ (v2_ : Value).ownBlock) v1_ r2 ∧ Kd.R k82 82 w' w.heap.size (fun k_ => (w.heap.size ≤ k_)) v2_ r3 ∧ Below w.heap.size w w' := by
 have hu28 := Tryz.underlying28
 have hu55 := Tryz.underlying55
 have hu82 := Tryz.underlying82
 have HB := Asd.mk (Below.refl w.heap.size w)
 have H : (some (2147483648, (([(⟨2147483648, 6, 5, (([1, 2, 3, 4] : List Int))⟩ : S55)] : List (S55))), (([(⟨(⟨#[95, 115, 116, 97, 114, 116]⟩ : ByteArray), 2147483648⟩ : S82)] : List (S82))))) = some (r1, r2, r3) := h
 clear h
 obtain ⟨y310, hy310⟩ : ∃ y_ : List Int, y_ = (([1, 2, 3, 4] : List Int)) := ⟨_, rfl⟩
 replace H : (some (2147483648, (([(⟨2147483648, 6, 5, y310⟩ : S55)] : List (S55))), (([(⟨(⟨#[95, 115, 116, 97, 114, 116]⟩ : ByteArray), 2147483648⟩ : S82)] : List (S82))))) = some (r1, r2, r3) := by first | (rw [hy310]; with_reducible exact H) | (have H2_ := (Option.bind_some _ _).symm.trans H; rw [hy310]; with_reducible exact H2_) | (have H2_ := (Option.bind_some _ _).symm.trans H; with_reducible exact H2_) | with_reducible exact H | (rw [hy310]; exact H) | exact H
 have Ny310 := Asd.mk hy310
 clear hy310
 obtain ⟨y313, hy313⟩ : ∃ y_ : List (S55), y_ = (([(⟨2147483648, 6, 5, y310⟩ : S55)] : List (S55))) := ⟨_, rfl⟩
 replace H : (some (2147483648, y313, (([(⟨(⟨#[95, 115, 116, 97, 114, 116]⟩ : ByteArray), 2147483648⟩ : S82)] : List (S82))))) = some (r1, r2, r3) := by first | (rw [hy313]; with_reducible exact H) | (have H2_ := (Option.bind_some _ _).symm.trans H; rw [hy313]; with_reducible exact H2_) | (have H2_ := (Option.bind_some _ _).symm.trans H; with_reducible exact H2_) | with_reducible exact H | (rw [hy313]; exact H) | exact H
 have Ny313 := Asd.mk hy313
 clear hy313
 obtain ⟨y316, hy316⟩ : ∃ y_ : List (S82), y_ = (([(⟨(⟨#[95, 115, 116, 97, 114, 116]⟩ : ByteArray), 2147483648⟩ : S82)] : List (S82))) := ⟨_, rfl⟩
 replace H : (some (2147483648, y313, y316)) = some (r1, r2, r3) := by first | (rw [hy316]; with_reducible exact H) | (have H2_ := (Option.bind_some _ _).symm.trans H; rw [hy316]; with_reducible exact H2_) | (have H2_ := (Option.bind_some _ _).symm.trans H; with_reducible exact H2_) | with_reducible exact H | (rw [hy316]; exact H) | exact H
 have Ny316 := Asd.mk hy316
 clear hy316
 simp only [Option.some.injEq, Prod.mk.injEq] at H
 obtain ⟨rfl, rfl, rfl⟩ := H
 go_enter Tryz.func21, Tryz.ntmps21
 go_wp2_with (first | ((with_reducible refine gDs (N := 0) rfl ?_); refine bEv ?hg (N := 0) ?hd (cs := #[.int .u64 0, .slice none 0 0, .slice none 0 0]) (t := 28) ?hr ?_; (case hd => rfl); (case hg => rfl); (case hr => first | (go_simp; done) | (go_simp; rfl)); intro gb309 hg w1 hbox hb; have n0_ := Asd.mk (bSt (bX HB.out) hb); have n1_ := Asd.mk (hbox); have n2_ := Asd.mk (zX hg (bX HB.out) : w.heap.size ≤ gb309); have n3_ := Asd.mk (zX hg (bX HB.out) : w.heap.size ≤ gb309); clear HB; have HB := n0_; have BK309 := n1_; have GW309 := n2_; have GE309 := n3_; clear n0_ n1_ n2_ n3_; clear hb hbox hg) | ((with_reducible refine gDs (N := 1) rfl ?_); refine Kd.R_lit (Kd.int .u8) _ 5 ?hg (N := 1) ?hd (xs := ([1, 2, 3, 4] : List Int)) (inner := [.int .u8 1, .int .u8 2, .int .u8 3, .int .u8 4]) (ok := fun _ => True) (okp := fun _ => True) ?hr ?hp (fun _ hk => hk) trivial (Below.refl _ _) (Nat.le_refl _) (by simp) ?_; (case hd => rfl); (case hg => rfl); (case hr => first | (go_simp; done) | (go_simp; rfl)); (case hp => exact (Reps.one (show Kd.M (Kd.int .u8) _ _ _ 1 [.int .u8 1] from rfl) (Reps.one (show Kd.M (Kd.int .u8) _ _ _ 2 [.int .u8 2] from rfl) (Reps.one (show Kd.M (Kd.int .u8) _ _ _ 3 [.int .u8 3] from rfl) (Reps.one (show Kd.M (Kd.int .u8) _ _ _ 4 [.int .u8 4] from rfl) (Reps.none _ _)))))); intro v311 w2 ho3 hb hg_ hnew_; clear hg_ hnew_; (first | rw [← Ny310.out] at ho3 | (simp only [Int.reduceToNat] at ho3; rw [← Ny310.out] at ho3)); have n0_ := Asd.mk (Kd.R_lower (Kd.R_newM (M := fun k_ => (w.heap.size ≤ k_)) ho3 (bSz (bX HB.out)) (fun k_ h_ => h_)) (bSz (bX HB.out))); have n1_ := Asd.mk (kBe (g := gb309) (o := .cells #[.int .u64 0, .slice none 0 0, .slice none 0 0] 28 (0, 0)) (kX BK309.out) hb); have n2_ := Asd.mk (bSt (bX HB.out) hb); clear BK309; clear HB; have HO312 := n0_; have BK309 := n1_; have HB := n2_; clear n0_ n1_ n2_; clear hb ho3; obtain ⟨Ao4, co4, eo4⟩ := Kd.R_slice HO312.out; subst eo4) | ((with_reducible refine gDs (N := 3) rfl ?_); refine Kd.N_lit k55 _ 55 ?hg (N' := 3) ?hd (xs := ([(⟨2147483648, 6, 5, y310⟩ : S55)] : List (S55))) (inner := [.int .u64 2147483648, .int .u64 6, .int .i64 5, .slice Ao4 y310.length co4]) (ok := (fun k_ => (w.heap.size ≤ k_) ∧ k_ ≠ gb309)) (okp := (fun k_ => (w.heap.size ≤ k_) ∧ k_ ≠ gb309)) ?hr ?hp (fun _ hk => hk) ((show ∀ k_, w2.heap.size ≤ k_ → (fun k_ => (w.heap.size ≤ k_) ∧ k_ ≠ gb309) k_ from fun k_ hk => ⟨(Nat.le_trans (bSz (bX HB.out)) hk), Kd.freshB (g := gb309) (o := .cells #[.int .u64 0, .slice none 0 0, .slice none 0 0] 28 (0, 0)) (kX BK309.out) k_ hk⟩) _ (Nat.le_refl _)) (Below.refl _ _) (Nat.le_refl _) (by simp) ?_; (case hd => rfl); (case hg => rfl); (case hr => first | (go_simp; done) | (go_simp; rfl)); (case hp => exact (Reps.c4 (show Kd.FK k55 _ _ (⟨2147483648, 6, 5, y310⟩ : S55) [.int .u64 2147483648, .int .u64 6, .int .i64 5, .slice Ao4 y310.length co4] from (k55_mkF _ _ (⟨2147483648, 6, 5, y310⟩ : S55) (Kd.R_reads' (Kd.R_mono (ok' := (fun k_ => (w.heap.size ≤ k_) ∧ k_ ≠ gb309)) (Kd.R_types (HO312.out) BK309.out (by decide)) (fun k_ hk => ⟨hk.1.1, hk.2⟩))).2.1 (Kd.R_F (Kd.R_mono (ok' := (fun k_ => (w.heap.size ≤ k_) ∧ k_ ≠ gb309)) (Kd.R_types (HO312.out) BK309.out (by decide)) (fun k_ hk => ⟨hk.1.1, hk.2⟩))))) (Reps.none _ _))); intro v314 w5 ho6 hb hg_ hnew_; clear hg_ hnew_; (first | rw [← Ny313.out] at ho6 | (simp only [Int.reduceToNat] at ho6; rw [← Ny313.out] at ho6)); have n0_ := Asd.mk (Kd.N_lower ho6 (bSz (bX HB.out))); have n1_ := Asd.mk (kBe (g := gb309) (o := .cells #[.int .u64 0, .slice none 0 0, .slice none 0 0] 28 (0, 0)) (kX BK309.out) hb); have n2_ := Asd.mk (bSt (bX HB.out) hb); clear BK309; clear HB; clear HO312; have HO315 := n0_; have BK309 := n1_; have HB := n2_; clear n0_ n1_ n2_; clear hb ho6) | ((with_reducible refine gDs (N := 5) rfl ?_); refine Kd.R_lit k82 _ 82 ?hg (N := 5) ?hd (xs := ([(⟨(⟨#[95, 115, 116, 97, 114, 116]⟩ : ByteArray), 2147483648⟩ : S82)] : List (S82))) (inner := [.string (⟨#[95, 115, 116, 97, 114, 116]⟩ : ByteArray), .int .u64 2147483648]) (ok := fun _ => True) (okp := fun _ => True) ?hr ?hp (fun _ hk => hk) trivial (Below.refl _ _) (Nat.le_refl _) (by simp) ?_; (case hd => rfl); (case hg => rfl); (case hr => first | (go_simp; done) | (go_simp; rfl)); (case hp => exact (Reps.c2 (show Kd.M k82 _ _ _ (⟨(⟨#[95, 115, 116, 97, 114, 116]⟩ : ByteArray), 2147483648⟩ : S82) [.string (⟨#[95, 115, 116, 97, 114, 116]⟩ : ByteArray), .int .u64 2147483648] from (k82_mkM _ _ _ (⟨(⟨#[95, 115, 116, 97, 114, 116]⟩ : ByteArray), 2147483648⟩ : S82) )) (Reps.none _ _))); intro v317 w7 ho8 hb hg_ hnew_; clear hg_ hnew_; (first | rw [← Ny316.out] at ho8 | (simp only [Int.reduceToNat] at ho8; rw [← Ny316.out] at ho8)); have n0_ := Asd.mk (Kd.N_elder' (kNX HO315.out) (Kd.R_base ho8) hb); have n1_ := Asd.mk (Kd.R_lower (Kd.R_newM (M := fun k_ => (w.heap.size ≤ k_)) ho8 (bSz (bX HB.out)) (fun k_ h_ => h_)) (bSz (bX HB.out))); have n2_ := Asd.mk (kBe (g := gb309) (o := .cells #[.int .u64 0, .slice none 0 0, .slice none 0 0] 28 (0, 0)) (kX BK309.out) hb); have n3_ := Asd.mk (bSt (bX HB.out) hb); clear HO315; clear BK309; clear HB; have HO315 := n0_; have HO318 := n1_; have BK309 := n2_; have HB := n3_; clear n0_ n1_ n2_ n3_; clear hb ho8; obtain ⟨Ao9, co9, eo9⟩ := Kd.R_slice HO318.out; subst eo9; obtain ⟨Ao10, co10, eo10⟩ := Kd.N_slice HO315.out; subst eo10; have hcz11_0 : w7.cell? ⟨gb309, 0, none⟩ = some (.int .u64 0) := (kCe BK309.out 0).trans rfl; have hcz11_1 : w7.cell? ⟨gb309, 1, none⟩ = some (.slice none 0 0) := (kCe BK309.out 1).trans rfl; have hcz11_2 : w7.cell? ⟨gb309, 2, none⟩ = some (.slice none 0 0) := (kCe BK309.out 2).trans rfl; have hfz11_0 := kFr BK309.out 0; have hfz11_1 := kFr BK309.out 1; have hfz11_2 := kFr BK309.out 2))
 refine bodyPost_ret (results_cell_row rfl _ _ gb309 28 #[.int .u64 2147483648, .slice Ao10 y313.length co10, .slice Ao9 y316.length co9] (0, 0) _ rfl (by (with_reducible repeat (first | refine kDn ?_ _ | refine kDr ?_ | refine kAl ?_ _)); refine kPu (cs := #[.int .u64 2147483648, .slice Ao10 y313.length co10, .slice none 0 0]) ?_ 2 _ rfl; (with_reducible repeat (first | refine kDn ?_ _ | refine kDr ?_ | refine kAl ?_ _)); refine kPu (cs := #[.int .u64 2147483648, .slice none 0 0, .slice none 0 0]) ?_ 1 _ rfl; (with_reducible repeat (first | refine kDn ?_ _ | refine kDr ?_ | refine kAl ?_ _)); refine kPu (cs := #[.int .u64 0, .slice none 0 0, .slice none 0 0]) ?_ 0 _ rfl; (with_reducible repeat (first | refine kDn ?_ _ | refine kDr ?_ | refine kAl ?_ _)); exact BK309.out) Tryz.underlying28 rfl (by kernel_rfl)) rfl ?_
 exact ⟨_, _, rX, by (with_reducible repeat (first | apply Kd.N_alloc | apply Kd.N_drewN | apply Kd.N_drew)); exact Kd.N_mono (Kd.N_far (p := ⟨gb309, 2, none⟩) (Kd.N_far (p := ⟨gb309, 1, none⟩) (Kd.N_far (p := ⟨gb309, 0, none⟩) (Kd.N_mono HO315.out (fun k_ hk => (⟨hk, hk.1.2⟩ : _ ∧ k_ ≠ gb309))) (fun _ hk => hk.2) (.int .u64 2147483648)) (fun _ hk => hk.2) (.slice Ao10 y313.length co10)) (fun _ hk => hk.2) (.slice Ao9 y316.length co9)) (fun _ hk => ⟨hk.1.1.1, hk.1.2⟩), by (with_reducible repeat (first | apply Kd.R_alloc | apply Kd.R_drewN | apply Kd.R_drew)); exact Kd.R_mono (Kd.R_far (p := ⟨gb309, 2, none⟩) (Kd.R_far (p := ⟨gb309, 1, none⟩) (Kd.R_far (p := ⟨gb309, 0, none⟩) (Kd.R_types HO318.out BK309.out (by decide)) (fun _ hk => hk.2) (.int .u64 2147483648)) (fun _ hk => hk.2) (.slice Ao10 y313.length co10)) (fun _ hk => hk.2) (.slice Ao9 y316.length co9)) (fun _ hk => hk.1.1), bX HB.out⟩
def image_up.f (a0 : Int) : Option (Int) := some (wrap64 ((wrap64 (Int.tdiv (wrap64 (a0 + 7)) 8)) * 8))
set_option maxHeartbeats 8000000 in
set_option maxRecDepth 100000 in
theorem image_up.calls (a0 : Int) (r : Int) (w : World) (h : image_up.f a0 = some r) :
 Calls Tryz.prog 81 #[.int .i64 a0] w fun e w' => e = .returned (.int .i64 r) ∧ Drawn0 w w' := by
 have H : (some (wrap64 ((wrap64 (Int.tdiv (wrap64 (a0 + 7)) 8)) * 8))) = some r := h
 clear h
 obtain rfl := Option.some.inj H
 go_enter Tryz.func81, Tryz.ntmps81
 go_wp2
 go_ret
 exact ⟨eX, by repeat (first | exact Drawn0.refl _ | apply Drawn0.step)⟩
mutual
def image_lay.l0 : Nat → Int → List (S55) → Int → Int → Int → List (S55) → List (S82) → List Int → Int → Int → Int → Int → Int → Option (List Int × Int × Int × Int × Int × Int)
 | 0, _, _, _, _, _, _, _, _, _, _, _, _, _ => none
 | k + 1, x4, x15, x16, x17, x320000, x320001, x320002, x322000, x322001, x322002, x322003, x322004, x322005 => if x17 < x16 then (if 0 ≤ x17 then (if x17 < (x15.length : Int) then (if (((rd_T55 x15 x17).f3).length : Int) = 0 then (if x322000.length < 17592186044416 then (image_lay.l0 k x4 x15 x16 (wrap64 (x17 + 1)) x320000 x320001 x320002 (x322000 ++ [0]) x322001 x322002 x322003 x322004 x322005) else (none)) else ((image_up.f x4).bind fun t327 => (if x322000.length < 17592186044416 then (image_lay.l0 k (wrap64 (t327 + (((rd_T55 x15 x17).f3).length : Int))) x15 x16 (wrap64 (x17 + 1)) x320000 x320001 x320002 (x322000 ++ [t327]) x322001 x322002 x322003 x322004 x322005) else (none)))) else (none)) else (none)) else (if (x320002.length : Int) > 0 then ((image_up.f x4).bind fun t331 => (image_lay.l1 k x320002 (x320002.length : Int) 0 x322000 t331 (wrap64 (t331 + (wrap64 (24 * (wrap64 ((x320002.length : Int) + 1)))))) (wrap64 ((wrap64 (t331 + (wrap64 (24 * (wrap64 ((x320002.length : Int) + 1)))))) + 1)) x322004 x322005)) else (some (x322000, x322001, x322002, x322003, x322004, x4)))
def image_lay.l1 : Nat → List (S82) → Int → Int → List Int → Int → Int → Int → Int → Int → Option (List Int × Int × Int × Int × Int × Int)
 | 0, _, _, _, _, _, _, _, _, _ => none
 | k + 1, x65, x66, x67, x322000, x322001, x322002, x322003, x322004, x322005 => if x67 < x66 then (if 0 ≤ x67 then (if x67 < (x65.length : Int) then (image_lay.l1 k x65 x66 (wrap64 (x67 + 1)) x322000 x322001 x322002 (wrap64 (x322003 + (wrap64 ((((rd_T82 x65 x67).f0).size : Int) + 1)))) x322004 x322005) else (none)) else (none)) else ((image_up.f (wrap64 (x322003 + 27))).bind fun t334 => (some (x322000, x322001, x322002, x322003, t334, wrap64 (t334 + 256))))
end
def image_lay.f (k : Nat) (a0_0 : Int) (l0_1 : List (S55)) (l0_2 : List (S82)) : Option (List Int × Int × Int × Int × Int × Int) := image_lay.l0 k (wrap64 (64 + (wrap64 (56 * (l0_1.length : Int))))) l0_1 (l0_1.length : Int) 0 a0_0 l0_1 l0_2 ([] : List Int) 0 0 0 0 0
theorem image_lay.mono_l : ∀ k, (∀ y0 y1 y2 y3 y4 y5 y6 y7 y8 y9 y10 y11 y12, LeO (image_lay.l0 k y0 y1 y2 y3 y4 y5 y6 y7 y8 y9 y10 y11 y12) (image_lay.l0 (k + 1) y0 y1 y2 y3 y4 y5 y6 y7 y8 y9 y10 y11 y12)) ∧ (∀ y0 y1 y2 y3 y4 y5 y6 y7 y8, LeO (image_lay.l1 k y0 y1 y2 y3 y4 y5 y6 y7 y8) (image_lay.l1 (k + 1) y0 y1 y2 y3 y4 y5 y6 y7 y8))
 | 0 => ⟨fun _ _ _ _ _ _ _ _ _ _ _ _ _ r h => by simp [image_lay.l0] at h, fun _ _ _ _ _ _ _ _ _ r h => by simp [image_lay.l1] at h⟩
 | k + 1 => by
  obtain ⟨ih0, ih1⟩ := image_lay.mono_l k
  refine ⟨?_, ?_⟩
  ·intro y0 y1 y2 y3 y4 y5 y6 y7 y8 y9 y10 y11 y12
   unfold image_lay.l0
   repeat' first
   | (with_reducible exact ih0 _ _ _ _ _ _ _ _ _ _ _ _ _)
   | (with_reducible exact ih1 _ _ _ _ _ _ _ _ _)
   | (with_reducible exact LeO.refl _)
   | (with_reducible exact LeO.none _)
   | (with_reducible refine LeO.ite ?_ ?_)
   | (with_reducible refine LeO.bind ?_ (fun _ => ?_))
   | exact ih0 _ _ _ _ _ _ _ _ _ _ _ _ _
   | exact ih1 _ _ _ _ _ _ _ _ _
   | exact LeO.none _
   | refine LeO.ite ?_ ?_
   | refine LeO.bind ?_ (fun _ => ?_)
  ·intro y0 y1 y2 y3 y4 y5 y6 y7 y8
   unfold image_lay.l1
   repeat' first
   | (with_reducible exact ih0 _ _ _ _ _ _ _ _ _ _ _ _ _)
   | (with_reducible exact ih1 _ _ _ _ _ _ _ _ _)
   | (with_reducible exact LeO.refl _)
   | (with_reducible exact LeO.none _)
   | (with_reducible refine LeO.ite ?_ ?_)
   | (with_reducible refine LeO.bind ?_ (fun _ => ?_))
   | exact ih0 _ _ _ _ _ _ _ _ _ _ _ _ _
   | exact ih1 _ _ _ _ _ _ _ _ _
   | exact LeO.none _
   | refine LeO.ite ?_ ?_
   | refine LeO.bind ?_ (fun _ => ?_)
theorem image_lay.mono : ∀ a0 a1 a2 k, LeO (image_lay.f k a0 a1 a2) (image_lay.f (k + 1) a0 a1 a2) := by
 intro a0 a1 a2 k
 obtain ⟨ih0, ih1⟩ := image_lay.mono_l k
 unfold image_lay.f
 repeat' first
  | (with_reducible exact ih0 _ _ _ _ _ _ _ _ _ _ _ _ _)
  | (with_reducible exact ih1 _ _ _ _ _ _ _ _ _)
  | (with_reducible exact LeO.refl _)
  | (with_reducible exact LeO.none _)
  | (with_reducible refine LeO.ite ?_ ?_)
  | (with_reducible refine LeO.bind ?_ (fun _ => ?_))
  | exact ih0 _ _ _ _ _ _ _ _ _ _ _ _ _
  | exact ih1 _ _ _ _ _ _ _ _ _
  | exact LeO.none _
  | refine LeO.ite ?_ ?_
  | refine LeO.bind ?_ (fun _ => ?_)
set_option maxHeartbeats 8000000 in
set_option maxRecDepth 100000 in
theorem image_lay.calls (k : Nat) (a0_0 : Int) (A0_1 : Option Addr) (c0_1 : Nat) (l0_1 : List (S55)) (A0_2 : Option Addr) (c0_2 : Nat) (l0_2 : List (S82)) (r1 : List Int) (r2 : Int) (r3 : Int) (r4 : Int) (r5 : Int) (r6 : Int) (w : World) (hr0_1 : Kd.C k55 w A0_1 l0_1.length l0_1) (hc0_1 : l0_1.length ≤ c0_1) (hr0_2 : Kd.C k82 w A0_2 l0_2.length l0_2) (hc0_2 : l0_2.length ≤ c0_2) (h : image_lay.f k a0_0 l0_1 l0_2 = some (r1, r2, r3, r4, r5, r6)) :
 Calls Tryz.prog 44 #[.agg #[.int .u64 a0_0, .slice A0_1 l0_1.length c0_1, .slice A0_2 l0_2.length c0_2]] w fun e w' => ∃ v0_ : Value, e = .returned (.agg #[v0_, .int .i64 r2, .int .i64 r3, .int .i64 r4, .int .i64 r5, .int .i64 r6]) ∧ Kd.R (Kd.int .i64) 3 w' w.heap.size (fun _ => True) v0_ r1 ∧ Below w.heap.size w w' := by
 have hu28 := Tryz.underlying28
 have hu87 := Tryz.underlying87
 have hu55 := Tryz.underlying55
 have hu82 := Tryz.underlying82
 have HR0_1 := Asd.mk hr0_1
 have HC0_1 := Asd.mk hc0_1
 clear hr0_1 hc0_1
 have HR0_2 := Asd.mk hr0_2
 have HC0_2 := Asd.mk hc0_2
 clear hr0_2 hc0_2
 have HB := Asd.mk (Below.refl w.heap.size w)
 have H : (image_lay.l0 k (wrap64 (64 + (wrap64 (56 * (l0_1.length : Int))))) l0_1 (l0_1.length : Int) 0 a0_0 l0_1 l0_2 ([] : List Int) 0 0 0 0 0) = some (r1, r2, r3, r4, r5, r6) := h
 clear h
 have H' := Asd.mk H
 clear H
 go_enter Tryz.func44, Tryz.ntmps44
 go_wp2_with (first | ((with_reducible refine gDs (N := 1) rfl ?_); refine bEv ?hg (N := 1) ?hd (cs := #[.int .u64 a0_0, .slice A0_1 l0_1.length c0_1, .slice A0_2 l0_2.length c0_2]) (t := 28) ?hr ?_; (case hd => rfl); (case hg => rfl); (case hr => first | (go_simp; done) | (go_simp; rfl)); intro gb319 hg w2 hbox hb; have n0_ := Asd.mk (bSt (bX HB.out) hb); have n1_ := Asd.mk (hbox); have n2_ := Asd.mk (zX hg (bX HB.out) : w.heap.size ≤ gb319); have n3_ := Asd.mk (zX hg (bX HB.out) : w.heap.size ≤ gb319); clear HB; have HB := n0_; have BK319 := n1_; have GW319 := n2_; have GE319 := n3_; clear n0_ n1_ n2_ n3_; clear hb hbox hg) | ((with_reducible refine gDs (N := 2) rfl ?_); refine bEv ?hg (N := 2) ?hd (cs := #[.slice none 0 0, .int .i64 0, .int .i64 0, .int .i64 0, .int .i64 0, .int .i64 0]) (t := 87) ?hr ?_; (case hd => rfl); (case hg => rfl); (case hr => first | (go_simp; done) | (go_simp; rfl)); intro gb320 hg w3 hbox hb; have n0_ := Asd.mk (kBe (g := gb319) (o := .cells #[.int .u64 a0_0, .slice A0_1 l0_1.length c0_1, .slice A0_2 l0_2.length c0_2] 28 (0, 0)) (kX BK319.out) hb); have n1_ := Asd.mk (bSt (bX HB.out) hb); have n2_ := Asd.mk (hbox); have n3_ := Asd.mk (zX hg (bX HB.out) : w.heap.size ≤ gb320); have n4_ := Asd.mk (zX hg (bX HB.out) : w.heap.size ≤ gb320); have n5_ := Asd.mk ((by rw [hg]; exact Nat.ne_of_lt (blk_lt (g := gb319) (o := .cells #[.int .u64 a0_0, .slice A0_1 l0_1.length c0_1, .slice A0_2 l0_2.length c0_2] 28 (0, 0)) (kX BK319.out)) : gb319 ≠ gb320)); have n6_ := Asd.mk ((by rw [hg]; exact Nat.ne_of_gt (blk_lt (g := gb319) (o := .cells #[.int .u64 a0_0, .slice A0_1 l0_1.length c0_1, .slice A0_2 l0_2.length c0_2] 28 (0, 0)) (kX BK319.out)) : gb320 ≠ gb319)); clear BK319; clear HB; have BK319 := n0_; have HB := n1_; have BK320 := n2_; have GW320 := n3_; have GE320 := n4_; have NB319_320 := n5_; have NB320_319 := n6_; clear n0_ n1_ n2_ n3_ n4_ n5_ n6_; clear hb hbox hg) | ((with_reducible refine gDs (N := 3) rfl ?_); refine bEv ?hg (N := 3) ?hd (cs := #[.slice none 0 0, .int .i64 0, .int .i64 0, .int .i64 0, .int .i64 0, .int .i64 0]) (t := 87) ?hr ?_; (case hd => rfl); (case hg => rfl); (case hr => first | (go_simp; done) | (go_simp; rfl)); intro gb321 hg w4 hbox hb; have n0_ := Asd.mk (kBe (g := gb319) (o := .cells #[.int .u64 a0_0, .slice A0_1 l0_1.length c0_1, .slice A0_2 l0_2.length c0_2] 28 (0, 0)) (kX BK319.out) hb); have n1_ := Asd.mk (kBe (g := gb320) (o := .cells #[.slice none 0 0, .int .i64 0, .int .i64 0, .int .i64 0, .int .i64 0, .int .i64 0] 87 (0, 0)) (kX BK320.out) hb); have n2_ := Asd.mk (bSt (bX HB.out) hb); have n3_ := Asd.mk (hbox); have n4_ := Asd.mk (zX hg (bX HB.out) : w.heap.size ≤ gb321); have n5_ := Asd.mk (zX hg (bX HB.out) : w.heap.size ≤ gb321); have n6_ := Asd.mk ((by rw [hg]; exact Nat.ne_of_lt (blk_lt (g := gb319) (o := .cells #[.int .u64 a0_0, .slice A0_1 l0_1.length c0_1, .slice A0_2 l0_2.length c0_2] 28 (0, 0)) (kX BK319.out)) : gb319 ≠ gb321)); have n7_ := Asd.mk ((by rw [hg]; exact Nat.ne_of_gt (blk_lt (g := gb319) (o := .cells #[.int .u64 a0_0, .slice A0_1 l0_1.length c0_1, .slice A0_2 l0_2.length c0_2] 28 (0, 0)) (kX BK319.out)) : gb321 ≠ gb319)); have n8_ := Asd.mk ((by rw [hg]; exact Nat.ne_of_lt (blk_lt (g := gb320) (o := .cells #[.slice none 0 0, .int .i64 0, .int .i64 0, .int .i64 0, .int .i64 0, .int .i64 0] 87 (0, 0)) (kX BK320.out)) : gb320 ≠ gb321)); have n9_ := Asd.mk ((by rw [hg]; exact Nat.ne_of_gt (blk_lt (g := gb320) (o := .cells #[.slice none 0 0, .int .i64 0, .int .i64 0, .int .i64 0, .int .i64 0, .int .i64 0] 87 (0, 0)) (kX BK320.out)) : gb321 ≠ gb320)); clear BK319; clear BK320; clear HB; have BK319 := n0_; have BK320 := n1_; have HB := n2_; have BK321 := n3_; have GW321 := n4_; have GE321 := n5_; have NB319_321 := n6_; have NB321_319 := n7_; have NB320_321 := n8_; have NB321_320 := n9_; clear n0_ n1_ n2_ n3_ n4_ n5_ n6_ n7_ n8_ n9_; clear hb hbox hg; have hnb5 := NB319_320.out; have hnc5 := NB320_319.out; have hnb6 := NB319_321.out; have hnc6 := NB321_319.out; have hcz7_0 : w4.cell? ⟨gb319, 0, none⟩ = some (.int .u64 a0_0) := (kCe BK319.out 0).trans rfl; have hcz7_1 : w4.cell? ⟨gb319, 1, none⟩ = some (.slice A0_1 l0_1.length c0_1) := (kCe BK319.out 1).trans rfl; have hcz7_2 : w4.cell? ⟨gb319, 2, none⟩ = some (.slice A0_2 l0_2.length c0_2) := (kCe BK319.out 2).trans rfl; have hfz7_0 := kFr BK319.out 0; have hfz7_1 := kFr BK319.out 1; have hfz7_2 := kFr BK319.out 2))
 go_loopg [4, 17] k (fun kq v4 v17 w' => ∃ (x4_1 : Int) (x17_1 : Int) (x322000_1 : List Int) (u322000 : Value), v4 = .int .i64 x4_1 ∧ v17 = .int .i64 x17_1 ∧ Asd (image_lay.l0 kq x4_1 l0_1 (l0_1.length : Int) x17_1 a0_0 l0_1 l0_2 x322000_1 0 0 0 0 0 = some (r1, r2, r3, r4, r5, r6)) ∧ Asd (kq ≤ k) ∧ Asd (Kd.R (Kd.int .i64) 3 w' w.heap.size (fun _ => True) u322000 x322000_1) ∧ Asd (w'.heap[gb319]? = some (.cells #[.int .u64 a0_0, (.slice A0_1 l0_1.length c0_1), (.slice A0_2 l0_2.length c0_2)] 28 (0, 0))) ∧ Asd (w'.heap[gb320]? = some (.cells #[(.slice none 0 0), .int .i64 0, .int .i64 0, .int .i64 0, .int .i64 0, .int .i64 0] 87 (0, 0))) ∧ Asd (w'.heap[gb321]? = some (.cells #[u322000, .int .i64 0, .int .i64 0, .int .i64 0, .int .i64 0, .int .i64 0] 87 (0, 0))) ∧ Asd (Below w.heap.size w w'))
 case atStart => exact ⟨(wrap64 (64 + (wrap64 (56 * (l0_1.length : Int))))), (0), (([] : List Int)), (.slice none 0 0), eX, eX, H', ⟨Nat.le_refl _⟩, ⟨by first | exact Kd.R_nil _ _ _ _ _ | exact Kd.N_nil _ _ _ _ _ | exact Kd.V_nil _ _ _ _ _ | exact Kd.Q_nil _ _ _ _ _ | exact Kd.S_nil _ _ _ _ _⟩, ⟨kX BK319.out⟩, ⟨kX BK320.out⟩, ⟨kX BK321.out⟩, ⟨bX HB.out⟩⟩
 case round =>
  clear H'
  try clear p2
  try clear c4
  try clear c5
  try clear c6
  try clear p6
  try clear hcz7_0
  try clear hcz7_1
  try clear hcz7_2
  try clear hfz7_0
  try clear hfz7_1
  try clear hfz7_2
  obtain ⟨x4_1, x17_1, x322000_1, u322000, rfl, rfl, HA, HK1, HO_322000, BK319, BK320, BK321, HB⟩ := hrel
  cases gk with
  | zero => exact absurd HA.out (by simp [image_lay.l0])
  | succ k1 =>
   have H := HA.out
   clear HA
   simp only [image_lay.l0] at H
   by_cases c8 : x17_1 < (l0_1.length : Int)
   ·rw [if_pos c8] at H
    have c8b0 : decide (x17_1 < (l0_1.length : Int)) = true := decide_eq_true c8
    clear c8
    by_cases c9 : 0 ≤ x17_1
    ·rw [if_pos c9] at H
     have c9b0 : decide (0 ≤ x17_1) = true := decide_eq_true c9
     clear c9
     by_cases c10 : x17_1 < (l0_1.length : Int)
     ·rw [if_pos c10] at H
      have c10b0 : decide (x17_1 < (l0_1.length : Int)) = true := decide_eq_true c10
      clear c10
      by_cases c11 : (((rd_T55 l0_1 x17_1).f3).length : Int) = 0
      ·rw [if_pos c11] at H
       have c11b0 : ((((rd_T55 l0_1 x17_1).f3).length : Int) == 0) = true := beq_iff_eq.mpr c11
       have c11b1 : ((((rd_T55 l0_1 x17_1).f3).length : Int) != 0) = false := bne_eq_false_iff_eq.mpr c11
       clear c11
       by_cases c12 : x322000_1.length < 17592186044416
       ·rw [if_pos c12] at H
        have LMc12 := Asd.mk c12
        clear c12
        obtain ⟨y324, hy324⟩ : ∃ y_ : List Int, y_ = (x322000_1 ++ [0]) := ⟨_, rfl⟩
        replace H : (image_lay.l0 k1 x4_1 l0_1 (l0_1.length : Int) (wrap64 (x17_1 + 1)) a0_0 l0_1 l0_2 y324 0 0 0 0 0) = some (r1, r2, r3, r4, r5, r6) := by first | (rw [hy324]; with_reducible exact H) | (have H2_ := (Option.bind_some _ _).symm.trans H; rw [hy324]; with_reducible exact H2_) | (have H2_ := (Option.bind_some _ _).symm.trans H; with_reducible exact H2_) | with_reducible exact H | (rw [hy324]; exact H) | exact H
        have Ny324 := Asd.mk hy324
        clear hy324
        have H' := Asd.mk H
        clear H
        have p322 : 0 ≤ (x17_1 : Int) := of_decide_eq_true aX
        have q322 : x17_1 < (l0_1.length : Int) := of_decide_eq_true aX
        obtain ⟨ad322, A322_3, c322_3, e322, hx322_0, hx322_1, hx322_2, hx322_3, hl322_3, hi322_3⟩ := at_T55 HR0_1.out x17_1 p322 q322
        cases e322
        replace hx322_0 := (HB.out.cell (World.block_lt_of_cell? w _ hx322_0)).trans hx322_0
        replace hx322_1 := (HB.out.cell (World.block_lt_of_cell? w _ hx322_1)).trans hx322_1
        replace hx322_2 := (HB.out.cell (World.block_lt_of_cell? w _ hx322_2)).trans hx322_2
        replace hx322_3 := (HB.out.cell (World.block_lt_of_cell? w _ hx322_3)).trans hx322_3
        have HR322_3 := Asd.mk hi322_3
        have HC322_3 := Asd.mk hl322_3
        clear hi322_3 hl322_3
        replace p322 := eq_true p322
        replace q322 := eq_true q322
        go_wp2_with (first | ((with_reducible refine gDs (N := 6) rfl ?_); refine bEv ?hg (N := 6) ?hd (cs := #[.int .u64 0, .int .u64 0, .int .i64 0, .slice none 0 0]) (t := 55) ?hr ?_; (case hd => rfl); (case hg => rfl); (case hr => first | (go_simp; done) | (go_simp; rfl)); intro gb323 hg w13 hbox hb; have n0_ := Asd.mk (Kd.R_below (kRX HO_322000.out) hb); have n1_ := Asd.mk (kBe (g := gb319) (o := .cells #[.int .u64 a0_0, .slice (some ad322) l0_1.length c0_1, .slice A0_2 l0_2.length c0_2] 28 (0, 0)) (kX BK319.out) hb); have n2_ := Asd.mk (kBe (g := gb320) (o := .cells #[.slice none 0 0, .int .i64 0, .int .i64 0, .int .i64 0, .int .i64 0, .int .i64 0] 87 (0, 0)) (kX BK320.out) hb); have n3_ := Asd.mk (kBe (g := gb321) (o := .cells #[u322000, .int .i64 0, .int .i64 0, .int .i64 0, .int .i64 0, .int .i64 0] 87 (0, 0)) (kX BK321.out) hb); have n4_ := Asd.mk (bSt (bX HB.out) hb); have n5_ := Asd.mk (hbox); have n6_ := Asd.mk (zX hg (bX HB.out) : w.heap.size ≤ gb323); have n7_ := Asd.mk (zX hg (bX HB.out) : w.heap.size ≤ gb323); have n8_ := Asd.mk ((by rw [hg]; exact Nat.ne_of_lt (blk_lt (g := gb319) (o := .cells #[.int .u64 a0_0, .slice (some ad322) l0_1.length c0_1, .slice A0_2 l0_2.length c0_2] 28 (0, 0)) (kX BK319.out)) : gb319 ≠ gb323)); have n9_ := Asd.mk ((by rw [hg]; exact Nat.ne_of_gt (blk_lt (g := gb319) (o := .cells #[.int .u64 a0_0, .slice (some ad322) l0_1.length c0_1, .slice A0_2 l0_2.length c0_2] 28 (0, 0)) (kX BK319.out)) : gb323 ≠ gb319)); have n10_ := Asd.mk ((by rw [hg]; exact Nat.ne_of_lt (blk_lt (g := gb320) (o := .cells #[.slice none 0 0, .int .i64 0, .int .i64 0, .int .i64 0, .int .i64 0, .int .i64 0] 87 (0, 0)) (kX BK320.out)) : gb320 ≠ gb323)); have n11_ := Asd.mk ((by rw [hg]; exact Nat.ne_of_gt (blk_lt (g := gb320) (o := .cells #[.slice none 0 0, .int .i64 0, .int .i64 0, .int .i64 0, .int .i64 0, .int .i64 0] 87 (0, 0)) (kX BK320.out)) : gb323 ≠ gb320)); have n12_ := Asd.mk ((by rw [hg]; exact Nat.ne_of_lt (blk_lt (g := gb321) (o := .cells #[u322000, .int .i64 0, .int .i64 0, .int .i64 0, .int .i64 0, .int .i64 0] 87 (0, 0)) (kX BK321.out)) : gb321 ≠ gb323)); have n13_ := Asd.mk ((by rw [hg]; exact Nat.ne_of_gt (blk_lt (g := gb321) (o := .cells #[u322000, .int .i64 0, .int .i64 0, .int .i64 0, .int .i64 0, .int .i64 0] 87 (0, 0)) (kX BK321.out)) : gb323 ≠ gb321)); clear HO_322000; clear BK319; clear BK320; clear BK321; clear HB; have HO_322000 := n0_; have BK319 := n1_; have BK320 := n2_; have BK321 := n3_; have HB := n4_; have BK323 := n5_; have GW323 := n6_; have GE323 := n7_; have NB319_323 := n8_; have NB323_319 := n9_; have NB320_323 := n10_; have NB323_320 := n11_; have NB321_323 := n12_; have NB323_321 := n13_; clear n0_ n1_ n2_ n3_ n4_ n5_ n6_ n7_ n8_ n9_ n10_ n11_ n12_ n13_; clear hb hbox hg; have hnb14 := NB323_319.out; have hnc14 := NB319_323.out; have hnb15 := NB323_320.out; have hnc15 := NB320_323.out; have hnb16 := NB323_321.out; have hnc16 := NB321_323.out; have hcz17_0 : w13.cell? ⟨gb323, 0, none⟩ = some (.int .u64 0) := (kCe BK323.out 0).trans rfl; have hcz17_1 : w13.cell? ⟨gb323, 1, none⟩ = some (.int .u64 0) := (kCe BK323.out 1).trans rfl; have hcz17_2 : w13.cell? ⟨gb323, 2, none⟩ = some (.int .i64 0) := (kCe BK323.out 2).trans rfl; have hcz17_3 : w13.cell? ⟨gb323, 3, none⟩ = some (.slice none 0 0) := (kCe BK323.out 3).trans rfl; have hfz17_0 := kFr BK323.out 0; have hfz17_1 := kFr BK323.out 1; have hfz17_2 := kFr BK323.out 2; have hfz17_3 := kFr BK323.out 3; have hnb18 := NB321_319.out; have hnc18 := NB319_321.out; have hnb19 := NB321_320.out; have hnc19 := NB320_321.out; have hcz20_0 : w13.cell? ⟨gb321, 0, none⟩ = some (u322000) := (kCe BK321.out 0).trans rfl; have hcz20_1 : w13.cell? ⟨gb321, 1, none⟩ = some (.int .i64 0) := (kCe BK321.out 1).trans rfl; have hcz20_2 : w13.cell? ⟨gb321, 2, none⟩ = some (.int .i64 0) := (kCe BK321.out 2).trans rfl; have hcz20_3 : w13.cell? ⟨gb321, 3, none⟩ = some (.int .i64 0) := (kCe BK321.out 3).trans rfl; have hcz20_4 : w13.cell? ⟨gb321, 4, none⟩ = some (.int .i64 0) := (kCe BK321.out 4).trans rfl; have hcz20_5 : w13.cell? ⟨gb321, 5, none⟩ = some (.int .i64 0) := (kCe BK321.out 5).trans rfl; have hfz20_0 := kFr BK321.out 0; have hfz20_1 := kFr BK321.out 1; have hfz20_2 := kFr BK321.out 2; have hfz20_3 := kFr BK321.out 3; have hfz20_4 := kFr BK321.out 4; have hfz20_5 := kFr BK321.out 5) | ((with_reducible refine gate_builtin (b := .append) (xs := #[.tmp 26, .tmp 27]) rfl ?_); at_builtin; refine Kd.R_append (Kd.int .i64) (w0 := w) w.heap.size rfl (.tmp 26) (.tmp 27) 85 3 (.int .i64 0) 8 rfl Tryz.underlying85 info3 rfl (by decide) (by omega) u322000 x322000_1 0 [.int .i64 0] (fun _ => True) (fun _ => False) rfl (by first | (go_simp; done) | (go_simp; rfl)) ?aP (fun _ hk => hk.elim) ?aF ?aO ?aB ?aS ?aL ?_; (case aP => exact rfl); (case aB => exact (bX HB.out)); (case aF => exact (fun _ _ => trivial)); (case aO => exact (by (with_reducible repeat (first | apply Kd.R_alloc | apply Kd.R_drewN | apply Kd.R_drew)); exact Kd.R_mono (Kd.R_far (p := ⟨gb323, 3, none⟩) (Kd.R_far (p := ⟨gb323, 2, none⟩) (Kd.R_far (p := ⟨gb323, 1, none⟩) (Kd.R_far (p := ⟨gb323, 0, none⟩) (Kd.R_types HO_322000.out BK323.out (by decide)) (fun _ hk => hk.2) (.int .u64 ((rd_T55 l0_1 x17_1).f0))) (fun _ hk => hk.2) (.int .u64 ((rd_T55 l0_1 x17_1).f1))) (fun _ hk => hk.2) (.int .i64 ((rd_T55 l0_1 x17_1).f2))) (fun _ hk => hk.2) (.slice A322_3 ((rd_T55 l0_1 x17_1).f3).length c322_3)) (fun _ hk => trivial))); (case aS => exact (bSz (bX HB.out))); (case aL => have := LMc12.out; omega); intro v325 w21 ho hb hg hat; rw [← Ny324.out] at ho; have n0_ := Asd.mk (blk_grown (g := gb319) (o := .cells #[.int .u64 a0_0, .slice (some ad322) l0_1.length c0_1, .slice A0_2 l0_2.length c0_2] 28 (0, 0)) (fX BK319.out) hg (Kd.R_ne HO_322000.out BK319.out (by decide))); have n1_ := Asd.mk (blk_grown (g := gb320) (o := .cells #[.slice none 0 0, .int .i64 0, .int .i64 0, .int .i64 0, .int .i64 0, .int .i64 0] 87 (0, 0)) (fX BK320.out) hg (Kd.R_ne HO_322000.out BK320.out (by decide))); have n2_ := Asd.mk (blk_grown (g := gb321) (o := .cells #[u322000, .int .i64 0, .int .i64 0, .int .i64 0, .int .i64 0, .int .i64 0] 87 (0, 0)) (fX BK321.out) hg (Kd.R_ne HO_322000.out BK321.out (by decide))); have n3_ := Asd.mk (blk_grown (g := gb323) (o := .cells #[.int .u64 ((rd_T55 l0_1 x17_1).f0), .int .u64 ((rd_T55 l0_1 x17_1).f1), .int .i64 ((rd_T55 l0_1 x17_1).f2), .slice A322_3 ((rd_T55 l0_1 x17_1).f3).length c322_3] 55 (0, 0)) (by (with_reducible repeat (first | refine kDn ?_ _ | refine kDr ?_ | refine kAl ?_ _)); refine kPu (cs := #[.int .u64 ((rd_T55 l0_1 x17_1).f0), .int .u64 ((rd_T55 l0_1 x17_1).f1), .int .i64 ((rd_T55 l0_1 x17_1).f2), .slice none 0 0]) ?_ 3 _ rfl; (with_reducible repeat (first | refine kDn ?_ _ | refine kDr ?_ | refine kAl ?_ _)); refine kPu (cs := #[.int .u64 ((rd_T55 l0_1 x17_1).f0), .int .u64 ((rd_T55 l0_1 x17_1).f1), .int .i64 0, .slice none 0 0]) ?_ 2 _ rfl; (with_reducible repeat (first | refine kDn ?_ _ | refine kDr ?_ | refine kAl ?_ _)); refine kPu (cs := #[.int .u64 ((rd_T55 l0_1 x17_1).f0), .int .u64 0, .int .i64 0, .slice none 0 0]) ?_ 1 _ rfl; (with_reducible repeat (first | refine kDn ?_ _ | refine kDr ?_ | refine kAl ?_ _)); refine kPu (cs := #[.int .u64 0, .int .u64 0, .int .i64 0, .slice none 0 0]) ?_ 0 _ rfl; (with_reducible repeat (first | refine kDn ?_ _ | refine kDr ?_ | refine kAl ?_ _)); exact BK323.out) hg (Kd.R_ne HO_322000.out BK323.out (by decide))); have n4_ := Asd.mk (hb); have n5_ := Asd.mk (ho); clear BK319; clear BK320; clear BK321; clear BK323; clear HB; clear HO_322000; have BK319 := n0_; have BK320 := n1_; have BK321 := n2_; have BK323 := n3_; have HB := n4_; have HO326 := n5_; clear n0_ n1_ n2_ n3_ n4_ n5_; clear ho hb hg hat; obtain ⟨Ao22, co22, eo22⟩ := Kd.R_slice HO326.out; subst eo22; have hcz23_0 : w21.cell? ⟨gb321, 0, none⟩ = some (u322000) := (kCe BK321.out 0).trans rfl; have hcz23_1 : w21.cell? ⟨gb321, 1, none⟩ = some (.int .i64 0) := (kCe BK321.out 1).trans rfl; have hcz23_2 : w21.cell? ⟨gb321, 2, none⟩ = some (.int .i64 0) := (kCe BK321.out 2).trans rfl; have hcz23_3 : w21.cell? ⟨gb321, 3, none⟩ = some (.int .i64 0) := (kCe BK321.out 3).trans rfl; have hcz23_4 : w21.cell? ⟨gb321, 4, none⟩ = some (.int .i64 0) := (kCe BK321.out 4).trans rfl; have hcz23_5 : w21.cell? ⟨gb321, 5, none⟩ = some (.int .i64 0) := (kCe BK321.out 5).trans rfl; have hfz23_0 := kFr BK321.out 0; have hfz23_1 := kFr BK321.out 1; have hfz23_2 := kFr BK321.out 2; have hfz23_3 := kFr BK321.out 3; have hfz23_4 := kFr BK321.out 4; have hfz23_5 := kFr BK321.out 5))
        go_roundg k1
        case measure => have := HK1.out; omega
        case rel => exact ⟨(x4_1), (wrap64 (x17_1 + 1)), (y324), (.slice Ao22 y324.length co22), eX, eX, H', ⟨by have := HK1.out; omega⟩, ⟨by (with_reducible repeat (first | apply Kd.R_alloc | apply Kd.R_drewN | apply Kd.R_drew)); exact Kd.R_mono (Kd.R_far (p := ⟨gb321, 0, none⟩) (Kd.R_types HO326.out BK321.out (by decide)) (fun _ hk => hk.2) (.slice Ao22 y324.length co22)) (fun _ hk => trivial)⟩, ⟨fX BK319.out⟩, ⟨fX BK320.out⟩, ⟨by (with_reducible repeat (first | refine kDn ?_ _ | refine kDr ?_ | refine kAl ?_ _)); refine kPu (cs := #[u322000, .int .i64 0, .int .i64 0, .int .i64 0, .int .i64 0, .int .i64 0]) ?_ 0 _ rfl; (with_reducible repeat (first | refine kDn ?_ _ | refine kDr ?_ | refine kAl ?_ _)); exact BK321.out⟩, ⟨bX HB.out⟩⟩
       ·rw [if_neg c12] at H
        exact absurd H (by simp)
      ·rw [if_neg c11] at H
       have c11b0 : ((((rd_T55 l0_1 x17_1).f3).length : Int) == 0) = false := beq_eq_false_iff_ne.mpr c11
       have c11b1 : ((((rd_T55 l0_1 x17_1).f3).length : Int) != 0) = true := bne_iff_ne.mpr c11
       have c11b2 : ¬ (((rd_T55 l0_1 x17_1).f3) = []) := fun h_ => c11 (by rw [h_]; rfl)
       replace H := Option.bind_eq_some_iff.mp H
       obtain ⟨t327, A240, H⟩ := H
       have A24 := Asd.mk A240
       clear A240
       by_cases c25 : x322000_1.length < 17592186044416
       ·rw [if_pos c25] at H
        have LMc25 := Asd.mk c25
        clear c25
        obtain ⟨y328, hy328⟩ : ∃ y_ : List Int, y_ = (x322000_1 ++ [t327]) := ⟨_, rfl⟩
        replace H : (image_lay.l0 k1 (wrap64 (t327 + (((rd_T55 l0_1 x17_1).f3).length : Int))) l0_1 (l0_1.length : Int) (wrap64 (x17_1 + 1)) a0_0 l0_1 l0_2 y328 0 0 0 0 0) = some (r1, r2, r3, r4, r5, r6) := by first | (rw [hy328]; with_reducible exact H) | (have H2_ := (Option.bind_some _ _).symm.trans H; rw [hy328]; with_reducible exact H2_) | (have H2_ := (Option.bind_some _ _).symm.trans H; with_reducible exact H2_) | with_reducible exact H | (rw [hy328]; exact H) | exact H
        have Ny328 := Asd.mk hy328
        clear hy328
        have H' := Asd.mk H
        clear H
        have p322 : 0 ≤ (x17_1 : Int) := of_decide_eq_true aX
        have q322 : x17_1 < (l0_1.length : Int) := of_decide_eq_true aX
        obtain ⟨ad322, A322_3, c322_3, e322, hx322_0, hx322_1, hx322_2, hx322_3, hl322_3, hi322_3⟩ := at_T55 HR0_1.out x17_1 p322 q322
        cases e322
        replace hx322_0 := (HB.out.cell (World.block_lt_of_cell? w _ hx322_0)).trans hx322_0
        replace hx322_1 := (HB.out.cell (World.block_lt_of_cell? w _ hx322_1)).trans hx322_1
        replace hx322_2 := (HB.out.cell (World.block_lt_of_cell? w _ hx322_2)).trans hx322_2
        replace hx322_3 := (HB.out.cell (World.block_lt_of_cell? w _ hx322_3)).trans hx322_3
        have HR322_3 := Asd.mk hi322_3
        have HC322_3 := Asd.mk hl322_3
        clear hi322_3 hl322_3
        replace p322 := eq_true p322
        replace q322 := eq_true q322
        go_wp2_with (first | ((with_reducible refine gDs (N := 6) rfl ?_); refine bEv ?hg (N := 6) ?hd (cs := #[.int .u64 0, .int .u64 0, .int .i64 0, .slice none 0 0]) (t := 55) ?hr ?_; (case hd => rfl); (case hg => rfl); (case hr => first | (go_simp; done) | (go_simp; rfl)); intro gb323 hg w26 hbox hb; have n0_ := Asd.mk (Kd.R_below (kRX HO_322000.out) hb); have n1_ := Asd.mk (kBe (g := gb319) (o := .cells #[.int .u64 a0_0, .slice (some ad322) l0_1.length c0_1, .slice A0_2 l0_2.length c0_2] 28 (0, 0)) (kX BK319.out) hb); have n2_ := Asd.mk (kBe (g := gb320) (o := .cells #[.slice none 0 0, .int .i64 0, .int .i64 0, .int .i64 0, .int .i64 0, .int .i64 0] 87 (0, 0)) (kX BK320.out) hb); have n3_ := Asd.mk (kBe (g := gb321) (o := .cells #[u322000, .int .i64 0, .int .i64 0, .int .i64 0, .int .i64 0, .int .i64 0] 87 (0, 0)) (kX BK321.out) hb); have n4_ := Asd.mk (bSt (bX HB.out) hb); have n5_ := Asd.mk (hbox); have n6_ := Asd.mk (zX hg (bX HB.out) : w.heap.size ≤ gb323); have n7_ := Asd.mk (zX hg (bX HB.out) : w.heap.size ≤ gb323); have n8_ := Asd.mk ((by rw [hg]; exact Nat.ne_of_lt (blk_lt (g := gb319) (o := .cells #[.int .u64 a0_0, .slice (some ad322) l0_1.length c0_1, .slice A0_2 l0_2.length c0_2] 28 (0, 0)) (kX BK319.out)) : gb319 ≠ gb323)); have n9_ := Asd.mk ((by rw [hg]; exact Nat.ne_of_gt (blk_lt (g := gb319) (o := .cells #[.int .u64 a0_0, .slice (some ad322) l0_1.length c0_1, .slice A0_2 l0_2.length c0_2] 28 (0, 0)) (kX BK319.out)) : gb323 ≠ gb319)); have n10_ := Asd.mk ((by rw [hg]; exact Nat.ne_of_lt (blk_lt (g := gb320) (o := .cells #[.slice none 0 0, .int .i64 0, .int .i64 0, .int .i64 0, .int .i64 0, .int .i64 0] 87 (0, 0)) (kX BK320.out)) : gb320 ≠ gb323)); have n11_ := Asd.mk ((by rw [hg]; exact Nat.ne_of_gt (blk_lt (g := gb320) (o := .cells #[.slice none 0 0, .int .i64 0, .int .i64 0, .int .i64 0, .int .i64 0, .int .i64 0] 87 (0, 0)) (kX BK320.out)) : gb323 ≠ gb320)); have n12_ := Asd.mk ((by rw [hg]; exact Nat.ne_of_lt (blk_lt (g := gb321) (o := .cells #[u322000, .int .i64 0, .int .i64 0, .int .i64 0, .int .i64 0, .int .i64 0] 87 (0, 0)) (kX BK321.out)) : gb321 ≠ gb323)); have n13_ := Asd.mk ((by rw [hg]; exact Nat.ne_of_gt (blk_lt (g := gb321) (o := .cells #[u322000, .int .i64 0, .int .i64 0, .int .i64 0, .int .i64 0, .int .i64 0] 87 (0, 0)) (kX BK321.out)) : gb323 ≠ gb321)); clear HO_322000; clear BK319; clear BK320; clear BK321; clear HB; have HO_322000 := n0_; have BK319 := n1_; have BK320 := n2_; have BK321 := n3_; have HB := n4_; have BK323 := n5_; have GW323 := n6_; have GE323 := n7_; have NB319_323 := n8_; have NB323_319 := n9_; have NB320_323 := n10_; have NB323_320 := n11_; have NB321_323 := n12_; have NB323_321 := n13_; clear n0_ n1_ n2_ n3_ n4_ n5_ n6_ n7_ n8_ n9_ n10_ n11_ n12_ n13_; clear hb hbox hg; have hnb27 := NB323_319.out; have hnc27 := NB319_323.out; have hnb28 := NB323_320.out; have hnc28 := NB320_323.out; have hnb29 := NB323_321.out; have hnc29 := NB321_323.out; have hcz30_0 : w26.cell? ⟨gb323, 0, none⟩ = some (.int .u64 0) := (kCe BK323.out 0).trans rfl; have hcz30_1 : w26.cell? ⟨gb323, 1, none⟩ = some (.int .u64 0) := (kCe BK323.out 1).trans rfl; have hcz30_2 : w26.cell? ⟨gb323, 2, none⟩ = some (.int .i64 0) := (kCe BK323.out 2).trans rfl; have hcz30_3 : w26.cell? ⟨gb323, 3, none⟩ = some (.slice none 0 0) := (kCe BK323.out 3).trans rfl; have hfz30_0 := kFr BK323.out 0; have hfz30_1 := kFr BK323.out 1; have hfz30_2 := kFr BK323.out 2; have hfz30_3 := kFr BK323.out 3) | ((with_reducible refine gate_callee (f := 81) rfl ?_); refine goesL_ (some 31) rfl rfl Tryz.func81 (by kernel_rfl) rfl #[.int .i64 x4_1] rfl gX ?_; (with_reducible refine (image_up.calls x4_1 t327 _ A24.out).mono ?_); rintro e w' ⟨rfl, ⟨nd, rfl⟩⟩; refine ⟨_, rfl, ?_⟩; have hnb31 := NB321_319.out; have hnc31 := NB319_321.out; have hnb32 := NB321_320.out; have hnc32 := NB320_321.out; have hcz33_0 : w26.cell? ⟨gb321, 0, none⟩ = some (u322000) := (kCe BK321.out 0).trans rfl; have hcz33_1 : w26.cell? ⟨gb321, 1, none⟩ = some (.int .i64 0) := (kCe BK321.out 1).trans rfl; have hcz33_2 : w26.cell? ⟨gb321, 2, none⟩ = some (.int .i64 0) := (kCe BK321.out 2).trans rfl; have hcz33_3 : w26.cell? ⟨gb321, 3, none⟩ = some (.int .i64 0) := (kCe BK321.out 3).trans rfl; have hcz33_4 : w26.cell? ⟨gb321, 4, none⟩ = some (.int .i64 0) := (kCe BK321.out 4).trans rfl; have hcz33_5 : w26.cell? ⟨gb321, 5, none⟩ = some (.int .i64 0) := (kCe BK321.out 5).trans rfl; have hfz33_0 := kFr BK321.out 0; have hfz33_1 := kFr BK321.out 1; have hfz33_2 := kFr BK321.out 2; have hfz33_3 := kFr BK321.out 3; have hfz33_4 := kFr BK321.out 4; have hfz33_5 := kFr BK321.out 5) | ((with_reducible refine gate_builtin (b := .append) (xs := #[.tmp 33, .tmp 35]) rfl ?_); at_builtin; refine Kd.R_append (Kd.int .i64) (w0 := w) w.heap.size rfl (.tmp 33) (.tmp 35) 85 3 (.int .i64 0) 8 rfl Tryz.underlying85 info3 rfl (by decide) (by omega) u322000 x322000_1 t327 [.int .i64 t327] (fun _ => True) (fun _ => False) rfl (by first | (go_simp; done) | (go_simp; rfl)) ?aP (fun _ hk => hk.elim) ?aF ?aO ?aB ?aS ?aL ?_; (case aP => exact rfl); (case aB => exact (bX HB.out)); (case aF => exact (fun _ _ => trivial)); (case aO => exact (by (with_reducible repeat (first | apply Kd.R_alloc | apply Kd.R_drewN | apply Kd.R_drew)); exact Kd.R_mono (Kd.R_far (p := ⟨gb323, 3, none⟩) (Kd.R_far (p := ⟨gb323, 2, none⟩) (Kd.R_far (p := ⟨gb323, 1, none⟩) (Kd.R_far (p := ⟨gb323, 0, none⟩) (Kd.R_types HO_322000.out BK323.out (by decide)) (fun _ hk => hk.2) (.int .u64 ((rd_T55 l0_1 x17_1).f0))) (fun _ hk => hk.2) (.int .u64 ((rd_T55 l0_1 x17_1).f1))) (fun _ hk => hk.2) (.int .i64 ((rd_T55 l0_1 x17_1).f2))) (fun _ hk => hk.2) (.slice A322_3 ((rd_T55 l0_1 x17_1).f3).length c322_3)) (fun _ hk => trivial))); (case aS => exact (bSz (bX HB.out))); (case aL => have := LMc25.out; omega); intro v329 w34 ho hb hg hat; rw [← Ny328.out] at ho; have n0_ := Asd.mk (blk_grown (g := gb319) (o := .cells #[.int .u64 a0_0, .slice (some ad322) l0_1.length c0_1, .slice A0_2 l0_2.length c0_2] 28 (0, 0)) (fX BK319.out) hg (Kd.R_ne HO_322000.out BK319.out (by decide))); have n1_ := Asd.mk (blk_grown (g := gb320) (o := .cells #[.slice none 0 0, .int .i64 0, .int .i64 0, .int .i64 0, .int .i64 0, .int .i64 0] 87 (0, 0)) (fX BK320.out) hg (Kd.R_ne HO_322000.out BK320.out (by decide))); have n2_ := Asd.mk (blk_grown (g := gb321) (o := .cells #[u322000, .int .i64 0, .int .i64 0, .int .i64 0, .int .i64 0, .int .i64 0] 87 (0, 0)) (fX BK321.out) hg (Kd.R_ne HO_322000.out BK321.out (by decide))); have n3_ := Asd.mk (blk_grown (g := gb323) (o := .cells #[.int .u64 ((rd_T55 l0_1 x17_1).f0), .int .u64 ((rd_T55 l0_1 x17_1).f1), .int .i64 ((rd_T55 l0_1 x17_1).f2), .slice A322_3 ((rd_T55 l0_1 x17_1).f3).length c322_3] 55 (0, 0)) (by (with_reducible repeat (first | refine kDn ?_ _ | refine kDr ?_ | refine kAl ?_ _)); refine kPu (cs := #[.int .u64 ((rd_T55 l0_1 x17_1).f0), .int .u64 ((rd_T55 l0_1 x17_1).f1), .int .i64 ((rd_T55 l0_1 x17_1).f2), .slice none 0 0]) ?_ 3 _ rfl; (with_reducible repeat (first | refine kDn ?_ _ | refine kDr ?_ | refine kAl ?_ _)); refine kPu (cs := #[.int .u64 ((rd_T55 l0_1 x17_1).f0), .int .u64 ((rd_T55 l0_1 x17_1).f1), .int .i64 0, .slice none 0 0]) ?_ 2 _ rfl; (with_reducible repeat (first | refine kDn ?_ _ | refine kDr ?_ | refine kAl ?_ _)); refine kPu (cs := #[.int .u64 ((rd_T55 l0_1 x17_1).f0), .int .u64 0, .int .i64 0, .slice none 0 0]) ?_ 1 _ rfl; (with_reducible repeat (first | refine kDn ?_ _ | refine kDr ?_ | refine kAl ?_ _)); refine kPu (cs := #[.int .u64 0, .int .u64 0, .int .i64 0, .slice none 0 0]) ?_ 0 _ rfl; (with_reducible repeat (first | refine kDn ?_ _ | refine kDr ?_ | refine kAl ?_ _)); exact BK323.out) hg (Kd.R_ne HO_322000.out BK323.out (by decide))); have n4_ := Asd.mk (hb); have n5_ := Asd.mk (ho); clear BK319; clear BK320; clear BK321; clear BK323; clear HB; clear HO_322000; have BK319 := n0_; have BK320 := n1_; have BK321 := n2_; have BK323 := n3_; have HB := n4_; have HO330 := n5_; clear n0_ n1_ n2_ n3_ n4_ n5_; clear ho hb hg hat; obtain ⟨Ao35, co35, eo35⟩ := Kd.R_slice HO330.out; subst eo35; have hcz36_0 : w34.cell? ⟨gb321, 0, none⟩ = some (u322000) := (kCe BK321.out 0).trans rfl; have hcz36_1 : w34.cell? ⟨gb321, 1, none⟩ = some (.int .i64 0) := (kCe BK321.out 1).trans rfl; have hcz36_2 : w34.cell? ⟨gb321, 2, none⟩ = some (.int .i64 0) := (kCe BK321.out 2).trans rfl; have hcz36_3 : w34.cell? ⟨gb321, 3, none⟩ = some (.int .i64 0) := (kCe BK321.out 3).trans rfl; have hcz36_4 : w34.cell? ⟨gb321, 4, none⟩ = some (.int .i64 0) := (kCe BK321.out 4).trans rfl; have hcz36_5 : w34.cell? ⟨gb321, 5, none⟩ = some (.int .i64 0) := (kCe BK321.out 5).trans rfl; have hfz36_0 := kFr BK321.out 0; have hfz36_1 := kFr BK321.out 1; have hfz36_2 := kFr BK321.out 2; have hfz36_3 := kFr BK321.out 3; have hfz36_4 := kFr BK321.out 4; have hfz36_5 := kFr BK321.out 5; have hcz37_0 : w34.cell? ⟨gb323, 0, none⟩ = some (.int .u64 ((rd_T55 l0_1 x17_1).f0)) := (kCe BK323.out 0).trans rfl; have hcz37_1 : w34.cell? ⟨gb323, 1, none⟩ = some (.int .u64 ((rd_T55 l0_1 x17_1).f1)) := (kCe BK323.out 1).trans rfl; have hcz37_2 : w34.cell? ⟨gb323, 2, none⟩ = some (.int .i64 ((rd_T55 l0_1 x17_1).f2)) := (kCe BK323.out 2).trans rfl; have hcz37_3 : w34.cell? ⟨gb323, 3, none⟩ = some (.slice A322_3 ((rd_T55 l0_1 x17_1).f3).length c322_3) := (kCe BK323.out 3).trans rfl; have hfz37_0 := kFr BK323.out 0; have hfz37_1 := kFr BK323.out 1; have hfz37_2 := kFr BK323.out 2; have hfz37_3 := kFr BK323.out 3))
        go_roundg k1
        case measure => have := HK1.out; omega
        case rel => exact ⟨(wrap64 (t327 + (((rd_T55 l0_1 x17_1).f3).length : Int))), (wrap64 (x17_1 + 1)), (y328), (.slice Ao35 y328.length co35), eX, eX, H', ⟨by have := HK1.out; omega⟩, ⟨by (with_reducible repeat (first | apply Kd.R_alloc | apply Kd.R_drewN | apply Kd.R_drew)); exact Kd.R_mono (Kd.R_far (p := ⟨gb321, 0, none⟩) (Kd.R_types HO330.out BK321.out (by decide)) (fun _ hk => hk.2) (.slice Ao35 y328.length co35)) (fun _ hk => trivial)⟩, ⟨fX BK319.out⟩, ⟨fX BK320.out⟩, ⟨by (with_reducible repeat (first | refine kDn ?_ _ | refine kDr ?_ | refine kAl ?_ _)); refine kPu (cs := #[u322000, .int .i64 0, .int .i64 0, .int .i64 0, .int .i64 0, .int .i64 0]) ?_ 0 _ rfl; (with_reducible repeat (first | refine kDn ?_ _ | refine kDr ?_ | refine kAl ?_ _)); exact BK321.out⟩, ⟨bX HB.out⟩⟩
       ·rw [if_neg c25] at H
        exact absurd H (by simp)
     ·rw [if_neg c10] at H
      exact absurd H (by simp)
    ·rw [if_neg c9] at H
     exact absurd H (by simp)
   ·rw [if_neg c8] at H
    have c8b0 : decide (x17_1 < (l0_1.length : Int)) = false := decide_eq_false c8
    clear c8
    by_cases c38 : (l0_2.length : Int) > 0
    ·rw [if_pos c38] at H
     have c38b0 : decide (0 < (l0_2.length : Int)) = true := decide_eq_true c38
     have c38b1 : decide (0 < l0_2.length) = true := decide_eq_true (by omega)
     clear c38
     replace H := Option.bind_eq_some_iff.mp H
     obtain ⟨t331, A390, H⟩ := H
     have A39 := Asd.mk A390
     clear A390
     have H' := Asd.mk H
     clear H
     have hnb40 := NB319_320.out
     have hnc40 := NB320_319.out
     have hnb41 := NB319_321.out
     have hnc41 := NB321_319.out
     have hcz42_0 : wr.cell? ⟨gb319, 0, none⟩ = some (.int .u64 a0_0) := (kCe BK319.out 0).trans rfl
     have hcz42_1 : wr.cell? ⟨gb319, 1, none⟩ = some (.slice A0_1 l0_1.length c0_1) := (kCe BK319.out 1).trans rfl
     have hcz42_2 : wr.cell? ⟨gb319, 2, none⟩ = some (.slice A0_2 l0_2.length c0_2) := (kCe BK319.out 2).trans rfl
     have hfz42_0 := kFr BK319.out 0
     have hfz42_1 := kFr BK319.out 1
     have hfz42_2 := kFr BK319.out 2
     go_wp2_with (first | ((with_reducible refine gate_callee (f := 81) rfl ?_); refine goesL_ (some 49) rfl rfl Tryz.func81 (by kernel_rfl) rfl #[.int .i64 x4_1] rfl gX ?_; (with_reducible refine (image_up.calls x4_1 t331 _ A39.out).mono ?_); rintro e w' ⟨rfl, ⟨nd, rfl⟩⟩; refine ⟨_, rfl, ?_⟩; skip; have hnb43 := NB321_320.out; have hnc43 := NB320_321.out; have hcz44_0 : wr.cell? ⟨gb321, 0, none⟩ = some (u322000) := (kCe BK321.out 0).trans rfl; have hcz44_1 : wr.cell? ⟨gb321, 1, none⟩ = some (.int .i64 0) := (kCe BK321.out 1).trans rfl; have hcz44_2 : wr.cell? ⟨gb321, 2, none⟩ = some (.int .i64 0) := (kCe BK321.out 2).trans rfl; have hcz44_3 : wr.cell? ⟨gb321, 3, none⟩ = some (.int .i64 0) := (kCe BK321.out 3).trans rfl; have hcz44_4 : wr.cell? ⟨gb321, 4, none⟩ = some (.int .i64 0) := (kCe BK321.out 4).trans rfl; have hcz44_5 : wr.cell? ⟨gb321, 5, none⟩ = some (.int .i64 0) := (kCe BK321.out 5).trans rfl; have hfz44_0 := kFr BK321.out 0; have hfz44_1 := kFr BK321.out 1; have hfz44_2 := kFr BK321.out 2; have hfz44_3 := kFr BK321.out 3; have hfz44_4 := kFr BK321.out 4; have hfz44_5 := kFr BK321.out 5; have hcz45_0 : wr.cell? ⟨gb319, 0, none⟩ = some (.int .u64 a0_0) := (kCe BK319.out 0).trans rfl; have hcz45_1 : wr.cell? ⟨gb319, 1, none⟩ = some (.slice A0_1 l0_1.length c0_1) := (kCe BK319.out 1).trans rfl; have hcz45_2 : wr.cell? ⟨gb319, 2, none⟩ = some (.slice A0_2 l0_2.length c0_2) := (kCe BK319.out 2).trans rfl; have hfz45_0 := kFr BK319.out 0; have hfz45_1 := kFr BK319.out 1; have hfz45_2 := kFr BK319.out 2))
     go_loopg [67] k1 (fun kq v67 w' => ∃ (x67_2 : Int) (x322003_2 : Int), v67 = .int .i64 x67_2 ∧ Asd (image_lay.l1 kq l0_2 (l0_2.length : Int) x67_2 x322000_1 t331 (wrap64 (t331 + (wrap64 (24 * (wrap64 ((l0_2.length : Int) + 1)))))) x322003_2 0 0 = some (r1, r2, r3, r4, r5, r6)) ∧ Asd (kq ≤ k1) ∧ Asd (Kd.R (Kd.int .i64) 3 w' w.heap.size (fun _ => True) u322000 x322000_1) ∧ Asd (w'.heap[gb319]? = some (.cells #[.int .u64 a0_0, (.slice A0_1 l0_1.length c0_1), (.slice A0_2 l0_2.length c0_2)] 28 (0, 0))) ∧ Asd (w'.heap[gb320]? = some (.cells #[(.slice none 0 0), .int .i64 0, .int .i64 0, .int .i64 0, .int .i64 0, .int .i64 0] 87 (0, 0))) ∧ Asd (w'.heap[gb321]? = some (.cells #[u322000, .int .i64 t331, .int .i64 (wrap64 (t331 + (wrap64 (24 * (wrap64 ((l0_2.length : Int) + 1)))))), .int .i64 x322003_2, .int .i64 0, .int .i64 0] 87 (0, 0))) ∧ Asd (Below w.heap.size w w'))
     case atStart => exact ⟨(0), (wrap64 ((wrap64 (t331 + (wrap64 (24 * (wrap64 ((l0_2.length : Int) + 1)))))) + 1)), eX, H', ⟨Nat.le_refl _⟩, ⟨by (with_reducible repeat (first | apply Kd.R_alloc | apply Kd.R_drewN | apply Kd.R_drew)); exact Kd.R_mono (Kd.R_far (p := ⟨gb321, 3, none⟩) (Kd.R_far (p := ⟨gb321, 2, none⟩) (Kd.R_far (p := ⟨gb321, 1, none⟩) (Kd.R_types HO_322000.out BK321.out (by decide)) (fun _ hk => hk.2) (.int .i64 t331)) (fun _ hk => hk.2) (.int .i64 (wrap64 (t331 + (wrap64 (24 * (wrap64 ((l0_2.length : Int) + 1)))))))) (fun _ hk => hk.2) (.int .i64 (wrap64 ((wrap64 (t331 + (wrap64 (24 * (wrap64 ((l0_2.length : Int) + 1)))))) + 1)))) (fun _ hk => trivial)⟩, ⟨fX BK319.out⟩, ⟨fX BK320.out⟩, ⟨by (with_reducible repeat (first | refine kDn ?_ _ | refine kDr ?_ | refine kAl ?_ _)); refine kPu (cs := #[u322000, .int .i64 t331, .int .i64 (wrap64 (t331 + (wrap64 (24 * (wrap64 ((l0_2.length : Int) + 1)))))), .int .i64 0, .int .i64 0, .int .i64 0]) ?_ 3 _ rfl; (with_reducible repeat (first | refine kDn ?_ _ | refine kDr ?_ | refine kAl ?_ _)); refine kPu (cs := #[u322000, .int .i64 t331, .int .i64 0, .int .i64 0, .int .i64 0, .int .i64 0]) ?_ 2 _ rfl; (with_reducible repeat (first | refine kDn ?_ _ | refine kDr ?_ | refine kAl ?_ _)); refine kPu (cs := #[u322000, .int .i64 0, .int .i64 0, .int .i64 0, .int .i64 0, .int .i64 0]) ?_ 1 _ rfl; (with_reducible repeat (first | refine kDn ?_ _ | refine kDr ?_ | refine kAl ?_ _)); exact BK321.out⟩, ⟨bX HB.out⟩⟩
     case round =>
      clear H'
      try clear c1
      try clear c2
      try clear p2
      try clear c3
      try clear p3
      try clear q3
      try clear hx3
      try clear c4
      try clear c5
      try clear c6
      try clear p6
      try clear c8
      try clear c8b0
      try clear c9
      try clear c9b0
      try clear c10
      try clear c10b0
      try clear c11
      try clear c11b0
      try clear c11b1
      try clear c11b2
      try clear c12
      try clear c14
      try clear c15
      try clear c16
      try clear c18
      try clear c19
      try clear c25
      try clear c27
      try clear c28
      try clear c29
      try clear c31
      try clear c32
      try clear p32
      try clear q32
      try clear hx32
      try clear c38
      try clear c38b0
      try clear c38b1
      try clear c40
      try clear c41
      try clear c43
      try clear c44
      try clear hcz17_0
      try clear hcz17_1
      try clear hcz17_2
      try clear hcz17_3
      try clear hcz20_0
      try clear hcz20_1
      try clear hcz20_2
      try clear hcz20_3
      try clear hcz20_4
      try clear hcz20_5
      try clear hcz23_0
      try clear hcz23_1
      try clear hcz23_2
      try clear hcz23_3
      try clear hcz23_4
      try clear hcz23_5
      try clear hcz30_0
      try clear hcz30_1
      try clear hcz30_2
      try clear hcz30_3
      try clear hcz33_0
      try clear hcz33_1
      try clear hcz33_2
      try clear hcz33_3
      try clear hcz33_4
      try clear hcz33_5
      try clear hcz36_0
      try clear hcz36_1
      try clear hcz36_2
      try clear hcz36_3
      try clear hcz36_4
      try clear hcz36_5
      try clear hcz37_0
      try clear hcz37_1
      try clear hcz37_2
      try clear hcz37_3
      try clear hcz42_0
      try clear hcz42_1
      try clear hcz42_2
      try clear hcz44_0
      try clear hcz44_1
      try clear hcz44_2
      try clear hcz44_3
      try clear hcz44_4
      try clear hcz44_5
      try clear hcz45_0
      try clear hcz45_1
      try clear hcz45_2
      try clear hcz7_0
      try clear hcz7_1
      try clear hcz7_2
      try clear hfz17_0
      try clear hfz17_1
      try clear hfz17_2
      try clear hfz17_3
      try clear hfz20_0
      try clear hfz20_1
      try clear hfz20_2
      try clear hfz20_3
      try clear hfz20_4
      try clear hfz20_5
      try clear hfz23_0
      try clear hfz23_1
      try clear hfz23_2
      try clear hfz23_3
      try clear hfz23_4
      try clear hfz23_5
      try clear hfz30_0
      try clear hfz30_1
      try clear hfz30_2
      try clear hfz30_3
      try clear hfz33_0
      try clear hfz33_1
      try clear hfz33_2
      try clear hfz33_3
      try clear hfz33_4
      try clear hfz33_5
      try clear hfz36_0
      try clear hfz36_1
      try clear hfz36_2
      try clear hfz36_3
      try clear hfz36_4
      try clear hfz36_5
      try clear hfz37_0
      try clear hfz37_1
      try clear hfz37_2
      try clear hfz37_3
      try clear hfz42_0
      try clear hfz42_1
      try clear hfz42_2
      try clear hfz44_0
      try clear hfz44_1
      try clear hfz44_2
      try clear hfz44_3
      try clear hfz44_4
      try clear hfz44_5
      try clear hfz45_0
      try clear hfz45_1
      try clear hfz45_2
      try clear hfz7_0
      try clear hfz7_1
      try clear hfz7_2
      try clear hx322_0
      try clear hx322_1
      try clear hx322_2
      try clear hx322_3
      try clear p2
      try clear p322
      try clear p6
      try clear q322
      obtain ⟨x67_2, x322003_2, rfl, HA, HK2, HO_322000, BK319, BK320, BK321, HB⟩ := hrel
      cases gk with
      | zero => exact absurd HA.out (by simp [image_lay.l1])
      | succ k2 =>
       have H := HA.out
       clear HA
       simp only [image_lay.l1] at H
       by_cases c46 : x67_2 < (l0_2.length : Int)
       ·rw [if_pos c46] at H
        have c46b0 : decide (x67_2 < (l0_2.length : Int)) = true := decide_eq_true c46
        clear c46
        by_cases c47 : 0 ≤ x67_2
        ·rw [if_pos c47] at H
         have c47b0 : decide (0 ≤ x67_2) = true := decide_eq_true c47
         clear c47
         by_cases c48 : x67_2 < (l0_2.length : Int)
         ·rw [if_pos c48] at H
          have c48b0 : decide (x67_2 < (l0_2.length : Int)) = true := decide_eq_true c48
          clear c48
          have H' := Asd.mk H
          clear H
          have p332 : 0 ≤ (x67_2 : Int) := of_decide_eq_true aX
          have q332 : x67_2 < (l0_2.length : Int) := of_decide_eq_true aX
          obtain ⟨ad332, e332, hx332_0, hx332_1⟩ := at_T82 HR0_2.out x67_2 p332 q332
          cases e332
          replace hx332_0 := (HB.out.cell (World.block_lt_of_cell? w _ hx332_0)).trans hx332_0
          replace hx332_1 := (HB.out.cell (World.block_lt_of_cell? w _ hx332_1)).trans hx332_1
          replace p332 := eq_true p332
          replace q332 := eq_true q332
          go_wp2_with (first | ((with_reducible refine gDs (N := 8) rfl ?_); refine bEv ?hg (N := 8) ?hd (cs := #[.string (⟨#[]⟩ : ByteArray), .int .u64 0]) (t := 82) ?hr ?_; (case hd => rfl); (case hg => rfl); (case hr => first | (go_simp; done) | (go_simp; rfl)); intro gb333 hg w49 hbox hb; have n0_ := Asd.mk (Kd.R_below (kRX HO_322000.out) hb); have n1_ := Asd.mk (kBe (g := gb319) (o := .cells #[.int .u64 a0_0, .slice A0_1 l0_1.length c0_1, .slice (some ad332) l0_2.length c0_2] 28 (0, 0)) (kX BK319.out) hb); have n2_ := Asd.mk (kBe (g := gb320) (o := .cells #[.slice none 0 0, .int .i64 0, .int .i64 0, .int .i64 0, .int .i64 0, .int .i64 0] 87 (0, 0)) (kX BK320.out) hb); have n3_ := Asd.mk (kBe (g := gb321) (o := .cells #[u322000, .int .i64 t331, .int .i64 (wrap64 (t331 + (wrap64 (24 * (wrap64 ((l0_2.length : Int) + 1)))))), .int .i64 x322003_2, .int .i64 0, .int .i64 0] 87 (0, 0)) (kX BK321.out) hb); have n4_ := Asd.mk (bSt (bX HB.out) hb); have n5_ := Asd.mk (hbox); have n6_ := Asd.mk (zX hg (bX HB.out) : w.heap.size ≤ gb333); have n7_ := Asd.mk (zX hg (bX HB.out) : w.heap.size ≤ gb333); have n8_ := Asd.mk ((by rw [hg]; exact Nat.ne_of_lt (blk_lt (g := gb319) (o := .cells #[.int .u64 a0_0, .slice A0_1 l0_1.length c0_1, .slice (some ad332) l0_2.length c0_2] 28 (0, 0)) (kX BK319.out)) : gb319 ≠ gb333)); have n9_ := Asd.mk ((by rw [hg]; exact Nat.ne_of_gt (blk_lt (g := gb319) (o := .cells #[.int .u64 a0_0, .slice A0_1 l0_1.length c0_1, .slice (some ad332) l0_2.length c0_2] 28 (0, 0)) (kX BK319.out)) : gb333 ≠ gb319)); have n10_ := Asd.mk ((by rw [hg]; exact Nat.ne_of_lt (blk_lt (g := gb320) (o := .cells #[.slice none 0 0, .int .i64 0, .int .i64 0, .int .i64 0, .int .i64 0, .int .i64 0] 87 (0, 0)) (kX BK320.out)) : gb320 ≠ gb333)); have n11_ := Asd.mk ((by rw [hg]; exact Nat.ne_of_gt (blk_lt (g := gb320) (o := .cells #[.slice none 0 0, .int .i64 0, .int .i64 0, .int .i64 0, .int .i64 0, .int .i64 0] 87 (0, 0)) (kX BK320.out)) : gb333 ≠ gb320)); have n12_ := Asd.mk ((by rw [hg]; exact Nat.ne_of_lt (blk_lt (g := gb321) (o := .cells #[u322000, .int .i64 t331, .int .i64 (wrap64 (t331 + (wrap64 (24 * (wrap64 ((l0_2.length : Int) + 1)))))), .int .i64 x322003_2, .int .i64 0, .int .i64 0] 87 (0, 0)) (kX BK321.out)) : gb321 ≠ gb333)); have n13_ := Asd.mk ((by rw [hg]; exact Nat.ne_of_gt (blk_lt (g := gb321) (o := .cells #[u322000, .int .i64 t331, .int .i64 (wrap64 (t331 + (wrap64 (24 * (wrap64 ((l0_2.length : Int) + 1)))))), .int .i64 x322003_2, .int .i64 0, .int .i64 0] 87 (0, 0)) (kX BK321.out)) : gb333 ≠ gb321)); clear HO_322000; clear BK319; clear BK320; clear BK321; clear HB; have HO_322000 := n0_; have BK319 := n1_; have BK320 := n2_; have BK321 := n3_; have HB := n4_; have BK333 := n5_; have GW333 := n6_; have GE333 := n7_; have NB319_333 := n8_; have NB333_319 := n9_; have NB320_333 := n10_; have NB333_320 := n11_; have NB321_333 := n12_; have NB333_321 := n13_; clear n0_ n1_ n2_ n3_ n4_ n5_ n6_ n7_ n8_ n9_ n10_ n11_ n12_ n13_; clear hb hbox hg; have hnb50 := NB333_319.out; have hnc50 := NB319_333.out; have hnb51 := NB333_320.out; have hnc51 := NB320_333.out; have hnb52 := NB333_321.out; have hnc52 := NB321_333.out; have hcz53_0 : w49.cell? ⟨gb333, 0, none⟩ = some (.string (⟨#[]⟩ : ByteArray)) := (kCe BK333.out 0).trans rfl; have hcz53_1 : w49.cell? ⟨gb333, 1, none⟩ = some (.int .u64 0) := (kCe BK333.out 1).trans rfl; have hfz53_0 := kFr BK333.out 0; have hfz53_1 := kFr BK333.out 1; have hnb54 := NB321_319.out; have hnc54 := NB319_321.out; have hnb55 := NB321_320.out; have hnc55 := NB320_321.out; have hcz56_0 : w49.cell? ⟨gb321, 0, none⟩ = some (u322000) := (kCe BK321.out 0).trans rfl; have hcz56_1 : w49.cell? ⟨gb321, 1, none⟩ = some (.int .i64 t331) := (kCe BK321.out 1).trans rfl; have hcz56_2 : w49.cell? ⟨gb321, 2, none⟩ = some (.int .i64 (wrap64 (t331 + (wrap64 (24 * (wrap64 ((l0_2.length : Int) + 1))))))) := (kCe BK321.out 2).trans rfl; have hcz56_3 : w49.cell? ⟨gb321, 3, none⟩ = some (.int .i64 x322003_2) := (kCe BK321.out 3).trans rfl; have hcz56_4 : w49.cell? ⟨gb321, 4, none⟩ = some (.int .i64 0) := (kCe BK321.out 4).trans rfl; have hcz56_5 : w49.cell? ⟨gb321, 5, none⟩ = some (.int .i64 0) := (kCe BK321.out 5).trans rfl; have hfz56_0 := kFr BK321.out 0; have hfz56_1 := kFr BK321.out 1; have hfz56_2 := kFr BK321.out 2; have hfz56_3 := kFr BK321.out 3; have hfz56_4 := kFr BK321.out 4; have hfz56_5 := kFr BK321.out 5))
          go_roundg k2
          case measure => have := HK1.out; have := HK2.out; omega
          case rel => exact ⟨(wrap64 (x67_2 + 1)), (wrap64 (x322003_2 + (wrap64 ((((rd_T82 l0_2 x67_2).f0).size : Int) + 1)))), eX, H', ⟨by have := HK1.out; have := HK2.out; omega⟩, ⟨by (with_reducible repeat (first | apply Kd.R_alloc | apply Kd.R_drewN | apply Kd.R_drew)); exact Kd.R_mono (Kd.R_far (p := ⟨gb321, 3, none⟩) (Kd.R_far (p := ⟨gb333, 1, none⟩) (Kd.R_far (p := ⟨gb333, 0, none⟩) (Kd.R_types (Kd.R_types HO_322000.out BK333.out (by decide)) BK321.out (by decide)) (fun _ hk => hk.1.2) (.string ((rd_T82 l0_2 x67_2).f0))) (fun _ hk => hk.1.2) (.int .u64 ((rd_T82 l0_2 x67_2).f1))) (fun _ hk => hk.2) (.int .i64 (wrap64 (x322003_2 + (wrap64 ((((rd_T82 l0_2 x67_2).f0).size : Int) + 1)))))) (fun _ hk => trivial)⟩, ⟨fX BK319.out⟩, ⟨fX BK320.out⟩, ⟨by (with_reducible repeat (first | refine kDn ?_ _ | refine kDr ?_ | refine kAl ?_ _)); refine kPu (cs := #[u322000, .int .i64 t331, .int .i64 (wrap64 (t331 + (wrap64 (24 * (wrap64 ((l0_2.length : Int) + 1)))))), .int .i64 x322003_2, .int .i64 0, .int .i64 0]) ?_ 3 _ rfl; (with_reducible repeat (first | refine kDn ?_ _ | refine kDr ?_ | refine kAl ?_ _)); refine blk_far ?_ NB321_333.out _; (with_reducible repeat (first | refine kDn ?_ _ | refine kDr ?_ | refine kAl ?_ _)); refine blk_far ?_ NB321_333.out _; (with_reducible repeat (first | refine kDn ?_ _ | refine kDr ?_ | refine kAl ?_ _)); exact BK321.out⟩, ⟨bX HB.out⟩⟩
         ·rw [if_neg c48] at H
          exact absurd H (by simp)
        ·rw [if_neg c47] at H
         exact absurd H (by simp)
       ·rw [if_neg c46] at H
        have c46b0 : decide (x67_2 < (l0_2.length : Int)) = false := decide_eq_false c46
        clear c46
        replace H := Option.bind_eq_some_iff.mp H
        obtain ⟨t334, A570, H⟩ := H
        have A57 := Asd.mk A570
        clear A570
        simp only [Option.some.injEq, Prod.mk.injEq] at H
        obtain ⟨rfl, rfl, rfl, rfl, rfl, rfl⟩ := H
        have hnb58 := NB321_319.out
        have hnc58 := NB319_321.out
        have hnb59 := NB321_320.out
        have hnc59 := NB320_321.out
        have hcz60_0 : wr.cell? ⟨gb321, 0, none⟩ = some (u322000) := (kCe BK321.out 0).trans rfl
        have hcz60_1 : wr.cell? ⟨gb321, 1, none⟩ = some (.int .i64 t331) := (kCe BK321.out 1).trans rfl
        have hcz60_2 : wr.cell? ⟨gb321, 2, none⟩ = some (.int .i64 (wrap64 (t331 + (wrap64 (24 * (wrap64 ((l0_2.length : Int) + 1))))))) := (kCe BK321.out 2).trans rfl
        have hcz60_3 : wr.cell? ⟨gb321, 3, none⟩ = some (.int .i64 x322003_2) := (kCe BK321.out 3).trans rfl
        have hcz60_4 : wr.cell? ⟨gb321, 4, none⟩ = some (.int .i64 0) := (kCe BK321.out 4).trans rfl
        have hcz60_5 : wr.cell? ⟨gb321, 5, none⟩ = some (.int .i64 0) := (kCe BK321.out 5).trans rfl
        have hfz60_0 := kFr BK321.out 0
        have hfz60_1 := kFr BK321.out 1
        have hfz60_2 := kFr BK321.out 2
        have hfz60_3 := kFr BK321.out 3
        have hfz60_4 := kFr BK321.out 4
        have hfz60_5 := kFr BK321.out 5
        go_wp2_with (first | ((with_reducible refine gate_callee (f := 81) rfl ?_); refine goesL_ (some 83) rfl rfl Tryz.func81 (by kernel_rfl) rfl #[.int .i64 (wrap64 (x322003_2 + 27))] rfl gX ?_; (with_reducible refine (image_up.calls (wrap64 (x322003_2 + 27)) t334 _ A57.out).mono ?_); rintro e w' ⟨rfl, ⟨nd, rfl⟩⟩; refine ⟨_, rfl, ?_⟩; skip; have hcz61_0 : wr.cell? ⟨gb321, 0, none⟩ = some (u322000) := (kCe BK321.out 0).trans rfl; have hcz61_1 : wr.cell? ⟨gb321, 1, none⟩ = some (.int .i64 t331) := (kCe BK321.out 1).trans rfl; have hcz61_2 : wr.cell? ⟨gb321, 2, none⟩ = some (.int .i64 (wrap64 (t331 + (wrap64 (24 * (wrap64 ((l0_2.length : Int) + 1))))))) := (kCe BK321.out 2).trans rfl; have hcz61_3 : wr.cell? ⟨gb321, 3, none⟩ = some (.int .i64 x322003_2) := (kCe BK321.out 3).trans rfl; have hcz61_4 : wr.cell? ⟨gb321, 4, none⟩ = some (.int .i64 0) := (kCe BK321.out 4).trans rfl; have hcz61_5 : wr.cell? ⟨gb321, 5, none⟩ = some (.int .i64 0) := (kCe BK321.out 5).trans rfl; have hfz61_0 := kFr BK321.out 0; have hfz61_1 := kFr BK321.out 1; have hfz61_2 := kFr BK321.out 2; have hfz61_3 := kFr BK321.out 3; have hfz61_4 := kFr BK321.out 4; have hfz61_5 := kFr BK321.out 5; obtain ⟨Ao62, co62, eo62⟩ := Kd.R_slice HO_322000.out; subst eo62; have hnb63 := NB320_319.out; have hnc63 := NB319_320.out; have hcz64_0 : wr.cell? ⟨gb320, 0, none⟩ = some (.slice none 0 0) := (kCe BK320.out 0).trans rfl; have hcz64_1 : wr.cell? ⟨gb320, 1, none⟩ = some (.int .i64 0) := (kCe BK320.out 1).trans rfl; have hcz64_2 : wr.cell? ⟨gb320, 2, none⟩ = some (.int .i64 0) := (kCe BK320.out 2).trans rfl; have hcz64_3 : wr.cell? ⟨gb320, 3, none⟩ = some (.int .i64 0) := (kCe BK320.out 3).trans rfl; have hcz64_4 : wr.cell? ⟨gb320, 4, none⟩ = some (.int .i64 0) := (kCe BK320.out 4).trans rfl; have hcz64_5 : wr.cell? ⟨gb320, 5, none⟩ = some (.int .i64 0) := (kCe BK320.out 5).trans rfl; have hfz64_0 := kFr BK320.out 0; have hfz64_1 := kFr BK320.out 1; have hfz64_2 := kFr BK320.out 2; have hfz64_3 := kFr BK320.out 3; have hfz64_4 := kFr BK320.out 4; have hfz64_5 := kFr BK320.out 5))
        refine bodyPost_ret (results_cell_row rfl _ _ gb320 87 #[.slice Ao62 x322000_1.length co62, .int .i64 t331, .int .i64 (wrap64 (t331 + (wrap64 (24 * (wrap64 ((l0_2.length : Int) + 1)))))), .int .i64 x322003_2, .int .i64 t334, .int .i64 (wrap64 (t334 + 256))] (0, 0) _ rfl (by (with_reducible repeat (first | refine kDn ?_ _ | refine kDr ?_ | refine kAl ?_ _)); refine kPu (cs := #[.slice Ao62 x322000_1.length co62, .int .i64 t331, .int .i64 (wrap64 (t331 + (wrap64 (24 * (wrap64 ((l0_2.length : Int) + 1)))))), .int .i64 x322003_2, .int .i64 t334, .int .i64 0]) ?_ 5 _ rfl; (with_reducible repeat (first | refine kDn ?_ _ | refine kDr ?_ | refine kAl ?_ _)); refine kPu (cs := #[.slice Ao62 x322000_1.length co62, .int .i64 t331, .int .i64 (wrap64 (t331 + (wrap64 (24 * (wrap64 ((l0_2.length : Int) + 1)))))), .int .i64 x322003_2, .int .i64 0, .int .i64 0]) ?_ 4 _ rfl; (with_reducible repeat (first | refine kDn ?_ _ | refine kDr ?_ | refine kAl ?_ _)); refine kPu (cs := #[.slice Ao62 x322000_1.length co62, .int .i64 t331, .int .i64 (wrap64 (t331 + (wrap64 (24 * (wrap64 ((l0_2.length : Int) + 1)))))), .int .i64 0, .int .i64 0, .int .i64 0]) ?_ 3 _ rfl; (with_reducible repeat (first | refine kDn ?_ _ | refine kDr ?_ | refine kAl ?_ _)); refine kPu (cs := #[.slice Ao62 x322000_1.length co62, .int .i64 t331, .int .i64 0, .int .i64 0, .int .i64 0, .int .i64 0]) ?_ 2 _ rfl; (with_reducible repeat (first | refine kDn ?_ _ | refine kDr ?_ | refine kAl ?_ _)); refine kPu (cs := #[.slice Ao62 x322000_1.length co62, .int .i64 0, .int .i64 0, .int .i64 0, .int .i64 0, .int .i64 0]) ?_ 1 _ rfl; (with_reducible repeat (first | refine kDn ?_ _ | refine kDr ?_ | refine kAl ?_ _)); refine kPu (cs := #[.slice none 0 0, .int .i64 0, .int .i64 0, .int .i64 0, .int .i64 0, .int .i64 0]) ?_ 0 _ rfl; (with_reducible repeat (first | refine kDn ?_ _ | refine kDr ?_ | refine kAl ?_ _)); refine blk_far ?_ NB320_321.out _; (with_reducible repeat (first | refine kDn ?_ _ | refine kDr ?_ | refine kAl ?_ _)); refine blk_far ?_ NB320_321.out _; (with_reducible repeat (first | refine kDn ?_ _ | refine kDr ?_ | refine kAl ?_ _)); exact BK320.out) Tryz.underlying87 rfl (by kernel_rfl)) rfl ?_
        exact ⟨_, rX, by (with_reducible repeat (first | apply Kd.R_alloc | apply Kd.R_drewN | apply Kd.R_drew)); exact Kd.R_mono (Kd.R_far (p := ⟨gb320, 5, none⟩) (Kd.R_far (p := ⟨gb320, 4, none⟩) (Kd.R_far (p := ⟨gb320, 3, none⟩) (Kd.R_far (p := ⟨gb320, 2, none⟩) (Kd.R_far (p := ⟨gb320, 1, none⟩) (Kd.R_far (p := ⟨gb320, 0, none⟩) (Kd.R_far (p := ⟨gb321, 5, none⟩) (Kd.R_far (p := ⟨gb321, 4, none⟩) (Kd.R_types (Kd.R_types HO_322000.out BK321.out (by decide)) BK320.out (by decide)) (fun _ hk => hk.1.2) (.int .i64 t334)) (fun _ hk => hk.1.2) (.int .i64 (wrap64 (t334 + 256)))) (fun _ hk => hk.2) (.slice Ao62 x322000_1.length co62)) (fun _ hk => hk.2) (.int .i64 t331)) (fun _ hk => hk.2) (.int .i64 (wrap64 (t331 + (wrap64 (24 * (wrap64 ((l0_2.length : Int) + 1)))))))) (fun _ hk => hk.2) (.int .i64 x322003_2)) (fun _ hk => hk.2) (.int .i64 t334)) (fun _ hk => hk.2) (.int .i64 (wrap64 (t334 + 256)))) (fun _ hk => trivial), bX HB.out⟩
    ·rw [if_neg c38] at H
     have c38b0 : decide (0 < (l0_2.length : Int)) = false := decide_eq_false c38
     have c38b1 : decide (0 < l0_2.length) = false := decide_eq_false (by omega)
     clear c38
     simp only [Option.some.injEq, Prod.mk.injEq] at H
     obtain ⟨rfl, rfl, rfl, rfl, rfl, rfl⟩ := H
     have hnb65 := NB319_320.out
     have hnc65 := NB320_319.out
     have hnb66 := NB319_321.out
     have hnc66 := NB321_319.out
     have hcz67_0 : wr.cell? ⟨gb319, 0, none⟩ = some (.int .u64 a0_0) := (kCe BK319.out 0).trans rfl
     have hcz67_1 : wr.cell? ⟨gb319, 1, none⟩ = some (.slice A0_1 l0_1.length c0_1) := (kCe BK319.out 1).trans rfl
     have hcz67_2 : wr.cell? ⟨gb319, 2, none⟩ = some (.slice A0_2 l0_2.length c0_2) := (kCe BK319.out 2).trans rfl
     have hfz67_0 := kFr BK319.out 0
     have hfz67_1 := kFr BK319.out 1
     have hfz67_2 := kFr BK319.out 2
     have hnb68 := NB321_320.out
     have hnc68 := NB320_321.out
     have hcz69_0 : wr.cell? ⟨gb321, 0, none⟩ = some (u322000) := (kCe BK321.out 0).trans rfl
     have hcz69_1 : wr.cell? ⟨gb321, 1, none⟩ = some (.int .i64 0) := (kCe BK321.out 1).trans rfl
     have hcz69_2 : wr.cell? ⟨gb321, 2, none⟩ = some (.int .i64 0) := (kCe BK321.out 2).trans rfl
     have hcz69_3 : wr.cell? ⟨gb321, 3, none⟩ = some (.int .i64 0) := (kCe BK321.out 3).trans rfl
     have hcz69_4 : wr.cell? ⟨gb321, 4, none⟩ = some (.int .i64 0) := (kCe BK321.out 4).trans rfl
     have hcz69_5 : wr.cell? ⟨gb321, 5, none⟩ = some (.int .i64 0) := (kCe BK321.out 5).trans rfl
     have hfz69_0 := kFr BK321.out 0
     have hfz69_1 := kFr BK321.out 1
     have hfz69_2 := kFr BK321.out 2
     have hfz69_3 := kFr BK321.out 3
     have hfz69_4 := kFr BK321.out 4
     have hfz69_5 := kFr BK321.out 5
     obtain ⟨Ao70, co70, eo70⟩ := Kd.R_slice HO_322000.out
     subst eo70
     have hcz71_0 : wr.cell? ⟨gb320, 0, none⟩ = some (.slice none 0 0) := (kCe BK320.out 0).trans rfl
     have hcz71_1 : wr.cell? ⟨gb320, 1, none⟩ = some (.int .i64 0) := (kCe BK320.out 1).trans rfl
     have hcz71_2 : wr.cell? ⟨gb320, 2, none⟩ = some (.int .i64 0) := (kCe BK320.out 2).trans rfl
     have hcz71_3 : wr.cell? ⟨gb320, 3, none⟩ = some (.int .i64 0) := (kCe BK320.out 3).trans rfl
     have hcz71_4 : wr.cell? ⟨gb320, 4, none⟩ = some (.int .i64 0) := (kCe BK320.out 4).trans rfl
     have hcz71_5 : wr.cell? ⟨gb320, 5, none⟩ = some (.int .i64 0) := (kCe BK320.out 5).trans rfl
     have hfz71_0 := kFr BK320.out 0
     have hfz71_1 := kFr BK320.out 1
     have hfz71_2 := kFr BK320.out 2
     have hfz71_3 := kFr BK320.out 3
     have hfz71_4 := kFr BK320.out 4
     have hfz71_5 := kFr BK320.out 5
     go_wp2
     refine bodyPost_ret (results_cell_row rfl _ _ gb320 87 #[.slice Ao70 x322000_1.length co70, .int .i64 0, .int .i64 0, .int .i64 0, .int .i64 0, .int .i64 x4_1] (0, 0) _ rfl (by (with_reducible repeat (first | refine kDn ?_ _ | refine kDr ?_ | refine kAl ?_ _)); refine kPu (cs := #[.slice Ao70 x322000_1.length co70, .int .i64 0, .int .i64 0, .int .i64 0, .int .i64 0, .int .i64 0]) ?_ 5 _ rfl; (with_reducible repeat (first | refine kDn ?_ _ | refine kDr ?_ | refine kAl ?_ _)); refine kPu (cs := #[.slice Ao70 x322000_1.length co70, .int .i64 0, .int .i64 0, .int .i64 0, .int .i64 0, .int .i64 0]) ?_ 4 _ rfl; (with_reducible repeat (first | refine kDn ?_ _ | refine kDr ?_ | refine kAl ?_ _)); refine kPu (cs := #[.slice Ao70 x322000_1.length co70, .int .i64 0, .int .i64 0, .int .i64 0, .int .i64 0, .int .i64 0]) ?_ 3 _ rfl; (with_reducible repeat (first | refine kDn ?_ _ | refine kDr ?_ | refine kAl ?_ _)); refine kPu (cs := #[.slice Ao70 x322000_1.length co70, .int .i64 0, .int .i64 0, .int .i64 0, .int .i64 0, .int .i64 0]) ?_ 2 _ rfl; (with_reducible repeat (first | refine kDn ?_ _ | refine kDr ?_ | refine kAl ?_ _)); refine kPu (cs := #[.slice Ao70 x322000_1.length co70, .int .i64 0, .int .i64 0, .int .i64 0, .int .i64 0, .int .i64 0]) ?_ 1 _ rfl; (with_reducible repeat (first | refine kDn ?_ _ | refine kDr ?_ | refine kAl ?_ _)); refine kPu (cs := #[.slice none 0 0, .int .i64 0, .int .i64 0, .int .i64 0, .int .i64 0, .int .i64 0]) ?_ 0 _ rfl; (with_reducible repeat (first | refine kDn ?_ _ | refine kDr ?_ | refine kAl ?_ _)); refine blk_far ?_ NB320_321.out _; (with_reducible repeat (first | refine kDn ?_ _ | refine kDr ?_ | refine kAl ?_ _)); exact BK320.out) Tryz.underlying87 rfl (by kernel_rfl)) rfl ?_
     exact ⟨_, rX, by (with_reducible repeat (first | apply Kd.R_alloc | apply Kd.R_drewN | apply Kd.R_drew)); exact Kd.R_mono (Kd.R_far (p := ⟨gb320, 5, none⟩) (Kd.R_far (p := ⟨gb320, 4, none⟩) (Kd.R_far (p := ⟨gb320, 3, none⟩) (Kd.R_far (p := ⟨gb320, 2, none⟩) (Kd.R_far (p := ⟨gb320, 1, none⟩) (Kd.R_far (p := ⟨gb320, 0, none⟩) (Kd.R_far (p := ⟨gb321, 5, none⟩) (Kd.R_types (Kd.R_types HO_322000.out BK321.out (by decide)) BK320.out (by decide)) (fun _ hk => hk.1.2) (.int .i64 x4_1)) (fun _ hk => hk.2) (.slice Ao70 x322000_1.length co70)) (fun _ hk => hk.2) (.int .i64 0)) (fun _ hk => hk.2) (.int .i64 0)) (fun _ hk => hk.2) (.int .i64 0)) (fun _ hk => hk.2) (.int .i64 0)) (fun _ hk => hk.2) (.int .i64 x4_1)) (fun _ hk => trivial), bX HB.out⟩
end Go.Proofs.YtbnlifldnjgpmaaGreatDoor.PWri
