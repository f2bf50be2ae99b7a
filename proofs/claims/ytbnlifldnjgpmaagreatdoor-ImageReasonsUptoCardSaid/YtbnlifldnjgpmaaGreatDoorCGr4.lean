/- image's parts: what the program headers load. -/
import Derived.Test.YtbnlifldnjgpmaaGreatDoorCGr3
import Derived.Deep.QuietTactic
import Derived.BigQuiet
import Derived.Deep.RegionHeld2
import Derived.Deep.RegionHeld3
import Derived.Deep.DeepCutAuto
import Derived.Deep.LoopGhost
import Derived.Deep.RegionWith
import Derived.Test.YtbnlifldnjgpmaaGreatDoorProg
import Derived.WalkKit
import Derived.LaidEql
import Derived.Stop.Asserts
import Derived.RowKitTokens
import Derived.Test.YtbnlifldnjgpmaaGreatDoorCWds1
import Derived.WalkMore
import Derived.RegionTactic
import Derived.Shelf.RegionOpenPlain
import Derived.CellFam
import Derived.Below
import Derived.Lib.Hide
import Derived.Lib.Walk
import Derived.Test.YtbnlifldnjgpmaaGreatDoorCGr2
import Derived.Defers
import Derived.Recover
set_option linter.unusedVariables false
set_option linter.unusedSimpArgs false
namespace Go.Proofs.YtbnlifldnjgpmaaGreatDoor.PWri
open Go.RowKit Go.Lib Go.Proofs.YtbnlifldnjgpmaaGreatDoorW.PrintWords Go.Proofs.YtbnlifldnjgpmaaGreatDoorW.PrintLast
/-- The world of the walk of parts: the receiver's box stands, and the parts so far. -/
structure PS (w : World) (F : Value) (W : World) (v : Value) (ps : List PV) : Prop where
 fs : FS w F W
 po : PO W w.heap.size v ps
theorem PS.below {w W : World} {F v : Value} {ps : List PV} (h : PS w F W v ps) : Below w.heap.size w W := h.fs.below
theorem PS.cell {w W : World} {F v : Value} {ps : List PV} (h : PS w F W v ps) : W.cell? ⟨w.heap.size, 0, none⟩ = some F := h.fs.cell
theorem PS.step {w W W' : World} {F v : Value} {ps : List PV} (h : PS w F W v ps) (hd : Below W.heap.size W W') : PS w F W' v ps := ⟨h.fs.step hd, h.po.below hd⟩
theorem PS.drew {w W : World} {F v : Value} {ps : List PV} (h : PS w F W v ps) : PS w F W.drew v ps := h.step (below_drew (Below.refl _ _))
theorem PS.drewN {w W : World} {F v : Value} {ps : List PV} (h : PS w F W v ps) (n : Nat) : PS w F (W.drewN n) v ps := h.step (bDn (Below.refl _ _) n)
theorem PS.alloc {w W : World} {F v : Value} {ps : List PV} (h : PS w F W v ps) (o : Obj) : PS w F (W.alloc o) v ps := h.step ((Below.refl _ W).alloc (Nat.le_refl _) _)
theorem PS.app {w W w1 : World} {F v v1 dv : Value} {ps : List PV} {s : S55} (h : PS w F W v ps) (hd : (Kd.int .u8).R 5 W w.heap.size (fun _ => True) dv s.f3)
 (hn : ∀ p ∈ ps, ∀ k, p.2.ownBlock = some k → dv.ownBlock ≠ some k)
 (ho : w1.ownsRow w.heap.size 55 4 v1 (ps.length + 1) (ps.flatMap encP ++ encP (s, dv))) (hb : Below w.heap.size w w1) (hg : W.grownBy w1 v.ownBlock) : PS w F w1 v1 (ps ++ [(s, dv)]) :=
 ⟨⟨hb, blk_grown h.fs.box hg (own_ne h.po.own h.fs.box (by decide))⟩, h.po.app hd hn ho hg⟩
theorem one4 {a b c : Value} {dv : Value} {n : Nat} (h : ∃ A c, dv = .slice A n c) (ha : a.oneCell' = true := by rfl) (hb : b.oneCell' = true := by rfl) (hc : c.oneCell' = true := by rfl) : ∀ u ∈ [a, b, c, dv], u.oneCell' = true := by
 obtain ⟨A, cc, rfl⟩ := h
 intro u hu
 simp only [List.mem_cons, List.not_mem_nil, or_false] at hu
 rcases hu with rfl | rfl | rfl | rfl
 ·exact ha
 ·exact hb
 ·exact hc
 ·rfl
set_option maxHeartbeats 16000000 in
set_option maxRecDepth 1000000 in
theorem parts_c (l : List Int) (A : Option Addr) (c : Nat) (h : Bytes l) (hl : l.length ≤ 1099511627776) (hc : l.length ≤ c) (h64 : 64 ≤ l.length) (hn : rdN l 56 2 ≤ 16) (hr : rdN l 32 8 + 56 * rdN l 56 2 ≤ (l.length : Int)) (w : World) (hC : Kd.C (Kd.int .u8) w A l.length l) :
 Calls Tryz.prog 28 #[.agg #[.slice A l.length c]] w (Out (partsS l (rdN l 32 8) (rdN l 56 2).toNat 0 []) (fun out v W => ∃ ps qs : List PV, qs.map (·.1) = out ∧ ps.Perm qs ∧ ps.Pairwise (fun p q => p.1.f0 ≤ q.1.f0) ∧ PO W w.heap.size v ps) w) := by
 have HC := Lib.hid hC
 have HB := Lib.hid h
 have b56 := rd2 h 56
 have b32 := (rd8 h 32).1
 have hlen : (64 : Int) ≤ (l.length : Int) := by omega
 obtain ⟨o, ho⟩ : ∃ o, partsS l (rdN l 32 8) (rdN l 56 2).toNat 0 [] = o := ⟨_, rfl⟩
 rw [ho]
 have HO := Lib.hid ho
 have HS : Hid (FS w (.slice A l.length c) (w.alloc (.cells #[.slice A l.length c] 59))) := Lib.hid (FS.start w _)
 have hfc := (Lib.hid HS.out.cell).out
 clear hC h ho
 go_enter Tryz.func28, Tryz.ntmps28
 go_wp2_with (first | (go_at_call 52; refine (half_i HB.out hl hc _ (by omega) (by omega) _ (Kd.C_below HC.out HS.out.below)).mono ?_; rintro e w' ⟨he, ⟨hv0, hv1⟩, hd⟩; subst he; have hS2 := HS.out.step hd; clear HS hfc hd; have HS := Lib.hid hS2; have hfc := (Lib.hid HS.out.cell).out; clear hS2))
 have HS2 : Hid (PS w (.slice A l.length c) w' (.slice none 0 0) []) := Lib.hid ⟨HS.out, PO.nil _ _⟩
 clear hfc HS
 go_loopg [3, 15] (rdN l 56 2).toNat (fun gm v3 v15 wx => ∃ (i : Int) (A3 : Option Addr) (c3 : Nat) (ps : List PV), v15 = .int .i64 i ∧ v3 = .slice A3 ps.length c3 ∧ 0 ≤ i ∧ i ≤ rdN l 56 2 ∧ (ps.length : Int) ≤ i ∧ Hid ((gm : Int) + i = rdN l 56 2) ∧ Hid (PS w (.slice A l.length c) wx v3 ps) ∧ Hid (partsS l (rdN l 32 8) gm i (ps.map (·.1)) = o))
 case atStart => exact ⟨0, none, 0, [], rfl, rfl, by omega, by omega, by simp, Lib.hid (by omega), HS2, HO⟩
 case round =>
  clear HS2 HO
  obtain ⟨i, A3, c3, ps, rfl, rfl, hi0, hi2, hpl, HI1, HS, HX⟩ := hrel
  have hfc := (Lib.hid HS.out.cell).out
  by_cases hi : i < rdN l 56 2
  ·obtain ⟨gm, rfl⟩ : ∃ k, gk = k + 1 := ⟨gk - 1, by have := HI1.out; omega⟩
   go_upto_region 6 with (first | (go_at_call 27; refine (double_i HB.out hl hc _ (by omega) (by omega) _ (Kd.C_below HC.out HS.out.below)).mono ?_; rintro e w' ⟨he, ⟨hv0, hv1⟩, hd⟩; subst he; have hS2 := HS.out.step hd; clear HS hfc hd; have HS := Lib.hid hS2; have hfc := (Lib.hid HS.out.cell).out; clear hS2))
   obtain ⟨hh, hhe⟩ : ∃ hh, rdN l 32 8 + 56 * i = hh := ⟨_, rfl⟩
   have hh0 : 0 ≤ hh := by omega
   have hh1 : hh + 56 ≤ (l.length : Int) := by omega
   have hX := HX.out
   rw [partsS, hhe] at hX
   clear HX
   have HX := Lib.hid hX
   rw [hhe]
   have HHE := Lib.hid hhe
   clear hX hhe
   go_cut [6, 7] (fun s6 s7 wx => s6 = .int .u64 (rdN l (hh + 32) 8) ∧ s7 = .int .u64 (rdN l (hh + 40) 8) ∧ Hid (PS w (.slice A l.length c) wx (.slice A3 ps.length c3) ps))
   case first =>
    have E1 : IntKind.i64.wrap (hh + 32) = hh + 32 := by rw [IntKind.wrap_i64]; omega
    have E2 : IntKind.i64.wrap (hh + 40) = hh + 40 := by rw [IntKind.wrap_i64]; omega
    have hS2 := HS.out.drew; clear HS hfc; have HS := Lib.hid hS2; have hfc := (Lib.hid HS.out.cell).out; clear hS2
    go_region_held2 (fun w' => w'.cell? ⟨w.heap.size, 0, none⟩ = some (.slice A l.length c)) (first | exact hfc | go_keep) (first | (go_at_call 27; refine (double_i HB.out hl hc _ (by omega) (by omega) _ (Kd.C_below HC.out HS.out.below)).mono ?_; rintro e w' ⟨he, ⟨hv0, hv1⟩, hd⟩; subst he; have hS2 := HS.out.step hd; clear HS hfc hd; have HS := Lib.hid hS2; have hfc := (Lib.hid HS.out.cell).out; clear hS2))
    all_goals (go_wp2; go_meet; exact ⟨rfl, rfl, HS⟩)
   case rest =>
    clear HS hfc
    obtain ⟨rfl, rfl, HS⟩ := hcut
    have hfc := (Lib.hid HS.out.cell).out
    obtain ⟨kp, hkp⟩ : ∃ kp, rdN l (hh + 32) 8 = kp := ⟨_, rfl⟩
    obtain ⟨sz, hsz⟩ : ∃ sz, rdN l (hh + 40) 8 = sz := ⟨_, rfl⟩
    have hkp0 : 0 ≤ kp ∧ kp < 18446744073709551616 := hkp ▸ rd8 HB.out (hh + 32)
    have hsz0 : 0 ≤ sz ∧ sz < 18446744073709551616 := hsz ▸ rd8 HB.out (hh + 40)
    have HKZ := Lib.hid (And.intro hkp0 hsz0)
    have hX := HX.out
    rw [partS, hkp, hsz] at hX
    clear HX
    have HX := Lib.hid hX
    rw [hkp, hsz]
    have HKP := Lib.hid hkp
    have HSZ := Lib.hid hsz
    clear hX hkp hsz hkp0 hsz0
    go_upto_region 7 with fail
    go_cut [43] (fun s43 wx => s43 = .bool (decide (rdN l hh 4 ≠ 1 ∨ kp = 0 ∧ sz = 0)) ∧ Hid (PS w (.slice A l.length c) wx (.slice A3 ps.length c3) ps))
    case first =>
     by_cases k1 : rdN l hh 4 = 1
     ·have k1b : (rdN l hh 4 != 1) = false := by simp [k1]
      by_cases k2 : kp = 0
      ·subst k2
       by_cases k3 : sz = 0
       ·subst k3
        have HB1 : Hid (decide (rdN l hh 4 ≠ 1 ∨ (0 : Int) = 0 ∧ (0 : Int) = 0) = true) := Lib.hid (decide_eq_true (.inr ⟨rfl, rfl⟩))
        clear k1
        go_wp2_with (first | (go_at_call 53; refine (word_i HB.out hl hc _ (by omega) (by omega) _ (Kd.C_below HC.out HS.out.below)).mono ?_; rintro e w' ⟨he, ⟨hv0, hv1⟩, hd⟩; subst he; have hS2 := HS.out.step hd; clear HS hfc hd; have HS := Lib.hid hS2; have hfc := (Lib.hid HS.out.cell).out; clear hS2))
        go_meet
        exact ⟨by rw [HB1.out], HS⟩
       ·have k3b : (sz == 0) = false := by simp [k3]
        have HB1 : Hid (decide (rdN l hh 4 ≠ 1 ∨ (0 : Int) = 0 ∧ sz = 0) = false) := Lib.hid (decide_eq_false (by rintro (h | ⟨_, h⟩); exact h k1; exact k3 h))
        clear k1 k3
        go_wp2_with (first | (go_at_call 53; refine (word_i HB.out hl hc _ (by omega) (by omega) _ (Kd.C_below HC.out HS.out.below)).mono ?_; rintro e w' ⟨he, ⟨hv0, hv1⟩, hd⟩; subst he; have hS2 := HS.out.step hd; clear HS hfc hd; have HS := Lib.hid hS2; have hfc := (Lib.hid HS.out.cell).out; clear hS2))
        go_meet
        exact ⟨by rw [HB1.out], HS⟩
      ·have k2b : (kp == 0) = false := by simp [k2]
       have HB1 : Hid (decide (rdN l hh 4 ≠ 1 ∨ kp = 0 ∧ sz = 0) = false) := Lib.hid (decide_eq_false (by rintro (h | ⟨h, _⟩); exact h k1; exact k2 h))
       clear k1 k2
       go_wp2_with (first | (go_at_call 53; refine (word_i HB.out hl hc _ (by omega) (by omega) _ (Kd.C_below HC.out HS.out.below)).mono ?_; rintro e w' ⟨he, ⟨hv0, hv1⟩, hd⟩; subst he; have hS2 := HS.out.step hd; clear HS hfc hd; have HS := Lib.hid hS2; have hfc := (Lib.hid HS.out.cell).out; clear hS2))
       go_meet
       exact ⟨by rw [HB1.out], HS⟩
     ·have k1b : (rdN l hh 4 != 1) = true := by simp [k1]
      have HB1 : Hid (decide (rdN l hh 4 ≠ 1 ∨ kp = 0 ∧ sz = 0) = true) := Lib.hid (decide_eq_true (.inl k1))
      clear k1
      go_wp2_with (first | (go_at_call 53; refine (word_i HB.out hl hc _ (by omega) (by omega) _ (Kd.C_below HC.out HS.out.below)).mono ?_; rintro e w' ⟨he, ⟨hv0, hv1⟩, hd⟩; subst he; have hS2 := HS.out.step hd; clear HS hfc hd; have HS := Lib.hid hS2; have hfc := (Lib.hid HS.out.cell).out; clear hS2))
      go_meet
      exact ⟨by rw [HB1.out], HS⟩
    case rest =>
     clear HS hfc
     obtain ⟨rfl, HS⟩ := hcut
     have hfc := (Lib.hid HS.out.cell).out
     by_cases hskip : rdN l hh 4 ≠ 1 ∨ kp = 0 ∧ sz = 0
     ·have hX := HX.out
      rw [if_pos hskip] at hX
      have hX2 : partsS l (rdN l 32 8) gm (i + 1) (ps.map (·.1)) = o := hX
      clear HX hX
      have HX := Lib.hid hX2
      clear hX2
      rw [decide_eq_true hskip]
      clear hskip
      go_wp2
      go_roundg gm
      case measure => omega
      case rel => exact ⟨i + 1, A3, c3, ps, rfl, rfl, by omega, by omega, by omega, Lib.hid (by have := HI1.out; omega), HS, HX⟩
     ·have hX := HX.out
      rw [if_neg hskip, segS] at hX
      clear HX
      have HX := Lib.hid hX
      clear hX
      rw [decide_eq_false hskip]
      clear hskip
      go_upto_region 8 with fail
      go_cut [8, 9, 10] (fun s8 s9 s10 wx => s8 = .int .i64 (rdN l (hh + 4) 4) ∧ s9 = .int .u64 (rdN l (hh + 8) 8) ∧ s10 = .int .u64 (rdN l (hh + 24) 8) ∧ Hid (PS w (.slice A l.length c) wx (.slice A3 ps.length c3) ps))
      case first =>
       have E1 : IntKind.i64.wrap (hh + 4) = hh + 4 := by rw [IntKind.wrap_i64]; omega
       have E2 : IntKind.i64.wrap (hh + 8) = hh + 8 := by rw [IntKind.wrap_i64]; omega
       have E3 : IntKind.i64.wrap (hh + 24) = hh + 24 := by rw [IntKind.wrap_i64]; omega
       have hS2 := HS.out.drew; clear HS hfc; have HS := Lib.hid hS2; have hfc := (Lib.hid HS.out.cell).out; clear hS2
       go_region_held2 (fun w' => w'.cell? ⟨w.heap.size, 0, none⟩ = some (.slice A l.length c)) (first | exact hfc | go_keep) (first | (go_at_call 27; refine (double_i HB.out hl hc _ (by omega) (by omega) _ (Kd.C_below HC.out HS.out.below)).mono ?_; rintro e w' ⟨he, ⟨hv0, hv1⟩, hd⟩; subst he; have hS2 := HS.out.step hd; clear HS hfc hd; have HS := Lib.hid hS2; have hfc := (Lib.hid HS.out.cell).out; clear hS2) | (go_at_call 53; refine (word_i HB.out hl hc _ (by omega) (by omega) _ (Kd.C_below HC.out HS.out.below)).mono ?_; rintro e w' ⟨he, ⟨hv0, hv1⟩, hd⟩; subst he; have hS2 := HS.out.step hd; clear HS hfc hd; have HS := Lib.hid hS2; have hfc := (Lib.hid HS.out.cell).out; clear hS2))
       all_goals (go_wp2; go_meet; exact ⟨rfl, rfl, rfl, HS⟩)
      case rest =>
       clear HS hfc
       obtain ⟨rfl, rfl, rfl, HS⟩ := hcut
       have hfc := (Lib.hid HS.out.cell).out
       obtain ⟨fl, hfl⟩ : ∃ fl, rdN l (hh + 4) 4 = fl := ⟨_, rfl⟩
       obtain ⟨fr, hfr⟩ : ∃ fr, rdN l (hh + 8) 8 = fr := ⟨_, rfl⟩
       obtain ⟨ad, had⟩ : ∃ ad, rdN l (hh + 24) 8 = ad := ⟨_, rfl⟩
       have hfl0 : 0 ≤ fl := hfl ▸ (rd4 HB.out (hh + 4)).1
       have hfr0 : 0 ≤ fr := hfr ▸ (rd8 HB.out (hh + 8)).1
       have had0 : 0 ≤ ad := had ▸ (rd8 HB.out (hh + 24)).1
       have hX := HX.out
       simp only [hfl, hfr, had, HKP.out, HSZ.out, andThen_chk, andThen_ok] at hX
       clear HX
       have HX := Lib.hid hX
       rw [hfl, hfr, had]
       clear hX hfl hfr had
       go_upto_region 13 with (first | (go_at_call 25; refine (must_c _ _ _ _).mono ?_; rintro e w' (⟨hb, he, hw⟩ | ⟨hb, he, hw⟩) <;> have hw := hw.symm <;> subst he <;> subst hw; rotate_left; (refine ⟨rfl, Out.no (HX.out.symm.trans (chk_no hb)) HS.out.below⟩); have hX2 := HX.out; rw [chk_ok hb] at hX2; clear HX; have HX := Lib.hid hX2; have HBB := Lib.hid hb; clear hX2 hb) | (go_at_call 54; refine (room_c hl hc _ _ (by omega) _ (Kd.C_below HC.out HS.out.below)).mono ?_; rintro e w' ⟨he, hd⟩; subst he; have hS2 := HS.out.step hd; clear HS hfc hd; have HS := Lib.hid hS2; have hfc := (Lib.hid HS.out.cell).out; clear hS2) | (go_at_call 41; refine (image_fits.calls _ _ (fitsB _ _) _ rfl).mono ?_; rintro e w' ⟨he, hd⟩; subst he; have hS2 := HS.out.step hd.below; clear HS hfc hd; have HS := Lib.hid hS2; have hfc := (Lib.hid HS.out.cell).out; clear hS2))
       have HRM : Hid (roomS l fr kp = true) := by assumption
       have HFT : Hid (fitsB ad sz = true) := by assumption
       obtain ⟨rr, hrr⟩ : ∃ rr, partsS l (rdN l 32 8) gm (i + 1) (ps.map (·.1) ++ [⟨ad, sz, turnS fl, (l.drop fr.toNat).take kp.toNat⟩]) = rr := ⟨_, rfl⟩
       have hX := HX.out
       rw [hrr] at hX
       clear HX
       have HX : Hid (chk (((ps.map (·.1)).drop 0).all fun s => apartB s ad sz) (hh + 24) 24 rr = o) := Lib.hid hX
       have HRR := Lib.hid hrr
       clear hX hrr
       obtain ⟨wo, hwo⟩ : ∃ wo : World, wo = wr := ⟨_, rfl⟩
       clear hwo
       go_wp2
       go_loopg [82] ps.length (fun gj v82 wx => ∃ j : Nat, v82 = .int .i64 (j : Int) ∧ j ≤ ps.length ∧ Hid (gj + j = ps.length) ∧ Hid (PS w (.slice A l.length c) wx (.slice A3 ps.length c3) ps) ∧ Hid (chk (((ps.map (·.1)).drop j).all fun s => apartB s ad sz) (hh + 24) 24 rr = o))
       case atStart => exact ⟨0, rfl, by omega, Lib.hid (by omega), HS, HX⟩
       case round =>
        clear HS hfc HX
        obtain ⟨j, rfl, hj, HJ, HS, HX⟩ := hrel
        have hfc := (Lib.hid HS.out.cell).out
        by_cases hjl : j < ps.length
        ·obtain ⟨gj, rfl⟩ : ∃ k, gk = k + 1 := ⟨gk - 1, by have := HJ.out; omega⟩
         obtain ⟨hC5, _, hlc5⟩ := HS.out.po.C
         have hb5 : (ps.length : Int) ≤ 9223372036854775807 := by have := hC5.2.1; omega
         obtain ⟨ad1, A4, c4, eA, x0, x1, x2, x3, hl3, hC3⟩ := at_T55 hC5 (j : Int) (by omega) (by omega)
         subst eA
         rw [Int.toNat_natCast] at x0 x1 x2 x3
         have hd : (ps.map (·.1)).drop j = rd_T55 (ps.map (·.1)) (j : Int) :: (ps.map (·.1)).drop (j + 1) := by
          unfold rd_T55
          rw [Int.toNat_natCast, List.getD_eq_getElem?_getD, List.getElem?_eq_getElem (by rw [List.length_map]; exact hjl)]
          exact List.drop_eq_getElem_cons (by rw [List.length_map]; exact hjl)
         obtain ⟨s, hs⟩ : ∃ s, rd_T55 (ps.map (·.1)) (j : Int) = s := ⟨_, rfl⟩
         rw [hs] at x0 x1 x2 x3 hl3 hC3 hd
         have hX := HX.out
         rw [hd, List.all_cons, chk_and, apartB] at hX
         clear HX
         have hji : (j : Int) < (ps.length : Int) := by omega
         have hj0 : (0 : Int) ≤ (j : Int) := Int.natCast_nonneg _
         clear hd hs hC3 hC5
         by_cases h1 : sumU s.f0 s.f1 < ad
         ·rw [decide_eq_true h1, Bool.true_or] at hX
          have HX := Lib.hid hX
          unfold sumU at h1
          have h1b : decide (IntKind.u64.wrap (s.f0 + IntKind.u64.wrap (s.f1 - 1)) < ad) = true := decide_eq_true h1
          clear hX h1
          go_wp2_with (go_at_call 25; refine (must_c _ _ _ _).mono ?_; rintro e w' (⟨hb, he, hw⟩ | ⟨hb, he, hw⟩) <;> have hw := hw.symm <;> subst he <;> subst hw; rotate_left; (refine ⟨rfl, Out.no (HX.out.symm.trans (chk_no hb)) (HS.out.alloc _).below⟩); have hX2 := HX.out; rw [chk_ok hb] at hX2; clear HX hb; have HX := Lib.hid hX2; clear hX2)
          go_roundg gj
          case measure => omega
          case rel => exact ⟨j + 1, by go_num, by omega, Lib.hid (by have := HJ.out; omega), Lib.hid (HS.out.alloc _), HX⟩
         ·rw [decide_eq_false h1, Bool.false_or] at hX
          have HX := Lib.hid hX
          unfold sumU at h1
          have h1b : decide (IntKind.u64.wrap (s.f0 + IntKind.u64.wrap (s.f1 - 1)) < ad) = false := decide_eq_false h1
          unfold sumU at hX
          clear HX
          have HX := Lib.hid hX
          clear hX h1
          go_wp2_with (go_at_call 25; refine (must_c _ _ _ _).mono ?_; rintro e w' (⟨hb, he, hw⟩ | ⟨hb, he, hw⟩) <;> have hw := hw.symm <;> subst he <;> subst hw; rotate_left; (refine ⟨rfl, Out.no (HX.out.symm.trans (chk_no hb)) (HS.out.alloc _).below⟩); have hX2 := HX.out; rw [chk_ok hb] at hX2; clear HX hb; have HX := Lib.hid hX2; clear hX2)
          go_roundg gj
          case measure => omega
          case rel => exact ⟨j + 1, by go_num, by omega, Lib.hid (by have := HJ.out; omega), Lib.hid (HS.out.alloc _), HX⟩
        ·have hje : j = ps.length := by omega
         have hX := HX.out
         rw [List.drop_eq_nil_of_le (by rw [List.length_map]; omega)] at hX
         have hX2 : rr = o := hX
         clear HX hX
         have HX := Lib.hid hX2
         clear hX2
         subst hje
         go_wp2
         obtain ⟨hrm1, hrm2⟩ := room_le HRM.out
         have hkp0 := HKZ.out.1.1
         have E1 : IntKind.u64.wrap (fr + kp) = fr + kp := u64n (by omega) (by omega)
         obtain ⟨i0, hi0', _, hsz5, _⟩ := info_parts info5
         obtain ⟨A5, hcut, hA5, hC5⟩ := print_mid_of (P := Tryz.prog) (Value.int .u8) 0 22 5 .u64 .u64 Tryz.underlying22 hi0' hsz5 A c l fr (fr + kp) hfr0 (by omega) hrm2 hc
         obtain ⟨D, hD⟩ : ∃ D, (l.take (fr + kp).toNat).drop fr.toNat = D := ⟨_, rfl⟩
         rw [hD] at hcut hA5 hC5
         have HD := Lib.hid hD
         have HA5 : Hid (∀ W : World, (Kd.int .u8).C W A l.length l → (Kd.int .u8).C W A5 D.length D) := Lib.hid (fun W hC => Kd.C_of_reads (h1 := fun _ => rfl) (hA5 W (Kd.reads_of_C (h1 := fun _ => rfl) hC)))
         have hdl : D.length ≤ l.length := by rw [← hD, List.length_drop, List.length_take]; omega
         have HR0 := Lib.hid HRM.out
         clear hD hA5 hC5 hi0' hsz5 hj HJ hjl hrm1 hrm2
         have hS2 := HS.out.drew; clear HS hfc; have HS := Lib.hid hS2; have hfc := (Lib.hid HS.out.cell).out; clear hS2
         go_region_held3 (fun w' => w'.cell? ⟨w.heap.size, 0, none⟩ = some (.slice A l.length c)) (first | exact hfc | go_keep)
          ((first | (go_at_call 47; refine (image_turned.calls _ (turnS _) _ rfl).mono ?_; rintro e w' ⟨he, hd⟩; subst he; have hS2 := HS.out.step hd.below; clear HS hfc hd; have HS := Lib.hid hS2; have hfc := (Lib.hid HS.out.cell).out; clear hS2) | (refine Kd.R_append_rows_step (Kd.int .u8) (w0 := w) w.heap.size (by rfl) (.const (.slice none 0 0)) (.tmp 118) 22 5 (.int .u8 0) 1 (by rfl) Tryz.underlying22 info5 (by rfl) (by decide) (by omega) (.slice none 0 0) ([] : List Int) D A5 D.length _ (fun _ => True) (fun _ => False) (by rfl) (by rfl) (Kd.R_nil _ _ _ _ _) (HA5.out _ (Kd.C_below HC.out HS.out.below)) (fun _ _ h => h) (fun _ h => h.elim) (fun _ _ => trivial) HS.out.below HS.out.below.size (by simp only [List.length_nil]; omega) ?_; intro dv w1 hD1 hb1 hg1 hat1; rw [List.nil_append] at hD1; obtain ⟨A6, c6, e6⟩ := Kd.R_slice hD1; subst e6; have HAP := Lib.hid (HS.out.po.new_apart hat1); have HDV := Lib.hid hD1; have hS2 := HS.out.step (below_grown_none hg1); clear HS hfc hD1 hb1 hg1 hat1; have HS := Lib.hid hS2; have hfc := (Lib.hid HS.out.cell).out; clear hS2) | (refine step_append_cells (w0 := w) w.heap.size (by rfl) (.tmp 107) (.tmp 121) 25 55 (.agg #[.int .u64 0, .int .u64 0, .int .i64 0, .slice none 0 0]) 4 48 (by rfl) Tryz.underlying25 info55 (by rfl) (by decide) (by omega) (.slice A3 ps.length c3) ps.length (ps.flatMap encP) [.int .u64 ad, .int .u64 sz, .int .i64 (turnS fl), .slice A6 D.length c6] (by rfl) (by rfl) (by rfl) (one4 ⟨_, _, rfl⟩) HS.out.po.own HS.out.below HS.out.below.size (by omega) ?_; intro v9 w9 hown9 hb9 hg9 hat9; have hS2 := HS.out.app (s := ⟨ad, sz, turnS fl, D⟩) HDV.out HAP.out hown9 hb9 hg9; clear HS hfc HDV HAP hown9 hb9 hg9 hat9; obtain ⟨A9, c9, e9⟩ := hS2.po.slice; subst e9; have HS := Lib.hid hS2; have hfc := (Lib.hid HS.out.cell).out; clear hS2)))
         go_wp2
         go_roundg gm
         case measure => omega
         case rel =>
          have hdd : D = (l.drop fr.toNat).take kp.toNat := by
           rw [← HD.out, List.drop_take, show (fr + kp).toNat - fr.toNat = kp.toNat by omega]
          refine ⟨i + 1, A9, c9, ps ++ [(⟨ad, sz, turnS fl, D⟩, .slice A6 D.length c6)], rfl, by rw [List.length_append]; rfl, by omega, by omega, by rw [List.length_append, List.length_singleton]; omega, Lib.hid (by have := HI1.out; omega), ?_, ?_⟩
          ·have h9 := HS.out
           rw [List.length_append, List.length_singleton] at h9
           exact Lib.hid h9
          ·refine Lib.hid ?_
           rw [List.map_append, List.map_cons, List.map_nil, ← HX.out, ← HRR.out, hdd]
  ·have hX := HX.out
   rw [show gk = 0 by have := HI1.out; omega, partsS] at hX
   clear HX
   have HX := Lib.hid hX
   have CA := Lib.hid (fun W (hP : PO W w.heap.size (.slice A3 ps.length c3) ps) => sortSeg_c hP (by omega))
   clear hX
   go_wp2_with (go_at_call 56; refine (CA.out _ HS.out.po).mono ?_; rintro e w1 ⟨he, ps', hpm, hso, hpo, hg⟩; subst he; have HR := Lib.hid (And.intro hpm (And.intro hso hpo)); have HBW := Lib.hid (HS.out.below.grown hg HS.out.below.size (own_base HS.out.po.own)); clear hpm hso hpo hg)
   go_ret
   exact Out.yes HX.out.symm ⟨_, ps, rfl, HR.out.1, HR.out.2.1, HR.out.2.2⟩ HBW.out
end Go.Proofs.YtbnlifldnjgpmaaGreatDoor.PWri
/- image's names: what the table of names tells. -/
set_option linter.unusedVariables false
set_option linter.unusedSimpArgs false
namespace Go.Proofs.YtbnlifldnjgpmaaGreatDoor.PWri
open Go.RowKit Go.Lib Go.Proofs.YtbnlifldnjgpmaaGreatDoorW.PrintWords Go.Proofs.YtbnlifldnjgpmaaGreatDoorW.PrintLast
set_option maxHeartbeats 16000000 in
set_option maxRecDepth 1000000 in
theorem names_c (l : List Int) (A : Option Addr) (c : Nat) (h : Bytes l) (hl : l.length ≤ 1099511627776) (hc : l.length ≤ c) (h64 : 64 ≤ l.length) (w : World) (hC : Kd.C (Kd.int .u8) w A l.length l) (hG : Glob w) :
 Calls Tryz.prog 29 #[.agg #[.slice A l.length c]] w (Out (namesS l) (fun out v W => ∃ ys : List S82, ys.Perm out ∧ ys.Pairwise (fun p q => ltY q p = false) ∧ W.ownsRow w.heap.size 82 2 v ys.length (ys.flatMap encY)) w) := by
 have HG := Lib.hid hG
 have HC := Lib.hid hC
 have HB := Lib.hid h
 have hlen : (64 : Int) ≤ (l.length : Int) := by omega
 have b60 := rd2 h 60
 have b40 := (rd8 h 40).1
 obtain ⟨o, ho⟩ : ∃ o, namesS l = o := ⟨_, rfl⟩
 rw [ho]
 have HS : Hid (FS w (.slice A l.length c) (w.alloc (.cells #[.slice A l.length c] 59))) := Lib.hid (FS.start w _)
 have hfc := (Lib.hid HS.out.cell).out
 unfold namesS at ho
 cases htab : tableS l with
 | error e =>
  obtain ⟨e1, e2⟩ := e
  rw [htab] at ho
  have HO : Hid ((.error (e1, e2) : Res (List S82)) = o) := Lib.hid ho
  have CT := Lib.hid (fun W hC => table_err l A c h hl hc h64 htab W hC)
  clear hC h ho hG htab
  go_enter Tryz.func29, Tryz.ntmps29
  go_wp2_with (go_at_call 58; refine (CT.out _ (Kd.C_below HC.out HS.out.below)).mono ?_; rintro e w' ⟨a, he, hcell, hle, hb⟩; subst he)
  exact ⟨rfl, .inr ⟨e1, e2, a, HO.out.symm, rfl, hcell, Nat.le_trans HS.out.below.size hle, HS.out.below.trans (hb.mono HS.out.below.size)⟩⟩
 | ok os =>
  rw [htab, andThen_ok] at ho
  cases os with
  | none =>
   have HO : Hid ((.ok [] : Res (List S82)) = o) := Lib.hid ho
   have CT := Lib.hid (fun W hC => table_none l A c h hl hc h64 htab W hC)
   clear hC h ho hG htab
   go_enter Tryz.func29, Tryz.ntmps29
   go_wp2_with (go_at_call 58; refine (CT.out _ (Kd.C_below HC.out HS.out.below)).mono ?_; rintro e w' ⟨he, hd⟩; subst he; have HS2 := Lib.hid (HS.out.step hd); clear hd hfc HS)
   go_ret
   exact Out.yes HO.out.symm ⟨[], .nil, .nil, own_nil _ _ _ _⟩ HS2.out.below
  | some s =>
   dsimp only at ho
   obtain ⟨ht1, ht2, ht3⟩ := table_gives h htab
   have CT := Lib.hid (fun W hC => table_some l A c h hl hc h64 htab W hC)
   have HX := Lib.hid ho
   obtain ⟨sz, hsz⟩ : ∃ sz, rdN l (s + 32) 8 = sz := ⟨_, rfl⟩
   obtain ⟨lk, hlk⟩ : ∃ lk, rdN l (s + 40) 4 = lk := ⟨_, rfl⟩
   obtain ⟨fs, hfs⟩ : ∃ fs, rdN l (s + 24) 8 = fs := ⟨_, rfl⟩
   have hsz0 : 0 ≤ sz := hsz ▸ (rd8 h _).1
   have hlk0 : 0 ≤ lk ∧ lk < 4294967296 := hlk ▸ (rd4 h _)
   have hfs0 : 0 ≤ fs := hfs ▸ (rd8 h _).1
   have hX := HX.out
   rw [hsz, hlk, hfs] at hX
   clear HX
   have HX := Lib.hid hX
   clear hC h ho hG htab hX
   go_enter Tryz.func29, Tryz.ntmps29
   go_upto_region 7 with (first | (go_at_call 58; refine (CT.out _ (Kd.C_below HC.out HS.out.below)).mono ?_; rintro e w' ⟨he, hd⟩; subst he; have hS2 := HS.out.step hd; clear HS hfc hd; have HS := Lib.hid hS2; have hfc := (Lib.hid HS.out.cell).out; clear hS2) | (go_at_call 25; refine (must_c _ _ _ _).mono ?_; rintro e w' (⟨hb, he, hw⟩ | ⟨hb, he, hw⟩) <;> have hw := hw.symm <;> subst he <;> subst hw; rotate_left; (refine ⟨rfl, Out.no (HX.out.symm.trans (chk_no hb)) HS.out.below⟩); have hX2 := HX.out; rw [chk_ok hb] at hX2; clear HX; have HX := Lib.hid hX2; have HBB := Lib.hid hb; clear hX2 hb) | (go_at_call 27; refine (double_i HB.out hl hc _ (by omega) (by omega) _ (Kd.C_below HC.out HS.out.below)).mono ?_; rintro e w' ⟨he, ⟨hv0, hv1⟩, hd⟩; subst he; have hS2 := HS.out.step hd; clear HS hfc hd; have HS := Lib.hid hS2; have hfc := (Lib.hid HS.out.cell).out; clear hS2))
   have HQ24 : Hid ((sz % 24 == 0) = true) := by assumption
   have E1 : IntKind.i64.wrap (s + 24) = s + 24 := by rw [IntKind.wrap_i64]; omega
   have hS2 := HS.out.drew; clear HS hfc; have HS := Lib.hid hS2; have hfc := (Lib.hid HS.out.cell).out; clear hS2
   go_region_held2 (fun w' => w'.cell? ⟨w.heap.size, 0, none⟩ = some (.slice A l.length c)) (first | exact hfc | go_keep) (first | (go_at_call 27; refine (double_i HB.out hl hc _ (by omega) (by omega) _ (Kd.C_below HC.out HS.out.below)).mono ?_; rintro e w' ⟨he, ⟨hv0, hv1⟩, hd⟩; subst he; have hS2 := HS.out.step hd; clear HS hfc hd; have HS := Lib.hid hS2; have hfc := (Lib.hid HS.out.cell).out; clear hS2) | (go_at_call 54; refine (room_c hl hc _ _ (by omega) _ (Kd.C_below HC.out HS.out.below)).mono ?_; rintro e w' ⟨he, hd⟩; subst he; have hS2 := HS.out.step hd; clear HS hfc hd; have HS := Lib.hid hS2; have hfc := (Lib.hid HS.out.cell).out; clear hS2) | (go_at_call 25; refine (must_c _ _ _ _).mono ?_; rintro e w' (⟨hb, he, hw⟩ | ⟨hb, he, hw⟩) <;> have hw := hw.symm <;> subst he <;> subst hw; rotate_left; (refine ⟨rfl, Out.no (HX.out.symm.trans (chk_no hb)) HS.out.below⟩); have hX2 := HX.out; rw [chk_ok hb] at hX2; clear HX; have HX := Lib.hid hX2; have HBB := Lib.hid hb; clear hX2 hb))
   have HRS : Hid (roomS l fs sz = true) := by assumption
   clear E1
   go_upto_region 9 with (first | (go_at_call 53; refine (word_i HB.out hl hc _ (by omega) (by omega) _ (Kd.C_below HC.out HS.out.below)).mono ?_; rintro e w' ⟨he, ⟨hv0, hv1⟩, hd⟩; subst he; have hS2 := HS.out.step hd; clear HS hfc hd; have HS := Lib.hid hS2; have hfc := (Lib.hid HS.out.cell).out; clear hS2))
   have hX := HX.out
   unfold secS at hX
   clear HX
   have hlk9 := hlk0
   by_cases hlt : lk < rdN l 60 2
   ·have hltb : decide (lk < rdN l 60 2) = true := decide_eq_true hlt
    obtain ⟨t, ht⟩ : ∃ t, rdN l 40 8 + 64 * lk = t := ⟨_, rfl⟩
    have ht0 : 0 ≤ t := by omega
    have ht64 : t + 64 ≤ (l.length : Int) := by omega
    rw [ht] at hX
    by_cases hk3 : rdN l (t + 4) 4 = 3
    ·have hk3b : (rdN l (t + 4) 4 == 3) = true := by simp [hk3]
     rw [hltb, hk3b, Bool.true_and] at hX
     have HX := Lib.hid hX
     clear hX hk3
     have E1 : IntKind.i64.wrap (t + 4) = t + 4 := by rw [IntKind.wrap_i64]; omega
     have E2 : IntKind.i64.wrap (s + 40) = s + 40 := by rw [IntKind.wrap_i64]; omega
     have hS2 := HS.out.drew; clear HS hfc; have HS := Lib.hid hS2; have hfc := (Lib.hid HS.out.cell).out; clear hS2
     go_region_held2 (fun w' => w'.cell? ⟨w.heap.size, 0, none⟩ = some (.slice A l.length c)) (first | exact hfc | go_keep) (first | (go_at_call 52; refine (half_i HB.out hl hc _ (by omega) (by omega) _ (Kd.C_below HC.out HS.out.below)).mono ?_; rintro e w' ⟨he, ⟨hv0, hv1⟩, hd⟩; subst he; have hS2 := HS.out.step hd; clear HS hfc hd; have HS := Lib.hid hS2; have hfc := (Lib.hid HS.out.cell).out; clear hS2) | (go_at_call 59; refine (sec_i HB.out hl hc _ (by omega) (by omega) (by omega) (by omega) _ (Kd.C_below HC.out HS.out.below)).mono ?_; rintro e w' ⟨he, ⟨hv0, hv1⟩, hd⟩; subst he; have hS2 := HS.out.step hd; clear HS hfc hd; have HS := Lib.hid hS2; have hfc := (Lib.hid HS.out.cell).out; clear hS2) | (go_at_call 53; refine (word_i HB.out hl hc _ (by omega) (by omega) _ (Kd.C_below HC.out HS.out.below)).mono ?_; rintro e w' ⟨he, ⟨hv0, hv1⟩, hd⟩; subst he; have hS2 := HS.out.step hd; clear HS hfc hd; have HS := Lib.hid hS2; have hfc := (Lib.hid HS.out.cell).out; clear hS2) | (go_at_call 25; refine (must_c _ _ _ _).mono ?_; rintro e w' (⟨hb, he, hw⟩ | ⟨hb, he, hw⟩) <;> have hw := hw.symm <;> subst he <;> subst hw; rotate_left; (refine ⟨rfl, Out.no (HX.out.symm.trans (chk_no hb)) HS.out.below⟩); have hX2 := HX.out; rw [chk_ok hb] at hX2; clear HX hb; have HX := Lib.hid hX2; clear hX2))
     clear E1 E2
     go_upto_region 11 with (first | (go_at_call 59; refine (sec_i HB.out hl hc _ (by omega) (by omega) (by omega) (by omega) _ (Kd.C_below HC.out HS.out.below)).mono ?_; rintro e w' ⟨he, ⟨hv0, hv1⟩, hd⟩; subst he; have hS2 := HS.out.step hd; clear HS hfc hd; have HS := Lib.hid hS2; have hfc := (Lib.hid HS.out.cell).out; clear hS2))
     obtain ⟨tx, htx⟩ : ∃ tx, rdN l (t + 24) 8 = tx := ⟨_, rfl⟩
     obtain ⟨tn, htn⟩ : ∃ tn, rdN l (t + 32) 8 = tn := ⟨_, rfl⟩
     have htx0 : 0 ≤ tx := htx ▸ (rd8 HB.out _).1
     have htn0 : 0 ≤ tn := htn ▸ (rd8 HB.out _).1
     have hX := HX.out
     rw [htx, htn] at hX
     clear HX
     have HX := Lib.hid hX
     clear hX
     have E1 : IntKind.i64.wrap (t + 24) = t + 24 := by rw [IntKind.wrap_i64]; omega
     have E2 : IntKind.i64.wrap (t + 32) = t + 32 := by rw [IntKind.wrap_i64]; omega
     go_cut [] (fun wx => Hid (FS w (.slice A l.length c) wx) ∧ Hid (roomS l tx tn = true))
     case first =>
      have hS2 := HS.out.drew; clear HS hfc; have HS := Lib.hid hS2; have hfc := (Lib.hid HS.out.cell).out; clear hS2
      go_region_held2 (fun w' => w'.cell? ⟨w.heap.size, 0, none⟩ = some (.slice A l.length c)) (first | exact hfc | go_keep) (first | (go_at_call 27; refine (double_i HB.out hl hc _ (by omega) (by omega) _ (Kd.C_below HC.out HS.out.below)).mono ?_; rintro e w' ⟨he, ⟨hv0, hv1⟩, hd⟩; subst he; have hS2 := HS.out.step hd; clear HS hfc hd; have HS := Lib.hid hS2; have hfc := (Lib.hid HS.out.cell).out; clear hS2) | (go_at_call 54; refine (room_c hl hc _ _ (by omega) _ (Kd.C_below HC.out HS.out.below)).mono ?_; rintro e w' ⟨he, hd⟩; subst he; have hS2 := HS.out.step hd; clear HS hfc hd; have HS := Lib.hid hS2; have hfc := (Lib.hid HS.out.cell).out; clear hS2) | (go_at_call 25; refine (must_c _ _ _ _).mono ?_; rintro e w' (⟨hb, he, hw⟩ | ⟨hb, he, hw⟩) <;> have hw := hw.symm <;> subst he <;> subst hw; rotate_left; (refine ⟨rfl, Out.no (HX.out.symm.trans (chk_no hb)) HS.out.below⟩); have hX2 := HX.out; rw [chk_ok hb] at hX2; clear HX; have HX := Lib.hid hX2; have HBB := Lib.hid hb; clear hX2 hb))
      go_wp2
      go_meet
      exact ⟨HS, HBB⟩
     case rest =>
      clear HS hfc
      obtain ⟨HS, HRT⟩ := hcut
      have hfc := (Lib.hid HS.out.cell).out
      have hX := HX.out
      rw [HRT.out, chk_ok rfl] at hX
      clear HX
      have HX := Lib.hid hX
      clear hX E1 E2
      obtain ⟨hrt1, hrt2⟩ := room_le HRT.out
      go_upto_region 12 with fail
      obtain ⟨i0, hi0, _, hsz5, _⟩ := info_parts info5
      obtain ⟨A8, hcutS, hA8, hC8⟩ := print_mid_of (P := Tryz.prog) (Value.int .u8) 0 22 5 .u64 .u64 Tryz.underlying22 hi0 hsz5 A c l tx (tx + tn) htx0 (by omega) hrt2 hc
      obtain ⟨TX, hTX⟩ : ∃ TX, (l.take (tx + tn).toNat).drop tx.toNat = TX := ⟨_, rfl⟩
      rw [hTX] at hcutS hA8 hC8
      have HTX : Hid (TX = (l.drop tx.toNat).take tn.toNat) := Lib.hid (by rw [← hTX, List.drop_take, show (tx + tn).toNat - tx.toNat = tn.toNat by omega])
      have HA8 : Hid (∀ W : World, (Kd.int .u8).C W A l.length l → (Kd.int .u8).C W A8 TX.length TX) := Lib.hid (fun W hC => Kd.C_of_reads (h1 := fun _ => rfl) (hA8 W (Kd.reads_of_C (h1 := fun _ => rfl) hC)))
      have hBT : Bytes TX := hTX ▸ (HB.out.take _).drop _
      have HBT := Lib.hid hBT
      have hTl : TX.length ≤ l.length := by rw [← hTX, List.length_drop, List.length_take]; omega
      obtain ⟨c8, hc8⟩ : ∃ c8, c - tx.toNat = c8 := ⟨_, rfl⟩
      rw [hc8] at hcutS hC8
      clear hTX hA8 hBT hc8 hi0 hsz5
      go_cut [8] (fun s8 wx => s8 = .slice A8 TX.length c8 ∧ Hid (FS w (.slice A l.length c) wx))
      case first =>
       have E0 : IntKind.u64.wrap (tx + tn) = tx + tn := u64n (by omega) (by omega)
       have E1 : IntKind.i64.wrap (t + 24) = t + 24 := by rw [IntKind.wrap_i64]; omega
       have E2 : IntKind.i64.wrap (t + 32) = t + 32 := by rw [IntKind.wrap_i64]; omega
       have hS2 := HS.out.drew; clear HS hfc; have HS := Lib.hid hS2; have hfc := (Lib.hid HS.out.cell).out; clear hS2
       go_region_held2 (fun w' => w'.cell? ⟨w.heap.size, 0, none⟩ = some (.slice A l.length c)) (first | exact hfc | go_keep) (first | (go_at_call 27; refine (double_i HB.out hl hc _ (by omega) (by omega) _ (Kd.C_below HC.out HS.out.below)).mono ?_; rintro e w' ⟨he, ⟨hv0, hv1⟩, hd⟩; subst he; have hS2 := HS.out.step hd; clear HS hfc hd; have HS := Lib.hid hS2; have hfc := (Lib.hid HS.out.cell).out; clear hS2))
       all_goals (go_wp2; go_meet; exact ⟨rfl, HS⟩)
      case rest =>
       clear HS hfc hcutS
       obtain ⟨rfl, HS⟩ := hcut
       have hmm : ∀ W : World, (Instr.makeMap 107 none).run Tryz.prog W = .ok (.map (some W.heap.size)) (W.alloc (.map #[] 0)) := fun W => by kernel_rfl
       go_upto_region 15 with fail
       have HN : Hid (NS w (.slice A l.length c) (wc.alloc (.map #[] 0)) (.slice none 0 0) wc.heap.size []) := Lib.hid ⟨HS.out.alloc _, own_nil _ _ _ _, ⟨blk_new wc _, fun _ h => (List.not_mem_nil h).elim⟩, blk_lt HS.out.box⟩
       obtain ⟨B, hB⟩ : ∃ B, wc.heap.size = B := ⟨_, rfl⟩
       obtain ⟨W1, hW1⟩ : ∃ W1, wc.alloc (.map #[] 0) = W1 := ⟨_, rfl⟩
       rw [hB, hW1] at HN
       rw [hB, hW1]
       have hX := HX.out
       rw [← HTX.out] at hX
       clear HX HS hB hW1
       have HS := HN
       have HX := Lib.hid hX
       have hfc := (Lib.hid HS.out.cell).out
       clear hX HN HTX CT
       obtain ⟨hfsz1, hfsz2⟩ := room_le HRS.out
       go_wp2_with (first | (go_at_call 27; refine (double_i HB.out hl hc _ (by omega) (by omega) _ (Kd.C_below HC.out HS.out.below)).mono ?_; rintro e w' ⟨he, ⟨hv0, hv1⟩, hd⟩; subst he; have hS2 := HS.out.step hd; clear HS hfc hd; have HS := Lib.hid hS2; have hfc := (Lib.hid HS.out.cell).out; clear hS2))
       obtain ⟨nn, hnn⟩ : ∃ nn : Int, sz / 24 = nn := ⟨_, rfl⟩
       have hnn0 : 0 ≤ nn := by omega
       have hnn1 : fs + 24 * nn ≤ (l.length : Int) := by omega
       have hX := HX.out
       rw [hnn] at hX
       clear HX
       have HX := Lib.hid hX
       clear hX
       go_loopg [10, 12] (nn.toNat - 1) (fun gm v10 v12 wx => ∃ (i : Int) (A3 : Option Addr) (c3 : Nat) (out : List S82), v12 = .int .i64 i ∧ v10 = .slice A3 out.length c3 ∧ 1 ≤ i ∧ (i ≤ nn ∨ i = 1) ∧ out.length ≤ 400 ∧ Hid (gm = (nn - i).toNat) ∧ Hid (NS w (.slice A l.length c) wx v10 B out) ∧ Hid (symsS l TX fs gm i out = o))
       case atStart => exact ⟨1, none, 0, [], rfl, rfl, by omega, by omega, by simp, Lib.hid (by omega), HS, HX⟩
       case round =>
        clear HS hfc HX
        obtain ⟨i, A3, c3, out, rfl, rfl, hi1, hi2, hol, HGM, HS, HX⟩ := hrel
        have hfc := (Lib.hid HS.out.cell).out
        by_cases hi : i < nn
        ·obtain ⟨gm, rfl⟩ : ∃ k, gk = k + 1 := ⟨gk - 1, by have := HGM.out; omega⟩
         go_upto_region 20 with fail
         obtain ⟨y, hy⟩ : ∃ y, fs + 24 * i = y := ⟨_, rfl⟩
         have hy0 : 0 ≤ y := by omega
         have hy1 : y + 24 ≤ (l.length : Int) := by omega
         obtain ⟨ow, how⟩ : ∃ ow, rdN l y 4 = ow := ⟨_, rfl⟩
         have how0 : 0 ≤ ow := how ▸ (rd4 HB.out _).1
         have hX := HX.out
         rw [symsS, hy, symS, andThen_chk, how] at hX
         rw [hy]
         clear HX
         have HX := Lib.hid hX
         have HY := Lib.hid hy
         clear hX hy
         go_upto_region 22 with (first | (go_at_call 53; refine (word_i HB.out hl hc _ (by omega) (by omega) _ (Kd.C_below HC.out HS.out.below)).mono ?_; rintro e w' ⟨he, ⟨hv0, hv1⟩, hd⟩; subst he; have hS2 := HS.out.step hd; clear HS hfc hd; have HS := Lib.hid hS2; have hfc := (Lib.hid HS.out.cell).out; clear hS2) | (go_at_call 25; refine (must_c _ _ _ _).mono ?_; rintro e w' (⟨hb, he, hw⟩ | ⟨hb, he, hw⟩) <;> have hw := hw.symm <;> subst he <;> subst hw; rotate_left; (refine ⟨rfl, Out.no (HX.out.symm.trans (chk_no hb)) HS.out.below⟩); have hX2 := HX.out; rw [chk_ok hb] at hX2; clear HX; have HX := Lib.hid hX2; have HBB := Lib.hid hb; clear hX2 hb))
         have howl : ow < (TX.length : Int) := of_decide_eq_true HBB.out
         clear HBB how
         obtain ⟨i1, hi1', _, hsz5', _⟩ := info_parts info5
         obtain ⟨A9, hcutD, hA9, hC9⟩ := print_drop_of (P := Tryz.prog) (Value.int .u8) 0 22 5 .i64 Tryz.underlying22 hi1' hsz5' A8 c8 TX ow how0 (by omega) hC8
         obtain ⟨TO, hTO⟩ : ∃ TO, TX.drop ow.toNat = TO := ⟨_, rfl⟩
         have hTOl : 0 < TO.length := by rw [← hTO, List.length_drop]; omega
         have hX := HX.out
         rw [hTO] at hcutD hA9 hC9 hX
         have HCO : Hid (∀ W : World, (Kd.int .u8).C W A l.length l → (Kd.int .u8).C W A9 TO.length TO) := Lib.hid (fun W hC => Kd.C_of_reads (h1 := fun _ => rfl) (hA9 W (Kd.reads_of_C (h1 := fun _ => rfl) (HA8.out W hC))))
         have HBO : Hid (Bytes TO) := Lib.hid (hTO ▸ HBT.out.drop _)
         have HTO := Lib.hid hTO
         obtain ⟨c9, hc9⟩ : ∃ c9, c8 - ow.toNat = c9 := ⟨_, rfl⟩
         rw [hc9] at hcutD hC9
         clear hTO hA9 hi1' hsz5' hc9 HX
         cases hu : upto0 TO with
         | none =>
          rw [hu] at hX
          have HX : Hid ((.error (y, 25) : Res (List S82)) = o) := Lib.hid hX
          have hidx : idxS TO = -1 := by unfold idxS; rw [hu]
          clear hX hu
          go_wp2_with (first | (go_at_call 60; refine (idx_c HBO.out hTOl _ (HCO.out _ (Kd.C_below HC.out HS.out.below))).mono ?_; rintro e w' ⟨rfl, rfl⟩) | (go_at_call 25; refine (must_no _ _ _).mono ?_; rintro e w' ⟨rfl, rfl⟩))
          exact ⟨rfl, Out.no HX.out.symm HS.out.below⟩
         | some nm =>
          rw [hu] at hX
          have hidx : idxS TO = (nm.length : Int) := by unfold idxS; rw [hu]
          have hnm0 : (0 : Int) ≤ (nm.length : Int) := Int.natCast_nonneg _
          obtain ⟨hnm1, hnm2⟩ := upto0_take hu
          have HNM := Lib.hid hnm1
          have HX := Lib.hid hX
          clear hX hu hnm1
          go_upto_region 24 with (first | (go_at_call 60; refine (idx_c HBO.out hTOl _ (HCO.out _ (Kd.C_below HC.out HS.out.below))).mono ?_; rintro e w' ⟨rfl, rfl⟩) | (go_at_call 25; refine (must_ok _ _ _).mono ?_; rintro e w' ⟨rfl, rfl⟩))
          obtain ⟨NM, hNM⟩ : ∃ NM, strOfNums nm = NM := ⟨_, rfl⟩
          obtain ⟨vl, hvl⟩ : ∃ vl, rdN l (y + 8) 8 = vl := ⟨_, rfl⟩
          have hvl0 := hvl ▸ rd8 HB.out (y + 8)
          have HVL : Hid (0 ≤ vl ∧ vl < 18446744073709551616) := Lib.hid hvl0
          obtain ⟨i2, hi2', _, hsz6', _⟩ := info_parts info5
          have hTOlen : TO.length = TX.length - ow.toNat := by rw [← HTO.out, List.length_drop]
          obtain ⟨A10, hcutM, hA10, hC10⟩ := print_mid_of (P := Tryz.prog) (Value.int .u8) 0 22 5 .i64 .i64 Tryz.underlying22 hi2' hsz6' A8 c8 TX ow (ow + (nm.length : Int)) how0 (by omega) (by omega) hC8
          have hTOle : TO.length ≤ TX.length := by omega
          have hTOle2 : ow + (TO.length : Int) ≤ (TX.length : Int) := by omega
          have hnme : (TX.take (ow + (nm.length : Int)).toNat).drop ow.toNat = nm := by
           rw [List.drop_take, HTO.out, show (ow + (nm.length : Int)).toNat - ow.toNat = nm.length by omega, ← HNM.out]
          rw [hnme] at hcutM hA10 hC10
          obtain ⟨c10, hc10⟩ : ∃ c10, c8 - ow.toNat = c10 := ⟨_, rfl⟩
          rw [hc10] at hcutM hC10
          have HCV : Hid (∀ W : World, (Kd.int .u8).C W A l.length l → (convert 22 9 (.slice A10 nm.length c10)).run Tryz.prog W = .ok (.string NM) W) := Lib.hid (fun W hC => by
           rw [← hNM]
           exact Kd.C_string Tryz.underlying22 Tryz.underlying5 Tryz.underlying9 (Kd.C_of_reads (h1 := fun _ => rfl) (hA10 W (Kd.reads_of_C (h1 := fun _ => rfl) (HA8.out W hC)))))
          have hNMl : NM.size = nm.length := by rw [← hNM]; show ((nm.map fun n => UInt8.ofNat n.toNat).toArray).size = nm.length; simp
          have hX := HX.out
          rw [hNM, hvl] at hX
          clear HX
          have HX := Lib.hid hX
          have HNML : Hid (NM.size ≤ l.length) := Lib.hid (by rw [hNMl]; omega)
          have HE := Lib.hid hNM
          clear hX hNM hNMl hTOlen hnme hc10 hA10 hi2' hsz6' hvl0
          go_cut [16] (fun s16 wx => ∃ b : Nat, s16 = .pointer (some ⟨b, 0, none⟩) ∧ Hid (NSB w (.slice A l.length c) wx (.slice A3 out.length c3) B out b ⟨NM, vl⟩))
          case first =>
           have E1 : IntKind.i64.wrap (ow + (nm.length : Int)) = ow + (nm.length : Int) := by rw [IntKind.wrap_i64]; omega
           have E2 : IntKind.i64.wrap (y + 8) = y + 8 := by rw [IntKind.wrap_i64]; omega
           obtain ⟨wz, rfl⟩ : ∃ wz : World, wz = w' := ⟨_, rfl⟩
           have hS2 := HS.out.drew; clear HS hfc; have HS := Lib.hid hS2; have hfc := (Lib.hid HS.out.cell).out; clear hS2
           go_region_held3 (fun w' => w'.cell? ⟨w.heap.size, 0, none⟩ = some (.slice A l.length c) ∧ (convert 22 9 (.slice A10 nm.length c10)).run Tryz.prog w' = .ok (.string NM) w') (first | exact ⟨hfc, HCV.out _ (Kd.C_below HC.out HS.out.below)⟩ | exact ⟨(HS.out.alloc _).cell, HCV.out _ (Kd.C_below HC.out (HS.out.alloc _).below)⟩ | exact ⟨hP.out.1.cell, HCV.out _ (Kd.C_below HC.out hP.out.1.below)⟩ | go_keep) ((first | (go_at_call 27; refine (double_i HB.out hl hc _ (by omega) (by omega) _ (Kd.C_below HC.out HS.out.below)).mono ?_; rintro e w' ⟨he, ⟨hv0, hv1⟩, hd⟩; subst he; have hS2 := HS.out.step hd; clear HS hfc hd; have HS := Lib.hid hS2; have hfc := (Lib.hid HS.out.cell).out; clear hS2) | (go_at_call 27; refine (double_i HB.out hl hc _ (by omega) (by omega) _ (Kd.C_below HC.out (HS.out.alloc _).below)).mono ?_; rintro e w' ⟨he, ⟨hv0, hv1⟩, hd⟩; subst he; have hP := Lib.hid (HS.out.put (k := wz.heap.size) rfl hd (.string NM) (.int .u64 vl)); have hS2 := (HS.out.alloc _).step hd; have hz := NS.zero (k := wz.heap.size) (W := wz.drew) rfl hd; have hz0 := kCe hz 0; have hz1 := kCe hz 1; have hzf0 := kFr hz 0; have hzf1 := kFr hz 1; clear HS hfc hd hz; have HS := Lib.hid hS2; have hfc := (Lib.hid HS.out.cell).out; clear hS2)))
           all_goals (go_wp2; go_meet; first | exact ⟨_, rfl, Lib.hid ⟨HS.out.alloc _, blk_new _ _⟩⟩ | exact ⟨_, rfl, Lib.hid ⟨hP.out.1, hP.out.2⟩⟩)
          case rest =>
           clear HS hfc hcutM hcutD
           obtain ⟨b, rfl, HS⟩ := hcut
           have hfc := (Lib.hid HS.out.cell).out
           obtain ⟨adA, eA, hcA⟩ := Kd.at_int (Kd.C_below HC.out HS.out.below) (y + 4) (by omega) (by omega)
           obtain ⟨bt4, hbt4⟩ : ∃ bt4, rd l (y + 4) = bt4 := ⟨_, rfl⟩
           have hbt2 : 0 ≤ bt4 ∧ bt4 < 256 := by rw [← hbt4]; exact byte_at HB.out (y + 4).toNat
           rw [hbt4] at hcA
           obtain ⟨kd, hkd⟩ : ∃ kd, bt4 % 16 = kd := ⟨_, rfl⟩
           have hband : Go.bits .and .u8 bt4 15 = kd := (byte_and15 bt4 hbt2).trans hkd
           have hy40 : (0 : Int) ≤ y + 4 := by omega
           have hy41 : y + 4 < (l.length : Int) := by omega
           have HK : Hid (rdN l (y + 4) 1 % 16 = kd) := Lib.hid (by rw [rd1i, hbt4, hkd])
           clear hbt2 hbt4 hkd
           subst eA
           go_upto_region 26 with fail
           have hNMs : NM.size < 9223372036854775807 := by have := HNML.out; omega
           have HOK : Hid (okS ⟨NM, vl⟩) := Lib.hid (okS_mk (by have := HNML.out; omega) HVL.out)
           obtain ⟨nb, hnb⟩ : ∃ nb, nameB NM = nb := ⟨_, rfl⟩
           obtain ⟨a5, ha5⟩ : ∃ a5, (out.any fun x => symEq x ⟨NM, vl⟩) = a5 := ⟨_, rfl⟩
           obtain ⟨h6, hh6⟩ : ∃ h6, rdN l (y + 6) 2 = h6 := ⟨_, rfl⟩
           have HLK : Hid (∀ W, MO W B out → (Instr.lookup 107 (.map (some B)) (.agg #[.string NM, .int .u64 vl]) false).run Tryz.prog W = .ok (.int .i64 (if a5 = true then 1 else 0)) W) := Lib.hid (look_any HOK.out ha5)
           have HSK : Hid (skipB l y NM out = (!nb || (kd == 3 || (kd == 4 || (h6 == 0 || a5))))) := Lib.hid (by unfold skipB; rw [HK.out, hnb, hh6, hvl, ha5])
           have HA5 : Hid (a5 = false → (⟨NM, vl⟩ : S82) ∉ out) := Lib.hid (fun h hm => by rw [any_mem.2 hm, h] at ha5; cases ha5)
           clear ha5 hcA
           go_cut [182] (fun s182 wx => s182 = .bool (!nb || (kd == 3 || (kd == 4 || (h6 == 0 || a5)))) ∧ Hid (NSB w (.slice (some adA) l.length c) wx (.slice A3 out.length c3) B out b ⟨NM, vl⟩))
           case first =>
            have hs0 := HS.out.cell0
            have hs1 := HS.out.cell1
            cases nb with
            | false =>
             go_wp2_with (first | (go_at_call 42; refine (isName_calls _ _ hNMs (Glob.step HG.out HS.out.below)).mono ?_; rintro e w' ⟨he, hd⟩; subst he; have hS2 := HS.out.step hd; clear HS hfc hd; have HS := Lib.hid hS2; have hfc := (Lib.hid HS.out.cell).out; clear hS2))
             go_meet
             exact ⟨rfl, HS⟩
            | true =>
             by_cases k3 : kd = 3
             ·subst k3
              go_wp2_with (first | (go_at_call 42; refine (isName_calls _ _ hNMs (Glob.step HG.out HS.out.below)).mono ?_; rintro e w' ⟨he, hd⟩; subst he; have hS2 := HS.out.step hd; clear HS hfc hd; have HS := Lib.hid hS2; have hfc := (Lib.hid HS.out.cell).out; clear hS2))
              go_meet
              exact ⟨rfl, HS⟩
             ·have k3b : (kd == 3) = false := by simp [k3]
              clear k3
              by_cases k4 : kd = 4
              ·subst k4
               go_wp2_with (first | (go_at_call 42; refine (isName_calls _ _ hNMs (Glob.step HG.out HS.out.below)).mono ?_; rintro e w' ⟨he, hd⟩; subst he; have hS2 := HS.out.step hd; clear HS hfc hd; have HS := Lib.hid hS2; have hfc := (Lib.hid HS.out.cell).out; clear hS2))
               go_meet
               exact ⟨rfl, HS⟩
              ·have k4b : (kd == 4) = false := by simp [k4]
               clear k4
               by_cases k6 : h6 = 0
               ·subst k6
                go_wp2_with (first | (go_at_call 42; refine (isName_calls _ _ hNMs (Glob.step HG.out HS.out.below)).mono ?_; rintro e w' ⟨he, hd⟩; subst he; have hS2 := HS.out.step hd; clear HS hfc hd; have HS := Lib.hid hS2; have hfc := (Lib.hid HS.out.cell).out; clear hS2) | (go_at_call 52; refine (half_i HB.out hl hc _ (by omega) (by omega) _ (Kd.C_below HC.out HS.out.below)).mono ?_; rintro e w' ⟨he, ⟨hv0, hv1⟩, hd⟩; subst he; have hS2 := HS.out.step hd; clear HS hfc hd; have HS := Lib.hid hS2; have hfc := (Lib.hid HS.out.cell).out; clear hS2))
                go_meet
                exact ⟨by rw [k3b, k4b]; rfl, HS⟩
               ·have k6b : (h6 == 0) = false := by simp [k6]
                clear k6
                cases a5 with
                | true =>
                 go_wp2_with (first | (go_at_call 42; refine (isName_calls _ _ hNMs (Glob.step HG.out HS.out.below)).mono ?_; rintro e w' ⟨he, hd⟩; subst he; have hS2 := HS.out.step hd; clear HS hfc hd; have HS := Lib.hid hS2; have hfc := (Lib.hid HS.out.cell).out; clear hS2) | (go_at_call 52; refine (half_i HB.out hl hc _ (by omega) (by omega) _ (Kd.C_below HC.out HS.out.below)).mono ?_; rintro e w' ⟨he, ⟨hv0, hv1⟩, hd⟩; subst he; have hS2 := HS.out.step hd; clear HS hfc hd; have HS := Lib.hid hS2; have hfc := (Lib.hid HS.out.cell).out; clear hS2; have hs0 := HS.out.cell0; have hs1 := HS.out.cell1; have hL := HLK.out _ HS.out.ns.mo))
                 go_meet
                 exact ⟨by rw [k3b, k4b, k6b]; rfl, HS⟩
                | false =>
                 go_wp2_with (first | (go_at_call 42; refine (isName_calls _ _ hNMs (Glob.step HG.out HS.out.below)).mono ?_; rintro e w' ⟨he, hd⟩; subst he; have hS2 := HS.out.step hd; clear HS hfc hd; have HS := Lib.hid hS2; have hfc := (Lib.hid HS.out.cell).out; clear hS2) | (go_at_call 52; refine (half_i HB.out hl hc _ (by omega) (by omega) _ (Kd.C_below HC.out HS.out.below)).mono ?_; rintro e w' ⟨he, ⟨hv0, hv1⟩, hd⟩; subst he; have hS2 := HS.out.step hd; clear HS hfc hd; have HS := Lib.hid hS2; have hfc := (Lib.hid HS.out.cell).out; clear hS2; have hs0 := HS.out.cell0; have hs1 := HS.out.cell1; have hL := HLK.out _ HS.out.ns.mo))
                 go_meet
                 exact ⟨by rw [k3b, k4b, k6b]; rfl, HS⟩
           case rest =>
            clear HS hfc
            obtain ⟨rfl, HS⟩ := hcut
            have hfc := (Lib.hid HS.out.cell).out
            obtain ⟨sk, hsk⟩ : ∃ sk, (!nb || (kd == 3 || (kd == 4 || (h6 == 0 || a5)))) = sk := ⟨_, rfl⟩
            have HN5 : Hid (sk = false → (⟨NM, vl⟩ : S82) ∉ out) := Lib.hid (fun h => HA5.out (by rw [← hsk] at h; simp only [Bool.or_eq_false_iff] at h; exact h.2.2.2.2))
            have hX := HX.out
            rw [HSK.out, hsk] at hX
            rw [hsk]
            clear HX hsk HSK HLK HA5 hband hnb hh6
            cases sk with
            | true =>
             rw [if_pos rfl, andThen_ok] at hX
             have HX := Lib.hid hX
             clear hX
             go_wp2
             go_roundg gm
             case measure => omega
             case rel => exact ⟨i + 1, A3, c3, out, rfl, rfl, by omega, by omega, hol, Lib.hid (by have := HGM.out; omega), Lib.hid HS.out.ns, HX⟩
            | false =>
             rw [if_neg (by simp), andThen_chk, andThen_ok] at hX
             have HX := Lib.hid hX
             have HNI := Lib.hid (HN5.out rfl)
             clear hX HN5
             go_upto_region 28 with (first | (go_at_call 25; refine (must_c _ _ _ _).mono ?_; rintro e w' (⟨hb, he, hw⟩ | ⟨hb, he, hw⟩) <;> have hw := hw.symm <;> subst he <;> subst hw; rotate_left; (refine ⟨rfl, Out.no (HX.out.symm.trans (chk_no hb)) HS.out.below⟩); have hX2 := HX.out; rw [chk_ok hb] at hX2; clear HX; have HX := Lib.hid hX2; have HBB := Lib.hid hb; clear hX2 hb))
             have hol4 : (out.length : Int) < 400 := of_decide_eq_true HBB.out
             clear HBB
             go_cut [] (fun wx => Hid (MidS w (.slice (some adA) l.length c) wx (.slice A3 out.length c3) B out b ⟨NM, vl⟩))
             case first =>
              obtain ⟨W1, W2, k1, k2, k3, k4, k5, HM⟩ := HS.out.drew.count HOK.out HNI.out
              have hm5 := HM.cell
              have HMD := Lib.hid HM
              unfold keyV at k1 k2 k3
              dsimp only at k1 k2 k3 k5 hm5
              clear HM
              have hS2 := HS.out.drew; clear HS hfc; have HS := Lib.hid hS2; have hfc := (Lib.hid HS.out.cell).out; clear hS2
              have hs0 := HS.out.cell0
              have hs1 := HS.out.cell1
              have E1 : IntKind.i64.wrap 1 = 1 := by decide
              go_region_held3 (fun w' => w'.cell? ⟨b, 0, none⟩ = some (.string NM) ∧ w'.cell? ⟨b, 1, none⟩ = some (.int .u64 vl)) (first | exact ⟨hs0, hs1⟩ | exact k5 | exact hm5) (fail)
              all_goals (go_wp2; go_meet; exact HMD)
             case rest =>
              clear HS hfc
              have HS := hcut
              have hs0 := HS.out.cell.1
              have hs1 := HS.out.cell.2
              dsimp only at hs0 hs1
              go_wp2_with (at_builtin; refine print_append_cells (w0 := w) w.heap.size rfl (.tmp 194) (.tmp 196) 26 82 (.agg #[.string ⟨#[]⟩, .int .u64 0]) 2 24 rfl Tryz.underlying26 info82 rfl (by decide) (by omega) (.slice A3 out.length c3) out.length (out.flatMap encY) [.string NM, .int .u64 vl] rfl rfl rfl one2 HS.out.own HS.out.fs.below HS.out.fs.below.size (by omega) ?_; intro v9 w9 hown9 hb9 hg9 hat9; have HN9 := Lib.hid (HS.out.app (s := ⟨NM, vl⟩) hown9 hb9 hg9); obtain ⟨A9, c9, e9⟩ := HN9.out.slice; subst e9; clear hown9 hb9 hg9 hat9 hs0 hs1)
              go_roundg gm
              case measure => omega
              case rel =>
               refine ⟨i + 1, A9, c9, out ++ [⟨NM, vl⟩], rfl, by rw [List.length_append]; rfl, by omega, by omega, by rw [List.length_append, List.length_singleton]; omega, Lib.hid (by have := HGM.out; omega), ?_, HX⟩
               have h9 := HN9.out
               rw [List.length_append, List.length_singleton] at h9
               exact Lib.hid h9
        ·have hX := HX.out
         rw [show gk = 0 by have := HGM.out; omega, symsS] at hX
         clear HX
         have HX := Lib.hid hX
         have CA := Lib.hid (fun (W : World) (hP : W.ownsRow w.heap.size 82 2 (.slice A3 out.length c3) out.length (out.flatMap encY)) => sortSym_c hP (by omega))
         clear hX
         go_wp2_with (go_at_call 61; refine (CA.out _ HS.out.own).mono ?_; rintro e w1 ⟨he, ys', hpm, hso, hpo, hg⟩; subst he; have HR := Lib.hid (And.intro hpm (And.intro hso hpo)); have HBW := Lib.hid (HS.out.below.grown hg HS.out.below.size (own_base HS.out.own)); clear hpm hso hpo hg)
         go_ret
         exact Out.yes HX.out.symm ⟨_, HR.out.1, HR.out.2.1, HR.out.2.2⟩ HBW.out
    ·
     have hk3b : (rdN l (t + 4) 4 == 3) = false := by simp [hk3]
     rw [hltb, hk3b, Bool.true_and] at hX
     have HX := Lib.hid hX
     clear hX hk3
     have E1 : IntKind.i64.wrap (t + 4) = t + 4 := by rw [IntKind.wrap_i64]; omega
     have E2 : IntKind.i64.wrap (s + 40) = s + 40 := by rw [IntKind.wrap_i64]; omega
     have hS2 := HS.out.drew; clear HS hfc; have HS := Lib.hid hS2; have hfc := (Lib.hid HS.out.cell).out; clear hS2
     go_region_held2 (fun w' => w'.cell? ⟨w.heap.size, 0, none⟩ = some (.slice A l.length c)) (first | exact hfc | go_keep) (first | (go_at_call 52; refine (half_i HB.out hl hc _ (by omega) (by omega) _ (Kd.C_below HC.out HS.out.below)).mono ?_; rintro e w' ⟨he, ⟨hv0, hv1⟩, hd⟩; subst he; have hS2 := HS.out.step hd; clear HS hfc hd; have HS := Lib.hid hS2; have hfc := (Lib.hid HS.out.cell).out; clear hS2) | (go_at_call 59; refine (sec_i HB.out hl hc _ (by omega) (by omega) (by omega) (by omega) _ (Kd.C_below HC.out HS.out.below)).mono ?_; rintro e w' ⟨he, ⟨hv0, hv1⟩, hd⟩; subst he; have hS2 := HS.out.step hd; clear HS hfc hd; have HS := Lib.hid hS2; have hfc := (Lib.hid HS.out.cell).out; clear hS2) | (go_at_call 53; refine (word_i HB.out hl hc _ (by omega) (by omega) _ (Kd.C_below HC.out HS.out.below)).mono ?_; rintro e w' ⟨he, ⟨hv0, hv1⟩, hd⟩; subst he; have hS2 := HS.out.step hd; clear HS hfc hd; have HS := Lib.hid hS2; have hfc := (Lib.hid HS.out.cell).out; clear hS2) | (go_at_call 25; refine (must_c _ _ _ _).mono ?_; rintro e w' (⟨hb, he, hw⟩ | ⟨hb, he, hw⟩) <;> have hw := hw.symm <;> subst he <;> subst hw; rotate_left; (refine ⟨rfl, Out.no (HX.out.symm.trans (chk_no hb)) HS.out.below⟩); have hX2 := HX.out; rw [chk_ok hb] at hX2; clear HX; have HX := Lib.hid hX2; have HBB := Lib.hid hb; clear hX2 hb))
     exact absurd HBB.out (by simp)
   ·have hltb : decide (lk < rdN l 60 2) = false := decide_eq_false hlt
    rw [hltb, Bool.false_and] at hX
    have HX := Lib.hid hX
    clear hX
    have E2 : IntKind.i64.wrap (s + 40) = s + 40 := by rw [IntKind.wrap_i64]; omega
    have hS2 := HS.out.drew; clear HS hfc; have HS := Lib.hid hS2; have hfc := (Lib.hid HS.out.cell).out; clear hS2
    (first | (go_region_with (first | (go_at_call 52; refine (half_i HB.out hl hc _ (by omega) (by omega) _ (Kd.C_below HC.out HS.out.below)).mono ?_; rintro e w' ⟨he, ⟨hv0, hv1⟩, hd⟩; subst he; have hS2 := HS.out.step hd; clear HS hfc hd; have HS := Lib.hid hS2; have hfc := (Lib.hid HS.out.cell).out; clear hS2) | (go_at_call 25; refine (must_c _ _ _ _).mono ?_; rintro e w' (⟨hb, he, hw⟩ | ⟨hb, he, hw⟩) <;> have hw := hw.symm <;> subst he <;> subst hw; rotate_left; (refine ⟨rfl, Out.no (HX.out.symm.trans (chk_no hb)) HS.out.below⟩); have hX2 := HX.out; rw [chk_ok hb] at hX2; clear HX; have HX := Lib.hid hX2; have HBB := Lib.hid hb; clear hX2 hb))) | fail)
    all_goals exact absurd HBB.out (by simp)
end Go.Proofs.YtbnlifldnjgpmaaGreatDoor.PWri
/- errors.As at an *api.Fault (after the kit's worked text on errors.As at a pointer target): a nil error: false; an error that is an *api.Fault: true, and the target is set. (6: how many package-level variables this seat's program has; 334: the number that its invocations of a reflectlite.Type bear.) -/
namespace Go.Proofs.YtbnlifldnjgpmaaGreatDoor.ErrAs
open Go.RowKit Go.Extern.Stop Go.Stop Go.Extern
/-- errors.As(nil, target). -/
theorem as_nil (t : Value) (w : World) :
 Calls Tryz.prog 37 #[.nilIface, t] w fun e w' => e = .returned (.bool false) ∧ w' = w := by
 go_enter Tryz.func37, Tryz.ntmps37
 go_wp2
 go_ret
 exact ⟨rfl, rfl⟩
theorem valueOf27 (t : Addr) (w : World) : (ReflectliteValue.unpack (.iface 77 (.pointer (some t)))).run Tryz.prog w
 = .ok (.agg #[.pointer (some ⟨6, 77, none⟩), .pointer (some ⟨w.heap.size, 0, none⟩), .int .u64 150]) (w.alloc (.cells #[.pointer (some t)] 77)) := by kernel_rfl
theorem type27 (a : Addr) (w : World) : (ReflectliteValue.methodAny (ReflectliteValue.valueError "reflectlite.Value.Type" 0) (fun t _ _ _ => ReflectliteType.toType t) #[.agg #[.pointer (some ⟨6, 77, none⟩), .pointer (some a), .int .u64 150]]).run Tryz.prog w
 = .ok (.iface 141 (.agg #[.pointer (some ⟨6, 77, none⟩)])) w := by kernel_rfl
theorem methodKind (h : Value) (w : World) : (Go.method 334 141 (.agg #[h]) "Kind").run Tryz.prog w = .ok (136, h) w := by kernel_rfl
theorem kind27 (w : World) : ((ReflectliteType.abiMethod fun t => (fun a : Nat => Value.int IntKind.u8 (a : Int)) <$> Rtype.kind t) #[.pointer (some ⟨6, 77, none⟩)]).run Tryz.prog w = .ok (.int .u8 22) w := by kernel_rfl
theorem kind25 (w : World) : ((ReflectliteType.abiMethod fun t => (fun a : Nat => Value.int IntKind.u8 (a : Int)) <$> Rtype.kind t) #[.pointer (some ⟨6, 75, none⟩)]).run Tryz.prog w = .ok (.int .u8 22) w := by kernel_rfl
theorem rlm (z : Sem Value) (f : TypeId → Addr → Nat → Nat → Sem Value) (v : Value) :
 ReflectliteValue.method z f #[v] = (do match ← ReflectliteValue.parts v with | none => z | some (t, a, fl) => f t a fl (fl % 32)) := rfl
theorem parts27 (a : Addr) (w : World) : (ReflectliteValue.parts (.agg #[.pointer (some ⟨6, 77, none⟩), .pointer (some a), .int .u64 150])).run Tryz.prog w = .ok (some (77, a, 150)) w := by kernel_rfl
/-- (Value).IsNil at the Value of a **p.E that is not nil. -/
theorem isNil27 (a p : Addr) (W : World) (ha : W.cell? a = some (.pointer (some p))) :
 (ReflectliteValue.method (ReflectliteValue.valueError "reflectlite.Value.IsNil" 0) ReflectliteValue.isNil #[.agg #[.pointer (some ⟨6, 77, none⟩), .pointer (some a), .int .u64 150]]).run Tryz.prog W = .ok (.bool false) W := by
 rw [rlm]
 simp only [Sem.run_bind, parts27, Result.andThen]
 simp [ReflectliteValue.isNil, loadVar, isAgg, underlying, Tryz.underlying77, ha, Result.andThen]
theorem methodElem (h : Value) (w : World) : (Go.method 334 141 (.agg #[h]) "Elem").run Tryz.prog w = .ok (148, .agg #[h]) w := by kernel_rfl
theorem methodImplements (h : Value) (w : World) : (Go.method 334 141 (.agg #[h]) "Implements").run Tryz.prog w = .ok (149, .agg #[h]) w := by kernel_rfl
theorem methodAssignableTo (h : Value) (w : World) : (Go.method 334 141 (.agg #[h]) "AssignableTo").run Tryz.prog w = .ok (146, .agg #[h]) w := by kernel_rfl
theorem elem27 (w : World) : (ReflectliteType.method ReflectliteType.elem #[.agg #[.pointer (some ⟨6, 77, none⟩)]]).run Tryz.prog w = .ok (.iface 141 (.agg #[.pointer (some ⟨6, 75, none⟩)])) w := by kernel_rfl
theorem implements25 (w : World) : (ReflectliteType.relation "Implements" ReflectliteType.implements_ #[.agg #[.pointer (some ⟨6, 75, none⟩)], .iface 141 (.agg #[.pointer (some ⟨6, 30, none⟩)])]).run Tryz.prog w = .ok (.bool true) w := by kernel_rfl
theorem typeOf25 (v : Value) (w : World) : (ReflectliteType.typeOf #[.iface 75 v]).run Tryz.prog w = .ok (.iface 141 (.agg #[.pointer (some ⟨6, 75, none⟩)])) w := by kernel_rfl
theorem assignable25 (w : World) : (ReflectliteType.relation "AssignableTo" ReflectliteType.assignableTo #[.agg #[.pointer (some ⟨6, 75, none⟩)], .iface 141 (.agg #[.pointer (some ⟨6, 75, none⟩)])]).run Tryz.prog w = .ok (.bool true) w := by kernel_rfl
theorem valueOf25 (e : Addr) (w : World) : (ReflectliteValue.unpack (.iface 75 (.pointer (some e)))).run Tryz.prog w
 = .ok (.agg #[.pointer (some ⟨6, 75, none⟩), .pointer (some ⟨w.heap.size, 0, none⟩), .int .u64 150]) (w.alloc (.cells #[.pointer (some e)] 75)) := by kernel_rfl
theorem elemOf27 (w : World) : (Rtype.elem? 77).run Tryz.prog w = .ok (some 75) w := by kernel_rfl
theorem mk25 (p : Addr) (w : World) : (ReflectliteValue.mk 75 p ReflectliteValue.flagAddr).run Tryz.prog w = .ok (.agg #[.pointer (some ⟨6, 75, none⟩), .pointer (some p), .int .u64 406]) w := by kernel_rfl
/-- (Value).Elem at the Value of a **p.E that is not nil: the Value of the *p.E variable that it points to, addressable. -/
theorem elemV27 (a p : Addr) (W : World) (ha : W.cell? a = some (.pointer (some p))) :
 (ReflectliteValue.method (ReflectliteValue.valueError "reflectlite.Value.Elem" 0) ReflectliteValue.elem #[.agg #[.pointer (some ⟨6, 77, none⟩), .pointer (some a), .int .u64 150]]).run Tryz.prog W
  = .ok (.agg #[.pointer (some ⟨6, 75, none⟩), .pointer (some p), .int .u64 406]) W := by
 rw [rlm]
 simp only [Sem.run_bind, parts27, Result.andThen]
 simp [ReflectliteValue.elem, loadVar, isAgg, underlying, Tryz.underlying77, ha, Result.andThen, elemOf27, mk25]
theorem rls (v x : Value) : ReflectliteValue.set #[v, x] = (do
 let (some (dst, a, fl), some (src, b, _)) := (← ReflectliteValue.parts v, ← ReflectliteValue.parts x)
  | unsupported (.noEntry "extern/(internal/reflectlite.Value).Set.zeroValue")
 if fl / ReflectliteValue.flagAddr % 2 == 0 then unsupported (.noEntry "extern/(internal/reflectlite.Value).Set.unaddressable")
 let val ← loadVar src b
 if ← Rtype.directlyAssignable dst src then storeVar dst a val
 else if ← Rtype.implements dst src then
  if (← Rtype.kind src) == 20 then
   match val with
   | .nilIface => unsupported (.noEntry "extern/reflectlite: a nil value of one interface type handed on as a value of another")
   | _ => storeVar dst a val
  else storeVar dst a (.iface src val)
 else panicString ("reflectlite.Set: value of type " ++ (← Rtype.spelt src) ++ " is not assignable to type " ++ (← Rtype.spelt dst))
 pure (.tuple #[])) := rfl
theorem parts25a (a : Addr) (w : World) : (ReflectliteValue.parts (.agg #[.pointer (some ⟨6, 75, none⟩), .pointer (some a), .int .u64 406])).run Tryz.prog w = .ok (some (75, a, 406)) w := by kernel_rfl
theorem parts25 (a : Addr) (w : World) : (ReflectliteValue.parts (.agg #[.pointer (some ⟨6, 75, none⟩), .pointer (some a), .int .u64 150])).run Tryz.prog w = .ok (some (75, a, 150)) w := by kernel_rfl
theorem direct25 (w : World) : (Rtype.directlyAssignable 75 75).run Tryz.prog w = .ok true w := by kernel_rfl
theorem size25 (w : World) : (sizeOf 75).run Tryz.prog w = .ok 1 w := by kernel_rfl
/-- (Value).Set: the *p.E variable at 'ta' gets what the Value's own variable 'b' holds. -/
theorem set25 (ta b e : Addr) (old : Value) (W : World) (hb : W.cell? b = some (.pointer (some e))) (ht : W.cell? ta = some old) (hf : W.frozen? ta = false) :
 (ReflectliteValue.set #[.agg #[.pointer (some ⟨6, 75, none⟩), .pointer (some ta), .int .u64 406], .agg #[.pointer (some ⟨6, 75, none⟩), .pointer (some b), .int .u64 150]]).run Tryz.prog W
  = .ok (.tuple #[]) (W.setCell ta (.pointer (some e))) := by
 rw [rls]
 simp only [Sem.run_bind, parts25a, parts25, Result.andThen]
 simp [ReflectliteValue.flagAddr, loadVar, isAgg, underlying, Tryz.underlying75, hb, Result.andThen, direct25, storeVar, Value.cells, storeCells, Addr.add]
 rw [run_store Tryz.prog W ta _ _ (by rfl)]
 simp [ht, hf]
set_option maxRecDepth 1000000 in
set_option maxHeartbeats 8000000 in
theorem as_hit (e t : Addr) (old : Value) (w : World) (hg : w.cell? ⟨0, 0, none⟩ = some (.iface 141 (.agg #[.pointer (some ⟨6, 30, none⟩)]))) (ht0 : w.cell? t = some old) (hf0 : w.frozen? t = false) :
 Calls Tryz.prog 37 #[.iface 75 (.pointer (some e)), .iface 77 (.pointer (some t))] w fun ev w' => ev = .returned (.bool true) ∧ w' = ((((w.alloc (.cells #[.pointer (some t)] 77)).alloc (.cells #[.pointer (some ⟨6, 77, none⟩), .pointer (some ⟨w.heap.size, 0, none⟩), .int .u64 150] 124)).alloc (.cells #[.pointer (some ⟨6, 77, none⟩), .pointer (some ⟨w.heap.size, 0, none⟩), .int .u64 150] 124)).alloc (.cells #[.pointer (some e)] 75)).setCell t (.pointer (some e)) := by
 have h6 := @run_callFunc_extern Tryz.prog 71 _ (fun args => ReflectliteValue.unpack (args.getD 0 (.tuple #[]))) Tryz.func71 (by kernel_rfl) (by kernel_rfl) (by kernel_rfl) (by kernel_rfl)
 have h7 := @run_callFunc_extern Tryz.prog 72 _ (ReflectliteValue.methodAny (ReflectliteValue.valueError "reflectlite.Value.Type" 0) (fun t _ _ _ => ReflectliteType.toType t)) Tryz.func72 (by kernel_rfl) (by kernel_rfl) (by kernel_rfl) (by kernel_rfl)
 have h8 := @run_callFunc_extern Tryz.prog 73 _ (ReflectliteValue.method (ReflectliteValue.valueError "reflectlite.Value.IsNil" 0) ReflectliteValue.isNil) Tryz.func73 (by kernel_rfl) (by kernel_rfl) (by kernel_rfl) (by kernel_rfl)
 have h27 := @run_callFunc_extern Tryz.prog 136 _ (ReflectliteType.abiMethod fun t => do pure (.int .u8 (← Rtype.kind t))) Tryz.func136 (by kernel_rfl) (by kernel_rfl) (by kernel_rfl) (by kernel_rfl)
 have h37 := @run_callFunc_extern Tryz.prog 148 _ (ReflectliteType.method ReflectliteType.elem) Tryz.func148 (by kernel_rfl) (by kernel_rfl) (by kernel_rfl) (by kernel_rfl)
 have h38 := @run_callFunc_extern Tryz.prog 149 _ (ReflectliteType.relation "Implements" ReflectliteType.implements_) Tryz.func149 (by kernel_rfl) (by kernel_rfl) (by kernel_rfl) (by kernel_rfl)
 have h10 := @run_callFunc_extern Tryz.prog 49 _ ReflectliteType.typeOf Tryz.func49 (by kernel_rfl) (by kernel_rfl) (by kernel_rfl) (by kernel_rfl)
 have h35 := @run_callFunc_extern Tryz.prog 146 _ (ReflectliteType.relation "AssignableTo" ReflectliteType.assignableTo) Tryz.func146 (by kernel_rfl) (by kernel_rfl) (by kernel_rfl) (by kernel_rfl)
 have h11 := @run_callFunc_extern Tryz.prog 86 _ (ReflectliteValue.method (ReflectliteValue.valueError "reflectlite.Value.Elem" 0) ReflectliteValue.elem) Tryz.func86 (by kernel_rfl) (by kernel_rfl) (by kernel_rfl) (by kernel_rfl)
 have h12 := @run_callFunc_extern Tryz.prog 87 _ ReflectliteValue.set Tryz.func87 (by kernel_rfl) (by kernel_rfl) (by kernel_rfl) (by kernel_rfl)
 have tO := typeOf25
 have mA := methodAssignableTo
 have a25 := assignable25
 have v25 := valueOf25
 have f6 := valueOf27
 have f7 := type27
 have mK := methodKind
 have mE := methodElem
 have mI := methodImplements
 have k27 := kind27
 have k25 := kind25
 have e27 := elem27
 have i25 := implements25
 have n8 := isNil27 ⟨w.heap.size, 0, none⟩ t ((w.alloc (.cells #[.pointer (some t)] 77)).alloc (.cells #[.pointer (some ⟨6, 77, none⟩), .pointer (some ⟨w.heap.size, 0, none⟩), .int .u64 150] 124)) (by simp)
 have hlt : 0 < w.heap.size := by
  rcases Nat.eq_zero_or_pos w.heap.size with h0 | h
  ·simp [World.cell?, h0] at hg
  ·exact h
 have hg2 : ((w.alloc (.cells #[.pointer (some t)] 77)).alloc (.cells #[.pointer (some ⟨6, 77, none⟩), .pointer (some ⟨w.heap.size, 0, none⟩), .int .u64 150] 124)).cell? ⟨0, 0, none⟩ = some (.iface 141 (.agg #[.pointer (some ⟨6, 30, none⟩)])) := by
  rw [World.cell?_alloc_lt _ _ ⟨0, 0, none⟩ (by simp), World.cell?_alloc_lt _ _ ⟨0, 0, none⟩ hlt]; exact hg
 have htl : t.block < w.heap.size := by
  rcases Nat.lt_or_ge t.block w.heap.size with h | h
  ·exact h
  ·simp [World.cell?, Array.getElem?_eq_none h] at ht0
 have el := elemV27 ⟨w.heap.size, 0, none⟩ t (((w.alloc (.cells #[.pointer (some t)] 77)).alloc (.cells #[.pointer (some ⟨6, 77, none⟩), .pointer (some ⟨w.heap.size, 0, none⟩), .int .u64 150] 124)).alloc (.cells #[.pointer (some ⟨6, 77, none⟩), .pointer (some ⟨w.heap.size, 0, none⟩), .int .u64 150] 124)) (by rw [World.cell?_alloc_lt _ _ ⟨w.heap.size, 0, none⟩ (by simp; omega)]; simp)
 have st := set25 t ⟨w.heap.size + 1 + 1 + 1, 0, none⟩ e old ((((w.alloc (.cells #[.pointer (some t)] 77)).alloc (.cells #[.pointer (some ⟨6, 77, none⟩), .pointer (some ⟨w.heap.size, 0, none⟩), .int .u64 150] 124)).alloc (.cells #[.pointer (some ⟨6, 77, none⟩), .pointer (some ⟨w.heap.size, 0, none⟩), .int .u64 150] 124)).alloc (.cells #[.pointer (some e)] 75))
  (by rw [World.cell?_alloc_at _ _ _ _ (by simp)]; rfl)
  (by rw [World.cell?_alloc_lt _ _ t (by simp; omega), World.cell?_alloc_lt _ _ t (by simp; omega), World.cell?_alloc_lt _ _ t (by simp; omega), World.cell?_alloc_lt _ _ t htl]; exact ht0)
  (by rw [World.frozen?_alloc_old _ _ t (by simp; omega), World.frozen?_alloc_old _ _ t (by simp; omega), World.frozen?_alloc_old _ _ t (by simp; omega), World.frozen?_alloc_old _ _ t (Nat.ne_of_lt htl)]; exact hf0)
 go_enter Tryz.func37, Tryz.ntmps37
 go_wp2
 refine wp_loop_rounds 1 ?_
 rw [rounds_succ]
 go_wp2
 go_ret
 exact ⟨rfl, rfl⟩
end Go.Proofs.YtbnlifldnjgpmaaGreatDoor.ErrAs
/- The writer's put: so many bytes of each number, the lowest first, from the writer's place on; all but the writer and its bytes stays. -/
set_option linter.unusedVariables false
set_option linter.unusedSimpArgs false
namespace Go.Proofs.YtbnlifldnjgpmaaGreatDoor
open Go.RowKit Go.Lib Go.Proofs.YtbnlifldnjgpmaaGreatDoorW.PrintWords
/-- What a call keeps: all but the blocks of S and what is new; the streams and the tape stay. -/
def Kp (w W : World) (S : Nat → Prop) : Prop := Kept w W S ∧ Below 0 w W
theorem Kp.refl (w : World) (S : Nat → Prop) : Kp w w S := ⟨Kept.refl w S, Below.refl _ _⟩
theorem Kp.then_ {w W W2 : World} {S S2 : Nat → Prop} (h : Kp w W S) (k : Kp W W2 S2) (hs : ∀ k, S2 k → S k ∨ w.heap.size ≤ k) : Kp w W2 S := ⟨h.1.then_ k.1 hs, h.2.trans k.2⟩
theorem Kp.alloc {w W : World} {S : Nat → Prop} (h : Kp w W S) (o : Obj) : Kp w (W.alloc o) S := ⟨h.1.alloc o, h.2.alloc (Nat.zero_le _) o⟩
theorem Kp.drew {w W : World} {S : Nat → Prop} (h : Kp w W S) : Kp w W.drew S := ⟨h.1.drew, h.2.drew⟩
theorem Kp.setCell {w W : World} {S : Nat → Prop} (h : Kp w W S) {p : Addr} (hp : S p.block ∨ w.heap.size ≤ p.block) (u : Value) : Kp w (W.setCell p u) S := ⟨h.1.setCell hp u, h.2.setCell (Nat.zero_le _) u⟩
theorem Kp.of_below {w W : World} (h : Below w.heap.size w W) (S : Nat → Prop) : Kp w W S := ⟨Kept.of_below h S, h.mono (Nat.zero_le _)⟩
theorem Kp.below {w W : World} {S : Nat → Prop} (h : Kp w W S) (hS : ∀ k, S k → w.heap.size ≤ k) : Below w.heap.size w W :=
 ⟨h.2.os, h.2.tape, h.2.output, h.2.size, fun k hk => h.1.2 k hk (fun hs => by have := hS k hs; omega)⟩
theorem blk_kp {W W2 : World} {S : Nat → Prop} {g : Nat} {o : Obj} (hb : W.heap[g]? = some o) (hk : Kp W W2 S) (hne : ¬ S g) : W2.heap[g]? = some o := blk_kept hb hk.1 hne
theorem cell_kp {W W2 : World} {S : Nat → Prop} {a : Addr} {v : Value} (hc : W.cell? a = some v) (hk : Kp W W2 S) (hne : ¬ S a.block) : W2.cell? a = some v := cell_kept hc hk.1 hne
end Go.Proofs.YtbnlifldnjgpmaaGreatDoor
/- image.asFault: what a reading was given up with is that *api.Fault; nothing that was there is turned. -/
set_option linter.unusedVariables false
set_option linter.unusedSimpArgs false
namespace Go.Proofs.YtbnlifldnjgpmaaGreatDoor
open Go.RowKit Go.Lib Go.Proofs.YtbnlifldnjgpmaaGreatDoorW.PrintWords
/-- errors.errorType stands as its initialiser laid it. -/
def ErrT (w : World) : Prop := w.cell? ⟨0, 0, none⟩ = some (.iface 141 (.agg #[.pointer (some ⟨6, 30, none⟩)]))
theorem ErrT.lt {w : World} (h : ErrT w) : 0 < w.heap.size := World.block_lt_of_cell? w _ h
theorem ErrT.below {w W : World} (h : ErrT w) (hb : Below w.heap.size w W) : ErrT W := (hb.cell (p := ⟨0, 0, none⟩) h.lt).trans h
set_option maxRecDepth 1000000 in
set_option maxHeartbeats 8000000 in
theorem asFault_c (a : Addr) (w : World) (hE : ErrT w) :
 Calls Tryz.prog 24 #[.iface 75 (.pointer (some a))] w fun e w' => e = .returned (.iface 75 (.pointer (some a))) ∧ Below w.heap.size w w' := by
 have hc1 : Tryz.prog.concrete 75 = true := by kernel_rfl
 have hc2 : Tryz.prog.concrete 77 = true := by kernel_rfl
 have CA := Lib.hid (ErrAs.as_hit a ⟨w.heap.size, 0, none⟩ (.pointer none) (w.alloc (.cells #[.pointer none] 75)) (hE.below ((Below.refl _ _).alloc (Nat.le_refl _) _)) (by simp) (by simp))
 have hta : ∀ (x : Value) (W : World), (Instr.typeAssert (.iface 75 x) 20 30 true).run Tryz.prog W = .ok (.tuple #[.iface 75 x, .bool true]) W := fun _ _ => by kernel_rfl
 clear hE
 go_enter Tryz.func24, Tryz.ntmps24
 go_wp2_with (go_at_call 37; refine CA.out.mono ?_; rintro e w' ⟨rfl, rfl⟩)
 go_ret
 exact ⟨rfl, by repeat (first | exact Below.refl _ _ | (refine Below.alloc ?_ (by simp <;> omega) _))⟩
abbrev SP (pi pe : Nat) (k : Nat) : Prop := k = pi ∨ k = pe
set_option maxRecDepth 1000000 in
set_option maxHeartbeats 8000000 in
theorem catch_panicking (pi pe a : Nat) (older : List PanicEntry) (i0 i1 i2 er : Value) (w : World) (hE : ErrT w) (hI : w.heap[pi]? = some (.cells #[i0, i1, i2] 28 (0, 0))) (hR : w.heap[pe]? = some (.cells #[er] 30 (0, 0))) (hne : pi ≠ pe) (hp0 : 0 < pi) (hp1 : 0 < pe) :
 CallsD Tryz.prog 23 #[.pointer (some ⟨pi, 0, none⟩), .pointer (some ⟨pe, 0, none⟩)] (.panicking ({ gone a with recovered := false } :: older)) w fun e u' w' =>
  e = .returned (.tuple #[]) ∧ u' = .panicking ({ gone a with recovered := true } :: older) ∧ w'.heap[pi]? = some (.cells #[.int .u64 0, .slice none 0 0, .slice none 0 0] 28 (0, 0)) ∧ w'.heap[pe]? = some (.cells #[.iface 75 (.pointer (some ⟨a, 0, none⟩))] 30 (0, 0)) ∧ Kp w w' (SP pi pe) := by
 refine callsD_of_wpS Tryz.func23 rfl fun c₀ cs hu => ?_
 apply wpS_seq
 apply wpS_region
 simp [wpOpsS, go_sem, recoverD, hu, Tryz.ntmps23, Exit.thenS, gone]
 refine wpS_of_wp ?_
 change Code.wp _ _ _ { tmps := #[.pointer (some ⟨pi, 0, none⟩), .pointer (some ⟨pe, 0, none⟩), .iface 75 (.pointer (some ⟨a, 0, none⟩)), .iface 75 (.pointer (some ⟨a, 0, none⟩)), undef, undef, undef, undef, undef], defers := [] } w
 have c0 : w.cell? ⟨pi, 0, none⟩ = some i0 := kCe hI 0
 have c1 : w.cell? ⟨pi, 1, none⟩ = some i1 := kCe hI 1
 have c2 : w.cell? ⟨pi, 2, none⟩ = some i2 := kCe hI 2
 have z0 := kFr hI 0
 have z1 := kFr hI 1
 have z2 := kFr hI 2
 have s0 := blk_set hI 0 (.int .u64 0)
 have s1 := blk_set s0 1 (.slice none 0 0)
 have s2 := blk_set s1 2 (.slice none 0 0)
 have r0 := blk_far hR (p := ⟨pi, 0, none⟩) (Ne.symm hne) (.int .u64 0)
 have r1 := blk_far r0 (p := ⟨pi, 1, none⟩) (Ne.symm hne) (.slice none 0 0)
 have r2 := blk_far r1 (p := ⟨pi, 2, none⟩) (Ne.symm hne) (.slice none 0 0)
 have hE3 : ErrT (((w.setCell ⟨pi, 0, none⟩ (.int .u64 0)).setCell ⟨pi, 1, none⟩ (.slice none 0 0)).setCell ⟨pi, 2, none⟩ (.slice none 0 0)) := by
  unfold ErrT at hE ⊢
  have hb : Below 1 w (((w.setCell ⟨pi, 0, none⟩ (.int .u64 0)).setCell ⟨pi, 1, none⟩ (.slice none 0 0)).setCell ⟨pi, 2, none⟩ (.slice none 0 0)) :=
   (((Below.refl 1 w).setCell (p := ⟨pi, 0, none⟩) hp0 _).setCell (p := ⟨pi, 1, none⟩) hp0 _).setCell (p := ⟨pi, 2, none⟩) hp0 _
  exact (hb.cell (p := ⟨0, 0, none⟩) (by decide)).trans hE
 have k3 : Kp w _ (SP pi pe) := (((Kp.refl w (SP pi pe)).setCell (p := ⟨pi, 0, none⟩) (.inl (.inl rfl)) (.int .u64 0)).setCell (p := ⟨pi, 1, none⟩) (.inl (.inl rfl)) (.slice none 0 0)).setCell (p := ⟨pi, 2, none⟩) (.inl (.inl rfl)) (.slice none 0 0)
 have K3 := Lib.hid k3
 have CA := Lib.hid (asFault_c ⟨a, 0, none⟩ _ hE3)
 have S2 := Lib.hid s2
 have R2 := Lib.hid r2
 have HN := Lib.hid hne
 clear hE hI hR hne s0 s1 s2 r0 r1 r2 hE3 k3
 go_wp2_with (go_at_call 24; refine CA.out.mono ?_; rintro e w1 ⟨rfl, hb⟩; have S3 := Lib.hid (show w1.heap[pi]? = _ from (hb.block pi (blk_lt S2.out)).trans S2.out); have hR3 : w1.heap[pe]? = some (.cells #[er] 30 (0, 0)) := (hb.block pe (blk_lt R2.out)).trans R2.out; have R3 := Lib.hid hR3; have ce : w1.cell? ⟨pe, 0, none⟩ = some er := kCe hR3 0; have cf := kFr hR3 0; have K4 := Lib.hid (K3.out.then_ (Kp.of_below hb (fun _ => False)) (fun _ h => h.elim)); clear hb hR3 CA)
 have p1 := blk_set R3.out 0 (.iface 75 (.pointer (some ⟨a, 0, none⟩)))
 have p2 := blk_far S3.out (p := ⟨pe, 0, none⟩) HN.out (.iface 75 (.pointer (some ⟨a, 0, none⟩)))
 have p3 := K4.out.setCell (p := ⟨pe, 0, none⟩) (.inl (.inr rfl)) (.iface 75 (.pointer (some ⟨a, 0, none⟩)))
 clear ce cf c0 c1 c2 z0 z1 z2
 simp only [bodyPostS, results, Tryz.results23]
 exact ⟨trivial, _, rfl, .tuple #[], by simp [go_sem], rfl, rfl, p2, p1, p3⟩
set_option maxRecDepth 1000000 in
set_option maxHeartbeats 8000000 in
/-- .. of a reading that came to its end: nothing is recovered, nothing is turned. -/
theorem catch_idle (pi pe : Nat) (w : World) :
 CallsD Tryz.prog 23 #[.pointer (some ⟨pi, 0, none⟩), .pointer (some ⟨pe, 0, none⟩)] .returning w fun e u' w' => e = .returned (.tuple #[]) ∧ u' = .returning ∧ w' = w := by
 refine callsD_of_wpS Tryz.func23 rfl fun c₀ cs hu => ?_
 apply wpS_seq
 apply wpS_region
 simp [wpOpsS, go_sem, recoverD, hu, Tryz.ntmps23, Exit.thenS]
 refine wpS_of_wp ?_
 change Code.wp _ _ _ { tmps := #[.pointer (some ⟨pi, 0, none⟩), .pointer (some ⟨pe, 0, none⟩), .nilIface, .nilIface, undef, undef, undef, undef, undef], defers := [] } w
 go_wp2
 simp only [bodyPostS, results, Tryz.results23]
 cases c₀
 simp_all
end Go.Proofs.YtbnlifldnjgpmaaGreatDoor
/- image.Read: every answer, and every error. -/
set_option linter.unusedVariables false
set_option linter.unusedSimpArgs false
namespace Go.Proofs.YtbnlifldnjgpmaaGreatDoor.PWri
open Go.RowKit Go.Lib Go.Proofs.YtbnlifldnjgpmaaGreatDoorW.PrintWords Go.Proofs.YtbnlifldnjgpmaaGreatDoorW.PrintLast
def readS (l : List Int) : Res (Int × List S55 × List S82) :=
 chk (decide ((l.length : Int) ≤ 200000)) 200000 3 <| andThen (headS l) fun _ => andThen (partsS l (rdN l 32 8) (rdN l 56 2).toNat 0 []) fun segs => andThen (namesS l) fun syms => .ok (rdN l 24 8, segs, syms)
theorem PO.set {W : World} {base : Nat} {v : Value} {ps : List PV} (h : PO W base v ps) {p : Addr} (hp : p.block < base) (u : Value) : PO (W.setCell p u) base v ps := by
 refine ⟨own_setCell h.own (fun e => ?_) u, fun q hq => ?_, h.apart⟩
 ·have := own_base h.own _ e.symm
  omega
 ·exact Kd.R_mono (Kd.R_far (Kd.R_bound (h.data q hq)) (fun k hk => by have := hk.2.1; omega) u) (fun _ _ => trivial)
theorem own_set {W : World} {base n e size : Nat} {v : Value} {xs : List Value} (h : W.ownsRow base e size v n xs) {p : Addr} (hp : p.block < base) (u : Value) : (W.setCell p u).ownsRow base e size v n xs :=
 own_setCell h (fun e => by have := own_base h _ e.symm; omega) u
/-- The world of the walk of Read. -/
structure RS (w : World) (F i0 i1 i2 : Value) (W : World) : Prop where
 below : Below w.heap.size w W
 im : W.heap[w.heap.size]? = some (.cells #[i0, i1, i2] 28 (0, 0))
 er : W.heap[w.heap.size + 1]? = some (.cells #[.nilIface] 30 (0, 0))
 f : W.heap[w.heap.size + 1 + 1]? = some (.cells #[F] 59 (0, 0))
theorem RS.step {w W W' : World} {F i0 i1 i2 : Value} (h : RS w F i0 i1 i2 W) (hd : Below W.heap.size W W') : RS w F i0 i1 i2 W' := ⟨h.below.trans (hd.mono h.below.size), kBe h.im hd, kBe h.er hd, kBe h.f hd⟩
theorem RS.cell {w W : World} {F i0 i1 i2 : Value} (h : RS w F i0 i1 i2 W) : W.cell? ⟨w.heap.size + 1 + 1, 0, none⟩ = some F := kCe h.f 0
theorem RS.start (w : World) (F : Value) : RS w F (.int .u64 0) (.slice none 0 0) (.slice none 0 0) (((w.alloc (.cells #[.int .u64 0, .slice none 0 0, .slice none 0 0] 28)).alloc (.cells #[.nilIface] 30)).alloc (.cells #[F] 59)) := by
 have h1 := blk_new w (.cells #[.int .u64 0, .slice none 0 0, .slice none 0 0] 28)
 have h2 := blk_new (w.alloc (.cells #[.int .u64 0, .slice none 0 0, .slice none 0 0] 28)) (.cells #[.nilIface] 30)
 have h3 := blk_new ((w.alloc (.cells #[.int .u64 0, .slice none 0 0, .slice none 0 0] 28)).alloc (.cells #[.nilIface] 30)) (.cells #[F] 59)
 refine ⟨(((Below.refl _ w).alloc (Nat.le_refl _) _).alloc (by simp) _).alloc (by simp; omega) _, kAl (kAl h1 _) _, ?_, ?_⟩
 ·rw [show (w.alloc (.cells #[.int .u64 0, .slice none 0 0, .slice none 0 0] 28)).heap.size = w.heap.size + 1 from by simp] at h2
  exact kAl h2 _
 ·rwa [show ((w.alloc (.cells #[.int .u64 0, .slice none 0 0, .slice none 0 0] 28)).alloc (.cells #[.nilIface] 30)).heap.size = w.heap.size + 1 + 1 from by simp] at h3
/-- What Read comes to. -/
def ReadPost (l : List Int) (w : World) (e : Ending) (w' : World) : Prop :=
 (∃ (en : Int) (segs : List S55) (syms : List S82) (v1 v2 : Value) (ps qs : List PV) (ys : List S82), readS l = .ok (en, segs, syms) ∧ e = .returned (.tuple #[.agg #[.int .u64 en, v1, v2], .nilIface]) ∧
  qs.map (·.1) = segs ∧ ps.Perm qs ∧ ps.Pairwise (fun p q => p.1.f0 ≤ q.1.f0) ∧ PO w' w.heap.size v1 ps ∧ ys.Perm syms ∧ ys.Pairwise (fun p q => ltY q p = false) ∧ w'.ownsRow w.heap.size 82 2 v2 ys.length (ys.flatMap encY) ∧ Below w.heap.size w w') ∨
 (∃ at_ why a, readS l = .error (at_, why) ∧ e = .returned (.tuple #[.agg #[.int .u64 0, .slice none 0 0, .slice none 0 0], .iface 75 (.pointer (some ⟨a, 0, none⟩))]) ∧ w'.heap[a]? = some (faultObj at_ why) ∧ w.heap.size ≤ a ∧ Below w.heap.size w w')
theorem Kp.undr {B : Nat} {w0 w w' : World} {S : Nat → Prop} (hb : Below B w0 w) (h : Kp w w' S) (hS : ∀ k, S k → B ≤ k) (hB : B ≤ w.heap.size) : Below B w0 w' :=
 ⟨h.2.os.trans hb.os, h.2.tape.trans hb.tape, h.2.output.trans hb.output, Nat.le_trans hb.size h.1.1, fun i hi => (h.1.2 i (by omega) (fun hs => by have := hS i hs; omega)).trans (hb.block i hi)⟩
set_option maxHeartbeats 4000000 in
/-- Where a reading is given up: the deferred closure makes it an error. -/
theorem door {l : List Int} {w W0 W : World} {F i0 i1 i2 : Value} {a : Nat} {at_ why : Int} {tmps : Array Value} (hS : RS w F i0 i1 i2 W0) (hd : Below W0.heap.size W0 W) (ha : W.heap[a]? = some (faultObj at_ why)) (hle : W0.heap.size ≤ a) (hE : ErrT w) (hX : readS l = .error (at_, why))
 (h2 : tmps[2]? = some (.pointer (some ⟨w.heap.size, 0, none⟩))) (h3 : tmps[3]? = some (.pointer (some ⟨w.heap.size + 1, 0, none⟩))) :
 bodyPostD Tryz.prog Tryz.f11 (ReadPost l w) (.panic [gone a]) { tmps := tmps, defers := [{ target := .fn (.func 23) #[.pointer (some ⟨w.heap.size, 0, none⟩), .pointer (some ⟨w.heap.size + 1, 0, none⟩)], args := #[] }] } W := by
 have hS1 := hS.step hd
 have hE1 := hE.below hS1.below
 have hw : 0 < w.heap.size := hE.lt
 have hs0 : w.heap.size + 1 + 1 < W0.heap.size := blk_lt hS.f
 refine leaves_cons (f := 23) (args := #[.pointer (some ⟨w.heap.size, 0, none⟩), .pointer (some ⟨w.heap.size + 1, 0, none⟩)]) (by simp) (by simp [go_sem]) ?_
 refine (catch_panicking w.heap.size (w.heap.size + 1) a [] i0 i1 i2 .nilIface W hE1 hS1.im hS1.er (by omega) hw (by omega)).mono ?_
 rintro e u' w2 ⟨rfl, rfl, hI, hR, hK⟩
 have d0 := kCe hI 0
 have d1 := kCe hI 1
 have d2 := kCe hI 2
 have d3 := kCe hR 0
 have hP : ReadPost l w (.returned (.tuple #[.agg #[.int .u64 0, .slice none 0 0, .slice none 0 0], .iface 75 (.pointer (some ⟨a, 0, none⟩))])) w2 :=
  .inr ⟨at_, why, a, hX, rfl, blk_kp ha hK (by rintro (h | h) <;> omega), by omega, Kp.undr hS1.below hK (by rintro k (h | h) <;> omega) hS1.below.size⟩
 simp [Leaves, settle, results, Tryz.results11, go_sem, gone, h2, h3, d0, d1, d2, d3]
 exact hP
set_option maxHeartbeats 8000000 in
set_option maxRecDepth 1000000 in
theorem read_long (l : List Int) (A : Option Addr) (c : Nat) (h : Bytes l) (hl : l.length ≤ 1099511627776) (hc : l.length ≤ c) (w : World) (hC : Kd.C (Kd.int .u8) w A l.length l) (hG : Glob w) (hE : ErrT w) (hlong : 200000 < l.length) :
 Calls Tryz.prog 11 #[.slice A l.length c] w (ReadPost l w) := by
 have hmf : ∀ (fn : Fn) (first cap : Array Value) (w : World), (Instr.makeFunc fn first cap).run Tryz.prog w = .ok (.func fn first cap) w := fun _ _ _ _ => rfl
 have hdl : decide ((l.length : Int) ≤ 200000) = false := decide_eq_false (by omega)
 have HC := Lib.hid hC
 have HE := Lib.hid hE
 have HS := Lib.hid (RS.start w (.slice A l.length c))
 have HX : Hid (readS l = .error (200000, 3)) := Lib.hid (chk_no hdl)
 clear hC hE hG h hlong
 go_enter_defers Tryz.func11, Tryz.ntmps11
 go_wp2_with (go_at_call 25; refine (must_no _ _ _).mono ?_; rintro e w' ⟨rfl, rfl⟩)
 have e3 : (((w.alloc (.cells #[.int .u64 0, .slice none 0 0, .slice none 0 0] 28)).alloc (.cells #[.nilIface] 30)).alloc (.cells #[.slice A l.length c] 59)).heap.size = w.heap.size + 1 + 1 + 1 := by simp
 have ha := blk_new (((w.alloc (.cells #[.int .u64 0, .slice none 0 0, .slice none 0 0] 28)).alloc (.cells #[.nilIface] 30)).alloc (.cells #[.slice A l.length c] 59)) (faultObj 200000 3)
 rw [e3] at ha
 exact door HS.out ((Below.refl _ _).alloc (Nat.le_refl _) _) ha (by rw [e3]; exact Nat.le_refl _) HE.out HX.out rfl rfl
theorem Out.err {P : Program} {f : FuncId} {args : Array Value} {w : World} {α : Type} {r : Res α} {ok : α → Value → World → Prop} {at_ why : Int} (h : Calls P f args w (Out r ok w)) (hr : r = .error (at_, why)) :
 Calls P f args w fun e w' => ∃ a, e = .panicked [gone a] ∧ w'.heap[a]? = some (faultObj at_ why) ∧ w.heap.size ≤ a ∧ Below w.heap.size w w' := by
 refine h.mono ?_
 rintro e w' (⟨_, _, h1, _⟩ | ⟨a1, a2, a, h1, h2⟩)
 ·rw [hr] at h1
  cases h1
 ·rw [hr] at h1
  cases h1
  exact ⟨a, h2⟩
theorem Out.okk {P : Program} {f : FuncId} {args : Array Value} {w : World} {α : Type} {r : Res α} {ok : α → Value → World → Prop} {x : α} (h : Calls P f args w (Out r ok w)) (hr : r = .ok x) :
 Calls P f args w fun e w' => ∃ v, e = .returned v ∧ ok x v w' ∧ Below w.heap.size w w' := by
 refine h.mono ?_
 rintro e w' (⟨_, v, h1, h2, h3, h4⟩ | ⟨_, _, _, h1, _⟩)
 ·rw [hr] at h1
  cases h1
  exact ⟨v, h2, h3, h4⟩
 ·rw [hr] at h1
  cases h1
theorem RS.set0 {w W : World} {F i0 i1 i2 : Value} (h : RS w F i0 i1 i2 W) (u : Value) : RS w F u i1 i2 (W.setCell ⟨w.heap.size, 0, none⟩ u) :=
 ⟨h.below.setCell (p := ⟨w.heap.size, 0, none⟩) (Nat.le_refl _) u, blk_set h.im 0 u, blk_far h.er (p := ⟨w.heap.size, 0, none⟩) (by simp) u, blk_far h.f (p := ⟨w.heap.size, 0, none⟩) (by simp; omega) u⟩
theorem RS.set1 {w W : World} {F i0 i1 i2 : Value} (h : RS w F i0 i1 i2 W) (u : Value) : RS w F i0 u i2 (W.setCell ⟨w.heap.size, 1, none⟩ u) :=
 ⟨h.below.setCell (p := ⟨w.heap.size, 1, none⟩) (Nat.le_refl _) u, blk_set h.im 1 u, blk_far h.er (p := ⟨w.heap.size, 1, none⟩) (by simp) u, blk_far h.f (p := ⟨w.heap.size, 1, none⟩) (by simp; omega) u⟩
theorem RS.set2 {w W : World} {F i0 i1 i2 : Value} (h : RS w F i0 i1 i2 W) (u : Value) : RS w F i0 i1 u (W.setCell ⟨w.heap.size, 2, none⟩ u) :=
 ⟨h.below.setCell (p := ⟨w.heap.size, 2, none⟩) (Nat.le_refl _) u, blk_set h.im 2 u, blk_far h.er (p := ⟨w.heap.size, 2, none⟩) (by simp) u, blk_far h.f (p := ⟨w.heap.size, 2, none⟩) (by simp; omega) u⟩
theorem PO.lower {W : World} {base base' : Nat} {v : Value} {ps : List PV} (h : PO W base v ps) (hb : base' ≤ base) : PO W base' v ps := ⟨own_weaken h.own hb, fun p hp => Kd.R_lower (h.data p hp) hb, h.apart⟩
theorem RS.setE {w W : World} {F i0 i1 i2 : Value} (h : RS w F i0 i1 i2 W) : RS w F i0 i1 i2 (W.setCell ⟨w.heap.size + 1, 0, none⟩ .nilIface) :=
 ⟨h.below.setCell (p := ⟨w.heap.size + 1, 0, none⟩) (Nat.le_succ _) _, blk_far h.im (p := ⟨w.heap.size + 1, 0, none⟩) (by simp) _, blk_set h.er 0 _, blk_far h.f (p := ⟨w.heap.size + 1, 0, none⟩) (by simp) _⟩
set_option maxHeartbeats 4000000 in
theorem door_ret {l : List Int} {w W : World} {F i0 i1 i2 : Value} {tmps : Array Value} (hS : RS w F i0 i1 i2 W) (hP : ReadPost l w (.returned (.tuple #[.agg #[i0, i1, i2], .nilIface])) W)
 (h2 : tmps[2]? = some (.pointer (some ⟨w.heap.size, 0, none⟩))) (h3 : tmps[3]? = some (.pointer (some ⟨w.heap.size + 1, 0, none⟩))) :
 bodyPostD Tryz.prog Tryz.f11 (ReadPost l w) .ret { tmps := tmps, defers := [{ target := .fn (.func 23) #[.pointer (some ⟨w.heap.size, 0, none⟩), .pointer (some ⟨w.heap.size + 1, 0, none⟩)], args := #[] }] } W := by
 refine leaves_cons (f := 23) (args := #[.pointer (some ⟨w.heap.size, 0, none⟩), .pointer (some ⟨w.heap.size + 1, 0, none⟩)]) (by simp) (by simp [go_sem]) ?_
 refine (catch_idle w.heap.size (w.heap.size + 1) W).mono ?_
 rintro e u' w2 ⟨rfl, rfl, rfl⟩
 have d0 := kCe hS.im 0
 have d1 := kCe hS.im 1
 have d2 := kCe hS.im 2
 have d3 := kCe hS.er 0
 simp [Leaves, settle, results, Tryz.results11, go_sem, h2, h3, d0, d1, d2, d3]
 exact hP
set_option maxHeartbeats 16000000 in
set_option maxRecDepth 1000000 in
theorem read_c (l : List Int) (A : Option Addr) (c : Nat) (h : Bytes l) (hl : l.length ≤ 1099511627776) (hc : l.length ≤ c) (w : World) (hC : Kd.C (Kd.int .u8) w A l.length l) (hG : Glob w) (hE : ErrT w) :
 Calls Tryz.prog 11 #[.slice A l.length c] w (ReadPost l w) := by
 by_cases hlong : 200000 < l.length
 ·exact read_long l A c h hl hc w hC hG hE hlong
 have hmf : ∀ (fn : Fn) (first cap : Array Value) (w : World), (Instr.makeFunc fn first cap).run Tryz.prog w = .ok (.func fn first cap) w := fun _ _ _ _ => rfl
 have hdl : decide ((l.length : Int) ≤ 200000) = true := decide_eq_true (by omega)
 have HC := Lib.hid hC
 have HE := Lib.hid hE
 have HG := Lib.hid hG
 have HB := Lib.hid h
 have HS := Lib.hid (RS.start w (.slice A l.length c))
 have hfc := (Lib.hid HS.out.cell).out
 obtain ⟨r, hr⟩ : ∃ r, readS l = r := ⟨_, rfl⟩
 have hX := hr
 rw [readS, chk_ok hdl] at hX
 cases hh : headS l with
 | error e =>
  obtain ⟨e1, e2⟩ := e
  rw [hh] at hX
  have HX : Hid (readS l = .error (e1, e2)) := Lib.hid (hr.trans hX.symm)
  have CE := Lib.hid (fun W hC => Out.err (head_c l A c h hl hc W hC) hh)
  clear hC hE hG h hlong hr hX hh
  go_enter_defers Tryz.func11, Tryz.ntmps11
  go_wp2_with (first | (go_at_call 25; refine (must_ok _ _ _).mono ?_; rintro e w' ⟨rfl, rfl⟩) | (go_at_call 26; refine (CE.out _ (Kd.C_below HC.out HS.out.below)).mono ?_; rintro e w' ⟨a, he, hcell, hle, hd⟩; subst he; exact door HS.out hd hcell hle HE.out HX.out rfl rfl))
 | ok u =>
  obtain ⟨h64, hn56, hroom, hev⟩ := head_gives (show headS l = .ok () from hh)
  obtain ⟨hrm1, hrm2⟩ := room_le hroom
  have hlen : (64 : Int) ≤ (l.length : Int) := by omega
  have CH := Lib.hid (fun W hC => Out.okk (head_c l A c h hl hc W hC) hh)
  rw [hh, andThen_ok] at hX
  clear hh
  cases hp : partsS l (rdN l 32 8) (rdN l 56 2).toNat 0 [] with
  | error e =>
   obtain ⟨e1, e2⟩ := e
   rw [hp] at hX
   have HX : Hid (readS l = .error (e1, e2)) := Lib.hid (hr.trans hX.symm)
   have CE := Lib.hid (fun W hC => Out.err (parts_c l A c h hl hc h64 hn56 hrm2 W hC) hp)
   clear hC hE hG h hlong hr hX hp hev hroom
   go_enter_defers Tryz.func11, Tryz.ntmps11
   go_upto_region 6 with (first | (go_at_call 25; refine (must_ok _ _ _).mono ?_; rintro e w' ⟨rfl, rfl⟩) | (go_at_call 26; refine (CH.out _ (Kd.C_below HC.out HS.out.below)).mono ?_; rintro e w' ⟨v, he, hv, hd⟩; subst hv; subst he; have hS2 := HS.out.step hd; clear HS hfc hd; have HS := Lib.hid hS2; have hfc := (Lib.hid HS.out.cell).out; clear hS2) | (go_at_call 27; refine (double_i HB.out hl hc _ (by omega) (by omega) _ (Kd.C_below HC.out HS.out.below)).mono ?_; rintro e w' ⟨he, ⟨hv0, hv1⟩, hd⟩; subst he; have hS2 := HS.out.step hd; clear HS hfc hd; have HS := Lib.hid hS2; have hfc := (Lib.hid HS.out.cell).out; clear hS2; have hi0 := kCe HS.out.im 0; have hz0 := kFr HS.out.im 0))
   have hS0 := HS.out.set0 (.int .u64 (rdN l 24 8)); clear HS hfc hi0 hz0; obtain ⟨W2, hW2⟩ : ∃ W2, w'.setCell ⟨w.heap.size, 0, none⟩ (.int .u64 (rdN l 24 8)) = W2 := ⟨_, rfl⟩; rw [hW2] at hS0 ⊢; clear hW2; have HS := Lib.hid hS0; have hfc := (Lib.hid HS.out.cell).out; clear hS0
   go_wp2_with (first | (go_at_call 28; refine (CE.out _ (Kd.C_below HC.out HS.out.below)).mono ?_; rintro e w' ⟨a, he, hcell, hle, hd⟩; subst he; exact door HS.out hd hcell hle HE.out HX.out rfl rfl))
  | ok segs =>
   rw [hp, andThen_ok] at hX
   have CP := Lib.hid (fun W hC => Out.okk (parts_c l A c h hl hc h64 hn56 hrm2 W hC) hp)
   clear hp
   cases hnm : namesS l with
   | error e =>
    obtain ⟨e1, e2⟩ := e
    rw [hnm] at hX
    have HX : Hid (readS l = .error (e1, e2)) := Lib.hid (hr.trans hX.symm)
    have CE := Lib.hid (fun W hC hG => Out.err (names_c l A c h hl hc h64 W hC hG) hnm)
    clear hC hE hG h hlong hr hX hnm hev hroom
    go_enter_defers Tryz.func11, Tryz.ntmps11
    go_upto_region 6 with (first | (go_at_call 25; refine (must_ok _ _ _).mono ?_; rintro e w' ⟨rfl, rfl⟩) | (go_at_call 26; refine (CH.out _ (Kd.C_below HC.out HS.out.below)).mono ?_; rintro e w' ⟨v, he, hv, hd⟩; subst hv; subst he; have hS2 := HS.out.step hd; clear HS hfc hd; have HS := Lib.hid hS2; have hfc := (Lib.hid HS.out.cell).out; clear hS2) | (go_at_call 27; refine (double_i HB.out hl hc _ (by omega) (by omega) _ (Kd.C_below HC.out HS.out.below)).mono ?_; rintro e w' ⟨he, ⟨hv0, hv1⟩, hd⟩; subst he; have hS2 := HS.out.step hd; clear HS hfc hd; have HS := Lib.hid hS2; have hfc := (Lib.hid HS.out.cell).out; clear hS2; have hi0 := kCe HS.out.im 0; have hz0 := kFr HS.out.im 0))
    have hS0 := HS.out.set0 (.int .u64 (rdN l 24 8)); clear HS hfc hi0 hz0; obtain ⟨W2, hW2⟩ : ∃ W2, w'.setCell ⟨w.heap.size, 0, none⟩ (.int .u64 (rdN l 24 8)) = W2 := ⟨_, rfl⟩; rw [hW2] at hS0 ⊢; clear hW2; have HS := Lib.hid hS0; have hfc := (Lib.hid HS.out.cell).out; clear hS0
    go_upto_region 7 with (first | (go_at_call 28; refine (CP.out _ (Kd.C_below HC.out HS.out.below)).mono ?_; rintro e w' ⟨v, he, ⟨ps, qs, hq, hpm, hso, hpo⟩, hd⟩; subst he; obtain ⟨A1, c1, e1⟩ := hpo.slice; subst e1; have HP := Lib.hid (And.intro hq (And.intro hpm (And.intro hso hpo))); have HSZ := Lib.hid (blk_lt HS.out.f); clear hq hpm hso hpo; have hS2 := HS.out.step hd; clear HS hfc hd; have HS := Lib.hid hS2; have hfc := (Lib.hid HS.out.cell).out; clear hS2; have hi0 := kCe HS.out.im 1; have hz0 := kFr HS.out.im 1))
    have hS0 := HS.out.set1 (.slice A1 ps.length c1); have hP0 := HP.out.2.2.2.set (p := ⟨w.heap.size, 1, none⟩) (by have := HSZ.out; show w.heap.size < _; omega) (.slice A1 ps.length c1); clear HS hfc hi0 hz0; obtain ⟨W3, hW3⟩ : ∃ W3, w'.setCell ⟨w.heap.size, 1, none⟩ (.slice A1 ps.length c1) = W3 := ⟨_, rfl⟩; rw [hW3] at hS0 hP0 ⊢; clear hW3; have HS := Lib.hid hS0; have hPQ := HP.out; have HP := Lib.hid (And.intro hPQ.1 (And.intro hPQ.2.1 (And.intro hPQ.2.2.1 (hP0.lower (base' := w.heap.size + 1 + 1) (Nat.le_of_lt HSZ.out))))); have hfc := (Lib.hid HS.out.cell).out; clear hS0 hP0 hPQ HSZ
    go_wp2_with (first | (go_at_call 29; refine (CE.out _ (Kd.C_below HC.out HS.out.below) (Glob.step HG.out HS.out.below)).mono ?_; rintro e w' ⟨a, he, hcell, hle, hd⟩; subst he; exact door HS.out hd hcell hle HE.out HX.out rfl rfl))
   | ok syms =>
    rw [hnm, andThen_ok] at hX
    have HX : Hid (readS l = .ok (rdN l 24 8, segs, syms)) := Lib.hid (hr.trans hX.symm)
    have CN := Lib.hid (fun W hC hG => Out.okk (names_c l A c h hl hc h64 W hC hG) hnm)
    clear hC hE hG h hlong hr hX hnm hev hroom
    go_enter_defers Tryz.func11, Tryz.ntmps11
    go_upto_region 6 with (first | (go_at_call 25; refine (must_ok _ _ _).mono ?_; rintro e w' ⟨rfl, rfl⟩) | (go_at_call 26; refine (CH.out _ (Kd.C_below HC.out HS.out.below)).mono ?_; rintro e w' ⟨v, he, hv, hd⟩; subst hv; subst he; have hS2 := HS.out.step hd; clear HS hfc hd; have HS := Lib.hid hS2; have hfc := (Lib.hid HS.out.cell).out; clear hS2) | (go_at_call 27; refine (double_i HB.out hl hc _ (by omega) (by omega) _ (Kd.C_below HC.out HS.out.below)).mono ?_; rintro e w' ⟨he, ⟨hv0, hv1⟩, hd⟩; subst he; have hS2 := HS.out.step hd; clear HS hfc hd; have HS := Lib.hid hS2; have hfc := (Lib.hid HS.out.cell).out; clear hS2; have hi0 := kCe HS.out.im 0; have hz0 := kFr HS.out.im 0))
    have hS0 := HS.out.set0 (.int .u64 (rdN l 24 8)); clear HS hfc hi0 hz0; obtain ⟨W2, hW2⟩ : ∃ W2, w'.setCell ⟨w.heap.size, 0, none⟩ (.int .u64 (rdN l 24 8)) = W2 := ⟨_, rfl⟩; rw [hW2] at hS0 ⊢; clear hW2; have HS := Lib.hid hS0; have hfc := (Lib.hid HS.out.cell).out; clear hS0
    go_upto_region 7 with (first | (go_at_call 28; refine (CP.out _ (Kd.C_below HC.out HS.out.below)).mono ?_; rintro e w' ⟨v, he, ⟨ps, qs, hq, hpm, hso, hpo⟩, hd⟩; subst he; obtain ⟨A1, c1, e1⟩ := hpo.slice; subst e1; have HP := Lib.hid (And.intro hq (And.intro hpm (And.intro hso hpo))); have HSZ := Lib.hid (blk_lt HS.out.f); clear hq hpm hso hpo; have hS2 := HS.out.step hd; clear HS hfc hd; have HS := Lib.hid hS2; have hfc := (Lib.hid HS.out.cell).out; clear hS2; have hi0 := kCe HS.out.im 1; have hz0 := kFr HS.out.im 1))
    have hS0 := HS.out.set1 (.slice A1 ps.length c1); have hP0 := HP.out.2.2.2.set (p := ⟨w.heap.size, 1, none⟩) (by have := HSZ.out; show w.heap.size < _; omega) (.slice A1 ps.length c1); clear HS hfc hi0 hz0; obtain ⟨W3, hW3⟩ : ∃ W3, w'.setCell ⟨w.heap.size, 1, none⟩ (.slice A1 ps.length c1) = W3 := ⟨_, rfl⟩; rw [hW3] at hS0 hP0 ⊢; clear hW3; have HS := Lib.hid hS0; have hPQ := HP.out; have HP := Lib.hid (And.intro hPQ.1 (And.intro hPQ.2.1 (And.intro hPQ.2.2.1 (hP0.lower (base' := w.heap.size + 1 + 1) (Nat.le_of_lt HSZ.out))))); have hfc := (Lib.hid HS.out.cell).out; clear hS0 hP0 hPQ HSZ
    go_upto_region 8 with (first | (go_at_call 29; refine (CN.out _ (Kd.C_below HC.out HS.out.below) (Glob.step HG.out HS.out.below)).mono ?_; rintro e w' ⟨v, he, ⟨ys, hpm, hso, hpo⟩, hd⟩; subst he; obtain ⟨A2, c2, e2⟩ := own_slice hpo; subst e2; have HY := Lib.hid (And.intro hpm (And.intro hso hpo)); have HSZ := Lib.hid (blk_lt HS.out.f); have HP2 := Lib.hid (HP.out.2.2.2.below hd); clear hpm hso hpo; have hS2 := HS.out.step hd; clear HS hfc hd; have HS := Lib.hid hS2; have hfc := (Lib.hid HS.out.cell).out; clear hS2; have hi0 := kCe HS.out.im 2; have hz0 := kFr HS.out.im 2))
    have hS0 := HS.out.set2 (.slice A2 ys.length c2); have hP0 := HP2.out.set (p := ⟨w.heap.size, 2, none⟩) (by show w.heap.size < _; omega) (.slice A2 ys.length c2); have hY0 := own_set HY.out.2.2 (p := ⟨w.heap.size, 2, none⟩) (by have := HSZ.out; show w.heap.size < _; omega) (.slice A2 ys.length c2); clear HS hfc hi0 hz0; obtain ⟨W4, hW4⟩ : ∃ W4, w'.setCell ⟨w.heap.size, 2, none⟩ (.slice A2 ys.length c2) = W4 := ⟨_, rfl⟩; rw [hW4] at hS0 hP0 hY0 ⊢; clear hW4; have HS := Lib.hid hS0; have HP3 := Lib.hid hP0; have HY3 := Lib.hid (own_weaken hY0 (base' := w.heap.size + 1 + 1) (Nat.le_of_lt HSZ.out)); clear hS0 hP0 hY0 HP2
    have g0 := kCe HS.out.im 0
    have g1 := kCe HS.out.im 1
    have g2 := kCe HS.out.im 2
    have g3 := kCe HS.out.er 0
    have z0 := kFr HS.out.im 0
    have z1 := kFr HS.out.im 1
    have z2 := kFr HS.out.im 2
    have z3 := kFr HS.out.er 0
    simp only [List.getElem?_toArray, List.getElem?_cons_zero, List.getElem?_cons_succ] at g0 g1 g2 g3
    go_wp2
    have HSF := (((HS.out.set0 (.int .u64 (rdN l 24 8))).set1 (.slice A1 ps.length c1)).set2 (.slice A2 ys.length c2)).setE
    refine door_ret HSF ?_ rfl rfl
    have hb0 : (⟨w.heap.size, 0, none⟩ : Addr).block < w.heap.size + 1 + 1 := by show w.heap.size < _; omega
    have hb1 : (⟨w.heap.size, 1, none⟩ : Addr).block < w.heap.size + 1 + 1 := by show w.heap.size < _; omega
    have hb2 : (⟨w.heap.size, 2, none⟩ : Addr).block < w.heap.size + 1 + 1 := by show w.heap.size < _; omega
    have hb3 : (⟨w.heap.size + 1, 0, none⟩ : Addr).block < w.heap.size + 1 + 1 := by show w.heap.size + 1 < _; omega
    have hle : w.heap.size ≤ w.heap.size + 1 + 1 := by omega
    exact .inl ⟨_, segs, syms, _, _, ps, qs, ys, HX.out, rfl, HP.out.1, HP.out.2.1, HP.out.2.2.1, ((((HP3.out.set hb0 _).set hb1 _).set hb2 _).set hb3 _).lower hle, HY.out.1, HY.out.2.1,
     own_weaken (own_set (own_set (own_set (own_set HY3.out hb0 _) hb1 _) hb2 _) hb3 _) hle, HSF.below⟩
end Go.Proofs.YtbnlifldnjgpmaaGreatDoor.PWri
/- The document's reader, by its mirror: what it answers. -/
set_option linter.unusedVariables false
set_option linter.unusedSimpArgs false
namespace Go.Proofs.YtbnlifldnjgpmaaGreatDoor.PWri
open Go.RowKit Go.Lib Go.Proofs.YtbnlifldnjgpmaaGreatDoorW.PrintWords Go.Proofs.YtbnlifldnjgpmaaGreatDoorW.PrintLast
theorem andThen_err {α β : Type} {x : Res α} {f : α → Res β} {e : Int × Int} (h : andThen x f = .error e) : x = .error e ∨ ∃ a, x = .ok a ∧ f a = .error e := by
 cases x with
 | error e' =>
  injection h with h
  exact .inl (by rw [h])
 | ok a => exact .inr ⟨a, rfl, h⟩
theorem andThen_yes {α β : Type} {x : Res α} {f : α → Res β} {b : β} (h : andThen x f = .ok b) : ∃ a, x = .ok a ∧ f a = .ok b := by
 cases x with
 | error e' => cases h
 | ok a => exact ⟨a, rfl, h⟩
theorem chk_yes {α : Type} {b : Bool} {a w : Int} {k : Res α} {r : α} (h : chk b a w k = .ok r) : b = true ∧ k = .ok r := by
 cases b with
 | true => exact ⟨rfl, h⟩
 | false => cases h
theorem why_ne {e : Int × Int} {a w : Int} (h1 : e = (a, w)) (h2 : w ≠ 0) : e.2 ≠ 0 := by rw [h1]; exact h2
theorem head_why {l : List Int} {e : Int × Int} (h : headS l = .error e) : e.2 ≠ 0 := by
 have R : headR1 l = .error e → e.2 ≠ 0 := fun h => by
  unfold headR1 headR2 headR3 at h
  rcases chk_err h with h | h
  ·exact why_ne h (by decide)
  rcases chk_err h with h | h
  ·exact why_ne h (by decide)
  rcases chk_err h with h | h
  ·exact why_ne h (by decide)
  rcases chk_err h with h | h
  ·exact why_ne h (by decide)
  rcases chk_err h with h | h
  ·exact why_ne h (by decide)
  rcases chk_err h with h | h
  ·exact why_ne h (by decide)
  rcases chk_err h with h | h
  ·exact why_ne h (by decide)
  rcases chk_err h with h | h
  ·exact why_ne h (by decide)
  rcases chk_err h with h | h
  ·exact why_ne h (by decide)
  rcases chk_err h with h | h
  ·exact why_ne h (by decide)
  cases h
 have M : ∀ (m : List Int) (i : Nat), magicS l i m (headR1 l) = .error e → e.2 ≠ 0 := by
  intro m
  induction m with
  | nil => exact fun i h => R h
  | cons c m ih =>
   intro i h
   rw [magicS] at h
   rcases chk_err h with h | h
   ·exact why_ne h (by decide)
   rcases chk_err h with h | h
   ·exact why_ne h (by decide)
   exact ih _ h
 exact M _ _ h
theorem parts_why {l : List Int} {h0 : Int} {e : Int × Int} : ∀ (m : Nat) (i : Int) (out : List S55), partsS l h0 m i out = .error e → e.2 ≠ 0
 | 0, i, out, h => by cases h
 | m + 1, i, out, h => by
  rw [partsS] at h
  rcases andThen_err h with h | ⟨_, _, h⟩
  ·unfold partS at h
   split at h
   ·cases h
   unfold segS at h
   rcases chk_err h with h | h
   ·exact why_ne h (by decide)
   rcases chk_err h with h | h
   ·exact why_ne h (by decide)
   rcases chk_err h with h | h
   ·exact why_ne h (by decide)
   rcases chk_err h with h | h
   ·exact why_ne h (by decide)
   rcases chk_err h with h | h
   ·exact why_ne h (by decide)
   cases h
  ·exact parts_why m _ _ h
theorem syms_why {l t : List Int} {f : Int} {e : Int × Int} : ∀ (m : Nat) (i : Int) (out : List S82), symsS l t f m i out = .error e → e.2 ≠ 0
 | 0, i, out, h => by cases h
 | m + 1, i, out, h => by
  rw [symsS] at h
  rcases andThen_err h with h | ⟨_, _, h⟩
  ·unfold symS at h
   rcases chk_err h with h | h
   ·exact why_ne h (by decide)
   split at h
   ·injection h with h
    exact why_ne h.symm (by decide)
   split at h
   ·cases h
   rcases chk_err h with h | h
   ·exact why_ne h (by decide)
   cases h
  ·exact syms_why m _ _ h
theorem names_why {l : List Int} {e : Int × Int} (h : namesS l = .error e) : e.2 ≠ 0 := by
 rw [names_tab] at h
 rcases andThen_err h with h | ⟨o, _, h⟩
 ·exact tab_why h
 cases o with
 | none => cases h
 | some q => exact syms_why _ _ _ h
/-- No two parts begin at one address. -/
def apartL (out : List S55) : Prop := out.Pairwise (fun s t => s.f0 ≠ t.f0) ∧ ∀ s ∈ out, fitsB s.f0 s.f1 = true
theorem parts_apart {l : List Int} {h0 : Int} {r : List S55} : ∀ (m : Nat) (i : Int) (out : List S55), partsS l h0 m i out = .ok r → apartL out → apartL r ∧ r.length ≤ out.length + m
 | 0, i, out, h, ha => by
  injection h with h
  subst h
  exact ⟨ha, Nat.le_refl _⟩
 | m + 1, i, out, h, ha => by
  rw [partsS] at h
  obtain ⟨o, h1, h2⟩ := andThen_yes h
  have key : apartL o ∧ o.length ≤ out.length + 1 := by
   unfold partS at h1
   split at h1
   ·injection h1 with h1
    subst h1
    exact ⟨ha, Nat.le_succ _⟩
   unfold segS at h1
   obtain ⟨_, h1⟩ := chk_yes h1
   obtain ⟨_, h1⟩ := chk_yes h1
   obtain ⟨_, h1⟩ := chk_yes h1
   obtain ⟨c1, h1⟩ := chk_yes h1
   obtain ⟨c2, h1⟩ := chk_yes h1
   injection h1 with h1
   subst h1
   refine ⟨⟨?_, ?_⟩, by rw [List.length_append]; exact Nat.le_refl _⟩
   ·refine List.pairwise_append.2 ⟨ha.1, List.pairwise_singleton _ _, fun s hs t ht => ?_⟩
    rw [List.mem_singleton] at ht
    subst ht
    show s.f0 ≠ rdN l (h0 + 56 * i + 24) 8
    intro e
    have c3 := List.all_eq_true.1 c2 s hs
    have c4 := of_decide_eq_true (ha.2 s hs)
    have c5 := of_decide_eq_true c1
    unfold apartB at c3
    rw [Bool.or_eq_true, decide_eq_true_eq, decide_eq_true_eq] at c3
    omega
   ·intro s hs
    rcases List.mem_append.1 hs with hs | hs
    ·exact ha.2 s hs
    ·rw [List.mem_singleton] at hs
     subst hs
     exact c1
  have := parts_apart m _ _ h2 key.1
  exact ⟨this.1, by omega⟩
theorem syms_len {l t : List Int} {f : Int} {r : List S82} : ∀ (m : Nat) (i : Int) (out : List S82), symsS l t f m i out = .ok r → out.length ≤ 400 → r.length ≤ 400
 | 0, i, out, h, ha => by
  injection h with h
  subst h
  exact ha
 | m + 1, i, out, h, ha => by
  rw [symsS] at h
  obtain ⟨o, h1, h2⟩ := andThen_yes h
  refine syms_len m _ _ h2 ?_
  unfold symS at h1
  obtain ⟨_, h1⟩ := chk_yes h1
  split at h1
  ·cases h1
  split at h1
  ·injection h1 with h1
   subst h1
   exact ha
  ·obtain ⟨c, h1⟩ := chk_yes h1
   injection h1 with h1
   subst h1
   have := of_decide_eq_true c
   rw [List.length_append]
   show out.length + 1 ≤ 400
   omega
theorem names_len {l : List Int} {r : List S82} (h : namesS l = .ok r) : r.length ≤ 400 := by
 rw [names_tab] at h
 obtain ⟨o, _, h⟩ := andThen_yes h
 cases o with
 | none =>
  injection h with h
  subst h
  exact Nat.zero_le _
 | some q => exact syms_len _ _ _ h (Nat.zero_le _)
section
variable {l : List Int} (h : Bytes l) (hl : l.length ≤ 1099511627776)
include h hl
theorem readf_err {at_ why : Int} (hr : readS l = .error (at_, why)) : Ev (fun k => anvilref02_Read.f k l) (0, [], [], 0, at_, why) := by
 unfold readS at hr
 by_cases c1 : (l.length : Int) > 200000
 ·rw [chk_no (decide_eq_false (by omega))] at hr
  injection hr with hr
  injection hr with e1 e2
  subst e1 e2
  exact Ev.ifp c1 (Ev.now _)
 rw [chk_ok (decide_eq_true (by omega))] at hr
 refine Ev.ifn c1 ?_
 refine Ev.bind (head_ev h hl) ?_
 rcases andThen_err hr with hr | ⟨⟨⟩, hh, hr⟩
 ·have hw := head_why hr
  rw [hr]
  exact Ev.ifn hw (Ev.now _)
 rw [hh]
 obtain ⟨g1, g2, g3, g4⟩ := head_gives hh
 have g5 := (room_le g3).2
 refine Ev.ifp rfl ?_
 refine Ev.bind (program_ev h hl g1 g2 g5) ?_
 rcases andThen_err hr with hr | ⟨segs, hp, hr⟩
 ·have hw := parts_why _ _ _ hr
  rw [hr]
  exact Ev.ifn hw (Ev.now _)
 rw [hp]
 refine Ev.ifp rfl ?_
 refine Ev.bind (names_ev h hl g1) ?_
 rcases andThen_err hr with hr | ⟨syms, hp, hr⟩
 ·have hw := names_why hr
  rw [hr]
  exact Ev.ifn hw (Ev.now _)
 ·cases hr
theorem readf_ok {en : Int} {segs ss : List S55} {syms ys : List S82} (hr : readS l = .ok (en, segs, syms)) (p1 : ss.Perm segs) (s1 : ss.Pairwise fun p q => p.f0 ≤ q.f0) (p2 : ys.Perm syms) (s2 : srtY ys) : Ev (fun k => anvilref02_Read.f k l) (en, ss, ys, 0, 0, 0) := by
 unfold readS at hr
 obtain ⟨c1, hr⟩ := chk_yes hr
 have c1 := of_decide_eq_true c1
 refine Ev.ifn (by omega) ?_
 refine Ev.bind (head_ev h hl) ?_
 obtain ⟨⟨⟩, hh, hr⟩ := andThen_yes hr
 rw [hh]
 obtain ⟨g1, g2, g3, g4⟩ := head_gives hh
 have g5 := (room_le g3).2
 refine Ev.ifp rfl ?_
 refine Ev.bind (program_ev h hl g1 g2 g5) ?_
 obtain ⟨segs', hp, hr⟩ := andThen_yes hr
 rw [hp]
 refine Ev.ifp rfl ?_
 refine Ev.bind (names_ev h hl g1) ?_
 obtain ⟨syms', hn, hr⟩ := andThen_yes hr
 rw [hn]
 refine Ev.ifp rfl ?_
 injection hr with hr
 injection hr with e1 hr
 injection hr with e2 e3
 subst e1 e2 e3
 refine Ev.bind (value_i h hl 24 8 (by decide) (by decide) (by omega)) ?_
 obtain ⟨⟨a1, _⟩, a2⟩ := parts_apart _ _ _ hp ⟨.nil, fun s hs => by cases hs⟩
 have a3 := names_len hn
 have a4 : (ss.Pairwise fun p q => p.f0 < q.f0) := (s1.and (p1.symm.pairwise a1 (fun e => e.symm))).imp (fun h => by omega)
 have b56 := rd2 h 56
 rw [List.length_nil] at a2
 have a5 : segs'.length < 1099511627776 := by omega
 have a6 : syms'.length < 1099511627776 := by omega
 refine Ev.bind (rising_ev segs' ss p1 a4 a5) ?_
 refine Ev.bind (sorted_ev syms' ys p2 s2 a6) ?_
 exact Ev.now _
end
end Go.Proofs.YtbnlifldnjgpmaaGreatDoor.PWri
