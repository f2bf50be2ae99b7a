/- ImageBack walked: an image that Check takes is written and read again as it was; one that it does not take is not written. -/
import Derived.Test.YtbnlifldnjgpmaaGreatDoorBGr5
set_option linter.unusedVariables false
set_option linter.unusedSimpArgs false
namespace Go.Proofs.YtbnlifldnjgpmaaGreatDoor.PWri
open Go.RowKit Go.Lib Go.Proofs.YtbnlifldnjgpmaaGreatDoorW.PrintWords Go.Proofs.YtbnlifldnjgpmaaGreatDoorW.PrintLast
set_option maxHeartbeats 16000000 in
set_option maxRecDepth 1000000 in
theorem imageBack_c {e : Int} {l1 : List Seg} {l2 : List Sym} {A1 A2 : Option Addr} {c1 c2 : Nat} (H : Small l1 l2) (N : NumsL e l1 l2) (hB : ∀ s ∈ l1, Bytes s.f3) (w : World) (hr1 : Kd.C k55 w A1 l1.length l1) (hc1 : l1.length ≤ c1) (hr2 : Kd.C k82 w A2 l2.length l2) (hc2 : l2.length ≤ c2) (hG : Glob w) (hE : ErrT w) :
 Calls Tryz.prog 4 #[ImgV e A1 l1.length c1 A2 l2.length c2] w fun en w' => en = .returned (.bool true) ∧ Below w.heap.size w w' := by
 have CC := Lib.hid (fun A1 c1 A2 c2 w hr1 hc1 hr2 hc2 hG => check_law (e := e) (l1 := l1) (l2 := l2) (A1 := A1) (A2 := A2) (c1 := c1) (c2 := c2) H N.en.1 w hr1 hc1 hr2 hc2 hG)
 have CW := Lib.hid (fun A1 c1 A2 c2 w hr1 hc1 hr2 hc2 hG => write_law (e := e) (l1 := l1) (l2 := l2) (A1 := A1) (A2 := A2) (c1 := c1) (c2 := c2) H N.en.1 w hr1 hc1 hr2 hc2 hG)
 have HS := Lib.hid (((still0 w hG hE).and (still_C ⟨hr1, hc1⟩)).and (still_C ⟨hr2, hc2⟩))
 have HL2 := Lib.hid H.lsyms
 by_cases hch : checkS e l1 l2 = 0
 ·obtain ⟨G, hz⟩ := (check_good N).1 hch
  have hlen := (file_shows (e := e) hz).1
  obtain ⟨F, hF⟩ : ∃ F, fileB e l1 l2 = F := ⟨_, rfl⟩
  have hFB : Bytes F := hF ▸ fileB_bytes hB
  have hFR : readS F = .ok (e, l1, l2) := hF ▸ file_back G hz
  rw [hF] at hlen
  have CR := Lib.hid (fun A c (hc : F.length ≤ c) w hC hG hE => read_yes (A := A) (c := c) hFB (by omega) hc G hFR w hC hG hE)
  have hdl : decide ((F.length : Int) ≤ 200000) = true := decide_eq_true (by omega)
  rw [file_yes hch, hch, hF] at CW
  rw [hch] at CC
  clear hG hE hr1 hc1 hr2 hc2 hch hF hFB hFR hz hlen
  go_enter Tryz.func4, Tryz.ntmps4
  go_upto_region 1 with fail
  have hS2 := (HS.out.alloc (.cells #[.int .u64 e, .slice A1 l1.length c1, .slice A2 l2.length c2] 28)).and (still_box w _)
  clear HS; have HS := Lib.hid hS2; clear hS2
  go_upto_region 3 with (first | (go_at_call 17; refine (first_c _ HS.out.now.1.1.1.glob HS.out.now.1.1.1.errT).mono ?_; rintro e w' ⟨he, hd⟩; subst he; have hS2 := HS.out.step hd; clear HS hd; have HS := Lib.hid hS2; clear hS2))
  have g0 := kCe HS.out.now.2 0; have g1 := kCe HS.out.now.2 1; have g2 := kCe HS.out.now.2 2
  go_upto_region 4 with (first
   | (go_at_call 19; refine (twin_law H _ HS.out.now.1.1.2.1 HS.out.now.1.1.2.2 HS.out.now.1.2.1 HS.out.now.1.2.2).mono ?_; rintro e w' ⟨B1, d1, B2, d2, he, ha, hb, hd⟩; subst he; have hS2 := ((HS.out.step hd).and (still_C ha)).and (still_C hb); clear HS ha hb hd; have HS := Lib.hid hS2; clear hS2)
   | (go_at_call 18; refine (CC.out B1 d1 B2 d2 _ HS.out.now.1.2.1 HS.out.now.1.2.2 HS.out.now.2.1 HS.out.now.2.2 HS.out.now.1.1.1.1.1.glob).mono ?_; rintro e w' ⟨he, hd⟩; subst he; have hS2 := HS.out.step hd; clear HS hd; have HS := Lib.hid hS2; clear hS2))
  have hS2 := HS.out.imp (fun W' h => h.1.1)
  clear HS; have HS := Lib.hid hS2; clear hS2
  clear g0 g1 g2
  have g0 := kCe HS.out.now.2 0; have g1 := kCe HS.out.now.2 1; have g2 := kCe HS.out.now.2 2
  go_upto_region 5 with (first
   | (go_at_call 19; refine (twin_law H _ HS.out.now.1.1.2.1 HS.out.now.1.1.2.2 HS.out.now.1.2.1 HS.out.now.1.2.2).mono ?_; rintro e w' ⟨B1, d1, B2, d2, he, ha, hb, hd⟩; subst he; have hS2 := ((HS.out.step hd).and (still_C ha)).and (still_C hb); clear HS ha hb hd; have HS := Lib.hid hS2; clear hS2)
   | (go_at_call 20; refine (CW.out B1 d1 B2 d2 _ HS.out.now.1.2.1 HS.out.now.1.2.2 HS.out.now.2.1 HS.out.now.2.2 HS.out.now.1.1.1.1.1.glob).mono ?_; rintro e w' ⟨A, n, he, hR, hd⟩; subst he; have hS2 := ((HS.out.step hd).imp (fun W' h => h.1.1)).and (still_R hR); clear HS hR hd; have HS := Lib.hid hS2; clear hS2))
  clear g0 g1 g2
  go_upto_region 8 with (first
   | (go_at_call 14; refine (anvillaw02_num.calls _ _ _ rfl).mono ?_; rintro e w' ⟨he, hdd⟩; subst he; have hd := hdd.below; clear hdd; have hS2 := HS.out.step hd; clear HS hd; have HS := Lib.hid hS2; clear hS2)
   | (go_at_call 11; refine (CR.out A n (R_as HS.out.now.2 rfl rfl).1 _ (R_as HS.out.now.2 rfl rfl).2 HS.out.now.1.1.1.1.glob HS.out.now.1.1.1.1.errT).mono ?_; rintro e w3 ⟨D1, f1, D2, f2, he, ho, hd⟩; subst he; have hS2 := (HS.out.step hd).and (still_own ho); clear HS ho hd; have HS := Lib.hid hS2; clear hS2))
  have hS2 := (HS.out.alloc (.cells #[.int .u64 e, .slice D1 l1.length f1, .slice D2 l2.length f2] 28)).and (still_box w3 _)
  clear HS; have HS := Lib.hid hS2; clear hS2
  go_wp2_with (first
   | ((go_at_call 14; refine (anvillaw02_num.calls _ _ _ rfl).mono ?_; rintro e w' ⟨he, hdd⟩; subst he; have hd := hdd.below; clear hdd; have hS2 := HS.out.step hd; clear HS hd; have HS := Lib.hid hS2; clear hS2); have k0 := kCe HS.out.now.2 0; have k1 := kCe HS.out.now.2 1; have k2 := kCe HS.out.now.2 2; have g0 := kCe HS.out.now.1.1.1.2 0; have g1 := kCe HS.out.now.1.1.1.2 1; have g2 := kCe HS.out.now.1.1.1.2 2)
   | (go_at_call 16; refine (alike_two HL2.out _ HS.out.now.1.2.c1 HS.out.now.1.2.c2 HS.out.now.1.1.1.1.1.2 HS.out.now.1.1.1.1.2).mono ?_; rintro e w' ⟨he, hd⟩; subst he; have hS2 := HS.out.step hd; clear HS hd; have HS := Lib.hid hS2; clear hS2))
  go_ret
  exact ⟨rfl, HS.out.now.1.1.1.1.1.1.below⟩
 ·obtain ⟨cz, hcz⟩ : ∃ cz, checkS e l1 l2 = cz := ⟨_, rfl⟩
  rw [file_no hch, hcz] at CW
  rw [hcz] at CC hch
  have hb1 : (cz != 0) = true := bne_iff_ne.mpr hch
  have hb2 : (cz == 0) = false := beq_eq_false_iff_ne.mpr hch
  simp only [List.length_nil] at CW
  clear hG hE hr1 hc1 hr2 hc2 hch hcz
  go_enter Tryz.func4, Tryz.ntmps4
  go_upto_region 1 with fail
  have hS2 := (HS.out.alloc (.cells #[.int .u64 e, .slice A1 l1.length c1, .slice A2 l2.length c2] 28)).and (still_box w _)
  clear HS; have HS := Lib.hid hS2; clear hS2
  go_upto_region 3 with (first | (go_at_call 17; refine (first_c _ HS.out.now.1.1.1.glob HS.out.now.1.1.1.errT).mono ?_; rintro e w' ⟨he, hd⟩; subst he; have hS2 := HS.out.step hd; clear HS hd; have HS := Lib.hid hS2; clear hS2))
  have g0 := kCe HS.out.now.2 0; have g1 := kCe HS.out.now.2 1; have g2 := kCe HS.out.now.2 2
  go_upto_region 4 with (first
   | (go_at_call 19; refine (twin_law H _ HS.out.now.1.1.2.1 HS.out.now.1.1.2.2 HS.out.now.1.2.1 HS.out.now.1.2.2).mono ?_; rintro e w' ⟨B1, d1, B2, d2, he, ha, hb, hd⟩; subst he; have hS2 := ((HS.out.step hd).and (still_C ha)).and (still_C hb); clear HS ha hb hd; have HS := Lib.hid hS2; clear hS2)
   | (go_at_call 18; refine (CC.out B1 d1 B2 d2 _ HS.out.now.1.2.1 HS.out.now.1.2.2 HS.out.now.2.1 HS.out.now.2.2 HS.out.now.1.1.1.1.1.glob).mono ?_; rintro e w' ⟨he, hd⟩; subst he; have hS2 := HS.out.step hd; clear HS hd; have HS := Lib.hid hS2; clear hS2))
  have hS2 := HS.out.imp (fun W' h => h.1.1)
  clear HS; have HS := Lib.hid hS2; clear hS2
  clear g0 g1 g2
  have g0 := kCe HS.out.now.2 0; have g1 := kCe HS.out.now.2 1; have g2 := kCe HS.out.now.2 2
  go_upto_region 5 with (first
   | (go_at_call 19; refine (twin_law H _ HS.out.now.1.1.2.1 HS.out.now.1.1.2.2 HS.out.now.1.2.1 HS.out.now.1.2.2).mono ?_; rintro e w' ⟨B1, d1, B2, d2, he, ha, hb, hd⟩; subst he; have hS2 := ((HS.out.step hd).and (still_C ha)).and (still_C hb); clear HS ha hb hd; have HS := Lib.hid hS2; clear hS2)
   | (go_at_call 20; refine (CW.out B1 d1 B2 d2 _ HS.out.now.1.2.1 HS.out.now.1.2.2 HS.out.now.2.1 HS.out.now.2.2 HS.out.now.1.1.1.1.1.glob).mono ?_; rintro e w' ⟨A, n, he, hR, hd⟩; subst he; have hS2 := ((HS.out.step hd).imp (fun W' h => h.1.1)).and (still_R hR); clear HS hR hd; have HS := Lib.hid hS2; clear hS2))
  clear g0 g1 g2
  go_wp2_with (first | (go_at_call 14; refine (anvillaw02_num.calls _ _ _ rfl).mono ?_; rintro e w' ⟨he, hdd⟩; subst he; have hd := hdd.below; clear hdd; have hS2 := HS.out.step hd; clear HS hd; have HS := Lib.hid hS2; clear hS2))
  go_ret
  exact ⟨rfl, HS.out.now.1.1.1.1.below⟩
end Go.Proofs.YtbnlifldnjgpmaaGreatDoor.PWri
