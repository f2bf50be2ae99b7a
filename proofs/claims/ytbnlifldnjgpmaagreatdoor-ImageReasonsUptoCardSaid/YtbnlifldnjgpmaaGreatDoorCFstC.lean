/- 'first' comes true: the sample is written and read again, and no file is none. -/
import Derived.Test.YtbnlifldnjgpmaaGreatDoorCSmp
import Derived.Deep.QuietTactic
import Derived.BigQuiet
import Derived.Deep.RegionHeld2
import Derived.Deep.RegionHeld3
import Derived.Deep.DeepCutAuto
set_option linter.unusedVariables false
set_option linter.unusedSimpArgs false
namespace Go.Proofs.YtbnlifldnjgpmaaGreatDoor.PWri
open Go.RowKit Go.Lib Go.Proofs.YtbnlifldnjgpmaaGreatDoorW.PrintWords Go.Proofs.YtbnlifldnjgpmaaGreatDoorW.PrintLast
set_option maxHeartbeats 16000000 in
set_option maxRecDepth 1000000 in
theorem first_c (w : World) (hG : Glob w) (hE : ErrT w) : Calls Tryz.prog 17 #[] w fun e w' => e = .returned (.bool true) ∧ Below w.heap.size w w' := by
 have CW := Lib.hid (fun A1 c1 A2 c2 w hr1 hc1 hr2 hc2 hG => write_law (A1 := A1) (A2 := A2) (c1 := c1) (c2 := c2) w hr1 hc1 hr2 hc2 hG)
 have CR := Lib.hid (fun A c (hc : 472 ≤ c) w hC hG hE => read_yes (A := A) (c := c) hc w hC hG hE)
 have CN := Lib.hid (fun w hG hE => read_no w hG hE)
 rw [sl_len] at CW
 have HS := Lib.hid (still0 w hG hE)
 clear hG hE
 go_enter Tryz.func17, Tryz.ntmps17
 go_upto_region 2 with (first
  | (go_at_call 21; refine (sample_law _).mono ?_; rintro e w1 ⟨A1, c1, A2, c2, rfl, ha, hb, hd⟩; have hS2 := ((HS.out.step hd).and (still_C ha)).and (still_C hb); clear HS ha hb hd; have HS := Lib.hid hS2; clear hS2)
  | (go_at_call 20; refine (CW.out A1 c1 A2 c2 _ HS.out.now.1.2.1 HS.out.now.1.2.2 HS.out.now.2.1 HS.out.now.2.2 HS.out.now.1.1.glob).mono ?_; rintro e w2 ⟨A, n, rfl, hR, hd⟩; have hS2 := (HS.out.step hd).and (still_R hR); clear HS hR hd; have HS := Lib.hid hS2; clear hS2))
 have hS2 := HS.out.imp (fun W' h => And.intro h.1.1.1 h.2)
 clear HS
 have HS := Lib.hid hS2
 clear hS2 CW
 go_upto_region 5 with (first
  | (go_at_call 14; refine (anvillaw02_num.calls _ _ _ rfl).mono ?_; rintro e w' ⟨he, hdd⟩; subst he; have hd := hdd.below; clear hdd; have hS2 := HS.out.step hd; clear HS hd; have HS := Lib.hid hS2; clear hS2)
  | (go_at_call 11; refine (CR.out A n (R_as HS.out.now.2 rfl sl_len).1 _ (R_as HS.out.now.2 rfl sl_len).2 HS.out.now.1.glob HS.out.now.1.errT).mono ?_; rintro e w3 ⟨B1, d1, B2, d2, rfl, ho, hd⟩; have hS2 := (HS.out.step hd).and (still_own ho); clear HS ho hd; have HS := Lib.hid hS2; clear hS2))
 have hS2 := (HS.out.alloc (.cells #[.int .u64 2147483648, .slice B1 sl1.length d1, .slice B2 sl2.length d2] 28)).and (still_box w3 _)
 clear HS
 have HS := Lib.hid hS2
 clear hS2 CR
 obtain ⟨p3, hp3⟩ : ∃ p3, w3.heap.size = p3 := ⟨_, rfl⟩
 obtain ⟨W4, hW4⟩ : ∃ W4, w3.alloc (.cells #[.int .u64 2147483648, .slice B1 sl1.length d1, .slice B2 sl2.length d2] 28) = W4 := ⟨_, rfl⟩
 rw [hW4, hp3] at HS ⊢
 clear hW4 hp3
 go_upto_region 6 with (first
  | (go_at_call 11; refine (CN.out _ HS.out.now.1.1.1.glob HS.out.now.1.1.1.errT).mono ?_; rintro e w5 ⟨a, rfl, hd⟩; have hS2 := HS.out.step hd; clear HS hd; have HS := Lib.hid hS2; clear hS2))
 have hS2 := HS.out.alloc (.cells #[.int .u64 0, .slice none 0 0, .slice none 0 0] 28)
 clear HS
 have HS := Lib.hid hS2
 clear hS2 CN
 obtain ⟨W6, hW6⟩ : ∃ W6, w5.alloc (.cells #[.int .u64 0, .slice none 0 0, .slice none 0 0] 28) = W6 := ⟨_, rfl⟩
 rw [hW6] at HS ⊢
 clear hW6
 have hS2 := HS.out.drew
 clear HS
 have HS := Lib.hid hS2
 clear hS2
 have c0 := kCe HS.out.now.2 0
 have c1 := kCe HS.out.now.2 1
 have c2 := kCe HS.out.now.2 2
 go_region_held3 (fun w' => w'.cell? ⟨p3, 0, none⟩ = some (.int .u64 2147483648) ∧ w'.cell? ⟨p3, 1, none⟩ = some (.slice B1 sl1.length d1) ∧ w'.cell? ⟨p3, 2, none⟩ = some (.slice B2 sl2.length d2)) (first | exact ⟨c0, c1, c2⟩ | exact ⟨kCe HS.out.now.1.1.2 0, kCe HS.out.now.1.1.2 1, kCe HS.out.now.1.1.2 2⟩ | exact ⟨kCe HS.out.now.2 0, kCe HS.out.now.2 1, kCe HS.out.now.2 2⟩ | go_keep) (first
  | (go_at_call 21; refine (sample_law _).mono ?_; rintro e w1 ⟨D1, f1, D2, f2, rfl, ha, hb, hd⟩; have hS2 := ((HS.out.step hd).and (still_C ha)).and (still_C hb); clear HS ha hb hd; have HS := Lib.hid hS2; clear hS2)
  | (go_at_call 16; refine (alike_two _ HS.out.now.1.1.1.2.c1 HS.out.now.1.1.1.2.c2 HS.out.now.1.2 HS.out.now.2).mono ?_; rintro e w' ⟨he, hd⟩; subst he; have hS2 := HS.out.step hd; clear HS hd; have HS := Lib.hid hS2; clear hS2))
 go_wp2
 go_ret
 exact ⟨rfl, HS.out.now.1.1.1.1.1.below⟩
end Go.Proofs.YtbnlifldnjgpmaaGreatDoor.PWri
