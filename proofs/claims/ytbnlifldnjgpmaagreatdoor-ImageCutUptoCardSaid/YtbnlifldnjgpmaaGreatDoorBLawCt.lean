/- ImageCut walked: no proper beginning of a written file with a part or a name is read. -/
import Derived.Test.YtbnlifldnjgpmaaGreatDoorBGr5
set_option linter.unusedVariables false
set_option linter.unusedSimpArgs false
namespace Go.Proofs.YtbnlifldnjgpmaaGreatDoor.PWri
open Go.RowKit Go.Lib Go.Proofs.YtbnlifldnjgpmaaGreatDoorW.PrintWords Go.Proofs.YtbnlifldnjgpmaaGreatDoorW.PrintLast
set_option maxHeartbeats 16000000 in
set_option maxRecDepth 1000000 in
theorem imageCut_c {e n : Int} {l1 : List Seg} {l2 : List Sym} {A1 A2 : Option Addr} {c1 c2 : Nat} (H : Small l1 l2) (N : NumsL e l1 l2) (hB : ∀ s ∈ l1, Bytes s.f3) (w : World) (hr1 : Kd.C k55 w A1 l1.length l1) (hc1 : l1.length ≤ c1) (hr2 : Kd.C k82 w A2 l2.length l2) (hc2 : l2.length ≤ c2) (hG : Glob w) (hE : ErrT w) :
 Calls Tryz.prog 5 #[ImgV e A1 l1.length c1 A2 l2.length c2, .int .i64 n] w fun en w' => en = .returned (.bool true) ∧ Below w.heap.size w w' := by
 have CW := Lib.hid (fun A1 c1 A2 c2 w hr1 hc1 hr2 hc2 hG => write_law (e := e) (l1 := l1) (l2 := l2) (A1 := A1) (A2 := A2) (c1 := c1) (c2 := c2) H N.en.1 w hr1 hc1 hr2 hc2 hG)
 have HS := Lib.hid (((still0 w hG hE).and (still_C ⟨hr1, hc1⟩)).and (still_C ⟨hr2, hc2⟩))
 have hl1 := H.lsegs
 have hl2 := H.lsyms
 have E1 : IntKind.i64.wrap ((l1.length : Int) + (l2.length : Int)) = (l1.length : Int) + (l2.length : Int) := by rw [IntKind.wrap_i64]; omega
 obtain ⟨cz, hcz⟩ : ∃ cz, checkS e l1 l2 = cz := ⟨_, rfl⟩
 obtain ⟨F, hF⟩ : ∃ F, fileS e l1 l2 = F := ⟨_, rfl⟩
 have HF := Lib.hid (And.intro hcz hF)
 rw [hcz, hF] at CW
 obtain ⟨i1, hi1', _, hsz5', _⟩ := info_parts info5
 have HI := Lib.hid (And.intro hi1' hsz5')
 have HL := Lib.hid (And.intro hl1 hl2)
 clear hG hE hr1 hc1 hr2 hc2 hcz hF hi1' hsz5' hl1 hl2
 go_enter Tryz.func5, Tryz.ntmps5
 go_upto_region 1 with fail
 have hS2 := (HS.out.alloc (.cells #[.int .u64 e, .slice A1 l1.length c1, .slice A2 l2.length c2] 28)).and (still_box w _)
 clear HS; have HS := Lib.hid hS2; clear hS2
 go_upto_region 3 with (first | (go_at_call 17; refine (first_c _ HS.out.now.1.1.1.glob HS.out.now.1.1.1.errT).mono ?_; rintro e w' ⟨he, hd⟩; subst he; have hS2 := HS.out.step hd; clear HS hd; have HS := Lib.hid hS2; clear hS2))
 have g0 := kCe HS.out.now.2 0; have g1 := kCe HS.out.now.2 1; have g2 := kCe HS.out.now.2 2
 go_upto_region 4 with (first
  | (go_at_call 19; refine (twin_law H _ HS.out.now.1.1.2.1 HS.out.now.1.1.2.2 HS.out.now.1.2.1 HS.out.now.1.2.2).mono ?_; rintro e w' ⟨B1, d1, B2, d2, he, ha, hb, hd⟩; subst he; have hS2 := ((HS.out.step hd).and (still_C ha)).and (still_C hb); clear HS ha hb hd; have HS := Lib.hid hS2; clear hS2)
  | (go_at_call 20; refine (CW.out B1 d1 B2 d2 _ HS.out.now.1.2.1 HS.out.now.1.2.2 HS.out.now.2.1 HS.out.now.2.2 HS.out.now.1.1.1.1.1.glob).mono ?_; rintro e w' ⟨A, cp, he, hR, hd⟩; subst he; have hS2 := ((HS.out.step hd).imp (fun W' h => h.1.1)).and (still_R hR); clear HS hR hd; have HS := Lib.hid hS2; clear hS2))
 clear g0 g1 g2
 by_cases hch : cz = 0
 ·subst hch
  by_cases hs : (l1.length : Int) + (l2.length : Int) = 0
  ·have hsb : ((l1.length : Int) + (l2.length : Int) == 0) = true := by simp [hs]
   go_wp2_with (first | ((go_at_call 14; refine (anvillaw02_num.calls _ _ _ rfl).mono ?_; rintro e w' ⟨he, hdd⟩; subst he; have hd := hdd.below; clear hdd; have hS2 := HS.out.step hd; clear HS hd; have HS := Lib.hid hS2; clear hS2); have g0 := kCe HS.out.now.1.2 0; have g1 := kCe HS.out.now.1.2 1; have g2 := kCe HS.out.now.1.2 2))
   go_ret
   exact ⟨rfl, HS.out.now.1.1.1.1.below⟩
  ·have hsb : ((l1.length : Int) + (l2.length : Int) == 0) = false := by simp [hs]
   by_cases hn0 : n < 0
   ·have hnb : decide (n < 0) = true := decide_eq_true hn0
    go_wp2_with (first | ((go_at_call 14; refine (anvillaw02_num.calls _ _ _ rfl).mono ?_; rintro e w' ⟨he, hdd⟩; subst he; have hd := hdd.below; clear hdd; have hS2 := HS.out.step hd; clear HS hd; have HS := Lib.hid hS2; clear hS2); have g0 := kCe HS.out.now.1.2 0; have g1 := kCe HS.out.now.1.2 1; have g2 := kCe HS.out.now.1.2 2))
    go_ret
    exact ⟨rfl, HS.out.now.1.1.1.1.below⟩
   ·have hnb : decide (n < 0) = false := decide_eq_false hn0
    by_cases hnl : (F.length : Int) ≤ n
    ·have hlb : decide ((F.length : Int) ≤ n) = true := decide_eq_true hnl
     go_wp2_with (first | ((go_at_call 14; refine (anvillaw02_num.calls _ _ _ rfl).mono ?_; rintro e w' ⟨he, hdd⟩; subst he; have hd := hdd.below; clear hdd; have hS2 := HS.out.step hd; clear HS hd; have HS := Lib.hid hS2; clear hS2); have g0 := kCe HS.out.now.1.2 0; have g1 := kCe HS.out.now.1.2 1; have g2 := kCe HS.out.now.1.2 2))
     go_ret
     exact ⟨rfl, HS.out.now.1.1.1.1.below⟩
    ·have hlb : decide ((F.length : Int) ≤ n) = false := decide_eq_false hnl
     obtain ⟨hz1, hz2⟩ := HF.out
     rw [file_yes hz1] at hz2
     obtain ⟨G, hsz⟩ := (check_good N).1 hz1
     have hlen := (file_shows (e := e) hsz).1
     have hFB : Bytes F := hz2 ▸ fileB_bytes hB
     have hno : ∀ r, readS (F.take n.toNat) ≠ .ok r := hz2 ▸ fun r => file_cut G hsz (by omega) (by rw [hz2]; omega) r
     rw [hz2] at hlen
     have hsl := (print_take_of (P := Tryz.prog) (Value.int .u8) 0 22 5 .i64 Tryz.underlying22 HI.out.1 HI.out.2 A _ F n (by omega) (by omega) (R_as HS.out.now.2 rfl rfl).1).1
     have hFt : (F.take n.toNat).length ≤ F.length := by rw [List.length_take]; omega
     have CR := Lib.hid (fun A c (hc : (F.take n.toNat).length ≤ c) w hC hG hE => read_no (l := F.take n.toNat) (A := A) (c := c) (Bytes.take hFB _) (by omega) hc hno w hC hG hE)
     have HNT := Lib.hid (show n.toNat ≤ F.length by omega)
     obtain ⟨Ft, hFt2⟩ : ∃ Ft, F.take n.toNat = Ft := ⟨_, rfl⟩
     have HT := Lib.hid hFt2
     rw [hFt2] at CR hsl
     clear hFt hFt2 hno hFB hlen hz1 hz2 hsz G hs hn0 hnl
     go_upto_region 7 with (first
      | ((go_at_call 14; refine (anvillaw02_num.calls _ _ _ rfl).mono ?_; rintro e w' ⟨he, hdd⟩; subst he; have hd := hdd.below; clear hdd; have hS2 := HS.out.step hd; clear HS hd; have HS := Lib.hid hS2; clear hS2); have g0 := kCe HS.out.now.1.2 0; have g1 := kCe HS.out.now.1.2 1; have g2 := kCe HS.out.now.1.2 2)
      | (go_at_call 11; have hq := R_cut HS.out.now.2 n.toNat HNT.out; rw [HT.out] at hq; refine (CR.out A cp hq.1 _ hq.2 HS.out.now.1.1.1.1.glob HS.out.now.1.1.1.1.errT).mono ?_; rintro e w3 ⟨a, he, hd⟩; subst he; clear hq; have hS2 := HS.out.step hd; clear HS hd; have HS := Lib.hid hS2; clear hS2))
     have hS2 := (HS.out.alloc (.cells #[.int .u64 0, .slice none 0 0, .slice none 0 0] 28)).and (still_box w3 _)
     clear HS; have HS := Lib.hid hS2; clear hS2
     have g0 := kCe HS.out.now.2 0; have g1 := kCe HS.out.now.2 1; have g2 := kCe HS.out.now.2 2
     go_wp2_with (first
      | (go_at_call 16; refine (alike_zero _).mono ?_; rintro e w' ⟨he, hd⟩; subst he; have hS2 := HS.out.step hd; clear HS hd; have HS := Lib.hid hS2; clear hS2))
     go_ret
     exact ⟨rfl, HS.out.now.1.1.1.1.1.below⟩
 ·have hb1 : (cz != 0) = true := bne_iff_ne.mpr hch
  have hb2 : (cz == 0) = false := beq_eq_false_iff_ne.mpr hch
  go_wp2_with (first | (go_at_call 14; refine (anvillaw02_num.calls _ _ _ rfl).mono ?_; rintro e w' ⟨he, hdd⟩; subst he; have hd := hdd.below; clear hdd; have hS2 := HS.out.step hd; clear HS hd; have HS := Lib.hid hS2; clear hS2))
  go_ret
  exact ⟨rfl, HS.out.now.1.1.1.1.below⟩
end Go.Proofs.YtbnlifldnjgpmaaGreatDoor.PWri
