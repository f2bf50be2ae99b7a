/- ImageUnseen walked: bytes that the document does not name change nothing. -/
import Derived.Test.YtbnlifldnjgpmaaGreatDoorBGr5
import Derived.Deep.DeepCutAuto
set_option linter.unusedVariables false
set_option linter.unusedSimpArgs false
namespace Go.Proofs.YtbnlifldnjgpmaaGreatDoor.PWri
open Go.RowKit Go.Lib Go.Proofs.YtbnlifldnjgpmaaGreatDoorW.PrintWords Go.Proofs.YtbnlifldnjgpmaaGreatDoorW.PrintLast
def freeA (k : Int) : Bool := (decide (7 ≤ k) && decide (k ≤ 15)) || (k == 62 || k == 63)
def freeB (k : Int) : Bool := if 64 ≤ k then (decide (16 ≤ (k - 64) % 56) && decide ((k - 64) % 56 < 24)) || decide (48 ≤ (k - 64) % 56) else freeA k
theorem free_of {k : Int} {n : Nat} (h0 : 0 ≤ k) (h1 : k < 64 + 56 * (n : Int)) (h : freeB k = true) : Free n k.toNat := by
 unfold freeB freeA at h
 unfold Free
 split at h
 ·simp only [Bool.or_eq_true, Bool.and_eq_true, decide_eq_true_eq] at h
  omega
 ·simp only [Bool.or_eq_true, Bool.and_eq_true, decide_eq_true_eq, beq_iff_eq] at h
  omega
set_option maxHeartbeats 16000000 in
set_option maxRecDepth 1000000 in
theorem imageUnseen_c {e at_ v : Int} {l1 : List Seg} {l2 : List Sym} {A1 A2 : Option Addr} {c1 c2 : Nat} (hat : -9223372036854775808 ≤ at_) (hv : 0 ≤ v ∧ v < 256) (H : Small l1 l2) (N : NumsL e l1 l2) (hB : ∀ s ∈ l1, Bytes s.f3) (w : World) (hr1 : Kd.C k55 w A1 l1.length l1) (hc1 : l1.length ≤ c1) (hr2 : Kd.C k82 w A2 l2.length l2) (hc2 : l2.length ≤ c2) (hG : Glob w) (hE : ErrT w) :
 Calls Tryz.prog 7 #[ImgV e A1 l1.length c1 A2 l2.length c2, .int .i64 at_, .int .u8 v] w fun en w' => en = .returned (.bool true) ∧ Below w.heap.size w w' := by
 have CW := Lib.hid (fun A1 c1 A2 c2 w hr1 hc1 hr2 hc2 hG => write_law (e := e) (l1 := l1) (l2 := l2) (A1 := A1) (A2 := A2) (c1 := c1) (c2 := c2) H N.en.1 w hr1 hc1 hr2 hc2 hG)
 have HW0 := Lib.hid (And.intro hG (And.intro hE (And.intro hr1 hr2)))
 have HS := Lib.hid (((still0 w hG hE).and (still_C ⟨hr1, hc1⟩)).and (still_C ⟨hr2, hc2⟩))
 have hl1 := H.lsegs
 have E1 : IntKind.i64.wrap (56 * (l1.length : Int)) = 56 * (l1.length : Int) := by rw [IntKind.wrap_i64]; omega
 have E2 : IntKind.i64.wrap (64 + 56 * (l1.length : Int)) = 64 + 56 * (l1.length : Int) := by rw [IntKind.wrap_i64]; omega
 have HL2 := Lib.hid H.lsyms
 have HL1 := Lib.hid hl1
 have HC := Lib.hid (And.intro hc1 hc2)
 have HV := Lib.hid hv
 have HAT := Lib.hid hat
 obtain ⟨cz, hcz⟩ : ∃ cz, checkS e l1 l2 = cz := ⟨_, rfl⟩
 obtain ⟨F, hF⟩ : ∃ F, fileS e l1 l2 = F := ⟨_, rfl⟩
 have HF := Lib.hid (And.intro hcz hF)
 rw [hcz, hF] at CW
 clear hG hE hr1 hc1 hr2 hc2 hcz hF hl1 hv hat
 go_enter Tryz.func7, Tryz.ntmps7
 go_upto_region 1 with fail
 have hS2 := (HS.out.alloc (.cells #[.int .u64 e, .slice A1 l1.length c1, .slice A2 l2.length c2] 28)).and (still_box w _)
 clear HS; have HS := Lib.hid hS2; clear hS2
 go_upto_region 3 with (first | (go_at_call 17; refine (first_c _ HS.out.now.1.1.1.glob HS.out.now.1.1.1.errT).mono ?_; rintro e w' ⟨he, hd⟩; subst he; have hS2 := HS.out.step hd; clear HS hd; have HS := Lib.hid hS2; clear hS2))
 have g0 := kCe HS.out.now.2 0; have g1 := kCe HS.out.now.2 1; have g2 := kCe HS.out.now.2 2
 go_upto_region 4 with (first
  | (go_at_call 19; refine (twin_law H _ HS.out.now.1.1.2.1 HS.out.now.1.1.2.2 HS.out.now.1.2.1 HS.out.now.1.2.2).mono ?_; rintro e w' ⟨B1, d1, B2, d2, he, ha, hb, hd⟩; subst he; have hS2 := ((HS.out.step hd).and (still_C ha)).and (still_C hb); clear HS ha hb hd; have HS := Lib.hid hS2; clear hS2)
  | (go_at_call 20; have HBX := Lib.hid (blk_lt HS.out.now.1.1.2); refine (CW.out B1 d1 B2 d2 _ HS.out.now.1.2.1 HS.out.now.1.2.2 HS.out.now.2.1 HS.out.now.2.2 HS.out.now.1.1.1.1.1.glob).mono ?_; rintro e w' ⟨A, cp, he, hR, hd⟩; subst he; have hS2 := ((HS.out.step hd).imp (fun W' h => h.1.1)).and (still_R hR); clear HS hR hd; have HS := Lib.hid hS2; clear hS2))
 clear g0 g1 g2
 by_cases hch : cz = 0
 ·subst hch
  by_cases hn0 : at_ < 0
  ·have hnb : decide (at_ < 0) = true := decide_eq_true hn0
   go_wp2_with (first | (go_at_call 14; refine (anvillaw02_num.calls _ _ _ rfl).mono ?_; rintro e w' ⟨he, hdd⟩; subst he; have hd := hdd.below; clear hdd; have hS2 := HS.out.step hd; clear HS hd; have HS := Lib.hid hS2; clear hS2))
   go_ret
   exact ⟨rfl, HS.out.now.1.1.1.1.below⟩
  ·have hnb : decide (at_ < 0) = false := decide_eq_false hn0
   by_cases hnl : 64 + 56 * (l1.length : Int) ≤ at_
   ·have hlb : decide (64 + 56 * (l1.length : Int) ≤ at_) = true := decide_eq_true hnl
    go_wp2_with (first | ((go_at_call 14; refine (anvillaw02_num.calls _ _ _ rfl).mono ?_; rintro e w' ⟨he, hdd⟩; subst he; have hd := hdd.below; clear hdd; have hS2 := HS.out.step hd; clear HS hd; have HS := Lib.hid hS2; clear hS2); have g0 := kCe HS.out.now.1.2 0; have g1 := kCe HS.out.now.1.2 1; have g2 := kCe HS.out.now.1.2 2))
    go_ret
    exact ⟨rfl, HS.out.now.1.1.1.1.below⟩
   ·have hlb : decide (64 + 56 * (l1.length : Int) ≤ at_) = false := decide_eq_false hnl
    go_upto_region 6 with (first | ((go_at_call 14; refine (anvillaw02_num.calls _ _ _ rfl).mono ?_; rintro e w' ⟨he, hdd⟩; subst he; have hd := hdd.below; clear hdd; have hS2 := HS.out.step hd; clear HS hd; have HS := Lib.hid hS2; clear hS2); have g0 := kCe HS.out.now.1.2 0; have g1 := kCe HS.out.now.1.2 1; have g2 := kCe HS.out.now.1.2 2))
    clear g0 g1 g2
    have HNL := Lib.hid (And.intro hn0 hnl)
    go_cut [9] (fun s9 wx => s9 = .bool (freeA at_) ∧ wx = w')
    case first =>
     obtain ⟨a7, h7⟩ : ∃ b, decide (7 ≤ at_) = b := ⟨_, rfl⟩
     obtain ⟨a15, h15⟩ : ∃ b, decide (at_ ≤ 15) = b := ⟨_, rfl⟩
     obtain ⟨a62, h62⟩ : ∃ b, (at_ == 62) = b := ⟨_, rfl⟩
     obtain ⟨a63, h63⟩ : ∃ b, (at_ == 63) = b := ⟨_, rfl⟩
     have HFA : Hid (freeA at_ = ((a7 && a15) || (a62 || a63))) := Lib.hid (by unfold freeA; rw [h7, h15, h62, h63])
     clear hn0 hnl hnb hlb E1 E2
     cases a7 <;> cases a15 <;> cases a62 <;> cases a63 <;> (go_wp2; go_meet; exact ⟨by rw [HFA.out]; rfl, rfl⟩)
    case rest =>
     obtain ⟨hs9, hw9⟩ := hcut
     subst hs9
     rw [hw9]
     clear hw9
     go_upto_if 52 with fail
     go_cut [9] (fun s9 wx => s9 = .bool (freeB at_) ∧ wx = w')
     case first =>
      clear hn0 hnl hnb hlb E1 E2
      by_cases h64 : 64 ≤ at_
      ·have h64b : decide (64 ≤ at_) = true := decide_eq_true h64
       have E3 : IntKind.i64.wrap (at_ - 64) = at_ - 64 := by
        have := HNL.out
        have := HL1.out
        rw [IntKind.wrap_i64]
        omega
       obtain ⟨kk, hk⟩ : ∃ kk, (at_ - 64).tmod 56 = kk := ⟨_, rfl⟩
       have hke : (at_ - 64) % 56 = kk := by rw [← hk, Int.tmod_eq_emod_of_nonneg (by omega)]
       obtain ⟨a16, h16⟩ : ∃ b, decide (16 ≤ kk) = b := ⟨_, rfl⟩
       obtain ⟨a24, h24⟩ : ∃ b, decide (kk < 24) = b := ⟨_, rfl⟩
       obtain ⟨a48, h48⟩ : ∃ b, decide (48 ≤ kk) = b := ⟨_, rfl⟩
       have HFB : Hid (freeB at_ = ((a16 && a24) || a48)) := Lib.hid (by unfold freeB; rw [if_pos h64, hke, h16, h24, h48])
       clear hke
       cases a16 <;> cases a24 <;> cases a48 <;> (go_wp2; go_meet; exact ⟨by rw [HFB.out]; rfl, rfl⟩)
      ·have h64b : decide (64 ≤ at_) = false := decide_eq_false h64
       have HFB : Hid (freeB at_ = freeA at_) := Lib.hid (by unfold freeB; rw [if_neg h64])
       go_wp2
       go_meet
       exact ⟨by rw [HFB.out], rfl⟩
     case rest =>
      obtain ⟨hs9, hw9⟩ := hcut
      subst hs9
      rw [hw9]
      clear hw9
      clear hn0 hnl hnb hlb E1 E2
      cases hfb : freeB at_ with
      | false =>
       go_wp2
       go_ret
       exact ⟨rfl, HS.out.now.1.1.1.1.below⟩
      | true =>
       go_upto_region 12 with fail
       obtain ⟨hz1, hz2⟩ := HF.out
       rw [file_yes hz1] at hz2
       obtain ⟨G, hsz⟩ := (check_good N).1 hz1
       have hlen := (file_shows (e := e) hsz).1
       have hend := (file_shows (e := e) hsz).2.1
       have hge := endN_ge (64 + 56 * l1.length) l1
       have hFB : Bytes F := hz2 ▸ fileB_bytes hB
       have hrd : readS (F.set at_.toNat v) = .ok (e, l1, l2) := hz2 ▸ file_unseen G hsz (free_of HNL.out.1 HNL.out.2 hfb) v
       rw [hz2] at hlen hend
       have hpos : 0 < F.length := by omega
       obtain ⟨g, cap, hfm, hgb, hgl, _⟩ := Kd.R_form HS.out.now.2 hpos
       injection hfm with hA _ hcap
       subst hA hcap
       have hcl := Kd.R_celln 0 HS.out.now.2 at_ HNL.out.1 (by have := HNL.out.2; omega)
       have hc0 := hcl.1
       have hz0 := hcl.2
       have HPUT := Lib.hid (Kd.R_putn HS.out.now.2 at_ v)
       have hgw : w.heap.size < g := Nat.lt_of_lt_of_le HBX.out hgb
       have hbel := HS.out.now.1.1.1.1.below.setCell (p := ⟨g, at_.toNat, none⟩) (Nat.le_of_lt hgw) (.int .u8 v)
       have hbox := blk_far HS.out.now.1.2 (p := ⟨g, at_.toNat, none⟩) (by show _ ≠ g; omega) (.int .u8 v)
       have hS2 := ((((still0 w HW0.out.1 HW0.out.2.1).step hbel).and (still_C ⟨Kd.C_below HW0.out.2.2.1 hbel, HC.out.1⟩)).and (still_C ⟨Kd.C_below HW0.out.2.2.2 hbel, HC.out.2⟩))
       have hS3 := (hS2.and (fun W' hb => kBe hbox hb : Still _ (fun W' => W'.heap[w.heap.size]? = some (.cells #[.int .u64 e, .slice A1 l1.length c1, .slice A2 l2.length c2] 28)))).and (still_R HPUT.out)
       clear HS hS2 hbox hbel hcl HPUT
       have HS := Lib.hid hS3
       clear hS3
       obtain ⟨Ft, hFt⟩ : ∃ Ft, F.set at_.toNat v = Ft := ⟨_, rfl⟩
       have hFtl : Ft.length = F.length := by rw [← hFt, List.length_set]
       have hFtB : Bytes Ft := by
        rw [← hFt]
        intro x hx
        rcases List.mem_or_eq_of_mem_set hx with h | h
        ·exact hFB x h
        ·rw [h]; exact HV.out
       rw [hFt] at HS hrd
       have CR := Lib.hid (fun A c (hc : Ft.length ≤ c) w hC hG hE => read_yes (A := A) (c := c) hFtB (by omega) hc G hrd w hC hG hE)
       rw [hFtl] at CR
       have HFL := Lib.hid hFtl
       have hi0 := HNL.out.1
       have hi1 : at_ < (F.length : Int) := by have := HNL.out.2; omega
       clear hFt hFtl hFtB hrd hFB hlen hend hge hz1 hz2 hsz hpos hgb hgl hgw G
       obtain ⟨W2, hW2⟩ : ∃ W2, w'.setCell ⟨g, at_.toNat, none⟩ (.int .u8 v) = W2 := ⟨_, rfl⟩
       rw [hW2] at HS
       go_upto_region 13 with fail
       clear hW2 hc0 hz0 hi0 hi1
       go_upto_region 14 with (first
        | (go_at_call 11; refine (CR.out (some ⟨g, 0, none⟩) cp (R_as HS.out.now.2 rfl HFL.out).1 _ (R_as HS.out.now.2 rfl HFL.out).2 HS.out.now.1.1.1.1.glob HS.out.now.1.1.1.1.errT).mono ?_; rintro e w3 ⟨D1, f1, D2, f2, he, ho, hd⟩; subst he; have hS2 := (HS.out.step hd).and (still_own ho); clear HS ho hd; have HS := Lib.hid hS2; clear hS2))
       have hS2 := (HS.out.alloc (.cells #[.int .u64 e, .slice D1 l1.length f1, .slice D2 l2.length f2] 28)).and (still_box w3 _)
       clear HS; have HS := Lib.hid hS2; clear hS2
       have k0 := kCe HS.out.now.2 0
       have k1 := kCe HS.out.now.2 1
       have k2 := kCe HS.out.now.2 2
       have g0 := kCe HS.out.now.1.1.1.2 0
       have g1 := kCe HS.out.now.1.1.1.2 1
       have g2 := kCe HS.out.now.1.1.1.2 2
       go_wp2_with (first
        | (go_at_call 16; refine (alike_two HL2.out _ HS.out.now.1.2.c1 HS.out.now.1.2.c2 HS.out.now.1.1.1.1.1.2 HS.out.now.1.1.1.1.2).mono ?_; rintro e w' ⟨he, hd⟩; subst he; have hS2 := HS.out.step hd; clear HS hd; have HS := Lib.hid hS2; clear hS2))
       go_ret
       exact ⟨rfl, HS.out.now.1.1.1.1.1.1.below⟩
 ·have hb1 : (cz != 0) = true := bne_iff_ne.mpr hch
  have hb2 : (cz == 0) = false := beq_eq_false_iff_ne.mpr hch
  go_wp2_with (first | (go_at_call 14; refine (anvillaw02_num.calls _ _ _ rfl).mono ?_; rintro e w' ⟨he, hdd⟩; subst he; have hd := hdd.below; clear hdd; have hS2 := HS.out.step hd; clear HS hd; have HS := Lib.hid hS2; clear hS2))
  go_ret
  exact ⟨rfl, HS.out.now.1.1.1.1.below⟩
end Go.Proofs.YtbnlifldnjgpmaaGreatDoor.PWri
