/- ImageAgain walked: what is read is written and read again as it is, unless the file is too long. -/
import Derived.Test.YtbnlifldnjgpmaaGreatDoorBGr5
set_option linter.unusedVariables false
set_option linter.unusedSimpArgs false
namespace Go.Proofs.YtbnlifldnjgpmaaGreatDoor.PWri
open Go.RowKit Go.Lib Go.Proofs.YtbnlifldnjgpmaaGreatDoorW.PrintWords Go.Proofs.YtbnlifldnjgpmaaGreatDoorW.PrintLast
/-- What is asked of an image that was read. -/
theorem read_small {e : Int} {l1 : List Seg} {l2 : List Sym} {n : Nat} (G : Good e l1 l2) (hn : n ≤ 1048576) (h1 : ∀ s ∈ l1, s.f3.length ≤ n ∧ Bytes s.f3) (h2 : ∀ s ∈ l2, s.f0.size ≤ n) : Small l1 l2 ∧ NumsL e l1 l2 := by
 refine ⟨small_lists (by have := G.c1; omega) (by have := G.c2; omega) (fun s hs => ?_) (fun s hs => ?_), ⟨G.en.1, G.en.2.1⟩, fun s hs => ?_, fun s hs => (G.name s hs).2⟩
 ·have := (h1 s hs).1; omega
 ·have := h2 s hs; omega
 ·obtain ⟨k1, k2, k3, k4, k5, k6, k7, k8⟩ := G.nums s hs
  have := (h1 s hs).1
  exact ⟨k1, k2, by omega, k4, by omega⟩
set_option maxHeartbeats 16000000 in
set_option maxRecDepth 1000000 in
theorem imageAgain_c {l : List Int} {A : Option Addr} {c : Nat} (hB : Bytes l) (hl : l.length ≤ 1048576) (hc : l.length ≤ c) (w : World) (hC : Kd.C (Kd.int .u8) w A l.length l) (hG : Glob w) (hE : ErrT w) :
 Calls Tryz.prog 6 #[.slice A l.length c] w fun en w' => en = .returned (.bool true) ∧ Below w.heap.size w w' := by
 have HW0 := Lib.hid (And.intro hG hE)
 have HC := Lib.hid hC
 have HS := Lib.hid (still0 w hG hE)
 have HB := Lib.hid hB
 have HL := Lib.hid hl
 by_cases hr : ∃ r, readS l = .ok r
 ·obtain ⟨r, hr⟩ := hr
  have CR := Lib.hid (fun A c (hc : l.length ≤ c) w hC hG hE => read_some (A := A) (c := c) hB (by omega) hc hr w hC hG hE)
  clear hG hE hC hB hl hr
  go_enter Tryz.func6, Tryz.ntmps6
  go_upto_region 4 with (first
   | (go_at_call 17; refine (first_c _ HS.out.now.glob HS.out.now.errT).mono ?_; rintro e w' ⟨he, hd⟩; subst he; have hS2 := HS.out.step hd; clear HS hd; have HS := Lib.hid hS2; clear hS2)
   | ((with_reducible refine gDs (N := 12) rfl ?_); refine Kd.R_lit (Kd.int .u8) _ 5 ?hg (N := 12) ?hd (xs := ([] : List Int)) (inner := []) (ok := fun _ => True) (okp := fun _ => True) ?hr ?hp (fun _ hk => hk) trivial (Below.refl _ _) (Nat.le_refl _) (by simp) ?_; (case hd => rfl); (case hg => rfl); (case hr => first | (go_simp; done) | (go_simp; rfl)); (case hp => exact (Reps.none _ _)); intro v12 w12 ho hd hg_ hnew_; clear hg_ hnew_; have hS2 := (HS.out.step hd).and (still_R (Kd.R_lower ho HS.out.now.below.size)); clear HS ho hd; have HS := Lib.hid hS2; clear hS2)
   | ((with_reducible refine gate_builtin (b := .append) (xs := #[.tmp 12, .tmp 13]) rfl ?_); at_builtin; refine Kd.R_append_rows (Kd.int .u8) (w0 := w) w.heap.size rfl (.tmp 12) (.tmp 13) 22 5 (.int .u8 0) 1 rfl Tryz.underlying22 info5 rfl (by decide) (by omega) v12 [] l _ _ _ (fun _ => True) (fun _ => False) rfl rfl ?aO ?aR (fun _ _ h => h) (fun _ h => h.elim) ?aF ?aB ?aS ?aL ?_; (case aR => exact (Kd.C_below HC.out HS.out.now.1.below)); (case aB => exact HS.out.now.1.below); (case aF => exact (fun _ _ => trivial)); (case aO => exact HS.out.now.2); (case aS => exact HS.out.now.1.below.size); (case aL => have := HL.out; simp; omega); intro v14 w14 ho hb hg hat; rw [List.nil_append] at ho; obtain ⟨B, cp, hv1⟩ := Kd.R_slice ho; subst hv1; have hS2 := ((still0 w HW0.out.1 HW0.out.2).step hb).and (still_R ho); clear HS ho hb hg hat; have HS := Lib.hid hS2; clear hS2)
   | (go_at_call 11; refine (CR.out B cp (R_as HS.out.now.2 rfl rfl).1 _ (R_as HS.out.now.2 rfl rfl).2 HS.out.now.1.glob HS.out.now.1.errT).mono ?_; rintro e w3 ⟨en, l1, l2, A1, c1, A2, c2, he, hG, hd1, hn1, ho, hd⟩; subst he; have HGD := Lib.hid (And.intro hG (And.intro hd1 hn1)); have hS2 := (HS.out.step hd).and (still_own ho); clear HS ho hd hG hd1 hn1; have HS := Lib.hid hS2; clear hS2))
  have hS2 := (HS.out.alloc (.cells #[.int .u64 en, .slice A1 l1.length c1, .slice A2 l2.length c2] 28)).and (still_box w3 _)
  clear CR
  clear HS; have HS := Lib.hid hS2; clear hS2
  obtain ⟨G, hd1, hn1⟩ := HGD.out
  obtain ⟨H, N⟩ := read_small (n := l.length) G HL.out hd1 hn1
  have hck := check_of_good N G
  have HL2 := Lib.hid H.lsyms
  have CW := Lib.hid (fun A1 c1 A2 c2 w hr1 hc1 hr2 hc2 hG => write_law (e := en) (l1 := l1) (l2 := l2) (A1 := A1) (A2 := A2) (c1 := c1) (c2 := c2) H N.en.1 w hr1 hc1 hr2 hc2 hG)
  obtain ⟨p3, hp3⟩ : ∃ p3, w3.heap.size = p3 := ⟨_, rfl⟩
  obtain ⟨W4, hW4⟩ : ∃ W4, w3.alloc (.cells #[.int .u64 en, .slice A1 l1.length c1, .slice A2 l2.length c2] 28) = W4 := ⟨_, rfl⟩
  rw [hW4, hp3] at HS ⊢
  clear hW4 hp3
  by_cases hsz : sizeS l1 l2 > 200000
  ·rw [if_pos hsz] at hck
   rw [file_no (by rw [hck]; decide), hck] at CW
   simp only [List.length_nil] at CW
   clear hsz hck hd1 hn1 HGD
   have g0 := kCe HS.out.now.2 0; have g1 := kCe HS.out.now.2 1; have g2 := kCe HS.out.now.2 2
   go_wp2_with (first
    | (go_at_call 19; refine (twin_law H _ HS.out.now.1.2.c1.1 HS.out.now.1.2.c1.2 HS.out.now.1.2.c2.1 HS.out.now.1.2.c2.2).mono ?_; rintro e w' ⟨B1, d1, B2, d2, he, ha, hb, hd⟩; subst he; have hS2 := ((HS.out.step hd).and (still_C ha)).and (still_C hb); clear HS ha hb hd; have HS := Lib.hid hS2; clear hS2)
    | (go_at_call 20; refine (CW.out B1 d1 B2 d2 _ HS.out.now.1.2.1 HS.out.now.1.2.2 HS.out.now.2.1 HS.out.now.2.2 HS.out.now.1.1.1.1.1.glob).mono ?_; rintro e w' ⟨D, n, he, hR, hd⟩; subst he; have hS2 := ((HS.out.step hd).imp (fun W' h => h.1.1)).and (still_R hR); clear HS hR hd; have HS := Lib.hid hS2; clear hS2)
    | (go_at_call 14; refine (anvillaw02_num.calls _ _ _ rfl).mono ?_; rintro e w' ⟨he, hdd⟩; subst he; have hd := hdd.below; clear hdd; have hS2 := HS.out.step hd; clear HS hd; have HS := Lib.hid hS2; clear hS2))
   go_ret
   exact ⟨rfl, HS.out.now.1.1.1.1.below⟩
  ·rw [if_neg hsz] at hck
   have hz : sizeS l1 l2 ≤ 200000 := by omega
   have hlen := (file_shows (e := en) hz).1
   obtain ⟨F, hF⟩ : ∃ F, fileB en l1 l2 = F := ⟨_, rfl⟩
   have hFB : Bytes F := hF ▸ fileB_bytes (fun s hs => (hd1 s hs).2)
   have hFR : readS F = .ok (en, l1, l2) := hF ▸ file_back G hz
   rw [hF] at hlen
   have CR := Lib.hid (fun A c (hc : F.length ≤ c) w hC hG hE => read_yes (A := A) (c := c) hFB (by omega) hc G hFR w hC hG hE)
   rw [file_yes hck, hck, hF] at CW
   clear hsz hz hck hd1 hn1 HGD hF hFB hFR hlen
   have g0 := kCe HS.out.now.2 0; have g1 := kCe HS.out.now.2 1; have g2 := kCe HS.out.now.2 2
   go_upto_region 10 with (first
    | (go_at_call 19; refine (twin_law H _ HS.out.now.1.2.c1.1 HS.out.now.1.2.c1.2 HS.out.now.1.2.c2.1 HS.out.now.1.2.c2.2).mono ?_; rintro e w' ⟨B1, d1, B2, d2, he, ha, hb, hd⟩; subst he; have hS2 := ((HS.out.step hd).and (still_C ha)).and (still_C hb); clear HS ha hb hd; have HS := Lib.hid hS2; clear hS2)
    | (go_at_call 20; refine (CW.out B1 d1 B2 d2 _ HS.out.now.1.2.1 HS.out.now.1.2.2 HS.out.now.2.1 HS.out.now.2.2 HS.out.now.1.1.1.1.1.glob).mono ?_; rintro e w' ⟨D, n, he, hR, hd⟩; subst he; have hS2 := ((HS.out.step hd).imp (fun W' h => h.1.1)).and (still_R hR); clear HS hR hd; have HS := Lib.hid hS2; clear hS2)
    | (go_at_call 14; refine (anvillaw02_num.calls _ _ _ rfl).mono ?_; rintro e w' ⟨he, hdd⟩; subst he; have hd := hdd.below; clear hdd; have hS2 := HS.out.step hd; clear HS hd; have HS := Lib.hid hS2; clear hS2)
    | (go_at_call 11; refine (CR.out D n (R_as HS.out.now.2 rfl rfl).1 _ (R_as HS.out.now.2 rfl rfl).2 HS.out.now.1.1.1.1.glob HS.out.now.1.1.1.1.errT).mono ?_; rintro e w5 ⟨E1, f1, E2, f2, he, ho, hd⟩; subst he; have hS2 := (HS.out.step hd).and (still_own ho); clear HS ho hd; have HS := Lib.hid hS2; clear hS2))
   have hS2 := (HS.out.alloc (.cells #[.int .u64 en, .slice E1 l1.length f1, .slice E2 l2.length f2] 28)).and (still_box w5 _)
   clear HS; have HS := Lib.hid hS2; clear hS2
   clear g0 g1 g2
   go_wp2_with (first
    | ((go_at_call 14; refine (anvillaw02_num.calls _ _ _ rfl).mono ?_; rintro e w' ⟨he, hdd⟩; subst he; have hd := hdd.below; clear hdd; have hS2 := HS.out.step hd; clear HS hd; have HS := Lib.hid hS2; clear hS2); have k0 := kCe HS.out.now.2 0; have k1 := kCe HS.out.now.2 1; have k2 := kCe HS.out.now.2 2; have g0 := kCe HS.out.now.1.1.1.2 0; have g1 := kCe HS.out.now.1.1.1.2 1; have g2 := kCe HS.out.now.1.1.1.2 2)
    | (go_at_call 16; refine (alike_two HL2.out _ HS.out.now.1.2.c1 HS.out.now.1.2.c2 HS.out.now.1.1.1.1.2.c1 HS.out.now.1.1.1.1.2.c2).mono ?_; rintro e w' ⟨he, hd⟩; subst he; have hS2 := HS.out.step hd; clear HS hd; have HS := Lib.hid hS2; clear hS2))
   go_ret
   exact ⟨rfl, HS.out.now.1.1.1.1.1.1.below⟩
 ·have hno : ∀ r, readS l ≠ .ok r := fun r h => hr ⟨r, h⟩
  have CR := Lib.hid (fun A c (hc : l.length ≤ c) w hC hG hE => read_no (A := A) (c := c) hB (by omega) hc hno w hC hG hE)
  clear hG hE hC hB hl hr hno
  go_enter Tryz.func6, Tryz.ntmps6
  go_upto_region 4 with (first
   | (go_at_call 17; refine (first_c _ HS.out.now.glob HS.out.now.errT).mono ?_; rintro e w' ⟨he, hd⟩; subst he; have hS2 := HS.out.step hd; clear HS hd; have HS := Lib.hid hS2; clear hS2)
   | ((with_reducible refine gDs (N := 12) rfl ?_); refine Kd.R_lit (Kd.int .u8) _ 5 ?hg (N := 12) ?hd (xs := ([] : List Int)) (inner := []) (ok := fun _ => True) (okp := fun _ => True) ?hr ?hp (fun _ hk => hk) trivial (Below.refl _ _) (Nat.le_refl _) (by simp) ?_; (case hd => rfl); (case hg => rfl); (case hr => first | (go_simp; done) | (go_simp; rfl)); (case hp => exact (Reps.none _ _)); intro v12 w12 ho hd hg_ hnew_; clear hg_ hnew_; have hS2 := (HS.out.step hd).and (still_R (Kd.R_lower ho HS.out.now.below.size)); clear HS ho hd; have HS := Lib.hid hS2; clear hS2)
   | ((with_reducible refine gate_builtin (b := .append) (xs := #[.tmp 12, .tmp 13]) rfl ?_); at_builtin; refine Kd.R_append_rows (Kd.int .u8) (w0 := w) w.heap.size rfl (.tmp 12) (.tmp 13) 22 5 (.int .u8 0) 1 rfl Tryz.underlying22 info5 rfl (by decide) (by omega) v12 [] l _ _ _ (fun _ => True) (fun _ => False) rfl rfl ?aO ?aR (fun _ _ h => h) (fun _ h => h.elim) ?aF ?aB ?aS ?aL ?_; (case aR => exact (Kd.C_below HC.out HS.out.now.1.below)); (case aB => exact HS.out.now.1.below); (case aF => exact (fun _ _ => trivial)); (case aO => exact HS.out.now.2); (case aS => exact HS.out.now.1.below.size); (case aL => have := HL.out; simp; omega); intro v14 w14 ho hb hg hat; rw [List.nil_append] at ho; obtain ⟨B, cp, hv1⟩ := Kd.R_slice ho; subst hv1; have hS2 := ((still0 w HW0.out.1 HW0.out.2).step hb).and (still_R ho); clear HS ho hb hg hat; have HS := Lib.hid hS2; clear hS2)
   | (go_at_call 11; refine (CR.out B cp (R_as HS.out.now.2 rfl rfl).1 _ (R_as HS.out.now.2 rfl rfl).2 HS.out.now.1.glob HS.out.now.1.errT).mono ?_; rintro e w3 ⟨a, he, hd⟩; subst he; have hS2 := HS.out.step hd; clear HS hd; have HS := Lib.hid hS2; clear hS2))
  have hS2 := (HS.out.alloc (.cells #[.int .u64 0, .slice none 0 0, .slice none 0 0] 28)).and (still_box w3 _)
  clear HS; have HS := Lib.hid hS2; clear hS2
  have g0 := kCe HS.out.now.2 0; have g1 := kCe HS.out.now.2 1; have g2 := kCe HS.out.now.2 2
  go_wp2_with (first
   | (go_at_call 16; refine (alike_zero _).mono ?_; rintro e w' ⟨he, hd⟩; subst he; have hS2 := HS.out.step hd; clear HS hd; have HS := Lib.hid hS2; clear hS2))
  go_ret
  exact ⟨rfl, HS.out.now.1.1.below⟩
end Go.Proofs.YtbnlifldnjgpmaaGreatDoor.PWri
