/- ImageReasons walked: errors.Is finds the reason of every refusal. -/
import Derived.Test.YtbnlifldnjgpmaaGreatDoorCGr4
import Derived.Test.YtbnlifldnjgpmaaGreatDoorCFstC
import Derived.Test.YtbnlifldnjgpmaaGreatDoorCErrIs
import Derived.Deep.DeepCutAuto
import Derived.Deep.RegionWith
set_option linter.unusedVariables false
set_option linter.unusedSimpArgs false
namespace Go.Proofs.YtbnlifldnjgpmaaGreatDoor.PWri
open Go.RowKit Go.Lib Go.Proofs.YtbnlifldnjgpmaaGreatDoorW.PrintWords Go.Proofs.YtbnlifldnjgpmaaGreatDoorW.PrintLast
theorem read_why2 {l : List Int} {e : Int × Int} (h : readS l = .error e) : e.2 ≠ 0 := by
 unfold readS at h
 rcases chk_err h with h | h
 ·exact why_ne h (by decide)
 rcases andThen_err h with h | ⟨_, _, h⟩
 ·exact head_why h
 rcases andThen_err h with h | ⟨_, _, h⟩
 ·exact parts_why _ _ _ h
 rcases andThen_err h with h | ⟨_, _, h⟩
 ·exact names_why h
 ·cases h
/-- An error, and the place and reason that it tells. -/
def ErOf (W : World) (er : Value) (at_ why : Int) : Prop := (er = .nilIface ∧ at_ = 0 ∧ why = 0) ∨ ∃ a, er = .iface 75 (.pointer (some ⟨a, 0, none⟩)) ∧ why ≠ 0 ∧ W.heap[a]? = some (faultObj at_ why)
theorem still_er {W : World} {er : Value} {at_ why : Int} (h : ErOf W er at_ why) : Still W (fun W' => ErOf W' er at_ why) := fun W' hb => by
 rcases h with h | ⟨a, h1, h2, h3⟩
 ·exact .inl h
 ·exact .inr ⟨a, h1, h2, kBe h3 hb⟩
/-- Read, beside the document's reader. -/
theorem read_two (l : List Int) (A : Option Addr) (c : Nat) (h : Bytes l) (hl : l.length ≤ 1099511627776) (hc : l.length ≤ c) (w : World) (hC : Kd.C (Kd.int .u8) w A l.length l) (hG : Glob w) (hE : ErrT w) :
 Calls Tryz.prog 11 #[.slice A l.length c] w fun e w' => ∃ (en : Int) (segs : List S55) (syms : List S82) (A1 A2 : Option Addr) (c1 c2 : Nat) (er : Value) (at_ why : Int) (k : Nat),
  e = .returned (.tuple #[.agg #[.int .u64 en, .slice A1 segs.length c1, .slice A2 syms.length c2], er]) ∧ anvilref02_Read.f k l = some (en, segs, syms, 0, at_, why) ∧ ErOf w' er at_ why ∧ Below w.heap.size w w' := by
 refine (read_c l A c h hl hc w hC hG hE).mono ?_
 rintro e w' (⟨en, segs, syms, v1, v2, ps, qs, ys, h1, h2, h3, h4, h5, h6, h7, h8, h9, h10⟩ | ⟨at_, why, a, h1, h2, h3, h4, h5⟩)
 ·have p1 : (ps.map (·.1)).Perm segs := h3 ▸ h4.map _
  obtain ⟨k, hk⟩ := readf_ok h hl h1 p1 (List.pairwise_map.2 h5) h7 h8
  have R1 := Kd.R_mono (Kd.R_bound h6.R) (ok' := fun k => w.heap.size ≤ k) (fun k hk => hk.2.1)
  have R2 := Kd.R_mono (Kd.R_bound (R_of_ownY h9)) (ok' := fun k => w.heap.size ≤ k) (fun k hk => hk.2.1)
  obtain ⟨A1, c1, rfl⟩ := Kd.R_slice R1
  obtain ⟨A2, c2, rfl⟩ := Kd.R_slice R2
  exact ⟨en, ps.map (·.1), ys, A1, A2, c1, c2, .nilIface, 0, 0, k, h2, hk k (Nat.le_refl _), .inl ⟨rfl, rfl, rfl⟩, h10⟩
 ·obtain ⟨k, hk⟩ := readf_err h hl h1
  exact ⟨0, [], [], none, none, 0, 0, _, at_, why, k, h2, hk k (Nat.le_refl _), .inr ⟨a, rfl, read_why2 h1, h3⟩, h5⟩
theorem ref_two (l : List Int) (A : Option Addr) (c : Nat) (hc : l.length ≤ c) {en at_ why : Int} {segs : List S55} {syms : List S82} {k : Nat} (hk : anvilref02_Read.f k l = some (en, segs, syms, 0, at_, why)) (w : World) (hC : Kd.C (Kd.int .u8) w A l.length l) (hG : Glob w) :
 Calls Tryz.prog 12 #[.slice A l.length c] w fun e w' => ∃ (A1 A2 : Option Addr) (c1 c2 : Nat), e = .returned (.tuple #[.agg #[.int .u64 en, .slice A1 segs.length c1, .slice A2 syms.length c2], .agg #[.int .i64 0, .int .i64 at_, .int .i64 why]]) ∧ Below w.heap.size w w' := by
 refine (anvilref02_Read.calls k A c l en segs syms 0 at_ why w hC hc hG hk).mono ?_
 rintro e w' ⟨v1, v2, rfl, h1, h2, h3⟩
 have h1' := Kd.N_mono h1 (ok' := fun k => w.heap.size ≤ k) (fun k hk => hk.1)
 clear h1
 obtain ⟨A1, c1, rfl⟩ := Kd.N_slice h1'
 obtain ⟨A2, c2, rfl⟩ := Kd.R_slice h2
 exact ⟨A1, A2, c1, c2, rfl, h3⟩
set_option maxHeartbeats 16000000 in
set_option maxRecDepth 1000000 in
theorem imageReasons_c {l : List Int} {A : Option Addr} {c : Nat} (hB : Bytes l) (hl : l.length ≤ 1048576) (hc : l.length ≤ c) (w : World) (hC : Kd.C (Kd.int .u8) w A l.length l) (hG : Glob w) (hE : ErrT w) :
 Calls Tryz.prog 9 #[.slice A l.length c] w fun en w' => en = .returned (.bool true) ∧ Below w.heap.size w w' := by
 have HW0 := Lib.hid (And.intro hG hE)
 have HC := Lib.hid hC
 have HS := Lib.hid (still0 w hG hE)
 have HL := Lib.hid hl
 have HCC := Lib.hid hc
 have CR := Lib.hid (fun A c (hc : l.length ≤ c) w hC hG hE => read_two l A c hB (by omega) hc w hC hG hE)
 have CF := Lib.hid (fun en at_ why segs syms k hk w hC hG => ref_two l A c hc (en := en) (at_ := at_) (why := why) (segs := segs) (syms := syms) (k := k) hk w hC hG)
 clear hG hE hC hB hl hc
 go_enter Tryz.func9, Tryz.ntmps9
 go_upto_region 2 with (first
  | ((with_reducible refine gDs (N := 8) rfl ?_); refine Kd.R_lit (Kd.int .u8) _ 5 ?hg (N := 8) ?hd (xs := ([] : List Int)) (inner := []) (ok := fun _ => True) (okp := fun _ => True) ?hr ?hp (fun _ hk => hk) trivial (Below.refl _ _) (Nat.le_refl _) (by simp) ?_; (case hd => rfl); (case hg => rfl); (case hr => first | (go_simp; done) | (go_simp; rfl)); (case hp => exact (Reps.none _ _)); intro v12 w12 ho hd hg_ hnew_; clear hg_ hnew_; have hS2 := (HS.out.step hd).and (still_R (Kd.R_lower ho HS.out.now.below.size)); clear HS ho hd; have HS := Lib.hid hS2; clear hS2)
  | ((with_reducible refine gate_builtin (b := .append) (xs := #[.tmp 8, .tmp 9]) rfl ?_); at_builtin; refine Kd.R_append_rows (Kd.int .u8) (w0 := w) w.heap.size rfl (.tmp 8) (.tmp 9) 22 5 (.int .u8 0) 1 rfl Tryz.underlying22 info5 rfl (by decide) (by omega) v12 [] l _ _ _ (fun _ => True) (fun _ => False) rfl rfl ?aO ?aR (fun _ _ h => h) (fun _ h => h.elim) ?aF ?aB ?aS ?aL ?_; (case aR => exact (Kd.C_below HC.out HS.out.now.1.below)); (case aB => exact HS.out.now.1.below); (case aF => exact (fun _ _ => trivial)); (case aO => exact HS.out.now.2); (case aS => exact HS.out.now.1.below.size); (case aL => have := HL.out; simp; omega); intro v14 w14 ho hb hg hat; rw [List.nil_append] at ho; obtain ⟨B, cp, hv1⟩ := Kd.R_slice ho; subst hv1; have hS2 := ((still0 w HW0.out.1 HW0.out.2).step hb).and (still_R ho); clear HS ho hb hg hat; have HS := Lib.hid hS2; clear hS2)
  | (go_at_call 11; refine (CR.out B cp (R_as HS.out.now.2 rfl rfl).1 _ (R_as HS.out.now.2 rfl rfl).2 HS.out.now.1.glob HS.out.now.1.errT).mono ?_; rintro e w3 ⟨en, segs, syms, A1, A2, c1, c2, er, at_, why, k, he, hk, her, hd⟩; subst he; have HK := Lib.hid hk; have hS2 := ((HS.out.step hd).imp (fun W h => h.1)).and (still_er her); clear HS hd hk her; have HS := Lib.hid hS2; clear hS2))
 have hS2 := HS.out.alloc (.cells #[.int .u64 en, .slice A1 segs.length c1, .slice A2 syms.length c2] 28)
 clear CR
 clear HS; have HS := Lib.hid hS2; clear hS2
 obtain ⟨W4, hW4⟩ : ∃ W4, w3.alloc (.cells #[.int .u64 en, .slice A1 segs.length c1, .slice A2 syms.length c2] 28) = W4 := ⟨_, rfl⟩
 rw [hW4] at HS ⊢
 clear hW4
 go_upto_region 3 with (first
  | (go_at_call 12; refine (CF.out en at_ why segs syms k HK.out _ (Kd.C_below HC.out HS.out.now.1.below) HS.out.now.1.glob).mono ?_; rintro e w5 ⟨D1, D2, f1, f2, he, hd⟩; subst he; have hS2 := HS.out.step hd; clear HS hd; have HS := Lib.hid hS2; clear hS2))
 have hS2 := ((HS.out.alloc (.cells #[.int .u64 en, .slice D1 segs.length f1, .slice D2 syms.length f2] 28)).alloc (faultObj at_ why)).and (still_box (w5.alloc (.cells #[.int .u64 en, .slice D1 segs.length f1, .slice D2 syms.length f2] 28)) (faultObj at_ why))
 clear HS; have HS := Lib.hid hS2; clear hS2
 obtain ⟨p6, hp6⟩ : ∃ p6, (w5.alloc (.cells #[.int .u64 en, .slice D1 segs.length f1, .slice D2 syms.length f2] 28)).heap.size = p6 := ⟨_, rfl⟩
 have hp6' : w5.heap.size + 1 = p6 := by rw [← hp6]; simp
 obtain ⟨W6, hW6⟩ : ∃ W6, (w5.alloc (.cells #[.int .u64 en, .slice D1 segs.length f1, .slice D2 syms.length f2] 28)).alloc (faultObj at_ why) = W6 := ⟨_, rfl⟩
 have hW7 : (w5.alloc (.cells #[.int .u64 en, .slice D1 segs.length f1, .slice D2 syms.length f2] 28)).alloc (.cells #[.int .i64 0, .int .i64 at_, .int .i64 why] 35) = W6 := hW6
 rw [hW6, hp6] at HS
 rw [hW7, hp6']
 clear hW6 hW7 hp6 hp6' CF HCC HC HL
 have q2 := kCe HS.out.now.2 2
 rcases HS.out.now.1.2 with ⟨rfl, rfl, rfl⟩ | ⟨a, rfl, hy, _⟩
 ·go_wp2_with (first
   | (go_at_call 14; refine (anvillaw02_num.calls _ _ _ rfl).mono ?_; rintro e w' ⟨he, hdd⟩; subst he; have hd := hdd.below; clear hdd; have hS2 := HS.out.step hd; clear HS hd; have HS := Lib.hid hS2; clear hS2)
   | (go_at_call 17; refine (first_c _ HS.out.now.1.1.glob HS.out.now.1.1.errT).mono ?_; rintro e w' ⟨he, hd⟩; subst he; have hS2 := HS.out.step hd; clear HS hd; have HS := Lib.hid hS2; clear hS2))
  go_ret
  exact ⟨rfl, HS.out.now.1.1.below⟩
 ·have hyb : (why == 0) = false := beq_eq_false_iff_ne.mpr hy
  go_wp2_with (first
   | (go_at_call 14; refine (anvillaw02_num.calls _ _ _ rfl).mono ?_; rintro e w' ⟨he, hdd⟩; subst he; have hd := hdd.below; clear hdd; have hS2 := HS.out.step hd; clear HS hd; have HS := Lib.hid hS2; clear hS2; have q3 := kCe HS.out.now.2 2)
   | (go_at_call 22; obtain ⟨hea, _, _⟩ | ⟨a2, hea, _, ha⟩ := HS.out.now.1.2; (cases hea); (cases hea; refine (ErrIs.is_fault a why _ (kCe ha 2)).mono ?_; clear ha; rintro e w8 ⟨he, hw8⟩; subst he; subst hw8)))
  go_ret
  exact ⟨rfl, HS.out.now.1.1.below⟩
end Go.Proofs.YtbnlifldnjgpmaaGreatDoor.PWri
