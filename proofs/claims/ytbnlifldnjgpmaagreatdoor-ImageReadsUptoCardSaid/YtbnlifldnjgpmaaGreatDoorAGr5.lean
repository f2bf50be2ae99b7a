/- ImageReads walked: what Read answers is what the document's reader answers; what is handed in stays, and is not kept. -/
import Derived.Test.YtbnlifldnjgpmaaGreatDoorAGr4
import Derived.Test.YtbnlifldnjgpmaaGreatDoorRows
import Derived.Test.YtbnlifldnjgpmaaGreatDoorAWds1
import Derived.ChangeArms
import Derived.DataReads
import Derived.ProofKit
import Derived.Test.YtbnlifldnjgpmaaGreatDoorAGr1
import Derived.Deep.DeepHandedRow
import Derived.Deep.DeepWitnessRowRef
import Derived.SizedLaws
import Derived.LaidLaws
import Derived.LaidHandle
set_option linter.unusedVariables false
set_option linter.unusedSimpArgs false
namespace Go.Proofs.YtbnlifldnjgpmaaGreatDoor.PWri
open Go.RowKit Go.Lib Go.Proofs.YtbnlifldnjgpmaaGreatDoorW.PrintWords Go.Proofs.YtbnlifldnjgpmaaGreatDoorW.PrintLast
theorem read_why {l : List Int} {e : Int × Int} (h : readS l = .error e) : e.2 ≠ 0 := by
 unfold readS at h
 rcases chk_err h with h | h
 ·exact why_ne h (by decide)
 rcases andThen_err h with h | ⟨_, _, h⟩
 ·exact head_why h
 rcases andThen_err h with h | ⟨_, _, h⟩
 ·exact parts_why _ _ _ h
 rcases andThen_err h with h | ⟨_, _, h⟩
 ·exact names_why h
 ·cases h
/-- An error, and the place and reason that it tells. -/
def ErAt (W : World) (er : Value) (at_ why : Int) : Prop := (er = .nilIface ∧ at_ = 0 ∧ why = 0) ∨ ∃ a, er = .iface 75 (.pointer (some ⟨a, 0, none⟩)) ∧ why ≠ 0 ∧ W.heap[a]? = some (faultObj at_ why)
theorem ErAt.below {W W' : World} {er : Value} {at_ why : Int} (h : ErAt W er at_ why) (hb : Below W.heap.size W W') : ErAt W' er at_ why := by
 rcases h with h | ⟨a, h1, h2, h3⟩
 ·exact .inl h
 ·exact .inr ⟨a, h1, h2, kBe h3 hb⟩
theorem ErAt.alloc {W : World} {er : Value} {at_ why : Int} (h : ErAt W er at_ why) (o : Obj) : ErAt (W.alloc o) er at_ why := h.below ((Below.refl _ W).alloc (Nat.le_refl _) o)
/-- What Read comes to, beside the document's reader. -/
def ReadLaw (l : List Int) (w : World) (e : Ending) (w' : World) : Prop :=
 ∃ (en : Int) (segs : List S55) (syms : List S82) (A1 A2 : Option Addr) (c1 c2 : Nat) (er : Value) (at_ why : Int) (k : Nat),
  e = .returned (.tuple #[.agg #[.int .u64 en, .slice A1 segs.length c1, .slice A2 syms.length c2], er]) ∧ anvilref02_Read.f k l = some (en, segs, syms, 0, at_, why) ∧ syms.length ≤ 400 ∧
   Kd.R k55 55 w' w.heap.size (fun k => w.heap.size ≤ k) (.slice A1 segs.length c1) segs ∧ Kd.R k82 82 w' w.heap.size (fun k => w.heap.size ≤ k) (.slice A2 syms.length c2) syms ∧ Below w.heap.size w w' ∧
   ErAt w' er at_ why
theorem readS_len {l : List Int} {en : Int} {segs : List S55} {syms : List S82} (h : readS l = .ok (en, segs, syms)) : syms.length ≤ 400 := by
 unfold readS at h
 obtain ⟨_, h⟩ := chk_yes h
 obtain ⟨_, _, h⟩ := andThen_yes h
 obtain ⟨_, _, h⟩ := andThen_yes h
 obtain ⟨o, hn, h⟩ := andThen_yes h
 injection h with h
 injection h with _ h
 injection h with _ h
 subst h
 exact names_len hn
theorem read_law (l : List Int) (A : Option Addr) (c : Nat) (h : Bytes l) (hl : l.length ≤ 1099511627776) (hc : l.length ≤ c) (w : World) (hC : Kd.C (Kd.int .u8) w A l.length l) (hG : Glob w) (hE : ErrT w) :
 Calls Tryz.prog 11 #[.slice A l.length c] w (ReadLaw l w) := by
 refine (read_c l A c h hl hc w hC hG hE).mono ?_
 rintro e w' (⟨en, segs, syms, v1, v2, ps, qs, ys, h1, h2, h3, h4, h5, h6, h7, h8, h9, h10⟩ | ⟨at_, why, a, h1, h2, h3, h4, h5⟩)
 ·have p1 : (ps.map (·.1)).Perm segs := h3 ▸ h4.map _
  obtain ⟨k, hk⟩ := readf_ok h hl h1 p1 (List.pairwise_map.2 h5) h7 h8
  have R1 := Kd.R_mono (Kd.R_bound h6.R) (ok' := fun k => w.heap.size ≤ k) (fun k hk => hk.2.1)
  have R2 := Kd.R_mono (Kd.R_bound (R_of_ownY h9)) (ok' := fun k => w.heap.size ≤ k) (fun k hk => hk.2.1)
  obtain ⟨A1, c1, rfl⟩ := Kd.R_slice R1
  obtain ⟨A2, c2, rfl⟩ := Kd.R_slice R2
  exact ⟨en, ps.map (·.1), ys, A1, A2, c1, c2, .nilIface, 0, 0, k, h2, hk k (Nat.le_refl _), by rw [h7.length_eq]; exact readS_len h1, R1, R2, h10, .inl ⟨rfl, rfl, rfl⟩⟩
 ·obtain ⟨k, hk⟩ := readf_err h hl h1
  exact ⟨0, [], [], none, none, 0, 0, _, at_, why, k, h2, hk k (Nat.le_refl _), Nat.zero_le _, Kd.R_nil _ _ _ _ _, Kd.R_nil _ _ _ _ _, h5, .inr ⟨a, rfl, read_why h1, h3⟩⟩
/-- The loose copy. -/
theorem loose_law (l : List Int) (A : Option Addr) (c : Nat) (hl : l.length ≤ 1099511627776) (hc : l.length ≤ c) (w : World) (hC : Kd.C (Kd.int .u8) w A l.length l) :
 Calls Tryz.prog 10 #[.slice A l.length c] w fun e w' => ∃ g cap, e = .returned (.slice (some ⟨g, 0, none⟩) (l.length + 64) cap) ∧ w.heap.size ≤ g ∧ g < w'.heap.size ∧ l.length + 64 ≤ cap ∧ Kd.R (Kd.int .u8) 5 w' w.heap.size (fun _ => True) (.slice (some ⟨g, 0, none⟩) (l.length + 64) cap) (l ++ marks) ∧ Below w.heap.size w w' := by
 obtain ⟨k, hk⟩ := loose_ev l hl
 have hL : (l ++ marks).length = l.length + 64 := by rw [List.length_append]; exact congrArg _ (marks_len 64 0)
 refine (anvillaw02_loose.calls k A c l (l ++ marks) w hC hc (hk k (Nat.le_refl _))).mono ?_
 rintro e w' ⟨v, rfl, hR, hb⟩
 obtain ⟨g, cap, rfl, h1, h2, _⟩ := Kd.R_form hR (by omega)
 have h3 := (Kd.R_reads' hR).2.1
 rw [hL] at hR h3
 exact ⟨g, cap, by rw [hL], h1, h2, h3, hR, hb⟩
theorem place_law (er : Value) (at_ why : Int) (w : World) (hE : ErrT w) (h : ErAt w er at_ why) :
 Calls Tryz.prog 13 #[er] w fun e w' => e = .returned (.tuple #[.agg #[.int .i64 0, .int .i64 at_, .int .i64 why], .bool true]) ∧ Below w.heap.size w w' := by
 rcases h with ⟨rfl, rfl, rfl⟩ | ⟨a, rfl, _, ha⟩
 ·exact place_nil w
 ·exact place_hit a at_ why w hE ha
theorem ref_law (l : List Int) (A : Option Addr) (c : Nat) (hc : l.length ≤ c) {en at_ why : Int} {segs : List S55} {syms : List S82} {k : Nat} (hk : anvilref02_Read.f k l = some (en, segs, syms, 0, at_, why)) (w : World) (hC : Kd.C (Kd.int .u8) w A l.length l) (hG : Glob w) :
 Calls Tryz.prog 12 #[.slice A l.length c] w fun e w' => ∃ (A1 A2 : Option Addr) (c1 c2 : Nat), e = .returned (.tuple #[.agg #[.int .u64 en, .slice A1 segs.length c1, .slice A2 syms.length c2], .agg #[.int .i64 0, .int .i64 at_, .int .i64 why]]) ∧
  Kd.N k55 55 w' w.heap.size (fun k => w.heap.size ≤ k) (.slice A1 segs.length c1) segs ∧ Kd.R k82 82 w' w.heap.size (fun k => w.heap.size ≤ k) (.slice A2 syms.length c2) syms ∧ Below w.heap.size w w' := by
 refine (anvilref02_Read.calls k A c l en segs syms 0 at_ why w hC hc hG hk).mono ?_
 rintro e w' ⟨v1, v2, rfl, h1, h2, h3⟩
 have h1' := Kd.N_mono h1 (ok' := fun k => w.heap.size ≤ k) (fun k hk => hk.1)
 clear h1
 obtain ⟨A1, c1, rfl⟩ := Kd.N_slice h1'
 obtain ⟨A2, c2, rfl⟩ := Kd.R_slice h2
 exact ⟨A1, A2, c1, c2, rfl, h1', h2, h3⟩
theorem kept_law (l : List Int) (A : Option Addr) (c g cap base : Nat) (hl : l.length ≤ 1099511627776) (hc : l.length ≤ c) (w : World) (hR : Kd.R (Kd.int .u8) 5 w base (fun _ => True) (.slice (some ⟨g, 0, none⟩) (l.length + 64) cap) (l ++ marks)) (hC : Kd.C (Kd.int .u8) w A l.length l) :
 Calls Tryz.prog 15 #[.slice (some ⟨g, 0, none⟩) (l.length + 64) cap, .slice A l.length c] w fun e w' => e = .returned (.bool true) ∧ Below w.heap.size w w' := by
 obtain ⟨k, hk⟩ := kept_ev l hl
 have hL : (l ++ marks).length = l.length + 64 := by rw [List.length_append]; exact congrArg _ (marks_len 64 0)
 obtain ⟨_, h2, h3⟩ := Kd.R_reads' hR
 have C := anvillaw02_kept.calls k (some ⟨g, 0, none⟩) cap (l ++ marks) A c l true w h3 (by omega) hC hc (hk k (Nat.le_refl _))
 rw [hL] at C
 refine C.mono ?_
 rintro e w' ⟨rfl, hd⟩
 exact ⟨rfl, hd.below⟩
/-- The world while the loose list is marked. -/
structure LW (w : World) (g n cap b1 b2 : Nat) (V1 V2 U1 U2 : Value) (segs : List S55) (syms : List S82) (W : World) : Prop where
 below : Below w.heap.size w W
 row : ∃ xs : List Int, Kd.R (Kd.int .u8) 5 W w.heap.size (fun _ => True) (.slice (some ⟨g, 0, none⟩) n cap) xs
 im1 : Kd.R k55 55 W b1 (fun k => b1 ≤ k) V1 segs
 im2 : Kd.R k82 82 W b1 (fun k => b1 ≤ k) V2 syms
 wa1 : Kd.N k55 55 W b2 (fun k => b2 ≤ k) U1 segs
 wa2 : Kd.R k82 82 W b2 (fun k => b2 ≤ k) U2 syms
theorem LW.step {w : World} {g n cap b1 b2 : Nat} {V1 V2 U1 U2 : Value} {segs : List S55} {syms : List S82} {W W' : World} (h : LW w g n cap b1 b2 V1 V2 U1 U2 segs syms W) (hb : Below W.heap.size W W') : LW w g n cap b1 b2 V1 V2 U1 U2 segs syms W' := by
 obtain ⟨xs, hx⟩ := h.row
 exact ⟨h.below.trans (hb.mono h.below.size), ⟨xs, Kd.R_below hx hb⟩, Kd.R_below h.im1 hb, Kd.R_below h.im2 hb, Kd.N_below h.wa1 hb, Kd.R_below h.wa2 hb⟩
theorem LW.put {w : World} {g n cap b1 b2 : Nat} {V1 V2 U1 U2 : Value} {segs : List S55} {syms : List S82} {W : World} (h : LW w g n cap b1 b2 V1 V2 U1 U2 segs syms W) (hg : w.heap.size ≤ g) (h1 : g < b1) (h2 : g < b2) (i x : Int) : LW w g n cap b1 b2 V1 V2 U1 U2 segs syms (W.setCell ⟨g, i.toNat, none⟩ (.int .u8 x)) := by
 obtain ⟨xs, hx⟩ := h.row
 have n1 : ∀ k, b1 ≤ k → k ≠ g := fun k hk => by omega
 have n2 : ∀ k, b2 ≤ k → k ≠ g := fun k hk => by omega
 exact ⟨h.below.setCell (p := ⟨g, i.toNat, none⟩) hg _, ⟨_, Kd.R_putn hx i x⟩, Kd.R_far h.im1 (p := ⟨g, i.toNat, none⟩) n1 _, Kd.R_far h.im2 (p := ⟨g, i.toNat, none⟩) n1 _, Kd.N_far h.wa1 (p := ⟨g, i.toNat, none⟩) n2 _, Kd.R_far h.wa2 (p := ⟨g, i.toNat, none⟩) n2 _⟩
theorem LW.cell {w : World} {g n cap b1 b2 : Nat} {V1 V2 U1 U2 : Value} {segs : List S55} {syms : List S82} {W : World} (h : LW w g n cap b1 b2 V1 V2 U1 U2 segs syms W) (i : Int) (h0 : 0 ≤ i) (h1 : i < n) : ∃ x : Int, W.cell? ⟨g, i.toNat, none⟩ = some (.int .u8 x) ∧ W.frozen? ⟨g, i.toNat, none⟩ = false := by
 obtain ⟨xs, hx⟩ := h.row
 obtain ⟨h2, h3⟩ := Kd.R_celln 0 hx i h0 h1
 exact ⟨_, h2, h3⟩
theorem LW.start {w w1 w2 w3 : World} {g n cap : Nat} {V1 V2 U1 U2 : Value} {segs : List S55} {syms : List S82} {xs : List Int} (o : Obj) (h1 : Below w.heap.size w w1) (hR : Kd.R (Kd.int .u8) 5 w1 w.heap.size (fun _ => True) (.slice (some ⟨g, 0, none⟩) n cap) xs) (h2 : Below w1.heap.size w1 w2)
 (r1 : Kd.R k55 55 w2 w1.heap.size (fun k => w1.heap.size ≤ k) V1 segs) (r2 : Kd.R k82 82 w2 w1.heap.size (fun k => w1.heap.size ≤ k) V2 syms) (h3 : Below (w2.alloc o).heap.size (w2.alloc o) w3)
 (r3 : Kd.N k55 55 w3 (w2.alloc o).heap.size (fun k => (w2.alloc o).heap.size ≤ k) U1 segs) (r4 : Kd.R k82 82 w3 (w2.alloc o).heap.size (fun k => (w2.alloc o).heap.size ≤ k) U2 syms) :
 LW w g n cap w1.heap.size (w2.alloc o).heap.size V1 V2 U1 U2 segs syms w3 ∧ Kd.R (Kd.int .u8) 5 w3 w.heap.size (fun _ => True) (.slice (some ⟨g, 0, none⟩) n cap) xs := by
 have a23 : Below w2.heap.size w2 w3 := ((Below.refl _ w2).alloc (Nat.le_refl _) o).trans (h3.mono (by simp))
 have a13 : Below w1.heap.size w1 w3 := h2.trans (a23.mono h2.size)
 have R := Kd.R_below hR a13
 exact ⟨⟨h1.trans (a13.mono h1.size), ⟨xs, R⟩, Kd.R_below r1 a23, Kd.R_below r2 a23, r3, r4⟩, R⟩
/-- .. and the two images' variables stand. -/
structure LX (w : World) (g n cap b1 b2 : Nat) (V1 V2 U1 U2 : Value) (segs : List S55) (syms : List S82) (p4 p6 : Nat) (en : Int) (W : World) : Prop where
 lw : LW w g n cap b1 b2 V1 V2 U1 U2 segs syms W
 x4 : W.heap[p4]? = some (.cells #[.int .u64 en, V1, V2] 28 (0, 0))
 x6 : W.heap[p6]? = some (.cells #[.int .u64 en, U1, U2] 28 (0, 0))
theorem LX.step {w : World} {g n cap b1 b2 p4 p6 : Nat} {V1 V2 U1 U2 : Value} {segs : List S55} {syms : List S82} {en : Int} {W W' : World} (h : LX w g n cap b1 b2 V1 V2 U1 U2 segs syms p4 p6 en W) (hb : Below W.heap.size W W') : LX w g n cap b1 b2 V1 V2 U1 U2 segs syms p4 p6 en W' := ⟨h.lw.step hb, kBe h.x4 hb, kBe h.x6 hb⟩
theorem LX.put {w : World} {g n cap b1 b2 p4 p6 : Nat} {V1 V2 U1 U2 : Value} {segs : List S55} {syms : List S82} {en : Int} {W : World} (h : LX w g n cap b1 b2 V1 V2 U1 U2 segs syms p4 p6 en W) (hg : w.heap.size ≤ g) (h1 : g < b1) (h2 : g < b2) (h3 : p4 ≠ g) (h4 : p6 ≠ g) (i x : Int) : LX w g n cap b1 b2 V1 V2 U1 U2 segs syms p4 p6 en (W.setCell ⟨g, i.toNat, none⟩ (.int .u8 x)) :=
 ⟨h.lw.put hg h1 h2 i x, blk_far h.x4 (p := ⟨g, i.toNat, none⟩) h3 _, blk_far h.x6 (p := ⟨g, i.toNat, none⟩) h4 _⟩
/-- The world of the comparison. -/
structure LK (w : World) (g n cap b1 b2 : Nat) (V1 V2 U1 U2 : Value) (segs : List S55) (syms : List S82) (p4 p6 : Nat) (en : Int) (xs : List Int) (p7 p8 : Nat) (at_ why : Int) (W : World) : Prop where
 lx : LX w g n cap b1 b2 V1 V2 U1 U2 segs syms p4 p6 en W
 rk : Kd.R (Kd.int .u8) 5 W w.heap.size (fun _ => True) (.slice (some ⟨g, 0, none⟩) n cap) xs
 x7 : W.heap[p7]? = some (faultObj at_ why)
 x8 : W.heap[p8]? = some (faultObj at_ why)
theorem LK.step {w : World} {g n cap b1 b2 p4 p6 p7 p8 : Nat} {V1 V2 U1 U2 : Value} {segs : List S55} {syms : List S82} {en at_ why : Int} {xs : List Int} {W W' : World} (h : LK w g n cap b1 b2 V1 V2 U1 U2 segs syms p4 p6 en xs p7 p8 at_ why W) (hb : Below W.heap.size W W') : LK w g n cap b1 b2 V1 V2 U1 U2 segs syms p4 p6 en xs p7 p8 at_ why W' :=
 ⟨h.lx.step hb, Kd.R_below h.rk hb, kBe h.x7 hb, kBe h.x8 hb⟩
theorem LK.cells {w : World} {g n cap b1 b2 p4 p6 p7 p8 : Nat} {V1 V2 U1 U2 : Value} {segs : List S55} {syms : List S82} {en at_ why : Int} {xs : List Int} {W : World} (h : LK w g n cap b1 b2 V1 V2 U1 U2 segs syms p4 p6 en xs p7 p8 at_ why W) :
 W.cell? ⟨p7, 0, none⟩ = some (.int .i64 0) ∧ W.cell? ⟨p7, 1, none⟩ = some (.int .i64 at_) ∧ W.cell? ⟨p7, 2, none⟩ = some (.int .i64 why) ∧ W.cell? ⟨p8, 0, none⟩ = some (.int .i64 0) ∧ W.cell? ⟨p8, 1, none⟩ = some (.int .i64 at_) ∧ W.cell? ⟨p8, 2, none⟩ = some (.int .i64 why) :=
 ⟨kCe h.x7 0, kCe h.x7 1, kCe h.x7 2, kCe h.x8 0, kCe h.x8 1, kCe h.x8 2⟩
theorem alike_law {w : World} {g n cap b1 b2 : Nat} {A1 A2 B1 B2 : Option Addr} {c1 c2 d1 d2 : Nat} {en : Int} {segs : List S55} {syms : List S82} {W : World} (hs : syms.length ≤ 400)
 (h : LW w g n cap b1 b2 (.slice A1 segs.length c1) (.slice A2 syms.length c2) (.slice B1 segs.length d1) (.slice B2 syms.length d2) segs syms W) :
 Calls Tryz.prog 16 #[.agg #[.int .u64 en, .slice A1 segs.length c1, .slice A2 syms.length c2], .agg #[.int .u64 en, .slice B1 segs.length d1, .slice B2 syms.length d2]] W fun e w' => e = .returned (.bool true) ∧ Below W.heap.size W w' := by
 obtain ⟨k, hk⟩ := alike_self en segs syms (by omega)
 obtain ⟨_, a1, a2⟩ := Kd.R_reads' h.im1
 obtain ⟨_, a3, a4⟩ := Kd.R_reads' h.im2
 obtain ⟨_, a5, a6⟩ := Kd.N_reads' h.wa1
 obtain ⟨_, a7, a8⟩ := Kd.R_reads' h.wa2
 exact anvillaw02_alike.calls k en A1 c1 segs A2 c2 syms en B1 d1 segs B2 d2 syms true W a2 a1 a4 a3 a6 a5 a8 a7 (hk k (Nat.le_refl _))
/-- The loose copy's first bytes are read. -/
theorem loose_C {l : List Int} {W : World} {base g cap : Nat} (hR : Kd.R (Kd.int .u8) 5 W base (fun _ => True) (.slice (some ⟨g, 0, none⟩) (l.length + 64) cap) (l ++ marks)) : Kd.C (Kd.int .u8) W (some ⟨g, 0, none⟩) l.length l := by
 have h := Kd.R_take hR (m := l.length) (by rw [List.length_append]; omega)
 rw [List.take_left] at h
 exact (Kd.R_reads' h).2.2
set_option maxHeartbeats 16000000 in
set_option maxRecDepth 1000000 in
theorem imageReads_c (l : List Int) (A : Option Addr) (c : Nat) (h : Bytes l) (hl : l.length ≤ 1048576) (hc : l.length ≤ c) (w : World) (hC : Kd.C (Kd.int .u8) w A l.length l) (hG : Glob w) (hE : ErrT w) :
 Calls Tryz.prog 3 #[.slice A l.length c] w fun e w' => e = .returned (.bool true) ∧ Below w.heap.size w w' := by
 have HG := Lib.hid hG
 have HC := Lib.hid hC
 have HB := Lib.hid h
 have HE := Lib.hid hE
 have CL := Lib.hid (loose_law l A c (by omega) hc w hC)
 obtain ⟨i1, hi1', _, hsz5', _⟩ := info_parts info5
 clear hC hG hE h
 go_enter Tryz.func3, Tryz.ntmps3
 go_wp2_with (first | (go_at_call 10; refine CL.out.mono ?_; rintro e w1 ⟨g, cap, rfl, hg, hg1, hcap, hR, hb⟩; clear CL; have hL : (l ++ marks).length = l.length + 64 := (by rw [List.length_append]; exact congrArg _ (marks_len 64 0)); have hsl := (print_take_of (P := Tryz.prog) (Value.int .u8) 0 22 5 .i64 Tryz.underlying22 hi1' hsz5' (some ⟨g, 0, none⟩) cap (l ++ marks) (l.length : Int) (by omega) (by omega) (by omega)).1; rw [hL, Int.toNat_natCast, List.take_left] at hsl; have HR := Lib.hid hR; have HW := Lib.hid hb; clear hR hb) | (go_at_call 11; have hW1 := HW.out; refine (read_law l (some ⟨g, 0, none⟩) cap HB.out (by omega) (by omega) w1 (loose_C HR.out) (Glob.step HG.out hW1) (HE.out.below hW1)).mono ?_; rintro e w2 ⟨en, segs, syms, A1, A2, c1, c2, er, at_, why, k, rfl, hk, hsy, r1, r2, hb2, her⟩; have HK := Lib.hid hk; have HR1 := Lib.hid r1; have HR2 := Lib.hid r2; have HB2 := Lib.hid hb2; have HER := Lib.hid her; clear hW1 hk r1 r2 hb2 her) | (go_at_call 12; go_loud (have hW2a := HW.out.trans (HB2.out.mono HW.out.size); have hW2 := hW2a.alloc hW2a.size (.cells #[.int .u64 en, .slice A1 segs.length c1, .slice A2 syms.length c2] 28); have hx1 := blk_new w2 (.cells #[.int .u64 en, .slice A1 segs.length c1, .slice A2 syms.length c2] 28); refine (ref_law l A c hc HK.out _ (Kd.C_below HC.out hW2) (Glob.step HG.out hW2)).mono ?_; rintro e w3 ⟨B1, B2, d1, d2, rfl, r3, r4, hb3⟩; have HB3 := Lib.hid (Nat.le_trans (by simp) hb3.size : w2.heap.size ≤ w3.heap.size); have hst := LW.start (.cells #[.int .u64 en, .slice A1 segs.length c1, .slice A2 syms.length c2] 28) HW.out HR.out HB2.out HR1.out HR2.out hb3 r3 r4; have HLW := Lib.hid hst.1; have HRK := Lib.hid hst.2; clear hst; have HW3 := Lib.hid (hW2.trans (hb3.mono hW2.size)); have HER3 := Lib.hid ((HER.out.alloc (.cells #[.int .u64 en, .slice A1 segs.length c1, .slice A2 syms.length c2] 28)).below hb3); have HX1 := Lib.hid (kBe hx1 hb3); clear hW2 hW2a hx1 r3 r4 hb3)) | (go_at_call 13; go_loud (have hW4 := HW3.out.alloc HW3.out.size (.cells #[.int .u64 en, .slice B1 segs.length d1, .slice B2 syms.length d2] 28); have hW5 := hW4.alloc hW4.size (.cells #[.int .i64 0, .int .i64 at_, .int .i64 why] 35); have hy2 := blk_new w3 (.cells #[.int .u64 en, .slice B1 segs.length d1, .slice B2 syms.length d2] 28); have hy3 := blk_new (w3.alloc (.cells #[.int .u64 en, .slice B1 segs.length d1, .slice B2 syms.length d2] 28)) (.cells #[.int .i64 0, .int .i64 at_, .int .i64 why] 35); have e3 : (w3.alloc (.cells #[.int .u64 en, .slice B1 segs.length d1, .slice B2 syms.length d2] 28)).heap.size = w3.heap.size + 1 := (by simp); rw [e3] at hy3; refine (place_law er at_ why _ (HE.out.below hW5) ((HER3.out.alloc _).alloc _)).mono ?_; rintro e w4 ⟨rfl, hb4⟩; have HX2 := Lib.hid (kBe (kAl hy2 _) hb4); have HX3 := Lib.hid (kBe hy3 hb4); have hx1 := kBe (kAl (kAl HX1.out (.cells #[.int .u64 en, .slice B1 segs.length d1, .slice B2 syms.length d2] 28)) (.cells #[.int .i64 0, .int .i64 at_, .int .i64 why] 35)) hb4; clear HX1; have HX1 := Lib.hid hx1; have hlw := ((HLW.out.step ((Below.refl _ w3).alloc (Nat.le_refl _) (.cells #[.int .u64 en, .slice B1 segs.length d1, .slice B2 syms.length d2] 28))).step ((Below.refl _ (w3.alloc (.cells #[.int .u64 en, .slice B1 segs.length d1, .slice B2 syms.length d2] 28))).alloc (Nat.le_refl _) (.cells #[.int .i64 0, .int .i64 at_, .int .i64 why] 35))).step hb4; have hrk := Kd.R_below (Kd.R_alloc (Kd.R_alloc HRK.out (.cells #[.int .u64 en, .slice B1 segs.length d1, .slice B2 syms.length d2] 28)) (.cells #[.int .i64 0, .int .i64 at_, .int .i64 why] 35)) hb4; have HW4 := Lib.hid (hW5.trans (hb4.mono hW5.size)); clear HLW HRK HW3; have HLW := Lib.hid hlw; have HRK := Lib.hid hrk; clear hx1 hlw hrk hy2 hy3 hW4 hW5 e3 hb4)))
 have hlk : LK w g (l.length + 64) cap w1.heap.size (w2.alloc (.cells #[.int .u64 en, .slice A1 segs.length c1, .slice A2 syms.length c2] 28)).heap.size (.slice A1 segs.length c1) (.slice A2 syms.length c2) (.slice B1 segs.length d1) (.slice B2 syms.length d2) segs syms w2.heap.size w3.heap.size en (l ++ marks) (w3.heap.size + 1) w4.heap.size at_ why (w4.alloc (faultObj at_ why)) :=
  ⟨⟨HLW.out.step ((Below.refl _ w4).alloc (Nat.le_refl _) _), kAl HX1.out _, kAl HX2.out _⟩, Kd.R_alloc HRK.out _, kAl HX3.out _, blk_new w4 _⟩
 have q4 : w2.heap.size ≠ g := by have := HB2.out.size; omega
 have q6 : w3.heap.size ≠ g := by have := HB3.out; have := HB2.out.size; omega
 have g1 : g < w1.heap.size := hg1
 have g2 : g < (w2.alloc (.cells #[.int .u64 en, .slice A1 segs.length c1, .slice A2 syms.length c2] 28)).heap.size := by have := HB2.out.size; simp; omega
 have HER5 : Hid (er = .nilIface ∧ at_ = 0 ∧ why = 0 ∨ ∃ a, er = .iface 75 (.pointer (some ⟨a, 0, none⟩)) ∧ why ≠ 0) := Lib.hid (HER.out.imp id (fun ⟨a, h1, h2, _⟩ => ⟨a, h1, h2⟩))
 obtain ⟨b2, hb2⟩ : ∃ b2, (w2.alloc (.cells #[.int .u64 en, .slice A1 segs.length c1, .slice A2 syms.length c2] 28)).heap.size = b2 := ⟨_, rfl⟩
 obtain ⟨b1, hb1⟩ : ∃ b1, w1.heap.size = b1 := ⟨_, rfl⟩
 obtain ⟨p7, hp7⟩ : ∃ p7, w3.heap.size + 1 = p7 := ⟨_, rfl⟩
 obtain ⟨p6, hp6⟩ : ∃ p6, w3.heap.size = p6 := ⟨_, rfl⟩
 obtain ⟨p4, hp4⟩ : ∃ p4, w2.heap.size = p4 := ⟨_, rfl⟩
 obtain ⟨p8, hp8⟩ : ∃ p8, w4.heap.size = p8 := ⟨_, rfl⟩
 obtain ⟨W5, hW5⟩ : ∃ W5, w4.alloc (.cells #[.int .i64 0, .int .i64 at_, .int .i64 why] 35) = W5 := ⟨_, rfl⟩
 have hlk : LK w g (l.length + 64) cap b1 b2 (.slice A1 segs.length c1) (.slice A2 syms.length c2) (.slice B1 segs.length d1) (.slice B2 syms.length d2) segs syms p4 p6 en (l ++ marks) p7 p8 at_ why W5 := by
  rw [← hb1, ← hb2, ← hp4, ← hp6, ← hp7, ← hp8, ← hW5]
  exact hlk
 rw [hb2] at g2
 rw [hb1] at g1
 rw [hp7, hp6, hp4, hp8, hW5]
 rw [hp4] at q4
 rw [hp6] at q6
 have HS := Lib.hid hlk
 have hfc := (Lib.hid HS.out.cells).out
 clear hlk hW5 hp8 hp4 hp6 hp7 hb1 hb2 HX1 HX2 HX3 HW4 HLW HRK HER3 HER HK HR1 HR2 HB2 HB3 HR HW hsl hi1' hsz5' hg1 HE HG
 rcases HER5.out with ⟨rfl, rfl, rfl⟩ | ⟨a, rfl, hy⟩
 ·clear HER5
  have hS2 := HS.out.step (below_drew (Below.refl _ _)); clear HS hfc; have HS := Lib.hid hS2; have hfc := (Lib.hid HS.out.cells).out; clear hS2
  go_region_held3 (fun w' => w'.cell? ⟨p7, 0, none⟩ = some (.int .i64 0) ∧ w'.cell? ⟨p7, 1, none⟩ = some (.int .i64 0) ∧ w'.cell? ⟨p7, 2, none⟩ = some (.int .i64 0) ∧ w'.cell? ⟨p8, 0, none⟩ = some (.int .i64 0) ∧ w'.cell? ⟨p8, 1, none⟩ = some (.int .i64 0) ∧ w'.cell? ⟨p8, 2, none⟩ = some (.int .i64 0)) (first | exact hfc | go_keep) (first | (go_at_call 14; refine (anvillaw02_num.calls _ _ _ rfl).mono ?_; rintro e w' ⟨he, hd⟩; subst he; have hS2 := HS.out.step hd.below; clear HS hfc hd; have HS := Lib.hid hS2; have hfc := (Lib.hid HS.out.cells).out; clear hS2) | (go_at_call 15; refine (kept_law l A c g cap _ (by omega) hc _ HS.out.rk (Kd.C_below HC.out HS.out.lx.lw.below)).mono ?_; rintro e w' ⟨he, hd⟩; subst he; have hS2 := HS.out.step hd; clear HS hfc hd; have HS := Lib.hid hS2; have hfc := (Lib.hid HS.out.cells).out; clear hS2))
  go_wp2
  have HS1 := Lib.hid HS.out.lx
  clear HS hfc
  go_loopg [10] (l.length + 64) (fun gm v10 wx => ∃ j : Nat, v10 = .int .i64 (j : Int) ∧ j ≤ l.length + 64 ∧ Hid (gm + j = l.length + 64) ∧ Hid (LX w g (l.length + 64) cap b1 b2 (.slice A1 segs.length c1) (.slice A2 syms.length c2) (.slice B1 segs.length d1) (.slice B2 syms.length d2) segs syms p4 p6 en wx))
  case atStart => exact ⟨0, rfl, by omega, Lib.hid (by omega), HS1⟩
  case round =>
   clear HS1
   obtain ⟨j, rfl, hj, HJ, HS⟩ := hrel
   by_cases hi : j < l.length + 64
   ·obtain ⟨gm, rfl⟩ : ∃ k, gk = k + 1 := ⟨gk - 1, by have := HJ.out; omega⟩
    obtain ⟨x, hx, hz⟩ := HS.out.lw.cell (j : Int) (by omega) (by omega)
    rw [Int.toNat_natCast] at hx hz
    have hd := HS.out.put hg g1 g2 q4 q6 (j : Int) 238
    rw [Int.toNat_natCast] at hd
    have HD := Lib.hid hd
    clear hd HS
    go_wp2
    go_roundg gm
    case measure => omega
    case rel => exact ⟨j + 1, by go_num, by omega, Lib.hid (by have := HJ.out; omega), HD⟩
   ·have c40 := kCe HS.out.x4 0
    have c41 := kCe HS.out.x4 1
    have c42 := kCe HS.out.x4 2
    have c60 := kCe HS.out.x6 0
    have c61 := kCe HS.out.x6 1
    have c62 := kCe HS.out.x6 2
    go_wp2_with (go_at_call 16; refine (alike_law hsy HS.out.lw).mono ?_; rintro e w' ⟨he, hd⟩; subst he; have HBW := Lib.hid (HS.out.lw.below.trans (hd.mono HS.out.lw.below.size)))
    go_ret
    exact ⟨rfl, HBW.out⟩
 ·clear HER5
  have hyb : (why == 0) = false := beq_eq_false_iff_ne.mpr hy
  have hyd : decide (why = 0) = false := decide_eq_false hy
  have hS2 := HS.out.step (below_drew (Below.refl _ _)); clear HS hfc; have HS := Lib.hid hS2; have hfc := (Lib.hid HS.out.cells).out; clear hS2
  go_region_held3 (fun w' => w'.cell? ⟨p7, 0, none⟩ = some (.int .i64 0) ∧ w'.cell? ⟨p7, 1, none⟩ = some (.int .i64 at_) ∧ w'.cell? ⟨p7, 2, none⟩ = some (.int .i64 why) ∧ w'.cell? ⟨p8, 0, none⟩ = some (.int .i64 0) ∧ w'.cell? ⟨p8, 1, none⟩ = some (.int .i64 at_) ∧ w'.cell? ⟨p8, 2, none⟩ = some (.int .i64 why)) (first | exact hfc | go_keep) (first | (go_at_call 14; refine (anvillaw02_num.calls _ _ _ rfl).mono ?_; rintro e w' ⟨he, hd⟩; subst he; have hS2 := HS.out.step hd.below; clear HS hfc hd; have HS := Lib.hid hS2; have hfc := (Lib.hid HS.out.cells).out; clear hS2) | (go_at_call 15; refine (kept_law l A c g cap _ (by omega) hc _ HS.out.rk (Kd.C_below HC.out HS.out.lx.lw.below)).mono ?_; rintro e w' ⟨he, hd⟩; subst he; have hS2 := HS.out.step hd; clear HS hfc hd; have HS := Lib.hid hS2; have hfc := (Lib.hid HS.out.cells).out; clear hS2))
  go_wp2
  have HS1 := Lib.hid HS.out.lx
  clear HS hfc
  go_loopg [10] (l.length + 64) (fun gm v10 wx => ∃ j : Nat, v10 = .int .i64 (j : Int) ∧ j ≤ l.length + 64 ∧ Hid (gm + j = l.length + 64) ∧ Hid (LX w g (l.length + 64) cap b1 b2 (.slice A1 segs.length c1) (.slice A2 syms.length c2) (.slice B1 segs.length d1) (.slice B2 syms.length d2) segs syms p4 p6 en wx))
  case atStart => exact ⟨0, rfl, by omega, Lib.hid (by omega), HS1⟩
  case round =>
   clear HS1
   obtain ⟨j, rfl, hj, HJ, HS⟩ := hrel
   by_cases hi : j < l.length + 64
   ·obtain ⟨gm, rfl⟩ : ∃ k, gk = k + 1 := ⟨gk - 1, by have := HJ.out; omega⟩
    obtain ⟨x, hx, hz⟩ := HS.out.lw.cell (j : Int) (by omega) (by omega)
    rw [Int.toNat_natCast] at hx hz
    have hd := HS.out.put hg g1 g2 q4 q6 (j : Int) 238
    rw [Int.toNat_natCast] at hd
    have HD := Lib.hid hd
    clear hd HS
    go_wp2
    go_roundg gm
    case measure => omega
    case rel => exact ⟨j + 1, by go_num, by omega, Lib.hid (by have := HJ.out; omega), HD⟩
   ·have c40 := kCe HS.out.x4 0
    have c41 := kCe HS.out.x4 1
    have c42 := kCe HS.out.x4 2
    have c60 := kCe HS.out.x6 0
    have c61 := kCe HS.out.x6 1
    have c62 := kCe HS.out.x6 2
    go_wp2_with (go_at_call 16; refine (alike_law hsy HS.out.lw).mono ?_; rintro e w' ⟨he, hd⟩; subst he; have HBW := Lib.hid (HS.out.lw.below.trans (hd.mono HS.out.lw.below.size)))
    go_ret
    exact ⟨rfl, HBW.out⟩
end Go.Proofs.YtbnlifldnjgpmaaGreatDoor.PWri
/- From an argument's reading to the printed walks' facts: what reads as data of a type of whole numbers, bools, strings, slices and structs of these is told by its kind (Kd), its numbers fit, and its bulk bounds its weight. Plain lemmas; each bears its premises. -/
set_option linter.unusedVariables false
namespace Go.Proofs.YtbnlifldnjgpmaaGreatDoor
open Go.RowKit Go.Proofs.YtbnlifldnjgpmaaGreatDoorW.PrintWords
theorem bulk_one {H : Type} (d : DataW H) : 1 ≤ Rows.uptoBulk d := by
 cases d with
 | lit l => cases l <;> simp [Rows.uptoBulk]
 | nil => simp [Rows.uptoBulk]
 | ptr d => simp [Rows.uptoBulk]
 | slice elems spare => simp [Rows.uptoBulk]
 | agg parts => simp [Rows.uptoBulk]
 | iface t d => simp [Rows.uptoBulk]
 | map entries => simp [Rows.uptoBulk]
 | held h => simp [Rows.uptoBulk]
theorem bulk_app {H : Type} (l r : List (DataW H)) : Rows.uptoBulkAll (l ++ r) = Rows.uptoBulkAll l + Rows.uptoBulkAll r := by
 induction l with
 | nil => simp [Rows.uptoBulkAll]
 | cons x l ih => simp only [List.cons_append, Rows.uptoBulkAll, ih]; omega
/-- What reads at type T is of kind d; its numbers fit; its weight is at most its bulk. -/
structure Opens (P : Program) (T : TypeId) {α : Type} (d : Kd α) (ok : α → Prop) (wt : α → Nat) : Prop where
 cells : P.cellsOf T = d.sz
 op : ∀ {H : Type} {enc : TypeId × Value → H} {w : World} {spare : Nat → Bool} {held : Bool} {fuel : Nat} {cs : List Value} {x : DataW H × List MemPlace},
  DataW.trod enc P w 0 spare held fuel T cs = some x → ∃ a, d.K w a cs ∧ ok a ∧ wt a ≤ Rows.uptoBulk x.1
theorem Opens.int {P : Program} {T : TypeId} {k : IntKind} (ht : P.underlying T = some (.int k)) (hc : P.cellsOf T = 1) : Opens P T (Kd.int k) (fun n => (Lit.int k n).wf = true) (fun _ => 1) where
 cells := hc
 op h := by
  obtain ⟨n, rfl, hx, hw⟩ := DataW.trod_int ht h
  exact ⟨n, rfl, hw, bulk_one _⟩
theorem Opens.bool {P : Program} {T : TypeId} (ht : P.underlying T = some .bool) (hc : P.cellsOf T = 1) : Opens P T Kd.bool (fun _ => True) (fun _ => 1) where
 cells := hc
 op h := by
  obtain ⟨n, rfl, hx⟩ := DataW.trod_bool ht h
  exact ⟨n, rfl, trivial, bulk_one _⟩
theorem Opens.string {P : Program} {T : TypeId} (ht : P.underlying T = some .string) (hc : P.cellsOf T = 1) : Opens P T Kd.string (fun _ => True) (fun s => s.size + 1) where
 cells := hc
 op h := by
  obtain ⟨s, rfl, hx, hw⟩ := DataW.trod_string ht h
  refine ⟨s, rfl, trivial, ?_⟩
  rw [hx]
  simp only [Rows.uptoBulk]
  have : s.data.toList.length = s.size := by simp
  omega
/-- The fields from offset o on. -/
structure Fields (P : Program) (fs : List Field) (o : Nat) {α : Type} (d : Kd α) (ok : α → Prop) (wt : α → Nat) : Prop where
 op : ∀ {H : Type} {enc : TypeId × Value → H} {w : World} {spare : Nat → Bool} {held : Bool} {n : Nat} {cs : List Value} {xs : List (DataW H × List MemPlace)},
  cs.length = o + d.sz → xs.length = fs.length →
  (∀ (i : Nat) (f : Field), fs[i]? = some f → DataW.trod enc P w 0 spare held n f.type ((cs.drop f.offset).take (P.cellsOf f.type)) = xs[i]?) →
  ∃ a, d.K w a (cs.drop o) ∧ ok a ∧ wt a ≤ Rows.uptoBulkAll (xs.map (·.1))
theorem Fields.one {P : Program} {f : Field} {o : Nat} {α : Type} {d : Kd α} {ok : α → Prop} {wt : α → Nat} (ho : f.offset = o) (h : Opens P f.type d ok wt) : Fields P [f] o d ok wt where
 op hl hx hf := by
  rename_i H enc w spare held n cs xs
  obtain ⟨x, rfl⟩ : ∃ x, xs = [x] := by
   match xs, hx with
   | [x], _ => exact ⟨x, rfl⟩
  have h1 := hf 0 f rfl
  rw [ho, h.cells, List.take_of_length_le (by simp; omega)] at h1
  obtain ⟨a, hk, hok, hw⟩ := h.op h1
  refine ⟨a, hk, hok, ?_⟩
  simp only [List.map_cons, List.map_nil, Rows.uptoBulkAll]
  omega
theorem Fields.cons {P : Program} {f : Field} {fs : List Field} {o : Nat} {α β : Type} {d : Kd α} {ok : α → Prop} {wt : α → Nat} {d' : Kd β} {ok' : β → Prop} {wt' : β → Nat} (ho : f.offset = o) (h : Opens P f.type d ok wt) (h' : Fields P fs (o + d.sz) d' ok' wt') :
 Fields P (f :: fs) o (Kd.pair d d') (fun p => ok p.1 ∧ ok' p.2) (fun p => wt p.1 + wt' p.2) where
 op hl hx hf := by
  rename_i H enc w spare held n cs xs
  obtain ⟨x, xs, rfl⟩ : ∃ x xs', xs = x :: xs' := by
   match xs, hx with
   | x :: xs', _ => exact ⟨x, xs', rfl⟩
  have hl' : cs.length = o + (d.sz + d'.sz) := hl
  have h1 := hf 0 f rfl
  rw [ho, h.cells] at h1
  obtain ⟨a, hk, hok, hw⟩ := h.op h1
  obtain ⟨b, hk2, hok2, hw2⟩ := h'.op (cs := cs) (xs := xs) (n := n) (enc := enc) (w := w) (spare := spare) (held := held) (by omega) (by simpa using hx) (fun i g hg => by
   have := hf (i + 1) g (by simpa using hg)
   simpa using this)
  refine ⟨(a, b), ⟨_, _, ?_, hk, hk2⟩, ⟨hok, hok2⟩, ?_⟩
  ·rw [← List.drop_drop, List.take_append_drop]
  ·simp only [List.map_cons, Rows.uptoBulkAll]
   omega
theorem Opens.struct {P : Program} {T : TypeId} {fs : Array Field} {α β : Type} {d : Kd α} {ok : α → Prop} {wt : α → Nat} (g : β → α) (hg : ∀ a, ∃ b, g b = a) (ht : P.underlying T = some (.struct fs)) (hc : P.cellsOf T = d.sz) (h : Fields P fs.toList 0 d ok wt) :
 Opens P T (Kd.iso d g) (fun b => ok (g b)) (fun b => wt (g b) + 1) where
 cells := hc
 op hx := by
  obtain ⟨xs, n, rfl, hx1, hl, hxl, hf⟩ := DataW.trod_struct ht hx
  obtain ⟨a, hk, hok, hw⟩ := h.op (by omega) (by simpa using hxl) (fun i f hi => hf i f (by simpa using hi))
  obtain ⟨b, rfl⟩ := hg a
  refine ⟨b, (show d.K _ (g b) _ from by simpa using hk), hok, ?_⟩
  rw [hx1]
  simp only [Rows.uptoBulk]
  omega
theorem build {α β : Type} (R : α → β → Prop) : ∀ (l : List β), (∀ b ∈ l, ∃ a, R a b) → ∃ ps : List α, ps.length = l.length ∧ ∀ (i : Nat) (b : β), l[i]? = some b → ∃ a, ps[i]? = some a ∧ R a b
 | [], _ => ⟨[], rfl, by simp⟩
 | b :: l, h => by
  obtain ⟨a, ha⟩ := h b (by simp)
  obtain ⟨ps, hl, hps⟩ := build R l (fun c hc => h c (by simp [hc]))
  refine ⟨a :: ps, by simp [hl], fun i c hc => ?_⟩
  cases i with
  | zero => simp at hc; subst hc; exact ⟨a, rfl, ha⟩
  | succ i => simpa using hps i c (by simpa using hc)
theorem sum_le {α β : Type} {wt : α → Nat} {bk : β → Nat} : ∀ (ps : List α) (l : List β), ps.length = l.length → (∀ (i : Nat) (b : β), l[i]? = some b → ∃ a, ps[i]? = some a ∧ wt a ≤ bk b) → (ps.map wt).sum ≤ (l.map bk).sum
 | [], [], _, _ => by simp
 | a :: ps, b :: l, hl, h => by
  have h0 := h 0 b rfl
  simp at h0
  have := sum_le ps l (by simpa using hl) (fun i c hc => by simpa using h (i + 1) c (by simpa using hc))
  simp only [List.map_cons, List.sum_cons]
  omega
theorem bulkAll_sum {H : Type} : ∀ l : List (DataW H), Rows.uptoBulkAll l = (l.map Rows.uptoBulk).sum
 | [] => by simp [Rows.uptoBulkAll]
 | x :: l => by simp only [Rows.uptoBulkAll, List.map_cons, List.sum_cons, bulkAll_sum l]
/-- A slice's elements. -/
theorem Opens.slice {P : Program} {T E e' : TypeId} {α : Type} {d : Kd α} {ok : α → Prop} {wt : α → Nat} (ht : P.underlying T = some (.slice E)) (hc : P.cellsOf T = 1) (h : Opens P E d ok wt) :
 Opens P T (Kd.slice e' d) (fun l => ∀ x ∈ l, ok x) (fun l => (l.map wt).sum + 1) where
 cells := hc
 op hx := by
  rename_i H enc w spare held fuel cs x
  rcases DataW.trod_slice ht hx with ⟨rfl, rfl⟩ | ⟨a, len, cap, elems, rest, n, rfl, rfl, rfl, hb, hlc, hcm, hel, hf, _⟩
  ·exact ⟨[], ⟨none, 0, rfl, by simp, Kd.C_nil d w⟩, by simp, by simp [Rows.uptoBulk]⟩
  ·have key : ∀ i y, elems[i]? = some y → ∃ p c, c.length = d.sz ∧ d.K w p c ∧ (ok p ∧ wt p ≤ Rows.uptoBulk y.1) ∧ ∀ j u, c[j]? = some u → w.cell? (a.add (i * d.sz + j)) = some u := by
    intro i y hy
    have hi : i < len := by
     have := (List.getElem?_eq_some_iff.1 hy).1
     omega
    have h1 := hf i hi
    rw [hy, h.cells] at h1
    obtain ⟨c, hc1, hc2⟩ := Option.bind_eq_some_iff.1 h1
    obtain ⟨p, hk, hok, hw⟩ := h.op hc2
    obtain ⟨_, hl, hcell⟩ := World.cells?_some hc1
    refine ⟨p, c, hl, hk, ⟨hok, hw⟩, fun j u hj => ?_⟩
    have hjl : j < d.sz := by
     have := (List.getElem?_eq_some_iff.1 hj).1
     omega
    rw [← Addr.add_add, hcell j hjl, hj]
   obtain ⟨ps, hpl, hps⟩ := build (fun (p : α) (z : Nat × (DataW H × List MemPlace)) => ∃ c, c.length = d.sz ∧ d.K w p c ∧ (ok p ∧ wt p ≤ Rows.uptoBulk z.2.1) ∧ ∀ j u, c[j]? = some u → w.cell? (a.add (z.1 * d.sz + j)) = some u)
    (elems.zipIdx.map fun z => (z.2, z.1)) (fun z hz => by
     obtain ⟨⟨y, i⟩, hy, rfl⟩ := List.mem_map.1 hz
     have := List.mem_zipIdx_iff_getElem?.1 hy
     exact key i y this)
   have hat : ∀ (i : Nat) (y : DataW H × List MemPlace), elems[i]? = some y → ∃ p, ps[i]? = some p ∧ ∃ c, c.length = d.sz ∧ d.K w p c ∧ (ok p ∧ wt p ≤ Rows.uptoBulk y.1) ∧ ∀ j u, c[j]? = some u → w.cell? (a.add (i * d.sz + j)) = some u := by
    intro i y hy
    exact hps i (i, y) (by simp [hy])
   have hpl' : ps.length = elems.length := by simpa using hpl
   have back : ∀ i p, ps[i]? = some p → ∃ y, elems[i]? = some y := fun i p hp => by
    have := (List.getElem?_eq_some_iff.1 hp).1
    exact ⟨elems[i]'(by omega), List.getElem?_eq_getElem (by omega)⟩
   refine ⟨ps, ⟨some a, cap, by rw [hpl', hel], by omega, ⟨rfl, by unfold maxLen at hcm; omega, fun _ => ⟨a, rfl, fun j p hp => ?_⟩⟩⟩, fun p hp => ?_, ?_⟩
   ·obtain ⟨y, hy⟩ := back j p hp
    obtain ⟨p', hp', c, h1, h2, _, h4⟩ := hat j y hy
    rw [hp] at hp'
    cases hp'
    exact ⟨c, h1, h2, h4⟩
   ·obtain ⟨i, hi⟩ := List.getElem?_of_mem hp
    obtain ⟨y, hy⟩ := back i p hi
    obtain ⟨p', hp', c, _, _, h3, _⟩ := hat i y hy
    rw [hi] at hp'
    cases hp'
    exact h3.1
   ·have hs := sum_le (wt := wt) (bk := fun y : DataW H × List MemPlace => Rows.uptoBulk y.1) ps elems hpl' (fun i y hy => by
     obtain ⟨p, hp, c, _, _, h3, _⟩ := hat i y hy
     exact ⟨p, hp, h3.2⟩)
    simp only [Rows.uptoBulk, bulkAll_sum, List.map_map]
    have e1 : (elems.map (Rows.uptoBulk ∘ fun x => x.1)).sum = (elems.map fun y : DataW H × List MemPlace => Rows.uptoBulk y.1).sum := rfl
    omega
end Go.Proofs.YtbnlifldnjgpmaaGreatDoor
/- A world in which the listed variables hold what their initialisers lay, errors.errorType too: for the witness of a row that lists them. -/
set_option linter.unusedVariables false
namespace Go.Proofs.YtbnlifldnjgpmaaGreatDoor
open Go.ChangeShapes Go.WideShapes Go.ChangeAt Go.RowKit Go.Lib Go.Shelf
theorem own : ownKnob Tryz.prog.godebug = none := by kernel_rfl
theorem laidOut : laidOutB Tryz.prog = true := by kernel_rfl
/-- The rows of the list that are read as data. -/
def restList : List (String × DataW Unit) := [("unicode/utf8.acceptRanges", Lib.acceptData), ("unicode.properties", Lib.tabData .u8 Lib.propertiesTab), ("unicode.Letter", Lib.rtabData Lib.letterT), ("unicode/utf8.first", Lib.firstData)]
theorem rest_eq : theList.filter (fun x => x.2.handleName?.isNone) = restList := by kernel_rfl
theorem hand_eq : theList.filter (fun x => x.2.handleName?.isSome) = [("errors.errorType", Rows.laid_errors_errorType)] := by kernel_rfl
theorem split_laid {W : World} (h : laidMetH Tryz.prog theList W) : laidMet Tryz.prog restList W ∧ handlesMet Tryz.prog [("errors.errorType", Rows.laid_errors_errorType)] W := by
 unfold laidMetH at h
 rw [hand_eq, rest_eq] at h
 exact h
theorem glob_of_rest {W : World} (hL : laidMet Tryz.prog restList W) : Glob W :=
 ⟨tabIs_of_reads gProps gPropsType Tryz.underlying160 Tryz.underlying5 cells5 cellsTab (Lib.laidMet.reads hL (.tail _ (.head _))),
  rvar_of_reads { Tryz.laysLetter with } xL (by kernel_rfl) (by kernel_rfl) (Lib.laidMet.reads hL (.tail _ (.tail _ (.head _)))),
  utf8Tabs_of_readsT (U8Types.of196 Tryz.laysValid) ⟨by kernel_rfl, by kernel_rfl, by kernel_rfl, by kernel_rfl, by kernel_rfl, by kernel_rfl, by kernel_rfl⟩ (Lib.laidMet.reads hL (.tail _ (.tail _ (.tail _ (.head _))))) (Lib.laidMet.reads hL (.head _))⟩
theorem gErr : Tryz.prog.globalNamed "errors.errorType" = some 0 := by kernel_rfl
theorem tRtype : (Tryz.prog.cutTypes.find? (·.1 == "internal/reflectlite.rtype")).map (·.2) = some 141 := by kernel_rfl
theorem oneRow : ((List.range Tryz.prog.types.size).filter fun t => Tryz.prog.rowNamed t [101, 114, 114, 111, 114]) = [30] := by kernel_rfl
theorem errT_of_laid {W : World} (h : handlesMet Tryz.prog [("errors.errorType", Rows.laid_errors_errorType)] W) : ErrT W := by
 obtain ⟨name, u, ty, e1, e2, e3, e4, e5⟩ := h _ (List.mem_singleton.2 rfl)
 have en : name = [101, 114, 114, 111, 114] := (Option.some.inj e1).symm
 subst en
 obtain rfl := Option.some.inj (tRtype.symm.trans e2)
 have hm : ty ∈ (List.range Tryz.prog.types.size).filter fun t => Tryz.prog.rowNamed t [101, 114, 114, 111, 114] := List.mem_filter.2 ⟨List.mem_range.2 e3, e4⟩
 rw [oneRow] at hm
 obtain rfl := List.mem_singleton.1 hm
 have hh : typeHandle Tryz.prog 30 = .pointer (some ⟨6, 30, none⟩) := by kernel_rfl
 rw [hh] at e5
 unfold ErrT
 simpa using World.var?_cell gErr e5 0
noncomputable abbrev N0 : Nat := (World.settled Tryz.prog default).heap.size
noncomputable def laidWorld (os : Os) : World :=
 let N := (World.settled Tryz.prog os).heap.size
 let ρ := Tryz.laysLetter_ren
 let w0 := World.holding Tryz.prog os ⟨#[
  .cells (rgCells .u16 letterT.r16) (ρ.t 198), .cells (rgCells .u32 letterT.r32) (ρ.t 201),
  .cells #[.slice (some ⟨N, 0, none⟩) letterT.r16.size letterT.r16.size, .slice (some ⟨N + 1, 0, none⟩) letterT.r32.size letterT.r32.size, .int .i64 letterT.off] (ρ.t 196)], #[], []⟩
 let put (h : Array Obj) (g : Nat) (cs : Array Value) : Array Obj := h.modify g fun
  | .cells _ t frozen => .cells cs t frozen
  | o => o
 let h0 := put w0.heap 0 #[.iface 141 (.agg #[.pointer (some ⟨6, 30, none⟩)])]
 let h1 := put h0 3 (Lib.propertiesTab.map fun z => Value.int .u8 z).toArray
 let h2 := put h1 4 #[.pointer (some ⟨N + 2, 0, none⟩)]
 let h3 := put h2 1 (Lib.firstTab.map fun z => Value.int .u8 z).toArray
 let h4 := put h3 2 ((List.range 16).flatMap fun i => [Value.int .u8 (Lib.accLo i), Value.int .u8 (Lib.accHi i)]).toArray
 { w0 with heap := h4 }
noncomputable abbrev laidMem (os : Os) (args : Array Value) : World := ((laidWorld os).forCall (fun _ _ => 0) ⟨#[], args, []⟩).memory
theorem piece0 (os : Os) (args : Array Value) : LaidIn Tryz.prog (laidMem os args) [("unicode/utf8.acceptRanges", Lib.acceptData), ("unicode.properties", Lib.tabData .u8 Lib.propertiesTab)] [2, 3] :=
 LaidIn.of_run [2, 3] 8 (by kernel_rfl) (by kernel_rfl) (by kernel_rfl) (by kernel_rfl)
theorem piece1 (os : Os) (args : Array Value) : LaidIn Tryz.prog (laidMem os args) [("unicode.Letter", Lib.rtabData letterT)] [4, N0 + 2, N0, N0 + 1] :=
 laidIn_rtab (ρ := Tryz.laysLetter_ren) { Tryz.laysLetter with } xL (by kernel_rfl) (by kernel_rfl) letterT (N0 + 2) N0 (N0 + 1) (Tryz.laysLetter_ren.t 198) (Tryz.laysLetter_ren.t 201)
  (by kernel_rfl) (by kernel_rfl) (by kernel_rfl) (by kernel_rfl) (by kernel_rfl) (of_decide_eq_true (by kernel_rfl)) (of_decide_eq_true (by kernel_rfl)) (of_decide_eq_true (by kernel_rfl))
theorem piece2 (os : Os) (args : Array Value) : LaidIn Tryz.prog (laidMem os args) [("unicode/utf8.first", Lib.firstData)] [1] :=
 LaidIn.of_run [1] 8 (by kernel_rfl) (by kernel_rfl) (by kernel_rfl) (by kernel_rfl)
theorem laid_met (os : Os) (args : Array Value) : laidMet Tryz.prog restList (laidMem os args) :=
 (((piece0 os args).append (piece1 os args) (by kernel_rfl)).append (piece2 os args) (by kernel_rfl)).met
theorem laid_metH (os : Os) (args : Array Value) : laidMetH Tryz.prog theList (laidMem os args) := by
 refine laidMetH_of_parts ?_ ?_
 ·rw [rest_eq]
  exact laid_met os args
 ·rw [hand_eq]
  kernel_rfl
end Go.Proofs.YtbnlifldnjgpmaaGreatDoor
