-- BY PROGRAM of this session (wip/tools/home.sh): the parts of the print in which these stand: anvilref02_told anvilref02_value anvilref02_room anvilref02_head anvilref02_flags anvilref02_last anvilref02_meets anvilref02_program anvilref02_table anvilref02_text anvilref02_Name anvilref02_has anvilref02_names anvilref02_rising anvilref02_behind anvilref02_sorted anvilref02_Read anvillaw02_loose anvillaw02_same anvillaw02_kept anvillaw02_num anvillaw02_parts anvillaw02_names anvillaw02_alike
import Derived.Test.YtbnlifldnjgpmaaGreatDoorCGr1
import Derived.Test.YtbnlifldnjgpmaaGreatDoorCWrix2
import Derived.Test.YtbnlifldnjgpmaaGreatDoorCWrix3
import Derived.Test.YtbnlifldnjgpmaaGreatDoorCWrix4
import Derived.Test.YtbnlifldnjgpmaaGreatDoorCWrix5
import Derived.Test.YtbnlifldnjgpmaaGreatDoorCWrix6
import Derived.Test.YtbnlifldnjgpmaaGreatDoorCWrix7
import Derived.Test.YtbnlifldnjgpmaaGreatDoorCWrix8
import Derived.Test.YtbnlifldnjgpmaaGreatDoorCWrix9
import Derived.Test.YtbnlifldnjgpmaaGreatDoorCGr2
import Derived.Deep.QuietTactic
import Derived.BigQuiet
import Derived.Deep.RegionHeld2
import Derived.Deep.RegionHeld3
import Derived.DeepKeys4
import Derived.Maps.Keyed
import Derived.Ground.SlsfProg
import Derived.Shelf.SlSortCmp.WholeK
import Derived.Test.YtbnlifldnjgpmaaGreatDoorProg
import Derived.Shelf.SlSortCmp.NoneTotal
import Derived.Sort.OwnSorted
import Derived.Laws.BitsAllLaws
/- The document's reader, by its mirror: the numbers, the head. -/
set_option linter.unusedVariables false
set_option linter.unusedSimpArgs false
namespace Go.Proofs.YtbnlifldnjgpmaaGreatDoor.PWri
open Go.RowKit Go.Lib Go.Proofs.YtbnlifldnjgpmaaGreatDoorW.PrintWords Go.Proofs.YtbnlifldnjgpmaaGreatDoorW.PrintLast
theorem Ev.ifp {α : Type} {c : Prop} [Decidable c] {f g : Nat → Option α} {r : α} (h : c) (hk : Ev f r) : Ev (fun k => if c then f k else g k) r := Ev.congr (fun k => if_pos h) hk
theorem Ev.ifn {α : Type} {c : Prop} [Decidable c] {f g : Nat → Option α} {r : α} (h : ¬ c) (hk : Ev g r) : Ev (fun k => if c then f k else g k) r := Ev.congr (fun k => if_neg h) hk
theorem Ev.bindc {α β : Type} {o : Option α} {f : Nat → α → Option β} {a : α} {r : β} (h : o = some a) (k : Ev (fun n => f n a) r) : Ev (fun n => o.bind (f n)) r := Ev.congr (fun n => by rw [h]; rfl) k
theorem value_i {l : List Int} (h : Bytes l) (hl : l.length ≤ 1099511627776) (a : Int) (n : Nat) (hn : n ≤ 8) (h0 : 0 ≤ a) (ha : a + n ≤ (l.length : Int)) : Ev (fun k => anvilref02_value.f k l a (n : Int)) (rdN l a n) := by
 obtain ⟨a, rfl⟩ := Int.eq_ofNat_of_zero_le h0
 rw [rdN_nat]
 exact value_ev l h hl a n hn (by omega)
theorem room_f {l : List Int} (hl : l.length ≤ 1099511627776) (a n : Int) (h0 : 0 ≤ a) : anvilref02_room.f l a n = some (roomS l a n) := by
 unfold anvilref02_room.f roomS
 rw [u64n (x := (l.length : Int)) (by omega) (by omega)]
 by_cases h : a ≤ (l.length : Int)
 ·rw [if_pos h, u64n (by omega) (by omega)]
  simp [h]
 ·rw [if_neg h]
  simp [h]
/-- What a check of the head comes to. -/
def hdR (r : Res Unit) : Int × Int := match r with
 | .ok _ => (0, 0)
 | .error e => e
theorem headR3_ev {l : List Int} (h : Bytes l) (hl : l.length ≤ 1099511627776) (h64 : 64 ≤ l.length) : Ev (fun k => anvilref02_head.j1 k l (rdN l 56 2) false) (hdR (headR3 l)) := by
 have b56 := rd2 h 56
 have b32 := (rd8 h 32).1
 refine Ev.step (fun k => by rw [anvilref02_head.j1]) ?_
 refine Ev.ifn (by simp) ?_
 unfold headR3
 by_cases h16 : rdN l 56 2 > 16
 ·refine Ev.ifp h16 ?_
  rw [chk_no (decide_eq_false (by omega))]
  exact Ev.now _
 ·refine Ev.ifn h16 ?_
  rw [chk_ok (decide_eq_true (by omega))]
  refine Ev.bind (value_i h hl 32 8 (by decide) (by decide) (by omega)) ?_
  rw [u64n (x := 56 * rdN l 56 2) (by omega) (by omega)]
  refine Ev.bindc (room_f hl _ _ b32) ?_
  cases hr : roomS l (rdN l 32 8) (56 * rdN l 56 2) with
  | true =>
   refine Ev.ifp rfl ?_
   rw [chk_ok rfl]
   exact Ev.now _
  | false =>
   refine Ev.ifn (by simp) ?_
   rw [chk_no rfl]
   exact Ev.now _
theorem headR2_ev {l : List Int} (h : Bytes l) (hl : l.length ≤ 1099511627776) (h64 : 64 ≤ l.length) : Ev (fun k => if rdN l 56 2 = 0 then anvilref02_head.j1 k l (rdN l 56 2) false else (anvilref02_value.f k l 54 2).bind fun t141 => anvilref02_head.j1 k l (rdN l 56 2) (t141 != 56)) (hdR (headR2 l)) := by
 unfold headR2
 by_cases h0 : rdN l 56 2 = 0
 ·refine Ev.ifp h0 ?_
  rw [chk_ok (by simp [h0])]
  exact headR3_ev h hl h64
 ·refine Ev.ifn h0 ?_
  refine Ev.bind (value_i h hl 54 2 (by decide) (by decide) (by omega)) ?_
  by_cases h5 : rdN l 54 2 = 56
  ·rw [chk_ok (by simp [h5]), show (rdN l 54 2 != 56) = false by simp [h5]]
   exact headR3_ev h hl h64
  ·rw [chk_no (by simp [h5, h0]), show (rdN l 54 2 != 56) = true by simp [h5]]
   refine Ev.step (fun k => by rw [anvilref02_head.j1]) ?_
   exact Ev.ifp rfl (Ev.now _)
theorem headR1_ev {l : List Int} (h : Bytes l) (hl : l.length ≤ 1099511627776) : Ev (fun k => anvilref02_head.l0 k l [127, 69, 76, 70, 2, 1, 1] 7) (hdR (headR1 l)) := by
 refine Ev.step (fun k => by rw [anvilref02_head.l0]) ?_
 refine Ev.ifn (by decide) ?_
 unfold headR1
 by_cases h64 : (l.length : Int) < 64
 ·refine Ev.ifp h64 ?_
  rw [chk_no (decide_eq_false (by omega))]
  exact Ev.now _
 refine Ev.ifn h64 ?_
 rw [chk_ok (decide_eq_true (by omega))]
 refine Ev.bind (value_i h hl 56 2 (by decide) (by decide) (by omega)) ?_
 refine Ev.bind (value_i h hl 16 2 (by decide) (by decide) (by omega)) ?_
 by_cases c1 : ¬ (rdN l 16 2 = 2)
 ·refine Ev.ifn c1 ?_
  rw [chk_no (by simp [c1])]
  exact Ev.now _
 have c1 := Decidable.not_not.mp c1
 refine Ev.ifp c1 ?_
 rw [chk_ok (by simp [c1])]
 refine Ev.bind (value_i h hl 18 2 (by decide) (by decide) (by omega)) ?_
 by_cases c2 : ¬ (rdN l 18 2 = 243)
 ·refine Ev.ifn c2 ?_
  rw [chk_no (by simp [c2])]
  exact Ev.now _
 have c2 := Decidable.not_not.mp c2
 refine Ev.ifp c2 ?_
 rw [chk_ok (by simp [c2])]
 refine Ev.bind (value_i h hl 20 4 (by decide) (by decide) (by omega)) ?_
 by_cases c3 : ¬ (rdN l 20 4 = 1)
 ·refine Ev.ifn c3 ?_
  rw [chk_no (by simp [c3])]
  exact Ev.now _
 have c3 := Decidable.not_not.mp c3
 refine Ev.ifp c3 ?_
 rw [chk_ok (by simp [c3])]
 refine Ev.bind (value_i h hl 24 8 (by decide) (by decide) (by omega)) ?_
 have b24 := (rd8 h 24).1
 rw [Int.tmod_eq_emod_of_nonneg b24]
 by_cases c4 : rdN l 24 8 % 2 = 1
 ·refine Ev.ifp c4 ?_
  rw [chk_no (by rw [c4]; rfl)]
  exact Ev.now _
 refine Ev.ifn c4 ?_
 rw [chk_ok (by rw [show rdN l 24 8 % 2 = 0 by omega]; rfl)]
 refine Ev.bind (value_i h hl 48 4 (by decide) (by decide) (by omega)) ?_
 by_cases c5 : rdN l 48 4 > 1
 ·refine Ev.ifp c5 ?_
  rw [chk_no (decide_eq_false (by omega))]
  exact Ev.now _
 refine Ev.ifn c5 ?_
 rw [chk_ok (decide_eq_true (by omega))]
 refine Ev.bind (value_i h hl 52 2 (by decide) (by decide) (by omega)) ?_
 by_cases c6 : ¬ (rdN l 52 2 = 64)
 ·refine Ev.ifn c6 ?_
  rw [chk_no (by simp [c6])]
  exact Ev.now _
 have c6 := Decidable.not_not.mp c6
 refine Ev.ifp c6 ?_
 rw [chk_ok (by simp [c6])]
 exact headR2_ev h hl (by omega)
theorem magic_rd (j : Nat) : rd magicL (j : Int) = magicL.getD j 0 := rd_getD magicL j
theorem magic_ev {l : List Int} (h : Bytes l) (hl : l.length ≤ 1099511627776) : ∀ d j : Nat, j + d = 7 → Ev (fun k => anvilref02_head.l0 k l magicL (j : Int)) (hdR (magicS l j (magicL.drop j) (headR1 l)))
 | 0, j, hj => by
  have e : j = 7 := by omega
  subst e
  exact headR1_ev h hl
 | d + 1, j, hj => by
  rw [magic_drop j (by omega), magicS]
  refine Ev.step (fun k => by rw [anvilref02_head.l0]) ?_
  refine Ev.ifp (show (j : Int) < (magicL.length : Int) by show (j : Int) < 7; omega) ?_
  by_cases h1 : (l.length : Int) ≤ (j : Int)
  ·refine Ev.ifp h1 ?_
   rw [chk_no (decide_eq_false (by omega))]
   exact Ev.now _
  refine Ev.ifn h1 ?_
  rw [chk_ok (decide_eq_true (by omega))]
  refine Ev.ifp (by omega) ?_
  refine Ev.ifp (by omega) ?_
  rw [magic_rd, rd_getD]
  by_cases h2 : l.getD j 0 = magicL.getD j 0
  ·refine Ev.ifp h2 ?_
   rw [chk_ok (by rw [h2]; exact beq_self_eq_true _), w64n (by omega) (by omega)]
   exact magic_ev h hl d (j + 1) (by omega)
  ·refine Ev.ifn h2 ?_
   rw [chk_no (by rw [beq_eq_false_iff_ne]; exact h2)]
   exact Ev.now _
theorem head_ev {l : List Int} (h : Bytes l) (hl : l.length ≤ 1099511627776) : Ev (fun k => anvilref02_head.f k l) (hdR (headS l)) := magic_ev h hl 7 0 rfl
end Go.Proofs.YtbnlifldnjgpmaaGreatDoor.PWri
/- The document's reader, by its mirror: the parts. -/
set_option linter.unusedVariables false
set_option linter.unusedSimpArgs false
namespace Go.Proofs.YtbnlifldnjgpmaaGreatDoor.PWri
open Go.RowKit Go.Lib Go.Proofs.YtbnlifldnjgpmaaGreatDoorW.PrintWords Go.Proofs.YtbnlifldnjgpmaaGreatDoorW.PrintLast
theorem value_at {l : List Int} (h : Bytes l) (hl : l.length ≤ 1099511627776) {x a : Int} (n : Nat) (hn : n ≤ 8) (e : x = a) (h0 : 0 ≤ a) (ha : a + n ≤ (l.length : Int)) : Ev (fun k => anvilref02_value.f k l x (n : Int)) (rdN l a n) := e ▸ value_i h hl a n hn h0 ha
theorem last_f (a b : Int) : anvilref02_last.f a b = some (sumU a b, decide (sumU a b ≥ a)) := rfl
theorem flags_0 : anvilref02_flags.f 0 = some (turnS 0) := by kernel_rfl
theorem flags_1 : anvilref02_flags.f 1 = some (turnS 1) := by kernel_rfl
theorem flags_2 : anvilref02_flags.f 2 = some (turnS 2) := by kernel_rfl
theorem flags_3 : anvilref02_flags.f 3 = some (turnS 3) := by kernel_rfl
theorem flags_4 : anvilref02_flags.f 4 = some (turnS 4) := by kernel_rfl
theorem flags_5 : anvilref02_flags.f 5 = some (turnS 5) := by kernel_rfl
theorem flags_6 : anvilref02_flags.f 6 = some (turnS 6) := by kernel_rfl
theorem flags_7 : anvilref02_flags.f 7 = some (turnS 7) := by kernel_rfl
theorem flags_f (f : Int) (h0 : 0 ≤ f) (h1 : f ≤ 7) : anvilref02_flags.f f = some (turnS f) := by
 have : f = 0 ∨ f = 1 ∨ f = 2 ∨ f = 3 ∨ f = 4 ∨ f = 5 ∨ f = 6 ∨ f = 7 := by omega
 rcases this with rfl | rfl | rfl | rfl | rfl | rfl | rfl | rfl
 ·exact flags_0
 ·exact flags_1
 ·exact flags_2
 ·exact flags_3
 ·exact flags_4
 ·exact flags_5
 ·exact flags_6
 ·exact flags_7
theorem meets_l0 (out : List S55) (hlen : out.length < 1099511627776) (addr size f : Int) (d : List Int) : ∀ m j : Nat, j + m = out.length →
 Ev (fun k => anvilref02_meets.l0 k out (sumU addr size) (j : Int) addr size f d) (!((out.drop j).all fun s => apartB s addr size))
 | 0, j, hj => by
  refine Ev.step (fun k => by rw [anvilref02_meets.l0]) ?_
  refine Ev.ifn (by omega) ?_
  rw [List.drop_eq_nil_of_le (by omega)]
  exact Ev.now _
 | m + 1, j, hj => by
  refine Ev.step (fun k => by rw [anvilref02_meets.l0]) ?_
  refine Ev.ifp (by omega) (Ev.ifp (by omega) ?_)
  refine Ev.bindc (last_f _ _) ?_
  rw [rd_drop_seg (by omega), List.all_cons, w64n (by omega) (by omega)]
  by_cases c1 : addr ≤ sumU (rd_T55 out (j : Int)).f0 (rd_T55 out (j : Int)).f1
  ·refine Ev.ifp c1 ?_
   by_cases c2 : (rd_T55 out (j : Int)).f0 ≤ sumU addr size
   ·refine Ev.ifp c2 ?_
    rw [show apartB (rd_T55 out (j : Int)) addr size = false by unfold apartB; rw [decide_eq_false (by omega), decide_eq_false (by omega)]; rfl]
    exact Ev.now _
   ·refine Ev.ifn c2 ?_
    rw [show apartB (rd_T55 out (j : Int)) addr size = true by unfold apartB; rw [decide_eq_true (show sumU addr size < (rd_T55 out (j : Int)).f0 by omega), Bool.or_true]]
    exact meets_l0 out hlen addr size f d m (j + 1) (by omega)
  ·refine Ev.ifn c1 ?_
   rw [show apartB (rd_T55 out (j : Int)) addr size = true by unfold apartB; rw [decide_eq_true (show sumU (rd_T55 out (j : Int)).f0 (rd_T55 out (j : Int)).f1 < addr by omega), Bool.true_or]]
   exact meets_l0 out hlen addr size f d m (j + 1) (by omega)
theorem meets_ev (out : List S55) (hlen : out.length < 1099511627776) (addr size f : Int) (d : List Int) : Ev (fun k => anvilref02_meets.f k out addr size f d) (!(out.all fun s => apartB s addr size)) :=
 Ev.bindc (last_f _ _) (meets_l0 out hlen addr size f d out.length 0 (by omega))
/-- What the parts come to. -/
def ptR {α : Type} (r : Res (List α)) : List α × Int × Int := match r with
 | .ok s => (s, 0, 0)
 | .error e => ([], e.1, e.2)
theorem cut_eq (l : List Int) (a n : Int) (h0 : 0 ≤ a) (hn : 0 ≤ n) : (l.take (a + n).toNat).drop a.toNat = (l.drop a.toNat).take n.toNat := by
 rw [List.drop_take, show (a + n).toNat - a.toNat = n.toNat by omega]
theorem cut_len (l : List Int) (a n : Nat) : ((l.drop a).take n).length ≤ l.length := by
 rw [List.length_take, List.length_drop]
 omega
section
attribute [local irreducible] rdN valN sumU
variable {l : List Int} (h : Bytes l) (hl : l.length ≤ 1099511627776) (h64 : 64 ≤ l.length) (hn : rdN l 56 2 ≤ 16) (hr : rdN l 32 8 + 56 * rdN l 56 2 ≤ (l.length : Int))
include h hl h64 hn hr
theorem seg_ev (m i : Nat) (out : List S55) (hi : (i : Int) < rdN l 56 2) (ho : out.length ≤ i)
 (K : ∀ out', out'.length ≤ i + 1 → Ev (fun k => anvilref02_program.l0 k l out' (rdN l 56 2) ((i + 1 : Nat) : Int)) (ptR (partsS l (rdN l 32 8) m ((i : Int) + 1) out'))) :
 Ev (fun k => anvilref02_program.j1 k l out (rdN l 56 2) (i : Int) (rdN l 32 8 + 56 * (i : Int)) (rdN l (rdN l 32 8 + 56 * (i : Int) + 32) 8) (rdN l (rdN l 32 8 + 56 * (i : Int) + 40) 8) false) (ptR (andThen (segS l (rdN l 32 8 + 56 * (i : Int)) out) (partsS l (rdN l 32 8) m ((i : Int) + 1)))) := by
 have holen : out.length < 1099511627776 := by omega
 have ho2 : out.length < 2932031007402 := by omega
 have b32 := (rd8 h 32).1
 obtain ⟨hh, hhe⟩ : ∃ hh, rdN l 32 8 + 56 * (i : Int) = hh := ⟨_, rfl⟩
 rw [hhe]
 have hh0 : 0 ≤ hh := by omega
 have hh1 : hh + 56 ≤ (l.length : Int) := by omega
 unfold segS
 simp only [andThen_chk, andThen_ok]
 have b32' := rd8 h (hh + 32)
 have b40 := rd8 h (hh + 40)
 have b8 := rd8 h (hh + 8)
 have b24 := rd8 h (hh + 24)
 have b4 := rd4 h (hh + 4)
 have E4 : wrap64 (hh + 4) = hh + 4 := w64n (by omega) (by omega)
 have E8 : wrap64 (hh + 8) = hh + 8 := w64n (by omega) (by omega)
 have E24 : wrap64 (hh + 24) = hh + 24 := w64n (by omega) (by omega)
 have E32 : wrap64 (hh + 32) = hh + 32 := w64n (by omega) (by omega)
 have Ei : wrap64 ((i : Int) + 1) = ((i + 1 : Nat) : Int) := w64n (by omega) (by omega)
 refine Ev.step (fun k => by rw [anvilref02_program.j1]) ?_
 rw [E4, E8, E24, E32, Ei]
 refine Ev.ifn (by simp) ?_
 refine Ev.bind (value_i h hl (hh + 4) 4 (by decide) (by omega) (by omega)) ?_
 by_cases c1 : rdN l (hh + 4) 4 > 7
 ·refine Ev.ifp c1 ?_
  rw [chk_no (decide_eq_false (by omega))]
  exact Ev.now _
 refine Ev.ifn c1 ?_
 rw [chk_ok (decide_eq_true (by omega))]
 by_cases c2 : rdN l (hh + 32) 8 > rdN l (hh + 40) 8
 ·refine Ev.ifp c2 ?_
  rw [chk_no (decide_eq_false (by omega))]
  exact Ev.now _
 refine Ev.ifn c2 ?_
 rw [chk_ok (decide_eq_true (by omega))]
 refine Ev.bind (value_i h hl (hh + 8) 8 (by decide) (by omega) (by omega)) ?_
 refine Ev.bindc (room_f hl _ _ b8.1) ?_
 cases c3 : roomS l (rdN l (hh + 8) 8) (rdN l (hh + 32) 8) with
 | false =>
  refine Ev.ifn (by simp) ?_
  rw [chk_no rfl]
  exact Ev.now _
 | true =>
 have r3 := room_le c3
 refine Ev.ifp rfl ?_
 rw [chk_ok rfl]
 refine Ev.bind (value_i h hl (hh + 24) 8 (by decide) (by omega) (by omega)) ?_
 refine Ev.bind (value_i h hl (hh + 4) 4 (by decide) (by omega) (by omega)) ?_
 refine Ev.bindc (flags_f _ (by omega) (by omega)) ?_
 refine Ev.bindc (last_f _ _) ?_
 cases c4 : fitsB (rdN l (hh + 24) 8) (rdN l (hh + 40) 8) with
 | false =>
  refine Ev.ifn (fun e => ?_) ?_
  ·exact absurd (c4.symm.trans e) (by simp)
  rw [chk_no rfl]
  exact Ev.now _
 | true =>
 refine Ev.ifp c4 ?_
 rw [chk_ok rfl]
 refine Ev.bind (meets_ev out holen _ _ _ _) ?_
 cases c5 : (out.all fun s => apartB s (rdN l (hh + 24) 8) (rdN l (hh + 40) 8)) with
 | false =>
  refine Ev.ifp rfl ?_
  rw [chk_no rfl]
  exact Ev.now _
 | true =>
 refine Ev.ifn (by simp) ?_
 rw [chk_ok rfl, u64n (x := rdN l (hh + 8) 8 + rdN l (hh + 32) 8) (by omega) (by omega)]
 refine Ev.ifp b8.1 (Ev.ifp (by omega) (Ev.ifp r3.2 ?_))
 rw [cut_eq l _ _ b8.1 b32'.1]
 have hc := cut_len l (rdN l (hh + 8) 8).toNat (rdN l (hh + 32) 8).toNat
 refine Ev.ifp (by rw [List.length_nil]; omega) (Ev.ifp ho2 ?_)
 exact K _ (by rw [List.length_append]; exact Nat.add_le_add_right ho 1)
theorem program_l0 : ∀ (m i : Nat) (out : List S55), (i : Int) + m = rdN l 56 2 → out.length ≤ i → Ev (fun k => anvilref02_program.l0 k l out (rdN l 56 2) (i : Int)) (ptR (partsS l (rdN l 32 8) m (i : Int) out))
 | 0, i, out, hi, ho => by
  refine Ev.step (fun k => by rw [anvilref02_program.l0]) ?_
  refine Ev.ifn (by omega) ?_
  exact Ev.now _
 | m + 1, i, out, hi, ho => by
  have b32 := (rd8 h 32).1
  have Eh : wrap64 (wrap64 (rdN l 32 8) + wrap64 (56 * (i : Int))) = rdN l 32 8 + 56 * (i : Int) := by
   rw [w64n (x := rdN l 32 8) (by omega) (by omega), w64n (x := 56 * (i : Int)) (by omega) (by omega), w64n (by omega) (by omega)]
  have K := fun out' (ho' : out'.length ≤ i + 1) => program_l0 m (i + 1) out' (by omega) ho'
  have Ei : wrap64 ((i : Int) + 1) = ((i + 1 : Nat) : Int) := w64n (by omega) (by omega)
  have skip : ∀ x7 x8 x9, Ev (fun k => anvilref02_program.j1 k l out (rdN l 56 2) (i : Int) x7 x8 x9 true) (ptR (partsS l (rdN l 32 8) m ((i : Int) + 1) out)) := fun x7 x8 x9 => by
   refine Ev.step (fun k => by rw [anvilref02_program.j1]) ?_
   rw [Ei]
   exact Ev.ifp rfl (K out (by omega))
  refine Ev.step (fun k => by rw [anvilref02_program.l0]) ?_
  refine Ev.ifp (by omega) ?_
  refine Ev.bind (value_i h hl 32 8 (by decide) (by decide) (by omega)) ?_
  rw [Eh, partsS]
  have S := seg_ev h hl h64 hn hr m i out (by omega) ho K
  obtain ⟨hh, hhe⟩ : ∃ hh, rdN l 32 8 + 56 * (i : Int) = hh := ⟨_, rfl⟩
  rw [hhe] at S ⊢
  have hh0 : 0 ≤ hh := by omega
  have hh1 : hh + 56 ≤ (l.length : Int) := by omega
  rw [w64n (x := hh + 32) (by omega) (by omega), w64n (x := hh + 40) (by omega) (by omega)]
  refine Ev.bind (value_i h hl (hh + 32) 8 (by decide) (by omega) (by omega)) ?_
  refine Ev.bind (value_i h hl (hh + 40) 8 (by decide) (by omega) (by omega)) ?_
  refine Ev.bind (value_i h hl hh 4 (by decide) (by omega) (by omega)) ?_
  unfold partS
  by_cases c1 : rdN l hh 4 = 1
  ·refine Ev.ifp c1 ?_
   by_cases c2 : rdN l (hh + 32) 8 = 0
   ·refine Ev.ifp c2 ?_
    by_cases c3 : rdN l (hh + 40) 8 = 0
    ·rw [if_pos (.inr ⟨c2, c3⟩), andThen_ok, show (rdN l (hh + 40) 8 == 0) = true by rw [c3]; rfl]
     exact skip _ _ _
    ·rw [if_neg (by rintro (e | e) <;> omega), show (rdN l (hh + 40) 8 == 0) = false from beq_eq_false_iff_ne.mpr c3]
     exact S
   ·refine Ev.ifn c2 ?_
    rw [if_neg (by rintro (e | e) <;> omega)]
    exact S
  ·refine Ev.ifn c1 ?_
   rw [if_pos (.inl c1), andThen_ok]
   exact skip _ _ _
theorem program_ev : Ev (fun k => anvilref02_program.f k l) (ptR (partsS l (rdN l 32 8) (rdN l 56 2).toNat 0 [])) := by
 have b56 := rd2 h 56
 refine Ev.bind (value_i h hl 56 2 (by decide) (by decide) (by omega)) ?_
 rw [w64n (x := rdN l 56 2) (by omega) (by omega)]
 exact program_l0 h hl h64 hn hr (rdN l 56 2).toNat 0 [] (by omega) (by simp)
end
end Go.Proofs.YtbnlifldnjgpmaaGreatDoor.PWri
/- image's table: the place of the table of names. -/
set_option linter.unusedVariables false
set_option linter.unusedSimpArgs false
namespace Go.Proofs.YtbnlifldnjgpmaaGreatDoor.PWri
open Go.RowKit Go.Lib Go.Proofs.YtbnlifldnjgpmaaGreatDoorW.PrintWords Go.Proofs.YtbnlifldnjgpmaaGreatDoorW.PrintLast
def optV : Option Int → Value
 | none => .tuple #[.int .i64 0, .bool false]
 | some s => .tuple #[.int .i64 s, .bool true]
set_option maxHeartbeats 16000000 in
set_option maxRecDepth 1000000 in
theorem table_c (l : List Int) (A : Option Addr) (c : Nat) (h : Bytes l) (hl : l.length ≤ 1099511627776) (hc : l.length ≤ c) (h64 : 64 ≤ l.length) (w : World) (hC : Kd.C (Kd.int .u8) w A l.length l) :
 Calls Tryz.prog 58 #[.agg #[.slice A l.length c]] w (Out (tableS l) (fun o v _ => v = optV o) w) := by
 have HC := Lib.hid hC
 have HB := Lib.hid h
 obtain ⟨o, ho⟩ : ∃ o, tableS l = o := ⟨_, rfl⟩
 rw [ho]
 have HS : Hid (FS w (.slice A l.length c) (w.alloc (.cells #[.slice A l.length c] 59))) := Lib.hid (FS.start w _)
 have hfc := (Lib.hid HS.out.cell).out
 unfold tableS at ho
 have b60 := rd2 h 60
 have b40 := (rd8 h 40).1
 by_cases h60 : rdN l 60 2 = 0
 ·rw [if_pos (.inl h60)] at ho
  have HO := Lib.hid ho
  clear hC h ho
  go_enter Tryz.func58, Tryz.ntmps58
  go_wp2_with (first | (go_at_call 52; refine (half_i HB.out hl hc _ (by omega) (by omega) _ (Kd.C_below HC.out HS.out.below)).mono ?_; rintro e w' ⟨he, ⟨hv0, hv1⟩, hd⟩; subst he; have hS2 := HS.out.step hd; clear HS hfc hd; have HS := Lib.hid hS2; have hfc := (Lib.hid HS.out.cell).out; clear hS2))
  go_ret2
  exact Out.yes HO.out.symm rfl HS.out.below
 ·have h60b : (rdN l 60 2 == 0) = false := by simp [h60]
  by_cases h40 : rdN l 40 8 = 0
  ·rw [if_pos (.inr h40)] at ho
   have HO := Lib.hid ho
   clear hC h ho
   go_enter Tryz.func58, Tryz.ntmps58
   go_wp2_with (first | (go_at_call 52; refine (half_i HB.out hl hc _ (by omega) (by omega) _ (Kd.C_below HC.out HS.out.below)).mono ?_; rintro e w' ⟨he, ⟨hv0, hv1⟩, hd⟩; subst he; have hS2 := HS.out.step hd; clear HS hfc hd; have HS := Lib.hid hS2; have hfc := (Lib.hid HS.out.cell).out; clear hS2) | (go_at_call 27; refine (double_i HB.out hl hc _ (by omega) (by omega) _ (Kd.C_below HC.out HS.out.below)).mono ?_; rintro e w' ⟨he, ⟨hv0, hv1⟩, hd⟩; subst he; have hS2 := HS.out.step hd; clear HS hfc hd; have HS := Lib.hid hS2; have hfc := (Lib.hid HS.out.cell).out; clear hS2))
   go_ret2
   exact Out.yes HO.out.symm rfl HS.out.below
  ·have h40b : (rdN l 40 8 == 0) = false := by simp [h40]
   rw [if_neg (by omega)] at ho
   have HX := Lib.hid ho
   have hlen : (64 : Int) ≤ (l.length : Int) := by omega
   clear hC h ho
   go_enter Tryz.func58, Tryz.ntmps58
   go_wp2_with (first | (go_at_call 52; refine (half_i HB.out hl hc _ (by omega) (by omega) _ (Kd.C_below HC.out HS.out.below)).mono ?_; rintro e w' ⟨he, ⟨hv0, hv1⟩, hd⟩; subst he; have hS2 := HS.out.step hd; clear HS hfc hd; have HS := Lib.hid hS2; have hfc := (Lib.hid HS.out.cell).out; clear hS2) | (go_at_call 27; refine (double_i HB.out hl hc _ (by omega) (by omega) _ (Kd.C_below HC.out HS.out.below)).mono ?_; rintro e w' ⟨he, ⟨hv0, hv1⟩, hd⟩; subst he; have hS2 := HS.out.step hd; clear HS hfc hd; have HS := Lib.hid hS2; have hfc := (Lib.hid HS.out.cell).out; clear hS2) | (go_at_call 25; refine (must_c _ _ _ _).mono ?_; rintro e w' (⟨hb, he, hw⟩ | ⟨hb, he, hw⟩) <;> have hw := hw.symm <;> subst he <;> subst hw; rotate_left; (refine ⟨rfl, Out.no (HX.out.symm.trans (chk_no hb)) HS.out.below⟩); have hX2 := HX.out; rw [chk_ok hb] at hX2; clear HX hb; have HX := Lib.hid hX2; clear hX2))
   have hv60 := b60
   have E1 : IntKind.i64.wrap (64 * rdN l 60 2) = 64 * rdN l 60 2 := by rw [IntKind.wrap_i64]; omega
   have E2 : IntKind.u64.wrap (64 * rdN l 60 2) = 64 * rdN l 60 2 := u64n (by omega) (by omega)
   have hS2 := HS.out.drew; clear HS hfc; have HS := Lib.hid hS2; have hfc := (Lib.hid HS.out.cell).out; clear hS2
   go_region_held2 (fun w' => w'.cell? ⟨w.heap.size, 0, none⟩ = some (.slice A l.length c)) (first | exact hfc | go_keep) (first | (go_at_call 27; refine (double_i HB.out hl hc _ (by omega) (by omega) _ (Kd.C_below HC.out HS.out.below)).mono ?_; rintro e w' ⟨he, ⟨hv0, hv1⟩, hd⟩; subst he; have hS2 := HS.out.step hd; clear HS hfc hd; have HS := Lib.hid hS2; have hfc := (Lib.hid HS.out.cell).out; clear hS2) | (go_at_call 54; refine (room_c hl hc _ _ (by omega) _ (Kd.C_below HC.out HS.out.below)).mono ?_; rintro e w' ⟨he, hd⟩; subst he; have hS2 := HS.out.step hd; clear HS hfc hd; have HS := Lib.hid hS2; have hfc := (Lib.hid HS.out.cell).out; clear hS2) | (go_at_call 25; refine (must_c _ _ _ _).mono ?_; rintro e w' (⟨hb, he, hw⟩ | ⟨hb, he, hw⟩) <;> have hw := hw.symm <;> subst he <;> subst hw; rotate_left; (refine ⟨rfl, Out.no (HX.out.symm.trans (chk_no hb)) HS.out.below⟩); have hX2 := HX.out; rw [chk_ok hb] at hX2; clear HX; have HX := Lib.hid hX2; have HBB := Lib.hid hb; clear hX2 hb))
   have hr := room_le HBB.out
   clear E1 E2 HBB hv60
   obtain ⟨f, hf⟩ : ∃ f, findS l (rdN l 60 2).toNat 0 = f := ⟨_, rfl⟩
   have hX2 := HX.out
   rw [hf] at hX2
   have HO := Lib.hid hX2
   have HF := Lib.hid hf
   clear hX2 hf HX
   go_wp2
   go_loopw [29] (fun v29 wx => ∃ i : Int, v29 = .int .i64 i ∧ 0 ≤ i ∧ i ≤ rdN l 60 2 ∧ Hid (FS w (.slice A l.length c) wx) ∧ Hid (findS l (rdN l 60 2 - i).toNat i = f)) (fun v29 _ => (rdN l 60 2 - RowKit.intOf v29).toNat)
   case atStart => exact ⟨0, rfl, by omega, by omega, HS, Lib.hid (by rw [Int.sub_zero]; exact HF.out)⟩
   case round =>
    clear HS hfc HF
    obtain ⟨i, rfl, hi0, hi1, HS, HF⟩ := hrel
    have hfc := (Lib.hid HS.out.cell).out
    by_cases hi : i < rdN l 60 2
    ·have hF := HF.out
     rw [show (rdN l 60 2 - i).toNat = (rdN l 60 2 - (i + 1)).toNat + 1 by omega, findS] at hF
     by_cases h2 : rdN l (rdN l 40 8 + 64 * i + 4) 4 = 2
     ·rw [if_pos h2] at hF
      clear HF
      have HF := Lib.hid hF
      clear hF
      have h2b : (rdN l (rdN l 40 8 + 64 * i + 4) 4 == 2) = true := by simp [h2]
      have H2 := Lib.hid h2
      clear h2
      go_wp2_with (first | (go_at_call 53; refine (word_i HB.out hl hc _ (by omega) (by omega) _ (Kd.C_below HC.out HS.out.below)).mono ?_; rintro e w' ⟨he, ⟨hv0, hv1⟩, hd⟩; subst he; have hS2 := HS.out.step hd; clear HS hfc hd; have HS := Lib.hid hS2; have hfc := (Lib.hid HS.out.cell).out; clear hS2) | (go_at_call 59; refine (sec_i HB.out hl hc _ (by omega) (by omega) (by omega) (by omega) _ (Kd.C_below HC.out HS.out.below)).mono ?_; rintro e w' ⟨he, ⟨hv0, hv1⟩, hd⟩; subst he; have hS2 := HS.out.step hd; clear HS hfc hd; have HS := Lib.hid hS2; have hfc := (Lib.hid HS.out.cell).out; clear hS2))
      go_ret2
      exact Out.yes HO.out.symm (by rw [← HF.out]; rfl) HS.out.below
     ·rw [if_neg h2] at hF
      clear HF
      have HF := Lib.hid hF
      clear hF
      have h2b : (rdN l (rdN l 40 8 + 64 * i + 4) 4 == 2) = false := by simp [h2]
      clear h2
      go_wp2_with (first | (go_at_call 53; refine (word_i HB.out hl hc _ (by omega) (by omega) _ (Kd.C_below HC.out HS.out.below)).mono ?_; rintro e w' ⟨he, ⟨hv0, hv1⟩, hd⟩; subst he; have hS2 := HS.out.step hd; clear HS hfc hd; have HS := Lib.hid hS2; have hfc := (Lib.hid HS.out.cell).out; clear hS2) | (go_at_call 59; refine (sec_i HB.out hl hc _ (by omega) (by omega) (by omega) (by omega) _ (Kd.C_below HC.out HS.out.below)).mono ?_; rintro e w' ⟨he, ⟨hv0, hv1⟩, hd⟩; subst he; have hS2 := HS.out.step hd; clear HS hfc hd; have HS := Lib.hid hS2; have hfc := (Lib.hid HS.out.cell).out; clear hS2))
      exact ⟨⟨i + 1, rfl, by omega, by omega, HS, HF⟩, by simp only [RowKit.intOf]; omega⟩
    ·have hF := HF.out
     rw [show (rdN l 60 2 - i).toNat = 0 by omega, findS] at hF
     clear HF
     have HF := Lib.hid hF
     clear hF
     go_wp2
     go_ret2
     exact Out.yes HO.out.symm (by rw [← HF.out]; rfl) HS.out.below
end Go.Proofs.YtbnlifldnjgpmaaGreatDoor.PWri
/- The map of names that were seen: its entries, what a look-up and the counting up of a new name do. -/
set_option linter.unusedVariables false
set_option linter.unusedSimpArgs false
namespace Go.Proofs.YtbnlifldnjgpmaaGreatDoor.PWri
open Go.RowKit Go.Lib Go.Proofs.YtbnlifldnjgpmaaGreatDoorW.PrintWords Go.Proofs.YtbnlifldnjgpmaaGreatDoorW.PrintLast
open Go.ChangeShapes Go.WideShapes Go.MapKept Go.ChangeMaps Go.WideMaps
theorem laidOutZ : laidOutB Tryz.prog = true := by kernel_rfl
def keyV (s : S82) : Value := .agg #[.string s.f0, .int .u64 s.f1]
def okS (s : S82) : Prop := s.f0.size ≤ maxLen ∧ (Lit.int .u64 s.f1).wf = true
theorem lawSym : KeyLaw Tryz.prog 82 := deep_law_laid laidOutZ (m := 3) (by omega) (of_decide_eq_true (by kernel_rfl)) (by kernel_rfl) (by rw [Tryz.underlying82])
theorem nTypes : Tryz.prog.types.size = Tryz.prog.types.size - 1 + 1 := by kernel_rfl
theorem klits (d : Nat) {s : S82} (h : okS s) : Tryz.prog.keyLits (d + 2) 82 [.string s.f0, .int .u64 s.f1] = some [.string s.f0.data.toList, .int .u64 s.f1] := by
 have hc : Tryz.prog.cellsOf 82 = 2 := by kernel_rfl
 have hc9 : Tryz.prog.cellsOf 9 = 1 := by kernel_rfl
 have hc24 : Tryz.prog.cellsOf 24 = 1 := by kernel_rfl
 simp [Program.keyLits, Tryz.underlying82, hc, hc9, hc24, Tryz.underlying9, Tryz.underlying24, h.1, h.2]
theorem keySym {s : S82} (h : okS s) : ∃ l, keyOf Tryz.prog 82 (keyV s) = some l := by
 have h1 : Tryz.prog.keyType 82 = true := by kernel_rfl
 have h2 : (keyV s).formed Tryz.prog 82 = true := by
  have hc : Tryz.prog.cellsOf 82 = 2 := by kernel_rfl
  simp [keyV, Value.formed, Tryz.underlying82, hc]
 have h3 := klits (Tryz.prog.types.size - 1) h
 rw [show Tryz.prog.types.size - 1 + 2 = Tryz.prog.types.size + 1 from by have := nTypes; omega] at h3
 refine ⟨.string (keyBytes [.string s.f0.data.toList, .int .u64 s.f1]), ?_⟩
 unfold keyOf
 rw [Tryz.underlying82]
 simp only [h1, h2, Bool.and_self, if_true]
 rw [show (keyV s).cells.toList = [.string s.f0, .int .u64 s.f1] from rfl, h3]
 rfl
theorem keyV_inj {a b : S82} (h : keyV a = keyV b) : a = b := by
 unfold keyV at h
 injection h with h
 have h1 := congrArg Array.toList h
 simp only [List.cons.injEq, Value.string.injEq, Value.int.injEq, true_and, and_true] at h1
 cases a
 cases b
 simp_all
def ent (s : S82) (v : Int) (i : Nat) : MapEntry := { key := keyV s, val := .int .i64 v, born := i }
/-- The entries: each name once, in the order in which they came. -/
def ents : Nat → List S82 → List MapEntry
 | _, [] => []
 | i, s :: l => ent s 1 i :: ents (i + 1) l
theorem ents_len : ∀ (i : Nat) (l : List S82), (ents i l).length = l.length
 | _, [] => rfl
 | i, s :: l => by rw [ents, List.length_cons, ents_len (i + 1) l, List.length_cons]
theorem ents_snoc : ∀ (i : Nat) (l : List S82) (s : S82), ents i (l ++ [s]) = ents i l ++ [ent s 1 (i + l.length)]
 | i, [], s => rfl
 | i, a :: l, s => by rw [List.cons_append, ents, ents_snoc (i + 1) l s, ents, List.length_cons, show i + 1 + l.length = i + (l.length + 1) by omega]; rfl
theorem ents_mem : ∀ {i : Nat} {l : List S82} {e : MapEntry}, e ∈ ents i l → ∃ s ∈ l, e.key = keyV s ∧ e.val = .int .i64 1 ∧ i ≤ e.born ∧ e.born < i + l.length
 | i, s :: l, e, h => by
  rw [ents] at h
  rcases List.mem_cons.1 h with rfl | h
  ·exact ⟨s, List.mem_cons_self, rfl, rfl, Nat.le_refl _, by rw [List.length_cons]; show i < _; omega⟩
  ·obtain ⟨s', h1, h2, h3, h4, h5⟩ := ents_mem h
   exact ⟨s', List.mem_cons_of_mem _ h1, h2, h3, by omega, by rw [List.length_cons]; omega⟩
theorem ents_key : ∀ {i : Nat} {l : List S82} {s : S82}, s ∈ l → ∃ e ∈ ents i l, e.key = keyV s
 | i, a :: l, s, h => by
  rw [ents]
  rcases List.mem_cons.1 h with rfl | h
  ·exact ⟨_, List.mem_cons_self, rfl⟩
  ·obtain ⟨e, h1, h2⟩ := ents_key (i := i + 1) h
   exact ⟨e, List.mem_cons_of_mem _ h1, h2⟩
/-- The map at block B holds these names. -/
def MO (W : World) (B : Nat) (out : List S82) : Prop := W.heap[B]? = some (.map (ents 0 out).toArray out.length) ∧ ∀ s ∈ out, okS s
theorem keys_ok {i : Nat} {out : List S82} (h : ∀ s ∈ out, okS s) : ∀ e ∈ ents i out, ∃ l, keyOf Tryz.prog 82 e.key = some l := by
 intro e he
 obtain ⟨s, hs, hk, _⟩ := ents_mem he
 rw [hk]
 exact keySym (h s hs)
theorem zero3 (W : World) : (zeroValue 3).run Tryz.prog W = .ok (.int .i64 0) W := by kernel_rfl
theorem look_new {W : World} {B : Nat} {out : List S82} (h : MO W B out) {s : S82} (hs : okS s) (hn : s ∉ out) : (Instr.lookup 107 (.map (some B)) (keyV s) false).run Tryz.prog W = .ok (.int .i64 0) W := by
 obtain ⟨kl, hk⟩ := keySym hs
 rcases lawSym.find W hk (ents 0 out) (keys_ok h.2) with ⟨h1, _⟩ | ⟨j, e, h1, h2, h3⟩
 ·simp [Instr.lookup, run_underlying Tryz.underlying107, MapKept.run_getObj_map h.1, lawSym.check W _ hk, h1, zero3, Result.andThen]
 ·obtain ⟨s', hs', hk', _⟩ := ents_mem (List.mem_of_getElem? h2)
  rw [hk'] at h3
  rw [keyV_inj h3] at hs'
  exact absurd hs' hn
theorem look_old {W : World} {B : Nat} {out : List S82} (h : MO W B out) {s : S82} (hs : okS s) (hn : s ∈ out) : (Instr.lookup 107 (.map (some B)) (keyV s) false).run Tryz.prog W = .ok (.int .i64 1) W := by
 obtain ⟨kl, hk⟩ := keySym hs
 rcases lawSym.find W hk (ents 0 out) (keys_ok h.2) with ⟨h1, h2⟩ | ⟨j, e, h1, h2, h3⟩
 ·obtain ⟨e, he, hke⟩ := ents_key (i := 0) hn
  exact absurd hke (h2 e he)
 ·obtain ⟨s', hs', hk', hv, _⟩ := ents_mem (List.mem_of_getElem? h2)
  rw [hv] at h1
  simp [Instr.lookup, run_underlying Tryz.underlying107, MapKept.run_getObj_map h.1, lawSym.check W _ hk, h1, Result.andThen]
/-- Between the two halves of the counting up: the new name with 0. -/
def MH (W : World) (B : Nat) (out : List S82) (s : S82) : Prop := W.heap[B]? = some (.map ((ents 0 out).toArray.push (ent s 0 out.length)) (out.length + 1)) ∧ ∀ x ∈ out, okS x
theorem set_get {W : World} {B : Nat} {o : Obj} (h : W.heap[B]? = some o) (o' : Obj) : (setBlock W B o').heap[B]? = some o' := by
 have hl := blk_lt h
 unfold setBlock
 simp [Array.getElem?_setIfInBounds, hl]
theorem grown_set {W : World} {B : Nat} {o : Obj} (h : W.heap[B]? = some o) (o' : Obj) : W.grownBy (setBlock W B o') (some B) := by
 refine ⟨rfl, rfl, rfl, by unfold setBlock; simp, fun i hi hne => ?_⟩
 have : B ≠ i := fun e => hne (by rw [e])
 unfold setBlock
 simp [Array.getElem?_setIfInBounds, this]
theorem enter_new {W : World} {B : Nat} {out : List S82} (h : MO W B out) {s : S82} (hs : okS s) (hn : s ∉ out) :
 ∃ W1, (Instr.mapEntry 107 (.map (some B)) (keyV s)).run Tryz.prog W = .ok (.tuple #[.int .i64 0, .int .i64 (out.length : Int)]) W1 ∧ MH W1 B out s ∧ W.grownBy W1 (some B) := by
 obtain ⟨kl, hk⟩ := keySym hs
 rcases lawSym.find W hk (ents 0 out) (keys_ok h.2) with ⟨h1, _⟩ | ⟨j, e, h1, h2, h3⟩
 ·refine ⟨setBlock W B (.map ((ents 0 out).toArray.push (ent s 0 out.length)) (out.length + 1)), ?_, ⟨set_get h.1 _, h.2⟩, grown_set h.1 _⟩
  simp [Instr.mapEntry, run_underlying Tryz.underlying107, MapKept.run_getObj_map h.1, lawSym.check W _ hk, h1, zero3, MapKept.run_setObj_map _ h.1, Result.andThen, goInt, setBlock, ent]
 ·obtain ⟨s', hs', hk', _⟩ := ents_mem (List.mem_of_getElem? h2)
  rw [hk'] at h3
  rw [keyV_inj h3] at hs'
  exact absurd hs' hn
theorem look_half {W : World} {B : Nat} {out : List S82} {s : S82} (h : MH W B out s) (hs : okS s) (hn : s ∉ out) : (Instr.lookup 107 (.map (some B)) (keyV s) false).run Tryz.prog W = .ok (.int .i64 0) W := by
 obtain ⟨kl, hk⟩ := keySym hs
 have hkeys : ∀ e ∈ ents 0 out ++ [ent s 0 out.length], ∃ l, keyOf Tryz.prog 82 e.key = some l := by
  intro e he
  rcases List.mem_append.1 he with he | he
  ·exact keys_ok h.2 e he
  ·rw [List.mem_singleton.1 he]
   exact ⟨kl, hk⟩
 have hl : ((ents 0 out).toArray.push (ent s 0 out.length)).toList = ents 0 out ++ [ent s 0 out.length] := by simp
 rcases lawSym.find W hk _ hkeys with ⟨h1, h2⟩ | ⟨j, e, h1, h2, h3⟩
 ·exact absurd rfl (h2 (ent s 0 out.length) (by simp))
 ·have hv : e.val = .int .i64 0 := by
   rcases List.mem_append.1 (List.mem_of_getElem? h2) with he | he
   ·obtain ⟨s', hs', hk', _⟩ := ents_mem he
    rw [hk'] at h3
    rw [keyV_inj h3] at hs'
    exact absurd hs' hn
   ·rw [List.mem_singleton.1 he]
    rfl
  rw [hv] at h1
  simp [Instr.lookup, run_underlying Tryz.underlying107, MapKept.run_getObj_map h.1, lawSym.check W _ hk, h1, Result.andThen]
theorem find_last {n : Nat} {e : MapEntry} (he : e.born = n) : ∀ (es : List MapEntry), (∀ x ∈ es, x.born < n) → (es ++ [e]).findIdx? (fun x => ((x.born : Nat) : Int) == ((n : Nat) : Int)) = some es.length
 | [], _ => by simp [List.findIdx?_cons, he]
 | a :: es, h => by
  have ha := h a List.mem_cons_self
  have hb : (((a.born : Nat) : Int) == ((n : Nat) : Int)) = false := by
   simp only [beq_eq_false_iff_ne, ne_eq, Int.natCast_inj]
   omega
  rw [List.cons_append, List.findIdx?_cons, hb]
  simp [find_last he es (fun x hx => h x (List.mem_cons_of_mem _ hx))]
theorem modify_lastE (f : MapEntry → MapEntry) (e : MapEntry) : ∀ l : List MapEntry, (l ++ [e]).modify l.length f = l ++ [f e]
 | [] => rfl
 | b :: r => by simp [List.modify_succ_cons, modify_lastE f e r]
theorem store_half {W : World} {B : Nat} {out : List S82} {s : S82} (h : MH W B out s) (hs : okS s) :
 ∃ W1, (Instr.entryStore 107 (.map (some B)) (.int .i64 (out.length : Int)) (.int .i64 1)).run Tryz.prog W = .ok () W1 ∧ MO W1 B (out ++ [s]) ∧ W.grownBy W1 (some B) := by
 have hidx : ((ents 0 out).toArray.push (ent s 0 out.length)).findIdx? (fun x => ((x.born : Nat) : Int) == ((out.length : Nat) : Int)) = some out.length := by
  have h1 := find_last (n := out.length) (e := ent s 0 out.length) rfl (ents 0 out) (fun x hx => by obtain ⟨_, _, _, _, _, h5⟩ := ents_mem hx; omega)
  rw [ents_len] at h1
  rw [← h1]
  cases e : ((ents 0 out).toArray.push (ent s 0 out.length))
  rw [show ents 0 out ++ [ent s 0 out.length] = ((ents 0 out).toArray.push (ent s 0 out.length)).toList by simp, e]
  simp
 have hmod : ((ents 0 out).toArray.push (ent s 0 out.length)).modify out.length (fun e => { e with val := .int .i64 1 }) = (ents 0 (out ++ [s])).toArray := by
  apply Array.ext'
  rw [Array.toList_modify]
  have h1 := modify_lastE (fun e => { e with val := .int .i64 1 }) (ent s 0 out.length) (ents 0 out)
  rw [ents_len] at h1
  rw [show ((ents 0 out).toArray.push (ent s 0 out.length)).toList = ents 0 out ++ [ent s 0 out.length] by simp, h1, ents_snoc, Nat.zero_add]
  rfl
 refine ⟨setBlock W B (.map (ents 0 (out ++ [s])).toArray (out.length + 1)), ?_, ⟨?_, fun x hx => ?_⟩, grown_set h.1 _⟩
 ·have hb := h.1
  generalize ((ents 0 out).toArray.push (ent s 0 out.length)) = es at hb hidx hmod
  simp [Instr.entryStore, MapKept.run_getObj_map hb, asInt, asIntOf, hidx, hmod, MapKept.run_setObj_map _ hb, Result.andThen, setBlock]
 ·rw [List.length_append, List.length_singleton]
  exact set_get h.1 _
 ·rcases List.mem_append.1 hx with hx | hx
  ·exact h.2 x hx
  ·rw [List.mem_singleton.1 hx]
   exact hs
end Go.Proofs.YtbnlifldnjgpmaaGreatDoor.PWri
/- Parts that a call has made: a row of its own, and the bytes of each in a row of their own, no two the same. -/
set_option linter.unusedVariables false
set_option linter.unusedSimpArgs false
namespace Go.Proofs.YtbnlifldnjgpmaaGreatDoor.PWri
open Go.RowKit Go.Lib Go.Proofs.YtbnlifldnjgpmaaGreatDoorW.PrintWords Go.Proofs.YtbnlifldnjgpmaaGreatDoorW.PrintLast
abbrev PV : Type := S55 × Value
def encP (p : PV) : List Value := [.int .u64 p.1.f0, .int .u64 p.1.f1, .int .i64 p.1.f2, p.2]
/-- The row v holds these parts; the second of each pair is its slice of bytes. -/
structure PO (W : World) (base : Nat) (v : Value) (ps : List PV) : Prop where
 own : W.ownsRow base 55 4 v ps.length (ps.flatMap encP)
 data : ∀ p ∈ ps, (Kd.int .u8).R 5 W base (fun _ => True) p.2 p.1.f3
 apart : ps.Pairwise fun p q => ∀ k, p.2.ownBlock = some k → q.2.ownBlock ≠ some k
theorem encP_len (ps : List PV) : (ps.flatMap encP).length = ps.length * 4 := by
 induction ps with
 | nil => rfl
 | cons p ps ih => simp only [List.flatMap_cons, List.length_append, ih, List.length_cons, encP, List.length_nil]; omega
theorem PO.nil (W : World) (base : Nat) : PO W base (.slice none 0 0) [] := ⟨own_nil W base _ _, fun _ h => (List.not_mem_nil h).elim, .nil⟩
theorem PO.below {W W1 : World} {base : Nat} {v : Value} {ps : List PV} (h : PO W base v ps) (hb : Below W.heap.size W W1) : PO W1 base v ps :=
 ⟨pw_own_below h.own hb, fun p hp => Kd.R_below (h.data p hp) hb, h.apart⟩
theorem PO.drew {W : World} {base : Nat} {v : Value} {ps : List PV} (h : PO W base v ps) : PO W.drew base v ps := h.below (below_drew (Below.refl _ _))
theorem PO.slice {W : World} {base : Nat} {v : Value} {ps : List PV} (h : PO W base v ps) : ∃ A c, v = .slice A ps.length c := own_slice h.own
theorem PO.far {W : World} {base : Nat} {v : Value} {ps : List PV} (h : PO W base v ps) (p : PV) (hp : p ∈ ps) : (Kd.int .u8).R 5 W base (fun k => True ∧ some k ≠ v.ownBlock) p.2 p.1.f3 := by
 refine Kd.R_mono (Kd.R_bound (h.data p hp)) (fun k hk => ⟨trivial, fun e => ?_⟩)
 obtain ⟨_, _, _, q, hq, cells, hc⟩ := hk
 obtain ⟨cells2, hc2⟩ := own_typed h.own k e.symm
 rw [hc] at hc2
 injection hc2 with h2
 injection h2 with _ h3
 subst h3
 revert hq
 decide
theorem reps_encP {W : World} {base : Nat} {v : Value} : ∀ ps : List PV, (∀ p ∈ ps, (Kd.int .u8).R 5 W base (fun k => True ∧ some k ≠ v.ownBlock) p.2 p.1.f3) →
 Reps (k55.M W base (fun k => True ∧ some k ≠ v.ownBlock)) 4 (ps.map (·.1)) (ps.flatMap encP) := by
 intro ps h
 refine ⟨encP_len ps ▸ (by rw [List.length_map]), ?_⟩
 intro j p hj
 rw [List.getElem?_map] at hj
 obtain ⟨q, hq, rfl⟩ := Option.map_eq_some_iff.1 hj
 have e : ((ps.flatMap encP).drop (j * 4)).take 4 = encP q := by
  clear h hj
  induction ps generalizing j with
  | nil => simp at hq
  | cons a ps ih =>
   cases j with
   | zero =>
    simp only [List.getElem?_cons_zero, Option.some.injEq] at hq
    subst hq
    rfl
   | succ j =>
    rw [List.getElem?_cons_succ] at hq
    rw [List.flatMap_cons, show (j + 1) * 4 = 4 + j * 4 by omega, ← List.drop_drop, show (encP a ++ ps.flatMap encP).drop 4 = ps.flatMap encP from rfl]
    exact ih j hq
 rw [e]
 exact k55_mkM W base _ q.1 (h q (List.mem_of_getElem? hq))
theorem PO.R {W : World} {base : Nat} {v : Value} {ps : List PV} (h : PO W base v ps) : Kd.R k55 55 W base (fun _ => True) v (ps.map (·.1)) := by
 refine ⟨fun _ _ => trivial, ps.flatMap encP, ?_, ?_⟩
 ·rw [List.length_map]
  exact h.own
 ·exact reps_encP ps (fun p hp => h.far p hp)
theorem PO.C {W : World} {base : Nat} {A : Option Addr} {n c : Nat} {ps : List PV} (h : PO W base (.slice A n c) ps) : Kd.C k55 W A ps.length (ps.map (·.1)) ∧ n = ps.length ∧ ps.length ≤ c := by
 obtain ⟨A1, c1, e, hl, hC⟩ := Kd.R_reads h.R
 injection e with e1 e2 e3
 subst e1 e3
 rw [List.length_map] at e2 hl hC
 exact ⟨hC, e2, hl⟩
theorem below_grown_none {W W1 : World} (h : W.grownBy W1 (Value.slice none 0 0).ownBlock) : Below W.heap.size W W1 := ⟨h.os, h.tape, h.output, h.size, fun i hi => h.block i hi (by simp [Value.ownBlock])⟩
/-- A row that is new at W is none of these. -/
theorem PO.new_apart {W : World} {base : Nat} {v dv : Value} {ps : List PV} (h : PO W base v ps) (hat : dv.ownBlock = (Value.slice none 0 0).ownBlock ∨ ∃ b, dv.ownBlock = some b ∧ W.heap.size ≤ b) :
 ∀ p ∈ ps, ∀ k, p.2.ownBlock = some k → dv.ownBlock ≠ some k := by
 intro p hp k hk e
 rcases hat with hat | ⟨b, hb, hle⟩
 ·rw [hat] at e
  simp [Value.ownBlock] at e
 ·rw [hb] at e
  cases e
  obtain ⟨inner, ho⟩ := Kd.R_own (h.data p hp)
  have := own_lt ho _ hk
  omega
/-- Behind an append of one part. -/
theorem PO.app {W w1 : World} {base : Nat} {v v1 dv : Value} {ps : List PV} {s : S55} (h : PO W base v ps) (hd : (Kd.int .u8).R 5 W base (fun _ => True) dv s.f3)
 (hn : ∀ p ∈ ps, ∀ k, p.2.ownBlock = some k → dv.ownBlock ≠ some k)
 (ho : w1.ownsRow base 55 4 v1 (ps.length + 1) (ps.flatMap encP ++ encP (s, dv))) (hg : W.grownBy w1 v.ownBlock) : PO w1 base v1 (ps ++ [(s, dv)]) := by
 have far : (Kd.int .u8).R 5 W base (fun k => True ∧ some k ≠ v.ownBlock) dv s.f3 := by
  refine Kd.R_mono (Kd.R_bound hd) (fun k hk => ⟨trivial, fun e => ?_⟩)
  obtain ⟨_, _, _, q, hq, cells, hc⟩ := hk
  obtain ⟨cells2, hc2⟩ := own_typed h.own k e.symm
  rw [hc] at hc2
  injection hc2 with h2
  injection h2 with _ h3
  subst h3
  revert hq
  decide
 refine ⟨?_, fun p hp => ?_, ?_⟩
 ·rw [List.length_append, List.flatMap_append, List.length_singleton, List.flatMap_singleton]
  exact ho
 ·rcases List.mem_append.1 hp with hp | hp
  ·exact Kd.R_mono (Kd.R_grown (h.far p hp) hg (fun k hk => hk.2)) (fun _ _ => trivial)
  ·rw [List.mem_singleton.1 hp]
   exact Kd.R_mono (Kd.R_grown far hg (fun k hk => hk.2)) (fun _ _ => trivial)
 ·rw [List.pairwise_append]
  exact ⟨h.apart, List.pairwise_singleton _ _, fun p hp q hq => by rw [List.mem_singleton.1 hq]; exact hn p hp⟩
end Go.Proofs.YtbnlifldnjgpmaaGreatDoor.PWri
/-
  DERIVED: THE SHELF's CONTRACTS AT THIS DUMP, IN PLAIN WORDS (tools/lay-plain.mjs out of 'YtbnlifldnjgpmaaGreatDoorShelfS.lean', which tools/lay-shelf.mjs wrote): THE SAME DECLARATIONS UNDER THE SAME NAMES: 'import', 'namespace', 'open', 'def', 'theorem' AND NOTHING ELSE: no command of the shelf's: FOR A HAND-IN. Each laying: the table of numbers ('.._ren') and one theorem, a field a fact of the dump's own or the kernel's comparison; each contract: ONE APPLICATION.
-/
namespace Go.Proofs
open Go.Shelf
def Tryz.sortSeg_ren : Go.Shelf.Ren := ⟨fun | 6 => 56 | 15 => 83 | 14 => 82 | 28 => 100 | 29 => 101 | 20 => 92 | 21 => 93 | 22 => 94 | 23 => 95 | 24 => 96 | 25 => 97 | 26 => 98 | 27 => 99 | 46 => 112 | 47 => 113 | 48 => 114 | 49 => 115 | 50 => 116 | 57 => 120 | n => n, fun | 22 => 25 | 24 => 55 | 25 => 104 | 3 => 3 | 39 => 137 | 0 => 0 | 53 => 164 | 55 => 24 | 4 => 4 | 46 => 170 | 45 => 169 | 50 => 105 | 5 => 5 | 9 => 9 | 66 => 192 | 70 => 196 | 76 => 202 | 77 => 203 | n => n, fun | n => n⟩
theorem Tryz.sortSeg : Go.Proofs.SlLaysF0.n6 Tryz.prog Tryz.sortSeg_ren := {
 mixed := by kernel_rfl
 f6 := ⟨Tryz.f56.name, by decide, Tryz.func56.trans (congrArg some (by kernel_rfl))⟩
 f14 := ⟨Tryz.f82.name, by decide, Tryz.func82.trans (congrArg some (by kernel_rfl))⟩
 f15 := Tryz.func83.trans (congrArg some (by kernel_rfl))
 f20 := ⟨Tryz.f92.name, by decide, Tryz.func92.trans (congrArg some (by kernel_rfl))⟩
 f21 := ⟨Tryz.f93.name, by decide, Tryz.func93.trans (congrArg some (by kernel_rfl))⟩
 f22 := ⟨Tryz.f94.name, by decide, Tryz.func94.trans (congrArg some (by kernel_rfl))⟩
 f23 := ⟨Tryz.f95.name, by decide, Tryz.func95.trans (congrArg some (by kernel_rfl))⟩
 f24 := ⟨Tryz.f96.name, by decide, Tryz.func96.trans (congrArg some (by kernel_rfl))⟩
 f25 := ⟨Tryz.f97.name, by decide, Tryz.func97.trans (congrArg some (by kernel_rfl))⟩
 f26 := ⟨Tryz.f98.name, by decide, Tryz.func98.trans (congrArg some (by kernel_rfl))⟩
 f27 := ⟨Tryz.f99.name, by decide, Tryz.func99.trans (congrArg some (by kernel_rfl))⟩
 f28 := Tryz.func100.trans (congrArg some (by kernel_rfl))
 f29 := Tryz.func101.trans (congrArg some (by kernel_rfl))
 f46 := ⟨Tryz.f112.name, by decide, Tryz.func112.trans (congrArg some (by kernel_rfl))⟩
 f47 := Tryz.func113.trans (congrArg some (by kernel_rfl))
 f48 := Tryz.func114.trans (congrArg some (by kernel_rfl))
 f49 := ⟨Tryz.f115.name, by decide, Tryz.func115.trans (congrArg some (by kernel_rfl))⟩
 f50 := ⟨Tryz.f116.name, by decide, Tryz.func116.trans (congrArg some (by kernel_rfl))⟩
 f57 := ⟨Tryz.f120.name, by decide, Tryz.func120.trans (congrArg some (by kernel_rfl))⟩
 t0 := Tryz.underlying0
 a0 := Tryz.isAgg0
 z0 := Tryz.sizeOf0
 v0 := Tryz.zeroValue0
 t3 := Tryz.underlying3
 a3 := Tryz.isAgg3
 z3 := Tryz.sizeOf3
 v3 := Tryz.zeroValue3
 t4 := Tryz.underlying4
 a4 := Tryz.isAgg4
 z4 := Tryz.sizeOf4
 v4 := Tryz.zeroValue4
 t5 := Tryz.underlying5
 a5 := Tryz.isAgg5
 z5 := Tryz.sizeOf5
 v5 := Tryz.zeroValue5
 t9 := Tryz.underlying9
 a9 := Tryz.isAgg9
 z9 := Tryz.sizeOf9
 v9 := Tryz.zeroValue9
 t22 := Tryz.underlying25
 a22 := Tryz.isAgg25
 z22 := Tryz.sizeOf25
 v22 := Tryz.zeroValue25
 t25 := Tryz.underlying104
 a25 := Tryz.isAgg104
 z25 := Tryz.sizeOf104
 v25 := Tryz.zeroValue104
 t39 := Tryz.underlying137
 a39 := Tryz.isAgg137
 z39 := Tryz.sizeOf137
 v39 := Tryz.zeroValue137
 t45 := Tryz.underlying169
 a45 := Tryz.isAgg169
 z45 := Tryz.sizeOf169
 v45 := Tryz.zeroValue169
 t46 := Tryz.underlying170
 a46 := Tryz.isAgg170
 z46 := Tryz.sizeOf170
 v46 := Tryz.zeroValue170
 t50 := Tryz.underlying105
 a50 := Tryz.isAgg105
 z50 := Tryz.sizeOf105
 v50 := Tryz.zeroValue105
 t53 := Tryz.underlying164
 a53 := Tryz.isAgg164
 z53 := Tryz.sizeOf164
 v53 := Tryz.zeroValue164
 t55 := Tryz.underlying24
 a55 := Tryz.isAgg24
 z55 := Tryz.sizeOf24
 v55 := Tryz.zeroValue24
 t66 := Tryz.underlying192
 a66 := Tryz.isAgg192
 z66 := Tryz.sizeOf192
 v66 := Tryz.zeroValue192
 t70 := Tryz.underlying196
 a70 := Tryz.isAgg196
 z70 := Tryz.sizeOf196
 v70 := Tryz.zeroValue196
 t76 := Tryz.underlying202
 a76 := Tryz.isAgg202
 z76 := Tryz.sizeOf202
 v76 := Tryz.zeroValue202
 t77 := Tryz.underlying203
 a77 := Tryz.isAgg203
 z77 := Tryz.sizeOf203
 v77 := Tryz.zeroValue203 }
def Tryz.sortSym_ren : Go.Shelf.Ren := ⟨fun | 6 => 61 | 15 => 83 | 14 => 85 | 28 => 100 | 29 => 101 | 20 => 102 | 21 => 103 | 22 => 104 | 23 => 105 | 24 => 106 | 25 => 107 | 26 => 108 | 27 => 109 | 46 => 117 | 47 => 113 | 48 => 114 | 49 => 118 | 50 => 119 | 57 => 121 | n => n, fun | 22 => 26 | 24 => 82 | 25 => 84 | 3 => 3 | 39 => 137 | 0 => 0 | 53 => 164 | 55 => 24 | 4 => 4 | 46 => 170 | 45 => 169 | 50 => 105 | 5 => 5 | 9 => 9 | 66 => 192 | 70 => 196 | 76 => 202 | 77 => 203 | n => n, fun | n => n⟩
theorem Tryz.sortSym : Go.Proofs.SlLaysF0.n6 Tryz.prog Tryz.sortSym_ren := {
 mixed := by kernel_rfl
 f6 := ⟨Tryz.f61.name, by decide, Tryz.func61.trans (congrArg some (by kernel_rfl))⟩
 f14 := ⟨Tryz.f85.name, by decide, Tryz.func85.trans (congrArg some (by kernel_rfl))⟩
 f15 := Tryz.func83.trans (congrArg some (by kernel_rfl))
 f20 := ⟨Tryz.f102.name, by decide, Tryz.func102.trans (congrArg some (by kernel_rfl))⟩
 f21 := ⟨Tryz.f103.name, by decide, Tryz.func103.trans (congrArg some (by kernel_rfl))⟩
 f22 := ⟨Tryz.f104.name, by decide, Tryz.func104.trans (congrArg some (by kernel_rfl))⟩
 f23 := ⟨Tryz.f105.name, by decide, Tryz.func105.trans (congrArg some (by kernel_rfl))⟩
 f24 := ⟨Tryz.f106.name, by decide, Tryz.func106.trans (congrArg some (by kernel_rfl))⟩
 f25 := ⟨Tryz.f107.name, by decide, Tryz.func107.trans (congrArg some (by kernel_rfl))⟩
 f26 := ⟨Tryz.f108.name, by decide, Tryz.func108.trans (congrArg some (by kernel_rfl))⟩
 f27 := ⟨Tryz.f109.name, by decide, Tryz.func109.trans (congrArg some (by kernel_rfl))⟩
 f28 := Tryz.func100.trans (congrArg some (by kernel_rfl))
 f29 := Tryz.func101.trans (congrArg some (by kernel_rfl))
 f46 := ⟨Tryz.f117.name, by decide, Tryz.func117.trans (congrArg some (by kernel_rfl))⟩
 f47 := Tryz.func113.trans (congrArg some (by kernel_rfl))
 f48 := Tryz.func114.trans (congrArg some (by kernel_rfl))
 f49 := ⟨Tryz.f118.name, by decide, Tryz.func118.trans (congrArg some (by kernel_rfl))⟩
 f50 := ⟨Tryz.f119.name, by decide, Tryz.func119.trans (congrArg some (by kernel_rfl))⟩
 f57 := ⟨Tryz.f121.name, by decide, Tryz.func121.trans (congrArg some (by kernel_rfl))⟩
 t0 := Tryz.underlying0
 a0 := Tryz.isAgg0
 z0 := Tryz.sizeOf0
 v0 := Tryz.zeroValue0
 t3 := Tryz.underlying3
 a3 := Tryz.isAgg3
 z3 := Tryz.sizeOf3
 v3 := Tryz.zeroValue3
 t4 := Tryz.underlying4
 a4 := Tryz.isAgg4
 z4 := Tryz.sizeOf4
 v4 := Tryz.zeroValue4
 t5 := Tryz.underlying5
 a5 := Tryz.isAgg5
 z5 := Tryz.sizeOf5
 v5 := Tryz.zeroValue5
 t9 := Tryz.underlying9
 a9 := Tryz.isAgg9
 z9 := Tryz.sizeOf9
 v9 := Tryz.zeroValue9
 t22 := Tryz.underlying26
 a22 := Tryz.isAgg26
 z22 := Tryz.sizeOf26
 v22 := Tryz.zeroValue26
 t25 := Tryz.underlying84
 a25 := Tryz.isAgg84
 z25 := Tryz.sizeOf84
 v25 := Tryz.zeroValue84
 t39 := Tryz.underlying137
 a39 := Tryz.isAgg137
 z39 := Tryz.sizeOf137
 v39 := Tryz.zeroValue137
 t45 := Tryz.underlying169
 a45 := Tryz.isAgg169
 z45 := Tryz.sizeOf169
 v45 := Tryz.zeroValue169
 t46 := Tryz.underlying170
 a46 := Tryz.isAgg170
 z46 := Tryz.sizeOf170
 v46 := Tryz.zeroValue170
 t50 := Tryz.underlying105
 a50 := Tryz.isAgg105
 z50 := Tryz.sizeOf105
 v50 := Tryz.zeroValue105
 t53 := Tryz.underlying164
 a53 := Tryz.isAgg164
 z53 := Tryz.sizeOf164
 v53 := Tryz.zeroValue164
 t55 := Tryz.underlying24
 a55 := Tryz.isAgg24
 z55 := Tryz.sizeOf24
 v55 := Tryz.zeroValue24
 t66 := Tryz.underlying192
 a66 := Tryz.isAgg192
 z66 := Tryz.sizeOf192
 v66 := Tryz.zeroValue192
 t70 := Tryz.underlying196
 a70 := Tryz.isAgg196
 z70 := Tryz.sizeOf196
 v70 := Tryz.zeroValue196
 t76 := Tryz.underlying202
 a76 := Tryz.isAgg202
 z76 := Tryz.sizeOf202
 v76 := Tryz.zeroValue202
 t77 := Tryz.underlying203
 a77 := Tryz.isAgg203
 z77 := Tryz.sizeOf203
 v77 := Tryz.zeroValue203 }
end Go.Proofs
/- slices.SortFunc at rows of the call's own: parts by address, names by value and name. -/
set_option linter.unusedVariables false
set_option linter.unusedSimpArgs false
namespace Go.Proofs.YtbnlifldnjgpmaaGreatDoor.PWri
open Go.RowKit Go.Lib Go.Proofs.YtbnlifldnjgpmaaGreatDoorW.PrintWords Go.Proofs.YtbnlifldnjgpmaaGreatDoorW.PrintLast
open Go.Sort Go.Shelf
set_option linter.unusedSectionVars false
section
variable {α : Type} [Inhabited α] (enc : α → List Value) (k : Nat)
theorem flat_len (hk : ∀ x, (enc x).length = k) : ∀ d : List α, (d.flatMap enc).length = d.length * k
 | [] => by simp
 | a :: d => by rw [List.flatMap_cons, List.length_append, hk, flat_len hk d, List.length_cons, Nat.add_mul, Nat.one_mul, Nat.add_comm]
theorem flat_get (hk : ∀ x, (enc x).length = k) : ∀ (d : List α) (j r : Nat) (x : α), d[j]? = some x → r < k → (d.flatMap enc)[j * k + r]? = (enc x)[r]?
 | [], _, _, _, h, _ => by simp at h
 | a :: d, 0, r, x, h, hr => by
  simp only [List.getElem?_cons_zero, Option.some.injEq] at h
  subst h
  rw [List.flatMap_cons, Nat.zero_mul, Nat.zero_add, List.getElem?_append_left (by rw [hk]; exact hr)]
 | a :: d, j + 1, r, x, h, hr => by
  rw [List.getElem?_cons_succ] at h
  rw [List.flatMap_cons, List.getElem?_append_right (by rw [hk, Nat.add_mul, Nat.one_mul]; omega), hk, show (j + 1) * k + r - k = j * k + r by rw [Nat.add_mul, Nat.one_mul]; omega]
  exact flat_get hk d j r x h hr
theorem flatK_list (hk : ∀ x, (enc x).length = k) (k0 : 0 < k) (d : List α) : (flatK enc k d.toArray).toList = d.flatMap enc := by
 apply List.ext_getElem?
 intro t
 by_cases ht : t < d.length * k
 ·have hj : t / k < d.length := (Nat.div_lt_iff_lt_mul k0).2 ht
  have hr : t % k < k := Nat.mod_lt _ k0
  have e : t / k * k + t % k = t := Nat.div_add_mod' t k
  have h1 := flat_get enc k hk d (t / k) (t % k) d[t / k] (List.getElem?_eq_getElem hj) hr
  rw [e] at h1
  rw [h1, Array.getElem?_toList, Array.getElem?_eq_getElem (by simpa using ht)]
  have h2 := get_flatK enc k d.toArray t (by simpa using ht)
  rw [getElem!_pos _ t (by simpa using ht)] at h2
  have hq : t % k < (enc d[t / k]).length := by rw [hk]; exact hr
  rw [h2, List.getElem?_eq_getElem hq, getElem!_pos d.toArray (t / k) (by simpa using hj), List.getElem_toArray, getElem!_pos (enc d[t / k]) (t % k) hq]
 ·rw [List.getElem?_eq_none (by simpa using ht), List.getElem?_eq_none (by rw [flat_len enc k hk]; omega)]
theorem holds_row (hk : ∀ x, (enc x).length = k) (k0 : 0 < k) {w : World} {base g cap n : Nat} {e : TypeId} {d : List α} (h : w.ownsRow base e k (.slice (some ⟨g, 0, none⟩) n cap) d.length (d.flatMap enc)) : HoldsK enc k w g 0 d.toArray ∧ g < w.heap.size := by
 rcases h.2 with ⟨h0, _⟩ | ⟨g', cap', cur, hv, hg, hb, hn, hcap, hsz, ht⟩
 ·cases h0
 ·injection hv with e1 e2 e3
  injection e1 with e1
  injection e1 with e1 _ _
  subst e1 e3
  refine ⟨fun j hj => ⟨?_, by simp [World.frozen?, hb]⟩, blk_lt hb⟩
  have hj' : j < d.length * k := by simpa using hj
  have h1 : (cur.toList.take (d.length * k))[j]? = (d.flatMap enc)[j]? := by rw [ht]
  rw [List.getElem?_take_of_lt hj', ← flatK_list enc k hk k0 d, Array.getElem?_toList, Array.getElem?_toList, Array.getElem?_eq_getElem hj] at h1
  simp only [World.cell?, hb, Nat.zero_add, Option.isSome_none, Bool.false_eq_true, if_false]
  rw [h1, id, getElem!_pos _ j hj]
theorem sorted_row (hk : ∀ x, (enc x).length = k) (k0 : 0 < k) {w : World} {base g cap n m : Nat} {e : TypeId} {d d' : List α} {os : Array Obj} (hl : d'.length = d.length)
 (h : w.ownsRow base e k (.slice (some ⟨g, 0, none⟩) n cap) d.length (d.flatMap enc)) :
 (sortWorldK enc k w g 0 m d'.toArray os).ownsRow base e k (.slice (some ⟨g, 0, none⟩) n cap) d'.length (d'.flatMap enc) ∧ w.grownBy (sortWorldK enc k w g 0 m d'.toArray os) (some g) := by
 rcases h.2 with ⟨h0, _⟩ | ⟨g', cap', cur, hv, hg, hb, hn, hcap, hsz, ht⟩
 ·cases h0
 ·injection hv with e1 e2 e3
  injection e1 with e1
  injection e1 with e1 _ _
  subst e1 e3
  have hgl : g < w.heap.size := blk_lt hb
  constructor
  ·refine ⟨flat_len enc k hk d', .inr ⟨g, cap, putCells id 0 (flatK enc k d'.toArray) cur, by rw [e2, hl], hg, ?_, by rw [hl]; exact hn, hcap, by simp [putCells, hsz], ?_⟩⟩
   ·unfold sortWorldK putRowK
    rw [heap_grow_old _ _ (by simpa using hgl)]
    simp [putRow, mapBlock, Sort.ahead, Array.getElem?_modify, hb, onCells]
   ·have hle : d'.length * k ≤ cur.size := by rw [hsz, hl]; exact Nat.mul_le_mul_right _ hn
    rw [← flatK_list enc k hk k0 d']
    apply List.ext_getElem?
    intro j
    by_cases hj : j < d'.length * k
    ·rw [List.getElem?_take_of_lt hj, Array.getElem?_toList, Array.getElem?_toList]
     have hj2 : j < (flatK enc k d'.toArray).size := by simpa using hj
     rw [Array.getElem?_eq_getElem hj2, Array.getElem?_eq_getElem (by simp [putCells]; omega)]
     simp [putCells, hj]
    ·rw [List.getElem?_take_eq_none (by omega), List.getElem?_eq_none (by simp; omega)]
  ·refine ⟨rfl, rfl, rfl, by unfold sortWorldK putRowK; simp, fun i hi hne => ?_⟩
   unfold sortWorldK putRowK
   rw [heap_grow_old _ _ (by simpa using hi)]
   have : g ≠ i := fun e => hne (by rw [e])
   simp [putRow, mapBlock, Sort.ahead, Array.getElem?_modify, this]
end
abbrev PD : Type := S55 × Option Addr × Nat
def decP (q : PD) : PV := (q.1, .slice q.2.1 q.1.f3.length q.2.2)
def encD (q : PD) : List Value := encP (decP q)
instance : Inhabited PD := ⟨(z55, none, 0)⟩
theorem decs {W : World} {base : Nat} : ∀ ps : List PV, (∀ p ∈ ps, (Kd.int .u8).R 5 W base (fun _ => True) p.2 p.1.f3) → ∃ qs : List PD, qs.map decP = ps
 | [], _ => ⟨[], rfl⟩
 | p :: ps, h => by
  obtain ⟨qs, hq⟩ := decs ps (fun x hx => h x (List.mem_cons_of_mem _ hx))
  obtain ⟨A, c, e⟩ := Kd.R_slice (h p List.mem_cons_self)
  refine ⟨(p.1, A, c) :: qs, ?_⟩
  rw [List.map_cons, hq]
  congr 1
  exact Prod.ext rfl e.symm
def cmpP (x y : PD) : Int := if x.1.f0 < y.1.f0 then -1 else 1
theorem lt_cmpP (x y : PD) : ltOf cmpP x y = decide (x.1.f0 < y.1.f0) := by
 unfold ltOf cmpP
 by_cases h : x.1.f0 < y.1.f0 <;> simp [h]
theorem swo_cmpP : SWO (ltOf cmpP) where
 irrefl x := by rw [lt_cmpP]; simp
 trans x y z h1 h2 := by rw [lt_cmpP] at *; simp at *; omega
 ntrans x y z h1 h2 := by rw [lt_cmpP] at *; simp at *; omega
set_option maxHeartbeats 2000000 in
theorem cmpP_c (x y : PD) (W : World) : Calls Tryz.prog 57 #[.agg #[.int .u64 x.1.f0, .int .u64 x.1.f1, .int .i64 x.1.f2, .slice x.2.1 x.1.f3.length x.2.2], .agg #[.int .u64 y.1.f0, .int .u64 y.1.f1, .int .i64 y.1.f2, .slice y.2.1 y.1.f3.length y.2.2]] W fun e w' =>
 e = .returned (.int .i64 (cmpP x y)) ∧ ∃ q os', w' = grow (W.drewN q) os' := by
 by_cases h : x.1.f0 < y.1.f0
 ·have hc : cmpP x y = -1 := if_pos h
  rw [hc]
  have hb : decide (x.1.f0 < y.1.f0) = true := decide_eq_true h
  clear hc
  go_enter Tryz.func57, Tryz.ntmps57
  go_wp2
  go_ret
  exact ⟨rfl, 0, _, by rw [alloc_eq_grow, alloc_eq_grow, grow_grow]; rfl⟩
 ·have hc : cmpP x y = 1 := if_neg h
  rw [hc]
  have hb : decide (x.1.f0 < y.1.f0) = false := decide_eq_false h
  clear hc
  go_enter Tryz.func57, Tryz.ntmps57
  go_wp2
  go_ret
  exact ⟨rfl, 0, _, by rw [alloc_eq_grow, alloc_eq_grow, grow_grow]; rfl⟩
theorem perm_of_in {α : Type} [Inhabited α] {d : List α} {d' : Array α} (h : PermIn 0 d.toArray.size d.toArray d') : d'.toList.Perm d ∧ d'.toList.length = d.length := by
 obtain ⟨hs, _, hp⟩ := h
 have e1 : d'.extract 0 d.toArray.size = d' := by rw [← hs, Array.extract_size]
 rw [e1, Array.extract_size] at hp
 exact ⟨hp, by rw [Array.length_toList, hs]; rfl⟩
theorem sorted_of_in {α : Type} [Inhabited α] {lt : α → α → Bool} {d' : Array α} {n : Nat} (hn : d'.size = n) (h : SortedIn lt 0 n d') : d'.toList.Pairwise (fun x y => lt y x = false) := by
 rw [List.pairwise_iff_getElem]
 intro i j hi hj hij
 have hi' : i < d'.size := by simpa using hi
 have hj' : j < d'.size := by simpa using hj
 have := h i j (Nat.zero_le _) hij (by omega)
 rw [getElem!_pos d' i hi', getElem!_pos d' j hj'] at this
 simpa using this
theorem flat_dec (qs : List PD) : (qs.map decP).flatMap encP = qs.flatMap encD := by rw [List.flatMap_map]; rfl
theorem aggP : ∀ w, (isAgg 55).run Tryz.prog w = .ok true w := fun w => by kernel_rfl
theorem sizeP : ∀ w, (Go.sizeOf 55).run Tryz.prog w = .ok 4 w := fun w => by kernel_rfl
theorem sortSeg_c {W : World} {base : Nat} {v : Value} {ps : List PV} (h : PO W base v ps) (hl : ps.length < 4611686018427387904) :
 Calls Tryz.prog 56 #[v, .func (.func 57) #[] #[]] W fun e w' =>
  e = .returned (.tuple #[]) ∧ ∃ ps' : List PV, ps'.Perm ps ∧ ps'.Pairwise (fun p q => p.1.f0 ≤ q.1.f0) ∧ PO w' base v ps' ∧ W.grownBy w' v.ownBlock := by
 rcases h.own.2 with ⟨hv, h0⟩ | ⟨g, cap, cur, hv, hg, hb, hn, hcap, hsz, ht⟩
 ·have hp : ps = [] := List.eq_nil_of_length_eq_zero h0
  subst hp hv
  refine (AnyF.slices_SortFunc_none Tryz.sortSeg none 0 (.func (.func 57) #[] #[]) W).mono ?_
  rintro e w' ⟨he, rfl⟩
  exact ⟨he, [], .nil, .nil, h, grown_of_below (Below.refl _ _) _⟩
 ·obtain ⟨qs, hq⟩ := decs ps h.data
  have hql : qs.length = ps.length := by rw [← hq, List.length_map]
  have ho := h.own
  rw [hv, ← hq, flat_dec, List.length_map] at ho
  have hk : ∀ x : PD, (encD x).length = 4 := fun _ => rfl
  obtain ⟨hH, hgl⟩ := holds_row encD 4 hk (by decide) ho
  have hcall := AnyQ.slices_SortFunc Tryz.sortSeg 4 aggP sizeP encD hk (fun x u hu => by
   simp only [encD, encP, decP, List.mem_cons, List.not_mem_nil, or_false] at hu
   rcases hu with rfl | rfl | rfl | rfl <;> rfl) cmpP swo_cmpP 57 #[] g 0 cap qs.toArray W
   (enters_of Tryz.func57 (by kernel_rfl) rfl) (fun _ _ _ _ x y => cmpP_c x y _) hH hgl (by show qs.length < _; omega)
  have hcall2 : Calls Tryz.prog 56 #[v, .func (.func 57) #[] #[]] W fun e w' =>
   e = .returned (.tuple #[]) ∧ ∃ d' n os, PermIn 0 qs.toArray.size qs.toArray d' ∧ SortedIn (ltOf cmpP) 0 qs.toArray.size d' ∧ w' = sortWorldK encD 4 W g 0 n d' os := by
   rw [hv, ← hql]
   exact hcall
  refine hcall2.mono ?_
  rintro e w' ⟨he, d', n, os, hp, hs, rfl⟩
  obtain ⟨hperm, hlen⟩ := perm_of_in hp
  have hss := sorted_of_in hp.1 hs
  have hrow := sorted_row encD 4 hk (by decide) (m := n) (os := os) (d' := d'.toList) hlen ho
  rw [Array.toArray_toList] at hrow
  have hpm : (d'.toList.map decP).Perm ps := by rw [← hq]; exact hperm.map _
  refine ⟨he, d'.toList.map decP, hpm, ?_, ⟨?_, fun p hp => ?_, ?_⟩, ?_⟩
  ·rw [List.pairwise_map]
   refine hss.imp ?_
   intro x y hxy
   rw [lt_cmpP] at hxy
   have := of_decide_eq_false hxy
   show x.1.f0 ≤ y.1.f0
   omega
  ·rw [hv, flat_dec, List.length_map]
   have h1 := hrow.1
   rw [hlen, hql] at h1 ⊢
   exact h1
  ·have hp2 := hpm.mem_iff.1 hp
   exact Kd.R_mono (Kd.R_grown (h.far p hp2) hrow.2 (fun k hk => by have h2 := hk.2; rw [hv] at h2; exact h2)) (fun _ _ => trivial)
  ·refine (List.Perm.pairwise_iff ?_ hpm).2 h.apart
   intro x y hxy k hk hk2
   exact hxy k hk2 hk
  ·rw [hv]
   exact hrow.2
end Go.Proofs.YtbnlifldnjgpmaaGreatDoor.PWri
/- slices.SortFunc of names, by compareSyms. -/
set_option linter.unusedVariables false
set_option linter.unusedSimpArgs false
namespace Go.Proofs.YtbnlifldnjgpmaaGreatDoor.PWri
open Go.RowKit Go.Lib Go.Proofs.YtbnlifldnjgpmaaGreatDoorW.PrintWords Go.Proofs.YtbnlifldnjgpmaaGreatDoorW.PrintLast
open Go.Sort Go.Shelf
theorem bl_irrefl : ∀ x : List UInt8, Op.bytesLess x x = false
 | [] => by simp [Op.bytesLess]
 | a :: x => by simp [Op.bytesLess, bl_irrefl x]
theorem bl_trans : ∀ x y z : List UInt8, Op.bytesLess x y = true → Op.bytesLess y z = true → Op.bytesLess x z = true
 | [], [], _, h, _ => by simp [Op.bytesLess] at h
 | [], _ :: _, [], _, h => by simp [Op.bytesLess] at h
 | [], _ :: _, _ :: _, _, _ => by simp [Op.bytesLess]
 | _ :: _, [], _, h, _ => by simp [Op.bytesLess] at h
 | _ :: _, _ :: _, [], _, h => by simp [Op.bytesLess] at h
 | a :: x, b :: y, c :: z, h1, h2 => by
  simp only [Op.bytesLess, Bool.or_eq_true, decide_eq_true_eq, Bool.and_eq_true, beq_iff_eq] at h1 h2 ⊢
  rcases h1 with h1 | ⟨rfl, h1⟩
  ·rcases h2 with h2 | ⟨rfl, h2⟩
   ·exact .inl (UInt8.lt_trans h1 h2)
   ·exact .inl h1
  ·rcases h2 with h2 | ⟨rfl, h2⟩
   ·exact .inl h2
   ·exact .inr ⟨rfl, bl_trans x y z h1 h2⟩
theorem bl_total {x y : List UInt8} (h1 : Op.bytesLess x y = false) (h2 : Op.bytesLess y x = false) : x = y := by
 have h := less_total x y
 rw [h1, h2] at h
 simpa using h
def cU (a b : Int) : Int := if a < b then -1 else if b < a then 1 else 0
def cT (s t : ByteArray) : Int := if Op.bytesLess s.toList t.toList = true then -1 else if Op.bytesLess t.toList s.toList = true then 1 else 0
/-- compareSyms. -/
def cmpY (x y : S82) : Int := if cU x.f1 y.f1 = 0 then cT x.f0 y.f0 else cU x.f1 y.f1
def ltY (x y : S82) : Bool := decide (x.f1 < y.f1) || (decide (x.f1 = y.f1) && Op.bytesLess x.f0.toList y.f0.toList)
theorem lt_cmpY (x y : S82) : ltOf cmpY x y = ltY x y := by
 unfold ltOf cmpY cU ltY
 by_cases h1 : x.f1 < y.f1
 ·simp [h1]
 ·by_cases h2 : y.f1 < x.f1
  ·have h3 : x.f1 ≠ y.f1 := by omega
   simp [h1, h2, h3]
  ·have h3 : x.f1 = y.f1 := by omega
   simp only [h1, h2, if_false, if_true, h3, decide_true, Bool.true_and]
   unfold cT
   by_cases h4 : Op.bytesLess x.f0.toList y.f0.toList = true
   ·simp [h4]
   ·by_cases h5 : Op.bytesLess y.f0.toList x.f0.toList = true <;> simp [h4, h5]
theorem swo_cmpY : SWO (ltOf cmpY) where
 irrefl x := by rw [lt_cmpY, ltY, bl_irrefl]; simp
 trans x y z h1 h2 := by
  rw [lt_cmpY, ltY] at *
  simp only [Bool.or_eq_true, decide_eq_true_eq, Bool.and_eq_true] at h1 h2 ⊢
  rcases h1 with h1 | ⟨h1, h3⟩
  ·rcases h2 with h2 | ⟨h2, h4⟩
   ·exact .inl (by omega)
   ·exact .inl (by omega)
  ·rcases h2 with h2 | ⟨h2, h4⟩
   ·exact .inl (by omega)
   ·exact .inr ⟨by omega, bl_trans _ _ _ h3 h4⟩
 ntrans x y z h1 h2 := by
  rw [lt_cmpY, ltY] at *
  simp only [Bool.or_eq_false_iff, decide_eq_false_iff_not, Bool.and_eq_false_iff] at h1 h2 ⊢
  obtain ⟨a1, b1⟩ := h1
  obtain ⟨a2, b2⟩ := h2
  refine ⟨by omega, ?_⟩
  by_cases e : x.f1 = z.f1
  ·right
   have e1 : x.f1 = y.f1 := by omega
   have e2 : y.f1 = z.f1 := by omega
   have c1 : Op.bytesLess x.f0.toList y.f0.toList = false := by rcases b1 with h | h; exact absurd e1 h; exact h
   have c2 : Op.bytesLess y.f0.toList z.f0.toList = false := by rcases b2 with h | h; exact absurd e2 h; exact h
   cases h3 : Op.bytesLess x.f0.toList z.f0.toList with
   | false => rfl
   | true =>
    cases h4 : Op.bytesLess z.f0.toList y.f0.toList with
    | true =>
     rw [bl_trans _ _ _ h3 h4] at c1
     cases c1
    | false =>
     rw [bl_total c2 h4] at c1
     rw [c1] at h3
     cases h3
  ·exact .inl e
theorem ltY_total {x y : S82} (h1 : ltY x y = false) (h2 : ltY y x = false) : x.f1 = y.f1 ∧ x.f0.toList = y.f0.toList := by
 unfold ltY at h1 h2
 simp only [Bool.or_eq_false_iff, decide_eq_false_iff_not, Bool.and_eq_false_iff] at h1 h2
 have e : x.f1 = y.f1 := by omega
 refine ⟨e, bl_total ?_ ?_⟩
 ·rcases h1.2 with h | h
  ·exact absurd e h
  ·exact h
 ·rcases h2.2 with h | h
  ·exact absurd e.symm h
  ·exact h
theorem or_two (a b : Int) : cmp_Or_int.f 3 [a, b] = some (if a = 0 then b else a) := by
 unfold cmp_Or_int.f
 by_cases ha : a = 0
 ·subst ha
  by_cases hb : b = 0
  ·subst hb
   simp [cmp_Or_int.l0, YtbnlifldnjgpmaaGreatDoorW.PrintWords.rd, wrap64]
  ·simp [cmp_Or_int.l0, YtbnlifldnjgpmaaGreatDoorW.PrintWords.rd, hb, wrap64]
 ·simp [cmp_Or_int.l0, YtbnlifldnjgpmaaGreatDoorW.PrintWords.rd, ha, wrap64]
theorem C_two (X : World) (a b : Int) : Kd.C (Kd.int .i64) (X.alloc (.cells #[.int .i64 a, .int .i64 b] 3)) (some ⟨X.heap.size, 0, none⟩) 2 [a, b] := by
 have ho := own_lit X X.heap.size 3 .i64 [a, b] (Nat.le_refl _) (by simp)
 obtain ⟨A, c, e, _, hC⟩ := Kd.R_reads (Kd.R_of_own (enc := Value.int .i64) (h1 := fun _ => rfl) (ok := fun _ => True) ho (fun _ _ => trivial))
 injection e with e1 e2 e3
 subst e1
 exact hC
theorem cU_f (a b : Int) : cmp_Compare_uint64.f a b = some (cU a b) := by
 unfold cmp_Compare_uint64.f cmp_isNaN_uint64.f cU
 simp
 by_cases h : a < b
 ·simp [h]
 ·by_cases h2 : b < a <;> simp [h, h2]
theorem cT_f (a b : ByteArray) : cmp_Compare_string.f a b = some (cT a b) := by
 unfold cmp_Compare_string.f cmp_isNaN_string.f cT
 simp
 by_cases h : Op.bytesLess a.toList b.toList = true
 ·simp [h]
 ·by_cases h2 : Op.bytesLess b.toList a.toList = true <;> simp [h, h2]
set_option maxHeartbeats 4000000 in
theorem cmpY_c (x y : S82) (W : World) : Calls Tryz.prog 43 #[.agg #[.string x.f0, .int .u64 x.f1], .agg #[.string y.f0, .int .u64 y.f1]] W fun e w' =>
 e = .returned (.int .i64 (cmpY x y)) ∧ ∃ q os', w' = grow (W.drewN q) os' := by
 have c1 := fun w => cmp_Compare_uint64.calls x.f1 y.f1 (cU x.f1 y.f1) w (cU_f _ _)
 have c2 := fun w => cmp_Compare_string.calls x.f0 y.f0 (cT x.f0 y.f0) w (cT_f _ _)
 have c3 := fun A c w hr hc => cmp_Or_int.calls 3 A c [cU x.f1 y.f1, cT x.f0 y.f0] _ w hr hc (or_two _ _)
 have HY : Hid ((if cU x.f1 y.f1 = 0 then cT x.f0 y.f0 else cU x.f1 y.f1) = cmpY x y) := Lib.hid rfl
 have C1 := Lib.hid c1
 have C2 := Lib.hid c2
 have C3 := Lib.hid c3
 obtain ⟨u, hu⟩ : ∃ u, cU x.f1 y.f1 = u := ⟨_, rfl⟩
 obtain ⟨t, ht⟩ : ∃ t, cT x.f0 y.f0 = t := ⟨_, rfl⟩
 rw [hu] at C1 C3 HY
 rw [ht] at C2 C3 HY
 obtain ⟨r, hr⟩ : ∃ r, (if u = 0 then t else u) = r := ⟨_, rfl⟩
 rw [hr] at C3 HY
 clear c1 c2 c3 hu ht hr
 have hC : Kd.C (Kd.int .i64) (((W.alloc (.cells #[.string x.f0, .int .u64 x.f1] 82)).alloc (.cells #[.string y.f0, .int .u64 y.f1] 82)).alloc (.cells #[.int .i64 u, .int .i64 t] 3)) (some ⟨W.heap.size + 1 + 1, 0, none⟩) 2 [u, t] := by
  have h := C_two ((W.alloc (.cells #[.string x.f0, .int .u64 x.f1] 82)).alloc (.cells #[.string y.f0, .int .u64 y.f1] 82)) u t
  rwa [show ((W.alloc (.cells #[.string x.f0, .int .u64 x.f1] 82)).alloc (.cells #[.string y.f0, .int .u64 y.f1] 82)).heap.size = W.heap.size + 1 + 1 from by simp] at h
 have HC2 := Lib.hid hC
 clear hC
 go_enter Tryz.func43, Tryz.ntmps43
 go_wp2
 go_region_held3 (fun w' => w'.cell? ⟨W.heap.size, 0, none⟩ = some (.string x.f0) ∧ w'.cell? ⟨W.heap.size, 1, none⟩ = some (.int .u64 x.f1) ∧ w'.cell? ⟨W.heap.size + 1, 0, none⟩ = some (.string y.f0) ∧ w'.cell? ⟨W.heap.size + 1, 1, none⟩ = some (.int .u64 y.f1)) (go_keep) ((first | (go_at_call 79; refine (C1.out _).mono ?_; rintro e w' ⟨he, hd1⟩; obtain ⟨n1, hn1⟩ := hd1.out; subst he; subst hn1) | (go_at_call 80; refine (C2.out _).mono ?_; rintro e w' ⟨he, hd1⟩; obtain ⟨n2, hn2⟩ := hd1.out; subst he; subst hn2) | (go_at_call 78; refine (C3.out _ 2 _ (Kd.C_drewN HC2.out _) (Nat.le_refl _)).mono ?_; rintro e w' ⟨he, hd1⟩; obtain ⟨n3, hn3⟩ := hd1.out; subst he; subst hn3)))
 go_wp2
 go_ret
 exact ⟨by rw [HY.out]; rfl, _, _, by rw [alloc_eq_grow, alloc_eq_grow, alloc_eq_grow, grow_grow, grow_grow]; rfl⟩
theorem aggY : ∀ w, (isAgg 82).run Tryz.prog w = .ok true w := fun w => by kernel_rfl
theorem sizeY : ∀ w, (Go.sizeOf 82).run Tryz.prog w = .ok 2 w := fun w => by kernel_rfl
def encY (s : S82) : List Value := [.string s.f0, .int .u64 s.f1]
instance : Inhabited S82 := ⟨z82⟩
theorem sortSym_c {W : World} {base : Nat} {v : Value} {ys : List S82} (h : W.ownsRow base 82 2 v ys.length (ys.flatMap encY)) (hl : ys.length < 4611686018427387904) :
 Calls Tryz.prog 61 #[v, .func (.func 43) #[] #[]] W fun e w' =>
  e = .returned (.tuple #[]) ∧ ∃ ys' : List S82, ys'.Perm ys ∧ ys'.Pairwise (fun p q => ltY q p = false) ∧ w'.ownsRow base 82 2 v ys'.length (ys'.flatMap encY) ∧ W.grownBy w' v.ownBlock := by
 have h0 := h
 rcases h.2 with ⟨hv, h0⟩ | ⟨g, cap, cur, hv, hg, hb, hn, hcap, hsz, ht⟩
 ·have hp : ys = [] := List.eq_nil_of_length_eq_zero h0
  subst hp hv
  refine (AnyF.slices_SortFunc_none Tryz.sortSym none 0 (.func (.func 43) #[] #[]) W).mono ?_
  rintro e w' ⟨he, rfl⟩
  exact ⟨he, [], .nil, .nil, h, grown_of_below (Below.refl _ _) _⟩
 ·have ho := h
  rw [hv] at ho
  have hk : ∀ x : S82, (encY x).length = 2 := fun _ => rfl
  obtain ⟨hH, hgl⟩ := holds_row encY 2 hk (by decide) ho
  have hcall := AnyQ.slices_SortFunc Tryz.sortSym 2 aggY sizeY encY hk (fun x u hu => by
   simp only [encY, List.mem_cons, List.not_mem_nil, or_false] at hu
   rcases hu with rfl | rfl <;> rfl) cmpY swo_cmpY 43 #[] g 0 cap ys.toArray W
   (enters_of Tryz.func43 (by kernel_rfl) rfl) (fun _ _ _ _ x y => cmpY_c x y _) hH hgl (by show ys.length < _; omega)
  have hcall2 : Calls Tryz.prog 61 #[v, .func (.func 43) #[] #[]] W fun e w' =>
   e = .returned (.tuple #[]) ∧ ∃ d' n os, PermIn 0 ys.toArray.size ys.toArray d' ∧ SortedIn (ltOf cmpY) 0 ys.toArray.size d' ∧ w' = sortWorldK encY 2 W g 0 n d' os := by
   rw [hv]
   exact hcall
  refine hcall2.mono ?_
  rintro e w' ⟨he, d', n, os, hp, hs, rfl⟩
  obtain ⟨hperm, hlen⟩ := perm_of_in hp
  have hss := sorted_of_in hp.1 hs
  have hrow := sorted_row encY 2 hk (by decide) (m := n) (os := os) (d' := d'.toList) hlen ho
  rw [Array.toArray_toList] at hrow
  refine ⟨he, d'.toList, hperm, hss.imp (fun hxy => by rw [← lt_cmpY]; exact hxy), ?_, ?_⟩
  ·rw [hv]
   exact hrow.1
  ·rw [hv]
   exact hrow.2
end Go.Proofs.YtbnlifldnjgpmaaGreatDoor.PWri
/- What the table of names gives, in plain terms; the search for a byte 0. -/
set_option linter.unusedVariables false
set_option linter.unusedSimpArgs false
namespace Go.Proofs.YtbnlifldnjgpmaaGreatDoor.PWri
open Go.RowKit Go.Lib Go.Proofs.YtbnlifldnjgpmaaGreatDoorW.PrintWords Go.Proofs.YtbnlifldnjgpmaaGreatDoorW.PrintLast
open Go.Shelf
theorem find_gives {l : List Int} {s : Int} : ∀ (m : Nat) (i : Int), findS l m i = some s → ∃ j : Int, i ≤ j ∧ j < i + m ∧ s = rdN l 40 8 + 64 * j
 | 0, i, h => by cases h
 | m + 1, i, h => by
  rw [findS] at h
  split at h
  ·cases h
   exact ⟨i, by omega, by omega, rfl⟩
  ·obtain ⟨j, h1, h2, h3⟩ := find_gives m (i + 1) h
   exact ⟨j, by omega, by omega, h3⟩
theorem table_gives {l : List Int} (hB : Bytes l) {s : Int} (h : tableS l = .ok (some s)) : rdN l 40 8 + 64 * rdN l 60 2 ≤ (l.length : Int) ∧ 0 ≤ s ∧ s + 64 ≤ (l.length : Int) := by
 unfold tableS at h
 split at h
 ·cases h
 ·unfold chk at h
  split at h
  ·split at h
   ·rename_i hr
    have h1 := (room_le hr).2
    injection h with h
    obtain ⟨j, h2, h3, h4⟩ := find_gives _ _ h
    have h5 := (rd2 hB 60).1
    have h6 := (rd8 hB 40).1
    exact ⟨h1, by omega, by omega⟩
   ·cases h
  ·cases h
theorem table_some (l : List Int) (A : Option Addr) (c : Nat) (h : Bytes l) (hl : l.length ≤ 1099511627776) (hc : l.length ≤ c) (h64 : 64 ≤ l.length) {s : Int} (ht : tableS l = .ok (some s)) (w : World) (hC : Kd.C (Kd.int .u8) w A l.length l) :
 Calls Tryz.prog 58 #[.agg #[.slice A l.length c]] w fun e w' => e = .returned (.tuple #[.int .i64 s, .bool true]) ∧ Below w.heap.size w w' := by
 refine (table_c l A c h hl hc h64 w hC).mono ?_
 rintro e w' (⟨o, v, hr, rfl, rfl, hb⟩ | ⟨_, _, _, hr, _⟩)
 ·rw [ht] at hr
  cases hr
  exact ⟨rfl, hb⟩
 ·rw [ht] at hr
  cases hr
theorem table_none (l : List Int) (A : Option Addr) (c : Nat) (h : Bytes l) (hl : l.length ≤ 1099511627776) (hc : l.length ≤ c) (h64 : 64 ≤ l.length) (ht : tableS l = .ok none) (w : World) (hC : Kd.C (Kd.int .u8) w A l.length l) :
 Calls Tryz.prog 58 #[.agg #[.slice A l.length c]] w fun e w' => e = .returned (.tuple #[.int .i64 0, .bool false]) ∧ Below w.heap.size w w' := by
 refine (table_c l A c h hl hc h64 w hC).mono ?_
 rintro e w' (⟨o, v, hr, rfl, rfl, hb⟩ | ⟨_, _, _, hr, _⟩)
 ·rw [ht] at hr
  cases hr
  exact ⟨rfl, hb⟩
 ·rw [ht] at hr
  cases hr
theorem table_err (l : List Int) (A : Option Addr) (c : Nat) (h : Bytes l) (hl : l.length ≤ 1099511627776) (hc : l.length ≤ c) (h64 : 64 ≤ l.length) {at_ why : Int} (ht : tableS l = .error (at_, why)) (w : World) (hC : Kd.C (Kd.int .u8) w A l.length l) :
 Calls Tryz.prog 58 #[.agg #[.slice A l.length c]] w fun e w' => ∃ a, e = .panicked [gone a] ∧ w'.heap[a]? = some (faultObj at_ why) ∧ w.heap.size ≤ a ∧ Below w.heap.size w w' := by
 refine (table_c l A c h hl hc h64 w hC).mono ?_
 rintro e w' (⟨o, v, hr, _⟩ | ⟨a1, a2, a, hr, h⟩)
 ·rw [ht] at hr
  cases hr
 ·rw [ht] at hr
  cases hr
  exact ⟨a, h⟩
/-- Where the first byte 0 stands; -1: nowhere. -/
def idxS (l : List Int) : Int := match upto0 l with
 | none => -1
 | some nm => (nm.length : Int)
theorem upto0_take : ∀ {l nm : List Int}, upto0 l = some nm → nm = l.take nm.length ∧ nm.length < l.length
 | [], nm, h => by cases h
 | c :: r, nm, h => by
  rw [upto0] at h
  split at h
  ·cases h
   exact ⟨rfl, by simp⟩
  ·obtain ⟨n, hn, rfl⟩ := Option.map_eq_some_iff.1 h
   obtain ⟨h1, h2⟩ := upto0_take hn
   exact ⟨by rw [List.length_cons, List.take_succ_cons, ← h1], by simp only [List.length_cons]; omega⟩
theorem idx_eq : ∀ {l : List Int}, Bytes l → Lib.indexByte (Lib.bytesOf l) 0 = idxS l
 | [], _ => rfl
 | c :: r, h => by
  have ih := idx_eq (l := r) (fun x hx => h x (List.mem_cons_of_mem _ hx))
  have hc := h c List.mem_cons_self
  rw [Lib.bytesOf, List.map_cons, Lib.indexByte]
  by_cases e : c = 0
  ·subst e
   rfl
  ·have hne : (UInt8.ofNat c.toNat == (0 : UInt8)) = false := by
    rw [beq_eq_false_iff_ne]
    intro he
    have h1 := congrArg UInt8.toNat he
    rw [UInt8.toNat_ofNat_of_lt' (by show c.toNat < 256; omega)] at h1
    have : c.toNat = 0 := h1
    omega
   rw [hne]
   have ih2 : Lib.indexByte (r.map fun n => UInt8.ofNat n.toNat) 0 = idxS r := ih
   rw [ih2]
   unfold idxS
   rw [upto0, if_neg e]
   cases h2 : upto0 r with
   | none => rfl
   | some nm =>
    have h3 : ((nm.length : Int) == -1) = false := by rw [beq_eq_false_iff_ne]; omega
    simp [h3]
theorem Bytes.drop {l : List Int} (h : Bytes l) (n : Nat) : Bytes (l.drop n) := fun x hx => h x (List.mem_of_mem_drop hx)
theorem Bytes.take {l : List Int} (h : Bytes l) (n : Nat) : Bytes (l.take n) := fun x hx => h x (List.mem_of_mem_take hx)
theorem idx_c {xs : List Int} {A : Option Addr} {c : Nat} (hB : Bytes xs) (h0 : 0 < xs.length) (W : World) (hC : Kd.C (Kd.int .u8) W A xs.length xs) :
 Calls Tryz.prog 60 #[.slice A xs.length c, .int .u8 0] W fun e w' => e = .returned (.int .i64 (idxS xs)) ∧ W = w' := by
 obtain ⟨ad, eA, _⟩ := Kd.at_int hC 0 (by omega) (by omega)
 subst eA
 have h := Any.bytes_IndexByte_at Tryz.laysIdxB ad xs.length c xs 0 W rfl (fun i hi => by
  obtain ⟨ad2, e2, hc⟩ := Kd.at_int hC (i : Int) (by omega) (by omega)
  cases e2
  rw [Int.toNat_natCast] at hc
  rw [hc]
  unfold rd
  rw [Int.toNat_natCast])
 refine h.mono ?_
 rintro e w' ⟨he, rfl⟩
 exact ⟨by rw [he, ← idx_eq hB]; rfl, rfl⟩
/-- The world of the walk of names: the receiver's box, the names so far, the map of what was seen. -/
structure NS (w : World) (F : Value) (W : World) (v : Value) (B : Nat) (out : List S82) : Prop where
 fs : FS w F W
 own : W.ownsRow w.heap.size 82 2 v out.length (out.flatMap encY)
 mo : MO W B out
 new : w.heap.size < B
theorem NS.below {w W : World} {F v : Value} {B : Nat} {out : List S82} (h : NS w F W v B out) : Below w.heap.size w W := h.fs.below
theorem NS.cell {w W : World} {F v : Value} {B : Nat} {out : List S82} (h : NS w F W v B out) : W.cell? ⟨w.heap.size, 0, none⟩ = some F := h.fs.cell
theorem MO.below {W W1 : World} {B : Nat} {out : List S82} (h : MO W B out) (hb : Below W.heap.size W W1) : MO W1 B out := ⟨(hb.block B (blk_lt h.1)).trans h.1, h.2⟩
theorem NS.step {w W W' : World} {F v : Value} {B : Nat} {out : List S82} (h : NS w F W v B out) (hd : Below W.heap.size W W') : NS w F W' v B out :=
 ⟨h.fs.step hd, pw_own_below h.own hd, h.mo.below hd, h.new⟩
theorem NS.drew {w W : World} {F v : Value} {B : Nat} {out : List S82} (h : NS w F W v B out) : NS w F W.drew v B out := h.step (below_drew (Below.refl _ _))
theorem NS.alloc {w W : World} {F v : Value} {B : Nat} {out : List S82} (h : NS w F W v B out) (o : Obj) : NS w F (W.alloc o) v B out := h.step ((Below.refl _ W).alloc (Nat.le_refl _) _)
/-- .. and the block of the name at hand. -/
structure NSB (w : World) (F : Value) (W : World) (v : Value) (B : Nat) (out : List S82) (b : Nat) (s : S82) : Prop where
 ns : NS w F W v B out
 blk : W.heap[b]? = some (.cells #[.string s.f0, .int .u64 s.f1] 82)
theorem NSB.below {w W : World} {F v : Value} {B b : Nat} {out : List S82} {s : S82} (h : NSB w F W v B out b s) : Below w.heap.size w W := h.ns.below
theorem NSB.cell {w W : World} {F v : Value} {B b : Nat} {out : List S82} {s : S82} (h : NSB w F W v B out b s) : W.cell? ⟨w.heap.size, 0, none⟩ = some F := h.ns.cell
theorem NSB.cell0 {w W : World} {F v : Value} {B b : Nat} {out : List S82} {s : S82} (h : NSB w F W v B out b s) : W.cell? ⟨b, 0, none⟩ = some (.string s.f0) := kCe h.blk 0
theorem NSB.cell1 {w W : World} {F v : Value} {B b : Nat} {out : List S82} {s : S82} (h : NSB w F W v B out b s) : W.cell? ⟨b, 1, none⟩ = some (.int .u64 s.f1) := kCe h.blk 1
theorem NSB.step {w W W' : World} {F v : Value} {B b : Nat} {out : List S82} {s : S82} (h : NSB w F W v B out b s) (hd : Below W.heap.size W W') : NSB w F W' v B out b s := ⟨h.ns.step hd, kBe h.blk hd⟩
theorem NSB.drew {w W : World} {F v : Value} {B b : Nat} {out : List S82} {s : S82} (h : NSB w F W v B out b s) : NSB w F W.drew v B out b s := h.step (below_drew (Below.refl _ _))
theorem NSB.alloc {w W : World} {F v : Value} {B b : Nat} {out : List S82} {s : S82} (h : NSB w F W v B out b s) (o : Obj) : NSB w F (W.alloc o) v B out b s := h.step ((Below.refl _ W).alloc (Nat.le_refl _) _)
theorem NS.set {w W : World} {F v : Value} {B : Nat} {out : List S82} (h : NS w F W v B out) {p : Addr} (hb : w.heap.size < p.block) (h1 : some p.block ≠ v.ownBlock) (h2 : B ≠ p.block) (u : Value) : NS w F (W.setCell p u) v B out :=
 ⟨⟨h.fs.below.setCell (Nat.le_of_lt hb) u, blk_far h.fs.box (Nat.ne_of_lt hb) u⟩, own_setCell h.own h1 u, ⟨(Below.heap_setCell W p u B h2).trans h.mo.1, h.mo.2⟩, h.new⟩
theorem NS.zero {W W' : World} {z0 z1 : Value} {k : Nat} (hk : W.heap.size = k) (hd : Below (W.alloc (.cells #[z0, z1] 82)).heap.size (W.alloc (.cells #[z0, z1] 82)) W') : W'.heap[k]? = some (.cells #[z0, z1] 82) := hk ▸ kBe (blk_new W _) hd
/-- A name's variable, laid ahead of a call, is written behind it. -/
theorem NS.put {w W W' : World} {F v z0 z1 : Value} {B : Nat} {out : List S82} (h : NS w F W v B out) {k : Nat} (hk : W.heap.size = k) (hd : Below (W.alloc (.cells #[z0, z1] 82)).heap.size (W.alloc (.cells #[z0, z1] 82)) W') (x y : Value) :
 NS w F ((W'.setCell ⟨k, 0, none⟩ x).setCell ⟨k, 1, none⟩ y) v B out ∧ ((W'.setCell ⟨k, 0, none⟩ x).setCell ⟨k, 1, none⟩ y).heap[k]? = some (.cells #[x, y] 82) := by
 subst hk
 have hw : w.heap.size < W.heap.size := blk_lt h.fs.box
 have h1 : some W.heap.size ≠ v.ownBlock := fun e => by
  have := own_lt h.own _ e.symm
  omega
 have h2 : B ≠ W.heap.size := Nat.ne_of_lt (blk_lt h.mo.1)
 exact ⟨(((h.alloc _).step hd).set (p := ⟨W.heap.size, 0, none⟩) hw h1 h2 x).set (p := ⟨W.heap.size, 1, none⟩) hw h1 h2 y, blk_set (blk_set (kBe (blk_new W _) hd) 0 x) 1 y⟩
theorem symEq_iff {a b : S82} : symEq a b = true ↔ a = b := by
 unfold symEq
 simp only [Bool.and_eq_true, beq_iff_eq]
 constructor
 ·rintro ⟨h1, h2⟩
  have h3 : a.f0 = b.f0 := by
   rw [toList_data, toList_data] at h1
   apply ByteArray.ext
   exact Array.toList_inj.1 h1
  cases a
  cases b
  simp_all
 ·rintro rfl
  exact ⟨rfl, rfl⟩
theorem any_mem {out : List S82} {s : S82} : (out.any fun x => symEq x s) = true ↔ s ∈ out := by
 rw [List.any_eq_true]
 constructor
 ·rintro ⟨x, hx, he⟩
  rw [← symEq_iff.1 he]
  exact hx
 ·intro h
  exact ⟨s, h, symEq_iff.2 rfl⟩
set_option maxRecDepth 100000 in
theorem okS_mk {NM : ByteArray} {vl : Int} (h : NM.size ≤ 1099511627776) (hv : 0 ≤ vl ∧ vl < 18446744073709551616) : okS ⟨NM, vl⟩ := by
 refine ⟨Nat.le_trans h (by decide), ?_⟩
 have e0 : IntKind.u64.min = 0 := by kernel_rfl
 have e1 : IntKind.u64.max = 18446744073709551615 := by kernel_rfl
 rw [Lit.wf, e0, e1, Bool.and_eq_true]
 exact ⟨decide_eq_true hv.1, decide_eq_true (Int.le_of_lt_add_one hv.2)⟩
set_option maxRecDepth 100000 in
theorem look_any {B : Nat} {out : List S82} {NM : ByteArray} {vl : Int} (hs : okS ⟨NM, vl⟩) {a5 : Bool} (h : (out.any fun x => symEq x ⟨NM, vl⟩) = a5) (W : World) (hM : MO W B out) :
 (Instr.lookup 107 (.map (some B)) (.agg #[.string NM, .int .u64 vl]) false).run Tryz.prog W = .ok (.int .i64 (if a5 = true then 1 else 0)) W := by
 cases a5 with
 | true => exact look_old hM hs (any_mem.1 h)
 | false => exact look_new hM hs (fun hn => by rw [any_mem.2 hn] at h; cases h)
theorem rd1i (l : List Int) (a : Int) : rdN l a 1 = rd l a := by
 unfold rdN rd
 simp [valN]
theorem encY_len (ys : List S82) : (ys.flatMap encY).length = ys.length * 2 := flat_len encY 2 (fun _ => rfl) ys
/-- The names as a kind of row. -/
theorem R_of_ownY {W : World} {base : Nat} {v : Value} {ys : List S82} (h : W.ownsRow base 82 2 v ys.length (ys.flatMap encY)) : Kd.R k82 82 W base (fun _ => True) v ys := by
 refine ⟨fun _ _ => trivial, ys.flatMap encY, h, encY_len ys, ?_⟩
 intro j p hj
 have e : ((ys.flatMap encY).drop (j * 2)).take 2 = encY p := by
  clear h
  induction ys generalizing j with
  | nil => simp at hj
  | cons a ys ih =>
   cases j with
   | zero =>
    simp only [List.getElem?_cons_zero, Option.some.injEq] at hj
    subst hj
    rfl
   | succ j =>
    rw [List.getElem?_cons_succ] at hj
    rw [List.flatMap_cons, show (j + 1) * 2 = 2 + j * 2 by omega, ← List.drop_drop, show (encY a ++ ys.flatMap encY).drop 2 = ys.flatMap encY from rfl]
    exact ih j hj
 show k82.M W base _ p (((ys.flatMap encY).drop (j * 2)).take 2)
 rw [e]
 exact k82_mkM W base _ p
theorem byte_and15 (x : Int) (h : 0 ≤ x ∧ x < 256) : Go.bits .and .u8 x 15 = x % 16 := by
 obtain ⟨n, rfl⟩ := Int.eq_ofNat_of_zero_le h.1
 have hn : n < 256 := by omega
 have key : ∀ m : Nat, m < 256 → Go.bits .and .u8 (m : Int) 15 = (m : Int) % 16 := by decide +kernel
 exact key n hn
theorem rd1 (l : List Int) (a : Nat) : rdN l (a : Int) 1 = l.getD a 0 := by
 rw [rdN_nat]
 simp [valN]
theorem row_ne {W : World} {base n B k : Nat} {v : Value} {xs : List Value} {es : Array MapEntry} (h : W.ownsRow base 82 2 v n xs) (hB : W.heap[B]? = some (.map es k)) : some B ≠ v.ownBlock := fun e => by
 obtain ⟨cells, hc⟩ := own_typed h B e.symm
 rw [hB] at hc
 cases hc
/-- The name at hand has been counted, and is not yet among the names. -/
structure MidS (w : World) (F : Value) (W : World) (v : Value) (B : Nat) (out : List S82) (b : Nat) (s : S82) : Prop where
 fs : FS w F W
 own : W.ownsRow w.heap.size 82 2 v out.length (out.flatMap encY)
 mo : MO W B (out ++ [s])
 new : w.heap.size < B
 blk : W.heap[b]? = some (.cells #[.string s.f0, .int .u64 s.f1] 82)
theorem NSB.count {w W : World} {F v : Value} {B b : Nat} {out : List S82} {s : S82} (h : NSB w F W v B out b s) (hs : okS s) (hn : s ∉ out) :
 ∃ W1 W2, (Instr.lookup 107 (.map (some B)) (keyV s) false).run Tryz.prog W = .ok (.int .i64 0) W ∧ (Instr.mapEntry 107 (.map (some B)) (keyV s)).run Tryz.prog W = .ok (.tuple #[.int .i64 0, .int .i64 (out.length : Int)]) W1 ∧
  (Instr.lookup 107 (.map (some B)) (keyV s) false).run Tryz.prog W1 = .ok (.int .i64 0) W1 ∧ (Instr.entryStore 107 (.map (some B)) (.int .i64 (out.length : Int)) (.int .i64 1)).run Tryz.prog W1 = .ok () W2 ∧
  (W1.cell? ⟨b, 0, none⟩ = some (.string s.f0) ∧ W1.cell? ⟨b, 1, none⟩ = some (.int .u64 s.f1)) ∧ MidS w F W2 v B out b s := by
 obtain ⟨W1, hE, hM, hg⟩ := enter_new h.ns.mo hs hn
 obtain ⟨W2, hS, hM2, hg2⟩ := store_half hM hs
 have hbB : some b ≠ some B := fun e => by
  have e2 := Option.some.inj e
  have h1 := h.blk
  rw [e2, h.ns.mo.1] at h1
  cases h1
 have hxB : some w.heap.size ≠ some B := fun e => by
  have e2 := Option.some.inj e
  have := h.ns.new
  omega
 have hrow := row_ne h.ns.own h.ns.mo.1
 have b1 : W1.heap[b]? = _ := blk_grown h.blk hg hbB
 have o1 := own_other h.ns.own hg (.inr (fun e => hrow e.symm))
 have f1 : FS w F W1 := ⟨h.below.grown hg h.below.size (fun k hk => by cases hk; exact Nat.le_of_lt h.ns.new), blk_grown h.ns.fs.box hg hxB⟩
 refine ⟨W1, W2, look_new h.ns.mo hs hn, hE, look_half hM hs hn, hS, ⟨kCe b1 0, kCe b1 1⟩, ?_⟩
 exact ⟨⟨f1.below.grown hg2 f1.below.size (fun k hk => by cases hk; exact Nat.le_of_lt h.ns.new), blk_grown f1.box hg2 hxB⟩, own_other o1 hg2 (.inr (fun e => hrow e.symm)), hM2, h.ns.new, blk_grown b1 hg2 hbB⟩
theorem MidS.cell {w W : World} {F v : Value} {B b : Nat} {out : List S82} {s : S82} (h : MidS w F W v B out b s) : W.cell? ⟨b, 0, none⟩ = some (.string s.f0) ∧ W.cell? ⟨b, 1, none⟩ = some (.int .u64 s.f1) := ⟨kCe h.blk 0, kCe h.blk 1⟩
/-- Behind the append. -/
theorem MidS.app {w W w1 : World} {F v v1 : Value} {B b : Nat} {out : List S82} {s : S82} (h : MidS w F W v B out b s) (ho : w1.ownsRow w.heap.size 82 2 v1 (out.length + 1) (out.flatMap encY ++ encY s)) (hb : Below w.heap.size w w1) (hg : W.grownBy w1 v.ownBlock) :
 NS w F w1 v1 B (out ++ [s]) := by
 refine ⟨⟨hb, blk_grown h.fs.box hg (own_ne h.own h.fs.box (by decide))⟩, ?_, ⟨blk_grown h.mo.1 hg (row_ne h.own h.mo.1), h.mo.2⟩, h.new⟩
 rw [List.length_append, List.length_singleton, List.flatMap_append, List.flatMap_singleton]
 exact ho
theorem one2 {s : ByteArray} {x : Int} : ∀ u ∈ ([.string s, .int .u64 x] : List Value), u.oneCell' = true := by
 intro u hu
 simp only [List.mem_cons, List.not_mem_nil, or_false] at hu
 rcases hu with rfl | rfl <;> rfl
theorem NS.slice {w W : World} {F v : Value} {B : Nat} {out : List S82} (h : NS w F W v B out) : ∃ A c, v = .slice A out.length c := own_slice h.own
end Go.Proofs.YtbnlifldnjgpmaaGreatDoor.PWri
/- The document's reader, by its mirror: the table of names. -/
set_option linter.unusedVariables false
set_option linter.unusedSimpArgs false
namespace Go.Proofs.YtbnlifldnjgpmaaGreatDoor.PWri
open Go.RowKit Go.Lib Go.Proofs.YtbnlifldnjgpmaaGreatDoorW.PrintWords Go.Proofs.YtbnlifldnjgpmaaGreatDoorW.PrintLast
/-- The place and size of the table of names, and of its texts. -/
def endS (l : List Int) : Option Int → Res (Option (Int × Int × Int × Int))
 | none => .ok none
 | some s =>
  chk (rdN l (s + 56) 8 == 24) (s + 56) 25 <| chk (rdN l (s + 32) 8 % 24 == 0) (s + 32) 25 <| chk (roomS l (rdN l (s + 24) 8) (rdN l (s + 32) 8)) (s + 24) 20 <|
  chk (decide (rdN l (s + 40) 4 < rdN l 60 2) && (rdN l (secS l (rdN l (s + 40) 4) + 4) 4 == 3)) (s + 40) 25 <|
  chk (roomS l (rdN l (secS l (rdN l (s + 40) 4) + 24) 8) (rdN l (secS l (rdN l (s + 40) 4) + 32) 8)) (secS l (rdN l (s + 40) 4) + 24) 20 <|
  .ok (some (rdN l (s + 24) 8, rdN l (s + 32) 8, rdN l (secS l (rdN l (s + 40) 4) + 24) 8, rdN l (secS l (rdN l (s + 40) 4) + 32) 8))
def tabS (l : List Int) : Res (Option (Int × Int × Int × Int)) := andThen (tableS l) (endS l)
theorem names_tab (l : List Int) : namesS l = andThen (tabS l) fun o => match o with
 | none => .ok []
 | some q => symsS l ((l.drop q.2.2.1.toNat).take q.2.2.2.toNat) q.1 ((q.2.1 / 24).toNat - 1) 1 [] := by
 unfold namesS tabS
 cases tableS l with
 | error e => rfl
 | ok o =>
  cases o with
  | none => rfl
  | some s => simp only [andThen_ok, andThen_chk, endS]
def tbR (r : Res (Option (Int × Int × Int × Int))) : Int × Int × Int × Int × Int × Int := match r with
 | .ok none => (-1, 0, 0, 0, 0, 0)
 | .ok (some q) => (q.1, q.2.1, q.2.2.1, q.2.2.2, 0, 0)
 | .error e => (-1, 0, 0, 0, e.1, e.2)
section
attribute [local irreducible] rdN valN
variable {l : List Int} (h : Bytes l) (hl : l.length ≤ 1099511627776) (h64 : 64 ≤ l.length) (hr : rdN l 40 8 + 64 * rdN l 60 2 ≤ (l.length : Int))
include h hl h64 hr
theorem table_end (s : Int) (hs0 : 0 ≤ s) (hs1 : s + 64 ≤ (l.length : Int)) : Ev (fun k => anvilref02_table.l0 k l (rdN l 60 2) (rdN l 40 8) s (-1)) (tbR (endS l (some s))) := by
 rw [endS]
 have b60 := rd2 h 60
 have b40 := (rd8 h 40).1
 have b32 := (rd8 h (s + 32)).1
 have b24 := (rd8 h (s + 24)).1
 have c40 := rd4 h (s + 40)
 have Ew : wrap64 (rdN l 40 8) = rdN l 40 8 := w64n (by omega) (by omega)
 have E56 : wrap64 (s + 56) = s + 56 := w64n (by omega) (by omega)
 have E32 : wrap64 (s + 32) = s + 32 := w64n (by omega) (by omega)
 have E24 : wrap64 (s + 24) = s + 24 := w64n (by omega) (by omega)
 have E40 : wrap64 (s + 40) = s + 40 := w64n (by omega) (by omega)
 have En : IntKind.u64.wrap (rdN l 60 2) = rdN l 60 2 := u64n (by omega) (by omega)
 refine Ev.step (fun k => by rw [anvilref02_table.l0]) ?_
 rw [E56, E32, E24, E40, En, Ew]
 refine Ev.ifn (by decide) (Ev.ifn (by omega) ?_)
 refine Ev.bind (value_i h hl (s + 32) 8 (by decide) (by omega) (by omega)) ?_
 refine Ev.bind (value_i h hl (s + 24) 8 (by decide) (by omega) (by omega)) ?_
 refine Ev.bind (value_i h hl (s + 40) 4 (by decide) (by omega) (by omega)) ?_
 refine Ev.bind (value_i h hl (s + 56) 8 (by decide) (by omega) (by omega)) ?_
 by_cases c1 : ¬ rdN l (s + 56) 8 = 24
 ·refine Ev.ifn c1 ?_
  rw [chk_no (beq_eq_false_iff_ne.mpr c1)]
  exact Ev.now _
 have c1 := Decidable.not_not.mp c1
 refine Ev.ifp c1 ?_
 rw [chk_ok (beq_iff_eq.mpr c1), Int.tmod_eq_emod_of_nonneg b32]
 by_cases c2 : ¬ rdN l (s + 32) 8 % 24 = 0
 ·refine Ev.ifn c2 ?_
  rw [chk_no (beq_eq_false_iff_ne.mpr c2)]
  exact Ev.now _
 have c2 := Decidable.not_not.mp c2
 refine Ev.ifp c2 ?_
 rw [chk_ok (beq_iff_eq.mpr c2)]
 refine Ev.bindc (room_f hl _ _ b24) ?_
 obtain ⟨lk, hlk⟩ : ∃ lk, rdN l (s + 40) 4 = lk := ⟨_, rfl⟩
 rw [hlk] at c40 ⊢
 have El : wrap64 lk = lk := w64n (by omega) (by omega)
 rw [El]
 obtain ⟨sc, hsc⟩ : ∃ sc, secS l lk = sc := ⟨_, rfl⟩
 have hsc' : rdN l 40 8 + 64 * lk = sc := hsc
 have Es : wrap64 (rdN l 40 8 + wrap64 (64 * lk)) = sc := by rw [w64n (x := 64 * lk) (by omega) (by omega), w64n (by omega) (by omega)]; exact hsc'
 rw [Es, hsc]
 have Es4 : wrap64 (sc + 4) = sc + 4 := w64n (by omega) (by omega)
 have Es24 : wrap64 (sc + 24) = sc + 24 := w64n (by omega) (by omega)
 have Es32 : wrap64 (sc + 32) = sc + 32 := w64n (by omega) (by omega)
 rw [Es4, Es24, Es32]
 cases c3 : roomS l (rdN l (s + 24) 8) (rdN l (s + 32) 8) with
 | false =>
  refine Ev.ifn (by simp) ?_
  rw [chk_no rfl]
  exact Ev.now _
 | true =>
 have r3 := room_le c3
 refine Ev.ifp rfl ?_
 rw [chk_ok rfl]
 by_cases c4 : lk ≥ rdN l 60 2
 ·refine Ev.ifp c4 ?_
  rw [chk_no (by rw [decide_eq_false (by omega)]; rfl)]
  exact Ev.now _
 refine Ev.ifn c4 ?_
 rw [decide_eq_true (show lk < rdN l 60 2 by omega), Bool.true_and]
 refine Ev.bind (value_i h hl (sc + 4) 4 (by decide) (by omega) (by omega)) ?_
 by_cases c5 : ¬ rdN l (sc + 4) 4 = 3
 ·refine Ev.ifn c5 ?_
  rw [chk_no (beq_eq_false_iff_ne.mpr c5)]
  exact Ev.now _
 have c5 := Decidable.not_not.mp c5
 refine Ev.ifp c5 ?_
 rw [chk_ok (beq_iff_eq.mpr c5)]
 refine Ev.bind (value_i h hl (sc + 24) 8 (by decide) (by omega) (by omega)) ?_
 refine Ev.bind (value_i h hl (sc + 32) 8 (by decide) (by omega) (by omega)) ?_
 have d24 := (rd8 h (sc + 24)).1
 have d32 := (rd8 h (sc + 32)).1
 refine Ev.bindc (room_f hl _ _ d24) ?_
 cases c6 : roomS l (rdN l (sc + 24) 8) (rdN l (sc + 32) 8) with
 | false =>
  refine Ev.ifn (by simp) ?_
  rw [chk_no rfl]
  exact Ev.now _
 | true =>
 have r6 := room_le c6
 refine Ev.ifp rfl ?_
 rw [chk_ok rfl, w64n (x := rdN l (s + 24) 8) (by omega) (by omega), w64n (x := rdN l (s + 32) 8) (by omega) (by omega), w64n (x := rdN l (sc + 24) 8) (by omega) (by omega), w64n (x := rdN l (sc + 32) 8) (by omega) (by omega)]
 exact Ev.now _
theorem table_l0 (o : Option Int) (ho : findS l (rdN l 60 2).toNat 0 = o) {r : Int × Int × Int × Int × Int × Int} (K : Ev (fun k => anvilref02_table.l0 k l (rdN l 60 2) (rdN l 40 8) (o.getD (-1)) (-1)) r) : ∀ i m : Nat, (i : Int) + m = rdN l 60 2 →
 Ev (fun k => anvilref02_table.l0 k l (rdN l 60 2) (rdN l 40 8) ((findS l m (i : Int)).getD (-1)) ((i : Int) - 1)) r
 | 0, m, hm => by
  rw [show m = (rdN l 60 2).toNat by omega]
  show Ev (fun k => anvilref02_table.l0 k l (rdN l 60 2) (rdN l 40 8) ((findS l (rdN l 60 2).toNat 0).getD (-1)) (-1)) r
  rw [ho]
  exact K
 | i + 1, m, hm => by
  have b60 := rd2 h 60
  have b40 := (rd8 h 40).1
  have H := table_l0 o ho K i (m + 1) (by omega)
  rw [findS] at H
  have Ew : wrap64 (rdN l 40 8) = rdN l 40 8 := w64n (by omega) (by omega)
  refine Ev.step (fun k => by rw [anvilref02_table.l0]) ?_
  rw [show ((i + 1 : Nat) : Int) - 1 = (i : Int) by omega, Ew, w64n (x := 64 * (i : Int)) (by omega) (by omega), w64n (x := rdN l 40 8 + 64 * (i : Int)) (by omega) (by omega), w64n (x := rdN l 40 8 + 64 * (i : Int) + 4) (by omega) (by omega), w64n (x := (i : Int) - 1) (by omega) (by omega)]
  refine Ev.ifp (by omega) ?_
  refine Ev.bind (value_i h hl (rdN l 40 8 + 64 * (i : Int) + 4) 4 (by decide) (by omega) (by omega)) ?_
  by_cases c1 : rdN l (rdN l 40 8 + 64 * (i : Int) + 4) 4 = 2
  ·rw [if_pos c1] at H
   exact Ev.ifp c1 H
  ·rw [if_neg c1] at H
   exact Ev.ifn c1 H
end
section
attribute [local irreducible] rdN valN
variable {l : List Int} (h : Bytes l) (hl : l.length ≤ 1099511627776) (h64 : 64 ≤ l.length)
include h hl h64
theorem table_ev : Ev (fun k => anvilref02_table.f k l) (tbR (tabS l)) := by
 have b60 := rd2 h 60
 have b40 := (rd8 h 40).1
 refine Ev.bind (value_i h hl 60 2 (by decide) (by decide) (by omega)) ?_
 refine Ev.bind (value_i h hl 40 8 (by decide) (by decide) (by omega)) ?_
 rw [w64n (x := rdN l 60 2) (by omega) (by omega)]
 have no : (rdN l 60 2 = 0 ∨ rdN l 40 8 = 0) → Ev (fun k => anvilref02_table.j0 k l (rdN l 60 2) (rdN l 40 8) true) (tbR (tabS l)) := fun c => by
  refine Ev.step (fun k => by rw [anvilref02_table.j0]) ?_
  refine Ev.ifp rfl ?_
  unfold tabS tableS
  rw [if_pos c]
  exact Ev.now _
 by_cases c1 : rdN l 60 2 = 0
 ·exact Ev.ifp c1 (no (.inl c1))
 refine Ev.ifn c1 ?_
 by_cases c2 : rdN l 40 8 = 0
 ·rw [show (rdN l 40 8 == 0) = true from beq_iff_eq.mpr c2]
  exact no (.inr c2)
 rw [show (rdN l 40 8 == 0) = false from beq_eq_false_iff_ne.mpr c2]
 refine Ev.step (fun k => by rw [anvilref02_table.j0]) ?_
 refine Ev.ifn (by simp) ?_
 unfold tabS tableS
 rw [if_neg (by rintro (e | e) <;> contradiction)]
 refine Ev.bind (value_i h hl 58 2 (by decide) (by decide) (by omega)) ?_
 by_cases c3 : ¬ rdN l 58 2 = 64
 ·refine Ev.ifn c3 ?_
  rw [chk_no (beq_eq_false_iff_ne.mpr c3)]
  exact Ev.now _
 have c3 := Decidable.not_not.mp c3
 refine Ev.ifp c3 ?_
 rw [chk_ok (beq_iff_eq.mpr c3), w64n (x := 64 * rdN l 60 2) (by omega) (by omega), u64n (by omega) (by omega)]
 refine Ev.bindc (room_f hl _ _ b40) ?_
 cases c4 : roomS l (rdN l 40 8) (64 * rdN l 60 2) with
 | false =>
  refine Ev.ifn (by simp) ?_
  rw [chk_no rfl]
  exact Ev.now _
 | true =>
 have hr := (room_le c4).2
 refine Ev.ifp rfl ?_
 rw [chk_ok rfl, andThen_ok, w64n (by omega) (by omega)]
 obtain ⟨o, ho⟩ : ∃ o, findS l (rdN l 60 2).toNat 0 = o := ⟨_, rfl⟩
 rw [ho]
 have E := table_l0 h hl h64 hr o ho (r := tbR (endS l o)) (by
  cases o with
  | none =>
   refine Ev.step (fun k => by rw [anvilref02_table.l0]) ?_
   refine Ev.ifn (by decide) (Ev.ifp (by decide) (Ev.now _))
  | some s =>
   obtain ⟨j, j0, j1, rfl⟩ := find_gives _ _ ho
   exact table_end h hl h64 hr (rdN l 40 8 + 64 * j) (by omega) (by omega)) (rdN l 60 2).toNat 0 (by omega)
 rw [Int.toNat_of_nonneg b60.1] at E
 exact E
end
/-- A table of names lies in the file. -/
theorem tab_gives {l : List Int} (h : Bytes l) (_hl : l.length ≤ 1099511627776) (_h64 : 64 ≤ l.length) {q : Int × Int × Int × Int} (ht : tabS l = .ok (some q)) : 0 ≤ q.1 ∧ 0 ≤ q.2.1 ∧ q.1 + q.2.1 ≤ (l.length : Int) ∧ q.2.1 % 24 = 0 ∧ 0 ≤ q.2.2.1 ∧ 0 ≤ q.2.2.2 ∧ q.2.2.1 + q.2.2.2 ≤ (l.length : Int) := by
 unfold tabS at ht
 cases hts : tableS l with
 | error e => rw [hts] at ht; cases ht
 | ok o =>
  rw [hts, andThen_ok] at ht
  cases o with
  | none => cases ht
  | some s =>
   rw [endS] at ht
   unfold chk at ht
   split at ht
   ·split at ht
    ·rename_i c2
     split at ht
     ·rename_i c3
      split at ht
      ·split at ht
       ·rename_i c5
        injection ht with ht
        injection ht with ht
        subst ht
        exact ⟨(rd8 h _).1, (rd8 h _).1, (room_le c3).2, beq_iff_eq.mp c2, (rd8 h _).1, (rd8 h _).1, (room_le c5).2⟩
       all_goals cases ht
      all_goals cases ht
     all_goals cases ht
    all_goals cases ht
   all_goals cases ht
end Go.Proofs.YtbnlifldnjgpmaaGreatDoor.PWri
/- The document's reader, by its mirror: the names. -/
set_option linter.unusedVariables false
set_option linter.unusedSimpArgs false
namespace Go.Proofs.YtbnlifldnjgpmaaGreatDoor.PWri
open Go.RowKit Go.Lib Go.Proofs.YtbnlifldnjgpmaaGreatDoorW.PrintWords Go.Proofs.YtbnlifldnjgpmaaGreatDoorW.PrintLast
theorem drop_cons {l : List Int} {j : Nat} (h : j < l.length) : l.drop j = l.getD j 0 :: l.drop (j + 1) := by
 rw [List.getD_eq_getElem?_getD, List.getElem?_eq_getElem h]
 exact List.drop_eq_getElem_cons h
def txR (l nm0 : List Int) : ByteArray × Bool := match upto0 l with
 | none => ((⟨#[]⟩ : ByteArray), false)
 | some nm => (strOfNums (nm0 ++ nm), true)
theorem text_l0 (l : List Int) (hl : l.length ≤ 1099511627776) (a : Nat) : ∀ d j : Nat, j + d = l.length → a ≤ j → Ev (fun k => anvilref02_text.l0 k l (a : Int) (j : Int)) (txR (l.drop j) ((l.take j).drop a))
 | 0, j, hj, ha => by
  refine Ev.step (fun k => by rw [anvilref02_text.l0]) ?_
  refine Ev.ifn (by omega) ?_
  rw [List.drop_eq_nil_of_le (show l.length ≤ j by omega)]
  exact Ev.now _
 | d + 1, j, hj, ha => by
  have H := text_l0 l hl a d (j + 1) (by omega) (by omega)
  refine Ev.step (fun k => by rw [anvilref02_text.l0]) ?_
  refine Ev.ifp (by omega) (Ev.ifp (by omega) ?_)
  rw [rd_getD, w64n (by omega) (by omega), drop_cons (show j < l.length by omega)]
  unfold txR
  rw [upto0]
  by_cases c : l.getD j 0 = 0
  ·refine Ev.ifp c ?_
   rw [if_pos c]
   refine Ev.ifp (by omega) (Ev.ifp (by omega) (Ev.ifp (by omega) ?_))
   rw [Int.toNat_natCast, Int.toNat_natCast]
   dsimp only
   rw [List.append_nil]
   exact Ev.now _
  ·refine Ev.ifn c ?_
   rw [if_neg c]
   have e : (l.take (j + 1)).drop a = (l.take j).drop a ++ [l.getD j 0] := by
    rw [List.take_add_one, List.drop_append_of_le_length (by rw [List.length_take]; omega), List.getElem?_eq_getElem (by omega), List.getD_eq_getElem?_getD, List.getElem?_eq_getElem (by omega)]
    rfl
   unfold txR at H
   rw [e] at H
   cases hu : upto0 (l.drop (j + 1)) with
   | none => rw [hu] at H; exact H
   | some nm =>
    rw [hu] at H
    dsimp only at H
    rw [List.append_assoc] at H
    exact H
/-- A text in the area of texts. -/
def wordS (texts : List Int) (a : Int) : Option (List Int) := if a < (texts.length : Int) then upto0 (texts.drop a.toNat) else none
theorem text_ev (l : List Int) (hl : l.length ≤ 1099511627776) (a : Int) (h0 : 0 ≤ a) : Ev (fun k => anvilref02_text.f k l a) (match wordS l a with
 | none => ((⟨#[]⟩ : ByteArray), false)
 | some nm => (strOfNums nm, true)) := by
 unfold wordS
 show Ev (fun k => if a ≥ (IntKind.u64.wrap ((l.length : Int))) then _ else _) _
 rw [u64n (x := (l.length : Int)) (by omega) (by omega)]
 by_cases c : a ≥ (l.length : Int)
 ·refine Ev.ifp c ?_
  rw [if_neg (by omega)]
  exact Ev.now _
 refine Ev.ifn c ?_
 rw [if_pos (by omega)]
 obtain ⟨a, rfl⟩ := Int.eq_ofNat_of_zero_le h0
 rw [w64n (by omega) (by omega), Int.toNat_natCast]
 have H := text_l0 l hl a (l.length - a) a (by omega) (Nat.le_refl _)
 rw [List.drop_eq_nil_of_le (show (l.take a).length ≤ a by rw [List.length_take]; omega)] at H
 exact H
theorem rd_drop_sym {l : List S82} {j : Nat} (h : j < l.length) : l.drop j = rd_T82 l (j : Int) :: l.drop (j + 1) := by
 unfold rd_T82
 rw [Int.toNat_natCast, List.getD_eq_getElem?_getD, List.getElem?_eq_getElem h]
 exact List.drop_eq_getElem_cons h
theorem has_l0 (out : List S82) (hlen : out.length < 1099511627776) (s : ByteArray) (v : Int) : ∀ m j : Nat, j + m = out.length → Ev (fun k => anvilref02_has.l0 k out (j : Int) s v) ((out.drop j).any fun x => symEq x ⟨s, v⟩)
 | 0, j, hj => by
  refine Ev.step (fun k => by rw [anvilref02_has.l0]) ?_
  refine Ev.ifn (by omega) ?_
  rw [List.drop_eq_nil_of_le (by omega)]
  exact Ev.now _
 | m + 1, j, hj => by
  have H := has_l0 out hlen s v m (j + 1) (by omega)
  refine Ev.step (fun k => by rw [anvilref02_has.l0]) ?_
  refine Ev.ifp (by omega) (Ev.ifp (by omega) ?_)
  rw [rd_drop_sym (by omega), List.any_cons, w64n (by omega) (by omega)]
  cases c : symEq (rd_T82 out (j : Int)) ⟨s, v⟩ with
  | true => exact Ev.ifp c (Ev.now _)
  | false => exact Ev.ifn (fun e => absurd (c.symm.trans e) (by simp)) H
theorem has_ev (out : List S82) (hlen : out.length < 1099511627776) (s : ByteArray) (v : Int) : Ev (fun k => anvilref02_has.f k out s v) (out.any fun x => symEq x ⟨s, v⟩) :=
 has_l0 out hlen s v out.length 0 (by omega)
theorem strOf_size (nm : List Int) : (strOfNums nm).size = nm.length := by
 show ((nm.map fun n => UInt8.ofNat n.toNat).toArray).size = nm.length
 simp
theorem name_f {s : ByteArray} (h : s.size ≤ 1099511627776) : anvilref02_Name.f s = some (nameB s) := if_pos (by omega)
theorem wordS_len {t : List Int} {a : Int} {nm : List Int} (h : wordS t a = some nm) : nm.length ≤ t.length := by
 unfold wordS at h
 split at h
 ·have := (upto0_take h).2
  rw [List.length_drop] at this
  omega
 ·cases h
theorem sym_nums {l : List Int} (hl : l.length ≤ 1099511627776) {first size tp tl : Int} (f0 : 0 ≤ first) (s0 : 0 ≤ size) (fs : first + size ≤ (l.length : Int)) (hs : size % 24 = 0) (t0 : 0 ≤ tp) (m0 : 0 ≤ tl) (tm : tp + tl ≤ (l.length : Int)) (m i : Nat) (hi : (i : Int) + m + 1 = size / 24) (y : Int) (hy : first + 24 * (i : Int) = y) :
 0 ≤ y ∧ y + 24 ≤ (l.length : Int) ∧ wrap64 ((i : Int) + 1) = ((i + 1 : Nat) : Int) ∧ wrap64 (Int.tdiv size 24) = size / 24 ∧ wrap64 (tp + tl) = tp + tl ∧ wrap64 (first + wrap64 (24 * (i : Int))) = y ∧ wrap64 (y + 4) = y + 4 ∧ wrap64 (y + 6) = y + 6 ∧ wrap64 (y + 8) = y + 8 ∧ (i : Int) < size / 24 := by
 obtain ⟨q, hq⟩ : ∃ q, size / 24 = q := ⟨_, rfl⟩
 have hd : size = 24 * q := by omega
 have hq0 : 0 ≤ q := by omega
 rw [hq] at hi ⊢
 clear hs
 have hy0 : 0 ≤ y := by omega
 have hy1 : y + 24 ≤ (l.length : Int) := by omega
 refine ⟨hy0, hy1, w64n (by omega) (by omega), ?_, w64n (by omega) (by omega), ?_, w64n (by omega) (by omega), w64n (by omega) (by omega), w64n (by omega) (by omega), by omega⟩
 ·rw [Int.tdiv_eq_ediv_of_nonneg s0, hq]
  exact w64n (by omega) (by omega)
 ·rw [w64n (x := 24 * (i : Int)) (by omega) (by omega), w64n (by omega) (by omega)]
  exact hy
section
attribute [local irreducible] rdN valN
variable {l : List Int} (h : Bytes l) (hl : l.length ≤ 1099511627776) (h64 : 64 ≤ l.length) {first size tp tl : Int} (f0 : 0 ≤ first) (s0 : 0 ≤ size) (fs : first + size ≤ (l.length : Int)) (hs : size % 24 = 0) (t0 : 0 ≤ tp) (m0 : 0 ≤ tl) (tm : tp + tl ≤ (l.length : Int))
include h hl h64 f0 s0 fs hs t0 m0 tm
theorem sym_ev (m i : Nat) (out : List S82) (hi : (i : Int) + m + 1 = size / 24) (ho : out.length ≤ 400)
 (K : ∀ out', out'.length ≤ 400 → Ev (fun k => anvilref02_names.l0 k l first size tp tl out' ((i + 1 : Nat) : Int)) (ptR (symsS l ((l.drop tp.toNat).take tl.toNat) first m ((i : Int) + 1) out'))) :
 Ev (fun k => anvilref02_names.l0 k l first size tp tl out (i : Int)) (ptR (andThen (symS l ((l.drop tp.toNat).take tl.toNat) (first + 24 * (i : Int)) out) (symsS l ((l.drop tp.toNat).take tl.toNat) first m ((i : Int) + 1)))) := by
 have ho2 : out.length < 5864062014805 := by omega
 have ho3 : out.length < 1099511627776 := by omega
 obtain ⟨y, hy⟩ : ∃ y, first + 24 * (i : Int) = y := ⟨_, rfl⟩
 obtain ⟨hy0, hy1, Ei, Ed, Et, Ey, E4, E6, E8, iz⟩ := sym_nums hl f0 s0 fs hs t0 m0 tm m i hi y hy
 have b0 := rd4 h y
 have pass : ∀ x11 s v, Ev (fun k => anvilref02_names.j2 k l first size tp tl out (i : Int) x11 true s v) (ptR (symsS l ((l.drop tp.toNat).take tl.toNat) first m ((i : Int) + 1) out)) := fun x11 s v => by
  refine Ev.step (fun k => by rw [anvilref02_names.j2]) ?_
  rw [Ei]
  exact Ev.ifp rfl (K out ho)
 refine Ev.step (fun k => by rw [anvilref02_names.l0]) ?_
 rw [Ed, Et, Ey, E4, E6, E8, hy]
 refine Ev.ifp iz (Ev.ifp t0 (Ev.ifp (by omega) (Ev.ifp tm ?_)))
 rw [cut_eq l tp tl t0 m0]
 obtain ⟨T, hT⟩ : ∃ T, (l.drop tp.toNat).take tl.toNat = T := ⟨_, rfl⟩
 have hTl : T.length ≤ l.length := by rw [← hT]; exact cut_len _ _ _
 rw [hT] at pass K ⊢
 refine Ev.bind (value_i h hl y 4 (by decide) (by omega) (by omega)) ?_
 refine Ev.bind (text_ev T (by omega) _ b0.1) ?_
 have eS : symS l T y out = match wordS T (rdN l y 4) with
  | none => .error (y, 25)
  | some nm => if skipB l y (strOfNums nm) out = true then .ok out else chk (decide ((out.length : Int) < 400)) y 2 <| .ok (out ++ [⟨strOfNums nm, rdN l (y + 8) 8⟩]) := by
  unfold symS wordS
  by_cases c : rdN l y 4 < (T.length : Int)
  ·rw [chk_ok (decide_eq_true c), if_pos c]
   cases upto0 (T.drop (rdN l y 4).toNat) <;> rfl
  ·rw [chk_no (decide_eq_false c), if_neg c]
 rw [eS]
 cases hw : wordS T (rdN l y 4) with
 | none =>
  refine Ev.ifn (by simp) ?_
  exact Ev.now _
 | some nm =>
 have hnm : (strOfNums nm).size ≤ 1099511627776 := by rw [strOf_size]; have := wordS_len hw; omega
 refine Ev.ifp rfl (Ev.ifp (by omega) (Ev.ifp (by omega) ?_))
 refine Ev.bind (value_i h hl (y + 8) 8 (by decide) (by omega) (by omega)) ?_
 refine Ev.bindc (name_f hnm) ?_
 dsimp only
 have brd : 0 ≤ rd l (y + 4) := (byte_at h (y + 4).toNat).1
 rw [Int.tmod_eq_emod_of_nonneg brd]
 have eK : skipB l y (strOfNums nm) out = (!nameB (strOfNums nm) || (rd l (y + 4) % 16 == 3 || (rd l (y + 4) % 16 == 4 || (rdN l (y + 6) 2 == 0 || out.any fun x => symEq x ⟨(strOfNums nm), rdN l (y + 8) 8⟩)))) := by
  unfold skipB
  rw [rd1i]
 rw [eK]
 cases c1 : nameB (strOfNums nm) with
 | false =>
  refine Ev.ifn (by simp) ?_
  exact pass _ _ _
 | true =>
 refine Ev.ifp rfl ?_
 by_cases c2 : rd l (y + 4) % 16 = 3
 ·refine Ev.ifp c2 ?_
  rw [c2]
  exact pass _ _ _
 refine Ev.ifn c2 ?_
 rw [show (rd l (y + 4) % 16 == 3) = false from beq_eq_false_iff_ne.mpr c2]
 by_cases c3 : rd l (y + 4) % 16 = 4
 ·refine Ev.ifp c3 ?_
  rw [c3]
  exact pass _ _ _
 refine Ev.ifn c3 ?_
 rw [show (rd l (y + 4) % 16 == 4) = false from beq_eq_false_iff_ne.mpr c3]
 refine Ev.bind (value_i h hl (y + 6) 2 (by decide) (by omega) (by omega)) ?_
 by_cases c4 : rdN l (y + 6) 2 = 0
 ·refine Ev.ifp c4 ?_
  rw [show (rdN l (y + 6) 2 == 0) = true from beq_iff_eq.mpr c4]
  exact pass _ _ _
 refine Ev.ifn c4 ?_
 rw [show (rdN l (y + 6) 2 == 0) = false from beq_eq_false_iff_ne.mpr c4]
 refine Ev.bind (has_ev out ho3 _ _) ?_
 cases c5 : (out.any fun x => symEq x ⟨(strOfNums nm), rdN l (y + 8) 8⟩) with
 | true => exact pass _ _ _
 | false =>
 refine Ev.step (fun k => by rw [anvilref02_names.j2]) ?_
 rw [Ei]
 refine Ev.ifn (by simp) ?_
 rw [if_neg (show ¬ (!true || (false || (false || (false || false)))) = true by decide)]
 by_cases c6 : (out.length : Int) = 400
 ·refine Ev.ifp c6 ?_
  rw [chk_no (decide_eq_false (by omega))]
  exact Ev.now _
 ·refine Ev.ifn c6 (Ev.ifp ho2 ?_)
  rw [chk_ok (decide_eq_true (by omega)), andThen_ok]
  refine K _ ?_
  rw [List.length_append]
  show out.length + 1 ≤ 400
  omega
theorem syms_l0 : ∀ (m i : Nat) (out : List S82), (i : Int) + m = size / 24 → out.length ≤ 400 → Ev (fun k => anvilref02_names.l0 k l first size tp tl out (i : Int)) (ptR (symsS l ((l.drop tp.toNat).take tl.toNat) first m (i : Int) out))
 | 0, i, out, hi, ho => by
  have Ed : wrap64 (Int.tdiv size 24) = (i : Int) := by
   clear ho
   rw [Int.tdiv_eq_ediv_of_nonneg s0, ← hi]
   exact w64n (by omega) (by omega)
  refine Ev.step (fun k => by rw [anvilref02_names.l0]) ?_
  rw [Ed]
  refine Ev.ifn (by omega) ?_
  exact Ev.now _
 | m + 1, i, out, hi, ho => by
  rw [symsS]
  exact sym_ev h hl h64 f0 s0 fs hs t0 m0 tm m i out (by omega) ho fun out' ho' => syms_l0 m (i + 1) out' (by omega) ho'
end
theorem chk_err {α : Type} {b : Bool} {a w : Int} {k : Res α} {e : Int × Int} (h : chk b a w k = .error e) : e = (a, w) ∨ k = .error e := by
 cases b with
 | true => exact .inr h
 | false =>
  injection h with h
  exact .inl h.symm
theorem tab_why {l : List Int} {e : Int × Int} (ht : tabS l = .error e) : e.2 ≠ 0 := by
 have fin : ∀ {a w : Int}, e = (a, w) → w ≠ 0 → e.2 ≠ 0 := fun h1 h2 => by rw [h1]; exact h2
 have hE : ∀ o, endS l o = .error e → e.2 ≠ 0 := fun o h => by
  cases o with
  | none => cases h
  | some s =>
   rw [endS] at h
   rcases chk_err h with h | h
   ·exact fin h (by decide)
   rcases chk_err h with h | h
   ·exact fin h (by decide)
   rcases chk_err h with h | h
   ·exact fin h (by decide)
   rcases chk_err h with h | h
   ·exact fin h (by decide)
   rcases chk_err h with h | h
   ·exact fin h (by decide)
   cases h
 unfold tabS at ht
 cases hts : tableS l with
 | ok o => rw [hts] at ht; exact hE o ht
 | error e' =>
  rw [hts] at ht
  injection ht with ht
  subst ht
  unfold tableS at hts
  split at hts
  ·cases hts
  rcases chk_err hts with h | h
  ·exact fin h (by decide)
  rcases chk_err h with h | h
  ·exact fin h (by decide)
  cases h
section
variable {l : List Int} (h : Bytes l) (hl : l.length ≤ 1099511627776) (h64 : 64 ≤ l.length)
include h hl h64
theorem names_ev : Ev (fun k => anvilref02_names.f k l) (ptR (namesS l)) := by
 rw [names_tab]
 refine Ev.bind (table_ev h hl h64) ?_
 cases ht : tabS l with
 | error e =>
  have hw := tab_why ht
  refine Ev.ifn hw ?_
  refine Ev.step (fun k => by rw [anvilref02_names.j0]) ?_
  exact Ev.ifp rfl (Ev.now _)
 | ok o =>
  cases o with
  | none =>
   refine Ev.ifp rfl ?_
   refine Ev.step (fun k => by rw [anvilref02_names.j0]) ?_
   exact Ev.ifp rfl (Ev.now _)
  | some q =>
   obtain ⟨g1, g2, g3, g4, g5, g6, g7⟩ := tab_gives h hl h64 ht
   refine Ev.ifp rfl ?_
   refine Ev.step (fun k => by rw [anvilref02_names.j0]) ?_
   refine Ev.ifn ?_ ?_
   ·show ¬ decide (q.1 < 0) = true
    rw [decide_eq_false (by omega)]
    exact Bool.false_ne_true
   ·show Ev (fun k => anvilref02_names.l0 k l q.1 q.2.1 q.2.2.1 q.2.2.2 [] 1) (ptR (symsS l ((l.drop q.2.2.1.toNat).take q.2.2.2.toNat) q.1 ((q.2.1 / 24).toNat - 1) 1 []))
    by_cases c : q.2.1 / 24 = 0
    ·rw [show symsS l ((l.drop q.2.2.1.toNat).take q.2.2.2.toNat) q.1 ((q.2.1 / 24).toNat - 1) 1 [] = .ok [] by rw [c]; rfl]
     refine Ev.step (fun k => by rw [anvilref02_names.l0]) ?_
     refine Ev.ifn ?_ (Ev.now _)
     show ¬ (1 : Int) < wrap64 (Int.tdiv q.2.1 24)
     rw [Int.tdiv_eq_ediv_of_nonneg g2, c, w64n (by decide) (by decide)]
     decide
    ·exact syms_l0 h hl h64 g1 g2 g3 g4 g5 g6 g7 ((q.2.1 / 24).toNat - 1) 1 [] (by omega) (by simp)
end
end Go.Proofs.YtbnlifldnjgpmaaGreatDoor.PWri
/- The document's reader, by its mirror: the two orders. -/
set_option linter.unusedVariables false
set_option linter.unusedSimpArgs false
namespace Go.Proofs.YtbnlifldnjgpmaaGreatDoor.PWri
open Go.RowKit Go.Lib Go.Proofs.YtbnlifldnjgpmaaGreatDoorW.PrintWords Go.Proofs.YtbnlifldnjgpmaaGreatDoorW.PrintLast
theorem rdS_get {l : List S55} {j : Nat} (h : j < l.length) : rd_T55 l (j : Int) = l[j] := by
 unfold rd_T55
 rw [Int.toNat_natCast, List.getD_eq_getElem?_getD, List.getElem?_eq_getElem h]
 rfl
theorem rdY_get {l : List S82} {j : Nat} (h : j < l.length) : rd_T82 l (j : Int) = l[j] := by
 unfold rd_T82
 rw [Int.toNat_natCast, List.getD_eq_getElem?_getD, List.getElem?_eq_getElem h]
 rfl
section
variable (xs ys : List S55) (hp : ys.Perm xs) (hs : ys.Pairwise fun p q => p.f0 < q.f0) (hl : xs.length < 1099511627776)
/-- Does a part lie behind the first j? -/
def gtS (ys : List S55) (j : Nat) (s : S55) : Prop := j = 0 ∨ (rd_T55 ys (((j - 1 : Nat)) : Int)).f0 < s.f0
/-- The best of the first i. -/
def bestS (xs ys : List S55) (j i : Nat) (b : Int) : Prop :=
 (b = -1 ∧ ∀ p : Nat, p < i → ¬ gtS ys j (rd_T55 xs (p : Int))) ∨ (0 ≤ b ∧ b < (i : Int) ∧ gtS ys j (rd_T55 xs b) ∧ ∀ p : Nat, p < i → gtS ys j (rd_T55 xs (p : Int)) → (rd_T55 xs b).f0 ≤ (rd_T55 xs (p : Int)).f0)
theorem bestS.pass {xs ys : List S55} {j i : Nat} {b : Int} (h : bestS xs ys j i b) (hg : ¬ gtS ys j (rd_T55 xs (i : Int))) : bestS xs ys j (i + 1) b := by
 rcases h with ⟨e, h⟩ | ⟨h1, h2, h3, h4⟩
 ·exact .inl ⟨e, fun p hp => if e : p = i then e ▸ hg else h p (by omega)⟩
 ·exact .inr ⟨h1, by omega, h3, fun p hp hpg => if e : p = i then absurd (e ▸ hpg) hg else h4 p (by omega) hpg⟩
theorem bestS.keep {xs ys : List S55} {j i : Nat} {b : Int} (h : bestS xs ys j i b) (h0 : 0 ≤ b) (hg : ¬ (rd_T55 xs (i : Int)).f0 < (rd_T55 xs b).f0) : bestS xs ys j (i + 1) b := by
 rcases h with ⟨e, h⟩ | ⟨h1, h2, h3, h4⟩
 ·omega
 ·exact .inr ⟨h1, by omega, h3, fun p hp hpg => if e : p = i then by subst e; omega else h4 p (by omega) hpg⟩
theorem bestS.take {xs ys : List S55} {j i : Nat} {b : Int} (h : bestS xs ys j i b) (hg : gtS ys j (rd_T55 xs (i : Int))) (hb : b < 0 ∨ (rd_T55 xs (i : Int)).f0 < (rd_T55 xs b).f0) : bestS xs ys j (i + 1) (i : Int) := by
 refine .inr ⟨by omega, by omega, hg, fun p hp hpg => ?_⟩
 by_cases e : p = i
 ·subst e
  exact Int.le_refl _
 rcases h with ⟨_, h⟩ | ⟨h1, h2, h3, h4⟩
 ·exact absurd hpg (h p (by omega))
 ·have := h4 p (by omega) hpg
  omega
include hp hs
theorem best_end {j : Nat} (hj : j < ys.length) {b : Int} (h : bestS xs ys j xs.length b) : 0 ≤ b ∧ b < (xs.length : Int) ∧ rd_T55 xs b = ys[j] := by
 have hsl := List.pairwise_iff_getElem.1 hs
 have gj : gtS ys j ys[j] := by
  by_cases e : j = 0
  ·exact .inl e
  ·refine .inr ?_
   rw [rdS_get (by omega)]
   exact hsl (j - 1) j (by omega) hj (by omega)
 obtain ⟨p, hpl, hpe⟩ := List.getElem_of_mem (hp.mem_iff.1 (List.getElem_mem hj))
 have hpr := rdS_get hpl
 rw [hpe] at hpr
 rcases h with ⟨_, h⟩ | ⟨h1, h2, h3, h4⟩
 ·exact absurd (hpr ▸ gj) (h p hpl)
 ·refine ⟨h1, h2, ?_⟩
  have h5 := h4 p hpl (hpr ▸ gj)
  rw [hpr] at h5
  obtain ⟨b, rfl⟩ := Int.eq_ofNat_of_zero_le h1
  have hb : b < xs.length := by omega
  rw [rdS_get hb] at h3 h5 ⊢
  obtain ⟨q, hql, hqe⟩ := List.getElem_of_mem (hp.mem_iff.2 (List.getElem_mem hb))
  rw [← hqe] at h3 h5 ⊢
  have : q = j := by
   by_cases e1 : q < j
   ·rcases h3 with h3 | h3
    ·omega
    ·rw [rdS_get (by omega)] at h3
     by_cases e2 : q = j - 1
     ·subst e2
      omega
     ·have := hsl q (j - 1) hql (by omega) (by omega)
      omega
   ·by_cases e2 : j < q
    ·have := hsl j q hj hql e2
     omega
    ·omega
  subst this
  rfl
include hl
theorem rising_l1 {j : Nat} (hj : j < ys.length) (K : Ev (fun k => anvilref02_rising.l0 k xs (ys.take (j + 1))) ys) : ∀ (d i : Nat) (b : Int), i + d = xs.length → bestS xs ys j i b → Ev (fun k => anvilref02_rising.l1 k xs (ys.take j) b (i : Int)) ys
 | 0, i, b, hi, hb => by
  have hyl := hp.length_eq
  have e : i = xs.length := by omega
  rw [e] at hb ⊢
  obtain ⟨h1, h2, h3⟩ := best_end xs ys hp hs hj hb
  refine Ev.step (fun k => by rw [anvilref02_rising.l1]) ?_
  refine Ev.ifn (by omega) (Ev.ifp h1 (Ev.ifp h2 (Ev.ifp (by rw [List.length_take]; omega) ?_)))
  rw [h3, show ys.take j ++ [(⟨ys[j].f0, ys[j].f1, ys[j].f2, ys[j].f3⟩ : S55)] = ys.take (j + 1) by rw [List.take_add_one, List.getElem?_eq_getElem hj]; rfl]
  exact K
 | d + 1, i, b, hi, hb => by
  have hyl := hp.length_eq
  have htl : ((ys.take j).length : Int) = (j : Int) := by rw [List.length_take]; omega
  have next : ∀ b, bestS xs ys j (i + 1) b → Ev (fun k => anvilref02_rising.l1 k xs (ys.take j) b ((i + 1 : Nat) : Int)) ys := fun b hb => rising_l1 hj K d (i + 1) b (by omega) hb
  have Ei : wrap64 ((i : Int) + 1) = ((i + 1 : Nat) : Int) := w64n (by omega) (by omega)
  have hi0 : (0 : Int) ≤ (i : Int) := by omega
  have step : gtS ys j (rd_T55 xs (i : Int)) → Ev (fun k => if b < 0 then (anvilref02_rising.l1 k xs (ys.take j) (i : Int) ((i + 1 : Nat) : Int)) else (if 0 ≤ b then (if b < (xs.length : Int) then (if ((rd_T55 xs (i : Int)).f0) < ((rd_T55 xs b).f0) then (anvilref02_rising.l1 k xs (ys.take j) (i : Int) ((i + 1 : Nat) : Int)) else (anvilref02_rising.l1 k xs (ys.take j) b ((i + 1 : Nat) : Int))) else (none)) else (none))) ys := fun hg => by
   by_cases c : b < 0
   ·exact Ev.ifp c (next _ (hb.take hg (.inl c)))
   ·have hbi : b < (i : Int) := by
     rcases hb with ⟨e, _⟩ | ⟨_, h2, _⟩
     ·omega
     ·exact h2
    refine Ev.ifn c (Ev.ifp (by omega) (Ev.ifp (by omega) ?_))
    by_cases c2 : (rd_T55 xs (i : Int)).f0 < (rd_T55 xs b).f0
    ·exact Ev.ifp c2 (next _ (hb.take hg (.inr c2)))
    ·exact Ev.ifn c2 (next _ (hb.keep (by omega) c2))
  refine Ev.step (fun k => by rw [anvilref02_rising.l1]) ?_
  rw [Ei, htl]
  refine Ev.ifp (by omega) ?_
  by_cases cj : j = 0
  ·refine Ev.ifp (by omega) ?_
   have S := step (.inl cj)
   by_cases c : b < 0
   ·exact Ev.ifp c (next _ (hb.take (.inl cj) (.inl c)))
   ·refine Ev.ifn c (Ev.ifp hi0 ?_)
    exact Ev.congr (fun k => (if_neg c).symm) S
  ·refine Ev.ifn (by omega) (Ev.ifp hi0 ?_)
   have Ej : wrap64 ((j : Int) - 1) = ((j - 1 : Nat) : Int) := by rw [w64n (by omega) (by omega)]; omega
   rw [Ej]
   refine Ev.ifp (by omega) (Ev.ifp (by omega) ?_)
   have ey : rd_T55 (ys.take j) ((j - 1 : Nat) : Int) = rd_T55 ys ((j - 1 : Nat) : Int) := by
    rw [rdS_get (by rw [List.length_take]; omega), rdS_get (by omega), List.getElem_take]
   rw [ey]
   by_cases c2 : (rd_T55 xs (i : Int)).f0 > (rd_T55 ys ((j - 1 : Nat) : Int)).f0
   ·exact Ev.ifp c2 (step (.inr c2))
   ·refine Ev.ifn c2 (next _ (hb.pass ?_))
    rintro (e | e)
    ·exact cj e
    ·exact c2 e
theorem rising_l0 : ∀ d j : Nat, j + d = xs.length → Ev (fun k => anvilref02_rising.l0 k xs (ys.take j)) ys
 | 0, j, hj => by
  have hyl := hp.length_eq
  refine Ev.step (fun k => by rw [anvilref02_rising.l0]) ?_
  refine Ev.ifn (by rw [List.length_take]; omega) ?_
  rw [List.take_of_length_le (by omega)]
  exact Ev.now _
 | d + 1, j, hj => by
  have hyl := hp.length_eq
  refine Ev.step (fun k => by rw [anvilref02_rising.l0]) ?_
  refine Ev.ifp (by rw [List.length_take]; omega) ?_
  exact rising_l1 xs ys hp hs hl (by omega) (rising_l0 d (j + 1) (by omega)) xs.length 0 (-1) (by omega) (.inl ⟨rfl, fun p hp => absurd hp (Nat.not_lt_zero _)⟩)
theorem rising_ev : Ev (fun k => anvilref02_rising.f k xs) ys := rising_l0 xs ys hp hs hl xs.length 0 (by omega)
end
theorem behind_f (a b : S82) : anvilref02_behind.f a.f0 a.f1 b.f0 b.f1 = some (ltY a b) := by
 unfold anvilref02_behind.f ltY
 by_cases c1 : b.f1 > a.f1
 ·rw [if_pos c1, decide_eq_true (show a.f1 < b.f1 from c1), Bool.true_or]
 ·rw [if_neg c1, decide_eq_false (show ¬ a.f1 < b.f1 from c1), Bool.false_or]
  by_cases c2 : b.f1 = a.f1
  ·rw [if_pos c2, decide_eq_true c2.symm, Bool.true_and]
  ·rw [if_neg c2, decide_eq_false (fun e => c2 e.symm), Bool.false_and]
theorem ltY_anti {x y : S82} (h1 : ltY x y = false) (h2 : ltY y x = false) : x = y := by
 obtain ⟨e1, e2⟩ := ltY_total h1 h2
 refine symEq_iff.1 ?_
 unfold symEq
 rw [e1, e2]
 simp
abbrev srtY (l : List S82) : Prop := l.Pairwise fun p q => ltY q p = false
theorem srt_one {xs ys : List S82} (h1 : srtY xs) (h2 : srtY ys) (hp : xs.Perm ys) : xs = ys :=
 hp.eq_of_pairwise (fun a b _ _ e1 e2 => ltY_anti e2 e1) h1 h2
theorem ltY_trans' {x y z : S82} (h1 : ltY y x = false) (h2 : ltY z y = false) : ltY z x = false := by
 have := swo_cmpY.ntrans z y x (by rw [lt_cmpY]; exact h2) (by rw [lt_cmpY]; exact h1)
 rwa [lt_cmpY] at this
theorem set_mid {α : Type} (A C : List α) (z u : α) (n : Nat) (h : A.length = n) : (A ++ z :: C).set ((n : Int)).toNat u = A ++ u :: C := by
 rw [Int.toNat_natCast, List.set_append_right _ _ (by omega), ← h, Nat.sub_self, List.set_cons_zero]
theorem app_last {α : Type} {A B C : List α} {a : α} (h : A = B ++ [a]) : A ++ C = B ++ a :: C := by rw [h, List.append_assoc]; rfl
theorem ltY_asymm {x y : S82} (h : ltY x y = true) : ltY y x = false := by
 cases c : ltY y x with
 | false => rfl
 | true =>
  have h1 := swo_cmpY.trans x y x (by rw [lt_cmpY]; exact h) (by rw [lt_cmpY]; exact c)
  rw [swo_cmpY.irrefl x] at h1
  cases h1
section
variable (xs ys : List S82) (hp : ys.Perm xs) (hs : srtY ys) (hl : xs.length < 1099511627776)
theorem sorted_put {i : Nat} (hi : i < xs.length) {r : List S82} (K : ∀ d, srtY d → d.Perm (xs.take (i + 1)) → Ev (fun k => anvilref02_sorted.l0 k xs d ((i + 1 : Nat) : Int)) r) (A C : List S82) (hsr : srtY (A ++ C)) (hpm : (A ++ C).Perm (xs.take i)) (hC : ∀ c ∈ C, ltY xs[i] c = true) (hA1 : ∀ a ∈ A, ltY xs[i] a = false) : Ev (fun k => anvilref02_sorted.l0 k xs (A ++ (⟨xs[i].f0, xs[i].f1⟩ : S82) :: C) ((i + 1 : Nat) : Int)) r := by
 refine K _ ?_ ?_
 ·show srtY (A ++ xs[i] :: C)
  obtain ⟨s1, s2, s3⟩ := List.pairwise_append.1 hsr
  refine List.pairwise_append.2 ⟨s1, List.pairwise_cons.2 ⟨fun c hc => ltY_asymm (hC c hc), s2⟩, fun a ha b hb => ?_⟩
  rcases List.mem_cons.1 hb with rfl | hb
  ·exact hA1 a ha
  ·exact s3 a ha b hb
 ·show (A ++ xs[i] :: C).Perm (xs.take (i + 1))
  rw [List.take_add_one, List.getElem?_eq_getElem hi]
  refine List.perm_middle.trans ?_
  refine (List.Perm.cons _ hpm).trans ?_
  exact List.perm_append_comm (l₁ := [xs[i]])
include hl
theorem sorted_l1 {i : Nat} (hi : i < xs.length) {r : List S82} (K : ∀ d, srtY d → d.Perm (xs.take (i + 1)) → Ev (fun k => anvilref02_sorted.l0 k xs d ((i + 1 : Nat) : Int)) r) : ∀ (n : Nat) (A : List S82) (z : S82) (C : List S82), A.length = n → srtY (A ++ C) → (A ++ C).Perm (xs.take i) → (∀ c ∈ C, ltY xs[i] c = true) → Ev (fun k => anvilref02_sorted.l1 k xs (A ++ z :: C) (i : Int) (n : Int)) r
 | 0, A, z, C, hA, hsr, hpm, hC => by
  have hlen : A.length + C.length = i := by have := hpm.length_eq; rw [List.length_append, List.length_take] at this; omega
  have hfl : ((A ++ z :: C).length : Int) = (i : Int) + 1 := by rw [List.length_append, List.length_cons]; omega
  have Ei : wrap64 ((i : Int) + 1) = ((i + 1 : Nat) : Int) := w64n (by omega) (by omega)
  have hi0 : (0 : Int) ≤ (i : Int) := by omega
  refine Ev.step (fun k => by rw [anvilref02_sorted.l1]) ?_
  rw [hfl, rdY_get hi, Ei]
  refine Ev.ifn (by omega) (Ev.ifp hi0 (Ev.ifp (by omega) (Ev.ifp (by omega) (Ev.ifp (by omega) ?_))))
  rw [set_mid A C z _ 0 hA]
  exact sorted_put xs hi K A C hsr hpm hC (fun a ha => by rw [List.length_eq_zero_iff.1 hA] at ha; cases ha)
 | n + 1, A, z, C, hA, hsr, hpm, hC => by
  have hlen : A.length + C.length = i := by have := hpm.length_eq; rw [List.length_append, List.length_take] at this; omega
  have hfl : ((A ++ z :: C).length : Int) = (i : Int) + 1 := by rw [List.length_append, List.length_cons]; omega
  have hfl2 : (A ++ z :: C).length = i + 1 := by rw [List.length_append, List.length_cons]; omega
  have hi0 : (0 : Int) ≤ (i : Int) := by omega
  have En : wrap64 (((n + 1 : Nat) : Int) - 1) = (n : Int) := by rw [w64n (by omega) (by omega)]; omega
  have Ei : wrap64 ((i : Int) + 1) = ((i + 1 : Nat) : Int) := w64n (by omega) (by omega)
  have hrd : rd_T82 (A ++ z :: C) (n : Int) = A[n] := by
   rw [rdY_get (by omega), List.getElem_append_left (by omega)]
  have hAn : A = A.take n ++ [A[n]] := by
   have := List.take_add_one (l := A) (i := n)
   rw [List.getElem?_eq_getElem (by omega), List.take_of_length_le (by omega)] at this
   exact this
  refine Ev.step (fun k => by rw [anvilref02_sorted.l1]) ?_
  rw [hfl, rdY_get hi, Ei, En, hrd]
  refine Ev.ifp (by omega) (Ev.ifp hi0 (Ev.ifp (by omega) (Ev.ifp (by omega) (Ev.ifp (by omega) ?_))))
  refine Ev.bindc (behind_f xs[i] A[n]) ?_
  cases c : ltY xs[i] A[n] with
  | true =>
   refine Ev.ifp rfl (Ev.ifp (by omega) (Ev.ifp (by omega) ?_))
   have e1 : A.take n ++ A[n] :: C = A ++ C := (app_last hAn).symm
   have H := sorted_l1 hi K n (A.take n) A[n] (A[n] :: C) (by rw [List.length_take]; omega) (by rw [e1]; exact hsr) (by rw [e1]; exact hpm) (fun x hx => by
    rcases List.mem_cons.1 hx with rfl | hx
    ·exact c
    ·exact hC x hx)
   have e : A ++ (⟨A[n].f0, A[n].f1⟩ : S82) :: C = A.take n ++ A[n] :: A[n] :: C := app_last hAn
   rw [set_mid A C z _ (n + 1) hA, e]
   exact H
  | false =>
   refine Ev.ifn (by simp) (Ev.ifp (by omega) (Ev.ifp (by omega) ?_))
   rw [set_mid A C z _ (n + 1) hA]
   refine sorted_put xs hi K A C hsr hpm hC (fun a ha => ?_)
   obtain ⟨p, hpl, rfl⟩ := List.getElem_of_mem ha
   by_cases e : p = n
   ·subst e
    exact c
   ·have s1 := List.pairwise_iff_getElem.1 (List.pairwise_append.1 hsr).1 p n hpl (by omega) (by omega)
    exact ltY_trans' s1 c
theorem sorted_l0 {r : List S82} (K : ∀ d, srtY d → d.Perm xs → r = d) : ∀ (m i : Nat) (d : List S82), i + m = xs.length → srtY d → d.Perm (xs.take i) → Ev (fun k => anvilref02_sorted.l0 k xs d (i : Int)) r
 | 0, i, d, hi, hd, hpm => by
  rw [List.take_of_length_le (by omega)] at hpm
  refine Ev.step (fun k => by rw [anvilref02_sorted.l0]) ?_
  refine Ev.ifn (by omega) ?_
  rw [K d hd hpm]
  exact Ev.now _
 | m + 1, i, d, hi, hd, hpm => by
  have hdl : d.length = i := by have := hpm.length_eq; rw [List.length_take] at this; omega
  refine Ev.step (fun k => by rw [anvilref02_sorted.l0]) ?_
  refine Ev.ifp (by omega) (Ev.ifp (by omega) (Ev.ifp (by omega) ?_))
  rw [hdl]
  exact sorted_l1 xs hl (show i < xs.length by omega) (fun d hd hpm => sorted_l0 K m (i + 1) d (by omega) hd hpm) i d _ [] hdl (by rw [List.append_nil]; exact hd) (by rw [List.append_nil]; exact hpm) (fun c hc => by cases hc)
include hp hs
theorem sorted_ev : Ev (fun k => anvilref02_sorted.f k xs) ys :=
 sorted_l0 xs hl (fun d h1 h2 => srt_one hs h1 (hp.trans h2.symm)) xs.length 0 [] (by omega) .nil .nil
end
end Go.Proofs.YtbnlifldnjgpmaaGreatDoor.PWri
/- image's head: the checks of a file's front, in their order. -/
set_option linter.unusedVariables false
set_option linter.unusedSimpArgs false
namespace Go.Proofs.YtbnlifldnjgpmaaGreatDoor.PWri
open Go.RowKit Go.Lib Go.Proofs.YtbnlifldnjgpmaaGreatDoorW.PrintWords Go.Proofs.YtbnlifldnjgpmaaGreatDoorW.PrintLast
set_option maxHeartbeats 16000000 in
set_option maxRecDepth 1000000 in
theorem head_c (l : List Int) (A : Option Addr) (c : Nat) (h : Bytes l) (hl : l.length ≤ 1099511627776) (hc : l.length ≤ c) (w : World) (hC : Kd.C (Kd.int .u8) w A l.length l) :
 Calls Tryz.prog 26 #[.agg #[.slice A l.length c]] w (Out (headS l) (fun _ v _ => v = .tuple #[]) w) := by
 have HC := Lib.hid hC
 have HB := Lib.hid h
 obtain ⟨o, ho⟩ : ∃ o, headS l = o := ⟨_, rfl⟩
 rw [ho]
 have HO : Hid (magicS l 0 (magicL.drop 0) (headR1 l) = o) := Lib.hid ho
 clear hC h ho
 go_enter Tryz.func26, Tryz.ntmps26
 go_wp2
 have HB0 : Hid (((w.alloc (.cells #[.slice A l.length c] 59)).alloc (.cells #[.int .u8 127, .int .u8 69, .int .u8 76, .int .u8 70, .int .u8 2, .int .u8 1, .int .u8 1] 5)).heap[w.heap.size + 1]? = some (.cells #[.int .u8 127, .int .u8 69, .int .u8 76, .int .u8 70, .int .u8 2, .int .u8 1, .int .u8 1] 5)) :=
  Lib.hid (by have h := blk_new (w.alloc (.cells #[.slice A l.length c] 59)) (.cells #[.int .u8 127, .int .u8 69, .int .u8 76, .int .u8 70, .int .u8 2, .int .u8 1, .int .u8 1] 5); rwa [show (w.alloc (.cells #[.slice A l.length c] 59)).heap.size = w.heap.size + 1 from Array.size_push _] at h)
 go_loopw [7] (fun v7 wx => ∃ j : Nat, v7 = .int .i64 (j : Int) ∧ j ≤ 7 ∧ Hid (magicS l j (magicL.drop j) (headR1 l) = o) ∧ Hid (FS w (.slice A l.length c) wx) ∧
  Hid (wx.heap[w.heap.size + 1]? = some (.cells #[.int .u8 127, .int .u8 69, .int .u8 76, .int .u8 70, .int .u8 2, .int .u8 1, .int .u8 1] 5))) (fun v7 _ => 7 - (RowKit.intOf v7).toNat)
 case atStart => exact ⟨0, rfl, by omega, HO, Lib.hid ((FS.start w _).alloc _), HB0⟩
 case round =>
  obtain ⟨j, rfl, hj, HOj, HS, HLj⟩ := hrel
  by_cases hjl : j < 7
  ·obtain ⟨ad, eA, hcell⟩ : ∃ ad : Addr, ad = ⟨w.heap.size + 1, j, none⟩ ∧ wr.cell? ad = some (.int .u8 (magicL.getD j 0)) := by
    refine ⟨_, rfl, ?_⟩
    have hl7 := HLj.out
    rw [World.cell?]
    dsimp only
    rw [hl7]
    match j, hjl with
    | 0, _ => rfl
    | 1, _ => rfl
    | 2, _ => rfl
    | 3, _ => rfl
    | 4, _ => rfl
    | 5, _ => rfl
    | 6, _ => rfl
   subst eA
   have hfc := (Lib.hid HS.out.cell).out
   have HCW := Lib.hid (Kd.C_below HC.out HS.out.below)
   have hdr : magicL.drop j = magicL.getD j 0 :: magicL.drop (j + 1) := magic_drop j hjl
   have hX := HOj.out
   rw [hdr, magicS] at hX
   have HX := Lib.hid hX
   clear hX hdr
   have hgw : w.heap.size ≤ wr.heap.size := HS.out.below.size
   by_cases hjl2 : j < l.length
   ·obtain ⟨ad, eA, hcA⟩ := Kd.at_int HCW.out (j : Int) (by omega) (by omega)
    subst eA
    rw [Int.toNat_natCast] at hcA
    go_wp2_with (go_at_call 25; refine (must_c _ _ _ _).mono ?_; rintro e w' (⟨hb, he, hw⟩ | ⟨hb, he, hw⟩) <;> have hw := hw.symm <;> subst he <;> subst hw)
    ·have hX := HX.out
     rw [chk_ok (decide_eq_true (by omega)), chk_ok (by simpa [rd] using hb)] at hX
     exact ⟨⟨j + 1, rfl, by omega, Lib.hid hX, HS, HLj⟩, by show 7 - (RowKit.intOf (Value.int IntKind.i64 ((j + 1 : Nat) : Int))).toNat < _; simp only [RowKit.intOf]; omega⟩
    ·refine ⟨rfl, Out.no ?_ HS.out.below⟩
     rw [← HX.out, chk_ok (decide_eq_true (by omega)), chk_no (by simpa [rd] using hb)]
    ·exact absurd hb (by simp)
   ·go_wp2_with (go_at_call 25; refine (must_c _ _ _ _).mono ?_; rintro e w' (⟨hb, he, hw⟩ | ⟨hb, he, hw⟩) <;> have hw := hw.symm <;> subst he <;> subst hw)
    ·exact absurd hb (by simp)
    ·refine ⟨rfl, Out.no ?_ HS.out.below⟩
     rw [← HX.out, chk_no (decide_eq_false (by omega))]
  ·have hX := HOj.out
   rw [show magicL.drop j = [] from by rw [show j = 7 by omega]; rfl, magicS, headR1, headR2, headR3] at hX
   have HX := Lib.hid hX
   clear hX HOj HLj
   have hfc := (Lib.hid HS.out.cell).out
   by_cases h64 : 64 ≤ l.length
   ·have hlen : (64 : Int) ≤ (l.length : Int) := by omega
    have b56 := rd2 HB.out 56
    have b32 := (rd8 HB.out 32).1
    by_cases hn : rdN l 56 2 = 0
    ·have hnb : (rdN l 56 2 == 0) = true := by simp [hn]
     have hX := HX.out
     rw [hnb, Bool.true_or, decide_eq_true hlen, hn, show decide ((0 : Int) ≤ 16) = true from rfl, show (56 * 0 : Int) = 0 from rfl] at hX
     clear HX
     have HX := Lib.hid hX
     clear hX
     go_wp2_with (first | (go_at_call 25; refine (must_c _ _ _ _).mono ?_; rintro e w' (⟨hb, he, hw⟩ | ⟨hb, he, hw⟩) <;> have hw := hw.symm <;> subst he <;> subst hw; rotate_left; (refine ⟨rfl, Out.no (HX.out.symm.trans (chk_no hb)) HS.out.below⟩); have hX2 := HX.out; rw [chk_ok hb] at hX2; clear HX hb; have HX := Lib.hid hX2; clear hX2) | (go_at_call 52; refine (half_i HB.out hl hc _ (by omega) (by omega) _ (Kd.C_below HC.out HS.out.below)).mono ?_; rintro e w' ⟨he, ⟨hv0, hv1⟩, hd⟩; subst he; have hS2 := HS.out.step hd; clear HS hfc hd; have HS := Lib.hid hS2; have hfc := (Lib.hid HS.out.cell).out; clear hS2) | (go_at_call 53; refine (word_i HB.out hl hc _ (by omega) (by omega) _ (Kd.C_below HC.out HS.out.below)).mono ?_; rintro e w' ⟨he, ⟨hv0, hv1⟩, hd⟩; subst he; have hS2 := HS.out.step hd; clear HS hfc hd; have HS := Lib.hid hS2; have hfc := (Lib.hid HS.out.cell).out; clear hS2) | (go_at_call 27; refine (double_i HB.out hl hc _ (by omega) (by omega) _ (Kd.C_below HC.out HS.out.below)).mono ?_; rintro e w' ⟨he, ⟨hv0, hv1⟩, hd⟩; subst he; have hS2 := HS.out.step hd; clear HS hfc hd; have HS := Lib.hid hS2; have hfc := (Lib.hid HS.out.cell).out; clear hS2))
     have E1 : IntKind.i64.wrap 0 = 0 := by decide
     have E2 : IntKind.u64.wrap 0 = 0 := by decide
     have hS2 := HS.out.drew; clear HS hfc; have HS := Lib.hid hS2; have hfc := (Lib.hid HS.out.cell).out; clear hS2
     go_region_held2 (fun w' => w'.cell? ⟨w.heap.size, 0, none⟩ = some (.slice A l.length c)) (first | exact hfc | go_keep) (first | (go_at_call 27; refine (double_i HB.out hl hc _ (by omega) (by omega) _ (Kd.C_below HC.out HS.out.below)).mono ?_; rintro e w' ⟨he, ⟨hv0, hv1⟩, hd⟩; subst he; have hS2 := HS.out.step hd; clear HS hfc hd; have HS := Lib.hid hS2; have hfc := (Lib.hid HS.out.cell).out; clear hS2) | (go_at_call 54; refine (room_c hl hc _ _ (by omega) _ (Kd.C_below HC.out HS.out.below)).mono ?_; rintro e w' ⟨he, hd⟩; subst he; have hS2 := HS.out.step hd; clear HS hfc hd; have HS := Lib.hid hS2; have hfc := (Lib.hid HS.out.cell).out; clear hS2) | (go_at_call 25; refine (must_c _ _ _ _).mono ?_; rintro e w' (⟨hb, he, hw⟩ | ⟨hb, he, hw⟩) <;> have hw := hw.symm <;> subst he <;> subst hw; rotate_left; (refine ⟨rfl, Out.no (HX.out.symm.trans (chk_no hb)) HS.out.below⟩); have hX2 := HX.out; rw [chk_ok hb] at hX2; clear HX hb; have HX := Lib.hid hX2; clear hX2))
     go_wp2
     go_end0
     exact Out.yes HX.out.symm rfl HS.out.below
    ·have hnb : (rdN l 56 2 == 0) = false := by simp [hn]
     have hX := HX.out
     rw [hnb, Bool.false_or, decide_eq_true hlen] at hX
     clear HX
     have HX := Lib.hid hX
     clear hX
     go_wp2_with (first | (go_at_call 25; refine (must_c _ _ _ _).mono ?_; rintro e w' (⟨hb, he, hw⟩ | ⟨hb, he, hw⟩) <;> have hw := hw.symm <;> subst he <;> subst hw; rotate_left; (refine ⟨rfl, Out.no (HX.out.symm.trans (chk_no hb)) HS.out.below⟩); have hX2 := HX.out; rw [chk_ok hb] at hX2; clear HX hb; have HX := Lib.hid hX2; clear hX2) | (go_at_call 52; refine (half_i HB.out hl hc _ (by omega) (by omega) _ (Kd.C_below HC.out HS.out.below)).mono ?_; rintro e w' ⟨he, ⟨hv0, hv1⟩, hd⟩; subst he; have hS2 := HS.out.step hd; clear HS hfc hd; have HS := Lib.hid hS2; have hfc := (Lib.hid HS.out.cell).out; clear hS2) | (go_at_call 53; refine (word_i HB.out hl hc _ (by omega) (by omega) _ (Kd.C_below HC.out HS.out.below)).mono ?_; rintro e w' ⟨he, ⟨hv0, hv1⟩, hd⟩; subst he; have hS2 := HS.out.step hd; clear HS hfc hd; have HS := Lib.hid hS2; have hfc := (Lib.hid HS.out.cell).out; clear hS2) | (go_at_call 27; refine (double_i HB.out hl hc _ (by omega) (by omega) _ (Kd.C_below HC.out HS.out.below)).mono ?_; rintro e w' ⟨he, ⟨hv0, hv1⟩, hd⟩; subst he; have hS2 := HS.out.step hd; clear HS hfc hd; have HS := Lib.hid hS2; have hfc := (Lib.hid HS.out.cell).out; clear hS2))
     have hE0 := b56
     have E1 : IntKind.i64.wrap (56 * rdN l 56 2) = 56 * rdN l 56 2 := by rw [IntKind.wrap_i64]; omega
     have E2 : IntKind.u64.wrap (56 * rdN l 56 2) = 56 * rdN l 56 2 := u64n (by omega) (by omega)
     have hS2 := HS.out.drew; clear HS hfc; have HS := Lib.hid hS2; have hfc := (Lib.hid HS.out.cell).out; clear hS2
     go_region_held2 (fun w' => w'.cell? ⟨w.heap.size, 0, none⟩ = some (.slice A l.length c)) (first | exact hfc | go_keep) (first | (go_at_call 27; refine (double_i HB.out hl hc _ (by omega) (by omega) _ (Kd.C_below HC.out HS.out.below)).mono ?_; rintro e w' ⟨he, ⟨hv0, hv1⟩, hd⟩; subst he; have hS2 := HS.out.step hd; clear HS hfc hd; have HS := Lib.hid hS2; have hfc := (Lib.hid HS.out.cell).out; clear hS2) | (go_at_call 54; refine (room_c hl hc _ _ (by omega) _ (Kd.C_below HC.out HS.out.below)).mono ?_; rintro e w' ⟨he, hd⟩; subst he; have hS2 := HS.out.step hd; clear HS hfc hd; have HS := Lib.hid hS2; have hfc := (Lib.hid HS.out.cell).out; clear hS2) | (go_at_call 25; refine (must_c _ _ _ _).mono ?_; rintro e w' (⟨hb, he, hw⟩ | ⟨hb, he, hw⟩) <;> have hw := hw.symm <;> subst he <;> subst hw; rotate_left; (refine ⟨rfl, Out.no (HX.out.symm.trans (chk_no hb)) HS.out.below⟩); have hX2 := HX.out; rw [chk_ok hb] at hX2; clear HX hb; have HX := Lib.hid hX2; clear hX2))
     go_wp2
     go_end0
     exact Out.yes HX.out.symm rfl HS.out.below
   ·have hd64 : decide ((64 : Int) ≤ (l.length : Int)) = false := decide_eq_false (by omega)
    go_wp2_with (go_at_call 25; refine (must_no _ _ _).mono ?_; rintro e w' ⟨rfl, rfl⟩)
    exact ⟨rfl, Out.no (HX.out.symm.trans (chk_no hd64)) HS.out.below⟩
end Go.Proofs.YtbnlifldnjgpmaaGreatDoor.PWri
