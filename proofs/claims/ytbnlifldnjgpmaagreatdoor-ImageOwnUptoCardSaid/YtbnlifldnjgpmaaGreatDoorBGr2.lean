-- BY PROGRAM of this session (wip/tools/home.sh): the parts of the print in which these stand: image_Check image_lay image_turned
import Derived.Test.YtbnlifldnjgpmaaGreatDoorBGr1
import Derived.Test.YtbnlifldnjgpmaaGreatDoorBWrix10
import Derived.Test.YtbnlifldnjgpmaaGreatDoorBWrix11
import Derived.Test.YtbnlifldnjgpmaaGreatDoorBWrix2
import Derived.Test.YtbnlifldnjgpmaaGreatDoorBWds1
import Derived.Test.YtbnlifldnjgpmaaGreatDoorProg
import Derived.WalkKit
import Derived.WalkMore
import Derived.RegionTactic
import Derived.Shelf.RegionOpenPlain
import Derived.CellFam
import Derived.Below
import Derived.Lib.Hide
import Derived.Lib.Walk
import Derived.Laws.CopyRow
import Derived.Lib.BufferWrite
import Derived.StillTailTactics
import Derived.Laws.IdiomCopy
import Derived.Deep.RegionHeld3
import Derived.WalkSpells
import Derived.StillTactics
/- The pure side of Check, shared: the program's Check and the document's answer the same number 'checkS', for lists whose parts are no longer than 2^20; a twin is the image itself. -/
set_option linter.unusedVariables false
set_option linter.unusedSimpArgs false
namespace Go.Proofs.YtbnlifldnjgpmaaGreatDoor.PWri
open Go.RowKit Go.Proofs.YtbnlifldnjgpmaaGreatDoorW.PrintWords Go.Proofs.YtbnlifldnjgpmaaGreatDoorW.PrintLast
abbrev Seg := S55
abbrev Sym := S82
theorem w64 {x : Int} (h1 : -9223372036854775808 ≤ x) (h2 : x ≤ 9223372036854775807) : wrap64 x = x := by unfold wrap64; omega
def lastS (s : Seg) : Int := IntKind.u64.wrap (s.f0 + IntKind.u64.wrap (s.f1 - 1))
def badS (s : Seg) : Prop := s.f1 = 0 ∨ s.f2 < 0 ∨ s.f2 > 7 ∨ IntKind.u64.wrap (s.f3.length : Int) > s.f1 ∨ ¬ (lastS s ≥ s.f0)
instance (s : Seg) : Decidable (badS s) := by unfold badS; infer_instance
def partsK (l : List Seg) : Nat → Nat → Option Int
 | 0, _ => none
 | d + 1, i => if badS (rd_T55 l i) then some 23 else if 0 < i ∧ (rd_T55 l i).f0 ≤ lastS (rd_T55 l ((i : Int) - 1)) then some 24 else partsK l d (i + 1)
def behindS (a b : Sym) : Bool := decide (b.f1 > a.f1) || (decide (b.f1 = a.f1) && Op.bytesLess a.f0.toList b.f0.toList)
def symsK (l : List Sym) : Nat → Nat → Option Int
 | 0, _ => none
 | d + 1, i => if nameB (rd_T82 l i).f0 = false then some 5 else if 0 < i ∧ behindS (rd_T82 l ((i : Int) - 1)) (rd_T82 l i) = false then some 25 else symsK l d (i + 1)
def upS (n : Int) : Int := (n + 7) / 8 * 8
def dataS (l : List Seg) : Nat → Nat → Int → Int
 | 0, _, n => n
 | d + 1, i, n => dataS l d (i + 1) (if 0 < (rd_T55 l i).f3.length then upS n + ((rd_T55 l i).f3.length : Int) else n)
def namesK (l : List Sym) : Nat → Nat → Int → Int
 | 0, _, n => n
 | d + 1, i, n => namesK l d (i + 1) (n + ((rd_T82 l i).f0.size : Int) + 1)
def sizeS (segs : List Seg) (syms : List Sym) : Int :=
 let n := dataS segs segs.length 0 (64 + 56 * segs.length)
 if syms.length = 0 then n else upS (namesK syms syms.length 0 (upS n + 24 + 24 * syms.length + 1) + 27) + 256
def restS (segs : List Seg) (syms : List Sym) : Int := (symsK syms syms.length 0).getD (if sizeS segs syms > 200000 then 3 else 0)
def checkS (e : Int) (segs : List Seg) (syms : List Sym) : Int :=
 if e % 2 = 0 then (if segs.length > 16 then 2 else if syms.length > 400 then 2 else (partsK segs segs.length 0).getD (restS segs syms)) else 22
theorem upS_le (n : Int) : n ≤ upS n ∧ upS n ≤ n + 7 := by unfold upS; omega
theorem image_up_is {n : Int} (h0 : 0 ≤ n) (h1 : n ≤ 1099511627776) : image_up.f n = some (upS n) := by
 unfold image_up.f upS
 rw [w64 (x := n + 7) (by omega) (by omega), Int.tdiv_eq_ediv_of_nonneg (by omega), w64 (x := (n + 7) / 8) (by omega) (by omega), w64 (by omega) (by omega)]
/-- What is asked of an image's lists. -/
structure Small (segs : List Seg) (syms : List Sym) : Prop where
 lsegs : segs.length ≤ 1048576
 lsyms : syms.length ≤ 1048576
 data : ∀ i, (rd_T55 segs i).f3.length ≤ 1048576
 name : ∀ i, (rd_T82 syms i).f0.size ≤ 1048576
theorem u64_small {x : Int} (h0 : 0 ≤ x) (h1 : x ≤ 18446744073709551615) : IntKind.u64.wrap x = x := by
 have h : x % 2 ^ 64 = x := by omega
 simp [IntKind.wrap, IntKind.signed, IntKind.bits]
 omega
theorem cmp_u64 (a b : Int) : cmp_Compare_uint64.f a b = some (if a < b then -1 else if a > b then 1 else 0) := by
 unfold cmp_Compare_uint64.f cmp_isNaN_uint64.f
 have e : ∀ x : Int, (x != x) = false := fun x => by simp
 simp only [e, Option.bind_some, Bool.false_eq_true, if_false]
 split
 ·rfl
 ·split <;> rfl
theorem cmp_str (a b : ByteArray) : cmp_Compare_string.f a b = some (if Op.bytesLess a.toList b.toList = true then -1 else if Op.bytesLess b.toList a.toList = true then 1 else 0) := by
 unfold cmp_Compare_string.f cmp_isNaN_string.f
 have e : ∀ x : List UInt8, (x != x) = false := fun x => by simp
 simp only [e, Option.bind_some, Bool.false_eq_true, if_false]
 split
 ·rfl
 ·split <;> rfl
theorem or_twoK (a b : Int) : Ev (fun k => cmp_Or_int.f k [a, b]) (if a = 0 then b else a) := by
 unfold cmp_Or_int.f
 by_cases ha : a = 0
 ·rw [if_pos ha]
  refine Ev.step (f := fun k => cmp_Or_int.l0 k 0 [a, b] 2 1) (fun k => ?_) ?_
  ·show cmp_Or_int.l0 (k + 1) 0 [a, b] 2 0 = _
   rw [cmp_Or_int.l0]
   simp [rd, ha, wrap64]
  ·by_cases hb : b = 0
   ·refine Ev.step (f := fun k => cmp_Or_int.l0 k 0 [a, b] 2 2) (fun k => ?_) ?_
    ·show cmp_Or_int.l0 (k + 1) 0 [a, b] 2 1 = _
     rw [cmp_Or_int.l0]
     simp [rd, hb, wrap64]
    ·refine Ev.step (f := fun k => some b) (fun k => ?_) (Ev.now _)
     show cmp_Or_int.l0 (k + 1) 0 [a, b] 2 2 = _
     rw [cmp_Or_int.l0]
     simp [hb]
   ·refine Ev.step (f := fun k => some b) (fun k => ?_) (Ev.now _)
    show cmp_Or_int.l0 (k + 1) 0 [a, b] 2 1 = _
    rw [cmp_Or_int.l0]
    simp [rd, hb]
 ·rw [if_neg ha]
  refine Ev.step (f := fun k => some a) (fun k => ?_) (Ev.now _)
  show cmp_Or_int.l0 (k + 1) 0 [a, b] 2 0 = _
  rw [cmp_Or_int.l0]
  simp [rd, ha]
theorem less_irrefl (x : List UInt8) : Op.bytesLess x x = false := by
 have h := less_total x x
 cases e : Op.bytesLess x x
 ·rfl
 ·rw [e] at h; simp at h
/-- The program's comparison says whether a name is behind another. -/
theorem compare_is (a b : Sym) : ∃ c, Ev (fun k => image_compareSyms.f k a.f0 a.f1 b.f0 b.f1) c ∧ (c ≥ 0 ↔ behindS a b = false) := by
 refine ⟨if (if a.f1 < b.f1 then (-1 : Int) else if a.f1 > b.f1 then 1 else 0) = 0 then (if Op.bytesLess a.f0.toList b.f0.toList = true then -1 else if Op.bytesLess b.f0.toList a.f0.toList = true then 1 else 0) else (if a.f1 < b.f1 then (-1 : Int) else if a.f1 > b.f1 then 1 else 0), ?_, ?_⟩
 ·unfold image_compareSyms.f
  refine Ev.bind (g := fun _ => cmp_Compare_uint64.f a.f1 b.f1) (f := fun k t118 => (cmp_Compare_string.f a.f0 b.f0).bind fun t119 => (cmp_Or_int.f k [t118, t119]).bind fun t123 => some t123) (Ev.congr (fun _ => cmp_u64 _ _) (Ev.now _)) ?_
  refine Ev.bind (g := fun _ => cmp_Compare_string.f a.f0 b.f0) (f := fun k t119 => (cmp_Or_int.f k [_, t119]).bind fun t123 => some t123) (Ev.congr (fun _ => cmp_str _ _) (Ev.now _)) ?_
  exact Ev.bind (f := fun k t123 => some t123) (or_twoK _ _) (Ev.now _)
 ·unfold behindS
  have ht := less_total a.f0.toList b.f0.toList
  by_cases h1 : a.f1 < b.f1
  ·have : b.f1 > a.f1 := h1
   simp [h1]
  ·by_cases h2 : a.f1 > b.f1
   ·have h3 : ¬ b.f1 = a.f1 := by omega
    simp [h1, h2, h3]
   ·have h3 : b.f1 = a.f1 := by omega
    have h4 : ¬ b.f1 > a.f1 := by omega
    cases e : Op.bytesLess a.f0.toList b.f0.toList
    ·cases e2 : Op.bytesLess b.f0.toList a.f0.toList <;> simp [h1, h2, h3]
    ·simp [h1, h2, h3]
set_option maxRecDepth 100000 in
theorem lay_l1 (segs : List Seg) (syms : List Sym) (H : Small segs syms) (c : syms.length ≤ 400) (dl : List Int) (tb tx se sz : Int) : ∀ (d i : Nat) (n : Int), i + d = syms.length → 0 ≤ n → n ≤ 8589934592 + i * 2097152 →
 ∃ q, Ev (fun k => image_lay.l1 k syms (syms.length : Int) (i : Int) dl tb tx n se sz) (dl, tb, tx, q, upS (namesK syms d i n + 27), upS (namesK syms d i n + 27) + 256) := by
 intro d
 induction d with
 | zero =>
  intro i n hi h0 hn
  refine ⟨n, Ev.step (f := fun _ => some (dl, tb, tx, n, upS (n + 27), upS (n + 27) + 256)) (fun k => ?_) (Ev.now _)⟩
  rw [image_lay.l1, if_neg (by omega), w64 (x := n + 27) (by omega) (by omega), image_up_is (by omega) (by omega)]
  have := upS_le (n + 27)
  simp only [Option.bind_some]
  rw [w64 (by omega) (by omega)]
 | succ d ih0 =>
  intro i n hi h0 hn
  have hs := H.name (i : Int)
  obtain ⟨q, ih⟩ := ih0 (i + 1) (n + ((rd_T82 syms i).f0.size : Int) + 1) (by omega) (by omega) (by omega)
  refine ⟨q, Ev.step (fun k => ?_) ih⟩
  rw [image_lay.l1, if_pos (by omega), if_pos (by omega), if_pos (by omega)]
  rw [w64 (x := ((rd_T82 syms i).f0.size : Int) + 1) (by omega) (by omega), w64 (x := n + _) (by omega) (by omega), w64 (x := (i : Int) + 1) (by omega) (by omega)]
  congr 1
  omega
set_option maxRecDepth 100000 in
theorem lay_l0 (e : Int) (segs : List Seg) (syms : List Sym) (H : Small segs syms) (c1 : segs.length ≤ 16) (c2 : syms.length ≤ 400) : ∀ (d i : Nat) (n : Int) (dl : List Int), i + d = segs.length → dl.length = i → 0 ≤ n → n ≤ 4294967296 + i * 2097152 →
 ∃ q, Ev (fun k => image_lay.l0 k n segs (segs.length : Int) (i : Int) e segs syms dl 0 0 0 0 0) q ∧ q.2.2.2.2.2 = (let m := dataS segs d i n; if syms.length = 0 then m else upS (namesK syms syms.length 0 (upS m + 24 + 24 * syms.length + 1) + 27) + 256) := by
 intro d
 induction d with
 | zero =>
  intro i n dl hi hdl h0 hn
  have hup := upS_le n
  by_cases hz : syms.length = 0
  ·refine ⟨(dl, 0, 0, 0, 0, n), Ev.step (f := fun _ => some (dl, 0, 0, 0, 0, n)) (fun k => ?_) (Ev.now _), ?_⟩
   ·rw [image_lay.l0, if_neg (by omega), if_neg (by omega)]
   ·simp [dataS, hz]
  ·obtain ⟨q, hq⟩ := lay_l1 segs syms H c2 dl (upS n) (upS n + 24 * ((syms.length : Int) + 1)) 0 0 syms.length 0 (upS n + 24 + 24 * syms.length + 1) (by omega) (by omega) (by omega)
   refine ⟨_, Ev.step (f := fun k => image_lay.l1 k syms (syms.length : Int) 0 dl (upS n) (upS n + 24 * ((syms.length : Int) + 1)) (upS n + 24 + 24 * syms.length + 1) 0 0) (fun k => ?_) hq, ?_⟩
   ·rw [image_lay.l0, if_neg (by omega), if_pos (by omega), image_up_is h0 (by omega)]
    simp only [Option.bind_some]
    rw [w64 (x := (syms.length : Int) + 1) (by omega) (by omega), w64 (x := 24 * ((syms.length : Int) + 1)) (by omega) (by omega), w64 (x := upS n + _) (by omega) (by omega), w64 (by omega) (by omega)]
    congr 1
    omega
   ·simp only [dataS]
    rw [if_neg hz]
 | succ d ih0 =>
  intro i n dl hi hdl h0 hn
  have hs := H.data (i : Int)
  have hup := upS_le n
  by_cases hz : (rd_T55 segs i).f3.length = 0
  ·obtain ⟨q, ih, hq⟩ := ih0 (i + 1) n (dl ++ [0]) (by omega) (by simp [hdl]) h0 (by omega)
   refine ⟨q, Ev.step (fun k => ?_) ih, ?_⟩
   ·rw [image_lay.l0, if_pos (by omega), if_pos (by omega), if_pos (by omega), if_pos (by omega), if_pos (by omega), w64 (by omega) (by omega)]
    rfl
   ·have e1 : dataS segs (d + 1) i n = dataS segs d (i + 1) n := by
     simp only [dataS]
     rw [if_neg (by omega)]
    rw [hq, e1]
  ·obtain ⟨q, ih, hq⟩ := ih0 (i + 1) (upS n + ((rd_T55 segs i).f3.length : Int)) (dl ++ [upS n]) (by omega) (by simp [hdl]) (by omega) (by omega)
   refine ⟨q, Ev.step (fun k => ?_) ih, ?_⟩
   ·rw [image_lay.l0, if_pos (by omega), if_pos (by omega), if_pos (by omega), if_neg (by omega), image_up_is h0 (by omega)]
    simp only [Option.bind_some]
    rw [if_pos (by omega), w64 (by omega) (by omega), w64 (by omega) (by omega)]
    rfl
   ·have e1 : dataS segs (d + 1) i n = dataS segs d (i + 1) (upS n + ((rd_T55 segs i).f3.length : Int)) := by
     simp only [dataS]
     rw [if_pos (by omega)]
    rw [hq, e1]
theorem lay_is (e : Int) (segs : List Seg) (syms : List Sym) (H : Small segs syms) (c1 : segs.length ≤ 16) (c2 : syms.length ≤ 400) :
 ∃ q, Ev (fun k => image_lay.f k e segs syms) q ∧ q.2.2.2.2.2 = sizeS segs syms := by
 obtain ⟨q, h, hq⟩ := lay_l0 e segs syms H c1 c2 segs.length 0 (64 + 56 * segs.length) [] (by omega) rfl (by omega) (by omega)
 refine ⟨q, Ev.congr (fun k => ?_) h, hq⟩
 unfold image_lay.f
 rw [w64 (x := 56 * (segs.length : Int)) (by omega) (by omega), w64 (by omega) (by omega)]
 rfl
theorem chk_l1 (e : Int) (segs : List Seg) (syms : List Sym) (H : Small segs syms) (c1 : segs.length ≤ 16) (c2 : syms.length ≤ 400) : ∀ (d i : Nat), i + d = syms.length →
 Ev (fun k => image_Check.l1 k syms (syms.length : Int) (i : Int) e segs syms) ((symsK syms d i).getD (if sizeS segs syms > 200000 then 3 else 0)) := by
 intro d
 induction d with
 | zero =>
  intro i hi
  obtain ⟨q, hq, hs⟩ := lay_is e segs syms H c1 c2
  refine Ev.step (f := fun k => (image_lay.f k e segs syms).bind fun bt => (if bt.2.2.2.2.2 > 200000 then (some 3) else (some 0))) (fun k => ?_) (Ev.bind (f := fun _ bt => (if bt.2.2.2.2.2 > 200000 then (some 3) else (some 0))) hq ?_)
  ·rw [image_Check.l1, if_neg (by omega)]
  ·rw [hs]
   simp only [symsK, Option.getD_none]
   split <;> exact Ev.now _
 | succ d ih =>
  intro i hi
  have hn := H.name (i : Int)
  have hnm : image_isName.f ((rd_T82 syms (i : Int)).f0) = some (nameB ((rd_T82 syms (i : Int)).f0)) := by
   unfold image_isName.f
   rw [if_pos (by omega)]
  cases hb : nameB ((rd_T82 syms (i : Int)).f0)
  ·refine Ev.step (f := fun _ => some 5) (fun k => ?_) ?_
   ·rw [image_Check.l1, if_pos (by omega), if_pos (by omega), if_pos (by omega), hnm, hb]
    rfl
   ·simp only [symsK, hb, if_true, Option.getD_some]
    exact Ev.now _
  ·by_cases hi0 : 0 < i
   ·obtain ⟨c, hc, hcb⟩ := compare_is (rd_T82 syms ((i : Int) - 1)) (rd_T82 syms (i : Int))
    refine Ev.step (f := fun k => (image_compareSyms.f k (rd_T82 syms ((i : Int) - 1)).f0 (rd_T82 syms ((i : Int) - 1)).f1 (rd_T82 syms (i : Int)).f0 (rd_T82 syms (i : Int)).f1).bind fun t => (if t ≥ 0 then (some 25) else (image_Check.l1 k syms (syms.length : Int) ((i + 1 : Nat) : Int) e segs syms))) (fun k => ?_) (Ev.bind (f := fun k t => (if t ≥ 0 then (some 25) else (image_Check.l1 k syms (syms.length : Int) ((i + 1 : Nat) : Int) e segs syms))) hc ?_)
    ·rw [image_Check.l1, if_pos (by omega), if_pos (by omega), if_pos (by omega), hnm, hb]
     simp only [Option.bind_some, if_true]
     rw [if_pos (by omega), w64 (x := (i : Int) - 1) (by omega) (by omega), if_pos (by omega), if_pos (by omega), w64 (x := (i : Int) + 1) (by omega) (by omega)]
     rfl
    ·simp only [symsK, hb, Bool.true_eq_false, if_false]
     by_cases h : c ≥ 0
     ·rw [if_pos ⟨hi0, hcb.1 h⟩]
      exact Ev.congr (fun k => if_pos h) (Ev.now _)
     ·rw [if_neg (fun z => h (hcb.2 z.2))]
      exact Ev.congr (fun k => if_neg h) (ih (i + 1) (by omega))
   ·refine Ev.step (f := fun k => image_Check.l1 k syms (syms.length : Int) ((i + 1 : Nat) : Int) e segs syms) (fun k => ?_) ?_
    ·rw [image_Check.l1, if_pos (by omega), if_pos (by omega), if_pos (by omega), hnm, hb]
     simp only [Option.bind_some, if_true]
     rw [if_neg (by omega), w64 (x := (i : Int) + 1) (by omega) (by omega)]
     rfl
    ·simp only [symsK, hb, Bool.true_eq_false, if_false]
     rw [if_neg (fun z => hi0 z.1)]
     exact ih (i + 1) (by omega)
theorem chk_l0 (e : Int) (segs : List Seg) (syms : List Sym) (H : Small segs syms) (c1 : segs.length ≤ 16) (c2 : syms.length ≤ 400) : ∀ (d i : Nat), i + d = segs.length →
 Ev (fun k => image_Check.l0 k segs (segs.length : Int) (i : Int) e segs syms) ((partsK segs d i).getD (restS segs syms)) := by
 intro d
 induction d with
 | zero =>
  intro i hi
  refine Ev.step (f := fun k => image_Check.l1 k syms (syms.length : Int) 0 e segs syms) (fun k => ?_) ?_
  ·rw [image_Check.l0, if_neg (by omega)]
  ·exact chk_l1 e segs syms H c1 c2 syms.length 0 (by omega)
 | succ d ih =>
  intro i hi
  have hd := H.data (i : Int)
  have bad : ∀ a b c x, Ev (fun k => image_Check.j1 k (i : Int) segs (segs.length : Int) (i : Int) true e segs syms a b c x) 23 := fun a b c x =>
   Ev.step (f := fun _ => some 23) (fun k => by rw [image_Check.j1, if_pos rfl]) (Ev.now _)
  have good : ∀ b c x, Ev (fun k => image_Check.j1 k (i : Int) segs (segs.length : Int) (i : Int) false e segs syms (rd_T55 segs (i : Int)).f0 b c x) ((if 0 < i ∧ (rd_T55 segs (i : Int)).f0 ≤ lastS (rd_T55 segs ((i : Int) - 1)) then some 24 else partsK segs d (i + 1)).getD (restS segs syms)) := by
   intro b c x
   by_cases hi0 : 0 < i
   ·by_cases hl : (rd_T55 segs (i : Int)).f0 ≤ lastS (rd_T55 segs ((i : Int) - 1))
    ·rw [if_pos ⟨hi0, hl⟩]
     refine Ev.step (f := fun _ => some 24) (fun k => ?_) (Ev.now _)
     rw [image_Check.j1, if_neg (by simp), if_pos (by omega), w64 (x := (i : Int) - 1) (by omega) (by omega), if_pos (by omega), if_pos (by omega)]
     exact if_pos hl
    ·rw [if_neg (fun z => hl z.2)]
     refine Ev.step (f := fun k => image_Check.l0 k segs (segs.length : Int) ((i + 1 : Nat) : Int) e segs syms) (fun k => ?_) (ih (i + 1) (by omega))
     rw [image_Check.j1, if_neg (by simp), if_pos (by omega), w64 (x := (i : Int) - 1) (by omega) (by omega), if_pos (by omega), if_pos (by omega), w64 (x := (i : Int) + 1) (by omega) (by omega)]
     exact if_neg hl
   ·rw [if_neg (fun z => hi0 z.1)]
    refine Ev.step (f := fun k => image_Check.l0 k segs (segs.length : Int) ((i + 1 : Nat) : Int) e segs syms) (fun k => ?_) (ih (i + 1) (by omega))
    rw [image_Check.j1, if_neg (by simp), if_neg (by omega), w64 (x := (i : Int) + 1) (by omega) (by omega)]
    rfl
  have hu : IntKind.u64.wrap (((rd_T55 segs (i : Int)).f3.length : Int)) = ((rd_T55 segs (i : Int)).f3.length : Int) := u64_small (by omega) (by omega)
  by_cases hbad : badS (rd_T55 segs (i : Int))
  ·simp only [partsK, hbad, if_true, Option.getD_some]
   by_cases h1 : (rd_T55 segs (i : Int)).f1 = 0
   ·refine Ev.step (fun k => ?_) (bad (rd_T55 segs (i : Int)).f0 (rd_T55 segs (i : Int)).f1 (rd_T55 segs (i : Int)).f2 (rd_T55 segs (i : Int)).f3)
    rw [image_Check.l0, if_pos (by omega), if_pos (by omega), if_pos (by omega), if_pos h1]
   ·by_cases h2 : (rd_T55 segs (i : Int)).f2 < 0
    ·refine Ev.step (fun k => ?_) (bad (rd_T55 segs (i : Int)).f0 (rd_T55 segs (i : Int)).f1 (rd_T55 segs (i : Int)).f2 (rd_T55 segs (i : Int)).f3)
     rw [image_Check.l0, if_pos (by omega), if_pos (by omega), if_pos (by omega), if_neg h1, if_pos h2]
    ·by_cases h3 : (rd_T55 segs (i : Int)).f2 > 7
     ·refine Ev.step (fun k => ?_) (bad (rd_T55 segs (i : Int)).f0 (rd_T55 segs (i : Int)).f1 (rd_T55 segs (i : Int)).f2 (rd_T55 segs (i : Int)).f3)
      rw [image_Check.l0, if_pos (by omega), if_pos (by omega), if_pos (by omega), if_neg h1, if_neg h2, if_pos h3]
     ·by_cases h4 : IntKind.u64.wrap (((rd_T55 segs (i : Int)).f3.length : Int)) > (rd_T55 segs (i : Int)).f1
      ·refine Ev.step (fun k => ?_) (bad (rd_T55 segs (i : Int)).f0 (rd_T55 segs (i : Int)).f1 (rd_T55 segs (i : Int)).f2 (rd_T55 segs (i : Int)).f3)
       rw [image_Check.l0, if_pos (by omega), if_pos (by omega), if_pos (by omega), if_neg h1, if_neg h2, if_neg h3, if_pos h4]
      ·have h5 : ¬ (lastS (rd_T55 segs (i : Int)) ≥ (rd_T55 segs (i : Int)).f0) := by
        unfold badS at hbad
        simp only [h1, h2, h3, h4, false_or] at hbad
        exact hbad
       refine Ev.step (fun k => ?_) (bad (rd_T55 segs (i : Int)).f0 (rd_T55 segs (i : Int)).f1 (rd_T55 segs (i : Int)).f2 (rd_T55 segs (i : Int)).f3)
       rw [image_Check.l0, if_pos (by omega), if_pos (by omega), if_pos (by omega), if_neg h1, if_neg h2, if_neg h3, if_neg h4]
       unfold image_fits.f
       rw [Option.bind_some, (decide_eq_false h5 : decide (IntKind.u64.wrap ((rd_T55 segs (i : Int)).f0 + IntKind.u64.wrap ((rd_T55 segs (i : Int)).f1 - 1)) ≥ (rd_T55 segs (i : Int)).f0) = false)]
       rfl
  ·simp only [partsK, hbad, if_false]
   have hb2 := hbad
   unfold badS at hb2
   simp only [not_or, Decidable.not_not] at hb2
   obtain ⟨h1, h2, h3, h4, h5⟩ := hb2
   refine Ev.step (fun k => ?_) (good (rd_T55 segs (i : Int)).f1 (rd_T55 segs (i : Int)).f2 (rd_T55 segs (i : Int)).f3)
   rw [image_Check.l0, if_pos (by omega), if_pos (by omega), if_pos (by omega), if_neg h1, if_neg h2, if_neg h3, if_neg h4]
   unfold image_fits.f
   rw [Option.bind_some, (decide_eq_true h5 : decide (IntKind.u64.wrap ((rd_T55 segs (i : Int)).f0 + IntKind.u64.wrap ((rd_T55 segs (i : Int)).f1 - 1)) ≥ (rd_T55 segs (i : Int)).f0) = true)]
   rfl
theorem chkK (e : Int) (h0 : 0 ≤ e) (segs : List Seg) (syms : List Sym) (H : Small segs syms) : Ev (fun k => image_Check.f k e segs syms) (checkS e segs syms) := by
 have ht : e.tmod 2 = e % 2 := Int.tmod_eq_emod_of_nonneg h0
 unfold checkS
 by_cases h1 : e % 2 = 0
 ·rw [if_pos h1]
  by_cases h2 : segs.length > 16
  ·rw [if_pos h2]
   exact Ev.congr (fun k => by unfold image_Check.f; rw [ht, if_pos h1, if_pos (by omega)]) (Ev.now _)
  ·rw [if_neg h2]
   by_cases h3 : syms.length > 400
   ·rw [if_pos h3]
    exact Ev.congr (fun k => by unfold image_Check.f; rw [ht, if_pos h1, if_neg (by omega), if_pos (by omega)]) (Ev.now _)
   ·rw [if_neg h3]
    exact Ev.congr (fun k => by unfold image_Check.f; rw [ht, if_pos h1, if_neg (by omega), if_neg (by omega)]; rfl) (chk_l0 e segs syms H (by omega) (by omega) segs.length 0 (by omega))
 ·rw [if_neg h1]
  exact Ev.congr (fun k => by unfold image_Check.f; rw [ht, if_neg h1]) (Ev.now _)
theorem partsS_ne (l : List Seg) : ∀ d i, partsK l d i ≠ some 0
 | 0, i => by simp [partsK]
 | d + 1, i => by
  simp only [partsK]
  split
  ·simp
  ·split
   ·simp
   ·exact partsS_ne l d (i + 1)
theorem twin_l0 (e : Int) (segs : List Seg) (syms : List Sym) (H : Small segs syms) : ∀ (d i : Nat), i + d = segs.length →
 Ev (fun k => anvillaw02_twin.l0 k (i : Int) e segs syms e (segs.take i)) (e, segs, syms) := by
 have hl1 := H.lsegs
 have hl2 := H.lsyms
 intro d
 induction d with
 | zero =>
  intro i hi
  refine Ev.step (f := fun _ => some (e, segs, syms)) (fun k => ?_) (Ev.now _)
  rw [anvillaw02_twin.l0, if_neg (by omega), if_pos (by simp only [List.length_nil]; omega), List.take_of_length_le (by omega)]
  rfl
 | succ d ih =>
  intro i hi
  have hd := H.data (i : Int)
  refine Ev.step (fun k => ?_) (ih (i + 1) (by omega))
  rw [anvillaw02_twin.l0, if_pos (by omega), if_pos (by omega)]
  simp only [Option.bind_some, List.length_nil, List.nil_append]
  rw [if_pos (by omega), if_pos (by rw [List.length_take]; omega), w64 (x := (i : Int) + 1) (by omega) (by omega)]
  have hs : rd_T55 segs (i : Int) = segs[i]'(by omega) := by
   unfold rd_T55
   rw [Int.toNat_natCast, List.getD_eq_getElem?_getD, List.getElem?_eq_getElem (by omega)]
   rfl
  have e1 : segs.take (i + 1) = segs.take i ++ [rd_T55 segs (i : Int)] := by
   rw [hs]
   exact List.take_succ_eq_append_getElem (by omega)
  rw [e1]
  rfl
theorem twin_is (e : Int) (segs : List Seg) (syms : List Sym) (H : Small segs syms) : Ev (fun k => anvillaw02_twin.f k e segs syms) (e, segs, syms) :=
 twin_l0 e segs syms H segs.length 0 (by omega)
end Go.Proofs.YtbnlifldnjgpmaaGreatDoor.PWri
/- The writer's put: so many bytes of each number, the lowest first, from the writer's place on; all but the writer and its bytes stays. -/
set_option linter.unusedVariables false
set_option linter.unusedSimpArgs false
namespace Go.Proofs.YtbnlifldnjgpmaaGreatDoor
open Go.RowKit Go.Lib Go.Proofs.YtbnlifldnjgpmaaGreatDoorW.PrintWords
/-- What a call keeps: all but the blocks of S and what is new; the streams and the tape stay. -/
def Kp (w W : World) (S : Nat → Prop) : Prop := Kept w W S ∧ Below 0 w W
theorem Kp.refl (w : World) (S : Nat → Prop) : Kp w w S := ⟨Kept.refl w S, Below.refl _ _⟩
theorem Kp.then_ {w W W2 : World} {S S2 : Nat → Prop} (h : Kp w W S) (k : Kp W W2 S2) (hs : ∀ k, S2 k → S k ∨ w.heap.size ≤ k) : Kp w W2 S := ⟨h.1.then_ k.1 hs, h.2.trans k.2⟩
theorem Kp.alloc {w W : World} {S : Nat → Prop} (h : Kp w W S) (o : Obj) : Kp w (W.alloc o) S := ⟨h.1.alloc o, h.2.alloc (Nat.zero_le _) o⟩
theorem Kp.drew {w W : World} {S : Nat → Prop} (h : Kp w W S) : Kp w W.drew S := ⟨h.1.drew, h.2.drew⟩
theorem Kp.setCell {w W : World} {S : Nat → Prop} (h : Kp w W S) {p : Addr} (hp : S p.block ∨ w.heap.size ≤ p.block) (u : Value) : Kp w (W.setCell p u) S := ⟨h.1.setCell hp u, h.2.setCell (Nat.zero_le _) u⟩
theorem Kp.of_below {w W : World} (h : Below w.heap.size w W) (S : Nat → Prop) : Kp w W S := ⟨Kept.of_below h S, h.mono (Nat.zero_le _)⟩
theorem Kp.below {w W : World} {S : Nat → Prop} (h : Kp w W S) (hS : ∀ k, S k → w.heap.size ≤ k) : Below w.heap.size w W :=
 ⟨h.2.os, h.2.tape, h.2.output, h.2.size, fun k hk => h.1.2 k hk (fun hs => by have := hS k hs; omega)⟩
theorem blk_kp {W W2 : World} {S : Nat → Prop} {g : Nat} {o : Obj} (hb : W.heap[g]? = some o) (hk : Kp W W2 S) (hne : ¬ S g) : W2.heap[g]? = some o := blk_kept hb hk.1 hne
theorem cell_kp {W W2 : World} {S : Nat → Prop} {a : Addr} {v : Value} (hc : W.cell? a = some v) (hk : Kp W W2 S) (hne : ¬ S a.block) : W2.cell? a = some v := cell_kept hc hk.1 hne
def u8v (z : Int) : Value := .int .u8 z
/-- The writer at block g, its bytes L at block bb, its place. -/
structure WIs (w : World) (g bb place : Nat) (L : List Int) : Prop where
 wr : w.heap[g]? = some (.cells #[.slice (some ⟨bb, 0, none⟩) L.length L.length, .int .i64 place] 91 (0, 0))
 by_ : w.heap[bb]? = some (.cells (L.map u8v).toArray 5 (0, 0))
def le : Nat → Int → List Int
 | 0, _ => []
 | s + 1, v => (v % 256) :: le s (v / 256)
theorem le_length : ∀ s v, (le s v).length = s
 | 0, _ => rfl
 | s + 1, v => by simp [le, le_length s]
def putL (size : Nat) (l : List Int) : List Int := l.flatMap (le size)
theorem u8v_one (z : Int) : (u8v z).oneCell' = true := rfl
/-- One byte at the place, the place one further. -/
theorem WIs.step {w : World} {g bb : Nat} {D Z : List Int} {z x : Int} (h : WIs w g bb D.length (D ++ z :: Z)) (hne : g ≠ bb) :
 WIs ((w.setCell ⟨bb, D.length, none⟩ (u8v x)).setCell ⟨g, 1, none⟩ (.int .i64 ((D.length : Int) + 1))) g bb (D ++ [x]).length ((D ++ [x]) ++ Z) := by
 have hlen : ((D ++ [x]) ++ Z).length = (D ++ z :: Z).length := by simp
 refine ⟨?_, ?_⟩
 ·have h1 := blk_far h.wr (p := ⟨bb, D.length, none⟩) hne (u8v x)
  have h2 := blk_set h1 1 (.int .i64 ((D.length : Int) + 1))
  rw [h2, hlen]
  simp
 ·have h1 := blk_set h.by_ D.length (u8v x)
  have h2 := blk_far h1 (p := ⟨g, 1, none⟩) (Ne.symm hne) (.int .i64 ((D.length : Int) + 1))
  rw [h2]
  simp
abbrev S2 (g bb : Nat) (k : Nat) : Prop := k = g ∨ k = bb
set_option maxHeartbeats 16000000 in
set_option maxRecDepth 1000000 in
theorem put_c (g bb size c : Nat) (A : Option Addr) (l : List Int) (D Z : List Int) (w : World) (hW : WIs w g bb D.length (D ++ Z)) (hne : g ≠ bb) (hn : (D ++ Z).length < 4611686018427387904)
 (hl : Kd.C (Kd.int .u64) w A l.length l) (hc : l.length ≤ c) (hA : ∀ ad, A = some ad → ad.block ≠ g ∧ ad.block ≠ bb) (hfit : (putL size l).length ≤ Z.length) (hsz : size ≤ 8) :
 Calls Tryz.prog 46 #[.pointer (some ⟨g, 0, none⟩), .int .i64 (size : Int), .slice A l.length c] w fun e w' =>
  e = .returned (.tuple #[]) ∧ WIs w' g bb (D ++ putL size l).length ((D ++ putL size l) ++ Z.drop (putL size l).length) ∧ Kp w w' (S2 g bb) := by
 have hll : l.length ≤ 9223372036854775807 := hl.2.1
 have mixed : Tryz.prog.follows Departure.mixedOrders = true := by kernel_rfl
 have HL := Lib.hid hl
 have HA := Lib.hid hA
 have HW := Lib.hid hW
 have HF := Lib.hid hfit
 clear hl hA hW hfit
 go_enter Tryz.func46, Tryz.ntmps46
 go_wp2
 go_loopw [10] (fun vj wx => ∃ (j : Nat) (D1 Z1 : List Int), vj = .int .i64 (j : Int) ∧ j ≤ l.length ∧ Hid (WIs wx g bb D1.length (D1 ++ Z1)) ∧ Hid (Kp w wx (S2 g bb)) ∧
  Hid (D1 ++ putL size (l.drop j) = D ++ putL size l ∧ Z1.drop (putL size (l.drop j)).length = Z.drop (putL size l).length ∧ (putL size (l.drop j)).length ≤ Z1.length ∧ (D1 ++ Z1).length = (D ++ Z).length)) (fun vj _ => l.length - (RowKit.intOf vj).toNat)
 case atStart => exact ⟨0, D, Z, rfl, Nat.zero_le _, HW, Lib.hid (Kp.refl _ _), Lib.hid ⟨rfl, rfl, HF.out, rfl⟩⟩
 case round =>
  obtain ⟨j, D1, Z1, rfl, hj, HW1, HK1, HX1⟩ := hrel
  by_cases hjl : j < l.length
  ·obtain ⟨ad, eA, hcell⟩ := Kd.at_int HL.out (j : Int) (by omega) (by omega)
   obtain ⟨v0, hv0⟩ : ∃ v0, l[j]'hjl = v0 := ⟨_, rfl⟩
   have hrd : rd l (j : Int) = v0 := by
    unfold rd
    rw [Int.toNat_natCast, List.getD_eq_getElem?_getD, List.getElem?_eq_getElem hjl, hv0]
    rfl
   rw [hrd, Int.toNat_natCast] at hcell
   subst eA
   have hne2 := HA.out ad rfl
   have hcw := cell_kp hcell HK1.out (by rw [add_block]; rintro (h | h); exact hne2.1 h; exact hne2.2 h)
   have hdr : l.drop j = v0 :: l.drop (j + 1) := by rw [← hv0]; exact List.drop_eq_getElem_cons hjl
   obtain ⟨R, hR⟩ : ∃ R, putL size (l.drop (j + 1)) = R := ⟨_, rfl⟩
   have hX := HX1.out
   rw [hdr, show putL size (v0 :: l.drop (j + 1)) = le size v0 ++ putL size (l.drop (j + 1)) from rfl, hR] at hX
   have HX := Lib.hid hX
   have HR := Lib.hid hR
   clear hX hdr hR hrd hv0 hcell HX1 hne2
   go_wp2
   go_loopw [15, 7] (fun vi vv wx => ∃ (i : Nat) (v : Int) (D2 Z2 : List Int), vi = .int .i64 (i : Int) ∧ vv = .int .u64 v ∧ i ≤ size ∧ Hid (WIs wx g bb D2.length (D2 ++ Z2)) ∧ Hid (Kp w wx (S2 g bb)) ∧
    Hid (D2 ++ le (size - i) v = D1 ++ le size v0 ∧ Z2.drop (size - i) = Z1.drop size ∧ size - i ≤ Z2.length ∧ (D2 ++ Z2).length = (D1 ++ Z1).length)) (fun vi _ _ => size - (RowKit.intOf vi).toNat)
   case atStart =>
    have h3 := HX.out.2.2.1
    rw [List.length_append, le_length] at h3
    exact ⟨0, v0, D1, Z1, rfl, rfl, Nat.zero_le _, HW1, HK1, Lib.hid ⟨rfl, rfl, by omega, rfl⟩⟩
   case round =>
    obtain ⟨i, v, D2, Z2, rfl, rfl, hi, HW2, HK2, HX2⟩ := hrel
    by_cases his : i < size
    ·obtain ⟨z, Z3, rfl⟩ : ∃ z Z3, Z2 = z :: Z3 := by
      have := HX2.out.2.2.1
      match Z2, this with
      | z :: Z3, _ => exact ⟨z, Z3, rfl⟩
      | [], h => simp at h; omega
     have hW2 := HW2.out
     have hs := Lib.hid (hW2.step (x := v % 256) hne)
     obtain ⟨P, hP⟩ : ∃ P, D2.length = P := ⟨_, rfl⟩
     obtain ⟨N, hN⟩ : ∃ N, (D2 ++ z :: Z3).length = N := ⟨_, rfl⟩
     have hPN : P < N := by rw [← hP, ← hN]; simp
     have hN2 : N < 4611686018427387904 := by rw [← hN, HX2.out.2.2.2, HX.out.2.2.2]; exact hn
     have c0 := kCe hW2.wr 0
     have c1 := kCe hW2.wr 1
     have f1 := kFr hW2.wr 1
     have cb := kCe hW2.by_ P
     have fb := kFr hW2.by_ P
     rw [hN, hP] at c1
     rw [hN] at c0
     have cb2 : wr.cell? ⟨bb, P, none⟩ = some (u8v z) := by
      rw [cb, ← hP]
      simp
     have d0 : wr.cell? ⟨g, 0, none⟩ = some (.slice (some ⟨bb, 0, none⟩) N N) := c0
     have d1 : wr.cell? ⟨g, 1, none⟩ = some (.int .i64 (P : Int)) := by rw [c1, ← hP]; rfl
     have e256 : IntKind.u8.wrap v = v % 256 := IntKind.wrap_u8 v
     obtain ⟨x, hx⟩ : ∃ x : Int, v % 256 = x := ⟨_, rfl⟩
     rw [hx] at e256 hs
     have HE := Lib.hid hx
     have HPP := Lib.hid hP
     have HNN := Lib.hid hN
     have hg1 : ∀ y, (wr.setCell ⟨bb, P, none⟩ y).drew.cell? ⟨g, 1, none⟩ = some (.int .i64 (P : Int)) := fun y => by
      have h1 := kCe (blk_far hW2.wr (p := ⟨bb, P, none⟩) hne y) 1
      rw [hP] at h1
      exact h1
     have hgf : ∀ y, (wr.setCell ⟨bb, P, none⟩ y).drew.frozen? ⟨g, 1, none⟩ = false := fun y => kFr (blk_far hW2.wr (p := ⟨bb, P, none⟩) hne y) 1
     clear c0 c1 cb hx hP hN hW2
     unfold u8v at cb2
     go_wp2
     go_region_o
     go_wp2
     have hsi : size - i = (size - (i + 1)) + 1 := by omega
     have hX2 := HX2.out
     rw [hsi, le, HE.out] at hX2
     obtain ⟨g1, g2, g3, g4⟩ := hX2
     have hs2 := hs.out
     rw [HPP.out] at hs2
     refine ⟨⟨i + 1, v / 256, D2 ++ [x], Z3, by simp, rfl, by omega, Lib.hid ⟨hs2.wr, hs2.by_⟩, Lib.hid (((HK2.out.setCell (p := ⟨bb, P, none⟩) (.inl (.inr rfl)) _).setCell (p := ⟨g, 1, none⟩) (.inl (.inl rfl)) _).drew), Lib.hid ⟨by simpa using g1, by simpa using g2, by simp at g3; omega, by simp at g4 ⊢; omega⟩⟩, by simp [RowKit.intOf]; omega⟩
    ·have hie : i = size := by omega
     subst hie
     have hX2 := HX2.out
     simp only [Nat.sub_self, le, List.append_nil, List.drop_zero] at hX2
     obtain ⟨rfl, rfl, _, g4⟩ := hX2
     clear HX2
     go_wp2
     have hX := HX.out
     have hR := HR.out
     rw [List.length_append, le_length] at hX
     refine ⟨⟨j + 1, _, _, by simp, by omega, HW2, HK2, Lib.hid ⟨by rw [hR, List.append_assoc]; exact hX.1, by rw [hR, List.drop_drop]; exact hX.2.1, by rw [hR, List.length_drop]; omega, g4.trans hX.2.2.2⟩⟩, by simp [RowKit.intOf]; omega⟩
  ·have hje : j = l.length := by omega
   subst hje
   have hx := HX1.out
   rw [List.drop_length] at hx
   simp only [putL, List.flatMap_nil, List.append_nil, List.length_nil, List.drop_zero] at hx
   obtain ⟨rfl, rfl, _, _⟩ := hx
   clear HX1
   go_wp2
   go_end0
   exact ⟨rfl, HW1.out, HK1.out⟩
end Go.Proofs.YtbnlifldnjgpmaaGreatDoor
/- The writer's text: a string's bytes from the writer's place on; all but the writer and its bytes stays. -/
set_option linter.unusedVariables false
set_option linter.unusedSimpArgs false
namespace Go.Proofs.YtbnlifldnjgpmaaGreatDoor
open Go.RowKit Go.Lib Go.Proofs.YtbnlifldnjgpmaaGreatDoorW.PrintWords
def strL (s : ByteArray) : List Int := s.data.toList.map fun b => (b.toNat : Int)
set_option maxHeartbeats 16000000 in
set_option maxRecDepth 1000000 in
theorem text_c (g bb : Nat) (s : ByteArray) (D Z : List Int) (w : World) (hW : WIs w g bb D.length (D ++ Z)) (hne : g ≠ bb) (hn : (D ++ Z).length < 4611686018427387904) (hfit : s.size ≤ Z.length) (hpos : 0 < s.size) :
 Calls Tryz.prog 45 #[.pointer (some ⟨g, 0, none⟩), .string s] w fun e w' =>
  e = .returned (.tuple #[]) ∧ WIs w' g bb (D ++ strL s).length ((D ++ strL s) ++ Z.drop s.size) ∧ Kp w w' (S2 g bb) := by
 have mixed : Tryz.prog.follows Departure.mixedOrders = true := by kernel_rfl
 obtain ⟨P, hP⟩ : ∃ P, D.length = P := ⟨_, rfl⟩
 obtain ⟨N, hN⟩ : ∃ N, (D ++ Z).length = N := ⟨_, rfl⟩
 have hPN : P ≤ N := by rw [← hP, ← hN]; simp
 have hN2 : N < 4611686018427387904 := by rw [← hN]; exact hn
 have d0 : w.cell? ⟨g, 0, none⟩ = some (.slice (some ⟨bb, 0, none⟩) N N) := by
  have := kCe hW.wr 0
  rw [hN] at this
  exact this
 have d1 : w.cell? ⟨g, 1, none⟩ = some (.int .i64 (P : Int)) := by
  have := kCe hW.wr 1
  rw [hP] at this
  exact this
 have f1 := kFr hW.wr 1
 have hzl : D.length + Z.length = N := by rw [← hN]; simp
 have hnp : ¬ N = P := by omega
 have hcur := hW.by_
 obtain ⟨W2, hW2⟩ : ∃ W2, w.drew.setRow bb (((D ++ Z).map u8v).take P ++ byteCells s.data.toList ++ ((D ++ Z).map u8v).drop (P + s.size)).toArray = W2 := ⟨_, rfl⟩
 have hcopy : (Builtin.copy_ #[22, 9] 3 #[.slice (some ⟨bb, P, none⟩) (N - P) (N - P), .string s]).run Tryz.prog w.drew = .ok (.int .i64 (s.size : Int)) W2 := by
  rw [← hW2]
  exact run_copy_row_string w.drew 22 9 3 5 bb P (N - P) (N - P) s _ 5 Tryz.underlying22 (by kernel_rfl) hcur (by omega) (by simp; omega)
 have hWg : W2.heap[g]? = w.heap[g]? := by
  rw [← hW2]
  exact setRow_other _ _ _ _ (by exact hne)
 have c2 : W2.cell? ⟨g, 1, none⟩ = some (.int .i64 (P : Int)) := by
  have := kCe (hWg.trans hW.wr) 1
  rw [hP] at this
  exact this
 have f2 : W2.frozen? ⟨g, 1, none⟩ = false := kFr (hWg.trans hW.wr) 1
 have HW := Lib.hid hW
 have HW2 := Lib.hid hW2
 clear hW hWg hcur hW2
 go_enter Tryz.func45, Tryz.ntmps45
 go_wp2
 go_region_o
 go_end0
 have hl' : ((D ++ strL s) ++ Z.drop s.size).length = N := by
  have h1 : (strL s).length = s.size := by unfold strL; rw [List.length_map, ← Lib.size_eq]
  rw [List.length_append, List.length_append, h1, List.length_drop]
  omega
 have hpl : (D ++ strL s).length = P + s.size := by
  have h1 : (strL s).length = s.size := by unfold strL; rw [List.length_map, ← Lib.size_eq]
  rw [List.length_append, h1, hP]
 have hwg : W2.heap[g]? = some (.cells #[.slice (some ⟨bb, 0, none⟩) N N, .int .i64 (P : Int)] 91 (0, 0)) := by
  rw [← HW2.out, setRow_other _ _ _ _ hne]
  have := HW.out.wr
  rw [hN, hP] at this
  exact this
 have hwb : W2.heap[bb]? = some (.cells ((((D ++ strL s) ++ Z.drop s.size)).map u8v).toArray 5 (0, 0)) := by
  rw [← HW2.out, setRow_heap w.drew bb _ _ 5 _ HW.out.by_]
  congr 3
  rw [List.map_append, List.map_append, List.map_append, ← hP, List.take_append_of_le_length (by simp), List.take_of_length_le (by simp), List.drop_append]
  rw [List.drop_eq_nil_of_le (by simp), List.nil_append]
  simp [strL, byteCells, u8v, Function.comp_def]
 refine ⟨rfl, ⟨?_, ?_⟩, ?_⟩
 ·have := blk_set hwg 1 (.int .i64 ((P : Int) + (s.size : Int)))
  rw [this, hl', hpl]
  simp
 ·exact blk_far hwb (p := ⟨g, 1, none⟩) (Ne.symm hne) _
 ·refine Kp.setCell ?_ (p := ⟨g, 1, none⟩) (.inl (.inl rfl)) _
  refine ⟨⟨by rw [← HW2.out]; simp, fun k hk hn2 => ?_⟩, ⟨by rw [← HW2.out]; rfl, by rw [← HW2.out]; rfl, by rw [← HW2.out]; rfl, by rw [← HW2.out]; simp, fun k hk => by omega⟩⟩
  rw [← HW2.out, setRow_other _ _ _ _ (fun e => hn2 (.inr e))]
  rfl
end Go.Proofs.YtbnlifldnjgpmaaGreatDoor
/- The writer's put and text at a place of its bytes: what stands there is replaced; with the literal of numbers that a call builds. -/
set_option linter.unusedVariables false
set_option linter.unusedSimpArgs false
namespace Go.Proofs.YtbnlifldnjgpmaaGreatDoor
open Go.RowKit Go.Lib Go.Proofs.YtbnlifldnjgpmaaGreatDoorW.PrintWords
/-- The bytes b laid over L from place p on. -/
def putAt (L : List Int) (p : Nat) (b : List Int) : List Int := L.take p ++ b ++ L.drop (p + b.length)
theorem putAt_length {L b : List Int} {p : Nat} (h : p + b.length ≤ L.length) : (putAt L p b).length = L.length := by
 unfold putAt
 rw [List.length_append, List.length_append, List.length_take, List.length_drop]
 omega
theorem putL_length (size : Nat) : ∀ l : List Int, (putL size l).length = size * l.length
 | [] => rfl
 | v :: l => by
  show (le size v ++ putL size l).length = _
  rw [List.length_append, le_length, putL_length size l, List.length_cons, Nat.mul_succ]
  omega
theorem WIs.alloc {w : World} {g bb p : Nat} {L : List Int} (h : WIs w g bb p L) (o : Obj) : WIs (w.alloc o) g bb p L := ⟨kAl h.wr o, kAl h.by_ o⟩
theorem WIs.drewN {w : World} {g bb p : Nat} {L : List Int} (h : WIs w g bb p L) (n : Nat) : WIs (w.drewN n) g bb p L := ⟨h.wr, h.by_⟩
theorem WIs.far {w : World} {g bb p : Nat} {L : List Int} (h : WIs w g bb p L) {a : Addr} (h1 : g ≠ a.block) (h2 : bb ≠ a.block) (u : Value) : WIs (w.setCell a u) g bb p L := ⟨blk_far h.wr h1 u, blk_far h.by_ h2 u⟩
/-- The place is set. -/
theorem WIs.at_ {w : World} {g bb p : Nat} {L : List Int} (h : WIs w g bb p L) (hne : g ≠ bb) (q : Nat) : WIs (w.setCell ⟨g, 1, none⟩ (.int .i64 (q : Int))) g bb q L :=
 ⟨by have := blk_set h.wr 1 (.int .i64 (q : Int)); rw [this]; simp, blk_far h.by_ (p := ⟨g, 1, none⟩) (Ne.symm hne) _⟩
theorem C_lit (w : World) (l : List Int) (h : l.length ≤ 9223372036854775807) : Kd.C (Kd.int .u64) (w.alloc (.cells (l.map (Value.int .u64)).toArray 24)) (some ⟨w.heap.size, 0, none⟩) l.length l :=
 ⟨rfl, h, fun _ => ⟨_, rfl, fun j p hp => ⟨[.int .u64 p], rfl, rfl, fun i u hu => by
  match i, hu with
  | 0, hu =>
   simp at hu
   subst hu
   have e : Addr.add ⟨w.heap.size, 0, none⟩ (j * 1 + 0) = ⟨w.heap.size, j, none⟩ := by simp [Addr.add]; omega
   show (w.alloc _).cell? (Addr.add ⟨w.heap.size, 0, none⟩ (j * 1 + 0)) = _
   rw [e, kCe (blk_new w _) j]
   simp [hp]⟩⟩⟩
theorem put_w (g bb size place : Nat) (L l : List Int) (vs : Array Value) (w : World) (hW : WIs w g bb place L) (hvs : vs = (l.map (Value.int .u64)).toArray) (n : Nat) (hnl : l.length = n) (hll : l.length ≤ 9223372036854775807) (k : Nat) (hk : w.heap.size = k) (hne : g ≠ bb) (hn : L.length < 4611686018427387904) (hsz : size ≤ 8) (hfit : place + size * n ≤ L.length) :
 Calls Tryz.prog 46 #[.pointer (some ⟨g, 0, none⟩), .int .i64 (size : Int), .slice (some ⟨k, 0, none⟩) n n] (w.alloc (.cells vs 24)) fun e w' =>
  e = .returned (.tuple #[]) ∧ WIs w' g bb (place + size * n) (putAt L place (putL size l)) ∧ Kp w w' (S2 g bb) := by
 subst hvs hnl hk
 have hg : g < w.heap.size := blk_lt hW.wr
 have hb : bb < w.heap.size := blk_lt hW.by_
 have hpl := putL_length size l
 have hd : L.take place ++ L.drop place = L := List.take_append_drop _ _
 have hl1 : (L.take place).length = place := by rw [List.length_take]; omega
 have hW2 : WIs (w.alloc (.cells (l.map (Value.int .u64)).toArray 24)) g bb (L.take place).length (L.take place ++ L.drop place) := by
  rw [hd, hl1]
  exact hW.alloc _
 refine (put_c g bb size l.length _ l (L.take place) (L.drop place) _ hW2 hne (by rw [hd]; exact hn) (C_lit w l hll) (Nat.le_refl _) (fun ad e => by cases e; exact ⟨by show w.heap.size ≠ g; omega, by show w.heap.size ≠ bb; omega⟩) (by rw [hpl, List.length_drop]; omega) hsz).mono ?_
 rintro e w' ⟨rfl, h1, h2⟩
 refine ⟨rfl, ?_, (Kp.alloc (Kp.refl w _) _).then_ h2 (fun k hk => .inl hk)⟩
 have e1 : (L.take place ++ putL size l).length = place + size * l.length := by rw [List.length_append, hl1, hpl]
 rw [e1] at h1
 have e2 : L.take place ++ putL size l ++ (L.drop place).drop (putL size l).length = putAt L place (putL size l) := by
  unfold putAt
  rw [List.drop_drop]
 rw [e2] at h1
 exact h1
theorem text_w (g bb place : Nat) (s : ByteArray) (L : List Int) (w : World) (hW : WIs w g bb place L) (hne : g ≠ bb) (hn : L.length < 4611686018427387904) (hfit : place + s.size ≤ L.length) (hpos : 0 < s.size) :
 Calls Tryz.prog 45 #[.pointer (some ⟨g, 0, none⟩), .string s] w fun e w' =>
  e = .returned (.tuple #[]) ∧ WIs w' g bb (place + s.size) (putAt L place (strL s)) ∧ Kp w w' (S2 g bb) := by
 have hd : L.take place ++ L.drop place = L := List.take_append_drop _ _
 have hl1 : (L.take place).length = place := by rw [List.length_take]; omega
 have hsl : (strL s).length = s.size := by unfold strL; rw [List.length_map, ← Lib.size_eq]
 have hW2 : WIs w g bb (L.take place).length (L.take place ++ L.drop place) := by
  rw [hd, hl1]
  exact hW
 refine (text_c g bb s (L.take place) (L.drop place) w hW2 hne (by rw [hd]; exact hn) (by rw [List.length_drop]; omega) hpos).mono ?_
 rintro e w' ⟨rfl, h1, h2⟩
 refine ⟨rfl, ?_, h2⟩
 rw [List.length_append, hl1, hsl, ← hsl] at h1
 have e2 : L.take place ++ strL s ++ (L.drop place).drop (strL s).length = putAt L place (strL s) := by
  unfold putAt
  rw [List.drop_drop]
 rw [e2, hsl] at h1
 exact h1
end Go.Proofs.YtbnlifldnjgpmaaGreatDoor
/- The writer's names: the symbols' table, their texts, the sections' titles, three section headers. -/
set_option linter.unusedVariables false
set_option linter.unusedSimpArgs false
namespace Go.Proofs.YtbnlifldnjgpmaaGreatDoor.PWri
open Go.RowKit Go.Lib Go.Proofs.YtbnlifldnjgpmaaGreatDoorW.PrintWords
def symB (pl : Int) (s : S82) : List Int := putL 4 [pl] ++ putL 1 [16, 0] ++ putL 2 [65521] ++ putL 8 [s.f1, 0]
def nextPl (pl : Int) (s : S82) : Int := IntKind.u64.wrap (pl + IntKind.u64.wrap (IntKind.u64.wrap (s.f0.size : Int) + 1))
def symsPut : List Int → Nat → Int → List S82 → List Int
 | L, _, _, [] => L
 | L, p, pl, s :: r => symsPut (putAt (putAt (putAt (putAt L p (putL 4 [pl])) (p + 4) (putL 1 [16, 0])) (p + 6) (putL 2 [65521])) (p + 8) (putL 8 [s.f1, 0])) (p + 24) (nextPl pl s) r
def namesPut : List Int → Nat → List S82 → List Int
 | L, _, [] => L
 | L, p, s :: r => namesPut (putAt L p (strL s.f0)) (p + s.f0.size + 1) r
def total : List S82 → Nat
 | [] => 0
 | s :: r => s.f0.size + 1 + total r
def secPut (L : List Int) (p : Nat) (x0 x1 x2 x3 x4 x5 x6 x7 : Int) : List Int :=
 putAt (putAt (putAt (putAt L p (putL 4 [x0, x1])) (p + 8) (putL 8 [0, 0, x2, x3])) (p + 40) (putL 4 [x4, x5])) (p + 48) (putL 8 [x6, x7])
/-- The three sections' headers, one behind the other. -/
def secsTo (L : List Int) (p : Nat) (tb tx ti : Int) : Nat → List Int
 | 0 => L
 | 1 => secPut L p 1 2 tb (tx - tb) 2 1 8 24
 | 2 => secPut (secPut L p 1 2 tb (tx - tb) 2 1 8 24) (p + 64) 9 3 tx (ti - tx) 0 0 1 0
 | _ => secPut (secPut (secPut L p 1 2 tb (tx - tb) 2 1 8 24) (p + 64) 9 3 tx (ti - tx) 0 0 1 0) (p + 128) 17 3 ti 27 0 0 1 0
def titlesB : ByteArray := ⟨#[0, 46, 115, 121, 109, 116, 97, 98, 0, 46, 115, 116, 114, 116, 97, 98, 0, 46, 115, 104, 115, 116, 114, 116, 97, 98, 0]⟩
/-- All that 'names' writes. -/
def namesAll (L : List Int) (tb tx ti se : Nat) (syms : List S82) : List Int :=
 secsTo (putAt (namesPut (symsPut L (tb + 24) 1 syms) (tx + 1) syms) (tx + 1 + total syms) (strL titlesB)) (se + 64) tb tx ti 3
set_option maxHeartbeats 16000000 in
set_option maxRecDepth 1000000 in
theorem wnames_c (g bb c p0 : Nat) (A : Option Addr) (syms : List S82) (L : List Int) (dv : Value) (tb tx ti se sz : Nat) (w : World) (hW : WIs w g bb p0 L) (hne : g ≠ bb) (hn : L.length < 4611686018427387904)
 (hl : ∀ W', Kp w W' (S2 g bb) → Kd.C k82 W' A syms.length syms) (hc : syms.length ≤ c) (hf1 : tb + 24 + 24 * syms.length ≤ L.length) (htb : tb < 4611686018427387904) (htx : tx < 4611686018427387904) (hf2 : tx + 1 + total syms ≤ L.length) (hpos : ∀ s ∈ syms, 0 < s.f0.size) (hf3 : tx + 1 + total syms + 27 ≤ L.length) (hse : se < 4611686018427387904) (hf4 : se + 256 ≤ L.length) (hbx : tb ≤ tx) (hxi : tx ≤ ti) (hti : ti < 4611686018427387904) :
 Calls Tryz.prog 48 #[.pointer (some ⟨g, 0, none⟩), .slice A syms.length c, .agg #[dv, .int .i64 (tb : Int), .int .i64 (tx : Int), .int .i64 (ti : Int), .int .i64 (se : Int), .int .i64 (sz : Int)]] w fun e w' =>
  e = .returned (.tuple #[]) ∧ WIs w' g bb (se + 256) (namesAll L tb tx ti se syms) ∧ Kp w w' (S2 g bb) := by
 have hll : syms.length ≤ 9223372036854775807 := (hl w (Kp.refl _ _)).2.1
 have HL := Lib.hid hl
 have HW := Lib.hid hW
 have hg : g < w.heap.size := blk_lt hW.wr
 have hb : bb < w.heap.size := blk_lt hW.by_
 have d1 : (w.alloc (.cells #[dv, .int .i64 (tb : Int), .int .i64 (tx : Int), .int .i64 (ti : Int), .int .i64 (se : Int), .int .i64 (sz : Int)] 87)).cell? ⟨g, 1, none⟩ = some (.int .i64 (p0 : Int)) := by
  have := kCe (hW.alloc (.cells #[dv, .int .i64 (tb : Int), .int .i64 (tx : Int), .int .i64 (ti : Int), .int .i64 (se : Int), .int .i64 (sz : Int)] 87)).wr 1
  exact this
 have f1 := kFr (hW.alloc (.cells #[dv, .int .i64 (tb : Int), .int .i64 (tx : Int), .int .i64 (ti : Int), .int .i64 (se : Int), .int .i64 (sz : Int)] 87)).wr 1
 clear hl hW
 go_enter Tryz.func48, Tryz.ntmps48
 go_wp2
 obtain ⟨OB, hOB⟩ : ∃ OB, Obj.cells #[dv, .int .i64 (tb : Int), .int .i64 (tx : Int), .int .i64 (ti : Int), .int .i64 (se : Int), .int .i64 (sz : Int)] 87 = OB := ⟨_, rfl⟩
 have hb0 : ((w.setCell ⟨g, 1, none⟩ (.int .i64 ((tb : Int) + 24))).alloc OB).heap[w.heap.size]? = some OB := by
  have := blk_new (w.setCell ⟨g, 1, none⟩ (.int .i64 ((tb : Int) + 24))) OB
  rw [show (w.setCell ⟨g, 1, none⟩ (.int .i64 ((tb : Int) + 24))).heap.size = w.heap.size by simp [World.setCell]] at this
  exact this
 obtain ⟨F1, hF1⟩ : ∃ F1, symsPut L (tb + 24) 1 syms = F1 := ⟨_, rfl⟩
 have HOB := Lib.hid hOB
 have HB0 := Lib.hid hb0
 have HF1 := Lib.hid hF1
 rw [hOB]
 clear hOB hb0 hF1 d1 f1
 go_loopw [6, 21] (fun v6 v21 wx => ∃ (j : Nat) (pl : Int) (Lj : List Int), v6 = .int .u64 pl ∧ v21 = .int .i64 (j : Int) ∧ j ≤ syms.length ∧ Hid (WIs wx g bb (tb + 24 + 24 * j) Lj) ∧ Hid (Kp w wx (S2 g bb)) ∧ Hid (wx.heap[w.heap.size]? = some OB) ∧
  Hid (symsPut Lj (tb + 24 + 24 * j) pl (syms.drop j) = F1 ∧ Lj.length = L.length)) (fun _ v21 _ => syms.length - (RowKit.intOf v21).toNat)
 case atStart => exact ⟨0, 1, L, rfl, rfl, Nat.zero_le _, Lib.hid ((HW.out.at_ hne (tb + 24)).alloc OB), Lib.hid (((Kp.refl w _).setCell (p := ⟨g, 1, none⟩) (.inl (.inl rfl)) _).alloc OB), HB0, Lib.hid ⟨HF1.out, rfl⟩⟩
 case round =>
  obtain ⟨j, pl, Lj, rfl, rfl, hj, HWj, HKj, HBj, HXj⟩ := hrel
  by_cases hjl : j < syms.length
  ·obtain ⟨ad, eA, x0, x1⟩ := at_T82 (HL.out wr HKj.out) (j : Int) (by omega) (by omega)
   subst eA
   rw [Int.toNat_natCast] at x0 x1
   obtain ⟨sy, hsy⟩ : ∃ sy, rd_T82 syms (j : Int) = sy := ⟨_, rfl⟩
   rw [hsy] at x0 x1
   have HSY := Lib.hid hsy
   have hgr : g < wr.heap.size := blk_lt HWj.out.wr
   have hbr : bb < wr.heap.size := blk_lt HWj.out.by_
   have hnS : ¬ S2 g bb wr.heap.size := by rintro (h | h) <;> omega
   have hLj := HXj.out.2
   have hfit : tb + 24 + 24 * j + 24 ≤ Lj.length := by rw [hLj]; omega
   have hnj : Lj.length < 4611686018427387904 := by rw [hLj]; exact hn
   obtain ⟨q, hq⟩ : ∃ q, tb + 24 + 24 * j = q := ⟨_, rfl⟩
   have HQ := Lib.hid hq
   have HWq : Hid (WIs wr g bb q Lj) := hq ▸ HWj
   rw [hq] at hfit
   obtain ⟨L1, hL1⟩ : ∃ L1, putAt Lj q (putL 4 [pl]) = L1 := ⟨_, rfl⟩
   obtain ⟨L2, hL2⟩ : ∃ L2, putAt L1 (q + 4) (putL 1 [16, 0]) = L2 := ⟨_, rfl⟩
   obtain ⟨L3, hL3⟩ : ∃ L3, putAt L2 (q + 6) (putL 2 [65521]) = L3 := ⟨_, rfl⟩
   obtain ⟨L4, hL4⟩ : ∃ L4, putAt L3 (q + 8) (putL 8 [sy.f1, 0]) = L4 := ⟨_, rfl⟩
   have l1 : L1.length = Lj.length := by rw [← hL1]; exact putAt_length (by rw [putL_length]; simp; omega)
   have l2 : L2.length = Lj.length := by rw [← hL2, ← l1]; exact putAt_length (by rw [putL_length, l1]; simp; omega)
   have l3 : L3.length = Lj.length := by rw [← hL3, ← l2]; exact putAt_length (by rw [putL_length, l2]; simp; omega)
   have l4 : L4.length = Lj.length := by rw [← hL4, ← l3]; exact putAt_length (by rw [putL_length, l3]; simp; omega)
   have c1 := fun k hk => put_w g bb 4 q Lj [pl] #[.int .u64 pl] (wr.alloc (.cells #[.string sy.f0, .int .u64 sy.f1] 82)) (HWq.out.alloc _) rfl 1 rfl (by simp) k hk hne hnj (by omega) (by omega)
   have c2 := fun W (h : WIs W g bb (q + 4) L1) => put_w g bb 1 (q + 4) L1 [16, 0] #[.int .u64 16, .int .u64 0] W h rfl 2 rfl (by simp) W.heap.size rfl hne (by omega) (by omega) (by omega)
   have c3 := fun W (h : WIs W g bb (q + 6) L2) => put_w g bb 2 (q + 6) L2 [65521] #[.int .u64 65521] W h rfl 1 rfl (by simp) W.heap.size rfl hne (by omega) (by omega) (by omega)
   have c4 := fun W (h : WIs W g bb (q + 8) L3) => put_w g bb 8 (q + 8) L3 [sy.f1, 0] #[.int .u64 sy.f1, .int .u64 0] W h rfl 2 rfl (by simp) W.heap.size rfl hne (by omega) (by omega) (by omega)
   rw [hL1] at c1
   simp only [hL2] at c2
   simp only [hL3] at c3
   simp only [hL4] at c4
   have C1 := Lib.hid c1
   have C2 := Lib.hid c2
   have C3 := Lib.hid c3
   have C4 := Lib.hid c4
   have HLL := Lib.hid (And.intro hL1 (And.intro hL2 (And.intro hL3 hL4)))
   have Hl4 := Lib.hid l4
   clear hsy hq c1 c2 c3 c4 hL1 hL2 hL3 hL4 l1 l2 l3 l4 hLj hfit hnj
   have HGR := Lib.hid hgr
   have HBR := Lib.hid hbr
   have HNS := Lib.hid hnS
   have HGw := Lib.hid hg
   have HBw := Lib.hid hb
   have HNw : Hid (¬ S2 g bb w.heap.size) := Lib.hid (by rintro (h | h) <;> omega)
   clear hgr hbr hnS hg hb
   go_wp2_with (first
    | (go_at_call 46; refine (C1.out _ (by simp)).mono ?_; rintro e w1 ⟨rfl, hW, hK⟩; have hW1 := Lib.hid hW; have b1 := Lib.hid (blk_kp (blk_new wr _) hK HNS.out); have k1 := Lib.hid ((Kp.alloc HKj.out _).then_ hK (fun _ hk => .inl hk)); have o1 := Lib.hid (blk_kp (kAl HBj.out _) hK HNw.out); clear hW hK C1)
    | (go_at_call 46; refine (C2.out _ hW1.out).mono ?_; rintro e w2 ⟨rfl, hW, hK⟩; have hW2 := Lib.hid hW; have b2 := Lib.hid (blk_kp b1.out hK HNS.out); have k2 := Lib.hid (k1.out.then_ hK (fun _ hk => .inl hk)); have o2 := Lib.hid (blk_kp o1.out hK HNw.out); clear hW hK C2 b1 k1 o1 hW1)
    | (go_at_call 46; refine (C3.out _ hW2.out).mono ?_; rintro e w3 ⟨rfl, hW, hK⟩; have hW3 := Lib.hid hW; have b3 := Lib.hid (blk_kp b2.out hK HNS.out); have k3 := Lib.hid (k2.out.then_ hK (fun _ hk => .inl hk)); have o3 := Lib.hid (blk_kp o2.out hK HNw.out); have s3 : w3.cell? ⟨wr.heap.size, 1, none⟩ = some (.int .u64 sy.f1) := kCe b3.out 1; clear hW hK C3 b2 k2 o2 hW2)
    | (go_at_call 46; refine (C4.out _ hW3.out).mono ?_; rintro e w4 ⟨rfl, hW, hK⟩; have hW4 := Lib.hid hW; have b4 := Lib.hid (blk_kp b3.out hK HNS.out); have k4 := Lib.hid (k3.out.then_ hK (fun _ hk => .inl hk)); have o4 := Lib.hid (blk_kp o3.out hK HNw.out); have s4 : w4.cell? ⟨wr.heap.size, 0, none⟩ = some (.string sy.f0) := kCe b4.out 0; clear hW hK C4 b3 k3 o3 hW3 s3))
   have hq := HQ.out
   have hdr : syms.drop j = sy :: syms.drop (j + 1) := by
    have h1 := HSY.out
    unfold rd_T82 at h1
    rw [Int.toNat_natCast, List.getD_eq_getElem?_getD, List.getElem?_eq_getElem hjl] at h1
    rw [← show syms[j] = sy from h1]
    exact List.drop_eq_getElem_cons hjl
   have hX := HXj.out
   obtain ⟨e1, e2, e3, e4⟩ := HLL.out
   rw [hdr, symsPut, hq, e1, e2, e3, e4] at hX
   have hw4 := hW4.out
   rw [show q + 8 + 8 * 2 = tb + 24 + 24 * (j + 1) by omega] at hw4
   rw [show q + 24 = tb + 24 + 24 * (j + 1) by omega] at hX
   exact ⟨⟨j + 1, nextPl pl sy, L4, rfl, by simp, by omega, Lib.hid hw4, k4, o4, Lib.hid ⟨hX.1, Hl4.out.trans hX.2⟩⟩, by simp [RowKit.intOf]; omega⟩
  ·have hje : j = syms.length := by omega
   subst hje
   have hX := HXj.out
   rw [List.drop_length, symsPut] at hX
   obtain ⟨rfl, hLl⟩ := hX
   have hbx := HBj.out
   rw [← HOB.out] at hbx
   have cTx : wr.cell? ⟨w.heap.size, 2, none⟩ = some (.int .i64 (tx : Int)) := kCe hbx 2
   have hpl := kCe HWj.out.wr 1
   have hplf := kFr HWj.out.wr 1
   have cPl : wr.cell? ⟨g, 1, none⟩ = some (.int .i64 ((tb + 24 + 24 * syms.length : Nat) : Int)) := hpl
   clear hbx hpl
   go_wp2
   obtain ⟨F2, hF2⟩ : ∃ F2, namesPut Lj (tx + 1) syms = F2 := ⟨_, rfl⟩
   have HF2 := Lib.hid hF2
   have HLl := Lib.hid hLl
   have k0 := Lib.hid (HKj.out.setCell (p := ⟨g, 1, none⟩) (.inl (.inl rfl)) (.int .i64 ((tx : Int) + 1)))
   have w0 := Lib.hid (HWj.out.at_ hne (tx + 1))
   have o0 := Lib.hid (blk_far (p := ⟨g, 1, none⟩) (show wr.heap[w.heap.size]? = some (.cells _ _ (0, 0)) from by rw [HBj.out, ← HOB.out]) (show w.heap.size ≠ g by omega) (.int .i64 ((tx : Int) + 1)))
   have HS := Lib.hid hpos
   clear hF2 hLl cTx cPl hplf hpos
   go_loopw [56] (fun v56 wx => ∃ (j p : Nat) (Li : List Int), v56 = .int .i64 (j : Int) ∧ j ≤ syms.length ∧ Hid (WIs wx g bb p Li) ∧ Hid (Kp w wx (S2 g bb)) ∧ Hid (wx.heap[w.heap.size]? = some OB) ∧
    Hid (namesPut Li p (syms.drop j) = F2 ∧ Li.length = L.length ∧ p + total (syms.drop j) = tx + 1 + total syms)) (fun v56 _ => syms.length - (RowKit.intOf v56).toNat)
   case atStart => exact ⟨0, tx + 1, Lj, rfl, Nat.zero_le _, w0, k0, Lib.hid (by rw [← HOB.out]; exact o0.out), Lib.hid ⟨HF2.out, HLl.out, rfl⟩⟩
   case round =>
    obtain ⟨j, p, Li, rfl, hj, HWi, HKi, HBi, HXi⟩ := hrel
    by_cases hjl : j < syms.length
    ·obtain ⟨ad, eA, x0, x1⟩ := at_T82 (HL.out wr HKi.out) (j : Int) (by omega) (by omega)
     subst eA
     rw [Int.toNat_natCast] at x0 x1
     obtain ⟨sy, hsy⟩ : ∃ sy, rd_T82 syms (j : Int) = sy := ⟨_, rfl⟩
     rw [hsy] at x0 x1
     have hdr : syms.drop j = sy :: syms.drop (j + 1) := by
      have h1 := hsy
      unfold rd_T82 at h1
      rw [Int.toNat_natCast, List.getD_eq_getElem?_getD, List.getElem?_eq_getElem hjl] at h1
      rw [← show syms[j] = sy from h1]
      exact List.drop_eq_getElem_cons hjl
     have hX := HXi.out
     rw [hdr, namesPut, total] at hX
     obtain ⟨hX1, hX2, hX3⟩ := hX
     have hmem : sy ∈ syms := List.mem_of_mem_drop (by rw [hdr]; simp)
     have c1 := text_w g bb p sy.f0 Li (wr.alloc (.cells #[.string sy.f0, .int .u64 sy.f1] 82)) (HWi.out.alloc _) hne (by rw [hX2]; exact hn) (by rw [hX2]; omega) (HS.out sy hmem)
     obtain ⟨L5, hL5⟩ : ∃ L5, putAt Li p (strL sy.f0) = L5 := ⟨_, rfl⟩
     have l5 : L5.length = Li.length := by
      rw [← hL5]
      refine putAt_length ?_
      have : (strL sy.f0).length = sy.f0.size := by unfold strL; rw [List.length_map, ← Lib.size_eq]
      rw [this, hX2]
      omega
     rw [hL5] at c1 hX1
     have C1 := Lib.hid c1
     have H1 := Lib.hid hX1
     have H2 := Lib.hid (l5.trans hX2)
     have H3 := Lib.hid hX3
     have hps : p + sy.f0.size < 4611686018427387904 := by omega
     obtain ⟨ps, hpse⟩ : ∃ ps, p + sy.f0.size = ps := ⟨_, rfl⟩
     rw [hpse] at hps
     have HPS := Lib.hid hpse
     have HNw : Hid (¬ S2 g bb w.heap.size) := Lib.hid (by rintro (h | h) <;> omega)
     clear hsy hdr hX1 hX2 hX3 c1 hL5 l5 hmem hpse
     go_wp2_with (go_at_call 45; refine C1.out.mono ?_; rintro e w1 ⟨rfl, hW, hK⟩; rw [HPS.out] at hW; have hW1 := Lib.hid hW; have k1 := Lib.hid ((Kp.alloc HKi.out _).then_ hK (fun _ hk => .inl hk)); have o1 := Lib.hid (blk_kp (kAl (show wr.heap[w.heap.size]? = some OB from HBi.out) _) hK HNw.out); have cp : w1.cell? ⟨g, 1, none⟩ = some (.int .i64 (ps : Int)) := kCe hW.wr 1; have cf : w1.frozen? ⟨g, 1, none⟩ = false := kFr hW.wr 1; clear hW hK C1)
     have h1 := H1.out
     rw [HPS.out] at h1
     have h3 := H3.out
     have hps2 := HPS.out
     exact ⟨⟨j + 1, ps + 1, L5, by simp, by omega, Lib.hid (hW1.out.at_ hne (ps + 1)), Lib.hid (k1.out.setCell (p := ⟨g, 1, none⟩) (.inl (.inl rfl)) _), Lib.hid (by rw [← HOB.out]; exact blk_far (p := ⟨g, 1, none⟩) (by rw [o1.out, ← HOB.out]) (by show w.heap.size ≠ g; omega) _), Lib.hid ⟨h1, H2.out, by omega⟩⟩, by simp [RowKit.intOf]; omega⟩
    ·have hje : j = syms.length := by omega
     subst hje
     have hX := HXi.out
     rw [List.drop_length, namesPut, total] at hX
     obtain ⟨rfl, hLi, hpe⟩ := hX
     have hbx := HBi.out
     rw [← HOB.out] at hbx
     have cSe : wr.cell? ⟨w.heap.size, 4, none⟩ = some (.int .i64 (se : Int)) := kCe hbx 4
     have c1 := text_w g bb p ⟨#[0, 46, 115, 121, 109, 116, 97, 98, 0, 46, 115, 116, 114, 116, 97, 98, 0, 46, 115, 104, 115, 116, 114, 116, 97, 98, 0]⟩ Li wr HWi.out hne (by rw [hLi]; exact hn) (by rw [hLi]; show p + 27 ≤ _; omega) (by show 0 < 27; omega)
     have C1 := Lib.hid c1
     clear c1 hbx cSe
     have HNw : Hid (¬ S2 g bb w.heap.size) := Lib.hid (by rintro (h | h) <;> omega)
     go_wp2_with (go_at_call 45; refine C1.out.mono ?_; rintro e w1 ⟨rfl, hW, hK⟩; have hW1 := Lib.hid hW; have k1 := Lib.hid (HKi.out.then_ hK (fun _ hk => .inl hk)); have o1 := Lib.hid (blk_kp (show wr.heap[w.heap.size]? = some OB from HBi.out) hK HNw.out); have ob : w1.heap[w.heap.size]? = some (.cells _ _ (0, 0)) := (by rw [o1.out, ← HOB.out]); have q1 : w1.cell? ⟨w.heap.size, 1, none⟩ = some (.int .i64 (tb : Int)) := kCe ob 1; have q2 : w1.cell? ⟨w.heap.size, 2, none⟩ = some (.int .i64 (tx : Int)) := kCe ob 2; have q3 : w1.cell? ⟨w.heap.size, 3, none⟩ = some (.int .i64 (ti : Int)) := kCe ob 3; have q4 : w1.cell? ⟨w.heap.size, 4, none⟩ = some (.int .i64 (se : Int)) := kCe ob 4; have cp : w1.cell? ⟨g, 1, none⟩ = some _ := kCe hW.wr 1; have cf : w1.frozen? ⟨g, 1, none⟩ = false := kFr hW.wr 1; have hgs : w.heap.size ≠ g := (by omega); clear hW hK C1 ob)
     obtain ⟨SC, hSC⟩ : ∃ SC : Array Value, (#[Value.int .i64 1, Value.int .i64 2, Value.int .i64 (tb : Int), Value.int .i64 ((tx : Int) - tb), Value.int .i64 2, Value.int .i64 1, Value.int .i64 8, Value.int .i64 24, Value.int .i64 9, Value.int .i64 3, Value.int .i64 (tx : Int), Value.int .i64 ((ti : Int) - tx), Value.int .i64 0, Value.int .i64 0, Value.int .i64 1, Value.int .i64 0, Value.int .i64 17, Value.int .i64 3, Value.int .i64 (ti : Int), Value.int .i64 27, Value.int .i64 0, Value.int .i64 0, Value.int .i64 1, Value.int .i64 0] : Array Value) = SC := ⟨_, rfl⟩
     rw [hSC]
     have HSC := Lib.hid hSC
     have hw2 := Lib.hid ((hW1.out.at_ hne (se + 64)).alloc (.cells SC 138))
     have k2 := Lib.hid ((k1.out.setCell (p := ⟨g, 1, none⟩) (.inl (.inl rfl)) (.int .i64 ((se : Int) + 64))).alloc (.cells SC 138))
     obtain ⟨sb, hsb⟩ : ∃ sb, (w1.setCell ⟨g, 1, none⟩ (.int .i64 ((se : Int) + 64))).heap.size = sb := ⟨_, rfl⟩
     have hbn := blk_new (w1.setCell ⟨g, 1, none⟩ (.int .i64 ((se : Int) + 64))) (.cells SC 138)
     rw [hsb] at hbn
     have HBN := Lib.hid hbn
     have e1 : w1.heap.size = sb := by rw [← hsb]; simp [World.setCell]
     rw [e1]
     clear hSC hbn q1 q2 q3 q4 cp cf
     obtain ⟨F3, hF3⟩ : ∃ F3, putAt Li p (strL titlesB) = F3 := ⟨_, rfl⟩
     have hF3l : F3.length = L.length := by
      rw [← hF3, putAt_length ?_]
      ·exact hLi
      ·show p + 27 ≤ _
       rw [hLi]
       omega
     have hw2' : Hid (WIs ((w1.setCell ⟨g, 1, none⟩ (.int .i64 ((se : Int) + 64))).alloc (.cells SC 138)) g bb (se + 64) F3) := by
      rw [← hF3]
      exact hw2
     have HF3 := Lib.hid hF3
     have HPE := Lib.hid hpe
     have HF3l := Lib.hid hF3l
     clear hF3 hw2 hpe hF3l
     have BT : (tb : Int) < 4611686018427387904 ∧ (tx : Int) < 4611686018427387904 ∧ (ti : Int) < 4611686018427387904 ∧ (tb : Int) ≤ tx ∧ (tx : Int) ≤ ti := by omega
     have HBT := Lib.hid BT
     clear BT
     go_loopw [101] (fun v101 wx => ∃ (j : Nat), v101 = .int .i64 (j : Int) ∧ j ≤ 3 ∧ Hid (WIs wx g bb (se + 64 + 64 * j) (secsTo F3 (se + 64) tb tx ti j)) ∧ Hid (Kp w wx (S2 g bb)) ∧ Hid (wx.heap[sb]? = some (.cells SC 138 (0, 0))) ∧ Hid ((secsTo F3 (se + 64) tb tx ti j).length = L.length)) (fun v101 _ => 3 - (RowKit.intOf v101).toNat)
     case atStart => exact ⟨0, rfl, by omega, hw2', k2, HBN, HF3l⟩
     case round =>
      obtain ⟨j, rfl, hj, HWk, HKk, HBk, HLk⟩ := hrel
      by_cases hj3 : j < 3
      ·have hj012 : j = 0 ∨ j = 1 ∨ j = 2 := by omega
       have R : ∃ x0 x1 x2 x3 x4 x5 x6 x7 : Int, (0 ≤ x0 ∧ x0 < 4611686018427387904) ∧ (0 ≤ x1 ∧ x1 < 4611686018427387904) ∧ (0 ≤ x2 ∧ x2 < 4611686018427387904) ∧ (0 ≤ x3 ∧ x3 < 4611686018427387904) ∧ (0 ≤ x4 ∧ x4 < 4611686018427387904) ∧ (0 ≤ x5 ∧ x5 < 4611686018427387904) ∧ (0 ≤ x6 ∧ x6 < 4611686018427387904) ∧ (0 ≤ x7 ∧ x7 < 4611686018427387904) ∧
        wr.cell? ⟨sb, 8 * j + 0, none⟩ = some (.int .i64 x0) ∧ wr.cell? ⟨sb, 8 * j + 1, none⟩ = some (.int .i64 x1) ∧ wr.cell? ⟨sb, 8 * j + 2, none⟩ = some (.int .i64 x2) ∧ wr.cell? ⟨sb, 8 * j + 3, none⟩ = some (.int .i64 x3) ∧ wr.cell? ⟨sb, 8 * j + 4, none⟩ = some (.int .i64 x4) ∧ wr.cell? ⟨sb, 8 * j + 5, none⟩ = some (.int .i64 x5) ∧ wr.cell? ⟨sb, 8 * j + 6, none⟩ = some (.int .i64 x6) ∧ wr.cell? ⟨sb, 8 * j + 7, none⟩ = some (.int .i64 x7) ∧
        secPut (secsTo F3 (se + 64) tb tx ti j) (se + 64 + 64 * j) x0 x1 x2 x3 x4 x5 x6 x7 = secsTo F3 (se + 64) tb tx ti (j + 1) := by
        have hc := fun k => kCe HBk.out k
        rw [← HSC.out] at hc
        have hb5 := HBT.out
        rcases hj012 with rfl | rfl | rfl
        ·exact ⟨1, 2, tb, tx - tb, 2, 1, 8, 24, by omega, by omega, by omega, by omega, by omega, by omega, by omega, by omega, hc 0, hc 1, hc 2, hc 3, hc 4, hc 5, hc 6, hc 7, rfl⟩
        ·exact ⟨9, 3, tx, ti - tx, 0, 0, 1, 0, by omega, by omega, by omega, by omega, by omega, by omega, by omega, by omega, hc 8, hc 9, hc 10, hc 11, hc 12, hc 13, hc 14, hc 15, rfl⟩
        ·exact ⟨17, 3, ti, 27, 0, 0, 1, 0, by omega, by omega, by omega, by omega, by omega, by omega, by omega, by omega, hc 16, hc 17, hc 18, hc 19, hc 20, hc 21, hc 22, hc 23, rfl⟩
       obtain ⟨x0, x1, x2, x3, x4, x5, x6, x7, ⟨b00, b01⟩, ⟨b10, b11⟩, ⟨b20, b21⟩, ⟨b30, b31⟩, ⟨b40, b41⟩, ⟨b50, b51⟩, ⟨b60, b61⟩, ⟨b70, b71⟩, r0, r1, r2, r3, r4, r5, r6, r7, hS⟩ := R
       obtain ⟨Lk, hLk0⟩ : ∃ Lk, secsTo F3 (se + 64) tb tx ti j = Lk := ⟨_, rfl⟩
       obtain ⟨q, hq⟩ : ∃ q, se + 64 + 64 * j = q := ⟨_, rfl⟩
       rw [hLk0, hq] at HWk
       have hLk := HLk.out
       rw [hLk0] at hLk
       rw [hLk0, hq] at hS
       have hnj : Lk.length < 4611686018427387904 := by rw [hLk]; exact hn
       have hfit : q + 64 ≤ Lk.length := by rw [hLk]; omega
       obtain ⟨L1, hL1⟩ : ∃ L1, putAt Lk q (putL 4 [x0, x1]) = L1 := ⟨_, rfl⟩
       obtain ⟨L2, hL2⟩ : ∃ L2, putAt L1 (q + 8) (putL 8 [0, 0, x2, x3]) = L2 := ⟨_, rfl⟩
       obtain ⟨L3, hL3⟩ : ∃ L3, putAt L2 (q + 40) (putL 4 [x4, x5]) = L3 := ⟨_, rfl⟩
       obtain ⟨L4, hL4⟩ : ∃ L4, putAt L3 (q + 48) (putL 8 [x6, x7]) = L4 := ⟨_, rfl⟩
       have l1 : L1.length = Lk.length := by rw [← hL1]; exact putAt_length (by rw [putL_length]; simp; omega)
       have l2 : L2.length = Lk.length := by rw [← hL2, ← l1]; exact putAt_length (by rw [putL_length, l1]; simp; omega)
       have l3 : L3.length = Lk.length := by rw [← hL3, ← l2]; exact putAt_length (by rw [putL_length, l2]; simp; omega)
       have l4 : L4.length = Lk.length := by rw [← hL4, ← l3]; exact putAt_length (by rw [putL_length, l3]; simp; omega)
       have c1 := fun k hk => put_w g bb 4 q Lk [x0, x1] #[.int .u64 x0, .int .u64 x1] (wr.alloc (.cells #[.int .i64 x0, .int .i64 x1, .int .i64 x2, .int .i64 x3, .int .i64 x4, .int .i64 x5, .int .i64 x6, .int .i64 x7] 138)) (HWk.out.alloc _) rfl 2 rfl (by simp) k hk hne hnj (by omega) (by omega)
       have c2 := fun W (h : WIs W g bb (q + 8) L1) => put_w g bb 8 (q + 8) L1 [0, 0, x2, x3] #[.int .u64 0, .int .u64 0, .int .u64 x2, .int .u64 x3] W h rfl 4 rfl (by simp) W.heap.size rfl hne (by omega) (by omega) (by omega)
       have c3 := fun W (h : WIs W g bb (q + 40) L2) => put_w g bb 4 (q + 40) L2 [x4, x5] #[.int .u64 x4, .int .u64 x5] W h rfl 2 rfl (by simp) W.heap.size rfl hne (by omega) (by omega) (by omega)
       have c4 := fun W (h : WIs W g bb (q + 48) L3) => put_w g bb 8 (q + 48) L3 [x6, x7] #[.int .u64 x6, .int .u64 x7] W h rfl 2 rfl (by simp) W.heap.size rfl hne (by omega) (by omega) (by omega)
       rw [hL1] at c1
       simp only [hL2] at c2
       simp only [hL3] at c3
       simp only [hL4] at c4
       rw [secPut, hL1, hL2, hL3, hL4] at hS
       have C1 := Lib.hid c1
       have C2 := Lib.hid c2
       have C3 := Lib.hid c3
       have C4 := Lib.hid c4
       have HS4 := Lib.hid hS
       have Hl4 := Lib.hid (l4.trans hLk)
       have HQ := Lib.hid hq
       have hgr : g < wr.heap.size := blk_lt HWk.out.wr
       have hbr : bb < wr.heap.size := blk_lt HWk.out.by_
       have HNS : Hid (¬ S2 g bb wr.heap.size) := Lib.hid (by rintro (h | h) <;> omega)
       have hgw : g < w.heap.size := blk_lt HW.out.wr
       have hbw : bb < w.heap.size := blk_lt HW.out.by_
       have HNsb : Hid (¬ S2 g bb sb) := Lib.hid (by
        have hk1 : w.heap.size ≤ sb := by rw [← e1]; exact k1.out.1.1
        rintro (h | h) <;> omega)
       clear c1 c2 c3 c4 hL1 hL2 hL3 hL4 l1 l2 l3 l4 hLk0 hq hS hLk hnj hfit hgr hbr hgw hbw
       rcases hj012 with rfl | rfl | rfl
       all_goals
        simp (config := { failIfUnchanged := false }) only [Nat.reduceMul, Nat.reduceAdd] at r0 r1 r2 r3 r4 r5 r6 r7
        go_wp2_with (first
         | (go_at_call 46; refine (C1.out _ (by simp)).mono ?_; rintro e w1 ⟨rfl, hW, hK⟩; have hW1 := Lib.hid hW; have b1 := Lib.hid (blk_kp (blk_new wr _) hK HNS.out); have k1 := Lib.hid ((Kp.alloc HKk.out _).then_ hK (fun _ hk => .inl hk)); have o1 := Lib.hid (blk_kp (kAl HBk.out _) hK HNsb.out); have s2 : w1.cell? ⟨wr.heap.size, 2, none⟩ = some (.int .i64 x2) := kCe b1.out 2; have s3 : w1.cell? ⟨wr.heap.size, 3, none⟩ = some (.int .i64 x3) := kCe b1.out 3; clear hW hK C1)
         | (go_at_call 46; refine (C2.out _ hW1.out).mono ?_; rintro e w2 ⟨rfl, hW, hK⟩; have hW2 := Lib.hid hW; have b2 := Lib.hid (blk_kp b1.out hK HNS.out); have k2 := Lib.hid (k1.out.then_ hK (fun _ hk => .inl hk)); have o2 := Lib.hid (blk_kp o1.out hK HNsb.out); have s4 : w2.cell? ⟨wr.heap.size, 4, none⟩ = some (.int .i64 x4) := kCe b2.out 4; have s5 : w2.cell? ⟨wr.heap.size, 5, none⟩ = some (.int .i64 x5) := kCe b2.out 5; clear hW hK C2 b1 k1 o1 hW1 s2 s3)
         | (go_at_call 46; refine (C3.out _ hW2.out).mono ?_; rintro e w3 ⟨rfl, hW, hK⟩; have hW3 := Lib.hid hW; have b3 := Lib.hid (blk_kp b2.out hK HNS.out); have k3 := Lib.hid (k2.out.then_ hK (fun _ hk => .inl hk)); have o3 := Lib.hid (blk_kp o2.out hK HNsb.out); have s6 : w3.cell? ⟨wr.heap.size, 6, none⟩ = some (.int .i64 x6) := kCe b3.out 6; have s7 : w3.cell? ⟨wr.heap.size, 7, none⟩ = some (.int .i64 x7) := kCe b3.out 7; clear hW hK C3 b2 k2 o2 hW2 s4 s5)
         | (go_at_call 46; refine (C4.out _ hW3.out).mono ?_; rintro e w4 ⟨rfl, hW, hK⟩; have hW4 := Lib.hid hW; have k4 := Lib.hid (k3.out.then_ hK (fun _ hk => .inl hk)); have o4 := Lib.hid (blk_kp o3.out hK HNsb.out); clear hW hK C4 b3 k3 o3 hW3 s6 s7))
        have hq := HQ.out
        have hw4 := hW4.out
        have hs4 := HS4.out
        rw [hs4] at hw4
        have hl4 := Hl4.out
        rw [hs4] at hl4
        first
         | refine ⟨⟨1, rfl, by omega, Lib.hid ?_, k4, o4, Lib.hid ?_⟩, by simp [RowKit.intOf]⟩
         | refine ⟨⟨2, rfl, by omega, Lib.hid ?_, k4, o4, Lib.hid ?_⟩, by simp [RowKit.intOf]⟩
         | refine ⟨⟨3, rfl, by omega, Lib.hid ?_, k4, o4, Lib.hid ?_⟩, by simp [RowKit.intOf]⟩
        ·have e8 : q + 48 + 8 * 2 = q + 64 := rfl
         rw [e8, ← hq] at hw4
         exact hw4
        ·exact hl4
      ·have hje : j = 3 := by omega
       subst hje
       go_wp2
       go_end0
       refine ⟨rfl, ?_, HKk.out⟩
       have h := HWk.out
       unfold namesAll
       rw [HF1.out, HF2.out]
       rw [show tx + 1 + total syms = p by have := HPE.out; omega, HF3.out]
       exact h
end Go.Proofs.YtbnlifldnjgpmaaGreatDoor.PWri
/- image.Write: the file's bytes, written one behind the other into a row of the call's own; nothing that was there is turned. -/
set_option linter.unusedVariables false
set_option linter.unusedSimpArgs false
namespace Go.Proofs.YtbnlifldnjgpmaaGreatDoor.PWri
open Go.RowKit Go.Lib Go.Proofs.YtbnlifldnjgpmaaGreatDoorW.PrintWords
theorem symsPut_length : ∀ (l : List S82) (L : List Int) (p : Nat) (pl : Int), p + 24 * l.length ≤ L.length → (symsPut L p pl l).length = L.length
 | [], L, p, pl, _ => rfl
 | s :: r, L, p, pl, h => by
  simp only [List.length_cons] at h
  have e1 : (putAt L p (putL 4 [pl])).length = L.length := putAt_length (by rw [putL_length]; simp; omega)
  have e2 : (putAt (putAt L p (putL 4 [pl])) (p + 4) (putL 1 [16, 0])).length = L.length := by rw [putAt_length (by rw [putL_length, e1]; simp; omega)]; exact e1
  have e3 : (putAt (putAt (putAt L p (putL 4 [pl])) (p + 4) (putL 1 [16, 0])) (p + 6) (putL 2 [65521])).length = L.length := by rw [putAt_length (by rw [putL_length, e2]; simp; omega)]; exact e2
  have e4 : (putAt (putAt (putAt (putAt L p (putL 4 [pl])) (p + 4) (putL 1 [16, 0])) (p + 6) (putL 2 [65521])) (p + 8) (putL 8 [s.f1, 0])).length = L.length := by rw [putAt_length (by rw [putL_length, e3]; simp; omega)]; exact e3
  rw [symsPut, symsPut_length r _ _ _ (by rw [e4]; omega), e4]
theorem strL_length (s : ByteArray) : (strL s).length = s.size := by unfold strL; rw [List.length_map, ← Lib.size_eq]
theorem namesPut_length : ∀ (l : List S82) (L : List Int) (p : Nat), p + total l ≤ L.length → (namesPut L p l).length = L.length
 | [], L, p, _ => rfl
 | s :: r, L, p, h => by
  rw [total] at h
  have e1 : (putAt L p (strL s.f0)).length = L.length := putAt_length (by rw [strL_length]; omega)
  rw [namesPut, namesPut_length r _ _ (by rw [e1]; omega), e1]
theorem secPut_length {L : List Int} {p : Nat} {x0 x1 x2 x3 x4 x5 x6 x7 : Int} (h : p + 64 ≤ L.length) : (secPut L p x0 x1 x2 x3 x4 x5 x6 x7).length = L.length := by
 unfold secPut
 have e1 : (putAt L p (putL 4 [x0, x1])).length = L.length := putAt_length (by rw [putL_length]; simp; omega)
 have e2 : (putAt (putAt L p (putL 4 [x0, x1])) (p + 8) (putL 8 [0, 0, x2, x3])).length = L.length := by rw [putAt_length (by rw [putL_length, e1]; simp; omega)]; exact e1
 have e3 : (putAt (putAt (putAt L p (putL 4 [x0, x1])) (p + 8) (putL 8 [0, 0, x2, x3])) (p + 40) (putL 4 [x4, x5])).length = L.length := by rw [putAt_length (by rw [putL_length, e2]; simp; omega)]; exact e2
 rw [putAt_length (by rw [putL_length, e3]; simp; omega)]
 exact e3
theorem namesAll_length {L : List Int} {tb tx ti se : Nat} {l : List S82} (h1 : tb + 24 + 24 * l.length ≤ L.length) (h2 : tx + 1 + total l + 27 ≤ L.length) (h3 : se + 256 ≤ L.length) : (namesAll L tb tx ti se l).length = L.length := by
 unfold namesAll
 have e1 := symsPut_length l L (tb + 24) 1 h1
 have e2 : (namesPut (symsPut L (tb + 24) 1 l) (tx + 1) l).length = L.length := by rw [namesPut_length _ _ _ (by rw [e1]; omega), e1]
 have e3 : (putAt (namesPut (symsPut L (tb + 24) 1 l) (tx + 1) l) (tx + 1 + total l) (strL titlesB)).length = L.length := by
  rw [putAt_length (by rw [e2]; show _ + 27 ≤ _; omega)]
  exact e2
 obtain ⟨F, hF⟩ : ∃ F, putAt (namesPut (symsPut L (tb + 24) 1 l) (tx + 1) l) (tx + 1 + total l) (strL titlesB) = F := ⟨_, rfl⟩
 rw [hF] at e3 ⊢
 show (secPut (secPut (secPut F (se + 64) 1 2 tb (tx - tb) 2 1 8 24) (se + 64 + 64) 9 3 tx (ti - tx) 0 0 1 0) (se + 64 + 128) 17 3 ti 27 0 0 1 0).length = _
 have f1 : (secPut F (se + 64) 1 2 tb (tx - tb) 2 1 8 24).length = F.length := secPut_length (by omega)
 have f2 : (secPut (secPut F (se + 64) 1 2 tb (tx - tb) 2 1 8 24) (se + 64 + 64) 9 3 tx (ti - tx) 0 0 1 0).length = F.length := by rw [secPut_length (by omega)]; exact f1
 rw [secPut_length (by omega), f2, e3]
/-- What the layout must be for the walk. -/
structure LayOk (l1 : List S55) (l2 : List S82) (data : List Int) (tb tx ti se sz : Nat) : Prop where
 n : data.length = l1.length
 d : ∀ j, j < l1.length → 0 ≤ rd data (j : Int) ∧ rd data (j : Int) < sz ∧ rd data (j : Int) + ((rd_T55 l1 (j : Int)).f3.length : Int) ≤ sz
 h : 64 + 56 * l1.length ≤ sz
 z : sz ≤ 281474976710656
 b : tb < 4611686018427387904 ∧ tx < 4611686018427387904 ∧ ti < 4611686018427387904 ∧ se < 4611686018427387904
 nm : 0 < l2.length → tb + 24 + 24 * l2.length ≤ sz ∧ tx + 1 + total l2 + 27 ≤ sz ∧ se + 256 ≤ sz ∧ tb ≤ tx ∧ tx ≤ ti ∧ ∀ s ∈ l2, 0 < s.f0.size
def elfB : ByteArray := ⟨#[127, 69, 76, 70, 2, 1, 1, 0, 0, 0, 0, 0, 0, 0, 0, 0]⟩
/-- The file's head. -/
def headPut (L : List Int) (a0 se n cnt third : Int) : List Int :=
 putAt (putAt (putAt (putAt (putAt (putAt L 0 (strL elfB)) 16 (putL 2 [2, 243])) 20 (putL 4 [1])) 24 (putL 8 [a0, 64, se])) 48 (putL 4 [1])) 52 (putL 2 [64, 56, n, 64, cnt, third])
def turnV (x : Int) : Int := (image_turned.f x).getD 0
/-- The program headers. -/
def phPut : List Int → Nat → List Int → List S55 → List Int
 | L, p, d :: ds, s :: r => phPut (putAt (putAt L p (putL 4 [1, IntKind.u64.wrap (turnV s.f2)])) (p + 8) (putL 8 [d, s.f0, s.f0, (s.f3.length : Int), s.f1, 1])) (p + 56) ds r
 | L, _, _, _ => L
/-- The parts' bytes. -/
def dataPut : List Int → List Int → List S55 → List Int
 | L, d :: ds, s :: r => dataPut (putAt L d.toNat s.f3) ds r
 | L, _, _ => L
def zs (n : Nat) : List Int := List.replicate n 0
/-- The file. -/
def fileL (a0 : Int) (l1 : List S55) (l2 : List S82) (data : List Int) (tb tx ti se sz : Nat) : List Int :=
 if 0 < l2.length then namesAll (dataPut (phPut (headPut (zs sz) a0 se l1.length 4 3) 64 data l1) data l1) tb tx ti se l2
 else dataPut (phPut (headPut (zs sz) a0 se l1.length 0 0) 64 data l1) data l1
theorem blk_under {B : Nat} {w0 w : World} {k : Nat} {o : Obj} (hb : Below B w0 w) (h : w0.heap[k]? = some o) (hk : k < B) : w.heap[k]? = some o := (hb.block k hk).trans h
theorem Kp.under {B : Nat} {w0 w w' : World} {S : Nat → Prop} (hb : Below B w0 w) (h : Kp w w' S) (hS : ∀ k, S k → B ≤ k) (hB : B ≤ w.heap.size) : Below B w0 w' :=
 ⟨h.2.os.trans hb.os, h.2.tape.trans hb.tape, h.2.output.trans hb.output, Nat.le_trans hb.size h.2.size, fun k hk => (h.1.2 k (Nat.lt_of_lt_of_le hk hB) (fun hs => by have := hS k hs; omega)).trans (hb.block k hk)⟩
theorem Kd.C_kept_came' {w wr : World} {S : Nat → Prop} {A : Option Addr} {l : List S82} {n : Nat} (h : Kd.C k82 w A n l) (hb : Below w.heap.size w wr) (hS : ∀ k, S k → w.heap.size ≤ k) : ∀ W', Kp wr W' S → Kd.C k82 W' A n l :=
 fun W' hk => Kd.C_below h (Kp.under hb hk hS hb.size)
theorem S2_ge {B g bb : Nat} (hg : B ≤ g) (hbb : B ≤ bb) : ∀ k, S2 g bb k → B ≤ k := by rintro k (h | h) <;> omega
theorem strip_C {w : World} {a : Addr} {l : List Int} {n : Nat} (h : Kd.C (Kd.int .u8) w (some a) n l) : ∀ j v, (l.map u8v)[j]? = some v → w.cell? (a.add j) = some v := by
 intro j v hv
 rw [List.getElem?_map, Option.map_eq_some_iff] at hv
 obtain ⟨z, hz, rfl⟩ := hv
 have hn : n = l.length := h.1.symm
 have hjl : j < l.length := by
  rcases Nat.lt_or_ge j l.length with h | h
  ·exact h
  ·rw [List.getElem?_eq_none h] at hz; cases hz
 obtain ⟨ad, eA, hc⟩ := Kd.at_int h (j : Int) (by omega) (by omega)
 cases eA
 rw [Int.toNat_natCast] at hc
 rw [hc]
 unfold rd
 rw [Int.toNat_natCast, List.getD_eq_getElem?_getD, hz]
 rfl
theorem copy_bytes (W : World) (g bb p dn : Nat) (L : List Int) (A3 : Option Addr) (c3 : Nat) (f3 : List Int) (hW : WIs W g bb p L) (hne : g ≠ bb) (hC : Kd.C (Kd.int .u8) W A3 f3.length f3) (hfit : dn + f3.length ≤ L.length) :
 ∃ W2, (Builtin.copy_ #[22, 22] 3 #[.slice (some ⟨bb, dn, none⟩) (L.length - dn) (L.length - dn), .slice A3 f3.length c3]).run Tryz.prog W = .ok (.int .i64 (f3.length : Int)) W2 ∧ WIs W2 g bb p (putAt L dn f3) ∧ Kp W W2 (S2 g bb) := by
 rcases Nat.eq_zero_or_pos f3.length with h0 | hpos
 ·refine ⟨W, ?_, ?_, Kp.refl _ _⟩
  ·have := run_copy_none (P := Tryz.prog) W 22 22 3 5 (some ⟨bb, dn, none⟩) A3 (L.length - dn) (L.length - dn) f3.length c3 Tryz.underlying22 (by kernel_rfl) (by rw [h0]; exact Nat.zero_min _)
   rw [this, h0]
   rfl
  ·have e : f3 = [] := List.eq_nil_of_length_eq_zero h0
   subst e
   have : putAt L dn [] = L := by unfold putAt; simp
   rw [this]
   exact hW
 ·obtain ⟨a, rfl⟩ : ∃ a, A3 = some a := by
   obtain ⟨ad, eA, _⟩ := Kd.at_int hC 0 (by omega) (by omega)
   exact ⟨ad, eA⟩
  have hmin : Nat.min f3.length (L.length - dn) = f3.length := Nat.min_eq_left (by omega)
  have hr := run_copy_row Tryz.prog W 22 22 3 5 bb dn (L.length - dn) (L.length - dn) a f3.length c3 _ 5 (f3.map u8v) Tryz.underlying22 (by kernel_rfl) hW.by_ (by rw [List.length_map, hmin]) (strip_C hC) (by simp; omega) (by intro v hv; simp at hv; obtain ⟨z, _, rfl⟩ := hv; rfl)
  refine ⟨W.setRow bb ((L.map u8v).toArray.toList.take dn ++ f3.map u8v ++ (L.map u8v).toArray.toList.drop (dn + (f3.map u8v).length)).toArray, by rw [hr, List.length_map]; rfl, ⟨?_, ?_⟩, ?_⟩
  ·rw [setRow_other _ _ _ _ hne, hW.wr, putAt_length hfit]
  ·rw [setRow_heap W bb _ _ 5 _ hW.by_]
   simp [putAt, List.map_take, List.map_drop]
  ·refine ⟨⟨by simp, fun k hk hn2 => ?_⟩, ⟨rfl, rfl, rfl, by simp, fun k hk => by omega⟩⟩
   rw [setRow_other _ _ _ _ (fun e => hn2 (.inr e))]
theorem R_file (w : World) (g bb p sz B : Nat) (L : List Int) (h : WIs w g bb p L) (hl : L.length = sz) (hB : B ≤ bb) (hz : sz ≤ 281474976710656) :
 Kd.R (Kd.int .u8) 5 w B (fun _ => True) (.slice (some ⟨bb, 0, none⟩) sz sz) L := by
 subst hl
 refine Kd.R_of_own (enc := Value.int .u8) (h1 := fun _ => rfl) ?_ (fun _ _ => trivial)
 refine ⟨by simp [encs], .inr ?_⟩
 refine ⟨bb, L.length, (L.map u8v).toArray, rfl, hB, ?_⟩
 refine ⟨h.by_, ?_⟩
 refine ⟨Nat.le_refl _, ?_⟩
 refine ⟨?_, by simp, ?_⟩
 ·unfold maxLen
  omega
 have e : (List.map u8v L).toArray.toList = encs (Value.int .u8) L := by simp [encs]; intro a _; rfl
 rw [e, List.take_of_length_le (by simp [encs])]
theorem info_u8 : (Tryz.prog.info? 5).map (fun i => (i.zero, i.size, i.bytes)) = some (some (.int .u8 0), 1, 1) := by kernel_rfl
theorem make_u8 (n : Nat) (hn : n ≤ 281474976710656) (W : World) : (Instr.makeSlice 22 (.int .i64 (n : Int)) (.int .i64 (n : Int))).run Tryz.prog W = .ok (.slice (some ⟨W.heap.size, 0, none⟩) n n) (W.alloc (.cells ((zs n).map u8v).toArray 5)) := by
 obtain ⟨i0, hi, hz⟩ := Option.map_eq_some_iff.1 info_u8
 simp only [Prod.mk.injEq] at hz
 obtain ⟨hz0, hz1, hz2⟩ := hz
 have hr := run_make (P := Tryz.prog) W 22 5 i0 (.int .u8 0) Tryz.underlying22 hi hz0 .i64 .i64 (n : Int) (n : Int) (by omega) (by omega) (by rw [hz2]; omega) (by omega)
 have hm : madeCells (Value.int .u8 0).cells n = ((zs n).map u8v).toArray := by
  apply Array.ext'
  simp [madeCells, zs, u8v, Value.cells]
  apply List.ext_getElem?
  intro k
  simp [List.getElem?_replicate]
  by_cases hk : k < n <;> simp [hk, Nat.mod_one]
 rw [hr, Int.toNat_natCast, hz1, Nat.mul_one, hm]
end Go.Proofs.YtbnlifldnjgpmaaGreatDoor.PWri
/- image.Write: an image without names. -/
set_option linter.unusedVariables false
set_option linter.unusedSimpArgs false
namespace Go.Proofs.YtbnlifldnjgpmaaGreatDoor.PWri
open Go.RowKit Go.Lib Go.Proofs.YtbnlifldnjgpmaaGreatDoorW.PrintWords
set_option maxHeartbeats 16000000 in
set_option maxRecDepth 1000000 in
theorem write_0 (k : Nat) (a0 : Int) (A1 : Option Addr) (c1 : Nat) (l1 : List S55) (A2 : Option Addr) (c2 : Nat) (l2 : List S82) (w : World) (hr1 : Kd.C k55 w A1 l1.length l1) (hc1 : l1.length ≤ c1) (hr2 : Kd.C k82 w A2 l2.length l2) (hc2 : l2.length ≤ c2) (hG : Glob w)
 (hchk : image_Check.f k a0 l1 l2 = some 0) (data : List Int) (tb tx ti se sz : Nat) (hlay : image_lay.f k a0 l1 l2 = some (data, (tb : Int), (tx : Int), (ti : Int), (se : Int), (sz : Int))) (ok : LayOk l1 l2 data tb tx ti se sz) (hsy0 : l2.length = 0) :
 Calls Tryz.prog 20 #[.agg #[.int .u64 a0, .slice A1 l1.length c1, .slice A2 l2.length c2]] w fun e w' =>
  ∃ v1_ : Value, e = .returned (.tuple #[v1_, .int .i64 0]) ∧ Kd.R (Kd.int .u8) 5 w' w.heap.size (fun _ => True) v1_ (fileL a0 l1 l2 data tb tx ti se sz) ∧ Below w.heap.size w w' := by
 have hll1 : l1.length ≤ 9223372036854775807 := hr1.2.1
 have hll2 : l2.length ≤ 9223372036854775807 := hr2.2.1
 have hz := ok.z
 have hsz := ok.h
 obtain ⟨hb1, hb2, hb3, hb4⟩ := ok.b
 have OKL := Lib.hid ok
 have CCHK := Lib.hid (image_Check.calls k a0 A1 c1 l1 A2 c2 l2 0 (w.alloc (.cells #[Value.int .u64 a0, Value.slice A1 l1.length c1, Value.slice A2 l2.length c2] 28)) (Kd.C_below hr1 ((Below.refl _ _).alloc (Nat.le_refl _) _)) hc1 (Kd.C_below hr2 ((Below.refl _ _).alloc (Nat.le_refl _) _)) hc2 (Glob.step hG ((Below.refl _ _).alloc (Nat.le_refl _) _)) hchk)
 have CLAY := fun W (hb : Below w.heap.size w W) => image_lay.calls k a0 A1 c1 l1 A2 c2 l2 data tb tx ti se sz W (Kd.C_below hr1 hb) hc1 (Kd.C_below hr2 hb) hc2 hlay
 have CLAY := Lib.hid CLAY
 have HR1 := Lib.hid hr1
 have HR2 := Lib.hid hr2
 have MK := fun W => make_u8 sz hz W
 clear hr1 hr2 hG hchk hlay ok
 have HSY := Lib.hid hsy0
 have hsd : decide ((0 : Int) < (l2.length : Int)) = false := decide_eq_false (by omega)
 have hsd2 : decide (0 < l2.length) = false := decide_eq_false (by omega)
 clear hsy0
 go_enter Tryz.func20, Tryz.ntmps20
 go_wp2_with (go_at_call 18; refine CCHK.out.mono ?_; rintro e w1 ⟨rfl, hb⟩; have IB := Lib.hid (blk_under hb (blk_new w _) (by simp)); have i0 := kCe IB.out 0; have i1 := kCe IB.out 1; have i2 := kCe IB.out 2; have B1 := Lib.hid (((Below.refl _ _).alloc (Nat.le_refl _) _).trans (hb.mono (by simp))); clear hb CCHK)
 go_wp2_with (go_at_call 44; refine (CLAY.out _ B1.out).mono ?_; rintro e w2 ⟨v0, rfl, hR, hb⟩; obtain ⟨A0, c0, rfl, hlc, hC⟩ := Kd.R_reads hR; have DC := Lib.hid hC; have B2 := Lib.hid (B1.out.trans (hb.mono B1.out.size)); have IB2 := Lib.hid (blk_under hb IB.out (blk_lt IB.out)); clear hb CLAY i0 i1 i2 IB B1 hC hR)
 obtain ⟨lb, hlb⟩ : ∃ lb, w2.heap.size = lb := ⟨_, rfl⟩
 obtain ⟨LOB, hLOB⟩ : ∃ LOB, Obj.cells #[Value.slice A0 data.length c0, Value.int IntKind.i64 tb, Value.int IntKind.i64 tx, Value.int IntKind.i64 ti, Value.int IntKind.i64 se, Value.int IntKind.i64 sz] 87 = LOB := ⟨_, rfl⟩
 rw [hLOB, hlb]
 obtain ⟨W5, hW5⟩ : ∃ W5, ((w2.alloc LOB).alloc (Obj.cells (List.map u8v (zs sz)).toArray 5)).alloc (Obj.cells #[Value.slice (some ⟨lb + 1, 0, none⟩) sz sz, Value.int IntKind.i64 0] 91) = W5 := ⟨_, rfl⟩
 rw [hW5]
 have e1 : (w2.alloc LOB).heap.size = lb + 1 := by simp [hlb]
 have e2 : ((w2.alloc LOB).alloc (Obj.cells (List.map u8v (zs sz)).toArray 5)).heap.size = lb + 1 + 1 := by simp [hlb]
 have hx1 := blk_new ((w2.alloc LOB).alloc (Obj.cells (List.map u8v (zs sz)).toArray 5)) (Obj.cells #[Value.slice (some ⟨lb + 1, 0, none⟩) sz sz, Value.int IntKind.i64 0] 91)
 have hx2 := kAl (blk_new (w2.alloc LOB) (Obj.cells (List.map u8v (zs sz)).toArray 5)) (Obj.cells #[Value.slice (some ⟨lb + 1, 0, none⟩) sz sz, Value.int IntKind.i64 0] 91)
 have hx3 := kAl (kAl (blk_new w2 LOB) (Obj.cells (List.map u8v (zs sz)).toArray 5)) (Obj.cells #[Value.slice (some ⟨lb + 1, 0, none⟩) sz sz, Value.int IntKind.i64 0] 91)
 rw [e2, hW5] at hx1
 rw [e1, hW5] at hx2
 rw [hlb, hW5] at hx3
 have hb5 : Below w2.heap.size w2 W5 := by rw [← hW5]; exact (((Below.refl _ _).alloc (Nat.le_refl _) _).alloc (by simp) _).alloc (by simp; omega) _
 have B5 := Lib.hid (B2.out.trans (hb5.mono B2.out.size))
 have HW25 := Lib.hid hb5
 have HLBE := Lib.hid hlb
 have IB5 := Lib.hid (blk_under hb5 IB2.out (blk_lt IB2.out))
 have LB5 := Lib.hid hx3
 have hzl : (zs sz).length = sz := by simp [zs]
 have W0 : Hid (WIs W5 (lb + 1 + 1) (lb + 1) 0 (zs sz)) := Lib.hid ⟨by rw [hx1, hzl]; rfl, hx2⟩
 have hS5 : W5.heap.size = lb + 1 + 1 + 1 := by rw [← hW5]; simp [hlb]
 have HS5 := Lib.hid hS5
 have hbw : w.heap.size < lb := by rw [← hlb]; exact blk_lt IB2.out
 have HLOB := Lib.hid hLOB
 clear hx1 hx2 hx3 e1 e2 hb5 B2 IB2 hW5 hS5 hlb hLOB MK
 obtain ⟨T1, hT1⟩ : ∃ T1, putAt (zs sz) 0 (strL elfB) = T1 := ⟨_, rfl⟩
 obtain ⟨T2, hT2⟩ : ∃ T2, putAt T1 16 (putL 2 [2, 243]) = T2 := ⟨_, rfl⟩
 obtain ⟨T3, hT3⟩ : ∃ T3, putAt T2 20 (putL 4 [1]) = T3 := ⟨_, rfl⟩
 obtain ⟨T4, hT4⟩ : ∃ T4, putAt T3 24 (putL 8 [a0, 64, (se : Int)]) = T4 := ⟨_, rfl⟩
 obtain ⟨T5, hT5⟩ : ∃ T5, putAt T4 48 (putL 4 [1]) = T5 := ⟨_, rfl⟩
 obtain ⟨T6, hT6⟩ : ∃ T6, putAt T5 52 (putL 2 [64, 56, (l1.length : Int), 64, 0, 0]) = T6 := ⟨_, rfl⟩
 have k1 : T1.length = sz := by rw [← hT1, putAt_length (by show 0 + 16 ≤ _; omega)]; exact hzl
 have k2 : T2.length = sz := by rw [← hT2, putAt_length (by rw [putL_length]; simp; omega)]; exact k1
 have k3 : T3.length = sz := by rw [← hT3, putAt_length (by rw [putL_length]; simp; omega)]; exact k2
 have k4 : T4.length = sz := by rw [← hT4, putAt_length (by rw [putL_length]; simp; omega)]; exact k3
 have k5 : T5.length = sz := by rw [← hT5, putAt_length (by rw [putL_length]; simp; omega)]; exact k4
 have k6 : T6.length = sz := by rw [← hT6, putAt_length (by rw [putL_length]; simp; omega)]; exact k5
 have D1 := text_w (lb + 1 + 1) (lb + 1) 0 elfB (zs sz) W5 W0.out (by omega) (by omega) (by show 0 + 16 ≤ _; omega) (by show 0 < 16; omega)
 rw [hT1] at D1
 have D2 := fun W (h : WIs W (lb + 1 + 1) (lb + 1) 16 T1) => put_w (lb + 1 + 1) (lb + 1) 2 16 T1 [2, 243] #[.int .u64 2, .int .u64 243] W h rfl 2 rfl (by simp) W.heap.size rfl (by omega) (by omega) (by omega) (by omega)
 simp only [hT2] at D2
 have D3 := fun W (h : WIs W (lb + 1 + 1) (lb + 1) 20 T2) => put_w (lb + 1 + 1) (lb + 1) 4 20 T2 [1] #[.int .u64 1] W h rfl 1 rfl (by simp) W.heap.size rfl (by omega) (by omega) (by omega) (by omega)
 simp only [hT3] at D3
 have D4 := fun W (h : WIs W (lb + 1 + 1) (lb + 1) 24 T3) => put_w (lb + 1 + 1) (lb + 1) 8 24 T3 [a0, 64, (se : Int)] #[.int .u64 a0, .int .u64 64, .int .u64 (se : Int)] W h rfl 3 rfl (by simp) W.heap.size rfl (by omega) (by omega) (by omega) (by omega)
 simp only [hT4] at D4
 have D5 := fun W (h : WIs W (lb + 1 + 1) (lb + 1) 48 T4) => put_w (lb + 1 + 1) (lb + 1) 4 48 T4 [1] #[.int .u64 1] W h rfl 1 rfl (by simp) W.heap.size rfl (by omega) (by omega) (by omega) (by omega)
 simp only [hT5] at D5
 have D6 := fun W (h : WIs W (lb + 1 + 1) (lb + 1) 52 T5) => put_w (lb + 1 + 1) (lb + 1) 2 52 T5 [64, 56, (l1.length : Int), 64, 0, 0] #[.int .u64 64, .int .u64 56, .int .u64 (l1.length : Int), .int .u64 64, .int .u64 0, .int .u64 0] W h rfl 6 rfl (by simp) W.heap.size rfl (by omega) (by omega) (by omega) (by omega)
 simp only [hT6] at D6
 have HD1 := Lib.hid D1
 have HD2 := Lib.hid D2
 have HD3 := Lib.hid D3
 have HD4 := Lib.hid D4
 have HD5 := Lib.hid D5
 have HD6 := Lib.hid D6
 have K6 := Lib.hid k6
 have HT6 : Hid (headPut (zs sz) a0 se l1.length 0 0 = T6) := Lib.hid (by unfold headPut; rw [hT1, hT2, hT3, hT4, hT5, hT6])
 clear D1 D2 D3 D4 D5 D6 k1 k2 k3 k4 k5 k6 hT1 hT2 hT3 hT4 hT5 hT6 hzl
 have hB0 : Below (lb + 1) W5 W5 := Below.refl _ _
 have HB0 := Lib.hid hB0
 clear hB0
 have HGE : Hid (∀ k, S2 (lb + 1 + 1) (lb + 1) k → lb + 1 ≤ k) := Lib.hid (S2_ge (by omega) (by omega))
 go_wp2_with (go_at_call 45; refine HD1.out.mono ?_; rintro e x1 ⟨rfl, hW, hK⟩; have V1 := Lib.hid hW; have HB1 := Lib.hid (Kp.under HB0.out hK HGE.out (by have := HS5.out; omega)); clear hW hK HD1 HB0 W0)
 go_wp2_with (go_at_call 46; refine (HD2.out _ V1.out).mono ?_; rintro e x2 ⟨rfl, hW, hK⟩; have V2 := Lib.hid hW; have HB2 := Lib.hid (Kp.under HB1.out hK HGE.out (by have h1 := HS5.out; have h2 := HB1.out.size; omega)); clear hW hK HD2 HB1 V1)
 go_wp2_with (go_at_call 46; refine (HD3.out _ V2.out).mono ?_; rintro e x3 ⟨rfl, hW, hK⟩; have V3 := Lib.hid hW; have HB3 := Lib.hid (Kp.under HB2.out hK HGE.out (by have h1 := HS5.out; have h2 := HB2.out.size; omega)); have e0 : x3.cell? ⟨w.heap.size, 0, none⟩ = some (Value.int .u64 a0) := (kCe (blk_under HB3.out IB5.out (by omega)) 0); have f4 : x3.cell? ⟨lb, 4, none⟩ = some (Value.int .i64 (se : Int)) := (kCe (blk_under HB3.out (by rw [LB5.out, ← HLOB.out]) (by omega)) 4); clear hW hK HD3 HB2 V2)
 go_wp2_with (go_at_call 46; refine (HD4.out _ V3.out).mono ?_; rintro e x4 ⟨rfl, hW, hK⟩; have V4 := Lib.hid hW; have HB4 := Lib.hid (Kp.under HB3.out hK HGE.out (by have h1 := HS5.out; have h2 := HB3.out.size; omega)); clear hW hK HD4 HB3 V3 e0 f4)
 go_wp2_with (go_at_call 46; refine (HD5.out _ V4.out).mono ?_; rintro e x5 ⟨rfl, hW, hK⟩; have V5 := Lib.hid hW; have HB5 := Lib.hid (Kp.under HB4.out hK HGE.out (by have h1 := HS5.out; have h2 := HB4.out.size; omega)); have e1 : x5.cell? ⟨w.heap.size, 1, none⟩ = some (Value.slice A1 l1.length c1) := (kCe (blk_under HB5.out IB5.out (by omega)) 1); have e2 : x5.cell? ⟨w.heap.size, 2, none⟩ = some (Value.slice A2 l2.length c2) := (kCe (blk_under HB5.out IB5.out (by omega)) 2); clear hW hK HD5 HB4 V4)
 go_wp2_with (go_at_call 46; refine (HD6.out _ V5.out).mono ?_; rintro e x6 ⟨rfl, hW, hK⟩; have V6 := Lib.hid hW; have HB6 := Lib.hid (Kp.under HB5.out hK HGE.out (by have h1 := HS5.out; have h2 := HB5.out.size; omega)); have e1 : x6.cell? ⟨w.heap.size, 1, none⟩ = some (Value.slice A1 l1.length c1) := (kCe (blk_under HB6.out IB5.out (by omega)) 1); clear hW hK HD6 HB5 V5 e2)
 obtain ⟨FP, hFP⟩ : ∃ FP, phPut T6 64 data l1 = FP := ⟨_, rfl⟩
 have HFP := Lib.hid hFP
 clear hFP
 go_loopw [60] (fun v60 wx => ∃ (j : Nat) (Lj : List Int), v60 = .int .i64 (j : Int) ∧ j ≤ l1.length ∧ Hid (WIs wx (lb + 1 + 1) (lb + 1) (64 + 56 * j) Lj) ∧ Hid (Below (lb + 1) W5 wx) ∧ Hid (phPut Lj (64 + 56 * j) (data.drop j) (l1.drop j) = FP ∧ Lj.length = sz)) (fun v60 _ => l1.length - (RowKit.intOf v60).toNat)
 case atStart => exact ⟨0, T6, rfl, Nat.zero_le _, V6, HB6, Lib.hid ⟨HFP.out, K6.out⟩⟩
 case round =>
  obtain ⟨j, Lj, rfl, hj, HWj, HBj, HXj⟩ := hrel
  by_cases hjl : j < l1.length
  ·have hbw5 : Below w.heap.size w wr := B5.out.trans (HBj.out.mono (by omega))
   obtain ⟨ad, A3, c3, eA, x0, x1, x2, x3, hl3, hC3⟩ := at_T55 (Kd.C_below HR1.out hbw5) (j : Int) (by omega) (by omega)
   subst eA
   rw [Int.toNat_natCast] at x0 x1 x2 x3
   obtain ⟨sg, hsg⟩ : ∃ sg, rd_T55 l1 (j : Int) = sg := ⟨_, rfl⟩
   rw [hsg] at x0 x1 x2 x3 hl3 hC3
   have hlen3 : sg.f3.length ≤ 9223372036854775807 := hC3.2.1
   have hdn := OKL.out.n
   obtain ⟨ad0, eA0, hcd⟩ := Kd.at_int DC.out (j : Int) (by omega) (by omega)
   subst eA0
   rw [Int.toNat_natCast] at hcd
   have HLT := Lib.hid (World.block_lt_of_cell? w2 _ hcd)
   have HNad : Hid (¬ S2 (lb + 1 + 1) (lb + 1) (ad0.add j).block) := Lib.hid (by have h1 := HLT.out; have h2 := HLBE.out; rintro (h | h) <;> omega)
   have hjd : (j : Int) < (data.length : Int) := by omega
   have hdd := OKL.out.d j hjl
   obtain ⟨dv, hdv⟩ : ∃ dv, rd data (j : Int) = dv := ⟨_, rfl⟩
   rw [hdv] at hcd hdd
   rw [hsg] at hdd
   obtain ⟨hd0, _, hd1⟩ := hdd
   have hgr : lb + 1 + 1 < wr.heap.size := blk_lt HWj.out.wr
   have hbr : lb + 1 < wr.heap.size := by omega
   have HNS : Hid (¬ S2 (lb + 1 + 1) (lb + 1) wr.heap.size) := Lib.hid (by rintro (h | h) <;> omega)
   have hLj := HXj.out.2
   obtain ⟨q, hq⟩ : ∃ q, 64 + 56 * j = q := ⟨_, rfl⟩
   rw [hq] at HWj
   obtain ⟨L1, hL1⟩ : ∃ L1, putAt Lj q (putL 4 [1, IntKind.u64.wrap (turnV sg.f2)]) = L1 := ⟨_, rfl⟩
   obtain ⟨L2, hL2⟩ : ∃ L2, putAt L1 (q + 8) (putL 8 [dv, sg.f0, sg.f0, (sg.f3.length : Int), sg.f1, 1]) = L2 := ⟨_, rfl⟩
   have m1 : L1.length = sz := by rw [← hL1, putAt_length (by rw [putL_length]; simp; omega)]; exact hLj
   have m2 : L2.length = sz := by rw [← hL2, putAt_length (by rw [putL_length]; simp; omega)]; exact m1
   have ew1 : IntKind.u64.wrap dv = dv := by rw [IntKind.wrap_u64]; omega
   have ew2 : IntKind.u64.wrap (sg.f3.length : Int) = (sg.f3.length : Int) := by rw [IntKind.wrap_u64]; omega
   have D1 := fun W (h : WIs W (lb + 1 + 1) (lb + 1) q Lj) => put_w (lb + 1 + 1) (lb + 1) 4 q Lj [1, IntKind.u64.wrap (turnV sg.f2)] #[.int .u64 1, .int .u64 (IntKind.u64.wrap (turnV sg.f2))] W h rfl 2 rfl (by simp) W.heap.size rfl (by omega) (by omega) (by omega) (by omega)
   have D2 := fun W (h : WIs W (lb + 1 + 1) (lb + 1) (q + 8) L1) => put_w (lb + 1 + 1) (lb + 1) 8 (q + 8) L1 [dv, sg.f0, sg.f0, (sg.f3.length : Int), sg.f1, 1] #[.int .u64 (IntKind.u64.wrap dv), .int .u64 sg.f0, .int .u64 sg.f0, .int .u64 (IntKind.u64.wrap (sg.f3.length : Int)), .int .u64 sg.f1, .int .u64 1] W h (by rw [ew1, ew2]; rfl) 6 rfl (by simp) W.heap.size rfl (by omega) (by omega) (by omega) (by omega)
   simp only [hL1] at D1
   simp only [hL2] at D2
   have HD1 := Lib.hid D1
   have HD2 := Lib.hid D2
   have ht : image_turned.f sg.f2 = some (turnV sg.f2) := rfl
   have HT := Lib.hid (fun W => image_turned.calls sg.f2 (turnV sg.f2) W ht)
   have HFJ : Hid (phPut L2 (64 + 56 * (j + 1)) (data.drop (j + 1)) (l1.drop (j + 1)) = FP ∧ L2.length = sz) := Lib.hid (by
    refine ⟨?_, m2⟩
    have h := HXj.out.1
    have g1 : data.drop j = dv :: data.drop (j + 1) := by
     have h1 := hdv
     unfold rd at h1
     rw [Int.toNat_natCast, List.getD_eq_getElem?_getD, List.getElem?_eq_getElem (by omega)] at h1
     rw [← show data[j] = dv from h1]
     exact List.drop_eq_getElem_cons (by omega)
    have g2 : l1.drop j = sg :: l1.drop (j + 1) := by
     have h1 := hsg
     unfold rd_T55 at h1
     rw [Int.toNat_natCast, List.getD_eq_getElem?_getD, List.getElem?_eq_getElem hjl] at h1
     rw [← show l1[j] = sg from h1]
     exact List.drop_eq_getElem_cons hjl
    rw [g1, g2, phPut, hq, hL1, hL2, show q + 56 = 64 + 56 * (j + 1) by omega] at h
    exact h)
   have HNlb : Hid (¬ S2 (lb + 1 + 1) (lb + 1) lb) := Lib.hid (by rintro (h | h) <;> omega)
   have HCD := Lib.hid hcd
   have HQ := Lib.hid hq
   clear D1 D2 m1 m2 hL1 hL2 hLj hq hsg hdv hbw5 ht hcd HXj hC3 ew1 ew2 hdn
   go_wp2_with (go_at_call 47; refine (HT.out _).mono ?_; rintro e y1 ⟨rfl, hd⟩; have Vy := Lib.hid (show WIs y1 (lb + 1 + 1) (lb + 1) q Lj from ⟨blk_under hd.below (HWj.out.alloc _).wr (by simp; omega), blk_under hd.below (HWj.out.alloc _).by_ (by simp; omega)⟩); have SBy := Lib.hid (blk_under hd.below (blk_new wr _) (by simp)); have HBy := Lib.hid ((HBj.out.alloc (by omega) _).trans (hd.below.mono (by simp; omega))); clear hd HT)
   go_wp2_with (go_at_call 46; refine (HD1.out _ Vy.out).mono ?_; rintro e y2 ⟨rfl, hW, hK⟩; have Vz := Lib.hid hW; have HBz := Lib.hid (Kp.under HBy.out hK HGE.out (by have := HBy.out.size; have := HS5.out; omega)); have SBz := Lib.hid (blk_kp SBy.out hK HNS.out); clear hW hK HD1 Vy SBy HBy)
   have f0 : y2.cell? ⟨lb, 0, none⟩ = some (.slice (some ad0) data.length c0) := kCe (blk_under HBz.out (by rw [LB5.out, ← HLOB.out]) (by omega)) 0
   have fd : y2.cell? (ad0.add j) = some (.int .i64 dv) := (((HW25.out).trans (HBz.out.mono (by rw [HLBE.out]; omega))).cell HLT.out).trans HCD.out
   have g0 : y2.cell? ⟨wr.heap.size, 0, none⟩ = some (.int .u64 sg.f0) := kCe SBz.out 0
   have g1 : y2.cell? ⟨wr.heap.size, 1, none⟩ = some (.int .u64 sg.f1) := kCe SBz.out 1
   have g3 : y2.cell? ⟨wr.heap.size, 3, none⟩ = some (.slice A3 sg.f3.length c3) := kCe SBz.out 3
   have hd : (0 : Int) ≤ (j : Int) := Int.natCast_nonneg _
   have HF : Hid (∀ y3, Kp y2.drew y3 (S2 (lb + 1 + 1) (lb + 1)) → y3.cell? ⟨lb, 0, none⟩ = some (.slice (some ad0) data.length c0) ∧ y3.cell? (ad0.add j) = some (.int .i64 dv) ∧ y3.cell? ⟨wr.heap.size, 0, none⟩ = some (.int .u64 sg.f0) ∧ y3.cell? ⟨wr.heap.size, 1, none⟩ = some (.int .u64 sg.f1) ∧ y3.cell? ⟨wr.heap.size, 3, none⟩ = some (.slice A3 sg.f3.length c3)) := Lib.hid (fun y3 hK => ⟨cell_kp (W := y2.drew) f0 hK HNlb.out, cell_kp (W := y2.drew) fd hK HNad.out, cell_kp (W := y2.drew) g0 hK HNS.out, cell_kp (W := y2.drew) g1 hK HNS.out, cell_kp (W := y2.drew) g3 hK HNS.out⟩)
   go_region_held3 (fun w' => w'.cell? ⟨lb, 0, none⟩ = some (.slice (some ad0) data.length c0) ∧ w'.cell? (ad0.add j) = some (.int .i64 dv) ∧ w'.cell? ⟨wr.heap.size, 0, none⟩ = some (.int .u64 sg.f0) ∧ w'.cell? ⟨wr.heap.size, 1, none⟩ = some (.int .u64 sg.f1) ∧ w'.cell? ⟨wr.heap.size, 3, none⟩ = some (.slice A3 sg.f3.length c3))
    (first | exact HF.out _ hK | go_keep)
    ((go_at_call 46; refine (HD2.out y2.drew ⟨Vz.out.1, Vz.out.2⟩).mono ?_; rintro e y3 ⟨rfl, hW, hK⟩))
   go_wp2
   have hw3 := hW
   have e8 : q + 8 + 8 * 6 = 64 + 56 * (j + 1) := by have := HQ.out; omega
   rw [e8] at hw3
   exact ⟨⟨j + 1, L2, by simp, by omega, Lib.hid hw3, Lib.hid (Kp.under HBz.out.drew hK HGE.out (by have := HBz.out.size; have := HS5.out; simp; omega)), HFJ⟩, by simp [RowKit.intOf]; omega⟩
  ·have hje : j = l1.length := by omega
   subst hje
   have h1 := HXj.out
   rw [List.drop_length] at h1
   have h2 : Lj = FP := by
    have := h1.1
    rw [phPut] at this
    ·exact this
    ·intro d ds s r _ h; cases h
   subst h2
   have K7 := Lib.hid h1.2
   have s1 : wr.cell? ⟨w.heap.size, 1, none⟩ = some (.slice A1 l1.length c1) := kCe (blk_under HBj.out IB5.out (by omega)) 1
   clear h1 HXj
   go_wp2
   obtain ⟨FD, hFD⟩ : ∃ FD, dataPut Lj data l1 = FD := ⟨_, rfl⟩
   have HFD := Lib.hid hFD
   clear hFD s1
   go_loopw [95] (fun v95 wx => ∃ (j : Nat) (Lk : List Int), v95 = .int .i64 (j : Int) ∧ j ≤ l1.length ∧ Hid (WIs wx (lb + 1 + 1) (lb + 1) (64 + 56 * l1.length) Lk) ∧ Hid (Below (lb + 1) W5 wx) ∧ Hid (dataPut Lk (data.drop j) (l1.drop j) = FD ∧ Lk.length = sz)) (fun v95 _ => l1.length - (RowKit.intOf v95).toNat)
   case atStart => exact ⟨0, Lj, rfl, Nat.zero_le _, HWj, HBj, Lib.hid ⟨HFD.out, K7.out⟩⟩
   case round =>
    obtain ⟨j, Lk, rfl, hj, HWk, HBk, HXk⟩ := hrel
    by_cases hjl : j < l1.length
    ·have hbw5 : Below w.heap.size w wr := B5.out.trans (HBk.out.mono (by omega))
     obtain ⟨ad, A3, c3, eA, x0, x1, x2, x3, hl3, hC3⟩ := at_T55 (Kd.C_below HR1.out hbw5) (j : Int) (by omega) (by omega)
     subst eA
     rw [Int.toNat_natCast] at x0 x1 x2 x3
     obtain ⟨sg, hsg⟩ : ∃ sg, rd_T55 l1 (j : Int) = sg := ⟨_, rfl⟩
     rw [hsg] at x0 x1 x2 x3 hl3 hC3
     have hdn := OKL.out.n
     obtain ⟨ad0, eA0, hcd⟩ := Kd.at_int DC.out (j : Int) (by omega) (by omega)
     subst eA0
     rw [Int.toNat_natCast] at hcd
     have hlt := World.block_lt_of_cell? w2 _ hcd
     have hdd := OKL.out.d j hjl
     obtain ⟨dv, hdv⟩ : ∃ dv, rd data (j : Int) = dv := ⟨_, rfl⟩
     rw [hdv] at hcd hdd
     rw [hsg] at hdd
     obtain ⟨hd0, hd2, hd1⟩ := hdd
     obtain ⟨dn, rfl⟩ := Int.eq_ofNat_of_zero_le hd0
     have hgr : lb + 1 + 1 < wr.heap.size := blk_lt HWk.out.wr
     have hLk := HXk.out.2
     obtain ⟨y, hy⟩ : ∃ y, wr.alloc (.cells #[.int .u64 sg.f0, .int .u64 sg.f1, .int .i64 sg.f2, .slice A3 sg.f3.length c3] 55) = y := ⟨_, rfl⟩
     have hwy : WIs y.drew (lb + 1 + 1) (lb + 1) (64 + 56 * l1.length) Lk := by rw [← hy]; exact ⟨(HWk.out.alloc _).1, (HWk.out.alloc _).2⟩
     have hby : Below (lb + 1) W5 y.drew := by rw [← hy]; exact (HBk.out.alloc (by omega) _).drew
     have hCy : Kd.C (Kd.int .u8) y.drew A3 sg.f3.length sg.f3 := by rw [← hy]; exact Kd.C_below hC3 ((Below.refl _ _).alloc (Nat.le_refl _) _).drew
     obtain ⟨W2, hcopy, hW2, hK2⟩ := copy_bytes y.drew (lb + 1 + 1) (lb + 1) (64 + 56 * l1.length) dn Lk A3 c3 sg.f3 hwy (by omega) hCy (by rw [hLk]; omega)
     rw [hLk] at hcopy
     have f0 : y.cell? ⟨lb, 0, none⟩ = some (.slice (some ad0) data.length c0) := by
      have hl := blk_under hby LB5.out (by omega)
      rw [← HLOB.out] at hl
      exact kCe hl 0
     have fd : y.cell? (ad0.add j) = some (.int .i64 (dn : Int)) := (((HW25.out).trans (hby.mono (by rw [HLBE.out]; omega))).cell hlt).trans hcd
     have g3 : y.cell? ⟨wr.heap.size, 3, none⟩ = some (.slice A3 sg.f3.length c3) := by rw [← hy]; exact kCe (blk_new wr _) 3
     have gb : y.cell? ⟨lb + 1 + 1, 0, none⟩ = some (.slice (some ⟨lb + 1, 0, none⟩) sz sz) := by have := kCe hwy.wr 0; rw [hLk] at this; exact this
     have hjd : (j : Int) < (data.length : Int) := by omega
     have hjd0 : (0 : Int) ≤ (j : Int) := Int.natCast_nonneg _
     have hnp : ¬ sz = dn := by omega
     have HFJ : Hid (dataPut (putAt Lk dn sg.f3) (data.drop (j + 1)) (l1.drop (j + 1)) = FD ∧ (putAt Lk dn sg.f3).length = sz) := Lib.hid (by
      refine ⟨?_, by rw [putAt_length (by rw [hLk]; omega)]; exact hLk⟩
      have h := HXk.out.1
      have g1 : data.drop j = (dn : Int) :: data.drop (j + 1) := by
       have h1 := hdv
       unfold rd at h1
       rw [Int.toNat_natCast, List.getD_eq_getElem?_getD, List.getElem?_eq_getElem (by omega)] at h1
       rw [← show data[j] = (dn : Int) from h1]
       exact List.drop_eq_getElem_cons (by omega)
      have g2 : l1.drop j = sg :: l1.drop (j + 1) := by
       have h1 := hsg
       unfold rd_T55 at h1
       rw [Int.toNat_natCast, List.getD_eq_getElem?_getD, List.getElem?_eq_getElem hjl] at h1
       rw [← show l1[j] = sg from h1]
       exact List.drop_eq_getElem_cons hjl
      rw [g1, g2, dataPut, Int.toNat_natCast] at h
      exact h)
     have HWW := Lib.hid hW2
     have HKK := Lib.hid hK2
     have HBY := Lib.hid hby
     have HYE := Lib.hid hy
     clear hwy hCy hW2 hK2 hby hy hsg hdv hbw5 hcd HXk hC3 hLk hlt hdn
     go_wp2
     rw [HYE.out]
     refine wp_region_still_tail 12 (by kernel_rfl) (by kernel_rfl) ?_
     simp only [List.take_succ_cons, List.take_zero, List.drop_succ_cons, List.drop_zero]
     change wpStill _ _ y.drew _ _ _
     have f0z : y.drew.cell? ⟨lb, 0, none⟩ = some (.slice (some ad0) data.length c0) := f0
     have fdz : y.drew.cell? (ad0.add j) = some (.int .i64 (dn : Int)) := fd
     have g3z : y.drew.cell? ⟨wr.heap.size, 3, none⟩ = some (.slice A3 sg.f3.length c3) := g3
     have gbz : y.drew.cell? ⟨lb + 1 + 1, 0, none⟩ = some (.slice (some ⟨lb + 1, 0, none⟩) sz sz) := gb
     have HSZ := Lib.hid HBY.out.size
     obtain ⟨z9, hz9⟩ : ∃ z9, y.drew = z9 := ⟨_, rfl⟩
     rw [hz9] at f0z fdz g3z gbz hcopy HBY HKK
     rw [hz9]
     have HZ9 := Lib.hid hz9
     have hdn3 : dn ≤ sz := by omega
     clear f0 fd g3 gb HYE hz9
     repeat still_step
     refine wpStill_nil ?_
     change wpList _ _ _ _ _ y.drew
     rw [HZ9.out]
     go_wp2
     have hs := HBY.out.size
     exact ⟨⟨j + 1, _, by simp, by omega, HWW, Lib.hid (Kp.under HBY.out HKK.out HGE.out (by have := HS5.out; omega)), HFJ⟩, by simp [RowKit.intOf]; omega⟩
    ·have hje : j = l1.length := by omega
     subst hje
     have h1 := HXk.out
     rw [List.drop_length] at h1
     have h2 : Lk = FD := by
      have := h1.1
      rw [dataPut] at this
      ·exact this
      ·intro d ds s r _ h; cases h
     subst h2
     have K8 := Lib.hid h1.2
     have s2 : wr.cell? ⟨w.heap.size, 2, none⟩ = some (.slice A2 l2.length c2) := kCe (blk_under HBk.out IB5.out (by omega)) 2
     have gb : wr.cell? ⟨lb + 1 + 1, 0, none⟩ = some (.slice (some ⟨lb + 1, 0, none⟩) sz sz) := by have := kCe HWk.out.wr 0; rw [K8.out] at this; exact this
     have hbw5 : Below w.heap.size w wr := B5.out.trans (HBk.out.mono (by omega))
     have HB9 := Lib.hid hbw5
     clear h1 hbw5 HXk
     go_wp2
     have hfl : Lk = fileL a0 l1 l2 data tb tx ti se sz := by
      unfold fileL
      rw [if_neg (by have := HSY.out; omega), HT6.out, HFP.out, HFD.out]
     have hfin := R_file wr (lb + 1 + 1) (lb + 1) _ sz w.heap.size _ HWk.out K8.out (by omega) hz
     rw [hfl] at hfin
     have hb9 := HB9.out
     clear hfl
     refine bodyPost_ret (v := .tuple #[.slice (some ⟨lb + 1, 0, none⟩) sz sz, .int .i64 0]) ?_ rfl ⟨_, rfl, hfin, hb9⟩
     clear hfin hb9
     simp [results, Tryz.results20, go_sem]
end Go.Proofs.YtbnlifldnjgpmaaGreatDoor.PWri
/- image.Write: an image with names. -/
set_option linter.unusedVariables false
set_option linter.unusedSimpArgs false
namespace Go.Proofs.YtbnlifldnjgpmaaGreatDoor.PWri
open Go.RowKit Go.Lib Go.Proofs.YtbnlifldnjgpmaaGreatDoorW.PrintWords
set_option maxHeartbeats 16000000 in
set_option maxRecDepth 1000000 in
theorem write_1 (k : Nat) (a0 : Int) (A1 : Option Addr) (c1 : Nat) (l1 : List S55) (A2 : Option Addr) (c2 : Nat) (l2 : List S82) (w : World) (hr1 : Kd.C k55 w A1 l1.length l1) (hc1 : l1.length ≤ c1) (hr2 : Kd.C k82 w A2 l2.length l2) (hc2 : l2.length ≤ c2) (hG : Glob w)
 (hchk : image_Check.f k a0 l1 l2 = some 0) (data : List Int) (tb tx ti se sz : Nat) (hlay : image_lay.f k a0 l1 l2 = some (data, (tb : Int), (tx : Int), (ti : Int), (se : Int), (sz : Int))) (ok : LayOk l1 l2 data tb tx ti se sz) (hsy : 0 < l2.length) :
 Calls Tryz.prog 20 #[.agg #[.int .u64 a0, .slice A1 l1.length c1, .slice A2 l2.length c2]] w fun e w' =>
  ∃ v1_ : Value, e = .returned (.tuple #[v1_, .int .i64 0]) ∧ Kd.R (Kd.int .u8) 5 w' w.heap.size (fun _ => True) v1_ (fileL a0 l1 l2 data tb tx ti se sz) ∧ Below w.heap.size w w' := by
 have hll1 : l1.length ≤ 9223372036854775807 := hr1.2.1
 have hll2 : l2.length ≤ 9223372036854775807 := hr2.2.1
 have hz := ok.z
 have hsz := ok.h
 obtain ⟨hb1, hb2, hb3, hb4⟩ := ok.b
 have OKL := Lib.hid ok
 have CCHK := Lib.hid (image_Check.calls k a0 A1 c1 l1 A2 c2 l2 0 (w.alloc (.cells #[Value.int .u64 a0, Value.slice A1 l1.length c1, Value.slice A2 l2.length c2] 28)) (Kd.C_below hr1 ((Below.refl _ _).alloc (Nat.le_refl _) _)) hc1 (Kd.C_below hr2 ((Below.refl _ _).alloc (Nat.le_refl _) _)) hc2 (Glob.step hG ((Below.refl _ _).alloc (Nat.le_refl _) _)) hchk)
 have CLAY := fun W (hb : Below w.heap.size w W) => image_lay.calls k a0 A1 c1 l1 A2 c2 l2 data tb tx ti se sz W (Kd.C_below hr1 hb) hc1 (Kd.C_below hr2 hb) hc2 hlay
 have CLAY := Lib.hid CLAY
 have HR1 := Lib.hid hr1
 have HR2 := Lib.hid hr2
 have MK := fun W => make_u8 sz hz W
 clear hr1 hr2 hG hchk hlay ok
 go_enter Tryz.func20, Tryz.ntmps20
 go_wp2_with (go_at_call 18; refine CCHK.out.mono ?_; rintro e w1 ⟨rfl, hb⟩; have IB := Lib.hid (blk_under hb (blk_new w _) (by simp)); have i0 := kCe IB.out 0; have i1 := kCe IB.out 1; have i2 := kCe IB.out 2; have B1 := Lib.hid (((Below.refl _ _).alloc (Nat.le_refl _) _).trans (hb.mono (by simp))); clear hb CCHK)
 go_wp2_with (go_at_call 44; refine (CLAY.out _ B1.out).mono ?_; rintro e w2 ⟨v0, rfl, hR, hb⟩; obtain ⟨A0, c0, rfl, hlc, hC⟩ := Kd.R_reads hR; have DC := Lib.hid hC; have B2 := Lib.hid (B1.out.trans (hb.mono B1.out.size)); have IB2 := Lib.hid (blk_under hb IB.out (blk_lt IB.out)); clear hb CLAY i0 i1 i2 IB B1 hC hR)
 obtain ⟨lb, hlb⟩ : ∃ lb, w2.heap.size = lb := ⟨_, rfl⟩
 obtain ⟨LOB, hLOB⟩ : ∃ LOB, Obj.cells #[Value.slice A0 data.length c0, Value.int IntKind.i64 tb, Value.int IntKind.i64 tx, Value.int IntKind.i64 ti, Value.int IntKind.i64 se, Value.int IntKind.i64 sz] 87 = LOB := ⟨_, rfl⟩
 rw [hLOB, hlb]
 obtain ⟨W5, hW5⟩ : ∃ W5, ((w2.alloc LOB).alloc (Obj.cells (List.map u8v (zs sz)).toArray 5)).alloc (Obj.cells #[Value.slice (some ⟨lb + 1, 0, none⟩) sz sz, Value.int IntKind.i64 0] 91) = W5 := ⟨_, rfl⟩
 rw [hW5]
 have e1 : (w2.alloc LOB).heap.size = lb + 1 := by simp [hlb]
 have e2 : ((w2.alloc LOB).alloc (Obj.cells (List.map u8v (zs sz)).toArray 5)).heap.size = lb + 1 + 1 := by simp [hlb]
 have hx1 := blk_new ((w2.alloc LOB).alloc (Obj.cells (List.map u8v (zs sz)).toArray 5)) (Obj.cells #[Value.slice (some ⟨lb + 1, 0, none⟩) sz sz, Value.int IntKind.i64 0] 91)
 have hx2 := kAl (blk_new (w2.alloc LOB) (Obj.cells (List.map u8v (zs sz)).toArray 5)) (Obj.cells #[Value.slice (some ⟨lb + 1, 0, none⟩) sz sz, Value.int IntKind.i64 0] 91)
 have hx3 := kAl (kAl (blk_new w2 LOB) (Obj.cells (List.map u8v (zs sz)).toArray 5)) (Obj.cells #[Value.slice (some ⟨lb + 1, 0, none⟩) sz sz, Value.int IntKind.i64 0] 91)
 rw [e2, hW5] at hx1
 rw [e1, hW5] at hx2
 rw [hlb, hW5] at hx3
 have hb5 : Below w2.heap.size w2 W5 := by rw [← hW5]; exact (((Below.refl _ _).alloc (Nat.le_refl _) _).alloc (by simp) _).alloc (by simp; omega) _
 have B5 := Lib.hid (B2.out.trans (hb5.mono B2.out.size))
 have HW25 := Lib.hid hb5
 have HLBE := Lib.hid hlb
 have IB5 := Lib.hid (blk_under hb5 IB2.out (blk_lt IB2.out))
 have LB5 := Lib.hid hx3
 have hzl : (zs sz).length = sz := by simp [zs]
 have W0 : Hid (WIs W5 (lb + 1 + 1) (lb + 1) 0 (zs sz)) := Lib.hid ⟨by rw [hx1, hzl]; rfl, hx2⟩
 have hS5 : W5.heap.size = lb + 1 + 1 + 1 := by rw [← hW5]; simp [hlb]
 have HS5 := Lib.hid hS5
 have hbw : w.heap.size < lb := by rw [← hlb]; exact blk_lt IB2.out
 have HLOB := Lib.hid hLOB
 clear hx1 hx2 hx3 e1 e2 hb5 B2 IB2 hW5 hS5 hlb hLOB MK
 obtain ⟨T1, hT1⟩ : ∃ T1, putAt (zs sz) 0 (strL elfB) = T1 := ⟨_, rfl⟩
 obtain ⟨T2, hT2⟩ : ∃ T2, putAt T1 16 (putL 2 [2, 243]) = T2 := ⟨_, rfl⟩
 obtain ⟨T3, hT3⟩ : ∃ T3, putAt T2 20 (putL 4 [1]) = T3 := ⟨_, rfl⟩
 obtain ⟨T4, hT4⟩ : ∃ T4, putAt T3 24 (putL 8 [a0, 64, (se : Int)]) = T4 := ⟨_, rfl⟩
 obtain ⟨T5, hT5⟩ : ∃ T5, putAt T4 48 (putL 4 [1]) = T5 := ⟨_, rfl⟩
 obtain ⟨T6, hT6⟩ : ∃ T6, putAt T5 52 (putL 2 [64, 56, (l1.length : Int), 64, 4, 3]) = T6 := ⟨_, rfl⟩
 have k1 : T1.length = sz := by rw [← hT1, putAt_length (by show 0 + 16 ≤ _; omega)]; exact hzl
 have k2 : T2.length = sz := by rw [← hT2, putAt_length (by rw [putL_length]; simp; omega)]; exact k1
 have k3 : T3.length = sz := by rw [← hT3, putAt_length (by rw [putL_length]; simp; omega)]; exact k2
 have k4 : T4.length = sz := by rw [← hT4, putAt_length (by rw [putL_length]; simp; omega)]; exact k3
 have k5 : T5.length = sz := by rw [← hT5, putAt_length (by rw [putL_length]; simp; omega)]; exact k4
 have k6 : T6.length = sz := by rw [← hT6, putAt_length (by rw [putL_length]; simp; omega)]; exact k5
 have D1 := text_w (lb + 1 + 1) (lb + 1) 0 elfB (zs sz) W5 W0.out (by omega) (by omega) (by show 0 + 16 ≤ _; omega) (by show 0 < 16; omega)
 rw [hT1] at D1
 have D2 := fun W (h : WIs W (lb + 1 + 1) (lb + 1) 16 T1) => put_w (lb + 1 + 1) (lb + 1) 2 16 T1 [2, 243] #[.int .u64 2, .int .u64 243] W h rfl 2 rfl (by simp) W.heap.size rfl (by omega) (by omega) (by omega) (by omega)
 simp only [hT2] at D2
 have D3 := fun W (h : WIs W (lb + 1 + 1) (lb + 1) 20 T2) => put_w (lb + 1 + 1) (lb + 1) 4 20 T2 [1] #[.int .u64 1] W h rfl 1 rfl (by simp) W.heap.size rfl (by omega) (by omega) (by omega) (by omega)
 simp only [hT3] at D3
 have D4 := fun W (h : WIs W (lb + 1 + 1) (lb + 1) 24 T3) => put_w (lb + 1 + 1) (lb + 1) 8 24 T3 [a0, 64, (se : Int)] #[.int .u64 a0, .int .u64 64, .int .u64 (se : Int)] W h rfl 3 rfl (by simp) W.heap.size rfl (by omega) (by omega) (by omega) (by omega)
 simp only [hT4] at D4
 have D5 := fun W (h : WIs W (lb + 1 + 1) (lb + 1) 48 T4) => put_w (lb + 1 + 1) (lb + 1) 4 48 T4 [1] #[.int .u64 1] W h rfl 1 rfl (by simp) W.heap.size rfl (by omega) (by omega) (by omega) (by omega)
 simp only [hT5] at D5
 have D6 := fun W (h : WIs W (lb + 1 + 1) (lb + 1) 52 T5) => put_w (lb + 1 + 1) (lb + 1) 2 52 T5 [64, 56, (l1.length : Int), 64, 4, 3] #[.int .u64 64, .int .u64 56, .int .u64 (l1.length : Int), .int .u64 64, .int .u64 4, .int .u64 3] W h rfl 6 rfl (by simp) W.heap.size rfl (by omega) (by omega) (by omega) (by omega)
 simp only [hT6] at D6
 have HD1 := Lib.hid D1
 have HD2 := Lib.hid D2
 have HD3 := Lib.hid D3
 have HD4 := Lib.hid D4
 have HD5 := Lib.hid D5
 have HD6 := Lib.hid D6
 have K6 := Lib.hid k6
 have HT6 : Hid (headPut (zs sz) a0 se l1.length 4 3 = T6) := Lib.hid (by unfold headPut; rw [hT1, hT2, hT3, hT4, hT5, hT6])
 clear D1 D2 D3 D4 D5 D6 k1 k2 k3 k4 k5 k6 hT1 hT2 hT3 hT4 hT5 hT6 hzl
 have hB0 : Below (lb + 1) W5 W5 := Below.refl _ _
 have HB0 := Lib.hid hB0
 clear hB0
 have HGE : Hid (∀ k, S2 (lb + 1 + 1) (lb + 1) k → lb + 1 ≤ k) := Lib.hid (S2_ge (by omega) (by omega))
 go_wp2_with (go_at_call 45; refine HD1.out.mono ?_; rintro e x1 ⟨rfl, hW, hK⟩; have V1 := Lib.hid hW; have HB1 := Lib.hid (Kp.under HB0.out hK HGE.out (by have := HS5.out; omega)); clear hW hK HD1 HB0 W0)
 go_wp2_with (go_at_call 46; refine (HD2.out _ V1.out).mono ?_; rintro e x2 ⟨rfl, hW, hK⟩; have V2 := Lib.hid hW; have HB2 := Lib.hid (Kp.under HB1.out hK HGE.out (by have h1 := HS5.out; have h2 := HB1.out.size; omega)); clear hW hK HD2 HB1 V1)
 go_wp2_with (go_at_call 46; refine (HD3.out _ V2.out).mono ?_; rintro e x3 ⟨rfl, hW, hK⟩; have V3 := Lib.hid hW; have HB3 := Lib.hid (Kp.under HB2.out hK HGE.out (by have h1 := HS5.out; have h2 := HB2.out.size; omega)); have e0 : x3.cell? ⟨w.heap.size, 0, none⟩ = some (Value.int .u64 a0) := (kCe (blk_under HB3.out IB5.out (by omega)) 0); have f4 : x3.cell? ⟨lb, 4, none⟩ = some (Value.int .i64 (se : Int)) := (kCe (blk_under HB3.out (by rw [LB5.out, ← HLOB.out]) (by omega)) 4); clear hW hK HD3 HB2 V2)
 go_wp2_with (go_at_call 46; refine (HD4.out _ V3.out).mono ?_; rintro e x4 ⟨rfl, hW, hK⟩; have V4 := Lib.hid hW; have HB4 := Lib.hid (Kp.under HB3.out hK HGE.out (by have h1 := HS5.out; have h2 := HB3.out.size; omega)); clear hW hK HD4 HB3 V3 e0 f4)
 go_wp2_with (go_at_call 46; refine (HD5.out _ V4.out).mono ?_; rintro e x5 ⟨rfl, hW, hK⟩; have V5 := Lib.hid hW; have HB5 := Lib.hid (Kp.under HB4.out hK HGE.out (by have h1 := HS5.out; have h2 := HB4.out.size; omega)); have e1 : x5.cell? ⟨w.heap.size, 1, none⟩ = some (Value.slice A1 l1.length c1) := (kCe (blk_under HB5.out IB5.out (by omega)) 1); have e2 : x5.cell? ⟨w.heap.size, 2, none⟩ = some (Value.slice A2 l2.length c2) := (kCe (blk_under HB5.out IB5.out (by omega)) 2); clear hW hK HD5 HB4 V4)
 go_wp2_with (go_at_call 46; refine (HD6.out _ V5.out).mono ?_; rintro e x6 ⟨rfl, hW, hK⟩; have V6 := Lib.hid hW; have HB6 := Lib.hid (Kp.under HB5.out hK HGE.out (by have h1 := HS5.out; have h2 := HB5.out.size; omega)); have e1 : x6.cell? ⟨w.heap.size, 1, none⟩ = some (Value.slice A1 l1.length c1) := (kCe (blk_under HB6.out IB5.out (by omega)) 1); clear hW hK HD6 HB5 V5 e2)
 obtain ⟨FP, hFP⟩ : ∃ FP, phPut T6 64 data l1 = FP := ⟨_, rfl⟩
 have HFP := Lib.hid hFP
 clear hFP
 go_loopw [60] (fun v60 wx => ∃ (j : Nat) (Lj : List Int), v60 = .int .i64 (j : Int) ∧ j ≤ l1.length ∧ Hid (WIs wx (lb + 1 + 1) (lb + 1) (64 + 56 * j) Lj) ∧ Hid (Below (lb + 1) W5 wx) ∧ Hid (phPut Lj (64 + 56 * j) (data.drop j) (l1.drop j) = FP ∧ Lj.length = sz)) (fun v60 _ => l1.length - (RowKit.intOf v60).toNat)
 case atStart => exact ⟨0, T6, rfl, Nat.zero_le _, V6, HB6, Lib.hid ⟨HFP.out, K6.out⟩⟩
 case round =>
  obtain ⟨j, Lj, rfl, hj, HWj, HBj, HXj⟩ := hrel
  by_cases hjl : j < l1.length
  ·have hbw5 : Below w.heap.size w wr := B5.out.trans (HBj.out.mono (by omega))
   obtain ⟨ad, A3, c3, eA, x0, x1, x2, x3, hl3, hC3⟩ := at_T55 (Kd.C_below HR1.out hbw5) (j : Int) (by omega) (by omega)
   subst eA
   rw [Int.toNat_natCast] at x0 x1 x2 x3
   obtain ⟨sg, hsg⟩ : ∃ sg, rd_T55 l1 (j : Int) = sg := ⟨_, rfl⟩
   rw [hsg] at x0 x1 x2 x3 hl3 hC3
   have hlen3 : sg.f3.length ≤ 9223372036854775807 := hC3.2.1
   have hdn := OKL.out.n
   obtain ⟨ad0, eA0, hcd⟩ := Kd.at_int DC.out (j : Int) (by omega) (by omega)
   subst eA0
   rw [Int.toNat_natCast] at hcd
   have HLT := Lib.hid (World.block_lt_of_cell? w2 _ hcd)
   have HNad : Hid (¬ S2 (lb + 1 + 1) (lb + 1) (ad0.add j).block) := Lib.hid (by have h1 := HLT.out; have h2 := HLBE.out; rintro (h | h) <;> omega)
   have hjd : (j : Int) < (data.length : Int) := by omega
   have hdd := OKL.out.d j hjl
   obtain ⟨dv, hdv⟩ : ∃ dv, rd data (j : Int) = dv := ⟨_, rfl⟩
   rw [hdv] at hcd hdd
   rw [hsg] at hdd
   obtain ⟨hd0, _, hd1⟩ := hdd
   have hgr : lb + 1 + 1 < wr.heap.size := blk_lt HWj.out.wr
   have hbr : lb + 1 < wr.heap.size := by omega
   have HNS : Hid (¬ S2 (lb + 1 + 1) (lb + 1) wr.heap.size) := Lib.hid (by rintro (h | h) <;> omega)
   have hLj := HXj.out.2
   obtain ⟨q, hq⟩ : ∃ q, 64 + 56 * j = q := ⟨_, rfl⟩
   rw [hq] at HWj
   obtain ⟨L1, hL1⟩ : ∃ L1, putAt Lj q (putL 4 [1, IntKind.u64.wrap (turnV sg.f2)]) = L1 := ⟨_, rfl⟩
   obtain ⟨L2, hL2⟩ : ∃ L2, putAt L1 (q + 8) (putL 8 [dv, sg.f0, sg.f0, (sg.f3.length : Int), sg.f1, 1]) = L2 := ⟨_, rfl⟩
   have m1 : L1.length = sz := by rw [← hL1, putAt_length (by rw [putL_length]; simp; omega)]; exact hLj
   have m2 : L2.length = sz := by rw [← hL2, putAt_length (by rw [putL_length]; simp; omega)]; exact m1
   have ew1 : IntKind.u64.wrap dv = dv := by rw [IntKind.wrap_u64]; omega
   have ew2 : IntKind.u64.wrap (sg.f3.length : Int) = (sg.f3.length : Int) := by rw [IntKind.wrap_u64]; omega
   have D1 := fun W (h : WIs W (lb + 1 + 1) (lb + 1) q Lj) => put_w (lb + 1 + 1) (lb + 1) 4 q Lj [1, IntKind.u64.wrap (turnV sg.f2)] #[.int .u64 1, .int .u64 (IntKind.u64.wrap (turnV sg.f2))] W h rfl 2 rfl (by simp) W.heap.size rfl (by omega) (by omega) (by omega) (by omega)
   have D2 := fun W (h : WIs W (lb + 1 + 1) (lb + 1) (q + 8) L1) => put_w (lb + 1 + 1) (lb + 1) 8 (q + 8) L1 [dv, sg.f0, sg.f0, (sg.f3.length : Int), sg.f1, 1] #[.int .u64 (IntKind.u64.wrap dv), .int .u64 sg.f0, .int .u64 sg.f0, .int .u64 (IntKind.u64.wrap (sg.f3.length : Int)), .int .u64 sg.f1, .int .u64 1] W h (by rw [ew1, ew2]; rfl) 6 rfl (by simp) W.heap.size rfl (by omega) (by omega) (by omega) (by omega)
   simp only [hL1] at D1
   simp only [hL2] at D2
   have HD1 := Lib.hid D1
   have HD2 := Lib.hid D2
   have ht : image_turned.f sg.f2 = some (turnV sg.f2) := rfl
   have HT := Lib.hid (fun W => image_turned.calls sg.f2 (turnV sg.f2) W ht)
   have HFJ : Hid (phPut L2 (64 + 56 * (j + 1)) (data.drop (j + 1)) (l1.drop (j + 1)) = FP ∧ L2.length = sz) := Lib.hid (by
    refine ⟨?_, m2⟩
    have h := HXj.out.1
    have g1 : data.drop j = dv :: data.drop (j + 1) := by
     have h1 := hdv
     unfold rd at h1
     rw [Int.toNat_natCast, List.getD_eq_getElem?_getD, List.getElem?_eq_getElem (by omega)] at h1
     rw [← show data[j] = dv from h1]
     exact List.drop_eq_getElem_cons (by omega)
    have g2 : l1.drop j = sg :: l1.drop (j + 1) := by
     have h1 := hsg
     unfold rd_T55 at h1
     rw [Int.toNat_natCast, List.getD_eq_getElem?_getD, List.getElem?_eq_getElem hjl] at h1
     rw [← show l1[j] = sg from h1]
     exact List.drop_eq_getElem_cons hjl
    rw [g1, g2, phPut, hq, hL1, hL2, show q + 56 = 64 + 56 * (j + 1) by omega] at h
    exact h)
   have HNlb : Hid (¬ S2 (lb + 1 + 1) (lb + 1) lb) := Lib.hid (by rintro (h | h) <;> omega)
   have HCD := Lib.hid hcd
   have HQ := Lib.hid hq
   clear D1 D2 m1 m2 hL1 hL2 hLj hq hsg hdv hbw5 ht hcd HXj hC3 ew1 ew2 hdn
   go_wp2_with (go_at_call 47; refine (HT.out _).mono ?_; rintro e y1 ⟨rfl, hd⟩; have Vy := Lib.hid (show WIs y1 (lb + 1 + 1) (lb + 1) q Lj from ⟨blk_under hd.below (HWj.out.alloc _).wr (by simp; omega), blk_under hd.below (HWj.out.alloc _).by_ (by simp; omega)⟩); have SBy := Lib.hid (blk_under hd.below (blk_new wr _) (by simp)); have HBy := Lib.hid ((HBj.out.alloc (by omega) _).trans (hd.below.mono (by simp; omega))); clear hd HT)
   go_wp2_with (go_at_call 46; refine (HD1.out _ Vy.out).mono ?_; rintro e y2 ⟨rfl, hW, hK⟩; have Vz := Lib.hid hW; have HBz := Lib.hid (Kp.under HBy.out hK HGE.out (by have := HBy.out.size; have := HS5.out; omega)); have SBz := Lib.hid (blk_kp SBy.out hK HNS.out); clear hW hK HD1 Vy SBy HBy)
   have f0 : y2.cell? ⟨lb, 0, none⟩ = some (.slice (some ad0) data.length c0) := kCe (blk_under HBz.out (by rw [LB5.out, ← HLOB.out]) (by omega)) 0
   have fd : y2.cell? (ad0.add j) = some (.int .i64 dv) := (((HW25.out).trans (HBz.out.mono (by rw [HLBE.out]; omega))).cell HLT.out).trans HCD.out
   have g0 : y2.cell? ⟨wr.heap.size, 0, none⟩ = some (.int .u64 sg.f0) := kCe SBz.out 0
   have g1 : y2.cell? ⟨wr.heap.size, 1, none⟩ = some (.int .u64 sg.f1) := kCe SBz.out 1
   have g3 : y2.cell? ⟨wr.heap.size, 3, none⟩ = some (.slice A3 sg.f3.length c3) := kCe SBz.out 3
   have hd : (0 : Int) ≤ (j : Int) := Int.natCast_nonneg _
   have HF : Hid (∀ y3, Kp y2.drew y3 (S2 (lb + 1 + 1) (lb + 1)) → y3.cell? ⟨lb, 0, none⟩ = some (.slice (some ad0) data.length c0) ∧ y3.cell? (ad0.add j) = some (.int .i64 dv) ∧ y3.cell? ⟨wr.heap.size, 0, none⟩ = some (.int .u64 sg.f0) ∧ y3.cell? ⟨wr.heap.size, 1, none⟩ = some (.int .u64 sg.f1) ∧ y3.cell? ⟨wr.heap.size, 3, none⟩ = some (.slice A3 sg.f3.length c3)) := Lib.hid (fun y3 hK => ⟨cell_kp (W := y2.drew) f0 hK HNlb.out, cell_kp (W := y2.drew) fd hK HNad.out, cell_kp (W := y2.drew) g0 hK HNS.out, cell_kp (W := y2.drew) g1 hK HNS.out, cell_kp (W := y2.drew) g3 hK HNS.out⟩)
   go_region_held3 (fun w' => w'.cell? ⟨lb, 0, none⟩ = some (.slice (some ad0) data.length c0) ∧ w'.cell? (ad0.add j) = some (.int .i64 dv) ∧ w'.cell? ⟨wr.heap.size, 0, none⟩ = some (.int .u64 sg.f0) ∧ w'.cell? ⟨wr.heap.size, 1, none⟩ = some (.int .u64 sg.f1) ∧ w'.cell? ⟨wr.heap.size, 3, none⟩ = some (.slice A3 sg.f3.length c3))
    (first | exact HF.out _ hK | go_keep)
    ((go_at_call 46; refine (HD2.out y2.drew ⟨Vz.out.1, Vz.out.2⟩).mono ?_; rintro e y3 ⟨rfl, hW, hK⟩))
   go_wp2
   have hw3 := hW
   have e8 : q + 8 + 8 * 6 = 64 + 56 * (j + 1) := by have := HQ.out; omega
   rw [e8] at hw3
   exact ⟨⟨j + 1, L2, by simp, by omega, Lib.hid hw3, Lib.hid (Kp.under HBz.out.drew hK HGE.out (by have := HBz.out.size; have := HS5.out; simp; omega)), HFJ⟩, by simp [RowKit.intOf]; omega⟩
  ·have hje : j = l1.length := by omega
   subst hje
   have h1 := HXj.out
   rw [List.drop_length] at h1
   have h2 : Lj = FP := by
    have := h1.1
    rw [phPut] at this
    ·exact this
    ·intro d ds s r _ h; cases h
   subst h2
   have K7 := Lib.hid h1.2
   have s1 : wr.cell? ⟨w.heap.size, 1, none⟩ = some (.slice A1 l1.length c1) := kCe (blk_under HBj.out IB5.out (by omega)) 1
   clear h1 HXj
   go_wp2
   obtain ⟨FD, hFD⟩ : ∃ FD, dataPut Lj data l1 = FD := ⟨_, rfl⟩
   have HFD := Lib.hid hFD
   clear hFD s1
   go_loopw [95] (fun v95 wx => ∃ (j : Nat) (Lk : List Int), v95 = .int .i64 (j : Int) ∧ j ≤ l1.length ∧ Hid (WIs wx (lb + 1 + 1) (lb + 1) (64 + 56 * l1.length) Lk) ∧ Hid (Below (lb + 1) W5 wx) ∧ Hid (dataPut Lk (data.drop j) (l1.drop j) = FD ∧ Lk.length = sz)) (fun v95 _ => l1.length - (RowKit.intOf v95).toNat)
   case atStart => exact ⟨0, Lj, rfl, Nat.zero_le _, HWj, HBj, Lib.hid ⟨HFD.out, K7.out⟩⟩
   case round =>
    obtain ⟨j, Lk, rfl, hj, HWk, HBk, HXk⟩ := hrel
    by_cases hjl : j < l1.length
    ·have hbw5 : Below w.heap.size w wr := B5.out.trans (HBk.out.mono (by omega))
     obtain ⟨ad, A3, c3, eA, x0, x1, x2, x3, hl3, hC3⟩ := at_T55 (Kd.C_below HR1.out hbw5) (j : Int) (by omega) (by omega)
     subst eA
     rw [Int.toNat_natCast] at x0 x1 x2 x3
     obtain ⟨sg, hsg⟩ : ∃ sg, rd_T55 l1 (j : Int) = sg := ⟨_, rfl⟩
     rw [hsg] at x0 x1 x2 x3 hl3 hC3
     have hdn := OKL.out.n
     obtain ⟨ad0, eA0, hcd⟩ := Kd.at_int DC.out (j : Int) (by omega) (by omega)
     subst eA0
     rw [Int.toNat_natCast] at hcd
     have hlt := World.block_lt_of_cell? w2 _ hcd
     have hdd := OKL.out.d j hjl
     obtain ⟨dv, hdv⟩ : ∃ dv, rd data (j : Int) = dv := ⟨_, rfl⟩
     rw [hdv] at hcd hdd
     rw [hsg] at hdd
     obtain ⟨hd0, hd2, hd1⟩ := hdd
     obtain ⟨dn, rfl⟩ := Int.eq_ofNat_of_zero_le hd0
     have hgr : lb + 1 + 1 < wr.heap.size := blk_lt HWk.out.wr
     have hLk := HXk.out.2
     obtain ⟨y, hy⟩ : ∃ y, wr.alloc (.cells #[.int .u64 sg.f0, .int .u64 sg.f1, .int .i64 sg.f2, .slice A3 sg.f3.length c3] 55) = y := ⟨_, rfl⟩
     have hwy : WIs y.drew (lb + 1 + 1) (lb + 1) (64 + 56 * l1.length) Lk := by rw [← hy]; exact ⟨(HWk.out.alloc _).1, (HWk.out.alloc _).2⟩
     have hby : Below (lb + 1) W5 y.drew := by rw [← hy]; exact (HBk.out.alloc (by omega) _).drew
     have hCy : Kd.C (Kd.int .u8) y.drew A3 sg.f3.length sg.f3 := by rw [← hy]; exact Kd.C_below hC3 ((Below.refl _ _).alloc (Nat.le_refl _) _).drew
     obtain ⟨W2, hcopy, hW2, hK2⟩ := copy_bytes y.drew (lb + 1 + 1) (lb + 1) (64 + 56 * l1.length) dn Lk A3 c3 sg.f3 hwy (by omega) hCy (by rw [hLk]; omega)
     rw [hLk] at hcopy
     have f0 : y.cell? ⟨lb, 0, none⟩ = some (.slice (some ad0) data.length c0) := by
      have hl := blk_under hby LB5.out (by omega)
      rw [← HLOB.out] at hl
      exact kCe hl 0
     have fd : y.cell? (ad0.add j) = some (.int .i64 (dn : Int)) := (((HW25.out).trans (hby.mono (by rw [HLBE.out]; omega))).cell hlt).trans hcd
     have g3 : y.cell? ⟨wr.heap.size, 3, none⟩ = some (.slice A3 sg.f3.length c3) := by rw [← hy]; exact kCe (blk_new wr _) 3
     have gb : y.cell? ⟨lb + 1 + 1, 0, none⟩ = some (.slice (some ⟨lb + 1, 0, none⟩) sz sz) := by have := kCe hwy.wr 0; rw [hLk] at this; exact this
     have hjd : (j : Int) < (data.length : Int) := by omega
     have hjd0 : (0 : Int) ≤ (j : Int) := Int.natCast_nonneg _
     have hnp : ¬ sz = dn := by omega
     have HFJ : Hid (dataPut (putAt Lk dn sg.f3) (data.drop (j + 1)) (l1.drop (j + 1)) = FD ∧ (putAt Lk dn sg.f3).length = sz) := Lib.hid (by
      refine ⟨?_, by rw [putAt_length (by rw [hLk]; omega)]; exact hLk⟩
      have h := HXk.out.1
      have g1 : data.drop j = (dn : Int) :: data.drop (j + 1) := by
       have h1 := hdv
       unfold rd at h1
       rw [Int.toNat_natCast, List.getD_eq_getElem?_getD, List.getElem?_eq_getElem (by omega)] at h1
       rw [← show data[j] = (dn : Int) from h1]
       exact List.drop_eq_getElem_cons (by omega)
      have g2 : l1.drop j = sg :: l1.drop (j + 1) := by
       have h1 := hsg
       unfold rd_T55 at h1
       rw [Int.toNat_natCast, List.getD_eq_getElem?_getD, List.getElem?_eq_getElem hjl] at h1
       rw [← show l1[j] = sg from h1]
       exact List.drop_eq_getElem_cons hjl
      rw [g1, g2, dataPut, Int.toNat_natCast] at h
      exact h)
     have HWW := Lib.hid hW2
     have HKK := Lib.hid hK2
     have HBY := Lib.hid hby
     have HYE := Lib.hid hy
     clear hwy hCy hW2 hK2 hby hy hsg hdv hbw5 hcd HXk hC3 hLk hlt hdn
     go_wp2
     rw [HYE.out]
     refine wp_region_still_tail 12 (by kernel_rfl) (by kernel_rfl) ?_
     simp only [List.take_succ_cons, List.take_zero, List.drop_succ_cons, List.drop_zero]
     change wpStill _ _ y.drew _ _ _
     have f0z : y.drew.cell? ⟨lb, 0, none⟩ = some (.slice (some ad0) data.length c0) := f0
     have fdz : y.drew.cell? (ad0.add j) = some (.int .i64 (dn : Int)) := fd
     have g3z : y.drew.cell? ⟨wr.heap.size, 3, none⟩ = some (.slice A3 sg.f3.length c3) := g3
     have gbz : y.drew.cell? ⟨lb + 1 + 1, 0, none⟩ = some (.slice (some ⟨lb + 1, 0, none⟩) sz sz) := gb
     have HSZ := Lib.hid HBY.out.size
     obtain ⟨z9, hz9⟩ : ∃ z9, y.drew = z9 := ⟨_, rfl⟩
     rw [hz9] at f0z fdz g3z gbz hcopy HBY HKK
     rw [hz9]
     have HZ9 := Lib.hid hz9
     have hdn3 : dn ≤ sz := by omega
     clear f0 fd g3 gb HYE hz9
     repeat still_step
     refine wpStill_nil ?_
     change wpList _ _ _ _ _ y.drew
     rw [HZ9.out]
     go_wp2
     have hs := HBY.out.size
     exact ⟨⟨j + 1, _, by simp, by omega, HWW, Lib.hid (Kp.under HBY.out HKK.out HGE.out (by have := HS5.out; omega)), HFJ⟩, by simp [RowKit.intOf]; omega⟩
    ·have hje : j = l1.length := by omega
     subst hje
     have h1 := HXk.out
     rw [List.drop_length] at h1
     have h2 : Lk = FD := by
      have := h1.1
      rw [dataPut] at this
      ·exact this
      ·intro d ds s r _ h; cases h
     subst h2
     have K8 := Lib.hid h1.2
     have s2 : wr.cell? ⟨w.heap.size, 2, none⟩ = some (.slice A2 l2.length c2) := kCe (blk_under HBk.out IB5.out (by omega)) 2
     have lbk := blk_under HBk.out LB5.out (by omega)
     rw [← HLOB.out] at lbk
     have t0 : wr.cell? ⟨lb, 0, none⟩ = some (.slice A0 data.length c0) := kCe lbk 0
     have t1 : wr.cell? ⟨lb, 1, none⟩ = some (.int .i64 (tb : Int)) := kCe lbk 1
     have t2 : wr.cell? ⟨lb, 2, none⟩ = some (.int .i64 (tx : Int)) := kCe lbk 2
     have t3 : wr.cell? ⟨lb, 3, none⟩ = some (.int .i64 (ti : Int)) := kCe lbk 3
     have t4 : wr.cell? ⟨lb, 4, none⟩ = some (.int .i64 (se : Int)) := kCe lbk 4
     have t5 : wr.cell? ⟨lb, 5, none⟩ = some (.int .i64 (sz : Int)) := kCe lbk 5
     obtain ⟨n1, n2, n3, n4, n5, n6⟩ := OKL.out.nm hsy
     have hk8 := K8.out
     have hbw5 : Below w.heap.size w wr := B5.out.trans (HBk.out.mono (by omega))
     have hgr : lb + 1 + 1 < wr.heap.size := blk_lt HWk.out.wr
     have HNM := Lib.hid (wnames_c (lb + 1 + 1) (lb + 1) c2 (64 + 56 * l1.length) A2 l2 Lk (.slice A0 data.length c0) tb tx ti se sz wr HWk.out (by omega) (by omega)
      (Kd.C_kept_came' HR2.out hbw5 (S2_ge (by omega) (by omega))) hc2 (by omega) hb1 hb2 (by omega) n6 (by omega) hb4 (by omega) n4 n5 hb3)
     have hnl : (namesAll Lk tb tx ti se l2).length = sz := by
      rw [namesAll_length (by omega) (by omega) (by omega), hk8]
     have HNL := Lib.hid hnl
     have HB9 := Lib.hid hbw5
     clear lbk h1 n1 n2 n3 n4 n5 n6 hk8 hbw5 HXk hnl
     go_wp2_with (go_at_call 48; refine HNM.out.mono ?_; rintro e y1 ⟨rfl, hW, hK⟩; have Vn := Lib.hid hW; have Kn := Lib.hid hK; have gb : y1.cell? ⟨lb + 1 + 1, 0, none⟩ = some (.slice (some ⟨lb + 1, 0, none⟩) sz sz) := (by have := kCe hW.wr 0; rw [HNL.out] at this; exact this); clear hW hK HNM s2 t0 t1 t2 t3 t4 t5)
     have hb9 := Kp.under HB9.out Kn.out (S2_ge (by omega) (by omega)) HB9.out.size
     have hvn := Vn.out
     have hfl : namesAll Lk tb tx ti se l2 = fileL a0 l1 l2 data tb tx ti se sz := by
      unfold fileL
      rw [if_pos hsy, HT6.out, HFP.out, HFD.out]
     have hfin := R_file y1 (lb + 1 + 1) (lb + 1) (se + 256) sz w.heap.size _ hvn HNL.out (by omega) hz
     rw [hfl] at hfin
     clear hfl hvn
     refine bodyPost_ret (v := .tuple #[.slice (some ⟨lb + 1, 0, none⟩) sz sz, .int .i64 0]) ?_ rfl ⟨_, rfl, hfin, hb9⟩
     clear hfin hb9
     simp [results, Tryz.results20, go_sem]
end Go.Proofs.YtbnlifldnjgpmaaGreatDoor.PWri
/- image.Write: an image that Check refuses. -/
set_option linter.unusedVariables false
set_option linter.unusedSimpArgs false
namespace Go.Proofs.YtbnlifldnjgpmaaGreatDoor.PWri
open Go.RowKit Go.Lib Go.Proofs.YtbnlifldnjgpmaaGreatDoorW.PrintWords
set_option maxHeartbeats 4000000 in
set_option maxRecDepth 100000 in
theorem write_e (k : Nat) (a0 : Int) (A1 : Option Addr) (c1 : Nat) (l1 : List S55) (A2 : Option Addr) (c2 : Nat) (l2 : List S82) (w : World) (hr1 : Kd.C k55 w A1 l1.length l1) (hc1 : l1.length ≤ c1) (hr2 : Kd.C k82 w A2 l2.length l2) (hc2 : l2.length ≤ c2) (hG : Glob w)
 (r : Int) (hchk : image_Check.f k a0 l1 l2 = some r) (hr : ¬ r = 0) :
 Calls Tryz.prog 20 #[.agg #[.int .u64 a0, .slice A1 l1.length c1, .slice A2 l2.length c2]] w fun e w' =>
  e = .returned (.tuple #[.slice none 0 0, .int .i64 r]) ∧ Below w.heap.size w w' := by
 have hll1 : l1.length ≤ 9223372036854775807 := hr1.2.1
 have hll2 : l2.length ≤ 9223372036854775807 := hr2.2.1
 have CCHK := Lib.hid (image_Check.calls k a0 A1 c1 l1 A2 c2 l2 r (w.alloc (.cells #[Value.int .u64 a0, Value.slice A1 l1.length c1, Value.slice A2 l2.length c2] 28)) (Kd.C_below hr1 ((Below.refl _ _).alloc (Nat.le_refl _) _)) hc1 (Kd.C_below hr2 ((Below.refl _ _).alloc (Nat.le_refl _) _)) hc2 (Glob.step hG ((Below.refl _ _).alloc (Nat.le_refl _) _)) hchk)
 have hr1' : (r != 0) = true := bne_iff_ne.mpr hr
 have hr2' : (r == 0) = false := beq_eq_false_iff_ne.mpr hr
 clear hr1 hr2 hG hchk
 go_enter Tryz.func20, Tryz.ntmps20
 go_wp2_with (go_at_call 18; refine CCHK.out.mono ?_; rintro e w1 ⟨rfl, hb⟩; have B1 := Lib.hid (((Below.refl _ _).alloc (Nat.le_refl _) _).trans (hb.mono (by simp))); clear hb CCHK)
 refine bodyPost_ret (v := .tuple #[.slice none 0 0, .int .i64 r]) ?_ rfl ⟨rfl, B1.out⟩
 simp [results, Tryz.results20, go_sem]
end Go.Proofs.YtbnlifldnjgpmaaGreatDoor.PWri
-- BY PROGRAM of this session (the kit's printer, turned by wip/tools/patch_print.py). Lean checks it.
namespace Go.Proofs.YtbnlifldnjgpmaaGreatDoor.PWri
open Go.RowKit Go.Proofs.YtbnlifldnjgpmaaGreatDoorW.PrintWords Go.Proofs.YtbnlifldnjgpmaaGreatDoorW.PrintLast Go.Proofs.YtbnlifldnjgpmaaGreatDoorW.PrintMore
attribute [local go_sem] max2_int min2_int max_two min_two max_three min_three max_four min_four   -- for this text's walks alone
set_option linter.unusedVariables false
set_option linter.unusedSimpArgs false
-- NEEDS anvil/image.Check,anvil/image.lay,anvil/image.turned
-- IMPORT Derived.Test.YtbnlifldnjgpmaaGreatDoorWrite0,Derived.Test.YtbnlifldnjgpmaaGreatDoorWrite1,Derived.Test.YtbnlifldnjgpmaaGreatDoorWriteE
instance layOkDec (l1 : List S55) (l2 : List S82) (data : List Int) (tb tx ti se sz : Nat) : Decidable (LayOk l1 l2 data tb tx ti se sz) :=
 decidable_of_iff (data.length = l1.length ∧ (∀ j, j < l1.length → 0 ≤ rd data (j : Int) ∧ rd data (j : Int) < sz ∧ rd data (j : Int) + ((rd_T55 l1 (j : Int)).f3.length : Int) ≤ sz) ∧ 64 + 56 * l1.length ≤ sz ∧ sz ≤ 281474976710656 ∧ (tb < 4611686018427387904 ∧ tx < 4611686018427387904 ∧ ti < 4611686018427387904 ∧ se < 4611686018427387904) ∧
  (0 < l2.length → tb + 24 + 24 * l2.length ≤ sz ∧ tx + 1 + total l2 + 27 ≤ sz ∧ se + 256 ≤ sz ∧ tb ≤ tx ∧ tx ≤ ti ∧ ∀ s ∈ l2, 0 < s.f0.size))
  ⟨fun ⟨a, b, c, d, e, f⟩ => ⟨a, b, c, d, e, f⟩, fun ⟨a, b, c, d, e, f⟩ => ⟨a, b, c, d, e, f⟩⟩
def image_Write.f (k : Nat) (a0_0 : Int) (l0_1 : List (S55)) (l0_2 : List (S82)) : Option (List Int × Int) :=
 (image_Check.f k a0_0 l0_1 l0_2).bind fun e => if e = 0 then ((image_lay.f k a0_0 l0_1 l0_2).bind fun y => if 0 ≤ y.2.1 ∧ 0 ≤ y.2.2.1 ∧ 0 ≤ y.2.2.2.1 ∧ 0 ≤ y.2.2.2.2.1 ∧ 0 ≤ y.2.2.2.2.2 ∧ LayOk l0_1 l0_2 y.1 y.2.1.toNat y.2.2.1.toNat y.2.2.2.1.toNat y.2.2.2.2.1.toNat y.2.2.2.2.2.toNat then some (fileL a0_0 l0_1 l0_2 y.1 y.2.1.toNat y.2.2.1.toNat y.2.2.2.1.toNat y.2.2.2.2.1.toNat y.2.2.2.2.2.toNat, 0) else none) else some ([], e)
theorem image_Write.mono : ∀ a0 a1 a2 k, LeO (image_Write.f k a0 a1 a2) (image_Write.f (k + 1) a0 a1 a2) := by
 intro a0 a1 a2 k
 unfold image_Write.f
 refine LeO.bind (image_Check.mono _ _ _ _) (fun e => ?_)
 by_cases h : e = 0
 ·rw [if_pos h, if_pos h]
  exact LeO.bind (image_lay.mono _ _ _ _) (fun _ => LeO.refl _)
 ·rw [if_neg h, if_neg h]
  exact LeO.refl _
theorem image_Write.calls (k : Nat) (a0_0 : Int) (A0_1 : Option Addr) (c0_1 : Nat) (l0_1 : List (S55)) (A0_2 : Option Addr) (c0_2 : Nat) (l0_2 : List (S82)) (r1 : List Int) (r2 : Int) (w : World) (hr0_1 : Kd.C k55 w A0_1 l0_1.length l0_1) (hc0_1 : l0_1.length ≤ c0_1) (hr0_2 : Kd.C k82 w A0_2 l0_2.length l0_2) (hc0_2 : l0_2.length ≤ c0_2) (hG : Glob w) (h : image_Write.f k a0_0 l0_1 l0_2 = some (r1, r2)) :
 Calls Tryz.prog 20 #[.agg #[.int .u64 a0_0, .slice A0_1 l0_1.length c0_1, .slice A0_2 l0_2.length c0_2]] w fun e w' => ∃ v1_ : Value, e = .returned (.tuple #[v1_, .int .i64 r2]) ∧ Kd.R (Kd.int .u8) 5 w' w.heap.size (fun _ => True) v1_ r1 ∧ Below w.heap.size w w' := by
 unfold image_Write.f at h
 cases hc : image_Check.f k a0_0 l0_1 l0_2 with
 | none => rw [hc] at h; cases h
 | some e =>
  rw [hc] at h
  simp only [Option.bind_some] at h
  by_cases he : e = 0
  ·subst he
   rw [if_pos rfl] at h
   cases hl : image_lay.f k a0_0 l0_1 l0_2 with
   | none => rw [hl] at h; cases h
   | some y =>
    obtain ⟨data, tb, tx, ti, se, sz⟩ := y
    rw [hl] at h
    simp only [Option.bind_some] at h
    split at h
    ·rename_i hok
     obtain ⟨h1, h2, h3, h4, h5, ok⟩ := hok
     obtain ⟨tb, rfl⟩ := Int.eq_ofNat_of_zero_le h1
     obtain ⟨tx, rfl⟩ := Int.eq_ofNat_of_zero_le h2
     obtain ⟨ti, rfl⟩ := Int.eq_ofNat_of_zero_le h3
     obtain ⟨se, rfl⟩ := Int.eq_ofNat_of_zero_le h4
     obtain ⟨sz, rfl⟩ := Int.eq_ofNat_of_zero_le h5
     simp only [Int.toNat_natCast] at ok h
     cases h
     rcases (by omega : l0_2.length = 0 ∨ 0 < l0_2.length) with hsy | hsy
     ·exact write_0 k a0_0 A0_1 c0_1 l0_1 A0_2 c0_2 l0_2 w hr0_1 hc0_1 hr0_2 hc0_2 hG hc data tb tx ti se sz hl ok hsy
     ·exact write_1 k a0_0 A0_1 c0_1 l0_1 A0_2 c0_2 l0_2 w hr0_1 hc0_1 hr0_2 hc0_2 hG hc data tb tx ti se sz hl ok hsy
    ·cases h
  ·rw [if_neg he] at h
   cases h
   refine (write_e k a0_0 A0_1 c0_1 l0_1 A0_2 c0_2 l0_2 w hr0_1 hc0_1 hr0_2 hc0_2 hG _ hc he).mono ?_
   rintro e' w' ⟨rfl, hb⟩
   exact ⟨_, rfl, Kd.R_nil _ _ _ _ _, hb⟩
end Go.Proofs.YtbnlifldnjgpmaaGreatDoor.PWri
-- BY PROGRAM of this session (the kit's printer, turned by wip/tools/patch_print.py). Lean checks it.
namespace Go.Proofs.YtbnlifldnjgpmaaGreatDoor.PWri
open Go.RowKit Go.Proofs.YtbnlifldnjgpmaaGreatDoorW.PrintWords Go.Proofs.YtbnlifldnjgpmaaGreatDoorW.PrintLast Go.Proofs.YtbnlifldnjgpmaaGreatDoorW.PrintMore
attribute [local go_sem] max2_int min2_int max_two min_two max_three min_three max_four min_four   -- for this text's walks alone
set_option linter.unusedVariables false
set_option linter.unusedSimpArgs false
theorem eqA82 (d : Nat) (w : World) (x0 y0 : ByteArray) (x1 y1 : Int) :
 (Op.equalIn (d + 2) 82 (.agg #[.string x0, .int .u64 x1]) (.agg #[.string y0, .int .u64 y1])).run Tryz.prog w = .ok (x0.toList == y0.toList && (x1 == y1)) w := by
 refine eqA_of Tryz.underlying82 (by kernel_rfl) ?_
 refine eqf_cons (by rfl) (by go_simp; rfl) (by go_simp; rfl) (by go_simp) ?_
 exact eqf_last (by rfl) (by go_simp; rfl) (by go_simp; rfl) (by go_simp)
end Go.Proofs.YtbnlifldnjgpmaaGreatDoor.PWri
