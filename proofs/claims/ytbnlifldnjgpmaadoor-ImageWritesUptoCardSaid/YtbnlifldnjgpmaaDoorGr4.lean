-- BY PROGRAM of this session (wip/tools/home.sh): the parts of the print in which these stand: image_Check image_lay image_turned image_Write anvilref02_Check anvilref02_size anvilref02_num anvilref02_symbols anvilref02_Write anvillaw02_twin anvillaw02_parts anvillaw02_ImageWrites
import Derived.Test.YtbnlifldnjgpmaaDoorGr1
import Derived.Test.YtbnlifldnjgpmaaDoorWrix10
import Derived.Test.YtbnlifldnjgpmaaDoorGr3
import Derived.Test.YtbnlifldnjgpmaaDoorWrix12
import Derived.Test.YtbnlifldnjgpmaaDoorWrix2
import Derived.Test.YtbnlifldnjgpmaaDoorWrix3
import Derived.Test.YtbnlifldnjgpmaaDoorWrix4
import Derived.Test.YtbnlifldnjgpmaaDoorGr2
import Derived.Test.YtbnlifldnjgpmaaDoorWrix6
import Derived.Test.YtbnlifldnjgpmaaDoorWrix7
import Derived.Test.YtbnlifldnjgpmaaDoorWrix8
import Derived.Test.YtbnlifldnjgpmaaDoorWrix9
import Derived.KernelRfl
import Derived.Test.YtbnlifldnjgpmaaDoorRows
import Derived.Test.YtbnlifldnjgpmaaDoorWds1
import Derived.ChangeArms
import Derived.DataReads
import Derived.ProofKit
import Derived.Deep.DeepHandedRow
import Derived.Deep.DeepWitnessRowRef
import Derived.SizedLaws

/- The pure side of Check, shared: the program's Check and the document's answer the same number 'checkS', for lists whose parts are no longer than 2^20; a twin is the image itself. -/
set_option linter.unusedVariables false
set_option linter.unusedSimpArgs false
namespace Go.Proofs.YtbnlifldnjgpmaaDoor.PWri
open Go.RowKit Go.Proofs.YtbnlifldnjgpmaaDoorW.PrintWords Go.Proofs.YtbnlifldnjgpmaaDoorW.PrintLast

abbrev Seg := S41
abbrev Sym := S44

theorem w64 {x : Int} (h1 : -9223372036854775808 ≤ x) (h2 : x ≤ 9223372036854775807) : wrap64 x = x := by unfold wrap64; omega

/-! ### the answer -/
def lastS (s : Seg) : Int := IntKind.u64.wrap (s.f0 + IntKind.u64.wrap (s.f1 - 1))
def badS (s : Seg) : Prop := s.f1 = 0 ∨ s.f2 < 0 ∨ s.f2 > 7 ∨ IntKind.u64.wrap (s.f3.length : Int) > s.f1 ∨ ¬ (lastS s ≥ s.f0)
instance (s : Seg) : Decidable (badS s) := by unfold badS; infer_instance
def partsS (l : List Seg) : Nat → Nat → Option Int
  | 0, _ => none
  | d + 1, i => if badS (rd_T41 l i) then some 23 else if 0 < i ∧ (rd_T41 l i).f0 ≤ lastS (rd_T41 l ((i : Int) - 1)) then some 24 else partsS l d (i + 1)
def behindS (a b : Sym) : Bool := decide (b.f1 > a.f1) || (decide (b.f1 = a.f1) && Op.bytesLess a.f0.toList b.f0.toList)
def symsS (l : List Sym) : Nat → Nat → Option Int
  | 0, _ => none
  | d + 1, i => if nameB (rd_T44 l i).f0 = false then some 5 else if 0 < i ∧ behindS (rd_T44 l ((i : Int) - 1)) (rd_T44 l i) = false then some 25 else symsS l d (i + 1)
def upS (n : Int) : Int := (n + 7) / 8 * 8
def dataS (l : List Seg) : Nat → Nat → Int → Int
  | 0, _, n => n
  | d + 1, i, n => dataS l d (i + 1) (if 0 < (rd_T41 l i).f3.length then upS n + ((rd_T41 l i).f3.length : Int) else n)
def namesS (l : List Sym) : Nat → Nat → Int → Int
  | 0, _, n => n
  | d + 1, i, n => namesS l d (i + 1) (n + ((rd_T44 l i).f0.size : Int) + 1)
def sizeS (segs : List Seg) (syms : List Sym) : Int :=
  let n := dataS segs segs.length 0 (64 + 56 * segs.length)
  if syms.length = 0 then n else upS (namesS syms syms.length 0 (upS n + 24 + 24 * syms.length + 1) + 27) + 256
def restS (segs : List Seg) (syms : List Sym) : Int := (symsS syms syms.length 0).getD (if sizeS segs syms > 200000 then 3 else 0)
def checkS (e : Int) (segs : List Seg) (syms : List Sym) : Int :=
  if e % 2 = 0 then (if segs.length > 16 then 2 else if syms.length > 400 then 2 else (partsS segs segs.length 0).getD (restS segs syms)) else 22

/-! ### up -/
theorem upS_le (n : Int) : n ≤ upS n ∧ upS n ≤ n + 7 := by unfold upS; omega
theorem image_up_is {n : Int} (h0 : 0 ≤ n) (h1 : n ≤ 1099511627776) : image_up.f n = some (upS n) := by
  unfold image_up.f upS
  rw [w64 (x := n + 7) (by omega) (by omega), Int.tdiv_eq_ediv_of_nonneg (by omega), w64 (x := (n + 7) / 8) (by omega) (by omega), w64 (by omega) (by omega)]
theorem ref_up_is : ∀ (d : Nat) (n : Int), 0 ≤ n → n ≤ 1099511627776 → upS n - n = d → Ev (fun k => anvilref02_up.f k n) (upS n)
  | 0, n, h0, h1, hd => by
    refine Ev.step (f := fun _ => some (upS n)) (fun k => ?_) (Ev.now _)
    have e : n.tmod 8 = n % 8 := Int.tmod_eq_emod_of_nonneg h0
    have : n % 8 = 0 := by unfold upS at hd; omega
    show anvilref02_up.l0 (k + 1) n = _
    rw [anvilref02_up.l0, e, if_pos this]
    congr 1
    omega
  | d + 1, n, h0, h1, hd => by
    have hu : upS (n + 1) = upS n := by unfold upS at hd ⊢; omega
    have ih := ref_up_is d (n + 1) (by omega) (by have := upS_le n; unfold upS at hd; omega) (by rw [hu]; omega)
    rw [hu] at ih
    refine Ev.step (f := fun k => anvilref02_up.f k (n + 1)) (fun k => ?_) ih
    have e : n.tmod 8 = n % 8 := Int.tmod_eq_emod_of_nonneg h0
    have : ¬ n % 8 = 0 := by unfold upS at hd; omega
    show anvilref02_up.l0 (k + 1) n = anvilref02_up.l0 k (n + 1)
    rw [anvilref02_up.l0, e, if_neg this, w64 (by omega) (by omega)]
theorem ref_up {n : Int} (h0 : 0 ≤ n) (h1 : n ≤ 1099511627776) : Ev (fun k => anvilref02_up.f k n) (upS n) :=
  ref_up_is (upS n - n).toNat n h0 h1 (by have := upS_le n; omega)

/-- What is asked of an image's lists. -/
structure Small (segs : List Seg) (syms : List Sym) : Prop where
  lsegs : segs.length ≤ 1048576
  lsyms : syms.length ≤ 1048576
  data : ∀ i, (rd_T41 segs i).f3.length ≤ 1048576
  name : ∀ i, (rd_T44 syms i).f0.size ≤ 1048576

/-! ### the program's Check -/
theorem u64_small {x : Int} (h0 : 0 ≤ x) (h1 : x ≤ 18446744073709551615) : IntKind.u64.wrap x = x := by
  have h : x % 2 ^ 64 = x := by omega
  simp [IntKind.wrap, IntKind.signed, IntKind.bits]
  omega
theorem cmp_u64 (a b : Int) : cmp_Compare_uint64.f a b = some (if a < b then -1 else if a > b then 1 else 0) := by
  unfold cmp_Compare_uint64.f cmp_isNaN_uint64.f
  have e : ∀ x : Int, (x != x) = false := fun x => by simp
  simp only [e, Option.bind_some, Bool.false_eq_true, if_false]
  split
  · rfl
  · split <;> rfl
theorem cmp_str (a b : ByteArray) : cmp_Compare_string.f a b = some (if Op.bytesLess a.toList b.toList = true then -1 else if Op.bytesLess b.toList a.toList = true then 1 else 0) := by
  unfold cmp_Compare_string.f cmp_isNaN_string.f
  have e : ∀ x : List UInt8, (x != x) = false := fun x => by simp
  simp only [e, Option.bind_some, Bool.false_eq_true, if_false]
  split
  · rfl
  · split <;> rfl
theorem or_two (a b : Int) : Ev (fun k => cmp_Or_int.f k [a, b]) (if a = 0 then b else a) := by
  unfold cmp_Or_int.f
  by_cases ha : a = 0
  · rw [if_pos ha]
    refine Ev.step (f := fun k => cmp_Or_int.l0 k 0 [a, b] 2 1) (fun k => ?_) ?_
    · show cmp_Or_int.l0 (k + 1) 0 [a, b] 2 0 = _
      rw [cmp_Or_int.l0]
      simp [rd, ha, wrap64]
    · by_cases hb : b = 0
      · refine Ev.step (f := fun k => cmp_Or_int.l0 k 0 [a, b] 2 2) (fun k => ?_) ?_
        · show cmp_Or_int.l0 (k + 1) 0 [a, b] 2 1 = _
          rw [cmp_Or_int.l0]
          simp [rd, hb, wrap64]
        · refine Ev.step (f := fun k => some b) (fun k => ?_) (Ev.now _)
          show cmp_Or_int.l0 (k + 1) 0 [a, b] 2 2 = _
          rw [cmp_Or_int.l0]
          simp [hb]
      · refine Ev.step (f := fun k => some b) (fun k => ?_) (Ev.now _)
        show cmp_Or_int.l0 (k + 1) 0 [a, b] 2 1 = _
        rw [cmp_Or_int.l0]
        simp [rd, hb]
  · rw [if_neg ha]
    refine Ev.step (f := fun k => some a) (fun k => ?_) (Ev.now _)
    show cmp_Or_int.l0 (k + 1) 0 [a, b] 2 0 = _
    rw [cmp_Or_int.l0]
    simp [rd, ha]
theorem less_irrefl (x : List UInt8) : Op.bytesLess x x = false := by
  have h := less_total x x
  cases e : Op.bytesLess x x
  · rfl
  · rw [e] at h; simp at h
/-- The program's comparison says whether a name is behind another. -/
theorem compare_is (a b : Sym) : ∃ c, Ev (fun k => image_compareSyms.f k a.f0 a.f1 b.f0 b.f1) c ∧ (c ≥ 0 ↔ behindS a b = false) := by
  refine ⟨if (if a.f1 < b.f1 then (-1 : Int) else if a.f1 > b.f1 then 1 else 0) = 0 then (if Op.bytesLess a.f0.toList b.f0.toList = true then -1 else if Op.bytesLess b.f0.toList a.f0.toList = true then 1 else 0) else (if a.f1 < b.f1 then (-1 : Int) else if a.f1 > b.f1 then 1 else 0), ?_, ?_⟩
  · unfold image_compareSyms.f
    refine Ev.bind (g := fun _ => cmp_Compare_uint64.f a.f1 b.f1) (f := fun k t118 => (cmp_Compare_string.f a.f0 b.f0).bind fun t119 => (cmp_Or_int.f k [t118, t119]).bind fun t123 => some t123) (Ev.congr (fun _ => cmp_u64 _ _) (Ev.now _)) ?_
    refine Ev.bind (g := fun _ => cmp_Compare_string.f a.f0 b.f0) (f := fun k t119 => (cmp_Or_int.f k [_, t119]).bind fun t123 => some t123) (Ev.congr (fun _ => cmp_str _ _) (Ev.now _)) ?_
    exact Ev.bind (f := fun k t123 => some t123) (or_two _ _) (Ev.now _)
  · unfold behindS
    have ht := less_total a.f0.toList b.f0.toList
    by_cases h1 : a.f1 < b.f1
    · have : b.f1 > a.f1 := h1
      simp [h1]
    · by_cases h2 : a.f1 > b.f1
      · have h3 : ¬ b.f1 = a.f1 := by omega
        simp [h1, h2, h3]
      · have h3 : b.f1 = a.f1 := by omega
        have h4 : ¬ b.f1 > a.f1 := by omega
        cases e : Op.bytesLess a.f0.toList b.f0.toList
        · cases e2 : Op.bytesLess b.f0.toList a.f0.toList <;> simp [h1, h2, h3]
        · simp [h1, h2, h3]
set_option maxRecDepth 100000 in
theorem lay_l1 (segs : List Seg) (syms : List Sym) (H : Small segs syms) (c : syms.length ≤ 400) (dl : List Int) (tb tx se sz : Int) : ∀ (d i : Nat) (n : Int), i + d = syms.length → 0 ≤ n → n ≤ 8589934592 + i * 2097152 →
    ∃ q, Ev (fun k => image_lay.l1 k syms (syms.length : Int) (i : Int) dl tb tx n se sz) (dl, tb, tx, q, upS (namesS syms d i n + 27), upS (namesS syms d i n + 27) + 256) := by
  intro d
  induction d with
  | zero =>
    intro i n hi h0 hn
    refine ⟨n, Ev.step (f := fun _ => some (dl, tb, tx, n, upS (n + 27), upS (n + 27) + 256)) (fun k => ?_) (Ev.now _)⟩
    rw [image_lay.l1, if_neg (by omega), w64 (x := n + 27) (by omega) (by omega), image_up_is (by omega) (by omega)]
    have := upS_le (n + 27)
    simp only [Option.bind_some]
    rw [w64 (by omega) (by omega)]
  | succ d ih0 =>
    intro i n hi h0 hn
    have hs := H.name (i : Int)
    obtain ⟨q, ih⟩ := ih0 (i + 1) (n + ((rd_T44 syms i).f0.size : Int) + 1) (by omega) (by omega) (by omega)
    refine ⟨q, Ev.step (fun k => ?_) ih⟩
    rw [image_lay.l1, if_pos (by omega), if_pos (by omega), if_pos (by omega)]
    rw [w64 (x := ((rd_T44 syms i).f0.size : Int) + 1) (by omega) (by omega), w64 (x := n + _) (by omega) (by omega), w64 (x := (i : Int) + 1) (by omega) (by omega)]
    congr 1
    omega
set_option maxRecDepth 100000 in
theorem lay_l0 (e : Int) (segs : List Seg) (syms : List Sym) (H : Small segs syms) (c1 : segs.length ≤ 16) (c2 : syms.length ≤ 400) : ∀ (d i : Nat) (n : Int) (dl : List Int), i + d = segs.length → dl.length = i → 0 ≤ n → n ≤ 4294967296 + i * 2097152 →
    ∃ q, Ev (fun k => image_lay.l0 k n segs (segs.length : Int) (i : Int) e segs syms dl 0 0 0 0 0) q ∧ q.2.2.2.2.2 = (let m := dataS segs d i n; if syms.length = 0 then m else upS (namesS syms syms.length 0 (upS m + 24 + 24 * syms.length + 1) + 27) + 256) := by
  intro d
  induction d with
  | zero =>
    intro i n dl hi hdl h0 hn
    have hup := upS_le n
    by_cases hz : syms.length = 0
    · refine ⟨(dl, 0, 0, 0, 0, n), Ev.step (f := fun _ => some (dl, 0, 0, 0, 0, n)) (fun k => ?_) (Ev.now _), ?_⟩
      · rw [image_lay.l0, if_neg (by omega), if_neg (by omega)]
      · simp [dataS, hz]
    · obtain ⟨q, hq⟩ := lay_l1 segs syms H c2 dl (upS n) (upS n + 24 * ((syms.length : Int) + 1)) 0 0 syms.length 0 (upS n + 24 + 24 * syms.length + 1) (by omega) (by omega) (by omega)
      refine ⟨_, Ev.step (f := fun k => image_lay.l1 k syms (syms.length : Int) 0 dl (upS n) (upS n + 24 * ((syms.length : Int) + 1)) (upS n + 24 + 24 * syms.length + 1) 0 0) (fun k => ?_) hq, ?_⟩
      · rw [image_lay.l0, if_neg (by omega), if_pos (by omega), image_up_is h0 (by omega)]
        simp only [Option.bind_some]
        rw [w64 (x := (syms.length : Int) + 1) (by omega) (by omega), w64 (x := 24 * ((syms.length : Int) + 1)) (by omega) (by omega), w64 (x := upS n + _) (by omega) (by omega), w64 (by omega) (by omega)]
        congr 1
        omega
      · simp only [dataS]
        rw [if_neg hz]
  | succ d ih0 =>
    intro i n dl hi hdl h0 hn
    have hs := H.data (i : Int)
    have hup := upS_le n
    by_cases hz : (rd_T41 segs i).f3.length = 0
    · obtain ⟨q, ih, hq⟩ := ih0 (i + 1) n (dl ++ [0]) (by omega) (by simp [hdl]) h0 (by omega)
      refine ⟨q, Ev.step (fun k => ?_) ih, ?_⟩
      · rw [image_lay.l0, if_pos (by omega), if_pos (by omega), if_pos (by omega), if_pos (by omega), if_pos (by omega), w64 (by omega) (by omega)]
        rfl
      · have e1 : dataS segs (d + 1) i n = dataS segs d (i + 1) n := by
          simp only [dataS]
          rw [if_neg (by omega)]
        rw [hq, e1]
    · obtain ⟨q, ih, hq⟩ := ih0 (i + 1) (upS n + ((rd_T41 segs i).f3.length : Int)) (dl ++ [upS n]) (by omega) (by simp [hdl]) (by omega) (by omega)
      refine ⟨q, Ev.step (fun k => ?_) ih, ?_⟩
      · rw [image_lay.l0, if_pos (by omega), if_pos (by omega), if_pos (by omega), if_neg (by omega), image_up_is h0 (by omega)]
        simp only [Option.bind_some]
        rw [if_pos (by omega), w64 (by omega) (by omega), w64 (by omega) (by omega)]
        rfl
      · have e1 : dataS segs (d + 1) i n = dataS segs d (i + 1) (upS n + ((rd_T41 segs i).f3.length : Int)) := by
          simp only [dataS]
          rw [if_pos (by omega)]
        rw [hq, e1]
theorem lay_is (e : Int) (segs : List Seg) (syms : List Sym) (H : Small segs syms) (c1 : segs.length ≤ 16) (c2 : syms.length ≤ 400) :
    ∃ q, Ev (fun k => image_lay.f k e segs syms) q ∧ q.2.2.2.2.2 = sizeS segs syms := by
  obtain ⟨q, h, hq⟩ := lay_l0 e segs syms H c1 c2 segs.length 0 (64 + 56 * segs.length) [] (by omega) rfl (by omega) (by omega)
  refine ⟨q, Ev.congr (fun k => ?_) h, hq⟩
  unfold image_lay.f
  rw [w64 (x := 56 * (segs.length : Int)) (by omega) (by omega), w64 (by omega) (by omega)]
  rfl
theorem chk_l1 (e : Int) (segs : List Seg) (syms : List Sym) (H : Small segs syms) (c1 : segs.length ≤ 16) (c2 : syms.length ≤ 400) : ∀ (d i : Nat), i + d = syms.length →
    Ev (fun k => image_Check.l1 k syms (syms.length : Int) (i : Int) e segs syms) ((symsS syms d i).getD (if sizeS segs syms > 200000 then 3 else 0)) := by
  intro d
  induction d with
  | zero =>
    intro i hi
    obtain ⟨q, hq, hs⟩ := lay_is e segs syms H c1 c2
    refine Ev.step (f := fun k => (image_lay.f k e segs syms).bind fun bt => (if bt.2.2.2.2.2 > 200000 then (some 3) else (some 0))) (fun k => ?_) (Ev.bind (f := fun _ bt => (if bt.2.2.2.2.2 > 200000 then (some 3) else (some 0))) hq ?_)
    · rw [image_Check.l1, if_neg (by omega)]
    · rw [hs]
      simp only [symsS, Option.getD_none]
      split <;> exact Ev.now _
  | succ d ih =>
    intro i hi
    have hn := H.name (i : Int)
    have hnm : image_isName.f ((rd_T44 syms (i : Int)).f0) = some (nameB ((rd_T44 syms (i : Int)).f0)) := by
      unfold image_isName.f
      rw [if_pos (by omega)]
    cases hb : nameB ((rd_T44 syms (i : Int)).f0)
    · refine Ev.step (f := fun _ => some 5) (fun k => ?_) ?_
      · rw [image_Check.l1, if_pos (by omega), if_pos (by omega), if_pos (by omega), hnm, hb]
        rfl
      · simp only [symsS, hb, if_true, Option.getD_some]
        exact Ev.now _
    · by_cases hi0 : 0 < i
      · obtain ⟨c, hc, hcb⟩ := compare_is (rd_T44 syms ((i : Int) - 1)) (rd_T44 syms (i : Int))
        refine Ev.step (f := fun k => (image_compareSyms.f k (rd_T44 syms ((i : Int) - 1)).f0 (rd_T44 syms ((i : Int) - 1)).f1 (rd_T44 syms (i : Int)).f0 (rd_T44 syms (i : Int)).f1).bind fun t => (if t ≥ 0 then (some 25) else (image_Check.l1 k syms (syms.length : Int) ((i + 1 : Nat) : Int) e segs syms))) (fun k => ?_) (Ev.bind (f := fun k t => (if t ≥ 0 then (some 25) else (image_Check.l1 k syms (syms.length : Int) ((i + 1 : Nat) : Int) e segs syms))) hc ?_)
        · rw [image_Check.l1, if_pos (by omega), if_pos (by omega), if_pos (by omega), hnm, hb]
          simp only [Option.bind_some, if_true]
          rw [if_pos (by omega), w64 (x := (i : Int) - 1) (by omega) (by omega), if_pos (by omega), if_pos (by omega), w64 (x := (i : Int) + 1) (by omega) (by omega)]
          rfl
        · simp only [symsS, hb, Bool.true_eq_false, if_false]
          by_cases h : c ≥ 0
          · rw [if_pos ⟨hi0, hcb.1 h⟩]
            exact Ev.congr (fun k => if_pos h) (Ev.now _)
          · rw [if_neg (fun z => h (hcb.2 z.2))]
            exact Ev.congr (fun k => if_neg h) (ih (i + 1) (by omega))
      · refine Ev.step (f := fun k => image_Check.l1 k syms (syms.length : Int) ((i + 1 : Nat) : Int) e segs syms) (fun k => ?_) ?_
        · rw [image_Check.l1, if_pos (by omega), if_pos (by omega), if_pos (by omega), hnm, hb]
          simp only [Option.bind_some, if_true]
          rw [if_neg (by omega), w64 (x := (i : Int) + 1) (by omega) (by omega)]
          rfl
        · simp only [symsS, hb, Bool.true_eq_false, if_false]
          rw [if_neg (fun z => hi0 z.1)]
          exact ih (i + 1) (by omega)
theorem chk_l0 (e : Int) (segs : List Seg) (syms : List Sym) (H : Small segs syms) (c1 : segs.length ≤ 16) (c2 : syms.length ≤ 400) : ∀ (d i : Nat), i + d = segs.length →
    Ev (fun k => image_Check.l0 k segs (segs.length : Int) (i : Int) e segs syms) ((partsS segs d i).getD (restS segs syms)) := by
  intro d
  induction d with
  | zero =>
    intro i hi
    refine Ev.step (f := fun k => image_Check.l1 k syms (syms.length : Int) 0 e segs syms) (fun k => ?_) ?_
    · rw [image_Check.l0, if_neg (by omega)]
    · exact chk_l1 e segs syms H c1 c2 syms.length 0 (by omega)
  | succ d ih =>
    intro i hi
    have hd := H.data (i : Int)
    have bad : ∀ a b c x, Ev (fun k => image_Check.j1 k (i : Int) segs (segs.length : Int) (i : Int) true e segs syms a b c x) 23 := fun a b c x =>
      Ev.step (f := fun _ => some 23) (fun k => by rw [image_Check.j1, if_pos rfl]) (Ev.now _)
    have good : ∀ b c x, Ev (fun k => image_Check.j1 k (i : Int) segs (segs.length : Int) (i : Int) false e segs syms (rd_T41 segs (i : Int)).f0 b c x) ((if 0 < i ∧ (rd_T41 segs (i : Int)).f0 ≤ lastS (rd_T41 segs ((i : Int) - 1)) then some 24 else partsS segs d (i + 1)).getD (restS segs syms)) := by
      intro b c x
      by_cases hi0 : 0 < i
      · by_cases hl : (rd_T41 segs (i : Int)).f0 ≤ lastS (rd_T41 segs ((i : Int) - 1))
        · rw [if_pos ⟨hi0, hl⟩]
          refine Ev.step (f := fun _ => some 24) (fun k => ?_) (Ev.now _)
          rw [image_Check.j1, if_neg (by simp), if_pos (by omega), w64 (x := (i : Int) - 1) (by omega) (by omega), if_pos (by omega), if_pos (by omega)]
          exact if_pos hl
        · rw [if_neg (fun z => hl z.2)]
          refine Ev.step (f := fun k => image_Check.l0 k segs (segs.length : Int) ((i + 1 : Nat) : Int) e segs syms) (fun k => ?_) (ih (i + 1) (by omega))
          rw [image_Check.j1, if_neg (by simp), if_pos (by omega), w64 (x := (i : Int) - 1) (by omega) (by omega), if_pos (by omega), if_pos (by omega), w64 (x := (i : Int) + 1) (by omega) (by omega)]
          exact if_neg hl
      · rw [if_neg (fun z => hi0 z.1)]
        refine Ev.step (f := fun k => image_Check.l0 k segs (segs.length : Int) ((i + 1 : Nat) : Int) e segs syms) (fun k => ?_) (ih (i + 1) (by omega))
        rw [image_Check.j1, if_neg (by simp), if_neg (by omega), w64 (x := (i : Int) + 1) (by omega) (by omega)]
        rfl
    have hu : IntKind.u64.wrap (((rd_T41 segs (i : Int)).f3.length : Int)) = ((rd_T41 segs (i : Int)).f3.length : Int) := u64_small (by omega) (by omega)
    by_cases hbad : badS (rd_T41 segs (i : Int))
    · simp only [partsS, hbad, if_true, Option.getD_some]
      by_cases h1 : (rd_T41 segs (i : Int)).f1 = 0
      · refine Ev.step (fun k => ?_) (bad (rd_T41 segs (i : Int)).f0 (rd_T41 segs (i : Int)).f1 (rd_T41 segs (i : Int)).f2 (rd_T41 segs (i : Int)).f3)
        rw [image_Check.l0, if_pos (by omega), if_pos (by omega), if_pos (by omega), if_pos h1]
      · by_cases h2 : (rd_T41 segs (i : Int)).f2 < 0
        · refine Ev.step (fun k => ?_) (bad (rd_T41 segs (i : Int)).f0 (rd_T41 segs (i : Int)).f1 (rd_T41 segs (i : Int)).f2 (rd_T41 segs (i : Int)).f3)
          rw [image_Check.l0, if_pos (by omega), if_pos (by omega), if_pos (by omega), if_neg h1, if_pos h2]
        · by_cases h3 : (rd_T41 segs (i : Int)).f2 > 7
          · refine Ev.step (fun k => ?_) (bad (rd_T41 segs (i : Int)).f0 (rd_T41 segs (i : Int)).f1 (rd_T41 segs (i : Int)).f2 (rd_T41 segs (i : Int)).f3)
            rw [image_Check.l0, if_pos (by omega), if_pos (by omega), if_pos (by omega), if_neg h1, if_neg h2, if_pos h3]
          · by_cases h4 : IntKind.u64.wrap (((rd_T41 segs (i : Int)).f3.length : Int)) > (rd_T41 segs (i : Int)).f1
            · refine Ev.step (fun k => ?_) (bad (rd_T41 segs (i : Int)).f0 (rd_T41 segs (i : Int)).f1 (rd_T41 segs (i : Int)).f2 (rd_T41 segs (i : Int)).f3)
              rw [image_Check.l0, if_pos (by omega), if_pos (by omega), if_pos (by omega), if_neg h1, if_neg h2, if_neg h3, if_pos h4]
            · have h5 : ¬ (lastS (rd_T41 segs (i : Int)) ≥ (rd_T41 segs (i : Int)).f0) := by
                unfold badS at hbad
                simp only [h1, h2, h3, h4, false_or] at hbad
                exact hbad
              refine Ev.step (fun k => ?_) (bad (rd_T41 segs (i : Int)).f0 (rd_T41 segs (i : Int)).f1 (rd_T41 segs (i : Int)).f2 (rd_T41 segs (i : Int)).f3)
              rw [image_Check.l0, if_pos (by omega), if_pos (by omega), if_pos (by omega), if_neg h1, if_neg h2, if_neg h3, if_neg h4]
              unfold image_fits.f
              rw [Option.bind_some, (decide_eq_false h5 : decide (IntKind.u64.wrap ((rd_T41 segs (i : Int)).f0 + IntKind.u64.wrap ((rd_T41 segs (i : Int)).f1 - 1)) ≥ (rd_T41 segs (i : Int)).f0) = false)]
              rfl
    · simp only [partsS, hbad, if_false]
      have hb2 := hbad
      unfold badS at hb2
      simp only [not_or, Decidable.not_not] at hb2
      obtain ⟨h1, h2, h3, h4, h5⟩ := hb2
      refine Ev.step (fun k => ?_) (good (rd_T41 segs (i : Int)).f1 (rd_T41 segs (i : Int)).f2 (rd_T41 segs (i : Int)).f3)
      rw [image_Check.l0, if_pos (by omega), if_pos (by omega), if_pos (by omega), if_neg h1, if_neg h2, if_neg h3, if_neg h4]
      unfold image_fits.f
      rw [Option.bind_some, (decide_eq_true h5 : decide (IntKind.u64.wrap ((rd_T41 segs (i : Int)).f0 + IntKind.u64.wrap ((rd_T41 segs (i : Int)).f1 - 1)) ≥ (rd_T41 segs (i : Int)).f0) = true)]
      rfl
theorem chk (e : Int) (h0 : 0 ≤ e) (segs : List Seg) (syms : List Sym) (H : Small segs syms) : Ev (fun k => image_Check.f k e segs syms) (checkS e segs syms) := by
  have ht : e.tmod 2 = e % 2 := Int.tmod_eq_emod_of_nonneg h0
  unfold checkS
  by_cases h1 : e % 2 = 0
  · rw [if_pos h1]
    by_cases h2 : segs.length > 16
    · rw [if_pos h2]
      exact Ev.congr (fun k => by unfold image_Check.f; rw [ht, if_pos h1, if_pos (by omega)]) (Ev.now _)
    · rw [if_neg h2]
      by_cases h3 : syms.length > 400
      · rw [if_pos h3]
        exact Ev.congr (fun k => by unfold image_Check.f; rw [ht, if_pos h1, if_neg (by omega), if_pos (by omega)]) (Ev.now _)
      · rw [if_neg h3]
        exact Ev.congr (fun k => by unfold image_Check.f; rw [ht, if_pos h1, if_neg (by omega), if_neg (by omega)]; rfl) (chk_l0 e segs syms H (by omega) (by omega) segs.length 0 (by omega))
  · rw [if_neg h1]
    exact Ev.congr (fun k => by unfold image_Check.f; rw [ht, if_neg h1]) (Ev.now _)

/-! ### the document's -/
theorem last_is (s : Seg) : anvilref02_last.f s.f0 s.f1 = some (lastS s, decide (lastS s ≥ s.f0)) := rfl
theorem ref_parts (segs : List Seg) (syms : List Sym) (H : Small segs syms) : ∀ (d i : Nat), i + d = segs.length →
    Ev (fun k => anvilref02_parts.l0 k segs (i : Int)) ((partsS segs d i).getD 0) := by
  have hlen := H.lsegs
  intro d
  induction d with
  | zero =>
    intro i hi
    refine Ev.step (f := fun _ => some 0) (fun k => ?_) (Ev.now _)
    rw [anvilref02_parts.l0, if_neg (by omega)]
  | succ d ih =>
    intro i hi
    have hd := H.data (i : Int)
    have bad : ∀ a b c x, Ev (fun k => anvilref02_parts.j1 k segs (i : Int) true a b c x) 23 := fun a b c x =>
      Ev.step (f := fun _ => some 23) (fun k => by rw [anvilref02_parts.j1, if_pos rfl]) (Ev.now _)
    by_cases h1 : (rd_T41 segs (i : Int)).f1 = 0
    · have hbad : badS (rd_T41 segs (i : Int)) := .inl h1
      simp only [partsS, hbad, if_true, Option.getD_some]
      refine Ev.step (fun k => ?_) (bad (rd_T41 segs (i : Int)).f0 (rd_T41 segs (i : Int)).f1 (rd_T41 segs (i : Int)).f2 (rd_T41 segs (i : Int)).f3)
      rw [anvilref02_parts.l0, if_pos (by omega), if_pos (by omega), if_pos h1]
    · by_cases h2 : (rd_T41 segs (i : Int)).f2 < 0
      · have hbad : badS (rd_T41 segs (i : Int)) := .inr (.inl h2)
        simp only [partsS, hbad, if_true, Option.getD_some]
        refine Ev.step (fun k => ?_) (bad (rd_T41 segs (i : Int)).f0 (rd_T41 segs (i : Int)).f1 (rd_T41 segs (i : Int)).f2 (rd_T41 segs (i : Int)).f3)
        rw [anvilref02_parts.l0, if_pos (by omega), if_pos (by omega), if_neg h1, if_pos h2]
      · by_cases h3 : (rd_T41 segs (i : Int)).f2 > 7
        · have hbad : badS (rd_T41 segs (i : Int)) := .inr (.inr (.inl h3))
          simp only [partsS, hbad, if_true, Option.getD_some]
          refine Ev.step (fun k => ?_) (bad (rd_T41 segs (i : Int)).f0 (rd_T41 segs (i : Int)).f1 (rd_T41 segs (i : Int)).f2 (rd_T41 segs (i : Int)).f3)
          rw [anvilref02_parts.l0, if_pos (by omega), if_pos (by omega), if_neg h1, if_neg h2, if_pos h3]
        · refine Ev.step (f := fun k => anvilref02_parts.j1 k segs (i : Int) (decide (IntKind.u64.wrap (((rd_T41 segs (i : Int)).f3.length : Int)) > (rd_T41 segs (i : Int)).f1)) (rd_T41 segs (i : Int)).f0 (rd_T41 segs (i : Int)).f1 (rd_T41 segs (i : Int)).f2 (rd_T41 segs (i : Int)).f3) (fun k => ?_) ?_
          · rw [anvilref02_parts.l0, if_pos (by omega), if_pos (by omega), if_neg h1, if_neg h2, if_neg h3]
          by_cases h4 : IntKind.u64.wrap (((rd_T41 segs (i : Int)).f3.length : Int)) > (rd_T41 segs (i : Int)).f1
          · have hbad : badS (rd_T41 segs (i : Int)) := .inr (.inr (.inr (.inl h4)))
            simp only [partsS, hbad, if_true, Option.getD_some, decide_eq_true h4]
            exact bad _ _ _ _
          · rw [decide_eq_false h4]
            by_cases h5 : lastS (rd_T41 segs (i : Int)) ≥ (rd_T41 segs (i : Int)).f0
            · have hbad : ¬ badS (rd_T41 segs (i : Int)) := by
                unfold badS
                simp only [h1, h2, h3, h4, false_or, h5, not_true_eq_false, not_false_eq_true]
              simp only [partsS, hbad, if_false]
              by_cases hi0 : 0 < i
              · by_cases hl : (rd_T41 segs (i : Int)).f0 ≤ lastS (rd_T41 segs ((i : Int) - 1))
                · rw [if_pos ⟨hi0, hl⟩]
                  refine Ev.step (f := fun _ => some 24) (fun k => ?_) (Ev.now _)
                  rw [anvilref02_parts.j1, if_neg (by simp), last_is, Option.bind_some]
                  simp only [decide_eq_true h5, if_true]
                  rw [if_pos (by omega), w64 (x := (i : Int) - 1) (by omega) (by omega), if_pos (by omega), if_pos (by omega), last_is, Option.bind_some]
                  exact if_pos hl
                · rw [if_neg (fun z => hl z.2)]
                  refine Ev.step (f := fun k => anvilref02_parts.l0 k segs ((i + 1 : Nat) : Int)) (fun k => ?_) (ih (i + 1) (by omega))
                  rw [anvilref02_parts.j1, if_neg (by simp), last_is, Option.bind_some]
                  simp only [decide_eq_true h5, if_true]
                  rw [if_pos (by omega), w64 (x := (i : Int) - 1) (by omega) (by omega), if_pos (by omega), if_pos (by omega), last_is, Option.bind_some, w64 (x := (i : Int) + 1) (by omega) (by omega)]
                  exact if_neg hl
              · rw [if_neg (fun z => hi0 z.1)]
                refine Ev.step (f := fun k => anvilref02_parts.l0 k segs ((i + 1 : Nat) : Int)) (fun k => ?_) (ih (i + 1) (by omega))
                rw [anvilref02_parts.j1, if_neg (by simp), last_is, Option.bind_some]
                simp only [decide_eq_true h5, if_true]
                rw [if_neg (by omega), w64 (x := (i : Int) + 1) (by omega) (by omega)]
                rfl
            · have hbad : badS (rd_T41 segs (i : Int)) := .inr (.inr (.inr (.inr h5)))
              simp only [partsS, hbad, if_true, Option.getD_some]
              refine Ev.step (f := fun _ => some 23) (fun k => ?_) (Ev.now _)
              rw [anvilref02_parts.j1, if_neg (by simp), last_is, Option.bind_some]
              simp only [decide_eq_false h5, Bool.false_eq_true, if_false]
theorem partsS_ne (l : List Seg) : ∀ d i, partsS l d i ≠ some 0
  | 0, i => by simp [partsS]
  | d + 1, i => by
    simp only [partsS]
    split
    · simp
    · split
      · simp
      · exact partsS_ne l d (i + 1)
theorem ref_size_l1 (e : Int) (segs : List Seg) (syms : List Sym) (H : Small segs syms) (c2 : syms.length ≤ 400) : ∀ (d i : Nat) (n : Int), i + d = syms.length → 0 ≤ n → n ≤ 8589934592 + i * 2097152 →
    Ev (fun k => anvilref02_size.l1 k n (i : Int) e segs syms) (upS (namesS syms d i n + 27) + 256) := by
  intro d
  induction d with
  | zero =>
    intro i n hi h0 hn
    have := upS_le (n + 27)
    refine Ev.step (f := fun k => (anvilref02_up.f k (n + 27)).bind fun t192 => (some (wrap64 (t192 + 256)))) (fun k => ?_) (Ev.bind (f := fun _ t => some (wrap64 (t + 256))) (ref_up (by omega) (by omega)) ?_)
    · rw [anvilref02_size.l1, if_neg (by omega), w64 (x := n + 27) (by omega) (by omega)]
    · rw [w64 (by omega) (by omega)]
      exact Ev.now _
  | succ d ih =>
    intro i n hi h0 hn
    have hs := H.name (i : Int)
    refine Ev.step (fun k => ?_) (ih (i + 1) (n + ((rd_T44 syms i).f0.size : Int) + 1) (by omega) (by omega) (by omega))
    rw [anvilref02_size.l1, if_pos (by omega), if_pos (by omega), w64 (x := n + _) (by omega) (by omega), w64 (x := n + _ + 1) (by omega) (by omega), w64 (x := (i : Int) + 1) (by omega) (by omega)]
    rfl
theorem ref_size_l0 (e : Int) (segs : List Seg) (syms : List Sym) (H : Small segs syms) (c1 : segs.length ≤ 16) (c2 : syms.length ≤ 400) : ∀ (d i : Nat) (n : Int), i + d = segs.length → 0 ≤ n → n ≤ 4294967296 + i * 2097152 →
    Ev (fun k => anvilref02_size.l0 k n (i : Int) e segs syms) (let m := dataS segs d i n; if syms.length = 0 then m else upS (namesS syms syms.length 0 (upS m + 24 + 24 * syms.length + 1) + 27) + 256) := by
  intro d
  induction d with
  | zero =>
    intro i n hi h0 hn
    have hup := upS_le n
    by_cases hz : syms.length = 0
    · refine Ev.step (f := fun _ => some n) (fun k => ?_) ?_
      · rw [anvilref02_size.l0, if_neg (by omega), if_pos (by omega)]
      · simp only [dataS, hz, if_true]
        exact Ev.now _
    · refine Ev.step (f := fun k => (anvilref02_up.f k n).bind fun t190 => (anvilref02_size.l1 k (wrap64 ((wrap64 ((wrap64 (t190 + 24)) + (wrap64 (24 * (syms.length : Int))))) + 1)) 0 e segs syms)) (fun k => ?_) (Ev.bind (f := fun k t190 => (anvilref02_size.l1 k (wrap64 ((wrap64 ((wrap64 (t190 + 24)) + (wrap64 (24 * (syms.length : Int))))) + 1)) 0 e segs syms)) (ref_up h0 (by omega)) ?_)
      · rw [anvilref02_size.l0, if_neg (by omega), if_neg (by omega)]
      · simp only [dataS, hz, if_false]
        rw [w64 (x := 24 * (syms.length : Int)) (by omega) (by omega), w64 (x := upS n + 24) (by omega) (by omega), w64 (x := upS n + 24 + _) (by omega) (by omega), w64 (by omega) (by omega)]
        exact ref_size_l1 e segs syms H c2 syms.length 0 _ (by omega) (by omega) (by omega)
  | succ d ih =>
    intro i n hi h0 hn
    have hs := H.data (i : Int)
    have hup := upS_le n
    by_cases hz : (rd_T41 segs i).f3.length = 0
    · have e1 : dataS segs (d + 1) i n = dataS segs d (i + 1) n := by
        simp only [dataS]
        rw [if_neg (by omega)]
      rw [e1]
      refine Ev.step (fun k => ?_) (ih (i + 1) n (by omega) h0 (by omega))
      rw [anvilref02_size.l0, if_pos (by omega), if_pos (by omega), if_neg (by omega), w64 (x := (i : Int) + 1) (by omega) (by omega)]
      rfl
    · have e1 : dataS segs (d + 1) i n = dataS segs d (i + 1) (upS n + ((rd_T41 segs i).f3.length : Int)) := by
        simp only [dataS]
        rw [if_pos (by omega)]
      rw [e1]
      refine Ev.step (f := fun k => (anvilref02_up.f k n).bind fun t188 => (anvilref02_size.l0 k (wrap64 (t188 + ((rd_T41 segs i).f3.length : Int))) ((i + 1 : Nat) : Int) e segs syms)) (fun k => ?_) (Ev.bind (f := fun k t188 => (anvilref02_size.l0 k (wrap64 (t188 + ((rd_T41 segs i).f3.length : Int))) ((i + 1 : Nat) : Int) e segs syms)) (ref_up h0 (by omega)) ?_)
      · rw [anvilref02_size.l0, if_pos (by omega), if_pos (by omega), if_pos (by omega), w64 (x := (i : Int) + 1) (by omega) (by omega)]
        rfl
      · rw [w64 (by omega) (by omega)]
        exact ih (i + 1) _ (by omega) (by omega) (by omega)
theorem ref_size (e : Int) (segs : List Seg) (syms : List Sym) (H : Small segs syms) (c1 : segs.length ≤ 16) (c2 : syms.length ≤ 400) : Ev (fun k => anvilref02_size.f k e segs syms) (sizeS segs syms) := by
  refine Ev.congr (fun k => ?_) (ref_size_l0 e segs syms H c1 c2 segs.length 0 (64 + 56 * segs.length) (by omega) (by omega) (by omega))
  unfold anvilref02_size.f
  rw [w64 (x := 56 * (segs.length : Int)) (by omega) (by omega), w64 (by omega) (by omega)]
  rfl
theorem behind_is (a b : Sym) : anvilref02_behind.f a.f0 a.f1 b.f0 b.f1 = some (behindS a b) := by
  unfold anvilref02_behind.f behindS
  by_cases h : b.f1 > a.f1
  · simp [h]
  · by_cases h2 : b.f1 = a.f1
    · simp [h2]
    · simp [h, h2]
theorem ref_l0 (e : Int) (segs : List Seg) (syms : List Sym) (H : Small segs syms) (c1 : segs.length ≤ 16) (c2 : syms.length ≤ 400) : ∀ (d i : Nat), i + d = syms.length →
    Ev (fun k => anvilref02_Check.l0 k (i : Int) e segs syms) ((symsS syms d i).getD (if sizeS segs syms > 200000 then 3 else 0)) := by
  intro d
  induction d with
  | zero =>
    intro i hi
    refine Ev.step (f := fun k => (anvilref02_size.f k e segs syms).bind fun t195 => (if t195 > 200000 then (some 3) else (some 0))) (fun k => ?_) (Ev.bind (f := fun _ t195 => (if t195 > 200000 then (some 3) else (some 0))) (ref_size e segs syms H c1 c2) ?_)
    · rw [anvilref02_Check.l0, if_neg (by omega)]
    · simp only [symsS, Option.getD_none]
      split <;> exact Ev.now _
  | succ d ih =>
    intro i hi
    have hn := H.name (i : Int)
    have hnm : anvilref02_Name.f ((rd_T44 syms (i : Int)).f0) = some (nameB ((rd_T44 syms (i : Int)).f0)) := by
      unfold anvilref02_Name.f
      rw [if_pos (by omega)]
    cases hb : nameB ((rd_T44 syms (i : Int)).f0)
    · refine Ev.step (f := fun _ => some 5) (fun k => ?_) ?_
      · rw [anvilref02_Check.l0, if_pos (by omega), if_pos (by omega), hnm, hb]
        rfl
      · simp only [symsS, hb, if_true, Option.getD_some]
        exact Ev.now _
    · by_cases hi0 : 0 < i
      · cases hbh : behindS (rd_T44 syms ((i : Int) - 1)) (rd_T44 syms (i : Int))
        · simp only [symsS, hb, Bool.true_eq_false, if_false]
          rw [if_pos ⟨hi0, hbh⟩]
          refine Ev.step (f := fun _ => some 25) (fun k => ?_) (Ev.now _)
          rw [anvilref02_Check.l0, if_pos (by omega), if_pos (by omega), hnm, hb]
          simp only [Option.bind_some, if_true]
          rw [if_pos (by omega), w64 (x := (i : Int) - 1) (by omega) (by omega), if_pos (by omega), if_pos (by omega), behind_is, hbh]
          rfl
        · simp only [symsS, hb, Bool.true_eq_false, if_false]
          rw [if_neg (fun z => by rw [hbh] at z; cases z.2)]
          refine Ev.step (f := fun k => anvilref02_Check.l0 k ((i + 1 : Nat) : Int) e segs syms) (fun k => ?_) (ih (i + 1) (by omega))
          rw [anvilref02_Check.l0, if_pos (by omega), if_pos (by omega), hnm, hb]
          simp only [Option.bind_some, if_true]
          rw [if_pos (by omega), w64 (x := (i : Int) - 1) (by omega) (by omega), if_pos (by omega), if_pos (by omega), behind_is, hbh, w64 (x := (i : Int) + 1) (by omega) (by omega)]
          rfl
      · simp only [symsS, hb, Bool.true_eq_false, if_false]
        rw [if_neg (fun z => hi0 z.1)]
        refine Ev.step (f := fun k => anvilref02_Check.l0 k ((i + 1 : Nat) : Int) e segs syms) (fun k => ?_) (ih (i + 1) (by omega))
        rw [anvilref02_Check.l0, if_pos (by omega), if_pos (by omega), hnm, hb]
        simp only [Option.bind_some, if_true]
        rw [if_neg (by omega), w64 (x := (i : Int) + 1) (by omega) (by omega)]
        rfl
theorem ref (e : Int) (h0 : 0 ≤ e) (segs : List Seg) (syms : List Sym) (H : Small segs syms) : Ev (fun k => anvilref02_Check.f k e segs syms) (checkS e segs syms) := by
  have ht : e.tmod 2 = e % 2 := Int.tmod_eq_emod_of_nonneg h0
  have big : ∀ b : Bool, b = true → Ev (fun k => anvilref02_Check.j0 k b e segs syms) 2 := fun b hb => by
    subst hb
    exact Ev.step (f := fun _ => some 2) (fun k => by rw [anvilref02_Check.j0, if_pos rfl]) (Ev.now _)
  unfold checkS
  by_cases h1 : e % 2 = 0
  · rw [if_pos h1]
    by_cases h2 : segs.length > 16
    · rw [if_pos h2]
      exact Ev.congr (fun k => by unfold anvilref02_Check.f; rw [ht, if_neg (by omega), if_pos (by omega)]) (big true rfl)
    · rw [if_neg h2]
      refine Ev.congr (f := fun k => anvilref02_Check.j0 k (decide ((syms.length : Int) > 400)) e segs syms) (fun k => by unfold anvilref02_Check.f; rw [ht, if_neg (by omega), if_neg (by omega)]) ?_
      by_cases h3 : syms.length > 400
      · rw [if_pos h3]
        exact big _ (by simp; omega)
      · rw [if_neg h3, decide_eq_false (by omega)]
        refine Ev.step (f := fun k => (anvilref02_parts.f k segs).bind fun t194 => (if t194 = 0 then (anvilref02_Check.l0 k 0 e segs syms) else (some t194))) (fun k => by rw [anvilref02_Check.j0, if_neg (by simp)]) (Ev.bind (f := fun k t194 => (if t194 = 0 then (anvilref02_Check.l0 k 0 e segs syms) else (some t194))) (ref_parts segs syms H segs.length 0 (by omega)) ?_)
        cases hp : partsS segs segs.length 0 with
        | none =>
          simp only [Option.getD_none, if_true]
          exact ref_l0 e segs syms H (by omega) (by omega) syms.length 0 (by omega)
        | some r =>
          have : r ≠ 0 := fun z => partsS_ne segs segs.length 0 (by rw [hp, z])
          simp only [Option.getD_some, this, if_false]
          exact Ev.now _
  · rw [if_neg h1]
    exact Ev.congr (fun k => by unfold anvilref02_Check.f; rw [ht, if_pos (by omega)]) (Ev.now _)

/-! ### the twin -/
theorem twin_l0 (e : Int) (segs : List Seg) (syms : List Sym) (H : Small segs syms) : ∀ (d i : Nat), i + d = segs.length →
    Ev (fun k => anvillaw02_twin.l0 k (i : Int) e segs syms e (segs.take i)) (e, segs, syms) := by
  have hl1 := H.lsegs
  have hl2 := H.lsyms
  intro d
  induction d with
  | zero =>
    intro i hi
    refine Ev.step (f := fun _ => some (e, segs, syms)) (fun k => ?_) (Ev.now _)
    rw [anvillaw02_twin.l0, if_neg (by omega), if_pos (by simp only [List.length_nil]; omega), List.take_of_length_le (by omega)]
    rfl
  | succ d ih =>
    intro i hi
    have hd := H.data (i : Int)
    refine Ev.step (fun k => ?_) (ih (i + 1) (by omega))
    rw [anvillaw02_twin.l0, if_pos (by omega), if_pos (by omega)]
    simp only [Option.bind_some, List.length_nil, List.nil_append]
    rw [if_pos (by omega), if_pos (by rw [List.length_take]; omega), w64 (x := (i : Int) + 1) (by omega) (by omega)]
    have hs : rd_T41 segs (i : Int) = segs[i]'(by omega) := by
      unfold rd_T41
      rw [Int.toNat_natCast, List.getD_eq_getElem?_getD, List.getElem?_eq_getElem (by omega)]
      rfl
    have e1 : segs.take (i + 1) = segs.take i ++ [rd_T41 segs (i : Int)] := by
      rw [hs]
      exact List.take_succ_eq_append_getElem (by omega)
    rw [e1]
    rfl
theorem twin_is (e : Int) (segs : List Seg) (syms : List Sym) (H : Small segs syms) : Ev (fun k => anvillaw02_twin.f k e segs syms) (e, segs, syms) :=
  twin_l0 e segs syms H segs.length 0 (by omega)

end Go.Proofs.YtbnlifldnjgpmaaDoor.PWri

/- The file that image.Write writes, byte by byte, as one list: each write over zeros puts its bytes behind what stands there. Plain lists. -/
set_option linter.unusedVariables false
set_option linter.unusedSimpArgs false
namespace Go.Proofs.YtbnlifldnjgpmaaDoor.PWri
open Go.RowKit Go.Lib Go.Proofs.YtbnlifldnjgpmaaDoorW.PrintWords

theorem zs_length (n : Nat) : (zs n).length = n := by simp [zs]
theorem zs_add (a b : Nat) : zs (a + b) = zs a ++ zs b := by simp [zs, List.replicate_append_replicate]
/-- A write into zeros, k behind the end of what is done. -/
theorem putAt_zs (D b : List Int) (n k p : Nat) (hp : p = D.length + k) (h : k + b.length ≤ n) : putAt (D ++ zs n) p b = (D ++ zs k ++ b) ++ zs (n - k - b.length) := by
  subst hp
  have e : n = k + (b.length + (n - k - b.length)) := by omega
  have e2 : zs n = zs k ++ (zs b.length ++ zs (n - k - b.length)) := by rw [← zs_add, ← zs_add, ← e]
  unfold putAt
  rw [e2, ← List.append_assoc D]
  rw [List.take_append_of_le_length (by simp [zs_length]), List.take_of_length_le (by simp [zs_length])]
  rw [show D.length + k + b.length = (D ++ zs k).length + b.length by simp [zs_length], List.drop_append, List.drop_eq_nil_of_le (by simp)]
  simp [zs_length, List.append_assoc]
theorem putAt_end (D b : List Int) (n p : Nat) (hp : p = D.length) (h : b.length ≤ n) : putAt (D ++ zs n) p b = (D ++ b) ++ zs (n - b.length) := by
  have := putAt_zs D b n 0 p (by omega) (by omega)
  simpa [zs] using this
theorem zs_skip (D : List Int) (n k : Nat) (h : k ≤ n) : D ++ zs n = (D ++ zs k) ++ zs (n - k) := by
  rw [List.append_assoc, ← zs_add]
  congr 2
  omega
def upN (n : Nat) : Nat := (n + 7) / 8 * 8
theorem upN_le (n : Nat) : n ≤ upN n ∧ upN n ≤ n + 7 := by unfold upN; omega
/-! ### the file's pieces -/
def headB (a0 se n cnt third : Int) : List Int := strL elfB ++ putL 2 [2, 243] ++ putL 4 [1] ++ putL 8 [a0, 64, se] ++ putL 4 [1] ++ putL 2 [64, 56, n, 64, cnt, third]
theorem headB_length (a0 se n cnt third : Int) : (headB a0 se n cnt third).length = 64 := by simp only [headB, List.length_append, putL_length, strL_length]; rfl
def phB : List Int → List S41 → List Int
  | d :: ds, s :: r => putL 4 [1, IntKind.u64.wrap (turnV s.f2)] ++ putL 8 [d, s.f0, s.f0, (s.f3.length : Int), s.f1, 1] ++ phB ds r
  | _, _ => []
theorem phB_length : ∀ (ds : List Int) (l : List S41), ds.length = l.length → (phB ds l).length = 56 * l.length
  | [], [], _ => rfl
  | d :: ds, s :: r, h => by
    simp only [phB, List.length_append, putL_length, phB_length ds r (by simpa using h), List.length_cons, List.length_nil]
    omega
def padB (L : List Int) : List Int := L ++ zs (upN L.length - L.length)
theorem padB_length (L : List Int) : (padB L).length = upN L.length := by
  have := upN_le L.length
  simp [padB, zs_length]
  omega
def dataB : List Int → List S41 → List Int
  | L, [] => L
  | L, s :: r => if 0 < s.f3.length then dataB (padB L ++ s.f3) r else dataB L r
def placesN : Nat → List S41 → List Int
  | _, [] => []
  | n, s :: r => if 0 < s.f3.length then (upN n : Int) :: placesN (upN n + s.f3.length) r else 0 :: placesN n r
def endN : Nat → List S41 → Nat
  | n, [] => n
  | n, s :: r => if 0 < s.f3.length then endN (upN n + s.f3.length) r else endN n r
theorem placesN_length : ∀ (n : Nat) (l : List S41), (placesN n l).length = l.length
  | _, [] => rfl
  | n, s :: r => by
    rw [placesN]
    split <;> simp [placesN_length]
theorem endN_ge : ∀ (n : Nat) (l : List S41), n ≤ endN n l
  | _, [] => Nat.le_refl _
  | n, s :: r => by
    rw [endN]
    have := upN_le n
    split
    · exact Nat.le_trans (by omega) (endN_ge _ r)
    · exact endN_ge _ r
theorem dataB_length : ∀ (L : List Int) (l : List S41), (dataB L l).length = endN L.length l
  | _, [] => rfl
  | L, s :: r => by
    rw [dataB, endN]
    split
    · rw [dataB_length, List.length_append, padB_length]
    · exact dataB_length L r
theorem places_in : ∀ (l : List S41) (n j : Nat), j < l.length → 0 ≤ (placesN n l).getD j 0 ∧ (placesN n l).getD j 0 + ((l.getD j z41).f3.length : Int) ≤ endN n l
  | s :: r, n, 0, _ => by
    rw [placesN, endN]
    have := upN_le n
    split
    · rename_i h
      have := endN_ge (upN n + s.f3.length) r
      simp
      omega
    · rename_i h
      have := endN_ge n r
      simp
      omega
  | s :: r, n, j + 1, h => by
    rw [placesN, endN]
    split
    · simpa using places_in r (upN n + s.f3.length) j (by simpa using h)
    · simpa using places_in r n j (by simpa using h)
theorem places_lt : ∀ (l : List S41) (n j : Nat), j < l.length → 0 < n → (placesN n l).getD j 0 < endN n l
  | s :: r, n, 0, _, hn => by
    rw [placesN, endN]
    have := upN_le n
    split
    · have := endN_ge (upN n + s.f3.length) r
      simp
      omega
    · have := endN_ge n r
      simp
      omega
  | s :: r, n, j + 1, h, hn => by
    rw [placesN, endN]
    have := upN_le n
    split
    · simpa using places_lt r (upN n + s.f3.length) j (by simpa using h) (by omega)
    · simpa using places_lt r n j (by simpa using h) hn
def symsB : Int → List S44 → List Int
  | _, [] => []
  | pl, s :: r => putL 4 [pl] ++ putL 1 [16, 0] ++ putL 2 [65521] ++ putL 8 [s.f1, 0] ++ symsB (nextPl pl s) r
theorem symsB_length : ∀ (l : List S44) (pl : Int), (symsB pl l).length = 24 * l.length
  | [], _ => rfl
  | s :: r, pl => by
    simp only [symsB, List.length_append, putL_length, symsB_length r, List.length_cons, List.length_nil]
    omega
def namesB : List S44 → List Int
  | [] => []
  | s :: r => strL s.f0 ++ [0] ++ namesB r
theorem namesB_length : ∀ (l : List S44), (namesB l).length = total l
  | [] => rfl
  | s :: r => by
    simp only [namesB, List.length_append, strL_length, namesB_length r, List.length_cons, List.length_nil, total]
def secB (x0 x1 x2 x3 x4 x5 x6 x7 : Int) : List Int := putL 4 [x0, x1] ++ putL 8 [0, 0, x2, x3] ++ putL 4 [x4, x5] ++ putL 8 [x6, x7]
theorem secB_length (x0 x1 x2 x3 x4 x5 x6 x7 : Int) : (secB x0 x1 x2 x3 x4 x5 x6 x7).length = 64 := by simp only [secB, List.length_append, putL_length]; rfl
/-- The names' part behind D (which is a multiple of 8 long). -/
def tailB (D : List Int) (l : List S44) : List Int :=
  let tb : Int := D.length
  let D1 := D ++ zs 24 ++ symsB 1 l
  let tx : Int := D1.length
  let D2 := D1 ++ ([0] ++ namesB l)
  let ti : Int := D2.length
  padB (D2 ++ strL titlesB) ++ zs 64 ++ secB 1 2 tb (tx - tb) 2 1 8 24 ++ secB 9 3 tx (ti - tx) 0 0 1 0 ++ secB 17 3 ti 27 0 0 1 0
/-! ### what the program writes -/
theorem headPut_is (a0 se n cnt third : Int) (sz : Nat) (h : 64 ≤ sz) : headPut (zs sz) a0 se n cnt third = headB a0 se n cnt third ++ zs (sz - 64) := by
  unfold headPut headB
  have l16 : (strL elfB).length = 16 := by rw [strL_length]; rfl
  have e0 := putAt_end [] (strL elfB) sz 0 rfl (by omega)
  rw [List.nil_append, List.nil_append, l16] at e0
  rw [e0]
  rw [putAt_end _ (putL 2 [2, 243]) _ 16 (by rw [l16]) (by rw [putL_length]; simp; omega)]
  rw [putAt_end _ (putL 4 [1]) _ 20 (by simp only [List.length_append, l16, putL_length]; rfl) (by simp only [putL_length, List.length_cons, List.length_nil]; omega)]
  rw [putAt_end _ (putL 8 [a0, 64, se]) _ 24 (by simp only [List.length_append, l16, putL_length]; rfl) (by simp only [putL_length, List.length_cons, List.length_nil]; omega)]
  rw [putAt_end _ (putL 4 [1]) _ 48 (by simp only [List.length_append, l16, putL_length]; rfl) (by simp only [putL_length, List.length_cons, List.length_nil]; omega)]
  rw [putAt_end _ (putL 2 [64, 56, n, 64, cnt, third]) _ 52 (by simp only [List.length_append, l16, putL_length]; rfl) (by simp only [putL_length, List.length_cons, List.length_nil]; omega)]
  congr 2
theorem phPut_is : ∀ (ds : List Int) (l : List S41) (D : List Int) (n : Nat), ds.length = l.length → 56 * l.length ≤ n → phPut (D ++ zs n) D.length ds l = (D ++ phB ds l) ++ zs (n - 56 * l.length)
  | [], [], D, n, _, _ => by simp [phPut, phB]
  | d :: ds, s :: r, D, n, h, hn => by
    simp only [List.length_cons] at hn h
    rw [phPut, phB]
    rw [putAt_end D (putL 4 [1, IntKind.u64.wrap (turnV s.f2)]) n D.length rfl (by simp only [putL_length, List.length_cons, List.length_nil]; omega)]
    rw [putAt_end _ (putL 8 [d, s.f0, s.f0, (s.f3.length : Int), s.f1, 1]) _ (D.length + 8) (by simp only [List.length_append, putL_length, List.length_cons, List.length_nil]) (by simp only [putL_length, List.length_cons, List.length_nil]; omega)]
    have hl : D.length + 56 = (D ++ putL 4 [1, IntKind.u64.wrap (turnV s.f2)] ++ putL 8 [d, s.f0, s.f0, (s.f3.length : Int), s.f1, 1]).length := by simp only [List.length_append, putL_length, List.length_cons, List.length_nil]
    rw [hl, phPut_is ds r _ _ (by omega) (by simp only [putL_length, List.length_cons, List.length_nil]; omega)]
    simp only [List.append_assoc, putL_length, List.length_cons, List.length_nil]
    congr 5
    omega
theorem dataPut_is : ∀ (l : List S41) (D : List Int) (n : Nat), endN D.length l ≤ D.length + n → dataPut (D ++ zs n) (placesN D.length l) l = dataB D l ++ zs (D.length + n - endN D.length l)
  | [], D, n, _ => by simp [placesN, dataPut, dataB, endN]
  | s :: r, D, n, h => by
    have hu := upN_le D.length
    rw [endN] at h ⊢
    rw [placesN, dataB]
    by_cases hs : 0 < s.f3.length
    · rw [if_pos hs] at h ⊢
      rw [if_pos hs, if_pos hs, dataPut, Int.toNat_natCast]
      have hge := endN_ge (upN D.length + s.f3.length) r
      rw [putAt_zs D s.f3 n (upN D.length - D.length) (upN D.length) (by omega) (by omega)]
      have e : D ++ zs (upN D.length - D.length) ++ s.f3 = padB D ++ s.f3 := rfl
      rw [e]
      have hl : (padB D ++ s.f3).length = upN D.length + s.f3.length := by rw [List.length_append, padB_length]
      have ih := dataPut_is r (padB D ++ s.f3) (n - (upN D.length - D.length) - s.f3.length) (by rw [hl]; omega)
      rw [hl] at ih
      rw [ih]
      congr 2
      omega
    · rw [if_neg hs] at h ⊢
      rw [if_neg hs, if_neg hs, dataPut]
      have e : s.f3 = [] := List.eq_nil_of_length_eq_zero (by omega)
      have e2 : ∀ L : List Int, putAt L (0 : Int).toNat s.f3 = L := fun L => by rw [e]; simp [putAt]
      rw [e2]
      exact dataPut_is r D n h
theorem symsPut_is : ∀ (l : List S44) (D : List Int) (n : Nat) (pl : Int), 24 * l.length ≤ n → symsPut (D ++ zs n) D.length pl l = (D ++ symsB pl l) ++ zs (n - 24 * l.length)
  | [], D, n, pl, _ => by simp [symsPut, symsB]
  | s :: r, D, n, pl, hn => by
    simp only [List.length_cons] at hn
    rw [symsPut, symsB]
    rw [putAt_end D (putL 4 [pl]) n D.length rfl (by simp only [putL_length, List.length_cons, List.length_nil]; omega)]
    rw [putAt_end _ (putL 1 [16, 0]) _ (D.length + 4) (by simp only [List.length_append, putL_length, List.length_cons, List.length_nil]) (by simp only [putL_length, List.length_cons, List.length_nil]; omega)]
    rw [putAt_end _ (putL 2 [65521]) _ (D.length + 6) (by simp only [List.length_append, putL_length, List.length_cons, List.length_nil]) (by simp only [putL_length, List.length_cons, List.length_nil]; omega)]
    rw [putAt_end _ (putL 8 [s.f1, 0]) _ (D.length + 8) (by simp only [List.length_append, putL_length, List.length_cons, List.length_nil]) (by simp only [putL_length, List.length_cons, List.length_nil]; omega)]
    have hl : D.length + 24 = (D ++ putL 4 [pl] ++ putL 1 [16, 0] ++ putL 2 [65521] ++ putL 8 [s.f1, 0]).length := by simp only [List.length_append, putL_length, List.length_cons, List.length_nil]
    rw [hl, symsPut_is r _ _ _ (by simp only [putL_length, List.length_cons, List.length_nil]; omega)]
    simp only [List.append_assoc, putL_length, List.length_cons, List.length_nil]
    congr 7
    omega
theorem namesPut_is : ∀ (l : List S44) (D : List Int) (n : Nat), total l ≤ n → namesPut (D ++ zs n) D.length l = (D ++ namesB l) ++ zs (n - total l)
  | [], D, n, _ => by simp [namesPut, namesB, total]
  | s :: r, D, n, hn => by
    rw [total] at hn ⊢
    rw [namesPut, namesB]
    rw [putAt_end D (strL s.f0) n D.length rfl (by rw [strL_length]; omega), strL_length]
    rw [zs_skip _ _ 1 (by omega)]
    have hl : D.length + s.f0.size + 1 = (D ++ strL s.f0 ++ zs 1).length := by simp only [List.length_append, strL_length, zs_length]
    rw [hl, namesPut_is r _ _ (by omega)]
    simp only [List.append_assoc]
    congr 4
    · show zs (_ - _) = _
      congr 1
      omega
theorem secPut_is (D : List Int) (n p : Nat) (x0 x1 x2 x3 x4 x5 x6 x7 : Int) (hp : p = D.length) (hn : 64 ≤ n) : secPut (D ++ zs n) p x0 x1 x2 x3 x4 x5 x6 x7 = (D ++ secB x0 x1 x2 x3 x4 x5 x6 x7) ++ zs (n - 64) := by
  subst hp
  unfold secPut secB
  rw [putAt_end D (putL 4 [x0, x1]) n D.length rfl (by simp only [putL_length, List.length_cons, List.length_nil]; omega)]
  rw [putAt_end _ (putL 8 [0, 0, x2, x3]) _ (D.length + 8) (by simp only [List.length_append, putL_length, List.length_cons, List.length_nil]) (by simp only [putL_length, List.length_cons, List.length_nil]; omega)]
  rw [putAt_end _ (putL 4 [x4, x5]) _ (D.length + 40) (by simp only [List.length_append, putL_length, List.length_cons, List.length_nil]) (by simp only [putL_length, List.length_cons, List.length_nil]; omega)]
  rw [putAt_end _ (putL 8 [x6, x7]) _ (D.length + 48) (by simp only [List.length_append, putL_length, List.length_cons, List.length_nil]) (by simp only [putL_length, List.length_cons, List.length_nil]; omega)]
  simp only [List.append_assoc, putL_length, List.length_cons, List.length_nil]
  congr 6
theorem namesAll_is (D : List Int) (l : List S44) (n tb tx ti se : Nat) (htb : tb = D.length) (htx : tx = tb + 24 + 24 * l.length) (hti : ti = tx + 1 + total l) (hse : se = upN (ti + 27)) (hn : tb + n = se + 256) :
    namesAll (D ++ zs n) tb tx ti se l = tailB D l := by
  have hu := upN_le (ti + 27)
  unfold namesAll
  have e1 : symsPut (D ++ zs n) (tb + 24) 1 l = (D ++ zs 24 ++ symsB 1 l) ++ zs (n - 24 - 24 * l.length) := by
    rw [zs_skip D n 24 (by omega)]
    have := symsPut_is l (D ++ zs 24) (n - 24) 1 (by omega)
    rw [show (D ++ zs 24).length = tb + 24 by simp [zs_length, htb]] at this
    exact this
  rw [e1]
  obtain ⟨D1, hD1⟩ : ∃ D1, D ++ zs 24 ++ symsB 1 l = D1 := ⟨_, rfl⟩
  have l1 : D1.length = tx := by rw [← hD1]; simp [zs_length, symsB_length]; omega
  rw [hD1]
  have e2 : namesPut (D1 ++ zs (n - 24 - 24 * l.length)) (tx + 1) l = (D1 ++ ([0] ++ namesB l)) ++ zs (n - 24 - 24 * l.length - 1 - total l) := by
    rw [zs_skip D1 _ 1 (by omega)]
    have := namesPut_is l (D1 ++ zs 1) (n - 24 - 24 * l.length - 1) (by omega)
    rw [show (D1 ++ zs 1).length = tx + 1 by simp [zs_length, l1]] at this
    rw [this, List.append_assoc D1]
    rfl
  rw [e2]
  obtain ⟨D2, hD2⟩ : ∃ D2, D1 ++ ([0] ++ namesB l) = D2 := ⟨_, rfl⟩
  have l2 : D2.length = ti := by rw [← hD2]; simp [namesB_length]; omega
  rw [hD2]
  have lt : (strL titlesB).length = 27 := by rw [strL_length]; rfl
  rw [putAt_end D2 (strL titlesB) _ (tx + 1 + total l) (by omega) (by omega), lt]
  obtain ⟨m, hm⟩ : ∃ m, n - 24 - 24 * l.length - 1 - total l - 27 = m := ⟨_, rfl⟩
  rw [hm]
  have l3 : (D2 ++ strL titlesB).length = ti + 27 := by rw [List.length_append, l2, lt]
  have e3 : (D2 ++ strL titlesB) ++ zs m = (padB (D2 ++ strL titlesB) ++ zs 64) ++ zs 192 := by
    rw [padB, l3, zs_skip _ m (upN (ti + 27) - (ti + 27)) (by omega), zs_skip _ _ 64 (by omega)]
    congr 2
    omega
  rw [e3]
  have l4 : (padB (D2 ++ strL titlesB) ++ zs 64).length = se + 64 := by rw [List.length_append, padB_length, l3, zs_length, hse]
  obtain ⟨D3, hD3⟩ : ∃ D3, padB (D2 ++ strL titlesB) ++ zs 64 = D3 := ⟨_, rfl⟩
  rw [hD3] at l4 ⊢
  show secPut (secPut (secPut (D3 ++ zs 192) (se + 64) 1 2 tb (tx - tb) 2 1 8 24) (se + 64 + 64) 9 3 tx (ti - tx) 0 0 1 0) (se + 64 + 128) 17 3 ti 27 0 0 1 0 = _
  rw [secPut_is D3 192 (se + 64) _ _ _ _ _ _ _ _ l4.symm (by omega)]
  rw [secPut_is _ _ (se + 64 + 64) _ _ _ _ _ _ _ _ (by rw [List.length_append, secB_length, l4]) (by omega)]
  rw [secPut_is _ _ (se + 64 + 128) _ _ _ _ _ _ _ _ (by rw [List.length_append, List.length_append, secB_length, secB_length, l4]) (by omega)]
  unfold tailB
  simp only []
  rw [hD1, l1, hD2, l2, hD3, ← htb]
  simp [zs]
/-- The whole file. -/
def bodyB (a0 se cnt third : Int) (l1 : List S41) : List Int := dataB (headB a0 se l1.length cnt third ++ phB (placesN (64 + 56 * l1.length) l1) l1) l1
theorem bodyB_length (a0 se cnt third : Int) (l1 : List S41) : (bodyB a0 se cnt third l1).length = endN (64 + 56 * l1.length) l1 := by
  unfold bodyB
  rw [dataB_length, List.length_append, headB_length, phB_length _ _ (placesN_length _ _)]
theorem body_is (a0 se cnt third : Int) (l1 : List S41) (sz : Nat) (h : endN (64 + 56 * l1.length) l1 ≤ sz) :
    dataPut (phPut (headPut (zs sz) a0 se l1.length cnt third) 64 (placesN (64 + 56 * l1.length) l1) l1) (placesN (64 + 56 * l1.length) l1) l1 = bodyB a0 se cnt third l1 ++ zs (sz - endN (64 + 56 * l1.length) l1) := by
  have hge := endN_ge (64 + 56 * l1.length) l1
  rw [headPut_is _ _ _ _ _ sz (by omega)]
  have h1 := phPut_is (placesN (64 + 56 * l1.length) l1) l1 (headB a0 se l1.length cnt third) (sz - 64) (placesN_length _ _) (by omega)
  rw [headB_length] at h1
  rw [h1]
  have hl : (headB a0 se l1.length cnt third ++ phB (placesN (64 + 56 * l1.length) l1) l1).length = 64 + 56 * l1.length := by rw [List.length_append, headB_length, phB_length _ _ (placesN_length _ _)]
  have h2 := dataPut_is l1 (headB a0 se l1.length cnt third ++ phB (placesN (64 + 56 * l1.length) l1) l1) (sz - 64 - 56 * l1.length) (by rw [hl]; omega)
  rw [hl] at h2
  rw [h2]
  unfold bodyB
  congr 2
  omega
/-- The places of the names' part behind a body that ends at m. -/
def tbN (m : Nat) : Nat := upN m
def txN (m : Nat) (l : List S44) : Nat := upN m + 24 + 24 * l.length
def tiN (m : Nat) (l : List S44) : Nat := txN m l + 1 + total l
def seN (m : Nat) (l : List S44) : Nat := upN (tiN m l + 27)
/-- What both sides write. -/
def fileB (a0 : Int) (l1 : List S41) (l2 : List S44) : List Int :=
  if 0 < l2.length then tailB (padB (bodyB a0 (seN (endN (64 + 56 * l1.length) l1) l2) 4 3 l1)) l2 else bodyB a0 0 0 0 l1
theorem file_syms (a0 : Int) (l1 : List S41) (l2 : List S44) (h : 0 < l2.length) (m : Nat) (hm : endN (64 + 56 * l1.length) l1 = m) :
    fileL a0 l1 l2 (placesN (64 + 56 * l1.length) l1) (tbN m) (txN m l2) (tiN m l2) (seN m l2) (seN m l2 + 256) = fileB a0 l1 l2 := by
  have hu := upN_le m
  have hu2 := upN_le (tiN m l2 + 27)
  unfold fileL fileB
  rw [if_pos h, if_pos h, body_is _ _ _ _ _ _ (by rw [hm]; unfold seN tiN txN at *; omega), hm]
  obtain ⟨B, hB⟩ : ∃ B, bodyB a0 (seN m l2) 4 3 l1 = B := ⟨_, rfl⟩
  have lB : B.length = m := by rw [← hB, bodyB_length, hm]
  rw [hB]
  have e : B ++ zs (seN m l2 + 256 - m) = padB B ++ zs (seN m l2 + 256 - upN m) := by
    rw [padB, lB, zs_skip B _ (upN m - m) (by unfold seN tiN txN at *; omega)]
    congr 2
    unfold seN tiN txN at *
    omega
  rw [e]
  exact namesAll_is (padB B) l2 _ _ _ _ _ (by rw [padB_length, lB]; rfl) rfl rfl rfl (by unfold tbN seN tiN txN at *; omega)
theorem file_none (a0 : Int) (l1 : List S41) (l2 : List S44) (h : ¬ 0 < l2.length) (m : Nat) (hm : endN (64 + 56 * l1.length) l1 = m) (tb tx ti : Nat) :
    fileL a0 l1 l2 (placesN (64 + 56 * l1.length) l1) tb tx ti 0 m = fileB a0 l1 l2 := by
  unfold fileL fileB
  rw [if_neg h, if_neg h, body_is _ _ _ _ _ _ (by omega), hm]
  simp [zs]
end Go.Proofs.YtbnlifldnjgpmaaDoor.PWri

/- image.Write on lists: where Check says yes the layout's places are those of the file, and the file is 'fileB'. -/
set_option linter.unusedVariables false
set_option linter.unusedSimpArgs false
namespace Go.Proofs.YtbnlifldnjgpmaaDoor.PWri
open Go.RowKit Go.Lib Go.Proofs.YtbnlifldnjgpmaaDoorW.PrintWords Go.Proofs.YtbnlifldnjgpmaaDoorW.PrintLast

theorem upS_N (n : Nat) : upS (n : Int) = (upN n : Int) := by unfold upS upN; omega
theorem drop_sym {l : List Sym} {j : Nat} (h : j < l.length) : l.drop j = rd_T44 l (j : Int) :: l.drop (j + 1) := by
  unfold rd_T44
  rw [Int.toNat_natCast, List.getD_eq_getElem?_getD, List.getElem?_eq_getElem h]
  exact List.drop_eq_getElem_cons h
theorem drop_seg {l : List Seg} {j : Nat} (h : j < l.length) : l.drop j = rd_T41 l (j : Int) :: l.drop (j + 1) := by
  unfold rd_T41
  rw [Int.toNat_natCast, List.getD_eq_getElem?_getD, List.getElem?_eq_getElem h]
  exact List.drop_eq_getElem_cons h
theorem Ev.uniq {α : Type} {g : Nat → Option α} {a b : α} (h1 : Ev g a) (h2 : Ev g b) : a = b := by
  obtain ⟨K1, h1⟩ := h1
  obtain ⟨K2, h2⟩ := h2
  have e1 := h1 (max K1 K2) (Nat.le_max_left _ _)
  have e2 := h2 (max K1 K2) (Nat.le_max_right _ _)
  rw [e1] at e2
  exact Option.some.inj e2
set_option maxRecDepth 100000 in
theorem lay2_l1 (segs : List Seg) (syms : List Sym) (H : Small segs syms) (c : syms.length ≤ 400) (dl : List Int) (tb tx se sz : Int) : ∀ (d i n : Nat), i + d = syms.length → n ≤ 8589934592 + i * 2097152 →
    Ev (fun k => image_lay.l1 k syms (syms.length : Int) (i : Int) dl tb tx (n : Int) se sz) (dl, tb, tx, ((n + total (syms.drop i) : Nat) : Int), ((upN (n + total (syms.drop i) + 27) : Nat) : Int), ((upN (n + total (syms.drop i) + 27) + 256 : Nat) : Int)) := by
  intro d
  induction d with
  | zero =>
    intro i n hi hn
    refine Ev.step (f := fun _ => some _) (fun k => ?_) (Ev.now _)
    have hd : syms.drop i = [] := List.drop_eq_nil_of_le (by omega)
    rw [hd, image_lay.l1, if_neg (by omega), w64 (x := (n : Int) + 27) (by omega) (by omega), image_up_is (by omega) (by omega)]
    have hu := upN_le (n + 27)
    have e : upS ((n : Int) + 27) = (upN (n + 27) : Int) := upS_N (n + 27)
    simp only [Option.bind_some]
    rw [e, w64 (by omega) (by omega)]
    simp [total]
  | succ d ih0 =>
    intro i n hi hn
    have hs := H.name (i : Int)
    have hd := drop_sym (l := syms) (j := i) (by omega)
    have ih := ih0 (i + 1) (n + (rd_T44 syms i).f0.size + 1) (by omega) (by omega)
    have et : n + (rd_T44 syms i).f0.size + 1 + total (syms.drop (i + 1)) = n + total (syms.drop i) := by rw [hd, total]; omega
    rw [et] at ih
    refine Ev.step (fun k => ?_) ih
    rw [image_lay.l1, if_pos (by omega), if_pos (by omega), if_pos (by omega)]
    rw [w64 (x := ((rd_T44 syms i).f0.size : Int) + 1) (by omega) (by omega), w64 (x := (n : Int) + _) (by omega) (by omega), w64 (x := (i : Int) + 1) (by omega) (by omega)]
    congr 1
def layN (segs : List Seg) (syms : List Sym) (dl : List Int) (m : Nat) : List Int × Int × Int × Int × Int × Int :=
  if syms.length = 0 then (dl, 0, 0, 0, 0, (m : Int)) else (dl, (tbN m : Int), (txN m syms : Int), (tiN m syms : Int), (seN m syms : Int), ((seN m syms + 256 : Nat) : Int))
set_option maxRecDepth 100000 in
theorem lay2_l0 (e : Int) (segs : List Seg) (syms : List Sym) (H : Small segs syms) (c1 : segs.length ≤ 16) (c2 : syms.length ≤ 400) : ∀ (d i n : Nat) (dl : List Int), i + d = segs.length → dl.length = i → n ≤ 4294967296 + i * 2097152 →
    Ev (fun k => image_lay.l0 k (n : Int) segs (segs.length : Int) (i : Int) e segs syms dl 0 0 0 0 0) (layN segs syms (dl ++ placesN n (segs.drop i)) (endN n (segs.drop i))) := by
  intro d
  induction d with
  | zero =>
    intro i n dl hi hdl hn
    have hup := upN_le n
    have hd : segs.drop i = [] := List.drop_eq_nil_of_le (by omega)
    rw [hd, placesN, endN, List.append_nil]
    unfold layN
    by_cases hz : syms.length = 0
    · rw [if_pos hz]
      refine Ev.step (f := fun _ => some (dl, 0, 0, 0, 0, (n : Int))) (fun k => ?_) (Ev.now _)
      rw [image_lay.l0, if_neg (by omega), if_neg (by omega)]
    · rw [if_neg hz]
      have hq := lay2_l1 segs syms H c2 dl (upS n) (upS n + 24 * ((syms.length : Int) + 1)) 0 0 syms.length 0 (upN n + 24 + 24 * syms.length + 1) (by omega) (by omega)
      rw [List.drop_zero] at hq
      have e1 : upN n + 24 + 24 * syms.length + 1 + total syms = tiN n syms := rfl
      have e2 : upS (n : Int) = (tbN n : Int) := upS_N n
      have e3 : (tbN n : Int) + 24 * ((syms.length : Int) + 1) = (txN n syms : Int) := by unfold tbN txN; omega
      rw [e1, e2, e3] at hq
      refine Ev.step (f := fun k => image_lay.l1 k syms (syms.length : Int) 0 dl (tbN n) (txN n syms) ((upN n + 24 + 24 * syms.length + 1 : Nat) : Int) 0 0) (fun k => ?_) hq
      rw [image_lay.l0, if_neg (by omega), if_pos (by omega), image_up_is (by omega) (by omega)]
      simp only [Option.bind_some]
      rw [e2, w64 (x := (syms.length : Int) + 1) (by omega) (by omega), w64 (x := 24 * ((syms.length : Int) + 1)) (by omega) (by omega), w64 (x := (tbN n : Int) + _) (by unfold tbN; omega) (by unfold tbN; omega), e3, w64 (by unfold txN; omega) (by unfold txN; omega)]
      congr 1
  | succ d ih0 =>
    intro i n dl hi hdl hn
    have hs := H.data (i : Int)
    have hup := upN_le n
    have hd := drop_seg (l := segs) (j := i) (by omega)
    rw [hd, placesN, endN]
    by_cases hz : (rd_T41 segs i).f3.length = 0
    · rw [if_neg (by omega), if_neg (by omega)]
      have ih := ih0 (i + 1) n (dl ++ [0]) (by omega) (by rw [List.length_append, hdl]; rfl) (Nat.le_trans hn (Nat.add_le_add_left (Nat.mul_le_mul_right _ (Nat.le_succ i)) _))
      rw [List.append_assoc] at ih
      refine Ev.step (fun k => ?_) ih
      rw [image_lay.l0, if_pos (by omega), if_pos (by omega), if_pos (by omega), if_pos (by omega), if_pos (by omega), w64 (by omega) (by omega)]
      rfl
    · rw [if_pos (by omega), if_pos (by omega)]
      have ih := ih0 (i + 1) (upN n + (rd_T41 segs i).f3.length) (dl ++ [(upN n : Int)]) (by omega) (by rw [List.length_append, hdl]; rfl) (by omega)
      rw [List.append_assoc] at ih
      refine Ev.step (fun k => ?_) ih
      rw [image_lay.l0, if_pos (by omega), if_pos (by omega), if_pos (by omega), if_neg (by omega), image_up_is (by omega) (by omega)]
      simp only [Option.bind_some]
      rw [upS_N, if_pos (by omega), w64 (by omega) (by omega), w64 (by omega) (by omega)]
      rfl
theorem lay2 (e : Int) (segs : List Seg) (syms : List Sym) (H : Small segs syms) (c1 : segs.length ≤ 16) (c2 : syms.length ≤ 400) :
    Ev (fun k => image_lay.f k e segs syms) (layN segs syms (placesN (64 + 56 * segs.length) segs) (endN (64 + 56 * segs.length) segs)) := by
  have h := lay2_l0 e segs syms H c1 c2 segs.length 0 (64 + 56 * segs.length) [] (by omega) rfl (by omega)
  refine Ev.congr (fun k => ?_) h
  unfold image_lay.f
  rw [w64 (x := 56 * (segs.length : Int)) (by omega) (by omega), w64 (by omega) (by omega)]
  rfl
/-! ### what Check's yes says -/
theorem parts_ok (l : List Seg) : ∀ (d i : Nat), i + d = l.length → partsS l d i = none → ∀ j, i ≤ j → j < l.length → ¬ badS (rd_T41 l (j : Int))
  | 0, i, hi, _, j, h1, h2 => by omega
  | d + 1, i, hi, h, j, h1, h2 => by
    rw [partsS] at h
    by_cases hb : badS (rd_T41 l i)
    · rw [if_pos hb] at h; cases h
    · rw [if_neg hb] at h
      split at h
      · cases h
      · rcases Nat.eq_or_lt_of_le h1 with rfl | hlt
        · exact hb
        · exact parts_ok l d (i + 1) (by omega) h j hlt h2
theorem syms_ok (l : List Sym) : ∀ (d i : Nat), i + d = l.length → symsS l d i = none → ∀ j, i ≤ j → j < l.length → nameB (rd_T44 l (j : Int)).f0 = true
  | 0, i, hi, _, j, h1, h2 => by omega
  | d + 1, i, hi, h, j, h1, h2 => by
    rw [symsS] at h
    by_cases hb : nameB (rd_T44 l i).f0 = false
    · rw [if_pos hb] at h; cases h
    · rw [if_neg hb] at h
      split at h
      · cases h
      · rcases Nat.eq_or_lt_of_le h1 with rfl | hlt
        · simpa using hb
        · exact syms_ok l d (i + 1) (by omega) h j hlt h2
theorem nameB_pos {s : ByteArray} (h : nameB s = true) : 0 < s.size := by
  unfold nameB at h
  simp only [Bool.and_eq_true, decide_eq_true_eq] at h
  exact h.2.2.1
theorem symsS_ne (l : List Sym) : ∀ d i, symsS l d i ≠ some 0
  | 0, i => by simp [symsS]
  | d + 1, i => by
    rw [symsS]
    split
    · simp
    · split
      · simp
      · exact symsS_ne l d (i + 1)
structure Yes (e : Int) (segs : List Seg) (syms : List Sym) : Prop where
  c1 : segs.length ≤ 16
  c2 : syms.length ≤ 400
  flags : ∀ j, j < segs.length → 0 ≤ (rd_T41 segs (j : Int)).f2 ∧ (rd_T41 segs (j : Int)).f2 ≤ 7
  name : ∀ s ∈ syms, nameB s.f0 = true
  size : sizeS segs syms ≤ 200000
theorem yes_of (e : Int) (segs : List Seg) (syms : List Sym) (h : checkS e segs syms = 0) : Yes e segs syms := by
  unfold checkS at h
  split at h
  · split at h
    · cases h
    · split at h
      · cases h
      · rename_i h0 h1 h2
        cases hp : partsS segs segs.length 0 with
        | some z => rw [hp] at h; exact absurd (hp.trans (by rw [show z = 0 from h])) (partsS_ne segs _ _)
        | none =>
          rw [hp] at h
          have h : restS segs syms = 0 := h
          unfold restS at h
          cases hq : symsS syms syms.length 0 with
          | some z => rw [hq] at h; exact absurd (hq.trans (by rw [show z = 0 from h])) (symsS_ne syms _ _)
          | none =>
            rw [hq] at h
            have h : (if sizeS segs syms > 200000 then (3 : Int) else 0) = 0 := h
            refine ⟨by omega, by omega, fun j hj => ?_, fun s hs => ?_, ?_⟩
            · have := parts_ok segs segs.length 0 (by omega) hp j (by omega) hj
              unfold badS at this
              omega
            · obtain ⟨j, hj, rfl⟩ := List.getElem_of_mem hs
              have := syms_ok syms syms.length 0 (by omega) hq j (by omega) hj
              unfold rd_T44 at this
              rw [Int.toNat_natCast, List.getD_eq_getElem?_getD, List.getElem?_eq_getElem hj] at this
              exact this
            · split at h
              · cases h
              · omega
  · cases h
theorem size_N {e : Int} {segs : List Seg} {syms : List Sym} (H : Small segs syms) (c1 : segs.length ≤ 16) (c2 : syms.length ≤ 400) :
    (layN segs syms (placesN (64 + 56 * segs.length) segs) (endN (64 + 56 * segs.length) segs)).2.2.2.2.2 = sizeS segs syms := by
  obtain ⟨q, h, hq⟩ := lay_is e segs syms H c1 c2
  rw [← hq, Ev.uniq h (lay2 e segs syms H c1 c2)]
theorem layOk {e : Int} {segs : List Seg} {syms : List Sym} (H : Small segs syms) (Y : Yes e segs syms) (hs : 0 < syms.length) (m : Nat) (hm : endN (64 + 56 * segs.length) segs = m) :
    LayOk segs syms (placesN (64 + 56 * segs.length) segs) (tbN m) (txN m syms) (tiN m syms) (seN m syms) (seN m syms + 256) := by
  have hz := size_N (e := e) H Y.c1 Y.c2
  have hz2 := Y.size
  rw [hm] at hz
  unfold layN at hz
  rw [if_neg (by omega)] at hz
  simp only [] at hz
  have hu := upN_le m
  have hu2 := upN_le (tiN m syms + 27)
  have hge := endN_ge (64 + 56 * segs.length) segs
  have a1 : txN m syms = upN m + 24 + 24 * syms.length := rfl
  have a2 : tiN m syms = txN m syms + 1 + total syms := rfl
  have a3 : seN m syms = upN (tiN m syms + 27) := rfl
  have a4 : tbN m = upN m := rfl
  refine ⟨placesN_length _ _, fun j hj => ?_, by omega, by omega, by omega, fun _ => ⟨by omega, by omega, by omega, by omega, by omega, fun s hs => nameB_pos (Y.name s hs)⟩⟩
  have hp := places_in segs (64 + 56 * segs.length) j hj
  rw [hm] at hp
  unfold rd rd_T41
  rw [Int.toNat_natCast]
  omega
theorem layOk0 {e : Int} {segs : List Seg} {syms : List Sym} (H : Small segs syms) (Y : Yes e segs syms) (hs : syms.length = 0) (m : Nat) (hm : endN (64 + 56 * segs.length) segs = m) :
    LayOk segs syms (placesN (64 + 56 * segs.length) segs) 0 0 0 0 m := by
  have hz := size_N (e := e) H Y.c1 Y.c2
  have hz2 := Y.size
  rw [hm] at hz
  unfold layN at hz
  rw [if_pos hs] at hz
  simp only [] at hz
  have hge := endN_ge (64 + 56 * segs.length) segs
  refine ⟨placesN_length _ _, fun j hj => ?_, by omega, by omega, by omega, fun h => by omega⟩
  have hp := places_in segs (64 + 56 * segs.length) j hj
  have hl := places_lt segs (64 + 56 * segs.length) j hj (by omega)
  rw [hm] at hp hl
  unfold rd rd_T41
  rw [Int.toNat_natCast]
  omega
def writeS (e : Int) (segs : List Seg) (syms : List Sym) : List Int × Int := if checkS e segs syms = 0 then (fileB e segs syms, 0) else ([], checkS e segs syms)
theorem write_is (e : Int) (h0 : 0 ≤ e) (segs : List Seg) (syms : List Sym) (H : Small segs syms) : Ev (fun k => image_Write.f k e segs syms) (writeS e segs syms) := by
  unfold image_Write.f writeS
  refine Ev.bind (f := fun k x => if x = 0 then ((image_lay.f k e segs syms).bind fun y => if 0 ≤ y.2.1 ∧ 0 ≤ y.2.2.1 ∧ 0 ≤ y.2.2.2.1 ∧ 0 ≤ y.2.2.2.2.1 ∧ 0 ≤ y.2.2.2.2.2 ∧ LayOk segs syms y.1 y.2.1.toNat y.2.2.1.toNat y.2.2.2.1.toNat y.2.2.2.2.1.toNat y.2.2.2.2.2.toNat then some (fileL e segs syms y.1 y.2.1.toNat y.2.2.1.toNat y.2.2.2.1.toNat y.2.2.2.2.1.toNat y.2.2.2.2.2.toNat, (0 : Int)) else none) else some ([], x)) (chk e h0 segs syms H) ?_
  by_cases hc : checkS e segs syms = 0
  · rw [if_pos hc]
    have Y := yes_of e segs syms hc
    refine Ev.congr (f := fun k => ((image_lay.f k e segs syms).bind fun y => if 0 ≤ y.2.1 ∧ 0 ≤ y.2.2.1 ∧ 0 ≤ y.2.2.2.1 ∧ 0 ≤ y.2.2.2.2.1 ∧ 0 ≤ y.2.2.2.2.2 ∧ LayOk segs syms y.1 y.2.1.toNat y.2.2.1.toNat y.2.2.2.1.toNat y.2.2.2.2.1.toNat y.2.2.2.2.2.toNat then some (fileL e segs syms y.1 y.2.1.toNat y.2.2.1.toNat y.2.2.2.1.toNat y.2.2.2.2.1.toNat y.2.2.2.2.2.toNat, (0 : Int)) else none)) (fun k => by rw [if_pos hc]) ?_
    refine Ev.bind (f := fun k y => if 0 ≤ y.2.1 ∧ 0 ≤ y.2.2.1 ∧ 0 ≤ y.2.2.2.1 ∧ 0 ≤ y.2.2.2.2.1 ∧ 0 ≤ y.2.2.2.2.2 ∧ LayOk segs syms y.1 y.2.1.toNat y.2.2.1.toNat y.2.2.2.1.toNat y.2.2.2.2.1.toNat y.2.2.2.2.2.toNat then some (fileL e segs syms y.1 y.2.1.toNat y.2.2.1.toNat y.2.2.2.1.toNat y.2.2.2.2.1.toNat y.2.2.2.2.2.toNat, (0 : Int)) else none) (lay2 e segs syms H Y.c1 Y.c2) ?_
    obtain ⟨m, hm⟩ : ∃ m, endN (64 + 56 * segs.length) segs = m := ⟨_, rfl⟩
    rw [hm]
    unfold layN
    by_cases hs : syms.length = 0
    · rw [if_pos hs]
      simp only [Int.toNat_natCast, Int.toNat_zero]
      rw [if_pos ⟨by omega, by omega, by omega, by omega, by omega, layOk0 H Y hs m hm⟩, file_none e segs syms (by omega) m hm]
      exact Ev.now _
    · rw [if_neg hs]
      simp only [Int.toNat_natCast]
      rw [if_pos ⟨by omega, by omega, by omega, by omega, by omega, layOk H Y (by omega) m hm⟩, file_syms e segs syms (by omega) m hm]
      exact Ev.now _
  · rw [if_neg hc]
    exact Ev.congr (fun k => by rw [if_neg hc]) (Ev.now _)
end Go.Proofs.YtbnlifldnjgpmaaDoor.PWri

/- The document's Write on lists: the same file. -/
set_option linter.unusedVariables false
set_option linter.unusedSimpArgs false
namespace Go.Proofs.YtbnlifldnjgpmaaDoor.PWri
open Go.RowKit Go.Lib Go.Proofs.YtbnlifldnjgpmaaDoorW.PrintWords Go.Proofs.YtbnlifldnjgpmaaDoorW.PrintLast

theorem num_l0 (size : Nat) (hs : size ≤ 64) : ∀ (d i : Nat) (l : List Int) (v : Int), i + d = size → 0 ≤ v → v < 18446744073709551616 → l.length + d < 140737488355328 →
    Ev (fun k => anvilref02_num.l0 k l v (size : Int) (i : Int)) (l ++ le d v)
  | 0, i, l, v, hi, h0, h1, hl => by
    refine Ev.step (f := fun _ => some l) (fun k => ?_) ?_
    · rw [anvilref02_num.l0, if_neg (by omega)]
    · rw [le, List.append_nil]
      exact Ev.now _
  | d + 1, i, l, v, hi, h0, h1, hl => by
    have ih := num_l0 size hs d (i + 1) (l ++ [v % 256]) (v / 256) (by omega) (by omega) (by omega) (by simp; omega)
    rw [List.append_assoc] at ih
    refine Ev.step (fun k => ?_) ih
    rw [anvilref02_num.l0, if_pos (by omega), if_pos (by omega), Int.tmod_eq_emod_of_nonneg h0, Int.tdiv_eq_ediv_of_nonneg h0, u64_small (by omega) (by omega), w64 (by omega) (by omega), Int.emod_emod_of_dvd _ (by omega)]
    rfl
theorem num_ev (l : List Int) (v : Int) (size : Nat) (hs : size ≤ 64) (h0 : 0 ≤ v) (h1 : v < 18446744073709551616) (hl : l.length ≤ 1099511627776) :
    Ev (fun k => anvilref02_num.f k l v (size : Int)) (l ++ le size v) := num_l0 size hs size 0 l v (by omega) h0 h1 (by omega)
theorem pad_l0 : ∀ (d : Nat) (l : List Int), upN l.length - l.length = d → l.length + d < 140737488355328 → Ev (fun k => anvilref02_pad.l0 k l) (padB l)
  | 0, l, hd, hl => by
    have hu := upN_le l.length
    refine Ev.step (f := fun _ => some l) (fun k => ?_) ?_
    · rw [anvilref02_pad.l0, if_pos (by unfold upN at *; omega)]
    · unfold padB
      rw [hd]
      simp only [zs, List.replicate_zero, List.append_nil]
      exact Ev.now _
  | d + 1, l, hd, hl => by
    have hu : upN (l ++ [0]).length = upN l.length := by
      simp only [List.length_append, List.length_cons, List.length_nil]
      unfold upN at *
      omega
    have ih := pad_l0 d (l ++ [0]) (by rw [hu]; simp; omega) (by simp; omega)
    have e : padB (l ++ [0]) = padB l := by
      unfold padB
      rw [hu]
      simp only [List.length_append, List.length_cons, List.length_nil]
      rw [hd, show upN l.length - (l.length + 1) = d by omega, List.append_assoc]
      congr 1
    rw [e] at ih
    refine Ev.step (fun k => ?_) ih
    rw [anvilref02_pad.l0, if_neg (by unfold upN at *; omega), if_pos (by omega)]
theorem pad_ev (l : List Int) (hl : l.length ≤ 1099511627776) : Ev (fun k => anvilref02_pad.f k l) (padB l) := pad_l0 _ l rfl (by have := upN_le l.length; omega)
theorem le0 (n : Nat) : le n 0 = zs n := by
  induction n with
  | zero => rfl
  | succ n ih => rw [le, show (0 : Int) / 256 = 0 by rfl, ih]; rfl
theorem putL_cons (n : Nat) (v : Int) (l : List Int) : putL n (v :: l) = le n v ++ putL n l := rfl
theorem putL_nil (n : Nat) : putL n [] = [] := rfl
theorem sec_ev (l : List Int) (x0 x1 x2 x3 x4 x5 x6 x7 : Int) (hl : l.length ≤ 549755813888) (h0 : 0 ≤ x0 ∧ x0 < 4294967296) (h1 : 0 ≤ x1 ∧ x1 < 4294967296) (h2 : 0 ≤ x2 ∧ x2 < 1099511627776) (h3 : 0 ≤ x3 ∧ x3 < 1099511627776) (h4 : 0 ≤ x4 ∧ x4 < 4294967296) (h5 : 0 ≤ x5 ∧ x5 < 4294967296) (h6 : 0 ≤ x6 ∧ x6 < 4294967296) (h7 : 0 ≤ x7 ∧ x7 < 4294967296) :
    Ev (fun k => anvilref02_section.f k l x0 x1 x2 x3 x4 x5 x6 x7) (l ++ secB x0 x1 x2 x3 x4 x5 x6 x7) := by
  unfold anvilref02_section.f
  rw [u64_small (x := x2) (by omega) (by omega), u64_small (x := x3) (by omega) (by omega)]
  refine Ev.bind (num_ev l x0 4 (by omega) (by omega) (by omega) (by omega)) ?_
  refine Ev.bind (num_ev _ x1 4 (by omega) (by omega) (by omega) (by simp [le_length]; omega)) ?_
  refine Ev.bind (num_ev _ 0 8 (by omega) (by omega) (by omega) (by simp [le_length]; omega)) ?_
  refine Ev.bind (num_ev _ 0 8 (by omega) (by omega) (by omega) (by simp [le_length]; omega)) ?_
  refine Ev.bind (num_ev _ x2 8 (by omega) (by omega) (by omega) (by simp [le_length]; omega)) ?_
  refine Ev.bind (num_ev _ x3 8 (by omega) (by omega) (by omega) (by simp [le_length]; omega)) ?_
  refine Ev.bind (num_ev _ x4 4 (by omega) (by omega) (by omega) (by simp [le_length]; omega)) ?_
  refine Ev.bind (num_ev _ x5 4 (by omega) (by omega) (by omega) (by simp [le_length]; omega)) ?_
  refine Ev.bind (num_ev _ x6 8 (by omega) (by omega) (by omega) (by simp [le_length]; omega)) ?_
  refine Ev.bind (num_ev _ x7 8 (by omega) (by omega) (by omega) (by simp [le_length]; omega)) ?_
  have e : l ++ le 4 x0 ++ le 4 x1 ++ le 8 0 ++ le 8 0 ++ le 8 x2 ++ le 8 x3 ++ le 4 x4 ++ le 4 x5 ++ le 8 x6 ++ le 8 x7 = l ++ secB x0 x1 x2 x3 x4 x5 x6 x7 := by
    unfold secB
    simp only [putL_cons, putL_nil, List.append_assoc, List.append_nil]
  rw [e]
  exact Ev.now _
theorem bytesOf_is (s : ByteArray) : bytesOf s = strL s := rfl
theorem sec0 : secB 0 0 0 0 0 0 0 0 = zs 64 := by decide
theorem nextPl_is (pl : Nat) (s : Sym) (h1 : pl ≤ 1099511627776) (h2 : s.f0.size ≤ 1048576) : nextPl (pl : Int) s = ((pl + s.f0.size + 1 : Nat) : Int) := by
  unfold nextPl
  rw [u64_small (x := (s.f0.size : Int)) (by omega) (by omega), u64_small (x := (s.f0.size : Int) + 1) (by omega) (by omega), u64_small (by omega) (by omega)]
  omega
theorem symbols_l0 (syms : List Sym) (tb : Nat) (htb : tb ≤ 137438953472) (c2 : syms.length ≤ 400) (hn : ∀ i : Int, (rd_T44 syms i).f0.size ≤ 1048576) (hv : ∀ i : Int, 0 ≤ (rd_T44 syms i).f1 ∧ (rd_T44 syms i).f1 < 18446744073709551616) : ∀ (d i : Nat) (b t : List Int), i + d = syms.length → b.length = tb + 24 + 24 * i → t.length ≤ 1 + i * 2097152 →
    Ev (fun k => anvilref02_symbols.l0 k b syms (tb : Int) t (i : Int))
      (padB (b ++ symsB (t.length : Int) (syms.drop i) ++ (t ++ namesB (syms.drop i)) ++ strL titlesB) ++ zs 64 ++ secB 1 2 tb (24 + 24 * syms.length : Nat) 2 1 8 24
        ++ secB 9 3 ((b ++ symsB (t.length : Int) (syms.drop i)).length : Nat) ((t ++ namesB (syms.drop i)).length : Nat) 0 0 1 0
        ++ secB 17 3 ((b ++ symsB (t.length : Int) (syms.drop i) ++ (t ++ namesB (syms.drop i))).length : Nat) 27 0 0 1 0) := by
  intro d
  induction d with
  | zero =>
    intro i b t hi hb ht
    have hd : syms.drop i = [] := List.drop_eq_nil_of_le (by omega)
    rw [hd]
    simp only [symsB, namesB, List.append_nil]
    obtain ⟨y, hy⟩ : ∃ y, b ++ t = y := ⟨_, rfl⟩
    have hyl : y.length = b.length + t.length := by rw [← hy]; simp
    have lt : (strL titlesB).length = 27 := by rw [strL_length]; rfl
    have hu := upN_le (y.length + 27)
    have hpl : (padB (y ++ strL titlesB)).length = upN (y.length + 27) := by rw [padB_length, List.length_append, lt]
    refine Ev.step (f := fun k => (anvilref02_pad.f k (y ++ strL titlesB)).bind fun t265 => ((anvilref02_section.f k t265 0 0 0 0 0 0 0 0).bind fun t268 => ((anvilref02_section.f k t268 1 2 (tb : Int) ((24 + 24 * syms.length : Nat) : Int) 2 1 8 24).bind fun t271 => ((anvilref02_section.f k t271 9 3 (b.length : Int) (t.length : Int) 0 0 1 0).bind fun t274 => ((anvilref02_section.f k t274 17 3 (y.length : Int) 27 0 0 1 0).bind fun t277 => (some t277)))))) (fun k => ?_) ?_
    · rw [anvilref02_symbols.l0, if_neg (by omega), if_pos (by omega)]
      simp only [Option.bind_some]
      rw [hy, if_pos (by omega), w64 (x := 24 * (syms.length : Int)) (by omega) (by omega), w64 (x := 24 + 24 * (syms.length : Int)) (by omega) (by omega)]
      rfl
    · rw [hy]
      refine Ev.bind (pad_ev _ (by rw [List.length_append, lt]; omega)) ?_
      refine Ev.bind (sec_ev _ 0 0 0 0 0 0 0 0 (by rw [hpl]; omega) (by omega) (by omega) (by omega) (by omega) (by omega) (by omega) (by omega) (by omega)) ?_
      rw [sec0]
      refine Ev.bind (sec_ev _ 1 2 tb _ 2 1 8 24 (by simp only [List.length_append, hpl, zs_length]; omega) (by omega) (by omega) (by omega) (by omega) (by omega) (by omega) (by omega) (by omega)) ?_
      refine Ev.bind (sec_ev _ 9 3 _ _ 0 0 1 0 (by simp only [List.length_append, hpl, zs_length, secB_length]; omega) (by omega) (by omega) (by omega) (by omega) (by omega) (by omega) (by omega) (by omega)) ?_
      refine Ev.bind (sec_ev _ 17 3 _ 27 0 0 1 0 (by simp only [List.length_append, hpl, zs_length, secB_length]; omega) (by omega) (by omega) (by omega) (by omega) (by omega) (by omega) (by omega) (by omega)) ?_
      exact Ev.now _
  | succ d ih0 =>
    intro i b t hi hb ht
    have hs := hn (i : Int)
    obtain ⟨hv0, hv1⟩ := hv (i : Int)
    have hd := drop_sym (l := syms) (j := i) (by omega)
    obtain ⟨s, hse⟩ : ∃ s, rd_T44 syms (i : Int) = s := ⟨_, rfl⟩
    rw [hse] at hs hv0 hv1 hd
    have hbl : (b ++ le 4 (t.length : Int) ++ le 2 16 ++ le 2 65521 ++ le 8 s.f1 ++ le 8 0).length = tb + 24 + 24 * (i + 1) := by simp only [List.length_append, le_length]; omega
    have ih := ih0 (i + 1) (b ++ le 4 (t.length : Int) ++ le 2 16 ++ le 2 65521 ++ le 8 s.f1 ++ le 8 0) (t ++ strL s.f0 ++ [0]) (by omega) hbl (by simp [strL_length]; omega)
    have e2 : le 2 16 = putL 1 [16, 0] := by decide
    have e1 : b ++ symsB (t.length : Int) (syms.drop i) = b ++ le 4 (t.length : Int) ++ le 2 16 ++ le 2 65521 ++ le 8 s.f1 ++ le 8 0 ++ symsB ((t ++ strL s.f0 ++ [0]).length : Nat) (syms.drop (i + 1)) := by
      rw [hd, symsB, nextPl_is _ _ (by omega) hs, e2]
      have e3 : (t ++ strL s.f0 ++ [0]).length = t.length + s.f0.size + 1 := by simp [strL_length]; omega
      rw [e3]
      simp only [putL_cons, putL_nil, List.append_assoc, List.append_nil]
    have e4 : t ++ namesB (syms.drop i) = t ++ strL s.f0 ++ [0] ++ namesB (syms.drop (i + 1)) := by
      rw [hd, namesB]
      simp only [List.append_assoc]
    rw [e1, e4]
    refine Ev.step (f := fun k => (anvilref02_num.f k b (t.length : Int) 4).bind fun t236 => ((anvilref02_num.f k t236 16 2).bind fun t239 => ((anvilref02_num.f k t239 65521 2).bind fun t242 => ((anvilref02_num.f k t242 s.f1 8).bind fun t246 => ((anvilref02_num.f k t246 0 8).bind fun t249 => (anvilref02_symbols.l0 k t249 syms (tb : Int) (t ++ strL s.f0 ++ [0]) ((i + 1 : Nat) : Int))))))) (fun k => ?_) ?_
    · rw [anvilref02_symbols.l0, if_pos (by omega), u64_small (x := (t.length : Int)) (by omega) (by omega)]
      have q1 : (0 : Int) ≤ (i : Int) := by omega
      have q2 : t.length + s.f0.size < 140737488355328 := by omega
      have q3 : (t ++ strL s.f0).length < 140737488355328 := by simp [strL_length]; omega
      simp only [Option.bind_some, hse, bytesOf_is, if_pos q1, if_pos q2, if_pos q3]
      rw [w64 (by omega) (by omega)]
      rfl
    · refine Ev.bind (num_ev _ _ 4 (by omega) (by omega) (by omega) (by omega)) ?_
      refine Ev.bind (num_ev _ 16 2 (by omega) (by omega) (by omega) (by simp only [List.length_append, le_length]; omega)) ?_
      refine Ev.bind (num_ev _ 65521 2 (by omega) (by omega) (by omega) (by simp only [List.length_append, le_length]; omega)) ?_
      refine Ev.bind (num_ev _ s.f1 8 (by omega) hv0 hv1 (by simp only [List.length_append, le_length]; omega)) ?_
      refine Ev.bind (num_ev _ 0 8 (by omega) (by omega) (by omega) (by simp only [List.length_append, le_length]; omega)) ?_
      exact ih
theorem symbols_ev (b : List Int) (syms : List Sym) (hb : b.length ≤ 68719476736) (c2 : syms.length ≤ 400) (hn : ∀ i : Int, (rd_T44 syms i).f0.size ≤ 1048576) (hv : ∀ i : Int, 0 ≤ (rd_T44 syms i).f1 ∧ (rd_T44 syms i).f1 < 18446744073709551616) :
    Ev (fun k => anvilref02_symbols.f k b syms) (tailB (padB b) syms) := by
  unfold anvilref02_symbols.f
  have hu := upN_le b.length
  have hp := padB_length b
  refine Ev.bind (pad_ev b (by omega)) ?_
  refine Ev.bind (num_ev _ 0 24 (by omega) (by omega) (by omega) (by omega)) ?_
  have h := symbols_l0 syms (padB b).length (by omega) c2 hn hv syms.length 0 (padB b ++ le 24 0) [0] (by omega) (by simp [le_length]) (by simp)
  rw [List.drop_zero] at h
  refine Eq.mp (congrArg (Ev _) ?_) h
  unfold tailB
  rw [le0]
  simp only [List.length_cons, List.length_nil]
  have e1 : (((padB b ++ zs 24 ++ symsB 1 syms).length : Nat) : Int) - ((padB b).length : Int) = ((24 + 24 * syms.length : Nat) : Int) := by
    simp [zs_length, symsB_length]
    omega
  have e2 : (((padB b ++ zs 24 ++ symsB 1 syms ++ ([0] ++ namesB syms)).length : Nat) : Int) - ((padB b ++ zs 24 ++ symsB 1 syms).length : Int) = ((([0] : List Int) ++ namesB syms).length : Nat) := by
    simp only [List.length_append, List.length_cons, List.length_nil]
    omega
  rw [e1, e2]
  rfl
end Go.Proofs.YtbnlifldnjgpmaaDoor.PWri

/- The document's Write is 'writeS', as the program's; an image is like itself; the law's last loops end. -/
set_option linter.unusedVariables false
set_option linter.unusedSimpArgs false
namespace Go.Proofs.YtbnlifldnjgpmaaDoor.PWri
open Go.RowKit Go.Lib Go.Proofs.YtbnlifldnjgpmaaDoorW.PrintWords Go.Proofs.YtbnlifldnjgpmaaDoorW.PrintLast

/-- What is asked of an image's numbers. -/
structure Nums (e : Int) (segs : List Seg) (syms : List Sym) : Prop where
  e : 0 ≤ e ∧ e < 18446744073709551616
  a : ∀ i : Int, 0 ≤ (rd_T41 segs i).f0 ∧ (rd_T41 segs i).f0 < 18446744073709551616
  s : ∀ i : Int, 0 ≤ (rd_T41 segs i).f1 ∧ (rd_T41 segs i).f1 < 18446744073709551616
  v : ∀ i : Int, 0 ≤ (rd_T44 syms i).f1 ∧ (rd_T44 syms i).f1 < 18446744073709551616
theorem u64_range (x : Int) : 0 ≤ IntKind.u64.wrap x ∧ IntKind.u64.wrap x < 18446744073709551616 := by rw [IntKind.wrap_u64]; omega
def turnR (x : Int) : Int := IntKind.u64.wrap (wrap64 ((wrap64 ((Int.tmod (wrap64 (Int.tdiv x 4)) 2) + (wrap64 ((Int.tmod (wrap64 (Int.tdiv x 2)) 2) * 2)))) + (wrap64 ((Int.tmod x 2) * 4))))
theorem turn_ok (x : Int) (h0 : 0 ≤ x) (h1 : x ≤ 7) : turnR x = IntKind.u64.wrap (turnV x) := by
  obtain rfl | rfl | rfl | rfl | rfl | rfl | rfl | rfl : x = 0 ∨ x = 1 ∨ x = 2 ∨ x = 3 ∨ x = 4 ∨ x = 5 ∨ x = 6 ∨ x = 7 := by omega
  all_goals kernel_rfl
def ph1 (p : Int) (s : Seg) : List Int := putL 4 [1, IntKind.u64.wrap (turnV s.f2)] ++ putL 8 [p, s.f0, s.f0, (s.f3.length : Int), s.f1, 1]
theorem ph1_length (p : Int) (s : Seg) : (ph1 p s).length = 56 := by simp only [ph1, List.length_append, putL_length]; rfl
theorem j2_ev (e : Int) (segs : List Seg) (syms : List Sym) (s : Seg) (b : List Int) (n' : Int) (i : Nat) (p : Int) (R : List Int × Int) (hi : i ≤ 1048576) (hb : b.length ≤ 68719476736) (hf : 0 ≤ s.f2 ∧ s.f2 ≤ 7) (hp : 0 ≤ p ∧ p < 1099511627776)
    (h0 : 0 ≤ s.f0 ∧ s.f0 < 18446744073709551616) (h1 : 0 ≤ s.f1 ∧ s.f1 < 18446744073709551616) (hl : s.f3.length ≤ 1048576) (h : Ev (fun k => anvilref02_Write.l0 k (b ++ ph1 p s) n' ((i + 1 : Nat) : Int) e segs syms) R) :
    Ev (fun k => anvilref02_Write.j2 k b n' (i : Int) p e segs syms s.f0 s.f1 s.f2 s.f3) R := by
  have ht := turn_ok s.f2 hf.1 hf.2
  have hr := u64_range (turnV s.f2)
  refine Ev.step (f := fun k => (anvilref02_num.f k b 1 4).bind fun t328 => ((anvilref02_num.f k t328 (IntKind.u64.wrap (turnV s.f2)) 4).bind fun t331 => ((anvilref02_num.f k t331 p 8).bind fun t334 => ((anvilref02_num.f k t334 s.f0 8).bind fun t337 => ((anvilref02_num.f k t337 s.f0 8).bind fun t340 => ((anvilref02_num.f k t340 (s.f3.length : Int) 8).bind fun t343 => ((anvilref02_num.f k t343 s.f1 8).bind fun t346 => ((anvilref02_num.f k t346 1 8).bind fun t349 => (anvilref02_Write.l0 k t349 n' ((i + 1 : Nat) : Int) e segs syms))))))))) (fun k => ?_) ?_
  · rw [anvilref02_Write.j2, ← ht, u64_small (x := p) (by omega) (by omega), u64_small (x := (s.f3.length : Int)) (by omega) (by omega), w64 (x := (i : Int) + 1) (by omega) (by omega)]
    rfl
  · refine Ev.bind (num_ev _ 1 4 (by omega) (by omega) (by omega) (by omega)) ?_
    refine Ev.bind (num_ev _ _ 4 (by omega) hr.1 hr.2 (by simp only [List.length_append, le_length]; omega)) ?_
    refine Ev.bind (num_ev _ p 8 (by omega) (by omega) (by omega) (by simp only [List.length_append, le_length]; omega)) ?_
    refine Ev.bind (num_ev _ s.f0 8 (by omega) h0.1 h0.2 (by simp only [List.length_append, le_length]; omega)) ?_
    refine Ev.bind (num_ev _ s.f0 8 (by omega) h0.1 h0.2 (by simp only [List.length_append, le_length]; omega)) ?_
    refine Ev.bind (num_ev _ (s.f3.length : Int) 8 (by omega) (by omega) (by omega) (by simp only [List.length_append, le_length]; omega)) ?_
    refine Ev.bind (num_ev _ s.f1 8 (by omega) h1.1 h1.2 (by simp only [List.length_append, le_length]; omega)) ?_
    refine Ev.bind (num_ev _ 1 8 (by omega) (by omega) (by omega) (by simp only [List.length_append, le_length]; omega)) ?_
    have e1 : b ++ le 4 1 ++ le 4 (IntKind.u64.wrap (turnV s.f2)) ++ le 8 p ++ le 8 s.f0 ++ le 8 s.f0 ++ le 8 (s.f3.length : Int) ++ le 8 s.f1 ++ le 8 1 = b ++ ph1 p s := by
      unfold ph1
      simp only [putL_cons, putL_nil, List.append_assoc, List.append_nil]
    rw [e1]
    exact h
set_option maxRecDepth 100000 in
theorem heads_ev (e : Int) (segs : List Seg) (syms : List Sym) (H : Small segs syms) (N : Nums e segs syms) (Y : Yes e segs syms) (R : List Int × Int) : ∀ (d i n : Nat) (b : List Int), i + d = segs.length → b.length = 64 + 56 * i → n ≤ 4294967296 + i * 2097152 →
    Ev (fun k => anvilref02_Write.l1 k (b ++ phB (placesN n (segs.drop i)) (segs.drop i)) 0 e segs syms) R → Ev (fun k => anvilref02_Write.l0 k b (n : Int) (i : Int) e segs syms) R := by
  intro d
  have hc := Y.c1
  induction d with
  | zero =>
    intro i n b hi hb hn h
    have hd : segs.drop i = [] := List.drop_eq_nil_of_le (by omega)
    rw [hd, placesN, phB, List.append_nil] at h
    · refine Ev.step (fun k => ?_) h
      rw [anvilref02_Write.l0, if_neg (by omega)]
    · intro _ _ _ _ h2; cases h2
  | succ d ih0 =>
    intro i n b hi hb hn h
    have hs := H.data (i : Int)
    have hfl := Y.flags i (by omega)
    have h0 := N.a (i : Int)
    have h1 := N.s (i : Int)
    have hup := upN_le n
    have hd := drop_seg (l := segs) (j := i) (by omega)
    obtain ⟨s, hse⟩ : ∃ s, rd_T41 segs (i : Int) = s := ⟨_, rfl⟩
    rw [hse] at hs hfl h0 h1 hd
    rw [hd, placesN] at h
    by_cases hz : s.f3.length = 0
    · rw [if_neg (by omega), phB] at h
      have ih := ih0 (i + 1) n (b ++ ph1 0 s) (by omega) (by rw [List.length_append, ph1_length]; omega) (Nat.le_trans hn (Nat.add_le_add_left (Nat.mul_le_mul_right _ (Nat.le_succ i)) _)) (by rw [List.append_assoc]; exact h)
      have hj := j2_ev e segs syms s b (n : Int) i 0 R (by omega) (by omega) hfl (by omega) h0 h1 hs ih
      refine Ev.step (fun k => ?_) hj
      rw [anvilref02_Write.l0, if_pos (by omega), if_pos (by omega), hse, if_neg (by omega)]
    · rw [if_pos (by omega), phB] at h
      have ih := ih0 (i + 1) (upN n + s.f3.length) (b ++ ph1 (upN n) s) (by omega) (by rw [List.length_append, ph1_length]; omega) (by omega) (by rw [List.append_assoc]; exact h)
      have hj := j2_ev e segs syms s b ((upN n + s.f3.length : Nat) : Int) i (upN n) R (by omega) (by omega) hfl (by omega) h0 h1 hs ih
      refine Ev.step (f := fun k => (anvilref02_up.f k (n : Int)).bind fun t => anvilref02_Write.j2 k b (wrap64 (t + (s.f3.length : Int))) (i : Int) t e segs syms s.f0 s.f1 s.f2 s.f3) (fun k => ?_) ?_
      · rw [anvilref02_Write.l0, if_pos (by omega), if_pos (by omega), hse, if_pos (by omega)]
      · refine Ev.bind (ref_up (n := (n : Int)) (by omega) (by omega)) ?_
        rw [upS_N, w64 (by omega) (by omega)]
        exact hj
set_option maxRecDepth 100000 in
theorem datas_ev (e : Int) (segs : List Seg) (syms : List Sym) (H : Small segs syms) (c1 : segs.length ≤ 16) (R : List Int × Int) : ∀ (d i : Nat) (b : List Int), i + d = segs.length → b.length ≤ 4294967296 + i * 2097152 →
    Ev (fun k => if (syms.length : Int) = 0 then (some (dataB b (segs.drop i), 0)) else ((anvilref02_symbols.f k (dataB b (segs.drop i)) syms).bind fun t360 => (some (t360, 0)))) R → Ev (fun k => anvilref02_Write.l1 k b (i : Int) e segs syms) R := by
  intro d
  induction d with
  | zero =>
    intro i b hi hb h
    have hd : segs.drop i = [] := List.drop_eq_nil_of_le (by omega)
    rw [hd] at h
    refine Ev.step (fun k => ?_) h
    rw [anvilref02_Write.l1, if_neg (by omega)]
    rfl
  | succ d ih0 =>
    intro i b hi hb h
    have hs := H.data (i : Int)
    have hd := drop_seg (l := segs) (j := i) (by omega)
    obtain ⟨s, hse⟩ : ∃ s, rd_T41 segs (i : Int) = s := ⟨_, rfl⟩
    rw [hse] at hs hd
    rw [hd] at h
    have hu := upN_le b.length
    by_cases hz : 0 < s.f3.length
    · have e1 : dataB b (s :: segs.drop (i + 1)) = dataB (padB b ++ s.f3) (segs.drop (i + 1)) := by rw [dataB, if_pos hz]
      rw [e1] at h
      have ih := ih0 (i + 1) (padB b ++ s.f3) (by omega) (by rw [List.length_append, padB_length]; omega) h
      refine Ev.step (f := fun k => (anvilref02_pad.f k b).bind fun t353 => (if t353.length + (s.f3).length < 140737488355328 then (anvilref02_Write.l1 k (t353 ++ s.f3) ((i + 1 : Nat) : Int) e segs syms) else (none))) (fun k => ?_) ?_
      · rw [anvilref02_Write.l1, if_pos (by omega), if_pos (by omega), hse, if_pos (by omega), w64 (by omega) (by omega)]
        rfl
      · refine Ev.bind (pad_ev b (by omega)) ?_
        exact Ev.congr (fun k => by rw [if_pos (by rw [padB_length]; omega)]) ih
    · have e1 : dataB b (s :: segs.drop (i + 1)) = dataB b (segs.drop (i + 1)) := by rw [dataB, if_neg hz]
      rw [e1] at h
      have ih := ih0 (i + 1) b (by omega) (Nat.le_trans hb (Nat.add_le_add_left (Nat.mul_le_mul_right _ (Nat.le_succ i)) _)) h
      refine Ev.step (fun k => ?_) ih
      rw [anvilref02_Write.l1, if_pos (by omega), if_pos (by omega), hse, if_neg (by omega), w64 (by omega) (by omega)]
      rfl
theorem j0_ev (e : Int) (segs : List Seg) (syms : List Sym) (N : Nums e segs syms) (Y : Yes e segs syms) (se cnt third : Int) (hse : 0 ≤ se ∧ se < 1099511627776) (hc : 0 ≤ cnt ∧ cnt < 65536) (ht : 0 ≤ third ∧ third < 65536) (R : List Int × Int)
    (h : Ev (fun k => anvilref02_Write.l0 k (headB e se segs.length cnt third) ((64 + 56 * segs.length : Nat) : Int) 0 e segs syms) R) : Ev (fun k => anvilref02_Write.j0 k (strL elfB) se cnt third e segs syms) R := by
  have c1 := Y.c1
  have l16 : (strL elfB).length = 16 := by rw [strL_length]; rfl
  refine Ev.step (f := fun k => (anvilref02_num.f k (strL elfB) 2 2).bind fun t286 => ((anvilref02_num.f k t286 243 2).bind fun t289 => ((anvilref02_num.f k t289 1 4).bind fun t292 => ((anvilref02_num.f k t292 e 8).bind fun t295 => ((anvilref02_num.f k t295 64 8).bind fun t298 => ((anvilref02_num.f k t298 se 8).bind fun t301 => ((anvilref02_num.f k t301 1 4).bind fun t304 => ((anvilref02_num.f k t304 64 2).bind fun t307 => ((anvilref02_num.f k t307 56 2).bind fun t310 => ((anvilref02_num.f k t310 (segs.length : Int) 2).bind fun t313 => ((anvilref02_num.f k t313 64 2).bind fun t316 => ((anvilref02_num.f k t316 cnt 2).bind fun t319 => ((anvilref02_num.f k t319 third 2).bind fun t322 => (anvilref02_Write.l0 k t322 ((64 + 56 * segs.length : Nat) : Int) 0 e segs syms)))))))))))))) (fun k => ?_) ?_
  · rw [anvilref02_Write.j0, u64_small (x := se) (by omega) (by omega), u64_small (x := (segs.length : Int)) (by omega) (by omega), w64 (x := 56 * (segs.length : Int)) (by omega) (by omega), w64 (by omega) (by omega)]
    rfl
  · refine Ev.bind (num_ev _ 2 2 (by omega) (by omega) (by omega) (by omega)) ?_
    refine Ev.bind (num_ev _ 243 2 (by omega) (by omega) (by omega) (by simp only [List.length_append, le_length, l16]; omega)) ?_
    refine Ev.bind (num_ev _ 1 4 (by omega) (by omega) (by omega) (by simp only [List.length_append, le_length, l16]; omega)) ?_
    refine Ev.bind (num_ev _ e 8 (by omega) N.e.1 N.e.2 (by simp only [List.length_append, le_length, l16]; omega)) ?_
    refine Ev.bind (num_ev _ 64 8 (by omega) (by omega) (by omega) (by simp only [List.length_append, le_length, l16]; omega)) ?_
    refine Ev.bind (num_ev _ se 8 (by omega) (by omega) (by omega) (by simp only [List.length_append, le_length, l16]; omega)) ?_
    refine Ev.bind (num_ev _ 1 4 (by omega) (by omega) (by omega) (by simp only [List.length_append, le_length, l16]; omega)) ?_
    refine Ev.bind (num_ev _ 64 2 (by omega) (by omega) (by omega) (by simp only [List.length_append, le_length, l16]; omega)) ?_
    refine Ev.bind (num_ev _ 56 2 (by omega) (by omega) (by omega) (by simp only [List.length_append, le_length, l16]; omega)) ?_
    refine Ev.bind (num_ev _ (segs.length : Int) 2 (by omega) (by omega) (by omega) (by simp only [List.length_append, le_length, l16]; omega)) ?_
    refine Ev.bind (num_ev _ 64 2 (by omega) (by omega) (by omega) (by simp only [List.length_append, le_length, l16]; omega)) ?_
    refine Ev.bind (num_ev _ cnt 2 (by omega) (by omega) (by omega) (by simp only [List.length_append, le_length, l16]; omega)) ?_
    refine Ev.bind (num_ev _ third 2 (by omega) (by omega) (by omega) (by simp only [List.length_append, le_length, l16]; omega)) ?_
    have e1 : strL elfB ++ le 2 2 ++ le 2 243 ++ le 4 1 ++ le 8 e ++ le 8 64 ++ le 8 se ++ le 4 1 ++ le 2 64 ++ le 2 56 ++ le 2 (segs.length : Int) ++ le 2 64 ++ le 2 cnt ++ le 2 third = headB e se segs.length cnt third := by
      unfold headB
      simp only [putL_cons, putL_nil, List.append_assoc, List.append_nil]
    rw [e1]
    exact h
theorem ref_write (e : Int) (segs : List Seg) (syms : List Sym) (H : Small segs syms) (N : Nums e segs syms) : Ev (fun k => anvilref02_Write.f k e segs syms) (writeS e segs syms) := by
  unfold anvilref02_Write.f
  refine Ev.bind (ref e N.e.1 segs syms H) ?_
  unfold writeS
  by_cases hc : checkS e segs syms = 0
  · have Y := yes_of e segs syms hc
    have c1 := Y.c1
    have c2 := Y.c2
    have hz := size_N (e := e) H Y.c1 Y.c2
    have hz2 := Y.size
    rw [if_pos hc]
    refine Ev.congr (f := fun k => (if (syms.length : Int) > 0 then ((anvilref02_size.f k e segs syms).bind fun t285 => (anvilref02_Write.j0 k (strL elfB) (wrap64 (t285 - 256)) 4 3 e segs syms)) else (anvilref02_Write.j0 k (strL elfB) 0 0 0 e segs syms))) (fun k => by rw [if_pos hc]; rfl) ?_
    obtain ⟨m, hm⟩ : ∃ m, endN (64 + 56 * segs.length) segs = m := ⟨_, rfl⟩
    rw [hm] at hz
    have hge := endN_ge (64 + 56 * segs.length) segs
    by_cases hs : 0 < syms.length
    · unfold layN at hz
      rw [if_neg (by omega)] at hz
      simp only [] at hz
      have hu := upN_le m
      have a1 : txN m syms = upN m + 24 + 24 * syms.length := rfl
      have a2 : tiN m syms = txN m syms + 1 + total syms := rfl
      have a3 : seN m syms = upN (tiN m syms + 27) := rfl
      have hu2 := upN_le (tiN m syms + 27)
      refine Ev.congr (f := fun k => ((anvilref02_size.f k e segs syms).bind fun t285 => (anvilref02_Write.j0 k (strL elfB) (wrap64 (t285 - 256)) 4 3 e segs syms))) (fun k => by rw [if_pos (by omega)]) ?_
      refine Ev.bind (ref_size e segs syms H Y.c1 Y.c2) ?_
      rw [← hz, w64 (by omega) (by omega), show ((seN m syms + 256 : Nat) : Int) - 256 = (seN m syms : Int) by omega]
      refine j0_ev e segs syms N Y _ 4 3 (by omega) (by omega) (by omega) _ ?_
      refine heads_ev e segs syms H N Y _ segs.length 0 _ _ (by omega) (by rw [headB_length]) (by omega) ?_
      rw [List.drop_zero]
      have hbl : (headB e (seN m syms) segs.length 4 3 ++ phB (placesN (64 + 56 * segs.length) segs) segs).length = 64 + 56 * segs.length := by rw [List.length_append, headB_length, phB_length _ _ (placesN_length _ _)]
      refine datas_ev e segs syms H Y.c1 _ segs.length 0 _ (by omega) (by rw [hbl]; omega) ?_
      rw [List.drop_zero]
      refine Ev.congr (f := fun k => ((anvilref02_symbols.f k (bodyB e (seN m syms) 4 3 segs) syms).bind fun t360 => (some (t360, 0)))) (fun k => by rw [if_neg (by omega)]; rfl) ?_
      refine Ev.bind (symbols_ev _ syms (by rw [bodyB_length, hm]; omega) Y.c2 H.name N.v) ?_
      have e1 : fileB e segs syms = tailB (padB (bodyB e (seN m syms) 4 3 segs)) syms := by unfold fileB; rw [if_pos hs, hm]
      rw [e1]
      exact Ev.now _
    · refine Ev.congr (f := fun k => (anvilref02_Write.j0 k (strL elfB) 0 0 0 e segs syms)) (fun k => by rw [if_neg (by omega)]) ?_
      refine j0_ev e segs syms N Y 0 0 0 (by omega) (by omega) (by omega) _ ?_
      refine heads_ev e segs syms H N Y _ segs.length 0 _ _ (by omega) (by rw [headB_length]) (by omega) ?_
      rw [List.drop_zero]
      have hbl : (headB e 0 segs.length 0 0 ++ phB (placesN (64 + 56 * segs.length) segs) segs).length = 64 + 56 * segs.length := by rw [List.length_append, headB_length, phB_length _ _ (placesN_length _ _)]
      refine datas_ev e segs syms H Y.c1 _ segs.length 0 _ (by omega) (by rw [hbl]; omega) ?_
      rw [List.drop_zero]
      have e1 : fileB e segs syms = bodyB e 0 0 0 segs := by unfold fileB; rw [if_neg hs]
      rw [e1]
      exact Ev.congr (fun k => by rw [if_pos (by omega)]; rfl) (Ev.now _)
  · rw [if_neg hc]
    exact Ev.congr (fun k => by rw [if_neg hc]) (Ev.now _)
end Go.Proofs.YtbnlifldnjgpmaaDoor.PWri

/- The pure side of ImageWrites: both sides write the same, the image is like itself, and the law's last loops end. -/
set_option linter.unusedVariables false
set_option linter.unusedSimpArgs false
namespace Go.Proofs.YtbnlifldnjgpmaaDoor.PWri
open Go.RowKit Go.Lib Go.Proofs.YtbnlifldnjgpmaaDoorW.PrintWords Go.Proofs.YtbnlifldnjgpmaaDoorW.PrintLast

theorem segEq_refl (s : Seg) : segEq s s = true := by simp [segEq]
theorem segsEq_refl : ∀ l : List Seg, segsEq l l = true
  | [] => rfl
  | s :: r => by rw [segsEq, segEq_refl, segsEq_refl r]; rfl
theorem names_l0 (syms : List Sym) (H : syms.length ≤ 1048576) : ∀ (d i : Nat), i + d = syms.length → Ev (fun k => anvillaw02_names.l0 k syms syms (i : Int)) true := by
  intro d
  induction d with
  | zero =>
    intro i hi
    refine Ev.step (f := fun _ => some true) (fun k => ?_) (Ev.now _)
    rw [anvillaw02_names.l0, if_neg (by omega)]
  | succ d ih =>
    intro i hi
    refine Ev.step (fun k => ?_) (ih (i + 1) (by omega))
    rw [anvillaw02_names.l0, if_pos (by omega), if_pos (by omega), if_pos (by omega)]
    simp
    rw [w64 (by omega) (by omega)]
theorem alike_is (e : Int) (segs : List Seg) (syms : List Sym) (H : Small segs syms) : Ev (fun k => anvillaw02_alike.f k e segs syms e segs syms) true := by
  unfold anvillaw02_alike.f
  refine Ev.congr (f := fun k => (anvillaw02_names.f k syms syms).bind fun t368 => (some t368)) (fun k => ?_) ?_
  · rw [if_pos rfl]
    simp only [anvillaw02_parts.f, Option.bind_some, segsEq_refl, beq_self_eq_true, Bool.and_self, if_true]
  · refine Ev.bind (a := true) ?_ (Ev.now _)
    unfold anvillaw02_names.f
    exact Ev.congr (fun k => by rw [if_pos rfl]; rfl) (names_l0 syms H.lsyms syms.length 0 (by omega))
def LenOk (n : Nat) (xs : List Seg) : Prop := xs.length = n ∧ ∀ q : Int, (rd_T41 xs q).f3.length ≤ 1048576
theorem rd_set (xs : List Seg) (i : Nat) (hi : i < xs.length) (s : Seg) (q : Int) : rd_T41 (xs.set i s) q = if q.toNat = i then s else rd_T41 xs q := by
  unfold rd_T41
  rw [List.getD_eq_getElem?_getD, List.getD_eq_getElem?_getD, List.getElem?_set]
  by_cases h : i = q.toNat
  · rw [if_pos h, if_pos h.symm, if_pos (by omega)]
    rfl
  · rw [if_neg h, if_neg (Ne.symm h)]
theorem last_l1 (x4 x6 : List Int) (e : Int) (syms : List Sym) (R : Bool) (n i : Nat) (hi : i < n) (hn : n ≤ 1048576) (hnext : ∀ xs, LenOk n xs → Ev (fun k => anvillaw02_ImageWrites.l0 k x4 x6 ((i + 1 : Nat) : Int) e xs syms) R) : ∀ (d j : Nat) (xs : List Seg), LenOk n xs → j + d = (rd_T41 xs (i : Int)).f3.length →
    Ev (fun k => anvillaw02_ImageWrites.l1 k x4 x6 (i : Int) (j : Int) e xs syms) R := by
  intro d
  induction d with
  | zero =>
    intro j xs hx hj
    have hl := hx.1
    refine Ev.step (fun k => ?_) (hnext xs hx)
    rw [anvillaw02_ImageWrites.l1, if_pos (by omega), if_pos (by omega), if_neg (by omega), w64 (by omega) (by omega)]
    rfl
  | succ d ih =>
    intro j xs hx hj
    have hl := hx.1
    have hq := hx.2 (i : Int)
    obtain ⟨s, hs⟩ : ∃ s, rd_T41 xs (i : Int) = s := ⟨_, rfl⟩
    rw [hs] at hj hq
    have hr := rd_set xs i (by omega) (⟨s.f0, s.f1, s.f2, s.f3.set j 238⟩ : Seg)
    refine Ev.step (f := fun k => anvillaw02_ImageWrites.l1 k x4 x6 (i : Int) ((j + 1 : Nat) : Int) e (xs.set i (⟨s.f0, s.f1, s.f2, s.f3.set j 238⟩ : Seg)) syms) (fun k => ?_) (ih (j + 1) _ ⟨by simp [hl], fun q => ?_⟩ ?_)
    · rw [anvillaw02_ImageWrites.l1, if_pos (by omega), if_pos (by omega), hs, if_pos (by omega), if_pos (by omega), w64 (by omega) (by omega)]
      rfl
    · rw [hr q]
      split
      · simpa using hq
      · exact hx.2 q
    · rw [hr (i : Int), if_pos (by simp)]
      simp
      omega
theorem last_l0 (x4 x6 : List Int) (e : Int) (syms : List Sym) (R : Bool) (hR : anvillaw02_same.f x4 x6 = some R) (n : Nat) (hn : n ≤ 1048576) : ∀ (d i : Nat) (xs : List Seg), LenOk n xs → i + d = n → Ev (fun k => anvillaw02_ImageWrites.l0 k x4 x6 (i : Int) e xs syms) R := by
  intro d
  induction d with
  | zero =>
    intro i xs hx hi
    have hl := hx.1
    refine Ev.step (f := fun _ => some R) (fun k => ?_) (Ev.now _)
    rw [anvillaw02_ImageWrites.l0, if_neg (by omega), hR]
    rfl
  | succ d ih =>
    intro i xs hx hi
    have hl := hx.1
    refine Ev.step (fun k => ?_) (last_l1 x4 x6 e syms R n i (by omega) hn (fun ys hy => ih (i + 1) ys hy (by omega)) (rd_T41 xs (i : Int)).f3.length 0 xs hx (by omega))
    rw [anvillaw02_ImageWrites.l0, if_pos (by omega)]
    rfl
theorem same_refl (l : List Int) : anvillaw02_same.f l l = some true := by simp [anvillaw02_same.f]
theorem pure_ (e : Int) (segs : List Seg) (syms : List Sym) (H : Small segs syms) (N : Nums e segs syms) : ∃ k, anvillaw02_ImageWrites.f k e segs syms = some true := by
  refine Ev.rounds ?_
  unfold anvillaw02_ImageWrites.f
  refine Ev.bind (twin_is e segs syms H) ?_
  refine Ev.bind (write_is e N.e.1 segs syms H) ?_
  refine Ev.bind (ref_write e segs syms H N) ?_
  refine Ev.congr (f := fun k => (anvillaw02_alike.f k e segs syms e segs syms).bind fun t388 => (anvillaw02_ImageWrites.j0 k (writeS e segs syms).1 (writeS e segs syms).1 (!t388) e segs syms)) (fun k => ?_) ?_
  · simp only [anvillaw02_num.f, Option.bind_some, same_refl, if_true]
  · refine Ev.bind (alike_is e segs syms H) ?_
    refine Ev.step (f := fun k => anvillaw02_ImageWrites.l0 k (writeS e segs syms).1 (writeS e segs syms).1 0 e segs syms) (fun k => ?_) (last_l0 _ _ e syms true (same_refl _) segs.length H.lsegs segs.length 0 segs ⟨rfl, H.data⟩ (by omega))
    rw [anvillaw02_ImageWrites.j0, if_neg (by simp)]
end Go.Proofs.YtbnlifldnjgpmaaDoor.PWri

/- From an argument's reading to the printed walks' facts: what reads as data of a type of whole numbers, bools, strings, slices and structs of these is told by its kind (Kd), its numbers fit, and its bulk bounds its weight. Plain lemmas; each bears its premises. -/
set_option linter.unusedVariables false
namespace Go.Proofs.YtbnlifldnjgpmaaDoor
open Go.RowKit Go.Proofs.YtbnlifldnjgpmaaDoorW.PrintWords

theorem bulk_one {H : Type} (d : DataW H) : 1 ≤ Rows.uptoBulk d := by
  cases d with
  | lit l => cases l <;> simp [Rows.uptoBulk]
  | nil => simp [Rows.uptoBulk]
  | ptr d => simp [Rows.uptoBulk]
  | slice elems spare => simp [Rows.uptoBulk]
  | agg parts => simp [Rows.uptoBulk]
  | iface t d => simp [Rows.uptoBulk]
  | map entries => simp [Rows.uptoBulk]
  | held h => simp [Rows.uptoBulk]
theorem bulk_app {H : Type} (l r : List (DataW H)) : Rows.uptoBulkAll (l ++ r) = Rows.uptoBulkAll l + Rows.uptoBulkAll r := by
  induction l with
  | nil => simp [Rows.uptoBulkAll]
  | cons x l ih => simp only [List.cons_append, Rows.uptoBulkAll, ih]; omega

/-- What reads at type T is of kind d; its numbers fit; its weight is at most its bulk. -/
structure Opens (P : Program) (T : TypeId) {α : Type} (d : Kd α) (ok : α → Prop) (wt : α → Nat) : Prop where
  cells : P.cellsOf T = d.sz
  op : ∀ {H : Type} {enc : TypeId × Value → H} {w : World} {spare : Nat → Bool} {held : Bool} {fuel : Nat} {cs : List Value} {x : DataW H × List MemPlace},
    DataW.trod enc P w 0 spare held fuel T cs = some x → ∃ a, d.K w a cs ∧ ok a ∧ wt a ≤ Rows.uptoBulk x.1

theorem Opens.int {P : Program} {T : TypeId} {k : IntKind} (ht : P.underlying T = some (.int k)) (hc : P.cellsOf T = 1) : Opens P T (Kd.int k) (fun n => (Lit.int k n).wf = true) (fun _ => 1) where
  cells := hc
  op h := by
    obtain ⟨n, rfl, hx, hw⟩ := DataW.trod_int ht h
    exact ⟨n, rfl, hw, bulk_one _⟩
theorem Opens.bool {P : Program} {T : TypeId} (ht : P.underlying T = some .bool) (hc : P.cellsOf T = 1) : Opens P T Kd.bool (fun _ => True) (fun _ => 1) where
  cells := hc
  op h := by
    obtain ⟨n, rfl, hx⟩ := DataW.trod_bool ht h
    exact ⟨n, rfl, trivial, bulk_one _⟩
theorem Opens.string {P : Program} {T : TypeId} (ht : P.underlying T = some .string) (hc : P.cellsOf T = 1) : Opens P T Kd.string (fun _ => True) (fun s => s.size + 1) where
  cells := hc
  op h := by
    obtain ⟨s, rfl, hx, hw⟩ := DataW.trod_string ht h
    refine ⟨s, rfl, trivial, ?_⟩
    rw [hx]
    simp only [Rows.uptoBulk]
    have : s.data.toList.length = s.size := by simp
    omega

/-- The fields from offset o on. -/
structure Fields (P : Program) (fs : List Field) (o : Nat) {α : Type} (d : Kd α) (ok : α → Prop) (wt : α → Nat) : Prop where
  op : ∀ {H : Type} {enc : TypeId × Value → H} {w : World} {spare : Nat → Bool} {held : Bool} {n : Nat} {cs : List Value} {xs : List (DataW H × List MemPlace)},
    cs.length = o + d.sz → xs.length = fs.length →
    (∀ (i : Nat) (f : Field), fs[i]? = some f → DataW.trod enc P w 0 spare held n f.type ((cs.drop f.offset).take (P.cellsOf f.type)) = xs[i]?) →
    ∃ a, d.K w a (cs.drop o) ∧ ok a ∧ wt a ≤ Rows.uptoBulkAll (xs.map (·.1))
theorem Fields.one {P : Program} {f : Field} {o : Nat} {α : Type} {d : Kd α} {ok : α → Prop} {wt : α → Nat} (ho : f.offset = o) (h : Opens P f.type d ok wt) : Fields P [f] o d ok wt where
  op hl hx hf := by
    rename_i H enc w spare held n cs xs
    obtain ⟨x, rfl⟩ : ∃ x, xs = [x] := by
      match xs, hx with
      | [x], _ => exact ⟨x, rfl⟩
    have h1 := hf 0 f rfl
    rw [ho, h.cells, List.take_of_length_le (by simp; omega)] at h1
    obtain ⟨a, hk, hok, hw⟩ := h.op h1
    refine ⟨a, hk, hok, ?_⟩
    simp only [List.map_cons, List.map_nil, Rows.uptoBulkAll]
    omega
theorem Fields.cons {P : Program} {f : Field} {fs : List Field} {o : Nat} {α β : Type} {d : Kd α} {ok : α → Prop} {wt : α → Nat} {d' : Kd β} {ok' : β → Prop} {wt' : β → Nat} (ho : f.offset = o) (h : Opens P f.type d ok wt) (h' : Fields P fs (o + d.sz) d' ok' wt') :
    Fields P (f :: fs) o (Kd.pair d d') (fun p => ok p.1 ∧ ok' p.2) (fun p => wt p.1 + wt' p.2) where
  op hl hx hf := by
    rename_i H enc w spare held n cs xs
    obtain ⟨x, xs, rfl⟩ : ∃ x xs', xs = x :: xs' := by
      match xs, hx with
      | x :: xs', _ => exact ⟨x, xs', rfl⟩
    have hl' : cs.length = o + (d.sz + d'.sz) := hl
    have h1 := hf 0 f rfl
    rw [ho, h.cells] at h1
    obtain ⟨a, hk, hok, hw⟩ := h.op h1
    obtain ⟨b, hk2, hok2, hw2⟩ := h'.op (cs := cs) (xs := xs) (n := n) (enc := enc) (w := w) (spare := spare) (held := held) (by omega) (by simpa using hx) (fun i g hg => by
      have := hf (i + 1) g (by simpa using hg)
      simpa using this)
    refine ⟨(a, b), ⟨_, _, ?_, hk, hk2⟩, ⟨hok, hok2⟩, ?_⟩
    · rw [← List.drop_drop, List.take_append_drop]
    · simp only [List.map_cons, Rows.uptoBulkAll]
      omega
theorem Opens.struct {P : Program} {T : TypeId} {fs : Array Field} {α β : Type} {d : Kd α} {ok : α → Prop} {wt : α → Nat} (g : β → α) (hg : ∀ a, ∃ b, g b = a) (ht : P.underlying T = some (.struct fs)) (hc : P.cellsOf T = d.sz) (h : Fields P fs.toList 0 d ok wt) :
    Opens P T (Kd.iso d g) (fun b => ok (g b)) (fun b => wt (g b) + 1) where
  cells := hc
  op hx := by
    obtain ⟨xs, n, rfl, hx1, hl, hxl, hf⟩ := DataW.trod_struct ht hx
    obtain ⟨a, hk, hok, hw⟩ := h.op (by omega) (by simpa using hxl) (fun i f hi => hf i f (by simpa using hi))
    obtain ⟨b, rfl⟩ := hg a
    refine ⟨b, (show d.K _ (g b) _ from by simpa using hk), hok, ?_⟩
    rw [hx1]
    simp only [Rows.uptoBulk]
    omega

theorem build {α β : Type} (R : α → β → Prop) : ∀ (l : List β), (∀ b ∈ l, ∃ a, R a b) → ∃ ps : List α, ps.length = l.length ∧ ∀ (i : Nat) (b : β), l[i]? = some b → ∃ a, ps[i]? = some a ∧ R a b
  | [], _ => ⟨[], rfl, by simp⟩
  | b :: l, h => by
    obtain ⟨a, ha⟩ := h b (by simp)
    obtain ⟨ps, hl, hps⟩ := build R l (fun c hc => h c (by simp [hc]))
    refine ⟨a :: ps, by simp [hl], fun i c hc => ?_⟩
    cases i with
    | zero => simp at hc; subst hc; exact ⟨a, rfl, ha⟩
    | succ i => simpa using hps i c (by simpa using hc)
theorem sum_le {α β : Type} {wt : α → Nat} {bk : β → Nat} : ∀ (ps : List α) (l : List β), ps.length = l.length → (∀ (i : Nat) (b : β), l[i]? = some b → ∃ a, ps[i]? = some a ∧ wt a ≤ bk b) → (ps.map wt).sum ≤ (l.map bk).sum
  | [], [], _, _ => by simp
  | a :: ps, b :: l, hl, h => by
    have h0 := h 0 b rfl
    simp at h0
    have := sum_le ps l (by simpa using hl) (fun i c hc => by simpa using h (i + 1) c (by simpa using hc))
    simp only [List.map_cons, List.sum_cons]
    omega
theorem bulkAll_sum {H : Type} : ∀ l : List (DataW H), Rows.uptoBulkAll l = (l.map Rows.uptoBulk).sum
  | [] => by simp [Rows.uptoBulkAll]
  | x :: l => by simp only [Rows.uptoBulkAll, List.map_cons, List.sum_cons, bulkAll_sum l]
/-- A slice's elements. -/
theorem Opens.slice {P : Program} {T E e' : TypeId} {α : Type} {d : Kd α} {ok : α → Prop} {wt : α → Nat} (ht : P.underlying T = some (.slice E)) (hc : P.cellsOf T = 1) (h : Opens P E d ok wt) :
    Opens P T (Kd.slice e' d) (fun l => ∀ x ∈ l, ok x) (fun l => (l.map wt).sum + 1) where
  cells := hc
  op hx := by
    rename_i H enc w spare held fuel cs x
    rcases DataW.trod_slice ht hx with ⟨rfl, rfl⟩ | ⟨a, len, cap, elems, rest, n, rfl, rfl, rfl, hb, hlc, hcm, hel, hf, _⟩
    · exact ⟨[], ⟨none, 0, rfl, by simp, Kd.C_nil d w⟩, by simp, by simp [Rows.uptoBulk]⟩
    · have key : ∀ i y, elems[i]? = some y → ∃ p c, c.length = d.sz ∧ d.K w p c ∧ (ok p ∧ wt p ≤ Rows.uptoBulk y.1) ∧ ∀ j u, c[j]? = some u → w.cell? (a.add (i * d.sz + j)) = some u := by
        intro i y hy
        have hi : i < len := by
          have := (List.getElem?_eq_some_iff.1 hy).1
          omega
        have h1 := hf i hi
        rw [hy, h.cells] at h1
        obtain ⟨c, hc1, hc2⟩ := Option.bind_eq_some_iff.1 h1
        obtain ⟨p, hk, hok, hw⟩ := h.op hc2
        obtain ⟨_, hl, hcell⟩ := World.cells?_some hc1
        refine ⟨p, c, hl, hk, ⟨hok, hw⟩, fun j u hj => ?_⟩
        have hjl : j < d.sz := by
          have := (List.getElem?_eq_some_iff.1 hj).1
          omega
        rw [← Addr.add_add, hcell j hjl, hj]
      obtain ⟨ps, hpl, hps⟩ := build (fun (p : α) (z : Nat × (DataW H × List MemPlace)) => ∃ c, c.length = d.sz ∧ d.K w p c ∧ (ok p ∧ wt p ≤ Rows.uptoBulk z.2.1) ∧ ∀ j u, c[j]? = some u → w.cell? (a.add (z.1 * d.sz + j)) = some u)
        (elems.zipIdx.map fun z => (z.2, z.1)) (fun z hz => by
          obtain ⟨⟨y, i⟩, hy, rfl⟩ := List.mem_map.1 hz
          have := List.mem_zipIdx_iff_getElem?.1 hy
          exact key i y this)
      have hat : ∀ (i : Nat) (y : DataW H × List MemPlace), elems[i]? = some y → ∃ p, ps[i]? = some p ∧ ∃ c, c.length = d.sz ∧ d.K w p c ∧ (ok p ∧ wt p ≤ Rows.uptoBulk y.1) ∧ ∀ j u, c[j]? = some u → w.cell? (a.add (i * d.sz + j)) = some u := by
        intro i y hy
        exact hps i (i, y) (by simp [hy])
      have hpl' : ps.length = elems.length := by simpa using hpl
      have back : ∀ i p, ps[i]? = some p → ∃ y, elems[i]? = some y := fun i p hp => by
        have := (List.getElem?_eq_some_iff.1 hp).1
        exact ⟨elems[i]'(by omega), List.getElem?_eq_getElem (by omega)⟩
      refine ⟨ps, ⟨some a, cap, by rw [hpl', hel], by omega, ⟨rfl, by unfold maxLen at hcm; omega, fun _ => ⟨a, rfl, fun j p hp => ?_⟩⟩⟩, fun p hp => ?_, ?_⟩
      · obtain ⟨y, hy⟩ := back j p hp
        obtain ⟨p', hp', c, h1, h2, _, h4⟩ := hat j y hy
        rw [hp] at hp'
        cases hp'
        exact ⟨c, h1, h2, h4⟩
      · obtain ⟨i, hi⟩ := List.getElem?_of_mem hp
        obtain ⟨y, hy⟩ := back i p hi
        obtain ⟨p', hp', c, _, _, h3, _⟩ := hat i y hy
        rw [hi] at hp'
        cases hp'
        exact h3.1
      · have hs := sum_le (wt := wt) (bk := fun y : DataW H × List MemPlace => Rows.uptoBulk y.1) ps elems hpl' (fun i y hy => by
          obtain ⟨p, hp, c, _, _, h3, _⟩ := hat i y hy
          exact ⟨p, hp, h3.2⟩)
        simp only [Rows.uptoBulk, bulkAll_sum, List.map_map]
        have e1 : (elems.map (Rows.uptoBulk ∘ fun x => x.1)).sum = (elems.map fun y : DataW H × List MemPlace => Rows.uptoBulk y.1).sum := rfl
        omega
end Go.Proofs.YtbnlifldnjgpmaaDoor

/- A world in which the listed variables hold what their initialisers lay: for the witness of a row that lists them. -/
set_option linter.unusedVariables false
namespace Go.Proofs.YtbnlifldnjgpmaaDoor
open Go.ChangeShapes Go.WideShapes Go.ChangeAt Go.RowKit Go.Lib Go.Shelf

theorem own : ownKnob Tryd.prog.godebug = none := by kernel_rfl
theorem laidOut : laidOutB Tryd.prog = true := by kernel_rfl
noncomputable abbrev N0 : Nat := (World.settled Tryd.prog default).heap.size
noncomputable def laidWorld (os : Os) : World :=
  let N := (World.settled Tryd.prog os).heap.size
  let ρ := Tryd.laysLetter_ren
  let w0 := World.holding Tryd.prog os ⟨#[
    .cells (rgCells .u16 letterT.r16) (ρ.t 198), .cells (rgCells .u32 letterT.r32) (ρ.t 201),
    .cells #[.slice (some ⟨N, 0, none⟩) letterT.r16.size letterT.r16.size, .slice (some ⟨N + 1, 0, none⟩) letterT.r32.size letterT.r32.size, .int .i64 letterT.off] (ρ.t 196)], #[], []⟩
  let put (h : Array Obj) (g : Nat) (cs : Array Value) : Array Obj := h.modify g fun
    | .cells _ t frozen => .cells cs t frozen
    | o => o
  let h1 := put w0.heap 2 (Lib.propertiesTab.map fun z => Value.int .u8 z).toArray
  let h2 := put h1 3 #[.pointer (some ⟨N + 2, 0, none⟩)]
  let h3 := put h2 0 (Lib.firstTab.map fun z => Value.int .u8 z).toArray
  let h4 := put h3 1 ((List.range 16).flatMap fun i => [Value.int .u8 (Lib.accLo i), Value.int .u8 (Lib.accHi i)]).toArray
  { w0 with heap := h4 }
noncomputable abbrev laidMem (os : Os) (args : Array Value) : World := ((laidWorld os).forCall (fun _ _ => 0) ⟨#[], args, []⟩).memory
theorem piece0 (os : Os) (args : Array Value) : LaidIn Tryd.prog (laidMem os args) [("unicode/utf8.acceptRanges", Lib.acceptData), ("unicode.properties", Lib.tabData .u8 Lib.propertiesTab)] [1, 2] :=
  LaidIn.of_run [1, 2] 8 (by kernel_rfl) (by kernel_rfl) (by kernel_rfl) (by kernel_rfl)
theorem piece1 (os : Os) (args : Array Value) : LaidIn Tryd.prog (laidMem os args) [("unicode.Letter", Lib.rtabData letterT)] [3, N0 + 2, N0, N0 + 1] :=
  laidIn_rtab (ρ := Tryd.laysLetter_ren) { Tryd.laysLetter with } xL (by kernel_rfl) (by kernel_rfl) letterT (N0 + 2) N0 (N0 + 1) (Tryd.laysLetter_ren.t 198) (Tryd.laysLetter_ren.t 201)
    (by kernel_rfl) (by kernel_rfl) (by kernel_rfl) (by kernel_rfl) (by kernel_rfl) (of_decide_eq_true (by kernel_rfl)) (of_decide_eq_true (by kernel_rfl)) (of_decide_eq_true (by kernel_rfl))
theorem piece2 (os : Os) (args : Array Value) : LaidIn Tryd.prog (laidMem os args) [("unicode/utf8.first", Lib.firstData)] [0] :=
  LaidIn.of_run [0] 8 (by kernel_rfl) (by kernel_rfl) (by kernel_rfl) (by kernel_rfl)
theorem laid_met (os : Os) (args : Array Value) : laidMet Tryd.prog theList (laidMem os args) :=
  (((piece0 os args).append (piece1 os args) (by kernel_rfl)).append (piece2 os args) (by kernel_rfl)).met
end Go.Proofs.YtbnlifldnjgpmaaDoor
