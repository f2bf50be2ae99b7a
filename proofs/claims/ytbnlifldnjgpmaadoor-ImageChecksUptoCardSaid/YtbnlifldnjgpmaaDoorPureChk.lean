/- The pure side of ImageChecks: the program's Check and the document's answer the same number 'checkS', for lists whose parts are no longer than 2^20; a twin is the image itself. -/
import Derived.Test.YtbnlifldnjgpmaaDoorChkx7
set_option linter.unusedVariables false
set_option linter.unusedSimpArgs false
namespace Go.Proofs.YtbnlifldnjgpmaaDoor.PChk
open Go.RowKit Go.Proofs.YtbnlifldnjgpmaaDoorW.PrintWords Go.Proofs.YtbnlifldnjgpmaaDoorW.PrintLast

abbrev Seg := S41
abbrev Sym := S44

theorem w64 {x : Int} (h1 : -9223372036854775808 ≤ x) (h2 : x ≤ 9223372036854775807) : wrap64 x = x := by unfold wrap64; omega

/-! ### the answer -/
def lastS (s : Seg) : Int := IntKind.u64.wrap (s.f0 + IntKind.u64.wrap (s.f1 - 1))
def badS (s : Seg) : Prop := s.f1 = 0 ∨ s.f2 < 0 ∨ s.f2 > 7 ∨ IntKind.u64.wrap (s.f3.length : Int) > s.f1 ∨ ¬ (lastS s ≥ s.f0)
instance (s : Seg) : Decidable (badS s) := by unfold badS; infer_instance
def partsS (l : List Seg) : Nat → Nat → Option Int
  | 0, _ => none
  | d + 1, i => if badS (rd_T41 l i) then some 23 else if 0 < i ∧ (rd_T41 l i).f0 ≤ lastS (rd_T41 l ((i : Int) - 1)) then some 24 else partsS l d (i + 1)
def behindS (a b : Sym) : Bool := decide (b.f1 > a.f1) || (decide (b.f1 = a.f1) && Op.bytesLess a.f0.toList b.f0.toList)
def symsS (l : List Sym) : Nat → Nat → Option Int
  | 0, _ => none
  | d + 1, i => if nameB (rd_T44 l i).f0 = false then some 5 else if 0 < i ∧ behindS (rd_T44 l ((i : Int) - 1)) (rd_T44 l i) = false then some 25 else symsS l d (i + 1)
def upS (n : Int) : Int := (n + 7) / 8 * 8
def dataS (l : List Seg) : Nat → Nat → Int → Int
  | 0, _, n => n
  | d + 1, i, n => dataS l d (i + 1) (if 0 < (rd_T41 l i).f3.length then upS n + ((rd_T41 l i).f3.length : Int) else n)
def namesS (l : List Sym) : Nat → Nat → Int → Int
  | 0, _, n => n
  | d + 1, i, n => namesS l d (i + 1) (n + ((rd_T44 l i).f0.size : Int) + 1)
def sizeS (segs : List Seg) (syms : List Sym) : Int :=
  let n := dataS segs segs.length 0 (64 + 56 * segs.length)
  if syms.length = 0 then n else upS (namesS syms syms.length 0 (upS n + 24 + 24 * syms.length + 1) + 27) + 256
def restS (segs : List Seg) (syms : List Sym) : Int := (symsS syms syms.length 0).getD (if sizeS segs syms > 200000 then 3 else 0)
def checkS (e : Int) (segs : List Seg) (syms : List Sym) : Int :=
  if e % 2 = 0 then (if segs.length > 16 then 2 else if syms.length > 400 then 2 else (partsS segs segs.length 0).getD (restS segs syms)) else 22

/-! ### up -/
theorem upS_le (n : Int) : n ≤ upS n ∧ upS n ≤ n + 7 := by unfold upS; omega
theorem image_up_is {n : Int} (h0 : 0 ≤ n) (h1 : n ≤ 1099511627776) : image_up.f n = some (upS n) := by
  unfold image_up.f upS
  rw [w64 (x := n + 7) (by omega) (by omega), Int.tdiv_eq_ediv_of_nonneg (by omega), w64 (x := (n + 7) / 8) (by omega) (by omega), w64 (by omega) (by omega)]
theorem ref_up_is : ∀ (d : Nat) (n : Int), 0 ≤ n → n ≤ 1099511627776 → upS n - n = d → Ev (fun k => anvilref02_up.f k n) (upS n)
  | 0, n, h0, h1, hd => by
    refine Ev.step (f := fun _ => some (upS n)) (fun k => ?_) (Ev.now _)
    have e : n.tmod 8 = n % 8 := Int.tmod_eq_emod_of_nonneg h0
    have : n % 8 = 0 := by unfold upS at hd; omega
    show anvilref02_up.l0 (k + 1) n = _
    rw [anvilref02_up.l0, e, if_pos this]
    congr 1
    omega
  | d + 1, n, h0, h1, hd => by
    have hu : upS (n + 1) = upS n := by unfold upS at hd ⊢; omega
    have ih := ref_up_is d (n + 1) (by omega) (by have := upS_le n; unfold upS at hd; omega) (by rw [hu]; omega)
    rw [hu] at ih
    refine Ev.step (f := fun k => anvilref02_up.f k (n + 1)) (fun k => ?_) ih
    have e : n.tmod 8 = n % 8 := Int.tmod_eq_emod_of_nonneg h0
    have : ¬ n % 8 = 0 := by unfold upS at hd; omega
    show anvilref02_up.l0 (k + 1) n = anvilref02_up.l0 k (n + 1)
    rw [anvilref02_up.l0, e, if_neg this, w64 (by omega) (by omega)]
theorem ref_up {n : Int} (h0 : 0 ≤ n) (h1 : n ≤ 1099511627776) : Ev (fun k => anvilref02_up.f k n) (upS n) :=
  ref_up_is (upS n - n).toNat n h0 h1 (by have := upS_le n; omega)

/-- What is asked of an image's lists. -/
structure Small (segs : List Seg) (syms : List Sym) : Prop where
  lsegs : segs.length ≤ 1048576
  lsyms : syms.length ≤ 1048576
  data : ∀ i, (rd_T41 segs i).f3.length ≤ 1048576
  name : ∀ i, (rd_T44 syms i).f0.size ≤ 1048576

/-! ### the program's Check -/
theorem u64_small {x : Int} (h0 : 0 ≤ x) (h1 : x ≤ 18446744073709551615) : IntKind.u64.wrap x = x := by
  have h : x % 2 ^ 64 = x := by omega
  simp [IntKind.wrap, IntKind.signed, IntKind.bits]
  omega
theorem cmp_u64 (a b : Int) : cmp_Compare_uint64.f a b = some (if a < b then -1 else if a > b then 1 else 0) := by
  unfold cmp_Compare_uint64.f cmp_isNaN_uint64.f
  have e : ∀ x : Int, (x != x) = false := fun x => by simp
  simp only [e, Option.bind_some, Bool.false_eq_true, if_false]
  split
  · rfl
  · split <;> rfl
theorem cmp_str (a b : ByteArray) : cmp_Compare_string.f a b = some (if Op.bytesLess a.toList b.toList = true then -1 else if Op.bytesLess b.toList a.toList = true then 1 else 0) := by
  unfold cmp_Compare_string.f cmp_isNaN_string.f
  have e : ∀ x : List UInt8, (x != x) = false := fun x => by simp
  simp only [e, Option.bind_some, Bool.false_eq_true, if_false]
  split
  · rfl
  · split <;> rfl
theorem or_two (a b : Int) : Ev (fun k => cmp_Or_int.f k [a, b]) (if a = 0 then b else a) := by
  unfold cmp_Or_int.f
  by_cases ha : a = 0
  · rw [if_pos ha]
    refine Ev.step (f := fun k => cmp_Or_int.l0 k 0 [a, b] 2 1) (fun k => ?_) ?_
    · show cmp_Or_int.l0 (k + 1) 0 [a, b] 2 0 = _
      rw [cmp_Or_int.l0]
      simp [rd, ha, wrap64]
    · by_cases hb : b = 0
      · refine Ev.step (f := fun k => cmp_Or_int.l0 k 0 [a, b] 2 2) (fun k => ?_) ?_
        · show cmp_Or_int.l0 (k + 1) 0 [a, b] 2 1 = _
          rw [cmp_Or_int.l0]
          simp [rd, hb, wrap64]
        · refine Ev.step (f := fun k => some b) (fun k => ?_) (Ev.now _)
          show cmp_Or_int.l0 (k + 1) 0 [a, b] 2 2 = _
          rw [cmp_Or_int.l0]
          simp [hb]
      · refine Ev.step (f := fun k => some b) (fun k => ?_) (Ev.now _)
        show cmp_Or_int.l0 (k + 1) 0 [a, b] 2 1 = _
        rw [cmp_Or_int.l0]
        simp [rd, hb]
  · rw [if_neg ha]
    refine Ev.step (f := fun k => some a) (fun k => ?_) (Ev.now _)
    show cmp_Or_int.l0 (k + 1) 0 [a, b] 2 0 = _
    rw [cmp_Or_int.l0]
    simp [rd, ha]
theorem less_irrefl (x : List UInt8) : Op.bytesLess x x = false := by
  have h := less_total x x
  cases e : Op.bytesLess x x
  · rfl
  · rw [e] at h; simp at h
/-- The program's comparison says whether a name is behind another. -/
theorem compare_is (a b : Sym) : ∃ c, Ev (fun k => image_compareSyms.f k a.f0 a.f1 b.f0 b.f1) c ∧ (c ≥ 0 ↔ behindS a b = false) := by
  refine ⟨if (if a.f1 < b.f1 then (-1 : Int) else if a.f1 > b.f1 then 1 else 0) = 0 then (if Op.bytesLess a.f0.toList b.f0.toList = true then -1 else if Op.bytesLess b.f0.toList a.f0.toList = true then 1 else 0) else (if a.f1 < b.f1 then (-1 : Int) else if a.f1 > b.f1 then 1 else 0), ?_, ?_⟩
  · unfold image_compareSyms.f
    refine Ev.bind (g := fun _ => cmp_Compare_uint64.f a.f1 b.f1) (f := fun k t118 => (cmp_Compare_string.f a.f0 b.f0).bind fun t119 => (cmp_Or_int.f k [t118, t119]).bind fun t123 => some t123) (Ev.congr (fun _ => cmp_u64 _ _) (Ev.now _)) ?_
    refine Ev.bind (g := fun _ => cmp_Compare_string.f a.f0 b.f0) (f := fun k t119 => (cmp_Or_int.f k [_, t119]).bind fun t123 => some t123) (Ev.congr (fun _ => cmp_str _ _) (Ev.now _)) ?_
    exact Ev.bind (f := fun k t123 => some t123) (or_two _ _) (Ev.now _)
  · unfold behindS
    have ht := less_total a.f0.toList b.f0.toList
    by_cases h1 : a.f1 < b.f1
    · have : b.f1 > a.f1 := h1
      simp [h1]
    · by_cases h2 : a.f1 > b.f1
      · have h3 : ¬ b.f1 = a.f1 := by omega
        simp [h1, h2, h3]
      · have h3 : b.f1 = a.f1 := by omega
        have h4 : ¬ b.f1 > a.f1 := by omega
        cases e : Op.bytesLess a.f0.toList b.f0.toList
        · cases e2 : Op.bytesLess b.f0.toList a.f0.toList <;> simp [h1, h2, h3]
        · simp [h1, h2, h3]
set_option maxRecDepth 100000 in
theorem lay_l1 (segs : List Seg) (syms : List Sym) (H : Small segs syms) (c : syms.length ≤ 400) (dl : List Int) (tb tx se sz : Int) : ∀ (d i : Nat) (n : Int), i + d = syms.length → 0 ≤ n → n ≤ 8589934592 + i * 2097152 →
    ∃ q, Ev (fun k => image_lay.l1 k syms (syms.length : Int) (i : Int) dl tb tx n se sz) (dl, tb, tx, q, upS (namesS syms d i n + 27), upS (namesS syms d i n + 27) + 256) := by
  intro d
  induction d with
  | zero =>
    intro i n hi h0 hn
    refine ⟨n, Ev.step (f := fun _ => some (dl, tb, tx, n, upS (n + 27), upS (n + 27) + 256)) (fun k => ?_) (Ev.now _)⟩
    rw [image_lay.l1, if_neg (by omega), w64 (x := n + 27) (by omega) (by omega), image_up_is (by omega) (by omega)]
    have := upS_le (n + 27)
    simp only [Option.bind_some]
    rw [w64 (by omega) (by omega)]
  | succ d ih0 =>
    intro i n hi h0 hn
    have hs := H.name (i : Int)
    obtain ⟨q, ih⟩ := ih0 (i + 1) (n + ((rd_T44 syms i).f0.size : Int) + 1) (by omega) (by omega) (by omega)
    refine ⟨q, Ev.step (fun k => ?_) ih⟩
    rw [image_lay.l1, if_pos (by omega), if_pos (by omega), if_pos (by omega)]
    rw [w64 (x := ((rd_T44 syms i).f0.size : Int) + 1) (by omega) (by omega), w64 (x := n + _) (by omega) (by omega), w64 (x := (i : Int) + 1) (by omega) (by omega)]
    congr 1
    omega
set_option maxRecDepth 100000 in
theorem lay_l0 (e : Int) (segs : List Seg) (syms : List Sym) (H : Small segs syms) (c1 : segs.length ≤ 16) (c2 : syms.length ≤ 400) : ∀ (d i : Nat) (n : Int) (dl : List Int), i + d = segs.length → dl.length = i → 0 ≤ n → n ≤ 4294967296 + i * 2097152 →
    ∃ q, Ev (fun k => image_lay.l0 k n segs (segs.length : Int) (i : Int) e segs syms dl 0 0 0 0 0) q ∧ q.2.2.2.2.2 = (let m := dataS segs d i n; if syms.length = 0 then m else upS (namesS syms syms.length 0 (upS m + 24 + 24 * syms.length + 1) + 27) + 256) := by
  intro d
  induction d with
  | zero =>
    intro i n dl hi hdl h0 hn
    have hup := upS_le n
    by_cases hz : syms.length = 0
    · refine ⟨(dl, 0, 0, 0, 0, n), Ev.step (f := fun _ => some (dl, 0, 0, 0, 0, n)) (fun k => ?_) (Ev.now _), ?_⟩
      · rw [image_lay.l0, if_neg (by omega), if_neg (by omega)]
      · simp [dataS, hz]
    · obtain ⟨q, hq⟩ := lay_l1 segs syms H c2 dl (upS n) (upS n + 24 * ((syms.length : Int) + 1)) 0 0 syms.length 0 (upS n + 24 + 24 * syms.length + 1) (by omega) (by omega) (by omega)
      refine ⟨_, Ev.step (f := fun k => image_lay.l1 k syms (syms.length : Int) 0 dl (upS n) (upS n + 24 * ((syms.length : Int) + 1)) (upS n + 24 + 24 * syms.length + 1) 0 0) (fun k => ?_) hq, ?_⟩
      · rw [image_lay.l0, if_neg (by omega), if_pos (by omega), image_up_is h0 (by omega)]
        simp only [Option.bind_some]
        rw [w64 (x := (syms.length : Int) + 1) (by omega) (by omega), w64 (x := 24 * ((syms.length : Int) + 1)) (by omega) (by omega), w64 (x := upS n + _) (by omega) (by omega), w64 (by omega) (by omega)]
        congr 1
        omega
      · simp only [dataS]
        rw [if_neg hz]
  | succ d ih0 =>
    intro i n dl hi hdl h0 hn
    have hs := H.data (i : Int)
    have hup := upS_le n
    by_cases hz : (rd_T41 segs i).f3.length = 0
    · obtain ⟨q, ih, hq⟩ := ih0 (i + 1) n (dl ++ [0]) (by omega) (by simp [hdl]) h0 (by omega)
      refine ⟨q, Ev.step (fun k => ?_) ih, ?_⟩
      · rw [image_lay.l0, if_pos (by omega), if_pos (by omega), if_pos (by omega), if_pos (by omega), if_pos (by omega), w64 (by omega) (by omega)]
        rfl
      · have e1 : dataS segs (d + 1) i n = dataS segs d (i + 1) n := by
          simp only [dataS]
          rw [if_neg (by omega)]
        rw [hq, e1]
    · obtain ⟨q, ih, hq⟩ := ih0 (i + 1) (upS n + ((rd_T41 segs i).f3.length : Int)) (dl ++ [upS n]) (by omega) (by simp [hdl]) (by omega) (by omega)
      refine ⟨q, Ev.step (fun k => ?_) ih, ?_⟩
      · rw [image_lay.l0, if_pos (by omega), if_pos (by omega), if_pos (by omega), if_neg (by omega), image_up_is h0 (by omega)]
        simp only [Option.bind_some]
        rw [if_pos (by omega), w64 (by omega) (by omega), w64 (by omega) (by omega)]
        rfl
      · have e1 : dataS segs (d + 1) i n = dataS segs d (i + 1) (upS n + ((rd_T41 segs i).f3.length : Int)) := by
          simp only [dataS]
          rw [if_pos (by omega)]
        rw [hq, e1]
theorem lay_is (e : Int) (segs : List Seg) (syms : List Sym) (H : Small segs syms) (c1 : segs.length ≤ 16) (c2 : syms.length ≤ 400) :
    ∃ q, Ev (fun k => image_lay.f k e segs syms) q ∧ q.2.2.2.2.2 = sizeS segs syms := by
  obtain ⟨q, h, hq⟩ := lay_l0 e segs syms H c1 c2 segs.length 0 (64 + 56 * segs.length) [] (by omega) rfl (by omega) (by omega)
  refine ⟨q, Ev.congr (fun k => ?_) h, hq⟩
  unfold image_lay.f
  rw [w64 (x := 56 * (segs.length : Int)) (by omega) (by omega), w64 (by omega) (by omega)]
  rfl
theorem chk_l1 (e : Int) (segs : List Seg) (syms : List Sym) (H : Small segs syms) (c1 : segs.length ≤ 16) (c2 : syms.length ≤ 400) : ∀ (d i : Nat), i + d = syms.length →
    Ev (fun k => image_Check.l1 k syms (syms.length : Int) (i : Int) e segs syms) ((symsS syms d i).getD (if sizeS segs syms > 200000 then 3 else 0)) := by
  intro d
  induction d with
  | zero =>
    intro i hi
    obtain ⟨q, hq, hs⟩ := lay_is e segs syms H c1 c2
    refine Ev.step (f := fun k => (image_lay.f k e segs syms).bind fun bt => (if bt.2.2.2.2.2 > 200000 then (some 3) else (some 0))) (fun k => ?_) (Ev.bind (f := fun _ bt => (if bt.2.2.2.2.2 > 200000 then (some 3) else (some 0))) hq ?_)
    · rw [image_Check.l1, if_neg (by omega)]
    · rw [hs]
      simp only [symsS, Option.getD_none]
      split <;> exact Ev.now _
  | succ d ih =>
    intro i hi
    have hn := H.name (i : Int)
    have hnm : image_isName.f ((rd_T44 syms (i : Int)).f0) = some (nameB ((rd_T44 syms (i : Int)).f0)) := by
      unfold image_isName.f
      rw [if_pos (by omega)]
    cases hb : nameB ((rd_T44 syms (i : Int)).f0)
    · refine Ev.step (f := fun _ => some 5) (fun k => ?_) ?_
      · rw [image_Check.l1, if_pos (by omega), if_pos (by omega), if_pos (by omega), hnm, hb]
        rfl
      · simp only [symsS, hb, if_true, Option.getD_some]
        exact Ev.now _
    · by_cases hi0 : 0 < i
      · obtain ⟨c, hc, hcb⟩ := compare_is (rd_T44 syms ((i : Int) - 1)) (rd_T44 syms (i : Int))
        refine Ev.step (f := fun k => (image_compareSyms.f k (rd_T44 syms ((i : Int) - 1)).f0 (rd_T44 syms ((i : Int) - 1)).f1 (rd_T44 syms (i : Int)).f0 (rd_T44 syms (i : Int)).f1).bind fun t => (if t ≥ 0 then (some 25) else (image_Check.l1 k syms (syms.length : Int) ((i + 1 : Nat) : Int) e segs syms))) (fun k => ?_) (Ev.bind (f := fun k t => (if t ≥ 0 then (some 25) else (image_Check.l1 k syms (syms.length : Int) ((i + 1 : Nat) : Int) e segs syms))) hc ?_)
        · rw [image_Check.l1, if_pos (by omega), if_pos (by omega), if_pos (by omega), hnm, hb]
          simp only [Option.bind_some, if_true]
          rw [if_pos (by omega), w64 (x := (i : Int) - 1) (by omega) (by omega), if_pos (by omega), if_pos (by omega), w64 (x := (i : Int) + 1) (by omega) (by omega)]
          rfl
        · simp only [symsS, hb, Bool.true_eq_false, if_false]
          by_cases h : c ≥ 0
          · rw [if_pos ⟨hi0, hcb.1 h⟩]
            exact Ev.congr (fun k => if_pos h) (Ev.now _)
          · rw [if_neg (fun z => h (hcb.2 z.2))]
            exact Ev.congr (fun k => if_neg h) (ih (i + 1) (by omega))
      · refine Ev.step (f := fun k => image_Check.l1 k syms (syms.length : Int) ((i + 1 : Nat) : Int) e segs syms) (fun k => ?_) ?_
        · rw [image_Check.l1, if_pos (by omega), if_pos (by omega), if_pos (by omega), hnm, hb]
          simp only [Option.bind_some, if_true]
          rw [if_neg (by omega), w64 (x := (i : Int) + 1) (by omega) (by omega)]
          rfl
        · simp only [symsS, hb, Bool.true_eq_false, if_false]
          rw [if_neg (fun z => hi0 z.1)]
          exact ih (i + 1) (by omega)
theorem chk_l0 (e : Int) (segs : List Seg) (syms : List Sym) (H : Small segs syms) (c1 : segs.length ≤ 16) (c2 : syms.length ≤ 400) : ∀ (d i : Nat), i + d = segs.length →
    Ev (fun k => image_Check.l0 k segs (segs.length : Int) (i : Int) e segs syms) ((partsS segs d i).getD (restS segs syms)) := by
  intro d
  induction d with
  | zero =>
    intro i hi
    refine Ev.step (f := fun k => image_Check.l1 k syms (syms.length : Int) 0 e segs syms) (fun k => ?_) ?_
    · rw [image_Check.l0, if_neg (by omega)]
    · exact chk_l1 e segs syms H c1 c2 syms.length 0 (by omega)
  | succ d ih =>
    intro i hi
    have hd := H.data (i : Int)
    have bad : ∀ a b c x, Ev (fun k => image_Check.j1 k (i : Int) segs (segs.length : Int) (i : Int) true e segs syms a b c x) 23 := fun a b c x =>
      Ev.step (f := fun _ => some 23) (fun k => by rw [image_Check.j1, if_pos rfl]) (Ev.now _)
    have good : ∀ b c x, Ev (fun k => image_Check.j1 k (i : Int) segs (segs.length : Int) (i : Int) false e segs syms (rd_T41 segs (i : Int)).f0 b c x) ((if 0 < i ∧ (rd_T41 segs (i : Int)).f0 ≤ lastS (rd_T41 segs ((i : Int) - 1)) then some 24 else partsS segs d (i + 1)).getD (restS segs syms)) := by
      intro b c x
      by_cases hi0 : 0 < i
      · by_cases hl : (rd_T41 segs (i : Int)).f0 ≤ lastS (rd_T41 segs ((i : Int) - 1))
        · rw [if_pos ⟨hi0, hl⟩]
          refine Ev.step (f := fun _ => some 24) (fun k => ?_) (Ev.now _)
          rw [image_Check.j1, if_neg (by simp), if_pos (by omega), w64 (x := (i : Int) - 1) (by omega) (by omega), if_pos (by omega), if_pos (by omega)]
          exact if_pos hl
        · rw [if_neg (fun z => hl z.2)]
          refine Ev.step (f := fun k => image_Check.l0 k segs (segs.length : Int) ((i + 1 : Nat) : Int) e segs syms) (fun k => ?_) (ih (i + 1) (by omega))
          rw [image_Check.j1, if_neg (by simp), if_pos (by omega), w64 (x := (i : Int) - 1) (by omega) (by omega), if_pos (by omega), if_pos (by omega), w64 (x := (i : Int) + 1) (by omega) (by omega)]
          exact if_neg hl
      · rw [if_neg (fun z => hi0 z.1)]
        refine Ev.step (f := fun k => image_Check.l0 k segs (segs.length : Int) ((i + 1 : Nat) : Int) e segs syms) (fun k => ?_) (ih (i + 1) (by omega))
        rw [image_Check.j1, if_neg (by simp), if_neg (by omega), w64 (x := (i : Int) + 1) (by omega) (by omega)]
        rfl
    have hu : IntKind.u64.wrap (((rd_T41 segs (i : Int)).f3.length : Int)) = ((rd_T41 segs (i : Int)).f3.length : Int) := u64_small (by omega) (by omega)
    by_cases hbad : badS (rd_T41 segs (i : Int))
    · simp only [partsS, hbad, if_true, Option.getD_some]
      by_cases h1 : (rd_T41 segs (i : Int)).f1 = 0
      · refine Ev.step (fun k => ?_) (bad (rd_T41 segs (i : Int)).f0 (rd_T41 segs (i : Int)).f1 (rd_T41 segs (i : Int)).f2 (rd_T41 segs (i : Int)).f3)
        rw [image_Check.l0, if_pos (by omega), if_pos (by omega), if_pos (by omega), if_pos h1]
      · by_cases h2 : (rd_T41 segs (i : Int)).f2 < 0
        · refine Ev.step (fun k => ?_) (bad (rd_T41 segs (i : Int)).f0 (rd_T41 segs (i : Int)).f1 (rd_T41 segs (i : Int)).f2 (rd_T41 segs (i : Int)).f3)
          rw [image_Check.l0, if_pos (by omega), if_pos (by omega), if_pos (by omega), if_neg h1, if_pos h2]
        · by_cases h3 : (rd_T41 segs (i : Int)).f2 > 7
          · refine Ev.step (fun k => ?_) (bad (rd_T41 segs (i : Int)).f0 (rd_T41 segs (i : Int)).f1 (rd_T41 segs (i : Int)).f2 (rd_T41 segs (i : Int)).f3)
            rw [image_Check.l0, if_pos (by omega), if_pos (by omega), if_pos (by omega), if_neg h1, if_neg h2, if_pos h3]
          · by_cases h4 : IntKind.u64.wrap (((rd_T41 segs (i : Int)).f3.length : Int)) > (rd_T41 segs (i : Int)).f1
            · refine Ev.step (fun k => ?_) (bad (rd_T41 segs (i : Int)).f0 (rd_T41 segs (i : Int)).f1 (rd_T41 segs (i : Int)).f2 (rd_T41 segs (i : Int)).f3)
              rw [image_Check.l0, if_pos (by omega), if_pos (by omega), if_pos (by omega), if_neg h1, if_neg h2, if_neg h3, if_pos h4]
            · have h5 : ¬ (lastS (rd_T41 segs (i : Int)) ≥ (rd_T41 segs (i : Int)).f0) := by
                unfold badS at hbad
                simp only [h1, h2, h3, h4, false_or] at hbad
                exact hbad
              refine Ev.step (fun k => ?_) (bad (rd_T41 segs (i : Int)).f0 (rd_T41 segs (i : Int)).f1 (rd_T41 segs (i : Int)).f2 (rd_T41 segs (i : Int)).f3)
              rw [image_Check.l0, if_pos (by omega), if_pos (by omega), if_pos (by omega), if_neg h1, if_neg h2, if_neg h3, if_neg h4]
              unfold image_fits.f
              rw [Option.bind_some, (decide_eq_false h5 : decide (IntKind.u64.wrap ((rd_T41 segs (i : Int)).f0 + IntKind.u64.wrap ((rd_T41 segs (i : Int)).f1 - 1)) ≥ (rd_T41 segs (i : Int)).f0) = false)]
              rfl
    · simp only [partsS, hbad, if_false]
      have hb2 := hbad
      unfold badS at hb2
      simp only [not_or, Decidable.not_not] at hb2
      obtain ⟨h1, h2, h3, h4, h5⟩ := hb2
      refine Ev.step (fun k => ?_) (good (rd_T41 segs (i : Int)).f1 (rd_T41 segs (i : Int)).f2 (rd_T41 segs (i : Int)).f3)
      rw [image_Check.l0, if_pos (by omega), if_pos (by omega), if_pos (by omega), if_neg h1, if_neg h2, if_neg h3, if_neg h4]
      unfold image_fits.f
      rw [Option.bind_some, (decide_eq_true h5 : decide (IntKind.u64.wrap ((rd_T41 segs (i : Int)).f0 + IntKind.u64.wrap ((rd_T41 segs (i : Int)).f1 - 1)) ≥ (rd_T41 segs (i : Int)).f0) = true)]
      rfl
theorem chk (e : Int) (h0 : 0 ≤ e) (segs : List Seg) (syms : List Sym) (H : Small segs syms) : Ev (fun k => image_Check.f k e segs syms) (checkS e segs syms) := by
  have ht : e.tmod 2 = e % 2 := Int.tmod_eq_emod_of_nonneg h0
  unfold checkS
  by_cases h1 : e % 2 = 0
  · rw [if_pos h1]
    by_cases h2 : segs.length > 16
    · rw [if_pos h2]
      exact Ev.congr (fun k => by unfold image_Check.f; rw [ht, if_pos h1, if_pos (by omega)]) (Ev.now _)
    · rw [if_neg h2]
      by_cases h3 : syms.length > 400
      · rw [if_pos h3]
        exact Ev.congr (fun k => by unfold image_Check.f; rw [ht, if_pos h1, if_neg (by omega), if_pos (by omega)]) (Ev.now _)
      · rw [if_neg h3]
        exact Ev.congr (fun k => by unfold image_Check.f; rw [ht, if_pos h1, if_neg (by omega), if_neg (by omega)]; rfl) (chk_l0 e segs syms H (by omega) (by omega) segs.length 0 (by omega))
  · rw [if_neg h1]
    exact Ev.congr (fun k => by unfold image_Check.f; rw [ht, if_neg h1]) (Ev.now _)

/-! ### the document's -/
theorem last_is (s : Seg) : anvilref02_last.f s.f0 s.f1 = some (lastS s, decide (lastS s ≥ s.f0)) := rfl
theorem ref_parts (segs : List Seg) (syms : List Sym) (H : Small segs syms) : ∀ (d i : Nat), i + d = segs.length →
    Ev (fun k => anvilref02_parts.l0 k segs (i : Int)) ((partsS segs d i).getD 0) := by
  have hlen := H.lsegs
  intro d
  induction d with
  | zero =>
    intro i hi
    refine Ev.step (f := fun _ => some 0) (fun k => ?_) (Ev.now _)
    rw [anvilref02_parts.l0, if_neg (by omega)]
  | succ d ih =>
    intro i hi
    have hd := H.data (i : Int)
    have bad : ∀ a b c x, Ev (fun k => anvilref02_parts.j1 k segs (i : Int) true a b c x) 23 := fun a b c x =>
      Ev.step (f := fun _ => some 23) (fun k => by rw [anvilref02_parts.j1, if_pos rfl]) (Ev.now _)
    by_cases h1 : (rd_T41 segs (i : Int)).f1 = 0
    · have hbad : badS (rd_T41 segs (i : Int)) := .inl h1
      simp only [partsS, hbad, if_true, Option.getD_some]
      refine Ev.step (fun k => ?_) (bad (rd_T41 segs (i : Int)).f0 (rd_T41 segs (i : Int)).f1 (rd_T41 segs (i : Int)).f2 (rd_T41 segs (i : Int)).f3)
      rw [anvilref02_parts.l0, if_pos (by omega), if_pos (by omega), if_pos h1]
    · by_cases h2 : (rd_T41 segs (i : Int)).f2 < 0
      · have hbad : badS (rd_T41 segs (i : Int)) := .inr (.inl h2)
        simp only [partsS, hbad, if_true, Option.getD_some]
        refine Ev.step (fun k => ?_) (bad (rd_T41 segs (i : Int)).f0 (rd_T41 segs (i : Int)).f1 (rd_T41 segs (i : Int)).f2 (rd_T41 segs (i : Int)).f3)
        rw [anvilref02_parts.l0, if_pos (by omega), if_pos (by omega), if_neg h1, if_pos h2]
      · by_cases h3 : (rd_T41 segs (i : Int)).f2 > 7
        · have hbad : badS (rd_T41 segs (i : Int)) := .inr (.inr (.inl h3))
          simp only [partsS, hbad, if_true, Option.getD_some]
          refine Ev.step (fun k => ?_) (bad (rd_T41 segs (i : Int)).f0 (rd_T41 segs (i : Int)).f1 (rd_T41 segs (i : Int)).f2 (rd_T41 segs (i : Int)).f3)
          rw [anvilref02_parts.l0, if_pos (by omega), if_pos (by omega), if_neg h1, if_neg h2, if_pos h3]
        · refine Ev.step (f := fun k => anvilref02_parts.j1 k segs (i : Int) (decide (IntKind.u64.wrap (((rd_T41 segs (i : Int)).f3.length : Int)) > (rd_T41 segs (i : Int)).f1)) (rd_T41 segs (i : Int)).f0 (rd_T41 segs (i : Int)).f1 (rd_T41 segs (i : Int)).f2 (rd_T41 segs (i : Int)).f3) (fun k => ?_) ?_
          · rw [anvilref02_parts.l0, if_pos (by omega), if_pos (by omega), if_neg h1, if_neg h2, if_neg h3]
          by_cases h4 : IntKind.u64.wrap (((rd_T41 segs (i : Int)).f3.length : Int)) > (rd_T41 segs (i : Int)).f1
          · have hbad : badS (rd_T41 segs (i : Int)) := .inr (.inr (.inr (.inl h4)))
            simp only [partsS, hbad, if_true, Option.getD_some, decide_eq_true h4]
            exact bad _ _ _ _
          · rw [decide_eq_false h4]
            by_cases h5 : lastS (rd_T41 segs (i : Int)) ≥ (rd_T41 segs (i : Int)).f0
            · have hbad : ¬ badS (rd_T41 segs (i : Int)) := by
                unfold badS
                simp only [h1, h2, h3, h4, false_or, h5, not_true_eq_false, not_false_eq_true]
              simp only [partsS, hbad, if_false]
              by_cases hi0 : 0 < i
              · by_cases hl : (rd_T41 segs (i : Int)).f0 ≤ lastS (rd_T41 segs ((i : Int) - 1))
                · rw [if_pos ⟨hi0, hl⟩]
                  refine Ev.step (f := fun _ => some 24) (fun k => ?_) (Ev.now _)
                  rw [anvilref02_parts.j1, if_neg (by simp), last_is, Option.bind_some]
                  simp only [decide_eq_true h5, if_true]
                  rw [if_pos (by omega), w64 (x := (i : Int) - 1) (by omega) (by omega), if_pos (by omega), if_pos (by omega), last_is, Option.bind_some]
                  exact if_pos hl
                · rw [if_neg (fun z => hl z.2)]
                  refine Ev.step (f := fun k => anvilref02_parts.l0 k segs ((i + 1 : Nat) : Int)) (fun k => ?_) (ih (i + 1) (by omega))
                  rw [anvilref02_parts.j1, if_neg (by simp), last_is, Option.bind_some]
                  simp only [decide_eq_true h5, if_true]
                  rw [if_pos (by omega), w64 (x := (i : Int) - 1) (by omega) (by omega), if_pos (by omega), if_pos (by omega), last_is, Option.bind_some, w64 (x := (i : Int) + 1) (by omega) (by omega)]
                  exact if_neg hl
              · rw [if_neg (fun z => hi0 z.1)]
                refine Ev.step (f := fun k => anvilref02_parts.l0 k segs ((i + 1 : Nat) : Int)) (fun k => ?_) (ih (i + 1) (by omega))
                rw [anvilref02_parts.j1, if_neg (by simp), last_is, Option.bind_some]
                simp only [decide_eq_true h5, if_true]
                rw [if_neg (by omega), w64 (x := (i : Int) + 1) (by omega) (by omega)]
                rfl
            · have hbad : badS (rd_T41 segs (i : Int)) := .inr (.inr (.inr (.inr h5)))
              simp only [partsS, hbad, if_true, Option.getD_some]
              refine Ev.step (f := fun _ => some 23) (fun k => ?_) (Ev.now _)
              rw [anvilref02_parts.j1, if_neg (by simp), last_is, Option.bind_some]
              simp only [decide_eq_false h5, Bool.false_eq_true, if_false]
theorem partsS_ne (l : List Seg) : ∀ d i, partsS l d i ≠ some 0
  | 0, i => by simp [partsS]
  | d + 1, i => by
    simp only [partsS]
    split
    · simp
    · split
      · simp
      · exact partsS_ne l d (i + 1)
theorem ref_size_l1 (e : Int) (segs : List Seg) (syms : List Sym) (H : Small segs syms) (c2 : syms.length ≤ 400) : ∀ (d i : Nat) (n : Int), i + d = syms.length → 0 ≤ n → n ≤ 8589934592 + i * 2097152 →
    Ev (fun k => anvilref02_size.l1 k n (i : Int) e segs syms) (upS (namesS syms d i n + 27) + 256) := by
  intro d
  induction d with
  | zero =>
    intro i n hi h0 hn
    have := upS_le (n + 27)
    refine Ev.step (f := fun k => (anvilref02_up.f k (n + 27)).bind fun t192 => (some (wrap64 (t192 + 256)))) (fun k => ?_) (Ev.bind (f := fun _ t => some (wrap64 (t + 256))) (ref_up (by omega) (by omega)) ?_)
    · rw [anvilref02_size.l1, if_neg (by omega), w64 (x := n + 27) (by omega) (by omega)]
    · rw [w64 (by omega) (by omega)]
      exact Ev.now _
  | succ d ih =>
    intro i n hi h0 hn
    have hs := H.name (i : Int)
    refine Ev.step (fun k => ?_) (ih (i + 1) (n + ((rd_T44 syms i).f0.size : Int) + 1) (by omega) (by omega) (by omega))
    rw [anvilref02_size.l1, if_pos (by omega), if_pos (by omega), w64 (x := n + _) (by omega) (by omega), w64 (x := n + _ + 1) (by omega) (by omega), w64 (x := (i : Int) + 1) (by omega) (by omega)]
    rfl
theorem ref_size_l0 (e : Int) (segs : List Seg) (syms : List Sym) (H : Small segs syms) (c1 : segs.length ≤ 16) (c2 : syms.length ≤ 400) : ∀ (d i : Nat) (n : Int), i + d = segs.length → 0 ≤ n → n ≤ 4294967296 + i * 2097152 →
    Ev (fun k => anvilref02_size.l0 k n (i : Int) e segs syms) (let m := dataS segs d i n; if syms.length = 0 then m else upS (namesS syms syms.length 0 (upS m + 24 + 24 * syms.length + 1) + 27) + 256) := by
  intro d
  induction d with
  | zero =>
    intro i n hi h0 hn
    have hup := upS_le n
    by_cases hz : syms.length = 0
    · refine Ev.step (f := fun _ => some n) (fun k => ?_) ?_
      · rw [anvilref02_size.l0, if_neg (by omega), if_pos (by omega)]
      · simp only [dataS, hz, if_true]
        exact Ev.now _
    · refine Ev.step (f := fun k => (anvilref02_up.f k n).bind fun t190 => (anvilref02_size.l1 k (wrap64 ((wrap64 ((wrap64 (t190 + 24)) + (wrap64 (24 * (syms.length : Int))))) + 1)) 0 e segs syms)) (fun k => ?_) (Ev.bind (f := fun k t190 => (anvilref02_size.l1 k (wrap64 ((wrap64 ((wrap64 (t190 + 24)) + (wrap64 (24 * (syms.length : Int))))) + 1)) 0 e segs syms)) (ref_up h0 (by omega)) ?_)
      · rw [anvilref02_size.l0, if_neg (by omega), if_neg (by omega)]
      · simp only [dataS, hz, if_false]
        rw [w64 (x := 24 * (syms.length : Int)) (by omega) (by omega), w64 (x := upS n + 24) (by omega) (by omega), w64 (x := upS n + 24 + _) (by omega) (by omega), w64 (by omega) (by omega)]
        exact ref_size_l1 e segs syms H c2 syms.length 0 _ (by omega) (by omega) (by omega)
  | succ d ih =>
    intro i n hi h0 hn
    have hs := H.data (i : Int)
    have hup := upS_le n
    by_cases hz : (rd_T41 segs i).f3.length = 0
    · have e1 : dataS segs (d + 1) i n = dataS segs d (i + 1) n := by
        simp only [dataS]
        rw [if_neg (by omega)]
      rw [e1]
      refine Ev.step (fun k => ?_) (ih (i + 1) n (by omega) h0 (by omega))
      rw [anvilref02_size.l0, if_pos (by omega), if_pos (by omega), if_neg (by omega), w64 (x := (i : Int) + 1) (by omega) (by omega)]
      rfl
    · have e1 : dataS segs (d + 1) i n = dataS segs d (i + 1) (upS n + ((rd_T41 segs i).f3.length : Int)) := by
        simp only [dataS]
        rw [if_pos (by omega)]
      rw [e1]
      refine Ev.step (f := fun k => (anvilref02_up.f k n).bind fun t188 => (anvilref02_size.l0 k (wrap64 (t188 + ((rd_T41 segs i).f3.length : Int))) ((i + 1 : Nat) : Int) e segs syms)) (fun k => ?_) (Ev.bind (f := fun k t188 => (anvilref02_size.l0 k (wrap64 (t188 + ((rd_T41 segs i).f3.length : Int))) ((i + 1 : Nat) : Int) e segs syms)) (ref_up h0 (by omega)) ?_)
      · rw [anvilref02_size.l0, if_pos (by omega), if_pos (by omega), if_pos (by omega), w64 (x := (i : Int) + 1) (by omega) (by omega)]
        rfl
      · rw [w64 (by omega) (by omega)]
        exact ih (i + 1) _ (by omega) (by omega) (by omega)
theorem ref_size (e : Int) (segs : List Seg) (syms : List Sym) (H : Small segs syms) (c1 : segs.length ≤ 16) (c2 : syms.length ≤ 400) : Ev (fun k => anvilref02_size.f k e segs syms) (sizeS segs syms) := by
  refine Ev.congr (fun k => ?_) (ref_size_l0 e segs syms H c1 c2 segs.length 0 (64 + 56 * segs.length) (by omega) (by omega) (by omega))
  unfold anvilref02_size.f
  rw [w64 (x := 56 * (segs.length : Int)) (by omega) (by omega), w64 (by omega) (by omega)]
  rfl
theorem behind_is (a b : Sym) : anvilref02_behind.f a.f0 a.f1 b.f0 b.f1 = some (behindS a b) := by
  unfold anvilref02_behind.f behindS
  by_cases h : b.f1 > a.f1
  · simp [h]
  · by_cases h2 : b.f1 = a.f1
    · simp [h2]
    · simp [h, h2]
theorem ref_l0 (e : Int) (segs : List Seg) (syms : List Sym) (H : Small segs syms) (c1 : segs.length ≤ 16) (c2 : syms.length ≤ 400) : ∀ (d i : Nat), i + d = syms.length →
    Ev (fun k => anvilref02_Check.l0 k (i : Int) e segs syms) ((symsS syms d i).getD (if sizeS segs syms > 200000 then 3 else 0)) := by
  intro d
  induction d with
  | zero =>
    intro i hi
    refine Ev.step (f := fun k => (anvilref02_size.f k e segs syms).bind fun t195 => (if t195 > 200000 then (some 3) else (some 0))) (fun k => ?_) (Ev.bind (f := fun _ t195 => (if t195 > 200000 then (some 3) else (some 0))) (ref_size e segs syms H c1 c2) ?_)
    · rw [anvilref02_Check.l0, if_neg (by omega)]
    · simp only [symsS, Option.getD_none]
      split <;> exact Ev.now _
  | succ d ih =>
    intro i hi
    have hn := H.name (i : Int)
    have hnm : anvilref02_Name.f ((rd_T44 syms (i : Int)).f0) = some (nameB ((rd_T44 syms (i : Int)).f0)) := by
      unfold anvilref02_Name.f
      rw [if_pos (by omega)]
    cases hb : nameB ((rd_T44 syms (i : Int)).f0)
    · refine Ev.step (f := fun _ => some 5) (fun k => ?_) ?_
      · rw [anvilref02_Check.l0, if_pos (by omega), if_pos (by omega), hnm, hb]
        rfl
      · simp only [symsS, hb, if_true, Option.getD_some]
        exact Ev.now _
    · by_cases hi0 : 0 < i
      · cases hbh : behindS (rd_T44 syms ((i : Int) - 1)) (rd_T44 syms (i : Int))
        · simp only [symsS, hb, Bool.true_eq_false, if_false]
          rw [if_pos ⟨hi0, hbh⟩]
          refine Ev.step (f := fun _ => some 25) (fun k => ?_) (Ev.now _)
          rw [anvilref02_Check.l0, if_pos (by omega), if_pos (by omega), hnm, hb]
          simp only [Option.bind_some, if_true]
          rw [if_pos (by omega), w64 (x := (i : Int) - 1) (by omega) (by omega), if_pos (by omega), if_pos (by omega), behind_is, hbh]
          rfl
        · simp only [symsS, hb, Bool.true_eq_false, if_false]
          rw [if_neg (fun z => by rw [hbh] at z; cases z.2)]
          refine Ev.step (f := fun k => anvilref02_Check.l0 k ((i + 1 : Nat) : Int) e segs syms) (fun k => ?_) (ih (i + 1) (by omega))
          rw [anvilref02_Check.l0, if_pos (by omega), if_pos (by omega), hnm, hb]
          simp only [Option.bind_some, if_true]
          rw [if_pos (by omega), w64 (x := (i : Int) - 1) (by omega) (by omega), if_pos (by omega), if_pos (by omega), behind_is, hbh, w64 (x := (i : Int) + 1) (by omega) (by omega)]
          rfl
      · simp only [symsS, hb, Bool.true_eq_false, if_false]
        rw [if_neg (fun z => hi0 z.1)]
        refine Ev.step (f := fun k => anvilref02_Check.l0 k ((i + 1 : Nat) : Int) e segs syms) (fun k => ?_) (ih (i + 1) (by omega))
        rw [anvilref02_Check.l0, if_pos (by omega), if_pos (by omega), hnm, hb]
        simp only [Option.bind_some, if_true]
        rw [if_neg (by omega), w64 (x := (i : Int) + 1) (by omega) (by omega)]
        rfl
theorem ref (e : Int) (h0 : 0 ≤ e) (segs : List Seg) (syms : List Sym) (H : Small segs syms) : Ev (fun k => anvilref02_Check.f k e segs syms) (checkS e segs syms) := by
  have ht : e.tmod 2 = e % 2 := Int.tmod_eq_emod_of_nonneg h0
  have big : ∀ b : Bool, b = true → Ev (fun k => anvilref02_Check.j0 k b e segs syms) 2 := fun b hb => by
    subst hb
    exact Ev.step (f := fun _ => some 2) (fun k => by rw [anvilref02_Check.j0, if_pos rfl]) (Ev.now _)
  unfold checkS
  by_cases h1 : e % 2 = 0
  · rw [if_pos h1]
    by_cases h2 : segs.length > 16
    · rw [if_pos h2]
      exact Ev.congr (fun k => by unfold anvilref02_Check.f; rw [ht, if_neg (by omega), if_pos (by omega)]) (big true rfl)
    · rw [if_neg h2]
      refine Ev.congr (f := fun k => anvilref02_Check.j0 k (decide ((syms.length : Int) > 400)) e segs syms) (fun k => by unfold anvilref02_Check.f; rw [ht, if_neg (by omega), if_neg (by omega)]) ?_
      by_cases h3 : syms.length > 400
      · rw [if_pos h3]
        exact big _ (by simp; omega)
      · rw [if_neg h3, decide_eq_false (by omega)]
        refine Ev.step (f := fun k => (anvilref02_parts.f k segs).bind fun t194 => (if t194 = 0 then (anvilref02_Check.l0 k 0 e segs syms) else (some t194))) (fun k => by rw [anvilref02_Check.j0, if_neg (by simp)]) (Ev.bind (f := fun k t194 => (if t194 = 0 then (anvilref02_Check.l0 k 0 e segs syms) else (some t194))) (ref_parts segs syms H segs.length 0 (by omega)) ?_)
        cases hp : partsS segs segs.length 0 with
        | none =>
          simp only [Option.getD_none, if_true]
          exact ref_l0 e segs syms H (by omega) (by omega) syms.length 0 (by omega)
        | some r =>
          have : r ≠ 0 := fun z => partsS_ne segs segs.length 0 (by rw [hp, z])
          simp only [Option.getD_some, this, if_false]
          exact Ev.now _
  · rw [if_neg h1]
    exact Ev.congr (fun k => by unfold anvilref02_Check.f; rw [ht, if_pos (by omega)]) (Ev.now _)

/-! ### the twin -/
theorem twin_l0 (e : Int) (segs : List Seg) (syms : List Sym) (H : Small segs syms) : ∀ (d i : Nat), i + d = segs.length →
    Ev (fun k => anvillaw02_twin.l0 k (i : Int) e segs syms e (segs.take i)) (e, segs, syms) := by
  have hl1 := H.lsegs
  have hl2 := H.lsyms
  intro d
  induction d with
  | zero =>
    intro i hi
    refine Ev.step (f := fun _ => some (e, segs, syms)) (fun k => ?_) (Ev.now _)
    rw [anvillaw02_twin.l0, if_neg (by omega), if_pos (by simp only [List.length_nil]; omega), List.take_of_length_le (by omega)]
    rfl
  | succ d ih =>
    intro i hi
    have hd := H.data (i : Int)
    refine Ev.step (fun k => ?_) (ih (i + 1) (by omega))
    rw [anvillaw02_twin.l0, if_pos (by omega), if_pos (by omega)]
    simp only [Option.bind_some, List.length_nil, List.nil_append]
    rw [if_pos (by omega), if_pos (by rw [List.length_take]; omega), w64 (x := (i : Int) + 1) (by omega) (by omega)]
    have hs : rd_T41 segs (i : Int) = segs[i]'(by omega) := by
      unfold rd_T41
      rw [Int.toNat_natCast, List.getD_eq_getElem?_getD, List.getElem?_eq_getElem (by omega)]
      rfl
    have e1 : segs.take (i + 1) = segs.take i ++ [rd_T41 segs (i : Int)] := by
      rw [hs]
      exact List.take_succ_eq_append_getElem (by omega)
    rw [e1]
    rfl
theorem twin_is (e : Int) (segs : List Seg) (syms : List Sym) (H : Small segs syms) : Ev (fun k => anvillaw02_twin.f k e segs syms) (e, segs, syms) :=
  twin_l0 e segs syms H segs.length 0 (by omega)

theorem pure_ (e : Int) (h0 : 0 ≤ e) (segs : List Seg) (syms : List Sym) (H : Small segs syms) : ∃ k, anvillaw02_ImageChecks.f k e segs syms = some true := by
  refine Ev.rounds ?_
  unfold anvillaw02_ImageChecks.f
  refine Ev.bind (f := fun k bt202 => ((image_Check.f k bt202.1 bt202.2.1 bt202.2.2).bind fun t209 => ((anvillaw02_num.f t209).bind fun t210 => ((anvilref02_Check.f k e segs syms).bind fun t211 => (some (t210 == t211)))))) (twin_is e segs syms H) ?_
  refine Ev.bind (f := fun k t209 => ((anvillaw02_num.f t209).bind fun t210 => ((anvilref02_Check.f k e segs syms).bind fun t211 => (some (t210 == t211))))) (chk e h0 segs syms H) ?_
  simp only [anvillaw02_num.f, Option.bind_some]
  refine Ev.bind (f := fun _ t211 => (some (checkS e segs syms == t211))) (ref e h0 segs syms H) ?_
  simp only [beq_self_eq_true]
  exact Ev.now _
end Go.Proofs.YtbnlifldnjgpmaaDoor.PChk
