/- The pure side of SpeakCsrNames: number by number the two name the same CSRs, and what is no name is read as a number alike. -/
import Derived.Test.YtkcaebdhkodleaaDoorCsnx5
set_option linter.unusedVariables false
set_option linter.unusedSimpArgs false
namespace Go.Proofs.YtkcaebdhkodleaaDoor.PCsn
open Go.RowKit Go.Proofs.YtkcaebdhkodleaaDoorW.PrintWords Go.Proofs.YtkcaebdhkodleaaDoorW.PrintLast

theorem w64 {x : Int} (h1 : -9223372036854775808 ≤ x) (h2 : x ≤ 9223372036854775807) : wrap64 x = x := by unfold wrap64; omega
theorem u64_small {x : Int} (h0 : 0 ≤ x) (h1 : x ≤ 18446744073709551615) : IntKind.u64.wrap x = x := by
  have h : x % 2 ^ 64 = x := by omega
  simp [IntKind.wrap, IntKind.signed, IntKind.bits]
  omega
theorem emptyL : (⟨#[]⟩ : ByteArray).toList = [] := by kernel_rfl
def ownL : List Int := [3857, 3858, 3859, 3860, 3861, 768, 769, 772, 773, 774, 778, 800, 832, 833, 834, 835, 836, 928, 930, 2816, 2818, 3072, 3073, 3074]
theorem rd_own : ∀ i : Nat, i < 24 → rd glob1 i ∈ ownL := by decide +kernel
/-- No name, no row. -/
structure Bare (n : Int) : Prop where
  own : n ∉ ownL
  r1 : ¬ (803 ≤ n ∧ n ≤ 831)
  r2 : ¬ (944 ≤ n ∧ n ≤ 959)
  r3 : ¬ (2819 ≤ n ∧ n ≤ 2847)
  r4 : ¬ (3075 ≤ n ∧ n ≤ 3103)
theorem own_bare {n : Int} (h : Bare n) : speak_own.f n = some ⟨#[]⟩ := by
  have h0 := h.own
  simp only [ownL, List.mem_cons, List.not_mem_nil, or_false, not_or] at h0
  unfold speak_own.f
  simp only [h0, if_false]
theorem named_bare {n : Int} (h : Bare n) : Ev (fun k => speak_named.f k n) ⟨#[]⟩ := by
  obtain ⟨_, h1, h2, h3, h4⟩ := id h
  have st : ∀ (L : List S44) (i : Int), 0 ≤ i → i < L.length → L.length = 4 → ¬ (n ≥ (rd_T44 L i).f1 ∧ n ≤ (rd_T44 L i).f3) → ∀ k, speak_named.l0 (k + 1) n L (L.length : Int) i = speak_named.l0 k n L (L.length : Int) (i + 1) := fun L i a b l c k => by
    rw [speak_named.l0, if_pos b, if_pos a, if_pos b]
    by_cases c1 : n ≥ (rd_T44 L i).f1
    · rw [if_pos c1, if_neg (fun c2 => c ⟨c1, c2⟩), w64 (by omega) (by omega)]
    · rw [if_neg c1, w64 (by omega) (by omega)]
  obtain ⟨L, hL⟩ : ∃ L, speak_rows.f = some L := ⟨_, rfl⟩
  have hl : L.length = 4 := by cases hL; rfl
  have f0 : (rd_T44 L 0).f1 = 803 ∧ (rd_T44 L 0).f3 = 831 := by cases hL; exact ⟨rfl, rfl⟩
  have f1 : (rd_T44 L 1).f1 = 944 ∧ (rd_T44 L 1).f3 = 959 := by cases hL; exact ⟨rfl, rfl⟩
  have f2 : (rd_T44 L 2).f1 = 2819 ∧ (rd_T44 L 2).f3 = 2847 := by cases hL; exact ⟨rfl, rfl⟩
  have f3 : (rd_T44 L 3).f1 = 3075 ∧ (rd_T44 L 3).f3 = 3103 := by cases hL; exact ⟨rfl, rfl⟩
  refine Ev.congr (f := fun k => speak_named.l0 k n L (L.length : Int) 0) (fun k => ?_) ?_
  · unfold speak_named.f
    rw [own_bare h, Option.bind_some, hL, if_pos emptyL, Option.bind_some]
  · refine Ev.step (st L 0 (by omega) (by omega) hl (by rw [f0.1, f0.2]; omega)) ?_
    refine Ev.step (st L (0 + 1) (by omega) (by omega) hl (by rw [show (0 : Int) + 1 = 1 from rfl, f1.1, f1.2]; omega)) ?_
    refine Ev.step (st L (0 + 1 + 1) (by omega) (by omega) hl (by rw [show (0 : Int) + 1 + 1 = 2 from rfl, f2.1, f2.2]; omega)) ?_
    refine Ev.step (st L (0 + 1 + 1 + 1) (by omega) (by omega) hl (by rw [show (0 : Int) + 1 + 1 + 1 = 3 from rfl, f3.1, f3.2]; omega)) ?_
    refine Ev.step (f := fun _ => some ⟨#[]⟩) (fun k => ?_) (Ev.now _)
    rw [speak_named.l0, if_neg (by omega)]
theorem counted_bare {n : Int} (h : Bare n) : Ev (fun k => anvilref07_counted.f k n) (⟨#[]⟩, 0, false) := by
  obtain ⟨_, h1, h2, h3, h4⟩ := id h
  have s2 : Ev (fun k => anvilref07_counted.j2 k n false) (⟨#[]⟩, 0, false) := by
    refine Ev.step (f := fun _ => some (⟨#[]⟩, 0, false)) (fun k => ?_) (Ev.now _)
    rw [anvilref07_counted.j2, if_neg (by simp)]
    by_cases c : n ≥ 3075
    · rw [if_pos c, if_neg (by omega)]
    · rw [if_neg c]
  have s1 : Ev (fun k => anvilref07_counted.j1 k n false) (⟨#[]⟩, 0, false) := by
    refine Ev.step (fun k => ?_) s2
    rw [anvilref07_counted.j1, if_neg (by simp)]
    by_cases c : n ≥ 2819
    · rw [if_pos c, decide_eq_false (by omega)]
    · rw [if_neg c]
  have s0 : Ev (fun k => anvilref07_counted.j0 k n false) (⟨#[]⟩, 0, false) := by
    refine Ev.step (fun k => ?_) s1
    rw [anvilref07_counted.j0, if_neg (by simp)]
    by_cases c : n ≥ 944
    · rw [if_pos c, decide_eq_false (by omega)]
    · rw [if_neg c]
  refine Ev.congr (fun k => ?_) s0
  unfold anvilref07_counted.f
  by_cases c : n ≥ 803
  · rw [if_pos c, decide_eq_false (by omega)]
  · rw [if_neg c]

/-! ### number by number -/
def any : Nat → Nat → Int → Bool
  | 0, _, _ => false
  | d + 1, i, n => (rd glob1 (i : Int) == n) || any d (i + 1) n
def chkA (n : Int) : Bool :=
  match speak_named.f 40 n, anvilref07_Csr.f 40 n, anvilref07_counted.f 40 n with
  | some a, some b, some c => decide (a.toList = b.toList) && (!decide (a.toList = []) && (c.2.2 || any 24 0 n))
  | _, _, _ => false
theorem named_all : ∀ n ∈ ownL, chkA n = true := by decide +kernel
theorem row1 : ∀ i : Nat, i < 29 → chkA (803 + i) = true := by decide +kernel
theorem row2 : ∀ i : Nat, i < 16 → chkA (944 + i) = true := by decide +kernel
theorem row3 : ∀ i : Nat, i < 29 → chkA (2819 + i) = true := by decide +kernel
theorem row4 : ∀ i : Nat, i < 29 → chkA (3075 + i) = true := by decide +kernel
theorem any_bare {n : Int} (h : Bare n) : ∀ (d i : Nat), i + d = 24 → any d i n = false
  | 0, _, _ => rfl
  | d + 1, i, hi => by
    have hm := rd_own i (by omega)
    simp only [any]
    rw [any_bare h d (i + 1) (by omega), Bool.or_false, beq_eq_false_iff_ne]
    exact fun e => h.own (e ▸ hm)
/-- What the two say of number n. -/
def Same (n : Int) : Prop :=
  (∃ a b c, Ev (fun k => speak_named.f k n) a ∧ Ev (fun k => anvilref07_Csr.f k n) b ∧ Ev (fun k => anvilref07_counted.f k n) c ∧ a.toList = b.toList ∧ a.toList ≠ [] ∧ (c.2.2 || any 24 0 n) = true) ∨
  (∃ c, Ev (fun k => speak_named.f k n) ⟨#[]⟩ ∧ Ev (fun k => anvilref07_counted.f k n) c ∧ (c.2.2 || any 24 0 n) = false)
theorem same_of {n : Int} (h : chkA n = true) : Same n := by
  unfold chkA at h
  cases ha : speak_named.f 40 n with
  | none => rw [ha] at h; simp at h
  | some a =>
    cases hb : anvilref07_Csr.f 40 n with
    | none => rw [ha, hb] at h; simp at h
    | some b =>
      cases hc : anvilref07_counted.f 40 n with
      | none => rw [ha, hb, hc] at h; simp at h
      | some c =>
        rw [ha, hb, hc] at h
        simp only [Bool.and_eq_true, decide_eq_true_eq, Bool.not_eq_true', decide_eq_false_iff_not] at h
        exact .inl ⟨a, b, c, Ev.of (speak_named.mono _) ha, Ev.of (anvilref07_Csr.mono _) hb, Ev.of (anvilref07_counted.mono _) hc, h.1, h.2.1, h.2.2⟩
theorem same (n : Nat) : Same (n : Int) := by
  by_cases h1 : (n : Int) ∈ ownL
  · exact same_of (named_all _ h1)
  · by_cases h2 : 803 ≤ (n : Int) ∧ (n : Int) ≤ 831
    · have := row1 (n - 803) (by omega)
      rw [show (803 : Int) + ((n - 803 : Nat) : Int) = n by omega] at this
      exact same_of this
    · by_cases h3 : 944 ≤ (n : Int) ∧ (n : Int) ≤ 959
      · have := row2 (n - 944) (by omega)
        rw [show (944 : Int) + ((n - 944 : Nat) : Int) = n by omega] at this
        exact same_of this
      · by_cases h4 : 2819 ≤ (n : Int) ∧ (n : Int) ≤ 2847
        · have := row3 (n - 2819) (by omega)
          rw [show (2819 : Int) + ((n - 2819 : Nat) : Int) = n by omega] at this
          exact same_of this
        · by_cases h5 : 3075 ≤ (n : Int) ∧ (n : Int) ≤ 3103
          · have := row4 (n - 3075) (by omega)
            rw [show (3075 : Int) + ((n - 3075 : Nat) : Int) = n by omega] at this
            exact same_of this
          · have hb : Bare (n : Int) := ⟨h1, h2, h3, h4, h5⟩
            exact .inr ⟨_, named_bare hb, counted_bare hb, by rw [any_bare hb 24 0 (by omega)]; rfl⟩
/-- The document's inner loop. -/
theorem inner (x : ByteArray) (n : Int) {r : Int × Bool} : ∀ (d i : Nat) (b : Bool), i + d = 24 →
    Ev (fun k => if (b || any d i n) = true then ((anvilref07_Csr.f k n).bind fun t136 => (if t136.toList = x.toList then (some (n, true)) else (anvilref07_CsrOf.l0 k x (wrap64 (n + 1))))) else (anvilref07_CsrOf.l0 k x (wrap64 (n + 1)))) r → Ev (fun k => anvilref07_CsrOf.l1 k x n b (i : Int)) r
  | 0, i, b, hi, h => by
    refine Ev.step (fun k => ?_) h
    rw [anvilref07_CsrOf.l1, if_neg (by omega)]
    simp only [any, Bool.or_false]
  | d + 1, i, b, hi, h => by
    cases b with
    | true =>
      refine Ev.step (f := fun k => anvilref07_CsrOf.l1 k x n true ((i + 1 : Nat) : Int)) (fun k => ?_) (inner x n d (i + 1) true (by omega) (Ev.congr (fun k => ?_) h))
      · rw [anvilref07_CsrOf.l1, if_pos (by omega), if_pos rfl, w64 (by omega) (by omega)]
        rfl
      · simp only [Bool.true_or, if_true]
    | false =>
      refine Ev.step (f := fun k => anvilref07_CsrOf.l1 k x n (rd glob1 (i : Int) == n) ((i + 1 : Nat) : Int)) (fun k => ?_) (inner x n d (i + 1) _ (by omega) (Ev.congr (fun k => ?_) h))
      · rw [anvilref07_CsrOf.l1, if_pos (by omega), if_neg (by simp), if_pos (by omega), if_pos (by omega), w64 (by omega) (by omega)]
        rfl
      · simp only [any, Bool.false_or]
/-- One round of the document's outer loop. -/
theorem outer (x : ByteArray) (n : Nat) (hn : n < 4096) {c : ByteArray × Int × Bool} {r : Int × Bool} (hc : Ev (fun k => anvilref07_counted.f k (n : Int)) c)
    (h : Ev (fun k => if (c.2.2 || any 24 0 n) = true then ((anvilref07_Csr.f k (n : Int)).bind fun t136 => (if t136.toList = x.toList then (some ((n : Int), true)) else (anvilref07_CsrOf.l0 k x ((n + 1 : Nat) : Int)))) else (anvilref07_CsrOf.l0 k x ((n + 1 : Nat) : Int))) r) :
    Ev (fun k => anvilref07_CsrOf.l0 k x (n : Int)) r := by
  refine Ev.step (f := fun k => (anvilref07_counted.f k (n : Int)).bind fun bt132 => (anvilref07_CsrOf.l1 k x (n : Int) bt132.2.2 0)) (fun k => ?_) (Ev.bind (f := fun k bt132 => (anvilref07_CsrOf.l1 k x (n : Int) bt132.2.2 0)) hc ?_)
  · rw [anvilref07_CsrOf.l0, if_pos (by omega)]
  · refine inner x (n : Int) 24 0 c.2.2 (by omega) ?_
    rw [w64 (by omega) (by omega)]
    exact h

/-! ### the number -/
/-- How the document ends with what the digits spell. -/
def finR (mi : Bool) : Option Nat → Int × Bool
  | none => (0, false)
  | some n => if mi = true then (if (n : Int) > 9223372036854775808 then (0, false) else (IntKind.u64.wrap (-(n : Int)), true)) else ((n : Int), true)
theorem digit_all : ∀ c : Nat, c < 256 → anvilref07_digit.f 5 (c : Int) 10 = some (if hexV (UInt8.ofNat c) < 10 then ((hexV (UInt8.ofNat c) : Nat) : Int) else -1) ∧ anvilref07_digit.f 5 (c : Int) 16 = some (if hexV (UInt8.ofNat c) < 16 then ((hexV (UInt8.ofNat c) : Nat) : Int) else -1) := by decide +kernel
theorem digit_is (B : Nat) (hB : B = 10 ∨ B = 16) (c : UInt8) : Ev (fun k => anvilref07_digit.f k (c.toNat : Int) (B : Int)) (if hexV c < B then ((hexV c : Nat) : Int) else -1) := by
  have h := digit_all c.toNat c.toNat_lt
  rw [show UInt8.ofNat c.toNat = c by simp] at h
  rcases hB with rfl | rfl
  · exact Ev.of (anvilref07_digit.mono _ _) h.1
  · exact Ev.of (anvilref07_digit.mono _ _) h.2
theorem bt_is (s : ByteArray) (i : Nat) (h : i < s.size) (h' : i < s.data.toList.length) : bt s (i : Int) = ((s.data.toList[i]'h').toNat : Int) := by
  rw [← bt_at s (i : Int) (by simpa using h)]
  rfl
def valid (B : Nat) (l : List UInt8) : Bool := l.all fun c => decide (hexV c < B)
theorem num_l0 (s : ByteArray) (hs : s.size ≤ 281474976710656) (mi : Bool) (B : Nat) (hB : B = 10 ∨ B = 16) : ∀ (d i acc : Nat), i + d = s.size → acc < 18446744073709551616 →
    Ev (fun k => anvilref07_Number.l0 k s mi (B : Int) (acc : Int) (i : Int)) (finR mi (if valid B (s.data.toList.drop i) = true then mag B acc (s.data.toList.drop i) else none)) := by
  have hl := Lib.size_eq s
  intro d
  induction d with
  | zero =>
    intro i acc hi ha
    rw [List.drop_eq_nil_of_le (by omega)]
    refine Ev.step (f := fun _ => some (finR mi (some acc))) (fun k => ?_) (Ev.now _)
    rw [anvilref07_Number.l0, if_neg (by omega)]
    unfold finR
    cases mi
    · rw [if_neg (by simp)]
      rfl
    · simp only [if_true, List.drop_nil]
      split <;> rfl
  | succ d ih =>
    intro i acc hi ha
    have hi' : i < s.data.toList.length := by omega
    have hdr : s.data.toList.drop i = s.data.toList[i] :: s.data.toList.drop (i + 1) := List.drop_eq_getElem_cons hi'
    have hbt := bt_is s i (by omega) hi'
    rw [hdr]
    generalize s.data.toList[i] = c at hbt
    have hu : IntKind.u64.wrap (B : Int) = B := u64_small (by omega) (by omega)
    have hd := digit_is B hB c
    refine Ev.step (f := fun k => (anvilref07_digit.f k (c.toNat : Int) (B : Int)).bind fun t129 => (if t129 < 0 then (some (0, false)) else (if (IntKind.u64.wrap ((B : Int))) = 0 then (none) else (if (acc : Int) > (IntKind.u64.wrap (Int.tdiv (IntKind.u64.wrap (18446744073709551615 - (IntKind.u64.wrap (t129)))) (IntKind.u64.wrap ((B : Int))))) then (some (0, false)) else (anvilref07_Number.l0 k s mi (B : Int) (IntKind.u64.wrap ((IntKind.u64.wrap ((acc : Int) * (IntKind.u64.wrap ((B : Int))))) + (IntKind.u64.wrap (t129)))) (wrap64 ((i : Int) + 1))))))) (fun k => ?_)
      (Ev.bind (f := fun k t129 => (if t129 < 0 then (some (0, false)) else (if (IntKind.u64.wrap ((B : Int))) = 0 then (none) else (if (acc : Int) > (IntKind.u64.wrap (Int.tdiv (IntKind.u64.wrap (18446744073709551615 - (IntKind.u64.wrap (t129)))) (IntKind.u64.wrap ((B : Int))))) then (some (0, false)) else (anvilref07_Number.l0 k s mi (B : Int) (IntKind.u64.wrap ((IntKind.u64.wrap ((acc : Int) * (IntKind.u64.wrap ((B : Int))))) + (IntKind.u64.wrap (t129)))) (wrap64 ((i : Int) + 1))))))) hd ?_)
    · rw [anvilref07_Number.l0, if_pos (by omega), if_pos (by omega), hbt]
    · by_cases hv : hexV c < B
      · rw [if_pos hv]
        obtain ⟨q, hq⟩ : ∃ q, hexV c = q := ⟨_, rfl⟩
        rw [hq] at hv
        have hV : valid B (c :: s.data.toList.drop (i + 1)) = valid B (s.data.toList.drop (i + 1)) := by
          simp only [valid, List.all_cons, hq, decide_eq_true hv, Bool.true_and]
        rw [hV, hq]
        have e1 : IntKind.u64.wrap (q : Int) = q := u64_small (by omega) (by omega)
        have e2 : IntKind.u64.wrap (18446744073709551615 - (q : Int)) = 18446744073709551615 - q := u64_small (by omega) (by omega)
        have e3 : Int.tdiv (18446744073709551615 - (q : Int)) B = (18446744073709551615 - (q : Int)) / B := Int.tdiv_eq_ediv_of_nonneg (by omega)
        have e4 : IntKind.u64.wrap ((18446744073709551615 - (q : Int)) / B) = (18446744073709551615 - (q : Int)) / B := by
          rcases hB with rfl | rfl <;> exact u64_small (by omega) (by omega)
        by_cases hov : 18446744073709551616 ≤ acc * B + q
        · have hm : mag B acc (c :: s.data.toList.drop (i + 1)) = none := by
            rw [mag, hq, if_pos hov]
          rw [hm, ite_self]
          refine Ev.congr (f := fun _ => some (0, false)) (fun k => ?_) (Ev.now _)
          rw [if_neg (by omega), hu, if_neg (by omega), e1, e2, e3, e4, if_pos (by rcases hB with rfl | rfl <;> omega)]
        · have hm : mag B acc (c :: s.data.toList.drop (i + 1)) = mag B (acc * B + q) (s.data.toList.drop (i + 1)) := by
            rw [mag, hq, if_neg hov]
          rw [hm]
          refine Ev.congr (fun k => ?_) (ih (i + 1) (acc * B + q) (by omega) (by omega))
          have e5 : IntKind.u64.wrap ((acc : Int) * B) = ((acc * B : Nat) : Int) := by
            rw [show (acc : Int) * B = ((acc * B : Nat) : Int) by simp]
            exact u64_small (by omega) (by omega)
          have e6 : IntKind.u64.wrap (((acc * B : Nat) : Int) + q) = ((acc * B + q : Nat) : Int) := by
            rw [show ((acc * B : Nat) : Int) + q = ((acc * B + q : Nat) : Int) by omega]
            exact u64_small (by omega) (by omega)
          rw [if_neg (by omega), hu, if_neg (by omega), e1, e2, e3, e4, if_neg (by rcases hB with rfl | rfl <;> omega), e5, e6, w64 (by omega) (by omega)]
          rfl
      · rw [if_neg hv]
        have hV : valid B (c :: s.data.toList.drop (i + 1)) = false := by
          simp only [valid, List.all_cons, decide_eq_false hv, Bool.false_and]
        rw [hV]
        refine Ev.congr (f := fun _ => some (0, false)) (fun k => ?_) (Ev.now _)
        rw [if_pos (by omega)]
theorem ext_list (s : ByteArray) (a : Nat) : (s.extract a s.size).data.toList = s.data.toList.drop a := by
  rw [ByteArray.data_extract]
  have h : s.size = s.data.size := rfl
  rw [h]
  simp [Array.toList_extract, List.extract]
  rw [List.take_of_length_le]
  rw [List.length_drop, ← Lib.size_eq]
  exact Nat.le_refl _
theorem ext_size (s : ByteArray) (a : Nat) : (s.extract a s.size).size = s.size - a := by
  rw [ByteArray.size_extract]
  omega
theorem first_is (s : ByteArray) (c : UInt8) (r : List UInt8) (h : s.data.toList = c :: r) : bt s 0 = (c.toNat : Int) := by
  have hl := Lib.size_eq s
  rw [h] at hl
  simp at hl
  have := bt_is s 0 (by omega) (by rw [h]; simp)
  simp only [h] at this
  exact this
theorem second_is (s : ByteArray) (c c2 : UInt8) (r : List UInt8) (h : s.data.toList = c :: c2 :: r) : bt s 1 = (c2.toNat : Int) := by
  have hl := Lib.size_eq s
  rw [h] at hl
  simp at hl
  have := bt_is s 1 (by omega) (by rw [h]; simp)
  simp only [h] at this
  exact this
theorem byte_eq (c : UInt8) (n : Nat) (hn : n < 256) : ((c.toNat : Int) = n) ↔ (c == UInt8.ofNat n) = true := by
  rw [beq_iff_eq]
  constructor
  · intro h
    have : c.toNat = n := by omega
    rw [← this]
    simp
  · intro h
    rw [h]
    simp
    omega
theorem j3_is (s2 : ByteArray) (hs : s2.size ≤ 281474976710656) (mi : Bool) (B : Nat) (hB : B = 10 ∨ B = 16) : Ev (fun k => anvilref07_Number.j3 k s2 mi (B : Int)) (finR mi (if valid B s2.data.toList = true then numOf B s2.data.toList else none)) := by
  have hl := Lib.size_eq s2
  by_cases h0 : s2.size = 0
  · have hn : s2.data.toList = [] := List.eq_nil_of_length_eq_zero (by omega)
    rw [hn]
    refine Ev.step (f := fun _ => some (0, false)) (fun k => ?_) (Ev.now _)
    rw [anvilref07_Number.j3, if_pos (by omega)]
  · have hn : ¬ s2.data.toList = [] := fun h => h0 (by rw [hl, h]; rfl)
    have := num_l0 s2 hs mi B hB s2.size 0 0 (by omega) (by omega)
    rw [List.drop_zero] at this
    unfold numOf
    rw [if_neg hn]
    refine Ev.step (fun k => ?_) this
    rw [anvilref07_Number.j3, if_neg (by omega)]
    rfl
theorem j1_is (s1 : ByteArray) (hs : s1.size ≤ 281474976710656) (mi : Bool) :
    Ev (fun k => anvilref07_Number.j1 k s1 mi) (finR mi (let B := if Lib.hasPrefix s1.data.toList [48, 120] then 16 else 10; let l := Lib.trimPrefix s1.data.toList [48, 120]; if valid B l = true then numOf B l else none)) := by
  have hl := Lib.size_eq s1
  have no : ∀ (h : Lib.hasPrefix s1.data.toList [48, 120] = false), (∀ k, anvilref07_Number.j1 (k + 1) s1 mi = anvilref07_Number.j2 k s1 mi 10 false) →
      Ev (fun k => anvilref07_Number.j1 k s1 mi) (finR mi (let B := if Lib.hasPrefix s1.data.toList [48, 120] then 16 else 10; let l := Lib.trimPrefix s1.data.toList [48, 120]; if valid B l = true then numOf B l else none)) := fun h hk => by
    have e : Lib.trimPrefix s1.data.toList [48, 120] = s1.data.toList := by
      unfold Lib.trimPrefix
      rw [h]
      rfl
    simp only [h, e, Bool.false_eq_true, if_false]
    refine Ev.step hk (Ev.step (f := fun k => anvilref07_Number.j3 k s1 mi 10) (fun k => ?_) (j3_is s1 hs mi 10 (.inl rfl)))
    rw [anvilref07_Number.j2, if_neg (by simp)]
  suffices H : ∀ l, s1.data.toList = l → Ev (fun k => anvilref07_Number.j1 k s1 mi) (finR mi (let B := if Lib.hasPrefix s1.data.toList [48, 120] then 16 else 10; let l := Lib.trimPrefix s1.data.toList [48, 120]; if valid B l = true then numOf B l else none)) from H _ rfl
  intro l hd
  match l, hd with
  | [], hd =>
    refine no (by rw [hd]; rfl) (fun k => ?_)
    have hl1 : s1.size = 0 := by rw [hl, hd]; rfl
    rw [anvilref07_Number.j1, if_neg (by omega)]
  | [c], hd =>
    refine no (by rw [hd]; show (((48 : UInt8) == c) && false) = false; rw [Bool.and_false]) (fun k => ?_)
    have hl1 : s1.size = 1 := by rw [hl, hd]; rfl
    rw [anvilref07_Number.j1, if_neg (by omega)]
  | c :: c2 :: r, hd =>
    have hl2 := hl
    rw [hd] at hl2
    simp at hl2
    have hb0 := first_is s1 c (c2 :: r) hd
    have hb1 := second_is s1 c c2 r hd
    have hp : Lib.hasPrefix s1.data.toList [48, 120] = (((48 : UInt8) == c) && ((120 : UInt8) == c2)) := by
      rw [hd]
      show (((48 : UInt8) == c) && (((120 : UInt8) == c2) && true)) = _
      rw [Bool.and_true]
    by_cases h48 : (c.toNat : Int) = 48
    · have hc : c = 48 := by
        have := (byte_eq c 48 (by omega)).1 h48
        simpa using this
      by_cases h120 : (c2.toNat : Int) = 120
      · have hc2 : c2 = 120 := by
          have := (byte_eq c2 120 (by omega)).1 h120
          simpa using this
        have hp1 : Lib.hasPrefix s1.data.toList [48, 120] = true := by rw [hp, hc, hc2]; rfl
        have e : Lib.trimPrefix s1.data.toList [48, 120] = s1.data.toList.drop 2 := by
          unfold Lib.trimPrefix
          rw [hp1]
          rfl
        simp only [hp1, e, if_true]
        rw [← ext_list s1 2]
        refine Ev.step (f := fun k => anvilref07_Number.j2 k s1 mi 10 true) (fun k => ?_) (Ev.step (f := fun k => anvilref07_Number.j3 k (s1.extract 2 s1.size) mi 16) (fun k => ?_) (j3_is _ (by rw [ext_size]; omega) mi 16 (.inr rfl)))
        · rw [anvilref07_Number.j1, if_pos (by omega), if_pos (by omega), hb0, if_pos h48, if_pos (by omega), hb1, beq_iff_eq.2 h120]
        · rw [anvilref07_Number.j2, if_pos rfl, if_pos (by omega)]
      · refine no ?_ (fun k => ?_)
        · rw [hp]
          have : ((120 : UInt8) == c2) = false := by
            rw [beq_eq_false_iff_ne]
            rintro rfl
            exact h120 rfl
          rw [this, Bool.and_false]
        · rw [anvilref07_Number.j1, if_pos (by omega), if_pos (by omega), hb0, if_pos h48, if_pos (by omega), hb1, beq_eq_false_iff_ne.2 h120]
    · refine no ?_ (fun k => ?_)
      · rw [hp]
        have : ((48 : UInt8) == c) = false := by
          rw [beq_eq_false_iff_ne]
          rintro rfl
          exact h48 rfl
        rw [this, Bool.false_and]
      · rw [anvilref07_Number.j1, if_pos (by omega), if_pos (by omega), hb0, if_neg h48]
/-- What the digits of a text spell. -/
def magS (s : ByteArray) : Option Nat := if valid (baseOf s) (rest2 s) = true then numOf (baseOf s) (rest2 s) else none
theorem number_is (s : ByteArray) (hs : s.size ≤ 281474976710656) (c : UInt8) (r : List UInt8) (hd : s.data.toList = c :: r) : Ev (fun k => anvilref07_Number.f k s) (finR (isMinus s) (magS s)) ∧ (isMinus s = true ↔ bt s 0 = 45) := by
  have hl := Lib.size_eq s
  rw [hd] at hl
  simp at hl
  have hb := first_is s c r hd
  have hm : isMinus s = ((45 : UInt8) == c) := by
    unfold isMinus
    rw [hd]
    show (((45 : UInt8) == c) && true) = _
    rw [Bool.and_true]
  by_cases h45 : (c.toNat : Int) = 45
  · have hc : c = 45 := by
      have := (byte_eq c 45 (by omega)).1 h45
      simpa using this
    have hm1 : isMinus s = true := by rw [hm, hc]; rfl
    have hr : rest1 s = (s.extract 1 s.size).data.toList := by
      rw [ext_list]
      unfold rest1 Lib.trimPrefix
      unfold isMinus at hm1
      rw [hm1]
      rfl
    have := j1_is (s.extract 1 s.size) (by rw [ext_size]; omega) true
    rw [← hr] at this
    refine ⟨?_, by rw [hb, hm1]; simp [h45]⟩
    rw [hm1]
    refine Ev.congr (f := fun k => anvilref07_Number.j0 k s true) (fun k => ?_) (Ev.step (f := fun k => anvilref07_Number.j1 k (s.extract 1 s.size) true) (fun k => ?_) this)
    · unfold anvilref07_Number.f
      rw [if_pos (by omega), if_pos (by omega), hb, beq_iff_eq.2 h45]
    · rw [anvilref07_Number.j0, if_pos rfl, if_pos (by omega)]
  · have hm1 : isMinus s = false := by
      rw [hm, beq_eq_false_iff_ne]
      rintro rfl
      exact h45 rfl
    have hr : rest1 s = s.data.toList := by
      unfold rest1 Lib.trimPrefix
      unfold isMinus at hm1
      rw [hm1]
      rfl
    have := j1_is s hs false
    rw [← hr] at this
    refine ⟨?_, by rw [hb, hm1]; simp [h45]⟩
    rw [hm1]
    refine Ev.congr (f := fun k => anvilref07_Number.j0 k s false) (fun k => ?_) (Ev.step (f := fun k => anvilref07_Number.j1 k s false) (fun k => ?_) this)
    · unfold anvilref07_Number.f
      rw [if_pos (by omega), if_pos (by omega), hb, beq_eq_false_iff_ne.2 h45]
    · rw [anvilref07_Number.j0, if_neg (by simp)]
theorem numS_is (s : ByteArray) : numS s = (match magS s with | none => (0, false) | some n => if isMinus s then (IntKind.u64.wrap (-(n : Int)), decide (n ≤ 9223372036854775808)) else ((n : Int), true)) := by
  unfold numS magS valid
  split <;> rfl
/-- How both end where nothing bears the name. -/
def endS (s : ByteArray) : Int × Bool := if isMinus s = true then (0, false) else match magS s with
  | none => (0, false)
  | some n => if (n : Int) > 4095 then (0, false) else ((n : Int), true)
theorem mag_lt (B : Nat) : ∀ (l : List UInt8) (acc n : Nat), acc < 18446744073709551616 → mag B acc l = some n → n < 18446744073709551616
  | [], acc, n, h, e => by
    simp [mag] at e
    omega
  | c :: r, acc, n, h, e => by
    rw [mag] at e
    split at e
    · cases e
    · exact mag_lt B r _ n (by omega) e
def fin2 (x : ByteArray) (v : Int × Bool) : Option (Int × Bool) := if v.2 = true then (if 0 < (x.size : Int) then (if (bt x 0) = 45 then (some (0, false)) else (if v.1 > 4095 then (some (0, false)) else (some (wrap64 (v.1), true)))) else (none)) else (some (0, false))
theorem fin2_is (x : ByteArray) (hx : 0 < x.size) (hm : isMinus x = true ↔ bt x 0 = 45) (v : Int × Bool) (hv : isMinus x = false → v = (match magS x with | none => (0, false) | some n => ((n : Int), true))) : fin2 x v = some (endS x) := by
  unfold fin2 endS
  cases h : isMinus x with
  | true =>
    rw [if_pos rfl]
    by_cases h2 : v.2 = true
    · rw [if_pos h2, if_pos (by omega), if_pos (hm.1 h)]
    · rw [if_neg h2]
  | false =>
    rw [hv h]
    have h45 : ¬ bt x 0 = 45 := fun e => by rw [hm.2 e] at h; cases h
    cases magS x with
    | none => simp
    | some n =>
      simp only [Bool.false_eq_true, if_false, if_true]
      rw [if_pos (by omega), if_neg h45]
      by_cases hn : (n : Int) > 4095
      · rw [if_pos hn, if_pos hn]
      · rw [if_neg hn, if_neg hn, w64 (by omega) (by omega)]
theorem loops (x : ByteArray) (hs : x.size ≤ 281474976710656) (c : UInt8) (r : List UInt8) (hd : x.data.toList = c :: r) : ∀ (d n : Nat), n + d = 4096 → ∃ v, Ev (fun k => speak_CsrOf.l0 k x (n : Int)) v ∧ Ev (fun k => anvilref07_CsrOf.l0 k x (n : Int)) v
  | 0, n, h => by
    obtain ⟨hN, hm⟩ := number_is x hs c r hd
    have hx : 0 < x.size := by
      have := Lib.size_eq x
      rw [hd] at this
      simp at this
      omega
    refine ⟨endS x, Ev.step (f := fun _ => fin2 x (numS x)) (fun k => ?_) ?_, Ev.step (f := fun k => (anvilref07_Number.f k x).bind fun bt130 => fin2 x bt130) (fun k => ?_) (Ev.bind (f := fun _ v => fin2 x v) hN ?_)⟩
    · rw [speak_CsrOf.l0, if_neg (by omega)]
      unfold speak_number.f
      rw [if_pos hs]
      rfl
    · rw [fin2_is x hx hm (numS x) (fun h => by rw [numS_is, h]; cases magS x <;> rfl)]
      exact Ev.now _
    · rw [anvilref07_CsrOf.l0, if_neg (by omega)]
      rfl
    · rw [fin2_is x hx hm (finR (isMinus x) (magS x)) (fun h => by rw [h]; cases magS x <;> rfl)]
      exact Ev.now _
  | d + 1, n, h => by
    obtain ⟨v, e1, e2⟩ := loops x hs c r hd d (n + 1) (by omega)
    rcases same n with ⟨a, b, cc, ha, hb, hc, hab, hne, hf⟩ | ⟨cc, ha, hc, hf⟩
    · by_cases hx : a.toList = x.toList
      · refine ⟨((n : Int), true), Ev.step (f := fun k => (speak_named.f k (n : Int)).bind fun t111 => (if t111.toList = x.toList then (some ((n : Int), true)) else (speak_CsrOf.l0 k x ((n + 1 : Nat) : Int)))) (fun k => ?_) (Ev.bind (f := fun k t111 => (if t111.toList = x.toList then (some ((n : Int), true)) else (speak_CsrOf.l0 k x ((n + 1 : Nat) : Int)))) ha ?_), outer x n (by omega) hc ?_⟩
        · rw [speak_CsrOf.l0, if_pos (by omega), w64 (by omega) (by omega)]
          rfl
        · exact Ev.congr (f := fun _ => some ((n : Int), true)) (fun k => if_pos hx) (Ev.now _)
        · refine Ev.congr (f := fun k => (anvilref07_Csr.f k (n : Int)).bind fun t136 => (if t136.toList = x.toList then (some ((n : Int), true)) else (anvilref07_CsrOf.l0 k x ((n + 1 : Nat) : Int)))) (fun k => if_pos hf) (Ev.bind (f := fun k t136 => (if t136.toList = x.toList then (some ((n : Int), true)) else (anvilref07_CsrOf.l0 k x ((n + 1 : Nat) : Int)))) hb ?_)
          exact Ev.congr (f := fun _ => some ((n : Int), true)) (fun k => if_pos (hab ▸ hx)) (Ev.now _)
      · refine ⟨v, Ev.step (f := fun k => (speak_named.f k (n : Int)).bind fun t111 => (if t111.toList = x.toList then (some ((n : Int), true)) else (speak_CsrOf.l0 k x ((n + 1 : Nat) : Int)))) (fun k => ?_) (Ev.bind (f := fun k t111 => (if t111.toList = x.toList then (some ((n : Int), true)) else (speak_CsrOf.l0 k x ((n + 1 : Nat) : Int)))) ha ?_), outer x n (by omega) hc ?_⟩
        · rw [speak_CsrOf.l0, if_pos (by omega), w64 (by omega) (by omega)]
          rfl
        · exact Ev.congr (fun k => if_neg hx) e1
        · refine Ev.congr (f := fun k => (anvilref07_Csr.f k (n : Int)).bind fun t136 => (if t136.toList = x.toList then (some ((n : Int), true)) else (anvilref07_CsrOf.l0 k x ((n + 1 : Nat) : Int)))) (fun k => if_pos hf) (Ev.bind (f := fun k t136 => (if t136.toList = x.toList then (some ((n : Int), true)) else (anvilref07_CsrOf.l0 k x ((n + 1 : Nat) : Int)))) hb ?_)
          exact Ev.congr (fun k => if_neg (fun e => hx (hab.trans e))) e2
    · have hx : ¬ (⟨#[]⟩ : ByteArray).toList = x.toList := by
        rw [emptyL, Lib.toList_data, hd]
        simp
      refine ⟨v, Ev.step (f := fun k => (speak_named.f k (n : Int)).bind fun t111 => (if t111.toList = x.toList then (some ((n : Int), true)) else (speak_CsrOf.l0 k x ((n + 1 : Nat) : Int)))) (fun k => ?_) (Ev.bind (f := fun k t111 => (if t111.toList = x.toList then (some ((n : Int), true)) else (speak_CsrOf.l0 k x ((n + 1 : Nat) : Int)))) ha ?_), outer x n (by omega) hc ?_⟩
      · rw [speak_CsrOf.l0, if_pos (by omega), w64 (by omega) (by omega)]
        rfl
      · exact Ev.congr (fun k => if_neg hx) e1
      · refine Ev.congr (fun k => if_neg (by rw [hf]; simp)) e2
/-- The empty name. -/
theorem loops0 (x : ByteArray) (hd : x.data.toList = []) : ∀ (d n : Nat), n + d = 4096 → Ev (fun k => anvilref07_CsrOf.l0 k x (n : Int)) (0, false)
  | 0, n, h => by
    have hx : x.size = 0 := by rw [Lib.size_eq, hd]; rfl
    have hN : Ev (fun k => anvilref07_Number.f k x) (0, false) := by
      have := j1_is x (by omega) false
      simp only [hd] at this
      refine Ev.congr (f := fun k => anvilref07_Number.j0 k x false) (fun k => ?_) (Ev.step (f := fun k => anvilref07_Number.j1 k x false) (fun k => ?_) this)
      · unfold anvilref07_Number.f
        rw [if_neg (by omega)]
      · rw [anvilref07_Number.j0, if_neg (by simp)]
    refine Ev.step (f := fun k => (anvilref07_Number.f k x).bind fun bt130 => fin2 x bt130) (fun k => ?_) (Ev.bind (f := fun _ v => fin2 x v) hN (Ev.now _))
    rw [anvilref07_CsrOf.l0, if_neg (by omega)]
    rfl
  | d + 1, n, h => by
    have e2 := loops0 x hd d (n + 1) (by omega)
    have hxl : x.toList = [] := by rw [Lib.toList_data, hd]
    rcases same n with ⟨a, b, cc, ha, hb, hc, hab, hne, hf⟩ | ⟨cc, ha, hc, hf⟩
    · refine outer x n (by omega) hc ?_
      refine Ev.congr (f := fun k => (anvilref07_Csr.f k (n : Int)).bind fun t136 => (if t136.toList = x.toList then (some ((n : Int), true)) else (anvilref07_CsrOf.l0 k x ((n + 1 : Nat) : Int)))) (fun k => if_pos hf) (Ev.bind (f := fun k t136 => (if t136.toList = x.toList then (some ((n : Int), true)) else (anvilref07_CsrOf.l0 k x ((n + 1 : Nat) : Int)))) hb ?_)
      exact Ev.congr (fun k => if_neg (fun e => hne (hab.trans (e.trans hxl)))) e2
    · exact outer x n (by omega) hc (Ev.congr (fun k => if_neg (by rw [hf]; simp)) e2)
theorem pureCsrNames (a0 : ByteArray) (hs : a0.size ≤ 281474976710656) : ∃ k, anvillaw07_SpeakCsrNames.f k a0 = some true := by
  refine Ev.rounds ?_
  have key : ∃ v, Ev (fun k => speak_CsrOf.f k a0) v ∧ Ev (fun k => anvilref07_CsrOf.f k a0) v := by
    match hd : a0.data.toList with
    | [] =>
      refine ⟨(0, false), Ev.congr (f := fun _ => some (0, false)) (fun k => ?_) (Ev.now _), loops0 a0 hd 4096 0 (by omega)⟩
      unfold speak_CsrOf.f
      rw [if_pos (by rw [Lib.toList_data, hd])]
    | c :: r =>
      obtain ⟨v, e1, e2⟩ := loops a0 hs c r hd 4096 0 (by omega)
      refine ⟨v, Ev.congr (fun k => ?_) e1, e2⟩
      unfold speak_CsrOf.f
      rw [if_neg (by rw [Lib.toList_data, hd]; simp)]
      rfl
  obtain ⟨v, e1, e2⟩ := key
  unfold anvillaw07_SpeakCsrNames.f
  refine Ev.bind (f := fun k bt137 => ((anvilref07_CsrOf.f k a0).bind fun bt139 => (if bt137.1 = bt139.1 then (some (bt137.2 == bt139.2)) else (some false)))) e1 ?_
  refine Ev.bind (f := fun k bt139 => (if v.1 = bt139.1 then (some (v.2 == bt139.2)) else (some false))) e2 ?_
  simp only [if_true, beq_self_eq_true]
  exact Ev.now _
end Go.Proofs.YtkcaebdhkodleaaDoor.PCsn
