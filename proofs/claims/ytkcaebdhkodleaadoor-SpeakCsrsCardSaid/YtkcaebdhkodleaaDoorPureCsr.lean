/- The pure side of SpeakCsrs: the CSRs that have a name or stand in a row are compared one by one, all others are printed in hex digits by both. -/
import Derived.Test.YtkcaebdhkodleaaDoorCsrx3
set_option linter.unusedVariables false
set_option linter.unusedSimpArgs false
namespace Go.Proofs.YtkcaebdhkodleaaDoor.PCsr
open Go.RowKit Go.Proofs.YtkcaebdhkodleaaDoorW.PrintWords Go.Proofs.YtkcaebdhkodleaaDoorW.PrintLast

theorem w64 {x : Int} (h1 : -9223372036854775808 ≤ x) (h2 : x ≤ 9223372036854775807) : wrap64 x = x := by unfold wrap64; omega
theorem u64_small {x : Int} (h0 : 0 ≤ x) (h1 : x ≤ 18446744073709551615) : IntKind.u64.wrap x = x := by
  have h : x % 2 ^ 64 = x := by omega
  simp [IntKind.wrap, IntKind.signed, IntKind.bits]
  omega
theorem emptyL : (⟨#[]⟩ : ByteArray).toList = [] := by kernel_rfl
theorem dig_is : ∀ d : Nat, d < 16 → (⟨#[48, 49, 50, 51, 52, 53, 54, 55, 56, 57, 97, 98, 99, 100, 101, 102]⟩ : ByteArray).extract d (d + 1) = ⟨[hexDigit d].toArray⟩ := by decide +kernel
theorem ba_append (a b : List UInt8) : (⟨a.toArray⟩ : ByteArray) ++ ⟨b.toArray⟩ = ⟨(a ++ b).toArray⟩ := by
  apply ByteArray.ext
  rw [ByteArray.data_append]
  simp
theorem hex_is : ∀ (n v : Nat), v < 16 ^ n → n ≤ 16 → Ev (fun k => anvilref07_Hex.f k (v : Int)) ⟨(hexL v).toArray⟩
  | 0, v, h, _ => by
    obtain rfl : v = 0 := by simpa using h
    refine Ev.step (f := fun _ => some ⟨(hexL 0).toArray⟩) (fun k => ?_) (Ev.now _)
    have e : hexL 0 = [hexDigit 0] := by rw [hexL, dif_pos (by omega)]
    rw [anvilref07_Hex.f, if_pos (by omega), if_pos (by omega), u64_small (by omega) (by omega), if_pos (by omega), if_pos (by omega), e]
    exact congrArg some (dig_is 0 (by omega))
  | n + 1, v, h, hn => by
    have hb : v < 18446744073709551616 := Nat.lt_of_lt_of_le h (by have := Nat.pow_le_pow_right (n := 16) (by omega) hn; simpa using this)
    by_cases h16 : v < 16
    · refine Ev.step (f := fun _ => some ⟨(hexL v).toArray⟩) (fun k => ?_) (Ev.now _)
      have e : hexL v = [hexDigit v] := by rw [hexL, dif_pos h16]
      rw [anvilref07_Hex.f, if_pos (by omega), if_pos (by omega), u64_small (by omega) (by omega), if_pos (by omega), if_pos (by omega), e]
      have := dig_is v h16
      rw [← this]
      congr 2
    · have e : hexL v = hexL (v / 16) ++ [hexDigit (v % 16)] := by rw [hexL, dif_neg h16]
      have ih := hex_is n (v / 16) (by rw [Nat.pow_succ] at h; omega) (by omega)
      have hl := hexL_len 16 (v / 16) (by omega) (by omega)
      have e1 : Int.tdiv (v : Int) 16 = ((v / 16 : Nat) : Int) := by rw [Int.tdiv_eq_ediv_of_nonneg (by omega)]; omega
      have e2 : Int.tmod (v : Int) 16 = ((v % 16 : Nat) : Int) := by rw [Int.tmod_eq_emod_of_nonneg (by omega)]; omega
      have e3 : (⟨#[48, 49, 50, 51, 52, 53, 54, 55, 56, 57, 97, 98, 99, 100, 101, 102]⟩ : ByteArray).extract (v % 16) (v % 16 + 1) = ⟨[hexDigit (v % 16)].toArray⟩ := dig_is (v % 16) (by omega)
      obtain ⟨K, hK⟩ := ih
      refine ⟨K + 1, fun k hk => ?_⟩
      obtain ⟨k', rfl⟩ : ∃ k', k = k' + 1 := ⟨k - 1, by omega⟩
      have hK' : anvilref07_Hex.f k' ((v / 16 : Nat) : Int) = some ⟨(hexL (v / 16)).toArray⟩ := hK k' (by omega)
      show anvilref07_Hex.f (k' + 1) (v : Int) = _
      rw [anvilref07_Hex.f, if_neg (by omega), e1, u64_small (by omega) (by omega), hK', Option.bind_some, e2, if_pos (by omega), u64_small (by omega) (by omega), if_pos (by omega), if_pos (by omega),
        show (((v % 16 : Nat) : Int) + 1).toNat = v % 16 + 1 by omega, Int.toNat_natCast, e3, if_pos (by
          have : (⟨(hexL (v / 16)).toArray⟩ : ByteArray).size = (hexL (v / 16)).length := by simp [ByteArray.size]
          have h1 : (⟨[hexDigit (v % 16)].toArray⟩ : ByteArray).size = 1 := rfl
          omega), ba_append, e]

def ownL : List Int := [3857, 3858, 3859, 3860, 3861, 768, 769, 772, 773, 774, 778, 800, 832, 833, 834, 835, 836, 928, 930, 2816, 2818, 3072, 3073, 3074]
theorem named_all : ∀ n ∈ ownL, anvillaw07_SpeakCsrs.f 40 n = some true := by decide +kernel
theorem row1 : ∀ i : Nat, i < 29 → anvillaw07_SpeakCsrs.f 40 (803 + i) = some true := by decide +kernel
theorem row2 : ∀ i : Nat, i < 16 → anvillaw07_SpeakCsrs.f 40 (944 + i) = some true := by decide +kernel
theorem row3 : ∀ i : Nat, i < 29 → anvillaw07_SpeakCsrs.f 40 (2819 + i) = some true := by decide +kernel
theorem row4 : ∀ i : Nat, i < 29 → anvillaw07_SpeakCsrs.f 40 (3075 + i) = some true := by decide +kernel
theorem rd_own : ∀ i : Nat, i < 24 → rd glob1 i ∈ ownL := by decide +kernel
/-- No name, no row. -/
structure Bare (n : Int) : Prop where
  own : n ∉ ownL
  r1 : ¬ (803 ≤ n ∧ n ≤ 831)
  r2 : ¬ (944 ≤ n ∧ n ≤ 959)
  r3 : ¬ (2819 ≤ n ∧ n ≤ 2847)
  r4 : ¬ (3075 ≤ n ∧ n ≤ 3103)
theorem own_bare {n : Int} (h : Bare n) : speak_own.f n = some ⟨#[]⟩ := by
  have h0 := h.own
  simp only [ownL, List.mem_cons, List.not_mem_nil, or_false, not_or] at h0
  unfold speak_own.f
  simp only [h0, if_false]
theorem named_bare {n : Int} (h : Bare n) : Ev (fun k => speak_named.f k n) ⟨#[]⟩ := by
  obtain ⟨_, h1, h2, h3, h4⟩ := id h
  have st : ∀ (L : List S44) (i : Int), 0 ≤ i → i < L.length → L.length = 4 → ¬ (n ≥ (rd_T44 L i).f1 ∧ n ≤ (rd_T44 L i).f3) → ∀ k, speak_named.l0 (k + 1) n L (L.length : Int) i = speak_named.l0 k n L (L.length : Int) (i + 1) := fun L i a b l c k => by
    rw [speak_named.l0, if_pos b, if_pos a, if_pos b]
    by_cases c1 : n ≥ (rd_T44 L i).f1
    · rw [if_pos c1, if_neg (fun c2 => c ⟨c1, c2⟩), w64 (by omega) (by omega)]
    · rw [if_neg c1, w64 (by omega) (by omega)]
  obtain ⟨L, hL⟩ : ∃ L, speak_rows.f = some L := ⟨_, rfl⟩
  have hl : L.length = 4 := by cases hL; rfl
  have f0 : (rd_T44 L 0).f1 = 803 ∧ (rd_T44 L 0).f3 = 831 := by cases hL; exact ⟨rfl, rfl⟩
  have f1 : (rd_T44 L 1).f1 = 944 ∧ (rd_T44 L 1).f3 = 959 := by cases hL; exact ⟨rfl, rfl⟩
  have f2 : (rd_T44 L 2).f1 = 2819 ∧ (rd_T44 L 2).f3 = 2847 := by cases hL; exact ⟨rfl, rfl⟩
  have f3 : (rd_T44 L 3).f1 = 3075 ∧ (rd_T44 L 3).f3 = 3103 := by cases hL; exact ⟨rfl, rfl⟩
  refine Ev.congr (f := fun k => speak_named.l0 k n L (L.length : Int) 0) (fun k => ?_) ?_
  · unfold speak_named.f
    rw [own_bare h, Option.bind_some, hL, if_pos emptyL, Option.bind_some]
  · refine Ev.step (st L 0 (by omega) (by omega) hl (by rw [f0.1, f0.2]; omega)) ?_
    refine Ev.step (st L (0 + 1) (by omega) (by omega) hl (by rw [show (0 : Int) + 1 = 1 from rfl, f1.1, f1.2]; omega)) ?_
    refine Ev.step (st L (0 + 1 + 1) (by omega) (by omega) hl (by rw [show (0 : Int) + 1 + 1 = 2 from rfl, f2.1, f2.2]; omega)) ?_
    refine Ev.step (st L (0 + 1 + 1 + 1) (by omega) (by omega) hl (by rw [show (0 : Int) + 1 + 1 + 1 = 3 from rfl, f3.1, f3.2]; omega)) ?_
    refine Ev.step (f := fun _ => some ⟨#[]⟩) (fun k => ?_) (Ev.now _)
    rw [speak_named.l0, if_neg (by omega)]
theorem counted_bare {n : Int} (h : Bare n) : Ev (fun k => anvilref07_counted.f k n) (⟨#[]⟩, 0, false) := by
  obtain ⟨_, h1, h2, h3, h4⟩ := id h
  have s2 : Ev (fun k => anvilref07_counted.j2 k n false) (⟨#[]⟩, 0, false) := by
    refine Ev.step (f := fun _ => some (⟨#[]⟩, 0, false)) (fun k => ?_) (Ev.now _)
    rw [anvilref07_counted.j2, if_neg (by simp)]
    by_cases c : n ≥ 3075
    · rw [if_pos c, if_neg (by omega)]
    · rw [if_neg c]
  have s1 : Ev (fun k => anvilref07_counted.j1 k n false) (⟨#[]⟩, 0, false) := by
    refine Ev.step (fun k => ?_) s2
    rw [anvilref07_counted.j1, if_neg (by simp)]
    by_cases c : n ≥ 2819
    · rw [if_pos c, decide_eq_false (by omega)]
    · rw [if_neg c]
  have s0 : Ev (fun k => anvilref07_counted.j0 k n false) (⟨#[]⟩, 0, false) := by
    refine Ev.step (fun k => ?_) s1
    rw [anvilref07_counted.j0, if_neg (by simp)]
    by_cases c : n ≥ 944
    · rw [if_pos c, decide_eq_false (by omega)]
    · rw [if_neg c]
  refine Ev.congr (fun k => ?_) s0
  unfold anvilref07_counted.f
  by_cases c : n ≥ 803
  · rw [if_pos c, decide_eq_false (by omega)]
  · rw [if_neg c]
theorem bare (n : Nat) (hn : n ≤ 4095) (h : Bare (n : Int)) : ∃ r, Ev (fun k => speak_Csr.f k (n : Int)) r ∧ Ev (fun k => anvilref07_Csr.f k (n : Int)) r := by
  have hl := hexL_len 16 n (by omega) (by omega)
  have hsz : (⟨(hexL n).toArray⟩ : ByteArray).size = (hexL n).length := by simp [ByteArray.size]
  have hx : speak_hex.f (IntKind.u64.wrap (n : Int)) = some ((⟨#[48, 120]⟩ : ByteArray) ++ ⟨(hexL n).toArray⟩) := by
    unfold speak_hex.f strconv_FormatUint_28.f
    rw [u64_small (by omega) (by omega), if_pos ⟨rfl, by omega, by omega⟩, Option.bind_some, Int.toNat_natCast, if_pos (by omega)]
  have hh := hex_is 16 n (by omega) (by omega)
  refine ⟨(⟨#[48, 120]⟩ : ByteArray) ++ ⟨(hexL n).toArray⟩, ?_, ?_⟩
  · refine Ev.congr (f := fun k => speak_Csr.j0 k (n : Int) false) (fun k => ?_) ?_
    · unfold speak_Csr.f
      rw [if_neg (by omega), decide_eq_false (by omega)]
    · refine Ev.step (f := fun k => (speak_named.f k (n : Int)).bind fun t112 => (if t112.toList = ([] : List UInt8) then ((speak_hex.f (IntKind.u64.wrap ((n : Int)))).bind fun t113 => (some t113)) else (some t112))) (fun k => ?_) (Ev.bind (f := fun k t112 => (if t112.toList = ([] : List UInt8) then ((speak_hex.f (IntKind.u64.wrap ((n : Int)))).bind fun t113 => (some t113)) else (some t112))) (named_bare h) ?_)
      · rw [speak_Csr.j0, if_neg (by simp)]
      · refine Ev.congr (fun k => ?_) (Ev.now _)
        rw [if_pos emptyL, hx, Option.bind_some]
  · refine Ev.congr (f := fun k => anvilref07_Csr.j0 k (n : Int) false) (fun k => ?_) (Ev.step (f := fun k => anvilref07_Csr.l0 k (n : Int) 0) (fun k => ?_) ?_)
    · unfold anvilref07_Csr.f
      rw [if_neg (by omega), decide_eq_false (by omega)]
    · rw [anvilref07_Csr.j0, if_neg (by simp)]
    · have lp : ∀ (d i : Nat), i + d = 24 → Ev (fun k => anvilref07_Csr.l0 k (n : Int) (i : Int)) ((⟨#[48, 120]⟩ : ByteArray) ++ ⟨(hexL n).toArray⟩) := by
        intro d
        induction d with
        | zero =>
          intro i hi
          refine Ev.step (f := fun k => (anvilref07_counted.f k (n : Int)).bind fun bt124 => (if bt124.2.2 = true then ((anvilref07_Decimal.f k bt124.2.1).bind fun t127 => (if bt124.1.size + t127.size ≤ 9223372036854775807 then (some (bt124.1 ++ t127)) else (none))) else ((anvilref07_Hex.f k (IntKind.u64.wrap ((n : Int)))).bind fun t128 => (if 2 + t128.size ≤ 9223372036854775807 then (some ((⟨#[48, 120]⟩ : ByteArray) ++ t128)) else (none))))) (fun k => ?_)
            (Ev.bind (f := fun k bt124 => (if bt124.2.2 = true then ((anvilref07_Decimal.f k bt124.2.1).bind fun t127 => (if bt124.1.size + t127.size ≤ 9223372036854775807 then (some (bt124.1 ++ t127)) else (none))) else ((anvilref07_Hex.f k (IntKind.u64.wrap ((n : Int)))).bind fun t128 => (if 2 + t128.size ≤ 9223372036854775807 then (some ((⟨#[48, 120]⟩ : ByteArray) ++ t128)) else (none))))) (counted_bare h) ?_)
          · rw [anvilref07_Csr.l0, if_neg (by omega)]
          · simp only [Bool.false_eq_true, if_false]
            rw [u64_small (x := (n : Int)) (by omega) (by omega)]
            refine Ev.bind (f := fun k t128 => (if 2 + t128.size ≤ 9223372036854775807 then (some ((⟨#[48, 120]⟩ : ByteArray) ++ t128)) else (none))) hh (Ev.congr (fun k => ?_) (Ev.now _))
            rw [if_pos (by omega)]
        | succ d ih =>
          intro i hi
          refine Ev.step (fun k => ?_) (ih (i + 1) (by omega))
          have hm := rd_own i (by omega)
          rw [anvilref07_Csr.l0, if_pos (by omega), if_pos (by omega), if_pos (by omega), if_neg (fun (e : rd glob1 (i : Int) = (n : Int)) => h.own (e ▸ hm)), w64 (by omega) (by omega)]
          rfl
      exact lp 24 0 (by omega)
theorem out_ (n : Int) (h : n < 0 ∨ 4095 < n) : anvillaw07_SpeakCsrs.f 1 n = some true := by
  unfold anvillaw07_SpeakCsrs.f speak_Csr.f anvilref07_Csr.f
  rcases h with h | h
  · rw [if_pos h, if_pos h, speak_Csr.j0, anvilref07_Csr.j0, if_pos rfl, if_pos rfl]
    simp only [Option.bind_some, beq_self_eq_true]
  · rw [if_neg (by omega), if_neg (by omega), decide_eq_true (by omega : n > 4095), speak_Csr.j0, anvilref07_Csr.j0, if_pos rfl, if_pos rfl]
    simp only [Option.bind_some, beq_self_eq_true]
theorem pureCsrs (a0 : Int) : ∃ k, anvillaw07_SpeakCsrs.f k a0 = some true := by
  by_cases h0 : a0 < 0 ∨ 4095 < a0
  · exact ⟨1, out_ a0 h0⟩
  · obtain ⟨n, rfl⟩ : ∃ n : Nat, a0 = n := ⟨a0.toNat, by omega⟩
    by_cases h1 : (n : Int) ∈ ownL
    · exact ⟨40, named_all _ h1⟩
    · by_cases h2 : 803 ≤ (n : Int) ∧ (n : Int) ≤ 831
      · have := row1 (n - 803) (by omega)
        rw [show (803 : Int) + ((n - 803 : Nat) : Int) = n by omega] at this
        exact ⟨40, this⟩
      · by_cases h3 : 944 ≤ (n : Int) ∧ (n : Int) ≤ 959
        · have := row2 (n - 944) (by omega)
          rw [show (944 : Int) + ((n - 944 : Nat) : Int) = n by omega] at this
          exact ⟨40, this⟩
        · by_cases h4 : 2819 ≤ (n : Int) ∧ (n : Int) ≤ 2847
          · have := row3 (n - 2819) (by omega)
            rw [show (2819 : Int) + ((n - 2819 : Nat) : Int) = n by omega] at this
            exact ⟨40, this⟩
          · by_cases h5 : 3075 ≤ (n : Int) ∧ (n : Int) ≤ 3103
            · have := row4 (n - 3075) (by omega)
              rw [show (3075 : Int) + ((n - 3075 : Nat) : Int) = n by omega] at this
              exact ⟨40, this⟩
            · obtain ⟨r, e1, e2⟩ := bare n (by omega) ⟨h1, h2, h3, h4, h5⟩
              refine Ev.rounds ?_
              unfold anvillaw07_SpeakCsrs.f
              refine Ev.bind (f := fun k t129 => ((anvilref07_Csr.f k (n : Int)).bind fun t130 => (some (t129.toList == t130.toList)))) e1 ?_
              refine Ev.bind (f := fun k t130 => (some (r.toList == t130.toList))) e2 ?_
              simp only [beq_self_eq_true]
              exact Ev.now _
end Go.Proofs.YtkcaebdhkodleaaDoor.PCsr
