/- strconv.ParseUint of digits, in base 10 and 16, 64 bits: the number, or a failure that is no nil error. -/
import Derived.Test.YtkcaebdhkodleaaDoorShelfNum
import Derived.Test.YtkcaebdhkodleaaDoorWWords
import Derived.Lib.Strings
import Derived.Lib.Walk
import Derived.Lib.ConvBytes
import Derived.Lib.AtoiAllMem
import Derived.Lib.Hide
import Derived.Laws.Strings3
import Derived.Laws.Closers25
import Derived.Laws.Closers25b
import Derived.WalkKit
import Derived.BigCall
import Derived.BigGuard
import Derived.Below
set_option linter.unusedVariables false
set_option linter.unusedSimpArgs false
namespace Go.Proofs.YtkcaebdhkodleaaDoor
open Go.RowKit Go.Lib Go.Shelf Go.Proofs.YtkcaebdhkodleaaDoorW.PrintWords

/-- A digit's value in base 16; 99: none. -/
def hexV (c : UInt8) : Nat := if 48 ≤ c.toNat ∧ c.toNat ≤ 57 then c.toNat - 48 else if 97 ≤ c.toNat ∧ c.toNat ≤ 102 then c.toNat - 87 else if 65 ≤ c.toNat ∧ c.toNat ≤ 70 then c.toNat - 55 else 99
/-- The number that digits spell behind acc; none: it is beyond 64 bits. -/
def mag (B : Nat) : Nat → List UInt8 → Option Nat
  | acc, [] => some acc
  | acc, c :: r => if 18446744073709551616 ≤ acc * B + hexV c then none else mag B (acc * B + hexV c) r
theorem lower_dig : ∀ n : Nat, n < 256 → 10 ≤ hexV (UInt8.ofNat n) → hexV (UInt8.ofNat n) < 16 → bits .or .u8 (n : Int) 32 = ((87 + hexV (UInt8.ofNat n) : Nat) : Int) ∧ (n ≠ 95) ∧ ¬ (48 ≤ n ∧ n ≤ 57) := by decide +kernel
theorem lower_c (m l : Nat) (h : bits .or .u8 (m : Int) 32 = (l : Int)) (w : World) : Calls Tryd.prog 46 #[.int .u8 (m : Int)] w fun e w' => e = .returned (.int .u8 (l : Int)) ∧ w' = w := by
  have := Any.internal_strconv_lower Tryd.laysLower (m : Int) w
  rw [h] at this
  exact this
def endOf (T : TypeId) : Option Nat → Value
  | some n => .tuple #[.int .u64 n, .nilIface]
  | none => .tuple #[.int .u64 18446744073709551615, .iface T (.int .i64 1)]
set_option maxHeartbeats 32000000 in
set_option maxRecDepth 100000 in
theorem pu16i (t : ByteArray) (hne : t.size ≠ 0) (hmax : t.size ≤ 9223372036854775806) (hall : ∀ c ∈ t.data.toList, hexV c < 16) (w : World) :
    Calls Tryd.prog 37 #[.string t, .int .i64 16, .int .i64 64] w fun e w' => e = .returned (endOf 79 (mag 16 0 t.data.toList)) ∧ w' = Lib.bytesWorld w 5 t := by
  have hemp : t.toList.isEmpty = false := by
    rw [← decide_eq_emptyBytes]
    exact decide_eq_false (fun h => hne (by rw [h]; rfl))
  have hcv := Lib.run_convert_string_bytes (P := Tryd.prog) w 9 46 5 t (u := .string) Tryd.underlying9 Tryd.underlying46 Tryd.underlying5
  have hB : ∀ j, j < t.size → (Lib.bytesWorld w 5 t).cell? ⟨w.heap.size, j, none⟩ = some (.int .u8 (t.data.toList.getD j 0).toNat) := fun j hj => Lib.bytesWorld_cell w 5 t j hj
  obtain ⟨W1, hW1⟩ : ∃ W1, W1 = Lib.bytesWorld w 5 t := ⟨_, rfl⟩
  rw [← hW1] at hcv hB ⊢
  clear hW1
  obtain ⟨bs, hL⟩ : ∃ bs, bs = t.data.toList := ⟨_, rfl⟩
  have hLn : bs.length = t.size := by rw [hL, Lib.size_eq]
  rw [← hL] at hB hall ⊢
  clear hL
  have HA := Lib.hid hall
  clear hall
  have hmv : IntKind.u64.wrap (IntKind.u64.wrap 18446744073709551616 - 1) = 18446744073709551615 := by
    rw [IntKind.wrap_u64, IntKind.wrap_u64]
    decide
  go_enter Tryd.func37, Tryd.ntmps37
  go_wp2
  go_loop [12, 13, 101] (fun vu vn vi => ∃ (k acc : Nat) (a : Int), vu = .bool false ∧ vn = .int .u64 a ∧ vi = .int .i64 k ∧ k ≤ t.size ∧ Hid (a = (acc : Int) ∧ acc < 18446744073709551616 ∧ mag 16 0 bs = mag 16 acc (bs.drop k)))
    (fun _ _ vi => t.size - (RowKit.intOf vi).toNat)
  case atStart => exact ⟨0, 0, 0, rfl, rfl, rfl, by omega, rfl, by omega, rfl⟩
  case round =>
    obtain ⟨k, acc, a, rfl, rfl, rfl, hk, hh⟩ := hrel
    obtain ⟨ha, hacc, hdec⟩ := hh.out
    clear hh
    have a0 : 0 ≤ a := by omega
    have a1 : a < 18446744073709551616 := by omega
    by_cases hkn : k < t.size
    · have hc := hB k hkn
      have hdrop : bs.drop k = bs[k]'(by omega) :: bs.drop (k + 1) := List.drop_eq_getElem_cons (by omega)
      have hget : bs.getD k 0 = bs[k]'(by omega) := by simp [List.getD, List.getElem?_eq_getElem (show k < bs.length by omega)]
      have hcV : hexV (bs[k]'(by omega)) < 16 := HA.out _ (List.getElem_mem _)
      rw [hdrop] at hdec
      rw [hget] at hc
      generalize bs[k]'(by omega) = c at hc hdec hcV
      have hc256 : c.toNat < 256 := c.toNat_lt
      obtain ⟨m, hm⟩ : ∃ m, c.toNat = m := ⟨_, rfl⟩
      have hcm : c = UInt8.ofNat m := by rw [← hm]; simp
      obtain ⟨d, hd⟩ : ∃ d, hexV c = d := ⟨_, rfl⟩
      rw [hd] at hcV
      have hlow : 10 ≤ d → bits .or .u8 (m : Int) 32 = ((87 + d : Nat) : Int) ∧ (m ≠ 95) ∧ ¬ (48 ≤ m ∧ m ≤ 57) := fun h => by
        have := lower_dig m (by omega) (by rw [← hcm, hd]; exact h) (by rw [← hcm, hd]; omega)
        rw [← hcm, hd] at this
        exact this
      have hdig : d < 10 → 48 ≤ m ∧ m ≤ 57 ∧ m = 48 + d := fun h => by
        unfold hexV at hd
        rw [hm] at hd
        split at hd
        · omega
        · split at hd
          · omega
          · split at hd <;> omega
      simp only [mag, hd] at hdec
      rw [hm] at hc
      rw [hm] at hc256
      clear hB hdrop hget hm hcm hd HA
      by_cases hcut : 1152921504606846976 ≤ acc
      · have hF : 18446744073709551616 ≤ acc * 16 + d := by omega
        rw [if_pos hF] at hdec
        have icut : 1152921504606846976 ≤ a := by omega
        clear hcut hacc hF ha
        by_cases h10 : d < 10
        · obtain ⟨hd0, hd1, rfl⟩ := hdig h10
          clear hlow hdig
          go_wp2
          go_ret2
          first | exact ⟨rfl, rfl⟩ | exact ⟨by rw [hdec]; rfl, rfl⟩
        · obtain ⟨hl, h95, h57⟩ := hlow (by omega)
          obtain ⟨l, hll⟩ : ∃ l, 87 + d = l := ⟨_, rfl⟩
          rw [hll] at hl
          obtain ⟨hl0, hl1⟩ : 97 ≤ l ∧ l ≤ 102 := by omega
          have hsub : (l : Int) - 97 + 10 = d := by omega
          have q95 : ((m : Int) == 95) = false := by (rw [beq_eq_false_iff_ne]; omega)
          have h10' : 10 ≤ d := by omega
          obtain h48 | h58 : m < 48 ∨ 57 < m := by omega
          all_goals
            clear hlow hdig hll h57 h95
            go_wp2_with (go_at_call 46; refine (lower_c m _ hl _).mono ?_; rintro e w' ⟨rfl, rfl⟩)
            go_ret2
            first | exact ⟨rfl, rfl⟩ | exact ⟨by rw [hdec]; rfl, rfl⟩
      · have hF : ¬ 18446744073709551616 ≤ acc * 16 + d := by omega
        rw [if_neg hF] at hdec
        have HN : Hid (a * 16 + (d : Int) = ((acc * 16 + d : Nat) : Int) ∧ acc * 16 + d < 18446744073709551616 ∧ mag 16 0 bs = mag 16 (acc * 16 + d) (bs.drop (k + 1))) := Lib.hid ⟨by omega, by omega, hdec⟩
        have icut : a < 1152921504606846976 := by omega
        have iov : a * 16 + (d : Int) < 18446744073709551616 := by omega
        clear hcut hacc hF hdec ha
        by_cases h10 : d < 10
        · obtain ⟨hd0, hd1, rfl⟩ := hdig h10
          clear hlow hdig
          go_wp2
          refine ⟨⟨k + 1, acc * 16 + d, a * 16 + (d : Int), rfl, (by first | rfl | (congr 1; omega)), (by first | rfl | (congr 1; omega)), by omega, HN⟩, by simp [RowKit.intOf]; omega⟩
        · obtain ⟨hl, h95, h57⟩ := hlow (by omega)
          obtain ⟨l, hll⟩ : ∃ l, 87 + d = l := ⟨_, rfl⟩
          rw [hll] at hl
          obtain ⟨hl0, hl1⟩ : 97 ≤ l ∧ l ≤ 102 := by omega
          have hsub : (l : Int) - 97 + 10 = d := by omega
          have q95 : ((m : Int) == 95) = false := by (rw [beq_eq_false_iff_ne]; omega)
          have h10' : 10 ≤ d := by omega
          obtain h48 | h58 : m < 48 ∨ 57 < m := by omega
          all_goals
            clear hlow hdig hll h57 h95
            go_wp2_with (go_at_call 46; refine (lower_c m _ hl _).mono ?_; rintro e w' ⟨rfl, rfl⟩)
            refine ⟨⟨k + 1, acc * 16 + d, a * 16 + (d : Int), rfl, (by first | rfl | (congr 1; omega)), (by first | rfl | (congr 1; omega)), by omega, HN⟩, by simp [RowKit.intOf]; omega⟩
    · have hkk : k = t.size := by omega
      subst hkk
      have hF : mag 16 acc (bs.drop t.size) = some acc := by rw [List.drop_eq_nil_of_le (by omega)]; rfl
      rw [hF] at hdec
      subst ha
      clear hacc hF a0 a1
      go_wp2
      go_ret2
      first | exact ⟨rfl, rfl⟩ | exact ⟨by rw [hdec]; rfl, rfl⟩

/-- What digits spell; none: no digit, or beyond 64 bits. -/
def numOf (B : Nat) (l : List UInt8) : Option Nat := if l = [] then none else mag B 0 l
theorem dec_is : ∀ (l : List UInt8) (acc : Nat), (∀ c ∈ l, hexV c < 10) → Lib.parseUint10 acc l = (match mag 10 acc l with | some n => .ok n | none => .range)
  | [], acc, _ => rfl
  | c :: r, acc, h => by
    have hc : hexV c < 10 := h c (by simp)
    have hd : 48 ≤ c.toNat ∧ c.toNat ≤ 57 ∧ hexV c = c.toNat - 48 := by
      unfold hexV at hc ⊢
      split at hc
      · rename_i h1
        exact ⟨h1.1, h1.2, by rw [if_pos h1]⟩
      · split at hc
        · omega
        · split at hc <;> omega
    obtain ⟨h0, h1, h2⟩ := hd
    simp only [Lib.parseUint10, mag, h0, h1, h2, and_self, if_true]
    by_cases h3 : 18446744073709551616 ≤ acc * 10 + (c.toNat - 48)
    · by_cases h4 : 1844674407370955162 ≤ acc
      · rw [if_pos h4, if_pos h3]
      · rw [if_neg h4, if_pos h3, if_pos h3]
    · rw [if_neg (by omega), if_neg h3, if_neg h3]
      exact dec_is r _ (fun x hx => h x (by simp [hx]))
def endI (B : Nat) (t : ByteArray) : Value := if t.size = 0 then .tuple #[.int .u64 0, .iface 79 (.int .i64 2)] else endOf 79 (mag B 0 t.data.toList)
set_option maxHeartbeats 8000000 in
set_option maxRecDepth 100000 in
theorem puI (B : Nat) (hB : B = 10 ∨ B = 16) (t : ByteArray) (hmax : t.size ≤ 281474976710656) (hall : ∀ c ∈ t.data.toList, hexV c < B) (w : World) :
    Calls Tryd.prog 37 #[.string t, .int .i64 (B : Int), .int .i64 64] w fun e w' => e = .returned (endI B t) ∧ Below w.heap.size w w' := by
  unfold endI
  by_cases h0 : t.size = 0
  · have ht : t = ⟨#[]⟩ := by
      obtain ⟨⟨l⟩⟩ := t
      cases l with
      | nil => rfl
      | cons _ _ => simp [ByteArray.size] at h0
    subst ht
    rw [if_pos h0]
    clear hall h0 hmax
    rcases hB with rfl | rfl
    · go_enter Tryd.func37, Tryd.ntmps37
      go_wp2
      go_ret2
      exact ⟨rfl, Below.refl _ _⟩
    · go_enter Tryd.func37, Tryd.ntmps37
      go_wp2
      go_ret2
      exact ⟨rfl, Below.refl _ _⟩
  · rw [if_neg h0]
    rcases hB with rfl | rfl
    · refine (Any.internal_strconv_ParseUint_10_b64 Tryd.laysPu t h0 (by omega) w).mono fun e w' ⟨he, hw⟩ => ⟨?_, by rw [hw]; exact bytes_below (Below.refl _ _) (Nat.le_refl _) _ _⟩
      rw [he, dec_is _ 0 hall]
      cases mag 10 0 t.data.toList <;> rfl
    · exact (pu16i t h0 (by omega) hall w).mono fun e w' ⟨he, hw⟩ => ⟨he, by rw [hw]; exact bytes_below (Below.refl _ _) (Nat.le_refl _) _ _⟩
/-- An error's variable. -/
def ErrAt (w : World) (g : Nat) : Prop := ∃ ev, w.cell? ⟨g, 0, none⟩ = some ev ∧ (ev = .nilIface ∨ ∃ te pe, ev = .iface te pe)
theorem ErrAt.below {w W : World} {g : Nat} (h : ErrAt w g) (hb : Below w.heap.size w W) : ErrAt W g := by
  obtain ⟨ev, h1, h2⟩ := h
  exact ⟨ev, pw_cell_below hb h1, h2⟩
def PuEnd (B : Nat) (l : List UInt8) (e : Ending) : Prop :=
  match numOf B l with
  | some n => e = .returned (.tuple #[.int .u64 n, .nilIface])
  | none => ∃ x T v, e = .returned (.tuple #[.int .u64 x, .iface T v])
set_option maxHeartbeats 8000000 in
set_option maxRecDepth 100000 in
theorem pu (B : Nat) (hB : B = 10 ∨ B = 16) (t : ByteArray) (hmax : t.size ≤ 281474976710656) (hall : ∀ c ∈ t.data.toList, hexV c < B) (w : World) (hS : ErrAt w 6) (hR : ErrAt w 7) :
    Calls Tryd.prog 31 #[.string t, .int .i64 (B : Int), .int .i64 64] w fun e w' => PuEnd B t.data.toList e ∧ Below w.heap.size w w' := by
  have cI := puI B hB t hmax hall w
  have cS : ∀ W, Below w.heap.size w W → Calls Tryd.prog 38 #[.string ⟨#[80, 97, 114, 115, 101, 85, 105, 110, 116]⟩, .string t, .int .i64 (B : Int), .int .i64 64, .iface 79 (.int .i64 2)] W fun e w' => ∃ T v, e = .returned (.iface T v) ∧ Below W.heap.size W w' := fun W hb => by
    obtain ⟨ev, h1, h2⟩ := hS.below hb
    refine (Any.strconv_toError_syntax Tryd.laysToErr _ t (B : Int) 64 ev W hmax h1 h2).mono ?_
    rintro e w' ⟨N, rfl, _, _, h3⟩
    exact ⟨_, _, rfl, h3⟩
  have cR : ∀ W, Below w.heap.size w W → Calls Tryd.prog 38 #[.string ⟨#[80, 97, 114, 115, 101, 85, 105, 110, 116]⟩, .string t, .int .i64 (B : Int), .int .i64 64, .iface 79 (.int .i64 1)] W fun e w' => ∃ T v, e = .returned (.iface T v) ∧ Below W.heap.size W w' := fun W hb => by
    obtain ⟨ev, h1, h2⟩ := hR.below hb
    refine (Any.strconv_toError_range Tryd.laysToErr _ t (B : Int) 64 ev W hmax h1 h2).mono ?_
    rintro e w' ⟨N, rfl, _, _, h3⟩
    exact ⟨_, _, rfl, h3⟩
  clear hS hR
  unfold PuEnd numOf
  unfold endI at cI
  by_cases h0 : t.size = 0
  · have hl : t.data.toList = [] := by
      have := Lib.size_eq t
      rw [h0] at this
      exact List.eq_nil_of_length_eq_zero this.symm
    rw [if_pos h0] at cI
    rw [if_pos hl]
    clear hall h0 hl hmax hB
    go_enter Tryd.func31, Tryd.ntmps31
    go_wp2_with (first | (go_at_call 37; refine cI.mono ?_; rintro e w1 ⟨rfl, hb1⟩) | (go_at_call 38; refine (cS _ hb1).mono ?_; rintro e w2 ⟨T, v, rfl, hb2⟩))
    go_ret2
    exact ⟨⟨_, _, _, rfl⟩, hb1.trans (hb2.mono hb1.size)⟩
  · have hl : ¬ t.data.toList = [] := fun h => h0 (by rw [Lib.size_eq, h]; rfl)
    rw [if_neg h0] at cI
    rw [if_neg hl]
    clear hall h0 hl hmax hB
    obtain ⟨M, hM⟩ : ∃ M, mag B 0 t.data.toList = M := ⟨_, rfl⟩
    rw [hM] at cI
    rw [hM]
    clear hM
    cases M with
    | some n =>
      simp only [endOf] at cI
      go_enter Tryd.func31, Tryd.ntmps31
      go_wp2_with (go_at_call 37; refine cI.mono ?_; rintro e w1 ⟨rfl, hb1⟩)
      go_ret2
      exact ⟨rfl, hb1⟩
    | none =>
      simp only [endOf] at cI
      go_enter Tryd.func31, Tryd.ntmps31
      go_wp2_with (first | (go_at_call 37; refine cI.mono ?_; rintro e w1 ⟨rfl, hb1⟩) | (go_at_call 38; refine (cR _ hb1).mono ?_; rintro e w2 ⟨T, v, rfl, hb2⟩))
      go_ret2
      exact ⟨⟨_, _, _, rfl⟩, hb1.trans (hb2.mono hb1.size)⟩
end Go.Proofs.YtkcaebdhkodleaaDoor
