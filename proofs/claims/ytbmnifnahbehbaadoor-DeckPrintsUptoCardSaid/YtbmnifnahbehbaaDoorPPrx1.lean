-- BY PROGRAM of this session (the kit's printer, turned by wip/tools/patch_print.py). Lean checks it.
import Derived.Test.YtbmnifnahbehbaaDoorPGr1
namespace Go.Proofs.YtbmnifnahbehbaaDoor.PPr
open Go.RowKit Go.Proofs.YtbmnifnahbehbaaDoorW.PrintWords Go.Proofs.YtbmnifnahbehbaaDoorW.PrintLast Go.Proofs.YtbmnifnahbehbaaDoorW.PrintMore
attribute [local go_sem] max2_int min2_int max_two min_two max_three min_three max_four min_four   -- for this text's walks alone
set_option linter.unusedVariables false
set_option linter.unusedSimpArgs false

/-! ### strconv_FormatUint_14: function 14 -/
def strconv_FormatUint_14.f (a0 : Int) (a1 : Int) : Option (ByteArray) := if 0 ≤ a0 ∧ a0 < 18446744073709551616 then (if a1 = 16 then some ⟨(hexL a0.toNat).toArray⟩ else if a1 = 10 then some ⟨(Lib.decDigits a0.toNat).toArray⟩ else none) else none
theorem strconv_FormatUint_14.calls (a0 : Int) (a1 : Int) (r : ByteArray) (w : World) (hG : Glob w) (h : strconv_FormatUint_14.f a0 a1 = some r) :
    Calls Tryd.prog 14 #[.int .u64 a0, .int .i64 a1] w fun e w' => e = .returned (.string r) ∧ Below w.heap.size w w' := by
  unfold strconv_FormatUint_14.f at h
  split at h
  · rename_i hc
    obtain ⟨h0, h1⟩ := hc
    obtain ⟨v, rfl⟩ := Int.eq_ofNat_of_zero_le h0
    simp only [Int.toNat_natCast] at h
    split at h
    · rename_i h16
      subst h16
      injection h with h
      subst h
      exact fu16 v (by omega) w hG
    · split at h
      · rename_i h10
        subst h10
        injection h with h
        subst h
        exact fu10 v (by omega) w hG
      · cases h
  · cases h

/-! ### deck_hex: function 11 -/
def deck_hex.f (a0 : Int) : Option (ByteArray) := (strconv_FormatUint_14.f a0 16).bind fun t101 => (if 2 + t101.size ≤ 9223372036854775807 then (some ((⟨#[48, 120]⟩ : ByteArray) ++ t101)) else (none))
set_option maxHeartbeats 8000000 in
set_option maxRecDepth 100000 in
theorem deck_hex.calls (a0 : Int) (r : ByteArray) (w : World) (hG : Glob w) (h : deck_hex.f a0 = some r) :
    Calls Tryd.prog 11 #[.int .u64 a0] w fun e w' => e = .returned (.string r) ∧ Below w.heap.size w w' := by
  have HG := Aside0.mk hG
  clear hG
  have HB := Aside0.mk (Below.refl w.heap.size w)
  have H : ((strconv_FormatUint_14.f a0 16).bind fun t101 => (if 2 + t101.size ≤ 9223372036854775807 then (some ((⟨#[48, 120]⟩ : ByteArray) ++ t101)) else (none))) = some r := h
  clear h
  replace H := Option.bind_eq_some_iff.mp H
  obtain ⟨t101, A20, H⟩ := H
  replace H : (if 2 + t101.size ≤ 9223372036854775807 then (some ((⟨#[48, 120]⟩ : ByteArray) ++ t101)) else (none)) = some r := H
  have A2 := Aside0.mk A20
  clear A20
  by_cases c3 : 2 + t101.size ≤ 9223372036854775807
  · rw [if_pos c3] at H
    have c3b0 := eq_true c3
    have c3b1 : decide (2 + t101.size ≤ 9223372036854775807) = true := decide_eq_true c3
    try have c3b2 : (9223372036854775807 < 2 + t101.size) = False := eq_false (Nat.not_lt.2 c3)
    obtain rfl := Option.some.inj H
    go_enter Tryd.func11, Tryd.ntmps11
    go_wp2_with (first | ((with_reducible refine gate_callee (f := 14) rfl ?_); refine goesL_ (some 4) rfl rfl Tryd.func14 (by kernel_rfl) rfl #[.int .u64 a0, .int .i64 16] rfl (by (try simp only [List.map_toArray, List.map_cons, List.map_nil]); first | done | rfl | (simp only [List.length_drop, List.length_take]; rfl)) ?_; (with_reducible refine (strconv_FormatUint_14.calls a0 16 t101 _ ?side1 A2.out).mono ?_); (case side1 => first | exact HG.out | exact Glob.step HG.out HB.out | (refine Glob.step HG.out ?_; (repeat (first | exact Below.refl _ _ | apply pw_below_drewN | apply below_drew1)); done) | exact Glob.step HG.out (by repeat (first | (with_reducible first | exact HB.out | apply below_alloc | apply pw_below_drewN | apply below_drew1) | exact HB.out))); rintro e w4 ⟨rfl, hb⟩; refine ⟨_, rfl, ?_⟩; have n0_ := Aside0.mk (below_step (by repeat (first | (with_reducible first | exact HB.out | apply below_alloc | apply pw_below_drewN | apply below_drew1) | exact HB.out)) hb); clear HB; have HB := n0_; clear n0_; (try clear hb); (try clear hb2); (try clear hk); (try clear hi)))
    go_ret
    exact ⟨by first | rfl | (simp [errW_none, errW_some] <;> rfl) | (simp [*, errW_none, errW_some] <;> rfl), by repeat (first | (with_reducible first | exact HB.out | apply below_alloc | apply pw_below_drewN | apply below_drew1) | exact HB.out)⟩
  · rw [if_neg c3] at H
    exact absurd H (by simp)

/-! ### strings_Fields: function 54 -/
def strings_Fields.f (a0 : ByteArray) : Option (List ByteArray) := if a0.size < 4294967281 ∧ (a0.data.toList.all fun b => decide (b.toNat < 128)) = true then some (fieldsL a0) else none
theorem strings_Fields.calls (a0 : ByteArray) (r : List ByteArray) (w : World) (hG : Glob w) (h : strings_Fields.f a0 = some r) :
    Calls Tryd.prog 54 #[.string a0] w fun e w' => ∃ v0_ : Value, e = .returned (v0_) ∧ Kd.R Kd.string 9 w' w.heap.size (fun _ => True) v0_ r ∧ Below w.heap.size w w' := by
  unfold strings_Fields.f at h
  split at h
  · rename_i hc
    injection h with h
    subst h
    exact fields_c a0 w hc.1 (fun b hb => of_decide_eq_true (List.all_eq_true.1 hc.2 b hb)) hG
  · cases h

/-! ### speak_Reg: function 34 -/
def speak_Reg.f (a0 : Int) : Option (ByteArray) := if a0 < 0 then (some (⟨#[]⟩ : ByteArray)) else (if a0 > 31 then (some (⟨#[]⟩ : ByteArray)) else ((strings_Fields.f (⟨#[122, 101, 114, 111, 32, 114, 97, 32, 115, 112, 32, 103, 112, 32, 116, 112, 32, 116, 48, 32, 116, 49, 32, 116, 50, 32, 115, 48, 32, 115, 49, 32, 97, 48, 32, 97, 49, 32, 97, 50, 32, 97, 51, 32, 97, 52, 32, 97, 53, 32, 97, 54, 32, 97, 55, 32, 115, 50, 32, 115, 51, 32, 115, 52, 32, 115, 53, 32, 115, 54, 32, 115, 55, 32, 115, 56, 32, 115, 57, 32, 115, 49, 48, 32, 115, 49, 49, 32, 116, 51, 32, 116, 52, 32, 116, 53, 32, 116, 54]⟩ : ByteArray)).bind fun t102 => (if 0 ≤ a0 then (if a0 < (t102.length : Int) then (some (rdOf ByteArray.empty t102 a0)) else (none)) else (none))))
set_option maxHeartbeats 8000000 in
set_option maxRecDepth 100000 in
theorem speak_Reg.calls (a0 : Int) (r : ByteArray) (w : World) (hG : Glob w) (h : speak_Reg.f a0 = some r) :
    Calls Tryd.prog 34 #[.int .i64 a0] w fun e w' => e = .returned (.string r) ∧ Below w.heap.size w w' := by
  have HG := Aside0.mk hG
  clear hG
  have HB := Aside0.mk (Below.refl w.heap.size w)
  have H : (if a0 < 0 then (some (⟨#[]⟩ : ByteArray)) else (if a0 > 31 then (some (⟨#[]⟩ : ByteArray)) else ((strings_Fields.f (⟨#[122, 101, 114, 111, 32, 114, 97, 32, 115, 112, 32, 103, 112, 32, 116, 112, 32, 116, 48, 32, 116, 49, 32, 116, 50, 32, 115, 48, 32, 115, 49, 32, 97, 48, 32, 97, 49, 32, 97, 50, 32, 97, 51, 32, 97, 52, 32, 97, 53, 32, 97, 54, 32, 97, 55, 32, 115, 50, 32, 115, 51, 32, 115, 52, 32, 115, 53, 32, 115, 54, 32, 115, 55, 32, 115, 56, 32, 115, 57, 32, 115, 49, 48, 32, 115, 49, 49, 32, 116, 51, 32, 116, 52, 32, 116, 53, 32, 116, 54]⟩ : ByteArray)).bind fun t102 => (if 0 ≤ a0 then (if a0 < (t102.length : Int) then (some (rdOf ByteArray.empty t102 a0)) else (none)) else (none))))) = some r := h
  clear h
  by_cases c2 : a0 < 0
  · rw [if_pos c2] at H
    have c2b0 : decide (a0 < 0) = true := decide_eq_true c2
    clear c2
    obtain rfl := Option.some.inj H
    go_enter Tryd.func34, Tryd.ntmps34
    go_wp2
    go_ret
    exact ⟨by first | rfl | (simp [errW_none, errW_some] <;> rfl) | (simp [*, errW_none, errW_some] <;> rfl), by repeat (first | (with_reducible first | exact HB.out | apply below_alloc | apply pw_below_drewN | apply below_drew1) | exact HB.out)⟩
  · rw [if_neg c2] at H
    have c2b0 : decide (a0 < 0) = false := decide_eq_false c2
    clear c2
    by_cases c3 : a0 > 31
    · rw [if_pos c3] at H
      have c3b0 : decide (31 < a0) = true := decide_eq_true c3
      clear c3
      obtain rfl := Option.some.inj H
      go_enter Tryd.func34, Tryd.ntmps34
      go_wp2
      go_ret
      exact ⟨by first | rfl | (simp [errW_none, errW_some] <;> rfl) | (simp [*, errW_none, errW_some] <;> rfl), by repeat (first | (with_reducible first | exact HB.out | apply below_alloc | apply pw_below_drewN | apply below_drew1) | exact HB.out)⟩
    · rw [if_neg c3] at H
      have c3b0 : decide (31 < a0) = false := decide_eq_false c3
      clear c3
      replace H := Option.bind_eq_some_iff.mp H
      obtain ⟨t102, A40, H⟩ := H
      replace H : (if 0 ≤ a0 then (if a0 < (t102.length : Int) then (some (rdOf ByteArray.empty t102 a0)) else (none)) else (none)) = some r := H
      have A4 := Aside0.mk A40
      clear A40
      by_cases c5 : 0 ≤ a0
      · rw [if_pos c5] at H
        have c5b0 : decide (0 ≤ a0) = true := decide_eq_true c5
        clear c5
        by_cases c6 : a0 < (t102.length : Int)
        · rw [if_pos c6] at H
          have c6b0 : decide (a0 < (t102.length : Int)) = true := decide_eq_true c6
          clear c6
          obtain rfl := Option.some.inj H
          go_enter Tryd.func34, Tryd.ntmps34
          go_wp2_with (first | ((with_reducible refine gate_callee (f := 54) rfl ?_); refine goesL_ (some 9) rfl rfl Tryd.func54 (by kernel_rfl) rfl #[.string (⟨#[122, 101, 114, 111, 32, 114, 97, 32, 115, 112, 32, 103, 112, 32, 116, 112, 32, 116, 48, 32, 116, 49, 32, 116, 50, 32, 115, 48, 32, 115, 49, 32, 97, 48, 32, 97, 49, 32, 97, 50, 32, 97, 51, 32, 97, 52, 32, 97, 53, 32, 97, 54, 32, 97, 55, 32, 115, 50, 32, 115, 51, 32, 115, 52, 32, 115, 53, 32, 115, 54, 32, 115, 55, 32, 115, 56, 32, 115, 57, 32, 115, 49, 48, 32, 115, 49, 49, 32, 116, 51, 32, 116, 52, 32, 116, 53, 32, 116, 54]⟩ : ByteArray)] rfl (by (try simp only [List.map_toArray, List.map_cons, List.map_nil]); first | done | rfl | (simp only [List.length_drop, List.length_take]; rfl)) ?_; (with_reducible refine (strings_Fields.calls (⟨#[122, 101, 114, 111, 32, 114, 97, 32, 115, 112, 32, 103, 112, 32, 116, 112, 32, 116, 48, 32, 116, 49, 32, 116, 50, 32, 115, 48, 32, 115, 49, 32, 97, 48, 32, 97, 49, 32, 97, 50, 32, 97, 51, 32, 97, 52, 32, 97, 53, 32, 97, 54, 32, 97, 55, 32, 115, 50, 32, 115, 51, 32, 115, 52, 32, 115, 53, 32, 115, 54, 32, 115, 55, 32, 115, 56, 32, 115, 57, 32, 115, 49, 48, 32, 115, 49, 49, 32, 116, 51, 32, 116, 52, 32, 116, 53, 32, 116, 54]⟩ : ByteArray) t102 _ ?side1 A4.out).mono ?_); (case side1 => first | exact HG.out | exact Glob.step HG.out HB.out | (refine Glob.step HG.out ?_; (repeat (first | exact Below.refl _ _ | apply pw_below_drewN | apply below_drew1)); done) | exact Glob.step HG.out (by repeat (first | (with_reducible first | exact HB.out | apply below_alloc | apply pw_below_drewN | apply below_drew1) | exact HB.out))); rintro e w7 ⟨v103, rfl, ho0, hb⟩; refine ⟨_, rfl, ?_⟩; have n0_ := Aside0.mk (Kd.R_lower ho0 (below_size (by repeat (first | (with_reducible first | exact HB.out | apply below_alloc | apply pw_below_drewN | apply below_drew1) | exact HB.out)))); have n1_ := Aside0.mk (below_step (by repeat (first | (with_reducible first | exact HB.out | apply below_alloc | apply pw_below_drewN | apply below_drew1) | exact HB.out)) hb); clear HB; have HO104 := n0_; have HB := n1_; clear n0_ n1_; (try clear hb); (try clear hb2); (try clear hk); (try clear hi); (try clear ho0); obtain ⟨Ao8, co8, eo8⟩ := Kd.R_slice HO104.out; subst eo8; have p105 : 0 ≤ (a0 : Int) := of_decide_eq_true (by first | (with_reducible assumption) | assumption); have q105 : a0 < (t102.length : Int) := of_decide_eq_true (by first | (with_reducible assumption) | assumption); obtain ⟨ad105, e105, hx105_0⟩ := Kd.at_string (Kd.R_reads' HO104.out).2.2 a0 p105 q105; cases e105; replace p105 := eq_true p105; replace q105 := eq_true q105))
          go_ret
          exact ⟨by first | rfl | (simp [errW_none, errW_some] <;> rfl) | (simp [*, errW_none, errW_some] <;> rfl), by repeat (first | (with_reducible first | exact HB.out | apply below_alloc | apply pw_below_drewN | apply below_drew1) | exact HB.out)⟩
        · rw [if_neg c6] at H
          exact absurd H (by simp)
      · rw [if_neg c5] at H
        exact absurd H (by simp)

/-! ### strconv_Itoa_10: function 10 -/
def strconv_Itoa_10.f (a0 : Int) : Option (ByteArray) := if -9223372036854775808 ≤ a0 ∧ a0 ≤ 9223372036854775807 then some (itoaB a0) else none
theorem strconv_Itoa_10.calls (a0 : Int) (r : ByteArray) (w : World) (hG : Glob w) (h : strconv_Itoa_10.f a0 = some r) :
    Calls Tryd.prog 10 #[.int .i64 a0] w fun e w' => e = .returned (.string r) ∧ Below w.heap.size w w' := by
  unfold strconv_Itoa_10.f at h
  split at h
  · rename_i hc
    injection h with h
    subst h
    exact itoa_c a0 hc.1 hc.2 w hG
  · cases h

/-! ### speak_own: function 68 -/
def speak_own.f (a0 : Int) : Option (ByteArray) := if a0 = 3857 then (some (⟨#[109, 118, 101, 110, 100, 111, 114, 105, 100]⟩ : ByteArray)) else (if a0 = 3858 then (some (⟨#[109, 97, 114, 99, 104, 105, 100]⟩ : ByteArray)) else (if a0 = 3859 then (some (⟨#[109, 105, 109, 112, 105, 100]⟩ : ByteArray)) else (if a0 = 3860 then (some (⟨#[109, 104, 97, 114, 116, 105, 100]⟩ : ByteArray)) else (if a0 = 3861 then (some (⟨#[109, 99, 111, 110, 102, 105, 103, 112, 116, 114]⟩ : ByteArray)) else (if a0 = 768 then (some (⟨#[109, 115, 116, 97, 116, 117, 115]⟩ : ByteArray)) else (if a0 = 769 then (some (⟨#[109, 105, 115, 97]⟩ : ByteArray)) else (if a0 = 772 then (some (⟨#[109, 105, 101]⟩ : ByteArray)) else (if a0 = 773 then (some (⟨#[109, 116, 118, 101, 99]⟩ : ByteArray)) else (if a0 = 774 then (some (⟨#[109, 99, 111, 117, 110, 116, 101, 114, 101, 110]⟩ : ByteArray)) else (if a0 = 778 then (some (⟨#[109, 101, 110, 118, 99, 102, 103]⟩ : ByteArray)) else (if a0 = 800 then (some (⟨#[109, 99, 111, 117, 110, 116, 105, 110, 104, 105, 98, 105, 116]⟩ : ByteArray)) else (if a0 = 832 then (some (⟨#[109, 115, 99, 114, 97, 116, 99, 104]⟩ : ByteArray)) else (if a0 = 833 then (some (⟨#[109, 101, 112, 99]⟩ : ByteArray)) else (if a0 = 834 then (some (⟨#[109, 99, 97, 117, 115, 101]⟩ : ByteArray)) else (if a0 = 835 then (some (⟨#[109, 116, 118, 97, 108]⟩ : ByteArray)) else (if a0 = 836 then (some (⟨#[109, 105, 112]⟩ : ByteArray)) else (if a0 = 928 then (some (⟨#[112, 109, 112, 99, 102, 103, 48]⟩ : ByteArray)) else (if a0 = 930 then (some (⟨#[112, 109, 112, 99, 102, 103, 50]⟩ : ByteArray)) else (if a0 = 2816 then (some (⟨#[109, 99, 121, 99, 108, 101]⟩ : ByteArray)) else (if a0 = 2818 then (some (⟨#[109, 105, 110, 115, 116, 114, 101, 116]⟩ : ByteArray)) else (if a0 = 3072 then (some (⟨#[99, 121, 99, 108, 101]⟩ : ByteArray)) else (if a0 = 3073 then (some (⟨#[116, 105, 109, 101]⟩ : ByteArray)) else (if a0 = 3074 then (some (⟨#[105, 110, 115, 116, 114, 101, 116]⟩ : ByteArray)) else (some (⟨#[]⟩ : ByteArray)))))))))))))))))))))))))
set_option maxHeartbeats 8000000 in
set_option maxRecDepth 100000 in
theorem speak_own.calls (a0 : Int) (r : ByteArray) (w : World) (h : speak_own.f a0 = some r) :
    Calls Tryd.prog 68 #[.int .i64 a0] w fun e w' => e = .returned (.string r) ∧ Drawn0 w w' := by
  have H : (if a0 = 3857 then (some (⟨#[109, 118, 101, 110, 100, 111, 114, 105, 100]⟩ : ByteArray)) else (if a0 = 3858 then (some (⟨#[109, 97, 114, 99, 104, 105, 100]⟩ : ByteArray)) else (if a0 = 3859 then (some (⟨#[109, 105, 109, 112, 105, 100]⟩ : ByteArray)) else (if a0 = 3860 then (some (⟨#[109, 104, 97, 114, 116, 105, 100]⟩ : ByteArray)) else (if a0 = 3861 then (some (⟨#[109, 99, 111, 110, 102, 105, 103, 112, 116, 114]⟩ : ByteArray)) else (if a0 = 768 then (some (⟨#[109, 115, 116, 97, 116, 117, 115]⟩ : ByteArray)) else (if a0 = 769 then (some (⟨#[109, 105, 115, 97]⟩ : ByteArray)) else (if a0 = 772 then (some (⟨#[109, 105, 101]⟩ : ByteArray)) else (if a0 = 773 then (some (⟨#[109, 116, 118, 101, 99]⟩ : ByteArray)) else (if a0 = 774 then (some (⟨#[109, 99, 111, 117, 110, 116, 101, 114, 101, 110]⟩ : ByteArray)) else (if a0 = 778 then (some (⟨#[109, 101, 110, 118, 99, 102, 103]⟩ : ByteArray)) else (if a0 = 800 then (some (⟨#[109, 99, 111, 117, 110, 116, 105, 110, 104, 105, 98, 105, 116]⟩ : ByteArray)) else (if a0 = 832 then (some (⟨#[109, 115, 99, 114, 97, 116, 99, 104]⟩ : ByteArray)) else (if a0 = 833 then (some (⟨#[109, 101, 112, 99]⟩ : ByteArray)) else (if a0 = 834 then (some (⟨#[109, 99, 97, 117, 115, 101]⟩ : ByteArray)) else (if a0 = 835 then (some (⟨#[109, 116, 118, 97, 108]⟩ : ByteArray)) else (if a0 = 836 then (some (⟨#[109, 105, 112]⟩ : ByteArray)) else (if a0 = 928 then (some (⟨#[112, 109, 112, 99, 102, 103, 48]⟩ : ByteArray)) else (if a0 = 930 then (some (⟨#[112, 109, 112, 99, 102, 103, 50]⟩ : ByteArray)) else (if a0 = 2816 then (some (⟨#[109, 99, 121, 99, 108, 101]⟩ : ByteArray)) else (if a0 = 2818 then (some (⟨#[109, 105, 110, 115, 116, 114, 101, 116]⟩ : ByteArray)) else (if a0 = 3072 then (some (⟨#[99, 121, 99, 108, 101]⟩ : ByteArray)) else (if a0 = 3073 then (some (⟨#[116, 105, 109, 101]⟩ : ByteArray)) else (if a0 = 3074 then (some (⟨#[105, 110, 115, 116, 114, 101, 116]⟩ : ByteArray)) else (some (⟨#[]⟩ : ByteArray)))))))))))))))))))))))))) = some r := h
  clear h
  by_cases c2 : a0 = 3857
  · rw [if_pos c2] at H
    have c2b0 : (a0 == 3857) = true := beq_iff_eq.mpr c2
    have c2b1 : (a0 != 3857) = false := bne_eq_false_iff_eq.mpr c2
    clear c2
    obtain rfl := Option.some.inj H
    go_enter Tryd.func68, Tryd.ntmps68
    go_wp2
    go_ret
    exact ⟨by first | rfl | (simp; done) | (simp only [i64_w, i32_w]; done) | (simp [i64_w, i32_w]; done) | (simp [*]; done), by repeat (first | exact Drawn0.refl _ | apply Drawn0.step)⟩
  · rw [if_neg c2] at H
    have c2b0 : (a0 == 3857) = false := beq_eq_false_iff_ne.mpr c2
    have c2b1 : (a0 != 3857) = true := bne_iff_ne.mpr c2
    by_cases c3 : a0 = 3858
    · rw [if_pos c3] at H
      have c3b0 : (a0 == 3858) = true := beq_iff_eq.mpr c3
      have c3b1 : (a0 != 3858) = false := bne_eq_false_iff_eq.mpr c3
      clear c3
      obtain rfl := Option.some.inj H
      go_enter Tryd.func68, Tryd.ntmps68
      go_wp2
      go_ret
      exact ⟨by first | rfl | (simp; done) | (simp only [i64_w, i32_w]; done) | (simp [i64_w, i32_w]; done) | (simp [*]; done), by repeat (first | exact Drawn0.refl _ | apply Drawn0.step)⟩
    · rw [if_neg c3] at H
      have c3b0 : (a0 == 3858) = false := beq_eq_false_iff_ne.mpr c3
      have c3b1 : (a0 != 3858) = true := bne_iff_ne.mpr c3
      by_cases c4 : a0 = 3859
      · rw [if_pos c4] at H
        have c4b0 : (a0 == 3859) = true := beq_iff_eq.mpr c4
        have c4b1 : (a0 != 3859) = false := bne_eq_false_iff_eq.mpr c4
        clear c4
        obtain rfl := Option.some.inj H
        go_enter Tryd.func68, Tryd.ntmps68
        go_wp2
        go_ret
        exact ⟨by first | rfl | (simp; done) | (simp only [i64_w, i32_w]; done) | (simp [i64_w, i32_w]; done) | (simp [*]; done), by repeat (first | exact Drawn0.refl _ | apply Drawn0.step)⟩
      · rw [if_neg c4] at H
        have c4b0 : (a0 == 3859) = false := beq_eq_false_iff_ne.mpr c4
        have c4b1 : (a0 != 3859) = true := bne_iff_ne.mpr c4
        by_cases c5 : a0 = 3860
        · rw [if_pos c5] at H
          have c5b0 : (a0 == 3860) = true := beq_iff_eq.mpr c5
          have c5b1 : (a0 != 3860) = false := bne_eq_false_iff_eq.mpr c5
          clear c5
          obtain rfl := Option.some.inj H
          go_enter Tryd.func68, Tryd.ntmps68
          go_wp2
          go_ret
          exact ⟨by first | rfl | (simp; done) | (simp only [i64_w, i32_w]; done) | (simp [i64_w, i32_w]; done) | (simp [*]; done), by repeat (first | exact Drawn0.refl _ | apply Drawn0.step)⟩
        · rw [if_neg c5] at H
          have c5b0 : (a0 == 3860) = false := beq_eq_false_iff_ne.mpr c5
          have c5b1 : (a0 != 3860) = true := bne_iff_ne.mpr c5
          by_cases c6 : a0 = 3861
          · rw [if_pos c6] at H
            have c6b0 : (a0 == 3861) = true := beq_iff_eq.mpr c6
            have c6b1 : (a0 != 3861) = false := bne_eq_false_iff_eq.mpr c6
            clear c6
            obtain rfl := Option.some.inj H
            go_enter Tryd.func68, Tryd.ntmps68
            go_wp2
            go_ret
            exact ⟨by first | rfl | (simp; done) | (simp only [i64_w, i32_w]; done) | (simp [i64_w, i32_w]; done) | (simp [*]; done), by repeat (first | exact Drawn0.refl _ | apply Drawn0.step)⟩
          · rw [if_neg c6] at H
            have c6b0 : (a0 == 3861) = false := beq_eq_false_iff_ne.mpr c6
            have c6b1 : (a0 != 3861) = true := bne_iff_ne.mpr c6
            by_cases c7 : a0 = 768
            · rw [if_pos c7] at H
              have c7b0 : (a0 == 768) = true := beq_iff_eq.mpr c7
              have c7b1 : (a0 != 768) = false := bne_eq_false_iff_eq.mpr c7
              clear c7
              obtain rfl := Option.some.inj H
              go_enter Tryd.func68, Tryd.ntmps68
              go_wp2
              go_ret
              exact ⟨by first | rfl | (simp; done) | (simp only [i64_w, i32_w]; done) | (simp [i64_w, i32_w]; done) | (simp [*]; done), by repeat (first | exact Drawn0.refl _ | apply Drawn0.step)⟩
            · rw [if_neg c7] at H
              have c7b0 : (a0 == 768) = false := beq_eq_false_iff_ne.mpr c7
              have c7b1 : (a0 != 768) = true := bne_iff_ne.mpr c7
              by_cases c8 : a0 = 769
              · rw [if_pos c8] at H
                have c8b0 : (a0 == 769) = true := beq_iff_eq.mpr c8
                have c8b1 : (a0 != 769) = false := bne_eq_false_iff_eq.mpr c8
                clear c8
                obtain rfl := Option.some.inj H
                go_enter Tryd.func68, Tryd.ntmps68
                go_wp2
                go_ret
                exact ⟨by first | rfl | (simp; done) | (simp only [i64_w, i32_w]; done) | (simp [i64_w, i32_w]; done) | (simp [*]; done), by repeat (first | exact Drawn0.refl _ | apply Drawn0.step)⟩
              · rw [if_neg c8] at H
                have c8b0 : (a0 == 769) = false := beq_eq_false_iff_ne.mpr c8
                have c8b1 : (a0 != 769) = true := bne_iff_ne.mpr c8
                by_cases c9 : a0 = 772
                · rw [if_pos c9] at H
                  have c9b0 : (a0 == 772) = true := beq_iff_eq.mpr c9
                  have c9b1 : (a0 != 772) = false := bne_eq_false_iff_eq.mpr c9
                  clear c9
                  obtain rfl := Option.some.inj H
                  go_enter Tryd.func68, Tryd.ntmps68
                  go_wp2
                  go_ret
                  exact ⟨by first | rfl | (simp; done) | (simp only [i64_w, i32_w]; done) | (simp [i64_w, i32_w]; done) | (simp [*]; done), by repeat (first | exact Drawn0.refl _ | apply Drawn0.step)⟩
                · rw [if_neg c9] at H
                  have c9b0 : (a0 == 772) = false := beq_eq_false_iff_ne.mpr c9
                  have c9b1 : (a0 != 772) = true := bne_iff_ne.mpr c9
                  by_cases c10 : a0 = 773
                  · rw [if_pos c10] at H
                    have c10b0 : (a0 == 773) = true := beq_iff_eq.mpr c10
                    have c10b1 : (a0 != 773) = false := bne_eq_false_iff_eq.mpr c10
                    clear c10
                    obtain rfl := Option.some.inj H
                    go_enter Tryd.func68, Tryd.ntmps68
                    go_wp2
                    go_ret
                    exact ⟨by first | rfl | (simp; done) | (simp only [i64_w, i32_w]; done) | (simp [i64_w, i32_w]; done) | (simp [*]; done), by repeat (first | exact Drawn0.refl _ | apply Drawn0.step)⟩
                  · rw [if_neg c10] at H
                    have c10b0 : (a0 == 773) = false := beq_eq_false_iff_ne.mpr c10
                    have c10b1 : (a0 != 773) = true := bne_iff_ne.mpr c10
                    by_cases c11 : a0 = 774
                    · rw [if_pos c11] at H
                      have c11b0 : (a0 == 774) = true := beq_iff_eq.mpr c11
                      have c11b1 : (a0 != 774) = false := bne_eq_false_iff_eq.mpr c11
                      clear c11
                      obtain rfl := Option.some.inj H
                      go_enter Tryd.func68, Tryd.ntmps68
                      go_wp2
                      go_ret
                      exact ⟨by first | rfl | (simp; done) | (simp only [i64_w, i32_w]; done) | (simp [i64_w, i32_w]; done) | (simp [*]; done), by repeat (first | exact Drawn0.refl _ | apply Drawn0.step)⟩
                    · rw [if_neg c11] at H
                      have c11b0 : (a0 == 774) = false := beq_eq_false_iff_ne.mpr c11
                      have c11b1 : (a0 != 774) = true := bne_iff_ne.mpr c11
                      by_cases c12 : a0 = 778
                      · rw [if_pos c12] at H
                        have c12b0 : (a0 == 778) = true := beq_iff_eq.mpr c12
                        have c12b1 : (a0 != 778) = false := bne_eq_false_iff_eq.mpr c12
                        clear c12
                        obtain rfl := Option.some.inj H
                        go_enter Tryd.func68, Tryd.ntmps68
                        go_wp2
                        go_ret
                        exact ⟨by first | rfl | (simp; done) | (simp only [i64_w, i32_w]; done) | (simp [i64_w, i32_w]; done) | (simp [*]; done), by repeat (first | exact Drawn0.refl _ | apply Drawn0.step)⟩
                      · rw [if_neg c12] at H
                        have c12b0 : (a0 == 778) = false := beq_eq_false_iff_ne.mpr c12
                        have c12b1 : (a0 != 778) = true := bne_iff_ne.mpr c12
                        by_cases c13 : a0 = 800
                        · rw [if_pos c13] at H
                          have c13b0 : (a0 == 800) = true := beq_iff_eq.mpr c13
                          have c13b1 : (a0 != 800) = false := bne_eq_false_iff_eq.mpr c13
                          clear c13
                          obtain rfl := Option.some.inj H
                          go_enter Tryd.func68, Tryd.ntmps68
                          go_wp2
                          go_ret
                          exact ⟨by first | rfl | (simp; done) | (simp only [i64_w, i32_w]; done) | (simp [i64_w, i32_w]; done) | (simp [*]; done), by repeat (first | exact Drawn0.refl _ | apply Drawn0.step)⟩
                        · rw [if_neg c13] at H
                          have c13b0 : (a0 == 800) = false := beq_eq_false_iff_ne.mpr c13
                          have c13b1 : (a0 != 800) = true := bne_iff_ne.mpr c13
                          by_cases c14 : a0 = 832
                          · rw [if_pos c14] at H
                            have c14b0 : (a0 == 832) = true := beq_iff_eq.mpr c14
                            have c14b1 : (a0 != 832) = false := bne_eq_false_iff_eq.mpr c14
                            clear c14
                            obtain rfl := Option.some.inj H
                            go_enter Tryd.func68, Tryd.ntmps68
                            go_wp2
                            go_ret
                            exact ⟨by first | rfl | (simp; done) | (simp only [i64_w, i32_w]; done) | (simp [i64_w, i32_w]; done) | (simp [*]; done), by repeat (first | exact Drawn0.refl _ | apply Drawn0.step)⟩
                          · rw [if_neg c14] at H
                            have c14b0 : (a0 == 832) = false := beq_eq_false_iff_ne.mpr c14
                            have c14b1 : (a0 != 832) = true := bne_iff_ne.mpr c14
                            by_cases c15 : a0 = 833
                            · rw [if_pos c15] at H
                              have c15b0 : (a0 == 833) = true := beq_iff_eq.mpr c15
                              have c15b1 : (a0 != 833) = false := bne_eq_false_iff_eq.mpr c15
                              clear c15
                              obtain rfl := Option.some.inj H
                              go_enter Tryd.func68, Tryd.ntmps68
                              go_wp2
                              go_ret
                              exact ⟨by first | rfl | (simp; done) | (simp only [i64_w, i32_w]; done) | (simp [i64_w, i32_w]; done) | (simp [*]; done), by repeat (first | exact Drawn0.refl _ | apply Drawn0.step)⟩
                            · rw [if_neg c15] at H
                              have c15b0 : (a0 == 833) = false := beq_eq_false_iff_ne.mpr c15
                              have c15b1 : (a0 != 833) = true := bne_iff_ne.mpr c15
                              by_cases c16 : a0 = 834
                              · rw [if_pos c16] at H
                                have c16b0 : (a0 == 834) = true := beq_iff_eq.mpr c16
                                have c16b1 : (a0 != 834) = false := bne_eq_false_iff_eq.mpr c16
                                clear c16
                                obtain rfl := Option.some.inj H
                                go_enter Tryd.func68, Tryd.ntmps68
                                go_wp2
                                go_ret
                                exact ⟨by first | rfl | (simp; done) | (simp only [i64_w, i32_w]; done) | (simp [i64_w, i32_w]; done) | (simp [*]; done), by repeat (first | exact Drawn0.refl _ | apply Drawn0.step)⟩
                              · rw [if_neg c16] at H
                                have c16b0 : (a0 == 834) = false := beq_eq_false_iff_ne.mpr c16
                                have c16b1 : (a0 != 834) = true := bne_iff_ne.mpr c16
                                by_cases c17 : a0 = 835
                                · rw [if_pos c17] at H
                                  have c17b0 : (a0 == 835) = true := beq_iff_eq.mpr c17
                                  have c17b1 : (a0 != 835) = false := bne_eq_false_iff_eq.mpr c17
                                  clear c17
                                  obtain rfl := Option.some.inj H
                                  go_enter Tryd.func68, Tryd.ntmps68
                                  go_wp2
                                  go_ret
                                  exact ⟨by first | rfl | (simp; done) | (simp only [i64_w, i32_w]; done) | (simp [i64_w, i32_w]; done) | (simp [*]; done), by repeat (first | exact Drawn0.refl _ | apply Drawn0.step)⟩
                                · rw [if_neg c17] at H
                                  have c17b0 : (a0 == 835) = false := beq_eq_false_iff_ne.mpr c17
                                  have c17b1 : (a0 != 835) = true := bne_iff_ne.mpr c17
                                  by_cases c18 : a0 = 836
                                  · rw [if_pos c18] at H
                                    have c18b0 : (a0 == 836) = true := beq_iff_eq.mpr c18
                                    have c18b1 : (a0 != 836) = false := bne_eq_false_iff_eq.mpr c18
                                    clear c18
                                    obtain rfl := Option.some.inj H
                                    go_enter Tryd.func68, Tryd.ntmps68
                                    go_wp2
                                    go_ret
                                    exact ⟨by first | rfl | (simp; done) | (simp only [i64_w, i32_w]; done) | (simp [i64_w, i32_w]; done) | (simp [*]; done), by repeat (first | exact Drawn0.refl _ | apply Drawn0.step)⟩
                                  · rw [if_neg c18] at H
                                    have c18b0 : (a0 == 836) = false := beq_eq_false_iff_ne.mpr c18
                                    have c18b1 : (a0 != 836) = true := bne_iff_ne.mpr c18
                                    by_cases c19 : a0 = 928
                                    · rw [if_pos c19] at H
                                      have c19b0 : (a0 == 928) = true := beq_iff_eq.mpr c19
                                      have c19b1 : (a0 != 928) = false := bne_eq_false_iff_eq.mpr c19
                                      clear c19
                                      obtain rfl := Option.some.inj H
                                      go_enter Tryd.func68, Tryd.ntmps68
                                      go_wp2
                                      go_ret
                                      exact ⟨by first | rfl | (simp; done) | (simp only [i64_w, i32_w]; done) | (simp [i64_w, i32_w]; done) | (simp [*]; done), by repeat (first | exact Drawn0.refl _ | apply Drawn0.step)⟩
                                    · rw [if_neg c19] at H
                                      have c19b0 : (a0 == 928) = false := beq_eq_false_iff_ne.mpr c19
                                      have c19b1 : (a0 != 928) = true := bne_iff_ne.mpr c19
                                      by_cases c20 : a0 = 930
                                      · rw [if_pos c20] at H
                                        have c20b0 : (a0 == 930) = true := beq_iff_eq.mpr c20
                                        have c20b1 : (a0 != 930) = false := bne_eq_false_iff_eq.mpr c20
                                        clear c20
                                        obtain rfl := Option.some.inj H
                                        go_enter Tryd.func68, Tryd.ntmps68
                                        go_wp2
                                        go_ret
                                        exact ⟨by first | rfl | (simp; done) | (simp only [i64_w, i32_w]; done) | (simp [i64_w, i32_w]; done) | (simp [*]; done), by repeat (first | exact Drawn0.refl _ | apply Drawn0.step)⟩
                                      · rw [if_neg c20] at H
                                        have c20b0 : (a0 == 930) = false := beq_eq_false_iff_ne.mpr c20
                                        have c20b1 : (a0 != 930) = true := bne_iff_ne.mpr c20
                                        by_cases c21 : a0 = 2816
                                        · rw [if_pos c21] at H
                                          have c21b0 : (a0 == 2816) = true := beq_iff_eq.mpr c21
                                          have c21b1 : (a0 != 2816) = false := bne_eq_false_iff_eq.mpr c21
                                          clear c21
                                          obtain rfl := Option.some.inj H
                                          go_enter Tryd.func68, Tryd.ntmps68
                                          go_wp2
                                          go_ret
                                          exact ⟨by first | rfl | (simp; done) | (simp only [i64_w, i32_w]; done) | (simp [i64_w, i32_w]; done) | (simp [*]; done), by repeat (first | exact Drawn0.refl _ | apply Drawn0.step)⟩
                                        · rw [if_neg c21] at H
                                          have c21b0 : (a0 == 2816) = false := beq_eq_false_iff_ne.mpr c21
                                          have c21b1 : (a0 != 2816) = true := bne_iff_ne.mpr c21
                                          by_cases c22 : a0 = 2818
                                          · rw [if_pos c22] at H
                                            have c22b0 : (a0 == 2818) = true := beq_iff_eq.mpr c22
                                            have c22b1 : (a0 != 2818) = false := bne_eq_false_iff_eq.mpr c22
                                            clear c22
                                            obtain rfl := Option.some.inj H
                                            go_enter Tryd.func68, Tryd.ntmps68
                                            go_wp2
                                            go_ret
                                            exact ⟨by first | rfl | (simp; done) | (simp only [i64_w, i32_w]; done) | (simp [i64_w, i32_w]; done) | (simp [*]; done), by repeat (first | exact Drawn0.refl _ | apply Drawn0.step)⟩
                                          · rw [if_neg c22] at H
                                            have c22b0 : (a0 == 2818) = false := beq_eq_false_iff_ne.mpr c22
                                            have c22b1 : (a0 != 2818) = true := bne_iff_ne.mpr c22
                                            by_cases c23 : a0 = 3072
                                            · rw [if_pos c23] at H
                                              have c23b0 : (a0 == 3072) = true := beq_iff_eq.mpr c23
                                              have c23b1 : (a0 != 3072) = false := bne_eq_false_iff_eq.mpr c23
                                              clear c23
                                              obtain rfl := Option.some.inj H
                                              go_enter Tryd.func68, Tryd.ntmps68
                                              go_wp2
                                              go_ret
                                              exact ⟨by first | rfl | (simp; done) | (simp only [i64_w, i32_w]; done) | (simp [i64_w, i32_w]; done) | (simp [*]; done), by repeat (first | exact Drawn0.refl _ | apply Drawn0.step)⟩
                                            · rw [if_neg c23] at H
                                              have c23b0 : (a0 == 3072) = false := beq_eq_false_iff_ne.mpr c23
                                              have c23b1 : (a0 != 3072) = true := bne_iff_ne.mpr c23
                                              by_cases c24 : a0 = 3073
                                              · rw [if_pos c24] at H
                                                have c24b0 : (a0 == 3073) = true := beq_iff_eq.mpr c24
                                                have c24b1 : (a0 != 3073) = false := bne_eq_false_iff_eq.mpr c24
                                                clear c24
                                                obtain rfl := Option.some.inj H
                                                go_enter Tryd.func68, Tryd.ntmps68
                                                go_wp2
                                                go_ret
                                                exact ⟨by first | rfl | (simp; done) | (simp only [i64_w, i32_w]; done) | (simp [i64_w, i32_w]; done) | (simp [*]; done), by repeat (first | exact Drawn0.refl _ | apply Drawn0.step)⟩
                                              · rw [if_neg c24] at H
                                                have c24b0 : (a0 == 3073) = false := beq_eq_false_iff_ne.mpr c24
                                                have c24b1 : (a0 != 3073) = true := bne_iff_ne.mpr c24
                                                by_cases c25 : a0 = 3074
                                                · rw [if_pos c25] at H
                                                  have c25b0 : (a0 == 3074) = true := beq_iff_eq.mpr c25
                                                  have c25b1 : (a0 != 3074) = false := bne_eq_false_iff_eq.mpr c25
                                                  clear c25
                                                  obtain rfl := Option.some.inj H
                                                  go_enter Tryd.func68, Tryd.ntmps68
                                                  go_wp2
                                                  go_ret
                                                  exact ⟨by first | rfl | (simp; done) | (simp only [i64_w, i32_w]; done) | (simp [i64_w, i32_w]; done) | (simp [*]; done), by repeat (first | exact Drawn0.refl _ | apply Drawn0.step)⟩
                                                · rw [if_neg c25] at H
                                                  have c25b0 : (a0 == 3074) = false := beq_eq_false_iff_ne.mpr c25
                                                  have c25b1 : (a0 != 3074) = true := bne_iff_ne.mpr c25
                                                  obtain rfl := Option.some.inj H
                                                  go_enter Tryd.func68, Tryd.ntmps68
                                                  go_wp2
                                                  go_ret
                                                  exact ⟨by first | rfl | (simp; done) | (simp only [i64_w, i32_w]; done) | (simp [i64_w, i32_w]; done) | (simp [*]; done), by repeat (first | exact Drawn0.refl _ | apply Drawn0.step)⟩

/-! ### speak_rows: function 69 -/
def speak_rows.f  : Option ((List (S117))) := some (([(⟨(⟨#[109, 104, 112, 109, 101, 118, 101, 110, 116]⟩ : ByteArray), 803, 3, 831⟩ : S117), (⟨(⟨#[112, 109, 112, 97, 100, 100, 114]⟩ : ByteArray), 944, 0, 959⟩ : S117), (⟨(⟨#[109, 104, 112, 109, 99, 111, 117, 110, 116, 101, 114]⟩ : ByteArray), 2819, 3, 2847⟩ : S117), (⟨(⟨#[104, 112, 109, 99, 111, 117, 110, 116, 101, 114]⟩ : ByteArray), 3075, 3, 3103⟩ : S117)] : List (S117)))
set_option maxHeartbeats 8000000 in
set_option maxRecDepth 100000 in
theorem speak_rows.calls  (r : List (S117)) (w : World) (h : speak_rows.f  = some r) :
    Calls Tryd.prog 69 #[] w fun e w' => ∃ v0_ : Value, e = .returned (v0_) ∧ Kd.R k117 117 w' w.heap.size (fun _ => True) v0_ r ∧ Below w.heap.size w w' := by
  have hu117 := Tryd.underlying117
  have HB := Aside0.mk (Below.refl w.heap.size w)
  have H : (some (([(⟨(⟨#[109, 104, 112, 109, 101, 118, 101, 110, 116]⟩ : ByteArray), 803, 3, 831⟩ : S117), (⟨(⟨#[112, 109, 112, 97, 100, 100, 114]⟩ : ByteArray), 944, 0, 959⟩ : S117), (⟨(⟨#[109, 104, 112, 109, 99, 111, 117, 110, 116, 101, 114]⟩ : ByteArray), 2819, 3, 2847⟩ : S117), (⟨(⟨#[104, 112, 109, 99, 111, 117, 110, 116, 101, 114]⟩ : ByteArray), 3075, 3, 3103⟩ : S117)] : List (S117)))) = some r := h
  clear h
  obtain ⟨y106, hy106⟩ : ∃ y_ : List (S117), y_ = (([(⟨(⟨#[109, 104, 112, 109, 101, 118, 101, 110, 116]⟩ : ByteArray), 803, 3, 831⟩ : S117), (⟨(⟨#[112, 109, 112, 97, 100, 100, 114]⟩ : ByteArray), 944, 0, 959⟩ : S117), (⟨(⟨#[109, 104, 112, 109, 99, 111, 117, 110, 116, 101, 114]⟩ : ByteArray), 2819, 3, 2847⟩ : S117), (⟨(⟨#[104, 112, 109, 99, 111, 117, 110, 116, 101, 114]⟩ : ByteArray), 3075, 3, 3103⟩ : S117)] : List (S117))) := ⟨_, rfl⟩
  replace H : (some y106) = some r := by first | (rw [hy106]; with_reducible exact H) | (have H2_ := (Option.bind_some _ _).symm.trans H; rw [hy106]; with_reducible exact H2_) | (have H2_ := (Option.bind_some _ _).symm.trans H; with_reducible exact H2_) | with_reducible exact H | (rw [hy106]; exact H) | exact H
  have Ny106 := Aside0.mk hy106
  clear hy106
  obtain rfl := Option.some.inj H
  go_enter Tryd.func69, Tryd.ntmps69
  go_wp2_with (first | ((with_reducible refine gate_dst (N := 5) rfl ?_); refine Kd.R_lit k117 _ 117 ?hg (N := 5) ?hd (xs := ([(⟨(⟨#[109, 104, 112, 109, 101, 118, 101, 110, 116]⟩ : ByteArray), 803, 3, 831⟩ : S117), (⟨(⟨#[112, 109, 112, 97, 100, 100, 114]⟩ : ByteArray), 944, 0, 959⟩ : S117), (⟨(⟨#[109, 104, 112, 109, 99, 111, 117, 110, 116, 101, 114]⟩ : ByteArray), 2819, 3, 2847⟩ : S117), (⟨(⟨#[104, 112, 109, 99, 111, 117, 110, 116, 101, 114]⟩ : ByteArray), 3075, 3, 3103⟩ : S117)] : List (S117))) (inner := [.string (⟨#[109, 104, 112, 109, 101, 118, 101, 110, 116]⟩ : ByteArray), .int .i64 803, .int .i64 3, .int .i64 831, .string (⟨#[112, 109, 112, 97, 100, 100, 114]⟩ : ByteArray), .int .i64 944, .int .i64 0, .int .i64 959, .string (⟨#[109, 104, 112, 109, 99, 111, 117, 110, 116, 101, 114]⟩ : ByteArray), .int .i64 2819, .int .i64 3, .int .i64 2847, .string (⟨#[104, 112, 109, 99, 111, 117, 110, 116, 101, 114]⟩ : ByteArray), .int .i64 3075, .int .i64 3, .int .i64 3103]) (ok := fun _ => True) (okp := fun _ => True) ?hr ?hp (fun _ hk => hk) trivial (Below.refl _ _) (Nat.le_refl _) (by simp) ?_; (case hd => rfl); (case hg => rfl); (case hr => first | (go_simp; done) | (go_simp; rfl)); (case hp => exact (Reps.c4 (show Kd.M k117 _ _ _ (⟨(⟨#[109, 104, 112, 109, 101, 118, 101, 110, 116]⟩ : ByteArray), 803, 3, 831⟩ : S117) [.string (⟨#[109, 104, 112, 109, 101, 118, 101, 110, 116]⟩ : ByteArray), .int .i64 803, .int .i64 3, .int .i64 831] from (k117_mkM _ _ _ (⟨(⟨#[109, 104, 112, 109, 101, 118, 101, 110, 116]⟩ : ByteArray), 803, 3, 831⟩ : S117) )) (Reps.c4 (show Kd.M k117 _ _ _ (⟨(⟨#[112, 109, 112, 97, 100, 100, 114]⟩ : ByteArray), 944, 0, 959⟩ : S117) [.string (⟨#[112, 109, 112, 97, 100, 100, 114]⟩ : ByteArray), .int .i64 944, .int .i64 0, .int .i64 959] from (k117_mkM _ _ _ (⟨(⟨#[112, 109, 112, 97, 100, 100, 114]⟩ : ByteArray), 944, 0, 959⟩ : S117) )) (Reps.c4 (show Kd.M k117 _ _ _ (⟨(⟨#[109, 104, 112, 109, 99, 111, 117, 110, 116, 101, 114]⟩ : ByteArray), 2819, 3, 2847⟩ : S117) [.string (⟨#[109, 104, 112, 109, 99, 111, 117, 110, 116, 101, 114]⟩ : ByteArray), .int .i64 2819, .int .i64 3, .int .i64 2847] from (k117_mkM _ _ _ (⟨(⟨#[109, 104, 112, 109, 99, 111, 117, 110, 116, 101, 114]⟩ : ByteArray), 2819, 3, 2847⟩ : S117) )) (Reps.c4 (show Kd.M k117 _ _ _ (⟨(⟨#[104, 112, 109, 99, 111, 117, 110, 116, 101, 114]⟩ : ByteArray), 3075, 3, 3103⟩ : S117) [.string (⟨#[104, 112, 109, 99, 111, 117, 110, 116, 101, 114]⟩ : ByteArray), .int .i64 3075, .int .i64 3, .int .i64 3103] from (k117_mkM _ _ _ (⟨(⟨#[104, 112, 109, 99, 111, 117, 110, 116, 101, 114]⟩ : ByteArray), 3075, 3, 3103⟩ : S117) )) (Reps.none _ _)))))); intro v107 w1 ho2 hb hg_ hnew_; clear hg_ hnew_; (first | rw [← Ny106.out] at ho2 | (simp only [Int.reduceToNat] at ho2; rw [← Ny106.out] at ho2)); have n0_ := Aside0.mk (Kd.R_lower ho2 (below_size (by repeat (first | (with_reducible first | exact HB.out | apply below_alloc | apply pw_below_drewN | apply below_drew1) | exact HB.out)))); have n1_ := Aside0.mk (below_step (by repeat (first | (with_reducible first | exact HB.out | apply below_alloc | apply pw_below_drewN | apply below_drew1) | exact HB.out)) hb); clear HB; have HO108 := n0_; have HB := n1_; clear n0_ n1_; clear hb ho2))
  go_ret
  exact ⟨_, by first | rfl | (simp [errW_none, errW_some] <;> rfl) | (simp [*, errW_none, errW_some] <;> rfl), by (with_reducible repeat (first | apply Kd.R_alloc | apply Kd.R_drewN | apply Kd.R_drew)); exact HO108.out, by repeat (first | (with_reducible first | exact HB.out | apply below_alloc | apply pw_below_drewN | apply below_drew1) | exact HB.out)⟩

/-! ### speak_named: function 55 -/
def speak_named.l0 : Nat → Int → List (S117) → Int → Int → Option (ByteArray)
  | 0, _, _, _, _ => none
  | k + 1, x0, x11, x12, x13 => if x13 < x12 then (if 0 ≤ x13 then (if x13 < (x11.length : Int) then (if x0 ≥ ((rd_T117 x11 x13).f1) then (if x0 ≤ ((rd_T117 x11 x13).f3) then ((strconv_Itoa_10.f (wrap64 ((wrap64 (x0 - ((rd_T117 x11 x13).f1))) + ((rd_T117 x11 x13).f2)))).bind fun t115 => (if ((rd_T117 x11 x13).f0).size + t115.size ≤ 9223372036854775807 then (some (((rd_T117 x11 x13).f0) ++ t115)) else (none))) else (speak_named.l0 k x0 x11 x12 (wrap64 (x13 + 1)))) else (speak_named.l0 k x0 x11 x12 (wrap64 (x13 + 1)))) else (none)) else (none)) else (some (⟨#[]⟩ : ByteArray))
def speak_named.f (k : Nat) (a0 : Int) : Option (ByteArray) := (speak_own.f a0).bind fun t109 => (if t109.toList = ([] : List UInt8) then ((speak_rows.f).bind fun t110 => (speak_named.l0 k a0 t110 (t110.length : Int) 0)) else (some t109))
theorem speak_named.mono_l : ∀ k, (∀ y0 y1 y2 y3, LeO (speak_named.l0 k y0 y1 y2 y3) (speak_named.l0 (k + 1) y0 y1 y2 y3))
  | 0 => fun _ _ _ _ r h => by simp [speak_named.l0] at h
  | k + 1 => by
    have ih0 := speak_named.mono_l k
    · intro y0 y1 y2 y3
      unfold speak_named.l0
      repeat' first
      | (with_reducible exact ih0 _ _ _ _)
      | (with_reducible exact LeO.refl _)
      | (with_reducible exact LeO.none _)
      | (with_reducible refine LeO.ite ?_ ?_)
      | (with_reducible refine LeO.bind ?_ (fun _ => ?_))
      | exact ih0 _ _ _ _
      | exact LeO.none _
      | refine LeO.ite ?_ ?_
      | refine LeO.bind ?_ (fun _ => ?_)
theorem speak_named.mono : ∀ a0 k, LeO (speak_named.f k a0) (speak_named.f (k + 1) a0) := by
  intro a0 k
  have ih0 := speak_named.mono_l k
  unfold speak_named.f
  repeat' first
      | (with_reducible exact ih0 _ _ _ _)
      | (with_reducible exact LeO.refl _)
      | (with_reducible exact LeO.none _)
      | (with_reducible refine LeO.ite ?_ ?_)
      | (with_reducible refine LeO.bind ?_ (fun _ => ?_))
      | exact ih0 _ _ _ _
      | exact LeO.none _
      | refine LeO.ite ?_ ?_
      | refine LeO.bind ?_ (fun _ => ?_)
def speak_named.T8 : Bool × List (List Nat × List Nat) := (true, [([], []), ([0], [0]), ([], []), ([], []), ([3], [3]), ([2, 4], [2, 4]), ([], []), ([6], [6]), ([5, 7], [5, 7]), ([8], [8]), ([1, 9], [1, 9]), ([10, 9, 0, 1, 2, 3, 4, 5, 6, 7, 8, 9, 10], [10])])
def speak_named.B8 : List Nat := [0, 1, 0, 0, 8, 28, 0, 64, 252, 508, 1023, 2047]
theorem speak_named.tab8 : rtab .any (opsOf Tryd.f55 8) = speak_named.T8 := by kernel_rfl
theorem speak_named.bits8 : waitsOk speak_named.T8.2 speak_named.B8 = true := by kernel_rfl
set_option maxHeartbeats 8000000 in
set_option maxRecDepth 100000 in
theorem speak_named.calls (k : Nat) (a0 : Int) (r : ByteArray) (w : World) (hG : Glob w) (h : speak_named.f k a0 = some r) :
    Calls Tryd.prog 55 #[.int .i64 a0] w fun e w' => e = .returned (.string r) ∧ Below w.heap.size w w' := by
  have hu117 := Tryd.underlying117
  have HG := Aside0.mk hG
  clear hG
  have HB := Aside0.mk (Below.refl w.heap.size w)
  have H : ((speak_own.f a0).bind fun t109 => (if t109.toList = ([] : List UInt8) then ((speak_rows.f).bind fun t110 => (speak_named.l0 k a0 t110 (t110.length : Int) 0)) else (some t109))) = some r := h
  clear h
  replace H := Option.bind_eq_some_iff.mp H
  obtain ⟨t109, A20, H⟩ := H
  replace H : (if t109.toList = ([] : List UInt8) then ((speak_rows.f).bind fun t110 => (speak_named.l0 k a0 t110 (t110.length : Int) 0)) else (some t109)) = some r := H
  have A2 := Aside0.mk A20
  clear A20
  by_cases c3 : t109.toList = ([] : List UInt8)
  · rw [if_pos c3] at H
    have c3b0 : (t109.toList == ([] : List UInt8)) = true := beq_iff_eq.mpr c3
    have c3b1 : (t109.toList != ([] : List UInt8)) = false := bne_eq_false_iff_eq.mpr c3
    clear c3
    replace H := Option.bind_eq_some_iff.mp H
    obtain ⟨t110, A40, H⟩ := H
    replace H : (speak_named.l0 k a0 t110 (t110.length : Int) 0) = some r := H
    have A4 := Aside0.mk A40
    clear A40
    have H' := Aside0.mk H
    clear H
    go_enter Tryd.func55, Tryd.ntmps55
    go_wp2_with (first | ((with_reducible refine gate_callee (f := 68) rfl ?_); refine goesL_ (some 7) rfl rfl Tryd.func68 (by kernel_rfl) rfl #[.int .i64 a0] rfl (by (try simp only [List.map_toArray, List.map_cons, List.map_nil]); first | done | rfl | (simp only [List.length_drop, List.length_take]; rfl)) ?_; (with_reducible refine (speak_own.calls a0 t109 _ A2.out).mono ?_); rintro e w' ⟨rfl, ⟨nd, rfl⟩⟩; refine ⟨_, rfl, ?_⟩) | ((with_reducible refine gate_callee (f := 69) rfl ?_); refine goesL_ (some 11) rfl rfl Tryd.func69 (by kernel_rfl) rfl #[] rfl (by (try simp only [List.map_toArray, List.map_cons, List.map_nil]); first | done | rfl | (simp only [List.length_drop, List.length_take]; rfl)) ?_; (with_reducible refine (speak_rows.calls  t110 _ A4.out).mono ?_); rintro e w5 ⟨v111, rfl, ho0, hb⟩; refine ⟨_, rfl, ?_⟩; have n0_ := Aside0.mk (Kd.R_lower ho0 (below_size (by repeat (first | (with_reducible first | exact HB.out | apply below_alloc | apply pw_below_drewN | apply below_drew1) | exact HB.out)))); have n1_ := Aside0.mk (below_step (by repeat (first | (with_reducible first | exact HB.out | apply below_alloc | apply pw_below_drewN | apply below_drew1) | exact HB.out)) hb); clear HB; have HO112 := n0_; have HB := n1_; clear n0_ n1_; (try clear hb); (try clear hb2); (try clear hk); (try clear hi); (try clear ho0); obtain ⟨Ao6, co6, eo6⟩ := Kd.R_slice HO112.out; subst eo6))
    go_loopg [13] k (fun kq v13 w' => ∃ (x13_1 : Int), v13 = .int .i64 x13_1 ∧ Aside0 (speak_named.l0 kq a0 t110 (t110.length : Int) x13_1 = some r) ∧ Aside0 (kq ≤ k) ∧ Aside0 (Kd.R k117 117 w' w.heap.size (fun _ => True) (.slice Ao6 t110.length co6) t110) ∧ Aside0 (Below w.heap.size w w'))
    case atStart => exact ⟨(0), (by first | rfl | (simp; done) | (simp only [i64_w, i32_w]; done) | (simp [i64_w, i32_w]; done) | (simp [*]; done)), H', ⟨Nat.le_refl _⟩, ⟨by (with_reducible repeat (first | apply Kd.R_alloc | apply Kd.R_drewN | apply Kd.R_drew)); exact HO112.out⟩, ⟨by repeat (first | (with_reducible first | exact HB.out | apply below_alloc | apply pw_below_drewN | apply below_drew1) | exact HB.out)⟩⟩
    case round =>
      clear H'
      try clear p2
      try clear c3
      try clear c3b0
      try clear c3b1
      try clear c5
      try clear c6
      obtain ⟨x13_1, rfl, HA, HK1, HO_11, HB⟩ := hrel
      cases gk with
      | zero => exact absurd HA.out (by simp [speak_named.l0])
      | succ k1 =>
        have H := HA.out
        clear HA
        simp only [speak_named.l0] at H
        by_cases c7 : x13_1 < (t110.length : Int)
        · rw [if_pos c7] at H
          have c7b0 : decide (x13_1 < (t110.length : Int)) = true := decide_eq_true c7
          clear c7
          by_cases c8 : 0 ≤ x13_1
          · rw [if_pos c8] at H
            have c8b0 : decide (0 ≤ x13_1) = true := decide_eq_true c8
            clear c8
            by_cases c9 : x13_1 < (t110.length : Int)
            · rw [if_pos c9] at H
              have c9b0 : decide (x13_1 < (t110.length : Int)) = true := decide_eq_true c9
              clear c9
              by_cases c10 : a0 ≥ ((rd_T117 t110 x13_1).f1)
              · rw [if_pos c10] at H
                have c10b0 : decide (((rd_T117 t110 x13_1).f1) ≤ a0) = true := decide_eq_true c10
                clear c10
                by_cases c11 : a0 ≤ ((rd_T117 t110 x13_1).f3)
                · rw [if_pos c11] at H
                  have c11b0 : decide (a0 ≤ ((rd_T117 t110 x13_1).f3)) = true := decide_eq_true c11
                  clear c11
                  replace H := Option.bind_eq_some_iff.mp H
                  obtain ⟨t115, A120, H⟩ := H
                  replace H : (if ((rd_T117 t110 x13_1).f0).size + t115.size ≤ 9223372036854775807 then (some (((rd_T117 t110 x13_1).f0) ++ t115)) else (none)) = some r := H
                  have A12 := Aside0.mk A120
                  clear A120
                  by_cases c13 : ((rd_T117 t110 x13_1).f0).size + t115.size ≤ 9223372036854775807
                  · rw [if_pos c13] at H
                    have c13b0 := eq_true c13
                    have c13b1 : decide (((rd_T117 t110 x13_1).f0).size + t115.size ≤ 9223372036854775807) = true := decide_eq_true c13
                    try have c13b2 : (9223372036854775807 < ((rd_T117 t110 x13_1).f0).size + t115.size) = False := eq_false (Nat.not_lt.2 c13)
                    obtain rfl := Option.some.inj H
                    have p113 : 0 ≤ (x13_1 : Int) := of_decide_eq_true (by first | (with_reducible assumption) | assumption)
                    have q113 : x13_1 < (t110.length : Int) := of_decide_eq_true (by first | (with_reducible assumption) | assumption)
                    obtain ⟨ad113, e113, hx113_0, hx113_1, hx113_2, hx113_3⟩ := at_T117 (Kd.R_reads' HO_11.out).2.2 x13_1 p113 q113
                    cases e113
                    replace p113 := eq_true p113
                    replace q113 := eq_true q113
                    try go_wp2_with (first | ((with_reducible refine gate_dst (N := 5) rfl ?_); refine box_event ?hg (N := 5) ?hd (cs := #[.string (⟨#[]⟩ : ByteArray), .int .i64 0, .int .i64 0, .int .i64 0]) (t := 117) ?hr ?_; (case hd => rfl); (case hg => rfl); (case hr => first | (go_simp; done) | (go_simp; rfl)); intro gb114 hg w14 hbox hb; have n0_ := Aside0.mk (Kd.R_below (Kd.R_elderB (by (with_reducible repeat (first | apply Kd.R_alloc | apply Kd.R_drewN | apply Kd.R_drew)); exact HO_11.out) gb114 (Nat.le_of_eq hg.symm)) hb); have n1_ := Aside0.mk (below_step (by repeat (first | (with_reducible first | exact HB.out | apply below_alloc | apply pw_below_drewN | apply below_drew1) | exact HB.out)) hb); have n2_ := Aside0.mk (hbox); have n3_ := Aside0.mk ((by rw [hg]; exact (below_size (by repeat (first | (with_reducible first | exact HB.out | apply below_alloc | apply pw_below_drewN | apply below_drew1) | exact HB.out))) : w.heap.size ≤ gb114)); have n4_ := Aside0.mk ((by rw [hg]; exact (below_size (by repeat (first | (with_reducible first | exact HB.out | apply below_alloc | apply pw_below_drewN | apply below_drew1) | exact HB.out))) : w.heap.size ≤ gb114)); clear HO_11; clear HB; have HO_11 := n0_; have HB := n1_; have BK114 := n2_; have GW114 := n3_; have GE114 := n4_; clear n0_ n1_ n2_ n3_ n4_; clear hb hbox hg; have hcz15_0 : w14.cell? ⟨gb114, 0, none⟩ = some (.string (⟨#[]⟩ : ByteArray)) := (blk_cell BK114.out 0).trans rfl; have hcz15_1 : w14.cell? ⟨gb114, 1, none⟩ = some (.int .i64 0) := (blk_cell BK114.out 1).trans rfl; have hcz15_2 : w14.cell? ⟨gb114, 2, none⟩ = some (.int .i64 0) := (blk_cell BK114.out 2).trans rfl; have hcz15_3 : w14.cell? ⟨gb114, 3, none⟩ = some (.int .i64 0) := (blk_cell BK114.out 3).trans rfl; have hfz15_0 := blk_frozen BK114.out 0; have hfz15_1 := blk_frozen BK114.out 1; have hfz15_2 := blk_frozen BK114.out 2; have hfz15_3 := blk_frozen BK114.out 3))
                    have n0_ : Aside0 (Kd.R k117 117 ((((w14.setCell ⟨gb114, 0, none⟩ (.string ((rd_T117 t110 x13_1).f0))).setCell ⟨gb114, 1, none⟩ (.int .i64 ((rd_T117 t110 x13_1).f1))).setCell ⟨gb114, 2, none⟩ (.int .i64 ((rd_T117 t110 x13_1).f2))).setCell ⟨gb114, 3, none⟩ (.int .i64 ((rd_T117 t110 x13_1).f3))) w.heap.size (fun k_ => k_ ≠ gb114) (.slice (some ad113) t110.length co6) t110) := ⟨by (with_reducible repeat (first | apply Kd.R_alloc | apply Kd.R_drewN | apply Kd.R_drew)); exact Kd.R_mono (Kd.R_far (p := ⟨gb114, 3, none⟩) (Kd.R_far (p := ⟨gb114, 2, none⟩) (Kd.R_far (p := ⟨gb114, 1, none⟩) (Kd.R_far (p := ⟨gb114, 0, none⟩) (Kd.R_mono HO_11.out (fun k_ hk => (⟨hk, hk.2⟩ : _ ∧ k_ ≠ gb114))) (fun _ hk => hk.2) (.string ((rd_T117 t110 x13_1).f0))) (fun _ hk => hk.2) (.int .i64 ((rd_T117 t110 x13_1).f1))) (fun _ hk => hk.2) (.int .i64 ((rd_T117 t110 x13_1).f2))) (fun _ hk => hk.2) (.int .i64 ((rd_T117 t110 x13_1).f3))) (fun _ hk => hk.1.2)⟩
                    have n1_ : Aside0 (((((w14.setCell ⟨gb114, 0, none⟩ (.string ((rd_T117 t110 x13_1).f0))).setCell ⟨gb114, 1, none⟩ (.int .i64 ((rd_T117 t110 x13_1).f1))).setCell ⟨gb114, 2, none⟩ (.int .i64 ((rd_T117 t110 x13_1).f2))).setCell ⟨gb114, 3, none⟩ (.int .i64 ((rd_T117 t110 x13_1).f3))).heap[gb114]? = some (.cells #[.string ((rd_T117 t110 x13_1).f0), .int .i64 ((rd_T117 t110 x13_1).f1), .int .i64 ((rd_T117 t110 x13_1).f2), .int .i64 ((rd_T117 t110 x13_1).f3)] 117 (0, 0))) := ⟨by (with_reducible repeat (first | refine blk_drewN ?_ _ | refine blk_drew ?_ | refine blk_alloc ?_ _)); refine blk_put (cs := #[.string ((rd_T117 t110 x13_1).f0), .int .i64 ((rd_T117 t110 x13_1).f1), .int .i64 ((rd_T117 t110 x13_1).f2), .int .i64 0]) ?_ 3 _ rfl; (with_reducible repeat (first | refine blk_drewN ?_ _ | refine blk_drew ?_ | refine blk_alloc ?_ _)); refine blk_put (cs := #[.string ((rd_T117 t110 x13_1).f0), .int .i64 ((rd_T117 t110 x13_1).f1), .int .i64 0, .int .i64 0]) ?_ 2 _ rfl; (with_reducible repeat (first | refine blk_drewN ?_ _ | refine blk_drew ?_ | refine blk_alloc ?_ _)); refine blk_put (cs := #[.string ((rd_T117 t110 x13_1).f0), .int .i64 0, .int .i64 0, .int .i64 0]) ?_ 1 _ rfl; (with_reducible repeat (first | refine blk_drewN ?_ _ | refine blk_drew ?_ | refine blk_alloc ?_ _)); refine blk_put (cs := #[.string (⟨#[]⟩ : ByteArray), .int .i64 0, .int .i64 0, .int .i64 0]) ?_ 0 _ rfl; (with_reducible repeat (first | refine blk_drewN ?_ _ | refine blk_drew ?_ | refine blk_alloc ?_ _)); exact BK114.out⟩
                    have n2_ : Aside0 (Below w.heap.size w ((((w14.setCell ⟨gb114, 0, none⟩ (.string ((rd_T117 t110 x13_1).f0))).setCell ⟨gb114, 1, none⟩ (.int .i64 ((rd_T117 t110 x13_1).f1))).setCell ⟨gb114, 2, none⟩ (.int .i64 ((rd_T117 t110 x13_1).f2))).setCell ⟨gb114, 3, none⟩ (.int .i64 ((rd_T117 t110 x13_1).f3)))) := ⟨by repeat (first | (with_reducible first | exact HB.out | apply below_alloc | apply pw_below_drewN | apply below_drew1 | refine below_set ?_ GE114.out) | exact HB.out)⟩
                    (try clear HO_11)
                    (try clear BK114)
                    (try clear HB)
                    generalize ((((w14.setCell ⟨gb114, 0, none⟩ (.string ((rd_T117 t110 x13_1).f0))).setCell ⟨gb114, 1, none⟩ (.int .i64 ((rd_T117 t110 x13_1).f1))).setCell ⟨gb114, 2, none⟩ (.int .i64 ((rd_T117 t110 x13_1).f2))).setCell ⟨gb114, 3, none⟩ (.int .i64 ((rd_T117 t110 x13_1).f3))) = w16 at n0_ n1_ n2_ ⊢
                    have HO_11 := n0_
                    have BK114 := n1_
                    have HB := n2_
                    clear n0_ n1_ n2_
                    have n0_ := Aside0.mk (Kd.R_drew HO_11.out)
                    have n1_ := Aside0.mk (blk_drew BK114.out)
                    have n2_ := Aside0.mk (below_drew1 HB.out)
                    clear HO_11
                    clear BK114
                    clear HB
                    have HO_11 := n0_
                    have BK114 := n1_
                    have HB := n2_
                    clear n0_ n1_ n2_
                    refine start_ (n := 12) (S := fun w' => w'.cell? ⟨gb114, 0, none⟩ = some (.string ((rd_T117 t110 x13_1).f0)) ∧ w'.cell? ⟨gb114, 1, none⟩ = some (.int .i64 ((rd_T117 t110 x13_1).f1)) ∧ w'.cell? ⟨gb114, 2, none⟩ = some (.int .i64 ((rd_T117 t110 x13_1).f2)) ∧ w'.cell? ⟨gb114, 3, none⟩ = some (.int .i64 ((rd_T117 t110 x13_1).f3))) (ds := []) #[false, false, false, false, false, false, false, false, false, false, false, false] (by kernel_rfl) rfl rfl ⟨(blk_cell BK114.out 0).trans rfl, (blk_cell BK114.out 1).trans rfl, (blk_cell BK114.out 2).trans rfl, (blk_cell BK114.out 3).trans rfl⟩ (fun hHeld => ?_); refine with_tabW speak_named.tab8 speak_named.bits8 (fun HT_ HW_ => ?_)
                    generalize w16.drew = w17 at HO_11 BK114 HB hHeld ⊢
                    refine pure_ (i := 0) (N := some 27) (v := ?_) (a' := ?_) #[true, false, false, false, false, false, false, false, false, false, false, false] rfl rfl (any_of HT_.out (by kernel_rfl)) (fun _ _ _ h => h) (Or.inl ⟨by rfl, ?_⟩) ?_ ?_
                    rotate_left
                    · intro w'
                      go_simp
                      with_reducible rfl
                    rotate_left
                    · simp only [Act.put, List.setIfInBounds_toArray, List.set_cons_zero, List.set_cons_succ, i64_w, i32_w]
                      rfl
                    refine pure_ (i := 2) (N := some 29) (v := ?_) (a' := ?_) #[true, false, true, false, false, false, false, false, false, false, false, false] rfl rfl (any_of HT_.out (by kernel_rfl)) (fun _ _ _ h => h) (Or.inl ⟨by rfl, ?_⟩) ?_ ?_
                    rotate_left
                    · intro w'
                      go_simp
                      with_reducible rfl
                    rotate_left
                    · simp only [Act.put, List.setIfInBounds_toArray, List.set_cons_zero, List.set_cons_succ, i64_w, i32_w]
                      rfl
                    refine pure_ (i := 3) (N := some 30) (v := ?_) (a' := ?_) #[true, false, true, true, false, false, false, false, false, false, false, false] rfl rfl (any_of HT_.out (by kernel_rfl)) (fun _ _ _ h => h) (Or.inl ⟨by rfl, ?_⟩) ?_ ?_
                    rotate_left
                    · intro w'
                      go_simp
                      with_reducible rfl
                    rotate_left
                    · simp only [Act.put, List.setIfInBounds_toArray, List.set_cons_zero, List.set_cons_succ, i64_w, i32_w]
                      rfl
                    refine pure_ (i := 6) (N := some 33) (v := ?_) (a' := ?_) #[true, false, true, true, false, false, true, false, false, false, false, false] rfl rfl (any_of HT_.out (by kernel_rfl)) (fun _ _ _ h => h) (Or.inl ⟨by rfl, ?_⟩) ?_ ?_
                    rotate_left
                    · intro w'
                      go_simp
                      with_reducible rfl
                    rotate_left
                    · simp only [Act.put, List.setIfInBounds_toArray, List.set_cons_zero, List.set_cons_succ, i64_w, i32_w]
                      rfl
                    refine take_ (i := 1) (N := some 28) (v := ?_) (a' := ?_) #[true, true, true, true, false, false, true, false, false, false, false, false] rfl rfl (take_ofW HT_.out HW_.out (by kernel_rfl)) (fun _ _ _ h => h) (Or.inl ⟨by rfl, ?_⟩) hHeld ?_ ?_
                    rotate_left
                    · rintro w' ⟨s0, s1, s2, s3⟩
                      go_simp
                      with_reducible rfl
                    rotate_left
                    · simp only [Act.put, List.setIfInBounds_toArray, List.set_cons_zero, List.set_cons_succ, i64_w, i32_w]
                      rfl
                    refine take_ (i := 4) (N := some 31) (v := ?_) (a' := ?_) #[true, true, true, true, true, false, true, false, false, false, false, false] rfl rfl (take_ofW HT_.out HW_.out (by kernel_rfl)) (fun _ _ _ h => h) (Or.inl ⟨by rfl, ?_⟩) hHeld ?_ ?_
                    rotate_left
                    · rintro w' ⟨s0, s1, s2, s3⟩
                      go_simp
                      with_reducible rfl
                    rotate_left
                    · simp only [Act.put, List.setIfInBounds_toArray, List.set_cons_zero, List.set_cons_succ, i64_w, i32_w]
                      rfl
                    refine pure_ (i := 5) (N := some 32) (v := ?_) (a' := ?_) #[true, true, true, true, true, true, true, false, false, false, false, false] rfl rfl (any_of HT_.out (by kernel_rfl)) (fun _ _ _ h => h) (Or.inl ⟨by rfl, ?_⟩) ?_ ?_
                    rotate_left
                    · intro w'
                      go_simp
                      with_reducible rfl
                    rotate_left
                    · simp only [Act.put, List.setIfInBounds_toArray, List.set_cons_zero, List.set_cons_succ, i64_w, i32_w]
                      rfl
                    refine take_ (i := 7) (N := some 34) (v := ?_) (a' := ?_) #[true, true, true, true, true, true, true, true, false, false, false, false] rfl rfl (take_ofW HT_.out HW_.out (by kernel_rfl)) (fun _ _ _ h => h) (Or.inl ⟨by rfl, ?_⟩) hHeld ?_ ?_
                    rotate_left
                    · rintro w' ⟨s0, s1, s2, s3⟩
                      go_simp
                      with_reducible rfl
                    rotate_left
                    · simp only [Act.put, List.setIfInBounds_toArray, List.set_cons_zero, List.set_cons_succ, i64_w, i32_w]
                      rfl
                    refine pure_ (i := 8) (N := some 35) (v := ?_) (a' := ?_) #[true, true, true, true, true, true, true, true, true, false, false, false] rfl rfl (any_of HT_.out (by kernel_rfl)) (fun _ _ _ h => h) (Or.inl ⟨by rfl, ?_⟩) ?_ ?_
                    rotate_left
                    · intro w'
                      go_simp
                      with_reducible rfl
                    rotate_left
                    · simp only [Act.put, List.setIfInBounds_toArray, List.set_cons_zero, List.set_cons_succ, i64_w, i32_w]
                      rfl
                    refine one_ (i := 9) (N := some 36) #[true, true, true, true, true, true, true, true, true, true, false, false] rfl rfl (one_of HT_.out (by kernel_rfl)) (by decide) (fun K hK => ?_)
                    refine goes_ Tryd.func10 (by kernel_rfl) rfl #[.int .i64 (wrap64 ((wrap64 (a0 - ((rd_T117 t110 x13_1).f1))) + ((rd_T117 t110 x13_1).f2)))] (by rfl) rfl rfl (by (try simp only [List.map_toArray, List.map_cons, List.map_nil]); first | done | rfl | (simp only [List.length_drop, List.length_take]; rfl)) ?_
                    with_reducible refine (strconv_Itoa_10.calls (wrap64 ((wrap64 (a0 - ((rd_T117 t110 x13_1).f1))) + ((rd_T117 t110 x13_1).f2))) t115 _ ?side1 A12.out).mono ?_
                    (case side1 => first | exact HG.out | exact Glob.step HG.out HB.out | (refine Glob.step HG.out ?_; (repeat (first | exact Below.refl _ _ | apply pw_below_drewN | apply below_drew1)); done) | exact Glob.step HG.out (by repeat (first | (with_reducible first | exact HB.out | apply below_alloc | apply pw_below_drewN | apply below_drew1 | refine below_set ?_ GE114.out) | exact HB.out)))
                    rintro e w18 ⟨rfl, hb⟩
                    refine ⟨_, rfl, ?_⟩
                    have n0_ := Aside0.mk (Kd.R_below (by (with_reducible repeat (first | apply Kd.R_alloc | apply Kd.R_drewN | apply Kd.R_drew)); exact HO_11.out) hb)
                    have n1_ := Aside0.mk (blk_below (g := gb114) (o := .cells #[.string ((rd_T117 t110 x13_1).f0), .int .i64 ((rd_T117 t110 x13_1).f1), .int .i64 ((rd_T117 t110 x13_1).f2), .int .i64 ((rd_T117 t110 x13_1).f3)] 117 (0, 0)) (by (with_reducible repeat (first | refine blk_drewN ?_ _ | refine blk_drew ?_ | refine blk_alloc ?_ _)); exact BK114.out) hb)
                    have n2_ := Aside0.mk (below_step (by repeat (first | (with_reducible first | exact HB.out | apply below_alloc | apply pw_below_drewN | apply below_drew1 | refine below_set ?_ GE114.out) | exact HB.out)) hb)
                    clear HO_11
                    clear BK114
                    clear HB
                    have HO_11 := n0_
                    have BK114 := n1_
                    have HB := n2_
                    clear n0_ n1_ n2_
                    (try clear hb)
                    (try clear hb2)
                    (try clear hk)
                    (try clear hi)
                    refine hK.out _ _ ⟨(blk_cell BK114.out 0).trans rfl, (blk_cell BK114.out 1).trans rfl, (blk_cell BK114.out 2).trans rfl, (blk_cell BK114.out 3).trans rfl⟩ (fun hHeld => ?_)
                    clear hK K
                    refine norm_ (a' := ?_) ?_ ?_
                    rotate_left
                    · show Act.put _ (some 36) _ = _
                      simp only [Act.put, List.setIfInBounds_toArray, List.set_cons_zero, List.set_cons_succ, i64_w, i32_w]
                      rfl
                    refine pure_ (i := 10) (N := some 37) (v := ?_) (a' := ?_) #[true, true, true, true, true, true, true, true, true, true, true, false] rfl rfl (any_of HT_.out (by kernel_rfl)) (fun _ _ _ h => h) (Or.inl ⟨by rfl, ?_⟩) ?_ ?_
                    rotate_left
                    · intro w'
                      go_simp
                      with_reducible rfl
                    rotate_left
                    · simp only [Act.put, List.setIfInBounds_toArray, List.set_cons_zero, List.set_cons_succ, i64_w, i32_w]
                      rfl
                    refine pure_ (i := 11) (N := some 2) (v := ?_) (a' := ?_) #[true, true, true, true, true, true, true, true, true, true, true, true] rfl rfl (any_of HT_.out (by kernel_rfl)) (fun _ _ _ h => h) (Or.inl ⟨by rfl, ?_⟩) ?_ ?_
                    rotate_left
                    · intro w'
                      go_simp
                      with_reducible rfl
                    rotate_left
                    · simp only [Act.put, List.setIfInBounds_toArray, List.set_cons_zero, List.set_cons_succ, i64_w, i32_w]
                      rfl
                    refine done_ (done_of HT_.out (by kernel_rfl)) ?_
                    try go_wp2
                    go_ret
                    exact ⟨by first | rfl | (simp [errW_none, errW_some] <;> rfl) | (simp [*, errW_none, errW_some] <;> rfl), by repeat (first | (with_reducible first | exact HB.out | apply below_alloc | apply pw_below_drewN | apply below_drew1 | refine below_set ?_ GE114.out) | exact HB.out)⟩
                  · rw [if_neg c13] at H
                    exact absurd H (by simp)
                · rw [if_neg c11] at H
                  have c11b0 : decide (a0 ≤ ((rd_T117 t110 x13_1).f3)) = false := decide_eq_false c11
                  clear c11
                  have H' := Aside0.mk H
                  clear H
                  have p113 : 0 ≤ (x13_1 : Int) := of_decide_eq_true (by first | (with_reducible assumption) | assumption)
                  have q113 : x13_1 < (t110.length : Int) := of_decide_eq_true (by first | (with_reducible assumption) | assumption)
                  obtain ⟨ad113, e113, hx113_0, hx113_1, hx113_2, hx113_3⟩ := at_T117 (Kd.R_reads' HO_11.out).2.2 x13_1 p113 q113
                  cases e113
                  replace p113 := eq_true p113
                  replace q113 := eq_true q113
                  go_wp2_with (first | ((with_reducible refine gate_dst (N := 5) rfl ?_); refine box_event ?hg (N := 5) ?hd (cs := #[.string (⟨#[]⟩ : ByteArray), .int .i64 0, .int .i64 0, .int .i64 0]) (t := 117) ?hr ?_; (case hd => rfl); (case hg => rfl); (case hr => first | (go_simp; done) | (go_simp; rfl)); intro gb114 hg w19 hbox hb; have n0_ := Aside0.mk (Kd.R_below (Kd.R_elderB (by (with_reducible repeat (first | apply Kd.R_alloc | apply Kd.R_drewN | apply Kd.R_drew)); exact HO_11.out) gb114 (Nat.le_of_eq hg.symm)) hb); have n1_ := Aside0.mk (below_step (by repeat (first | (with_reducible first | exact HB.out | apply below_alloc | apply pw_below_drewN | apply below_drew1) | exact HB.out)) hb); have n2_ := Aside0.mk (hbox); have n3_ := Aside0.mk ((by rw [hg]; exact (below_size (by repeat (first | (with_reducible first | exact HB.out | apply below_alloc | apply pw_below_drewN | apply below_drew1) | exact HB.out))) : w.heap.size ≤ gb114)); have n4_ := Aside0.mk ((by rw [hg]; exact (below_size (by repeat (first | (with_reducible first | exact HB.out | apply below_alloc | apply pw_below_drewN | apply below_drew1) | exact HB.out))) : w.heap.size ≤ gb114)); clear HO_11; clear HB; have HO_11 := n0_; have HB := n1_; have BK114 := n2_; have GW114 := n3_; have GE114 := n4_; clear n0_ n1_ n2_ n3_ n4_; clear hb hbox hg; have hcz20_0 : w19.cell? ⟨gb114, 0, none⟩ = some (.string (⟨#[]⟩ : ByteArray)) := (blk_cell BK114.out 0).trans rfl; have hcz20_1 : w19.cell? ⟨gb114, 1, none⟩ = some (.int .i64 0) := (blk_cell BK114.out 1).trans rfl; have hcz20_2 : w19.cell? ⟨gb114, 2, none⟩ = some (.int .i64 0) := (blk_cell BK114.out 2).trans rfl; have hcz20_3 : w19.cell? ⟨gb114, 3, none⟩ = some (.int .i64 0) := (blk_cell BK114.out 3).trans rfl; have hfz20_0 := blk_frozen BK114.out 0; have hfz20_1 := blk_frozen BK114.out 1; have hfz20_2 := blk_frozen BK114.out 2; have hfz20_3 := blk_frozen BK114.out 3))
                  go_roundg k1
                  case measure => have := HK1.out; omega
                  case rel => exact ⟨(wrap64 (x13_1 + 1)), (by first | rfl | (simp; done) | (simp only [i64_w, i32_w]; done) | (simp [i64_w, i32_w]; done) | (simp [*]; done)), H', ⟨by have := HK1.out; omega⟩, ⟨by (with_reducible repeat (first | apply Kd.R_alloc | apply Kd.R_drewN | apply Kd.R_drew)); exact Kd.R_mono (Kd.R_far (p := ⟨gb114, 3, none⟩) (Kd.R_far (p := ⟨gb114, 2, none⟩) (Kd.R_far (p := ⟨gb114, 1, none⟩) (Kd.R_far (p := ⟨gb114, 0, none⟩) (Kd.R_mono HO_11.out (fun k_ hk => (⟨hk, hk.2⟩ : _ ∧ k_ ≠ gb114))) (fun _ hk => hk.2) (.string ((rd_T117 t110 x13_1).f0))) (fun _ hk => hk.2) (.int .i64 ((rd_T117 t110 x13_1).f1))) (fun _ hk => hk.2) (.int .i64 ((rd_T117 t110 x13_1).f2))) (fun _ hk => hk.2) (.int .i64 ((rd_T117 t110 x13_1).f3))) (fun _ hk => trivial)⟩, ⟨by repeat (first | (with_reducible first | exact HB.out | apply below_alloc | apply pw_below_drewN | apply below_drew1 | refine below_set ?_ GE114.out) | exact HB.out)⟩⟩
              · rw [if_neg c10] at H
                have c10b0 : decide (((rd_T117 t110 x13_1).f1) ≤ a0) = false := decide_eq_false c10
                clear c10
                have H' := Aside0.mk H
                clear H
                have p113 : 0 ≤ (x13_1 : Int) := of_decide_eq_true (by first | (with_reducible assumption) | assumption)
                have q113 : x13_1 < (t110.length : Int) := of_decide_eq_true (by first | (with_reducible assumption) | assumption)
                obtain ⟨ad113, e113, hx113_0, hx113_1, hx113_2, hx113_3⟩ := at_T117 (Kd.R_reads' HO_11.out).2.2 x13_1 p113 q113
                cases e113
                replace p113 := eq_true p113
                replace q113 := eq_true q113
                go_wp2_with (first | ((with_reducible refine gate_dst (N := 5) rfl ?_); refine box_event ?hg (N := 5) ?hd (cs := #[.string (⟨#[]⟩ : ByteArray), .int .i64 0, .int .i64 0, .int .i64 0]) (t := 117) ?hr ?_; (case hd => rfl); (case hg => rfl); (case hr => first | (go_simp; done) | (go_simp; rfl)); intro gb114 hg w21 hbox hb; have n0_ := Aside0.mk (Kd.R_below (Kd.R_elderB (by (with_reducible repeat (first | apply Kd.R_alloc | apply Kd.R_drewN | apply Kd.R_drew)); exact HO_11.out) gb114 (Nat.le_of_eq hg.symm)) hb); have n1_ := Aside0.mk (below_step (by repeat (first | (with_reducible first | exact HB.out | apply below_alloc | apply pw_below_drewN | apply below_drew1) | exact HB.out)) hb); have n2_ := Aside0.mk (hbox); have n3_ := Aside0.mk ((by rw [hg]; exact (below_size (by repeat (first | (with_reducible first | exact HB.out | apply below_alloc | apply pw_below_drewN | apply below_drew1) | exact HB.out))) : w.heap.size ≤ gb114)); have n4_ := Aside0.mk ((by rw [hg]; exact (below_size (by repeat (first | (with_reducible first | exact HB.out | apply below_alloc | apply pw_below_drewN | apply below_drew1) | exact HB.out))) : w.heap.size ≤ gb114)); clear HO_11; clear HB; have HO_11 := n0_; have HB := n1_; have BK114 := n2_; have GW114 := n3_; have GE114 := n4_; clear n0_ n1_ n2_ n3_ n4_; clear hb hbox hg; have hcz22_0 : w21.cell? ⟨gb114, 0, none⟩ = some (.string (⟨#[]⟩ : ByteArray)) := (blk_cell BK114.out 0).trans rfl; have hcz22_1 : w21.cell? ⟨gb114, 1, none⟩ = some (.int .i64 0) := (blk_cell BK114.out 1).trans rfl; have hcz22_2 : w21.cell? ⟨gb114, 2, none⟩ = some (.int .i64 0) := (blk_cell BK114.out 2).trans rfl; have hcz22_3 : w21.cell? ⟨gb114, 3, none⟩ = some (.int .i64 0) := (blk_cell BK114.out 3).trans rfl; have hfz22_0 := blk_frozen BK114.out 0; have hfz22_1 := blk_frozen BK114.out 1; have hfz22_2 := blk_frozen BK114.out 2; have hfz22_3 := blk_frozen BK114.out 3))
                go_roundg k1
                case measure => have := HK1.out; omega
                case rel => exact ⟨(wrap64 (x13_1 + 1)), (by first | rfl | (simp; done) | (simp only [i64_w, i32_w]; done) | (simp [i64_w, i32_w]; done) | (simp [*]; done)), H', ⟨by have := HK1.out; omega⟩, ⟨by (with_reducible repeat (first | apply Kd.R_alloc | apply Kd.R_drewN | apply Kd.R_drew)); exact Kd.R_mono (Kd.R_far (p := ⟨gb114, 3, none⟩) (Kd.R_far (p := ⟨gb114, 2, none⟩) (Kd.R_far (p := ⟨gb114, 1, none⟩) (Kd.R_far (p := ⟨gb114, 0, none⟩) (Kd.R_mono HO_11.out (fun k_ hk => (⟨hk, hk.2⟩ : _ ∧ k_ ≠ gb114))) (fun _ hk => hk.2) (.string ((rd_T117 t110 x13_1).f0))) (fun _ hk => hk.2) (.int .i64 ((rd_T117 t110 x13_1).f1))) (fun _ hk => hk.2) (.int .i64 ((rd_T117 t110 x13_1).f2))) (fun _ hk => hk.2) (.int .i64 ((rd_T117 t110 x13_1).f3))) (fun _ hk => trivial)⟩, ⟨by repeat (first | (with_reducible first | exact HB.out | apply below_alloc | apply pw_below_drewN | apply below_drew1 | refine below_set ?_ GE114.out) | exact HB.out)⟩⟩
            · rw [if_neg c9] at H
              exact absurd H (by simp)
          · rw [if_neg c8] at H
            exact absurd H (by simp)
        · rw [if_neg c7] at H
          have c7b0 : decide (x13_1 < (t110.length : Int)) = false := decide_eq_false c7
          clear c7
          obtain rfl := Option.some.inj H
          go_wp2
          go_ret
          exact ⟨by first | rfl | (simp [errW_none, errW_some] <;> rfl) | (simp [*, errW_none, errW_some] <;> rfl), by repeat (first | (with_reducible first | exact HB.out | apply below_alloc | apply pw_below_drewN | apply below_drew1) | exact HB.out)⟩
  · rw [if_neg c3] at H
    have c3b0 : (t109.toList == ([] : List UInt8)) = false := beq_eq_false_iff_ne.mpr c3
    have c3b1 : (t109.toList != ([] : List UInt8)) = true := bne_iff_ne.mpr c3
    obtain rfl := Option.some.inj H
    go_enter Tryd.func55, Tryd.ntmps55
    go_wp2_with (first | ((with_reducible refine gate_callee (f := 68) rfl ?_); refine goesL_ (some 7) rfl rfl Tryd.func68 (by kernel_rfl) rfl #[.int .i64 a0] rfl (by (try simp only [List.map_toArray, List.map_cons, List.map_nil]); first | done | rfl | (simp only [List.length_drop, List.length_take]; rfl)) ?_; (with_reducible refine (speak_own.calls a0 t109 _ A2.out).mono ?_); rintro e w' ⟨rfl, ⟨nd, rfl⟩⟩; refine ⟨_, rfl, ?_⟩))
    go_ret
    exact ⟨by first | rfl | (simp [errW_none, errW_some] <;> rfl) | (simp [*, errW_none, errW_some] <;> rfl), by repeat (first | (with_reducible first | exact HB.out | apply below_alloc | apply pw_below_drewN | apply below_drew1) | exact HB.out)⟩

/-! ### speak_hex: function 56 -/
def speak_hex.f (a0 : Int) : Option (ByteArray) := (strconv_FormatUint_14.f a0 16).bind fun t116 => (if 2 + t116.size ≤ 9223372036854775807 then (some ((⟨#[48, 120]⟩ : ByteArray) ++ t116)) else (none))
set_option maxHeartbeats 8000000 in
set_option maxRecDepth 100000 in
theorem speak_hex.calls (a0 : Int) (r : ByteArray) (w : World) (hG : Glob w) (h : speak_hex.f a0 = some r) :
    Calls Tryd.prog 56 #[.int .u64 a0] w fun e w' => e = .returned (.string r) ∧ Below w.heap.size w w' := by
  have HG := Aside0.mk hG
  clear hG
  have HB := Aside0.mk (Below.refl w.heap.size w)
  have H : ((strconv_FormatUint_14.f a0 16).bind fun t116 => (if 2 + t116.size ≤ 9223372036854775807 then (some ((⟨#[48, 120]⟩ : ByteArray) ++ t116)) else (none))) = some r := h
  clear h
  replace H := Option.bind_eq_some_iff.mp H
  obtain ⟨t116, A20, H⟩ := H
  replace H : (if 2 + t116.size ≤ 9223372036854775807 then (some ((⟨#[48, 120]⟩ : ByteArray) ++ t116)) else (none)) = some r := H
  have A2 := Aside0.mk A20
  clear A20
  by_cases c3 : 2 + t116.size ≤ 9223372036854775807
  · rw [if_pos c3] at H
    have c3b0 := eq_true c3
    have c3b1 : decide (2 + t116.size ≤ 9223372036854775807) = true := decide_eq_true c3
    try have c3b2 : (9223372036854775807 < 2 + t116.size) = False := eq_false (Nat.not_lt.2 c3)
    obtain rfl := Option.some.inj H
    go_enter Tryd.func56, Tryd.ntmps56
    go_wp2_with (first | ((with_reducible refine gate_callee (f := 14) rfl ?_); refine goesL_ (some 4) rfl rfl Tryd.func14 (by kernel_rfl) rfl #[.int .u64 a0, .int .i64 16] rfl (by (try simp only [List.map_toArray, List.map_cons, List.map_nil]); first | done | rfl | (simp only [List.length_drop, List.length_take]; rfl)) ?_; (with_reducible refine (strconv_FormatUint_14.calls a0 16 t116 _ ?side1 A2.out).mono ?_); (case side1 => first | exact HG.out | exact Glob.step HG.out HB.out | (refine Glob.step HG.out ?_; (repeat (first | exact Below.refl _ _ | apply pw_below_drewN | apply below_drew1)); done) | exact Glob.step HG.out (by repeat (first | (with_reducible first | exact HB.out | apply below_alloc | apply pw_below_drewN | apply below_drew1) | exact HB.out))); rintro e w4 ⟨rfl, hb⟩; refine ⟨_, rfl, ?_⟩; have n0_ := Aside0.mk (below_step (by repeat (first | (with_reducible first | exact HB.out | apply below_alloc | apply pw_below_drewN | apply below_drew1) | exact HB.out)) hb); clear HB; have HB := n0_; clear n0_; (try clear hb); (try clear hb2); (try clear hk); (try clear hi)))
    go_ret
    exact ⟨by first | rfl | (simp [errW_none, errW_some] <;> rfl) | (simp [*, errW_none, errW_some] <;> rfl), by repeat (first | (with_reducible first | exact HB.out | apply below_alloc | apply pw_below_drewN | apply below_drew1) | exact HB.out)⟩
  · rw [if_neg c3] at H
    exact absurd H (by simp)

end Go.Proofs.YtbmnifnahbehbaaDoor.PPr
