-- BY PROGRAM of this session (the kit's printer, turned by wip/tools/patch_print.py). Lean checks it.
import Derived.Test.YtkcaebdhkodleaaDoorCsnx0
namespace Go.Proofs.YtkcaebdhkodleaaDoor.PCsn
open Go.RowKit Go.Proofs.YtkcaebdhkodleaaDoorW.PrintWords Go.Proofs.YtkcaebdhkodleaaDoorW.PrintLast Go.Proofs.YtkcaebdhkodleaaDoorW.PrintMore
attribute [local go_sem] max2_int min2_int max_two min_two max_three min_three max_four min_four   -- for this text's walks alone
set_option linter.unusedVariables false
set_option linter.unusedSimpArgs false

/-! ### strconv_Itoa_21: function 21 -/
def strconv_Itoa_21.f (a0 : Int) : Option (ByteArray) := if 0 ≤ a0 ∧ a0 < 100 then some ⟨(Lib.decDigits a0.toNat).toArray⟩ else none
theorem strconv_Itoa_21.calls (a0 : Int) (r : ByteArray) (w : World) (h : strconv_Itoa_21.f a0 = some r) :
    Calls Tryd.prog 21 #[.int .i64 a0] w fun e w' => e = .returned (.string r) ∧ Drawn0 w w' := by
  unfold strconv_Itoa_21.f at h
  split at h
  · rename_i hc
    injection h with h
    subst h
    exact itoa_c a0 hc.1 hc.2 w
  · cases h

/-! ### speak_own: function 26 -/
def speak_own.f (a0 : Int) : Option (ByteArray) := if a0 = 3857 then (some (⟨#[109, 118, 101, 110, 100, 111, 114, 105, 100]⟩ : ByteArray)) else (if a0 = 3858 then (some (⟨#[109, 97, 114, 99, 104, 105, 100]⟩ : ByteArray)) else (if a0 = 3859 then (some (⟨#[109, 105, 109, 112, 105, 100]⟩ : ByteArray)) else (if a0 = 3860 then (some (⟨#[109, 104, 97, 114, 116, 105, 100]⟩ : ByteArray)) else (if a0 = 3861 then (some (⟨#[109, 99, 111, 110, 102, 105, 103, 112, 116, 114]⟩ : ByteArray)) else (if a0 = 768 then (some (⟨#[109, 115, 116, 97, 116, 117, 115]⟩ : ByteArray)) else (if a0 = 769 then (some (⟨#[109, 105, 115, 97]⟩ : ByteArray)) else (if a0 = 772 then (some (⟨#[109, 105, 101]⟩ : ByteArray)) else (if a0 = 773 then (some (⟨#[109, 116, 118, 101, 99]⟩ : ByteArray)) else (if a0 = 774 then (some (⟨#[109, 99, 111, 117, 110, 116, 101, 114, 101, 110]⟩ : ByteArray)) else (if a0 = 778 then (some (⟨#[109, 101, 110, 118, 99, 102, 103]⟩ : ByteArray)) else (if a0 = 800 then (some (⟨#[109, 99, 111, 117, 110, 116, 105, 110, 104, 105, 98, 105, 116]⟩ : ByteArray)) else (if a0 = 832 then (some (⟨#[109, 115, 99, 114, 97, 116, 99, 104]⟩ : ByteArray)) else (if a0 = 833 then (some (⟨#[109, 101, 112, 99]⟩ : ByteArray)) else (if a0 = 834 then (some (⟨#[109, 99, 97, 117, 115, 101]⟩ : ByteArray)) else (if a0 = 835 then (some (⟨#[109, 116, 118, 97, 108]⟩ : ByteArray)) else (if a0 = 836 then (some (⟨#[109, 105, 112]⟩ : ByteArray)) else (if a0 = 928 then (some (⟨#[112, 109, 112, 99, 102, 103, 48]⟩ : ByteArray)) else (if a0 = 930 then (some (⟨#[112, 109, 112, 99, 102, 103, 50]⟩ : ByteArray)) else (if a0 = 2816 then (some (⟨#[109, 99, 121, 99, 108, 101]⟩ : ByteArray)) else (if a0 = 2818 then (some (⟨#[109, 105, 110, 115, 116, 114, 101, 116]⟩ : ByteArray)) else (if a0 = 3072 then (some (⟨#[99, 121, 99, 108, 101]⟩ : ByteArray)) else (if a0 = 3073 then (some (⟨#[116, 105, 109, 101]⟩ : ByteArray)) else (if a0 = 3074 then (some (⟨#[105, 110, 115, 116, 114, 101, 116]⟩ : ByteArray)) else (some (⟨#[]⟩ : ByteArray)))))))))))))))))))))))))
set_option maxHeartbeats 8000000 in
set_option maxRecDepth 100000 in
theorem speak_own.calls (a0 : Int) (r : ByteArray) (w : World) (h : speak_own.f a0 = some r) :
    Calls Tryd.prog 26 #[.int .i64 a0] w fun e w' => e = .returned (.string r) ∧ Drawn0 w w' := by
  have H : (if a0 = 3857 then (some (⟨#[109, 118, 101, 110, 100, 111, 114, 105, 100]⟩ : ByteArray)) else (if a0 = 3858 then (some (⟨#[109, 97, 114, 99, 104, 105, 100]⟩ : ByteArray)) else (if a0 = 3859 then (some (⟨#[109, 105, 109, 112, 105, 100]⟩ : ByteArray)) else (if a0 = 3860 then (some (⟨#[109, 104, 97, 114, 116, 105, 100]⟩ : ByteArray)) else (if a0 = 3861 then (some (⟨#[109, 99, 111, 110, 102, 105, 103, 112, 116, 114]⟩ : ByteArray)) else (if a0 = 768 then (some (⟨#[109, 115, 116, 97, 116, 117, 115]⟩ : ByteArray)) else (if a0 = 769 then (some (⟨#[109, 105, 115, 97]⟩ : ByteArray)) else (if a0 = 772 then (some (⟨#[109, 105, 101]⟩ : ByteArray)) else (if a0 = 773 then (some (⟨#[109, 116, 118, 101, 99]⟩ : ByteArray)) else (if a0 = 774 then (some (⟨#[109, 99, 111, 117, 110, 116, 101, 114, 101, 110]⟩ : ByteArray)) else (if a0 = 778 then (some (⟨#[109, 101, 110, 118, 99, 102, 103]⟩ : ByteArray)) else (if a0 = 800 then (some (⟨#[109, 99, 111, 117, 110, 116, 105, 110, 104, 105, 98, 105, 116]⟩ : ByteArray)) else (if a0 = 832 then (some (⟨#[109, 115, 99, 114, 97, 116, 99, 104]⟩ : ByteArray)) else (if a0 = 833 then (some (⟨#[109, 101, 112, 99]⟩ : ByteArray)) else (if a0 = 834 then (some (⟨#[109, 99, 97, 117, 115, 101]⟩ : ByteArray)) else (if a0 = 835 then (some (⟨#[109, 116, 118, 97, 108]⟩ : ByteArray)) else (if a0 = 836 then (some (⟨#[109, 105, 112]⟩ : ByteArray)) else (if a0 = 928 then (some (⟨#[112, 109, 112, 99, 102, 103, 48]⟩ : ByteArray)) else (if a0 = 930 then (some (⟨#[112, 109, 112, 99, 102, 103, 50]⟩ : ByteArray)) else (if a0 = 2816 then (some (⟨#[109, 99, 121, 99, 108, 101]⟩ : ByteArray)) else (if a0 = 2818 then (some (⟨#[109, 105, 110, 115, 116, 114, 101, 116]⟩ : ByteArray)) else (if a0 = 3072 then (some (⟨#[99, 121, 99, 108, 101]⟩ : ByteArray)) else (if a0 = 3073 then (some (⟨#[116, 105, 109, 101]⟩ : ByteArray)) else (if a0 = 3074 then (some (⟨#[105, 110, 115, 116, 114, 101, 116]⟩ : ByteArray)) else (some (⟨#[]⟩ : ByteArray)))))))))))))))))))))))))) = some r := h
  clear h
  by_cases c2 : a0 = 3857
  · rw [if_pos c2] at H
    have c2b0 : (a0 == 3857) = true := beq_iff_eq.mpr c2
    have c2b1 : (a0 != 3857) = false := bne_eq_false_iff_eq.mpr c2
    clear c2
    obtain rfl := Option.some.inj H
    go_enter Tryd.func26, Tryd.ntmps26
    go_wp2
    go_ret
    exact ⟨by first | rfl | (simp; done) | (simp only [i64_w, i32_w]; done) | (simp [i64_w, i32_w]; done) | (simp [*]; done), by repeat (first | exact Drawn0.refl _ | apply Drawn0.step)⟩
  · rw [if_neg c2] at H
    have c2b0 : (a0 == 3857) = false := beq_eq_false_iff_ne.mpr c2
    have c2b1 : (a0 != 3857) = true := bne_iff_ne.mpr c2
    by_cases c3 : a0 = 3858
    · rw [if_pos c3] at H
      have c3b0 : (a0 == 3858) = true := beq_iff_eq.mpr c3
      have c3b1 : (a0 != 3858) = false := bne_eq_false_iff_eq.mpr c3
      clear c3
      obtain rfl := Option.some.inj H
      go_enter Tryd.func26, Tryd.ntmps26
      go_wp2
      go_ret
      exact ⟨by first | rfl | (simp; done) | (simp only [i64_w, i32_w]; done) | (simp [i64_w, i32_w]; done) | (simp [*]; done), by repeat (first | exact Drawn0.refl _ | apply Drawn0.step)⟩
    · rw [if_neg c3] at H
      have c3b0 : (a0 == 3858) = false := beq_eq_false_iff_ne.mpr c3
      have c3b1 : (a0 != 3858) = true := bne_iff_ne.mpr c3
      by_cases c4 : a0 = 3859
      · rw [if_pos c4] at H
        have c4b0 : (a0 == 3859) = true := beq_iff_eq.mpr c4
        have c4b1 : (a0 != 3859) = false := bne_eq_false_iff_eq.mpr c4
        clear c4
        obtain rfl := Option.some.inj H
        go_enter Tryd.func26, Tryd.ntmps26
        go_wp2
        go_ret
        exact ⟨by first | rfl | (simp; done) | (simp only [i64_w, i32_w]; done) | (simp [i64_w, i32_w]; done) | (simp [*]; done), by repeat (first | exact Drawn0.refl _ | apply Drawn0.step)⟩
      · rw [if_neg c4] at H
        have c4b0 : (a0 == 3859) = false := beq_eq_false_iff_ne.mpr c4
        have c4b1 : (a0 != 3859) = true := bne_iff_ne.mpr c4
        by_cases c5 : a0 = 3860
        · rw [if_pos c5] at H
          have c5b0 : (a0 == 3860) = true := beq_iff_eq.mpr c5
          have c5b1 : (a0 != 3860) = false := bne_eq_false_iff_eq.mpr c5
          clear c5
          obtain rfl := Option.some.inj H
          go_enter Tryd.func26, Tryd.ntmps26
          go_wp2
          go_ret
          exact ⟨by first | rfl | (simp; done) | (simp only [i64_w, i32_w]; done) | (simp [i64_w, i32_w]; done) | (simp [*]; done), by repeat (first | exact Drawn0.refl _ | apply Drawn0.step)⟩
        · rw [if_neg c5] at H
          have c5b0 : (a0 == 3860) = false := beq_eq_false_iff_ne.mpr c5
          have c5b1 : (a0 != 3860) = true := bne_iff_ne.mpr c5
          by_cases c6 : a0 = 3861
          · rw [if_pos c6] at H
            have c6b0 : (a0 == 3861) = true := beq_iff_eq.mpr c6
            have c6b1 : (a0 != 3861) = false := bne_eq_false_iff_eq.mpr c6
            clear c6
            obtain rfl := Option.some.inj H
            go_enter Tryd.func26, Tryd.ntmps26
            go_wp2
            go_ret
            exact ⟨by first | rfl | (simp; done) | (simp only [i64_w, i32_w]; done) | (simp [i64_w, i32_w]; done) | (simp [*]; done), by repeat (first | exact Drawn0.refl _ | apply Drawn0.step)⟩
          · rw [if_neg c6] at H
            have c6b0 : (a0 == 3861) = false := beq_eq_false_iff_ne.mpr c6
            have c6b1 : (a0 != 3861) = true := bne_iff_ne.mpr c6
            by_cases c7 : a0 = 768
            · rw [if_pos c7] at H
              have c7b0 : (a0 == 768) = true := beq_iff_eq.mpr c7
              have c7b1 : (a0 != 768) = false := bne_eq_false_iff_eq.mpr c7
              clear c7
              obtain rfl := Option.some.inj H
              go_enter Tryd.func26, Tryd.ntmps26
              go_wp2
              go_ret
              exact ⟨by first | rfl | (simp; done) | (simp only [i64_w, i32_w]; done) | (simp [i64_w, i32_w]; done) | (simp [*]; done), by repeat (first | exact Drawn0.refl _ | apply Drawn0.step)⟩
            · rw [if_neg c7] at H
              have c7b0 : (a0 == 768) = false := beq_eq_false_iff_ne.mpr c7
              have c7b1 : (a0 != 768) = true := bne_iff_ne.mpr c7
              by_cases c8 : a0 = 769
              · rw [if_pos c8] at H
                have c8b0 : (a0 == 769) = true := beq_iff_eq.mpr c8
                have c8b1 : (a0 != 769) = false := bne_eq_false_iff_eq.mpr c8
                clear c8
                obtain rfl := Option.some.inj H
                go_enter Tryd.func26, Tryd.ntmps26
                go_wp2
                go_ret
                exact ⟨by first | rfl | (simp; done) | (simp only [i64_w, i32_w]; done) | (simp [i64_w, i32_w]; done) | (simp [*]; done), by repeat (first | exact Drawn0.refl _ | apply Drawn0.step)⟩
              · rw [if_neg c8] at H
                have c8b0 : (a0 == 769) = false := beq_eq_false_iff_ne.mpr c8
                have c8b1 : (a0 != 769) = true := bne_iff_ne.mpr c8
                by_cases c9 : a0 = 772
                · rw [if_pos c9] at H
                  have c9b0 : (a0 == 772) = true := beq_iff_eq.mpr c9
                  have c9b1 : (a0 != 772) = false := bne_eq_false_iff_eq.mpr c9
                  clear c9
                  obtain rfl := Option.some.inj H
                  go_enter Tryd.func26, Tryd.ntmps26
                  go_wp2
                  go_ret
                  exact ⟨by first | rfl | (simp; done) | (simp only [i64_w, i32_w]; done) | (simp [i64_w, i32_w]; done) | (simp [*]; done), by repeat (first | exact Drawn0.refl _ | apply Drawn0.step)⟩
                · rw [if_neg c9] at H
                  have c9b0 : (a0 == 772) = false := beq_eq_false_iff_ne.mpr c9
                  have c9b1 : (a0 != 772) = true := bne_iff_ne.mpr c9
                  by_cases c10 : a0 = 773
                  · rw [if_pos c10] at H
                    have c10b0 : (a0 == 773) = true := beq_iff_eq.mpr c10
                    have c10b1 : (a0 != 773) = false := bne_eq_false_iff_eq.mpr c10
                    clear c10
                    obtain rfl := Option.some.inj H
                    go_enter Tryd.func26, Tryd.ntmps26
                    go_wp2
                    go_ret
                    exact ⟨by first | rfl | (simp; done) | (simp only [i64_w, i32_w]; done) | (simp [i64_w, i32_w]; done) | (simp [*]; done), by repeat (first | exact Drawn0.refl _ | apply Drawn0.step)⟩
                  · rw [if_neg c10] at H
                    have c10b0 : (a0 == 773) = false := beq_eq_false_iff_ne.mpr c10
                    have c10b1 : (a0 != 773) = true := bne_iff_ne.mpr c10
                    by_cases c11 : a0 = 774
                    · rw [if_pos c11] at H
                      have c11b0 : (a0 == 774) = true := beq_iff_eq.mpr c11
                      have c11b1 : (a0 != 774) = false := bne_eq_false_iff_eq.mpr c11
                      clear c11
                      obtain rfl := Option.some.inj H
                      go_enter Tryd.func26, Tryd.ntmps26
                      go_wp2
                      go_ret
                      exact ⟨by first | rfl | (simp; done) | (simp only [i64_w, i32_w]; done) | (simp [i64_w, i32_w]; done) | (simp [*]; done), by repeat (first | exact Drawn0.refl _ | apply Drawn0.step)⟩
                    · rw [if_neg c11] at H
                      have c11b0 : (a0 == 774) = false := beq_eq_false_iff_ne.mpr c11
                      have c11b1 : (a0 != 774) = true := bne_iff_ne.mpr c11
                      by_cases c12 : a0 = 778
                      · rw [if_pos c12] at H
                        have c12b0 : (a0 == 778) = true := beq_iff_eq.mpr c12
                        have c12b1 : (a0 != 778) = false := bne_eq_false_iff_eq.mpr c12
                        clear c12
                        obtain rfl := Option.some.inj H
                        go_enter Tryd.func26, Tryd.ntmps26
                        go_wp2
                        go_ret
                        exact ⟨by first | rfl | (simp; done) | (simp only [i64_w, i32_w]; done) | (simp [i64_w, i32_w]; done) | (simp [*]; done), by repeat (first | exact Drawn0.refl _ | apply Drawn0.step)⟩
                      · rw [if_neg c12] at H
                        have c12b0 : (a0 == 778) = false := beq_eq_false_iff_ne.mpr c12
                        have c12b1 : (a0 != 778) = true := bne_iff_ne.mpr c12
                        by_cases c13 : a0 = 800
                        · rw [if_pos c13] at H
                          have c13b0 : (a0 == 800) = true := beq_iff_eq.mpr c13
                          have c13b1 : (a0 != 800) = false := bne_eq_false_iff_eq.mpr c13
                          clear c13
                          obtain rfl := Option.some.inj H
                          go_enter Tryd.func26, Tryd.ntmps26
                          go_wp2
                          go_ret
                          exact ⟨by first | rfl | (simp; done) | (simp only [i64_w, i32_w]; done) | (simp [i64_w, i32_w]; done) | (simp [*]; done), by repeat (first | exact Drawn0.refl _ | apply Drawn0.step)⟩
                        · rw [if_neg c13] at H
                          have c13b0 : (a0 == 800) = false := beq_eq_false_iff_ne.mpr c13
                          have c13b1 : (a0 != 800) = true := bne_iff_ne.mpr c13
                          by_cases c14 : a0 = 832
                          · rw [if_pos c14] at H
                            have c14b0 : (a0 == 832) = true := beq_iff_eq.mpr c14
                            have c14b1 : (a0 != 832) = false := bne_eq_false_iff_eq.mpr c14
                            clear c14
                            obtain rfl := Option.some.inj H
                            go_enter Tryd.func26, Tryd.ntmps26
                            go_wp2
                            go_ret
                            exact ⟨by first | rfl | (simp; done) | (simp only [i64_w, i32_w]; done) | (simp [i64_w, i32_w]; done) | (simp [*]; done), by repeat (first | exact Drawn0.refl _ | apply Drawn0.step)⟩
                          · rw [if_neg c14] at H
                            have c14b0 : (a0 == 832) = false := beq_eq_false_iff_ne.mpr c14
                            have c14b1 : (a0 != 832) = true := bne_iff_ne.mpr c14
                            by_cases c15 : a0 = 833
                            · rw [if_pos c15] at H
                              have c15b0 : (a0 == 833) = true := beq_iff_eq.mpr c15
                              have c15b1 : (a0 != 833) = false := bne_eq_false_iff_eq.mpr c15
                              clear c15
                              obtain rfl := Option.some.inj H
                              go_enter Tryd.func26, Tryd.ntmps26
                              go_wp2
                              go_ret
                              exact ⟨by first | rfl | (simp; done) | (simp only [i64_w, i32_w]; done) | (simp [i64_w, i32_w]; done) | (simp [*]; done), by repeat (first | exact Drawn0.refl _ | apply Drawn0.step)⟩
                            · rw [if_neg c15] at H
                              have c15b0 : (a0 == 833) = false := beq_eq_false_iff_ne.mpr c15
                              have c15b1 : (a0 != 833) = true := bne_iff_ne.mpr c15
                              by_cases c16 : a0 = 834
                              · rw [if_pos c16] at H
                                have c16b0 : (a0 == 834) = true := beq_iff_eq.mpr c16
                                have c16b1 : (a0 != 834) = false := bne_eq_false_iff_eq.mpr c16
                                clear c16
                                obtain rfl := Option.some.inj H
                                go_enter Tryd.func26, Tryd.ntmps26
                                go_wp2
                                go_ret
                                exact ⟨by first | rfl | (simp; done) | (simp only [i64_w, i32_w]; done) | (simp [i64_w, i32_w]; done) | (simp [*]; done), by repeat (first | exact Drawn0.refl _ | apply Drawn0.step)⟩
                              · rw [if_neg c16] at H
                                have c16b0 : (a0 == 834) = false := beq_eq_false_iff_ne.mpr c16
                                have c16b1 : (a0 != 834) = true := bne_iff_ne.mpr c16
                                by_cases c17 : a0 = 835
                                · rw [if_pos c17] at H
                                  have c17b0 : (a0 == 835) = true := beq_iff_eq.mpr c17
                                  have c17b1 : (a0 != 835) = false := bne_eq_false_iff_eq.mpr c17
                                  clear c17
                                  obtain rfl := Option.some.inj H
                                  go_enter Tryd.func26, Tryd.ntmps26
                                  go_wp2
                                  go_ret
                                  exact ⟨by first | rfl | (simp; done) | (simp only [i64_w, i32_w]; done) | (simp [i64_w, i32_w]; done) | (simp [*]; done), by repeat (first | exact Drawn0.refl _ | apply Drawn0.step)⟩
                                · rw [if_neg c17] at H
                                  have c17b0 : (a0 == 835) = false := beq_eq_false_iff_ne.mpr c17
                                  have c17b1 : (a0 != 835) = true := bne_iff_ne.mpr c17
                                  by_cases c18 : a0 = 836
                                  · rw [if_pos c18] at H
                                    have c18b0 : (a0 == 836) = true := beq_iff_eq.mpr c18
                                    have c18b1 : (a0 != 836) = false := bne_eq_false_iff_eq.mpr c18
                                    clear c18
                                    obtain rfl := Option.some.inj H
                                    go_enter Tryd.func26, Tryd.ntmps26
                                    go_wp2
                                    go_ret
                                    exact ⟨by first | rfl | (simp; done) | (simp only [i64_w, i32_w]; done) | (simp [i64_w, i32_w]; done) | (simp [*]; done), by repeat (first | exact Drawn0.refl _ | apply Drawn0.step)⟩
                                  · rw [if_neg c18] at H
                                    have c18b0 : (a0 == 836) = false := beq_eq_false_iff_ne.mpr c18
                                    have c18b1 : (a0 != 836) = true := bne_iff_ne.mpr c18
                                    by_cases c19 : a0 = 928
                                    · rw [if_pos c19] at H
                                      have c19b0 : (a0 == 928) = true := beq_iff_eq.mpr c19
                                      have c19b1 : (a0 != 928) = false := bne_eq_false_iff_eq.mpr c19
                                      clear c19
                                      obtain rfl := Option.some.inj H
                                      go_enter Tryd.func26, Tryd.ntmps26
                                      go_wp2
                                      go_ret
                                      exact ⟨by first | rfl | (simp; done) | (simp only [i64_w, i32_w]; done) | (simp [i64_w, i32_w]; done) | (simp [*]; done), by repeat (first | exact Drawn0.refl _ | apply Drawn0.step)⟩
                                    · rw [if_neg c19] at H
                                      have c19b0 : (a0 == 928) = false := beq_eq_false_iff_ne.mpr c19
                                      have c19b1 : (a0 != 928) = true := bne_iff_ne.mpr c19
                                      by_cases c20 : a0 = 930
                                      · rw [if_pos c20] at H
                                        have c20b0 : (a0 == 930) = true := beq_iff_eq.mpr c20
                                        have c20b1 : (a0 != 930) = false := bne_eq_false_iff_eq.mpr c20
                                        clear c20
                                        obtain rfl := Option.some.inj H
                                        go_enter Tryd.func26, Tryd.ntmps26
                                        go_wp2
                                        go_ret
                                        exact ⟨by first | rfl | (simp; done) | (simp only [i64_w, i32_w]; done) | (simp [i64_w, i32_w]; done) | (simp [*]; done), by repeat (first | exact Drawn0.refl _ | apply Drawn0.step)⟩
                                      · rw [if_neg c20] at H
                                        have c20b0 : (a0 == 930) = false := beq_eq_false_iff_ne.mpr c20
                                        have c20b1 : (a0 != 930) = true := bne_iff_ne.mpr c20
                                        by_cases c21 : a0 = 2816
                                        · rw [if_pos c21] at H
                                          have c21b0 : (a0 == 2816) = true := beq_iff_eq.mpr c21
                                          have c21b1 : (a0 != 2816) = false := bne_eq_false_iff_eq.mpr c21
                                          clear c21
                                          obtain rfl := Option.some.inj H
                                          go_enter Tryd.func26, Tryd.ntmps26
                                          go_wp2
                                          go_ret
                                          exact ⟨by first | rfl | (simp; done) | (simp only [i64_w, i32_w]; done) | (simp [i64_w, i32_w]; done) | (simp [*]; done), by repeat (first | exact Drawn0.refl _ | apply Drawn0.step)⟩
                                        · rw [if_neg c21] at H
                                          have c21b0 : (a0 == 2816) = false := beq_eq_false_iff_ne.mpr c21
                                          have c21b1 : (a0 != 2816) = true := bne_iff_ne.mpr c21
                                          by_cases c22 : a0 = 2818
                                          · rw [if_pos c22] at H
                                            have c22b0 : (a0 == 2818) = true := beq_iff_eq.mpr c22
                                            have c22b1 : (a0 != 2818) = false := bne_eq_false_iff_eq.mpr c22
                                            clear c22
                                            obtain rfl := Option.some.inj H
                                            go_enter Tryd.func26, Tryd.ntmps26
                                            go_wp2
                                            go_ret
                                            exact ⟨by first | rfl | (simp; done) | (simp only [i64_w, i32_w]; done) | (simp [i64_w, i32_w]; done) | (simp [*]; done), by repeat (first | exact Drawn0.refl _ | apply Drawn0.step)⟩
                                          · rw [if_neg c22] at H
                                            have c22b0 : (a0 == 2818) = false := beq_eq_false_iff_ne.mpr c22
                                            have c22b1 : (a0 != 2818) = true := bne_iff_ne.mpr c22
                                            by_cases c23 : a0 = 3072
                                            · rw [if_pos c23] at H
                                              have c23b0 : (a0 == 3072) = true := beq_iff_eq.mpr c23
                                              have c23b1 : (a0 != 3072) = false := bne_eq_false_iff_eq.mpr c23
                                              clear c23
                                              obtain rfl := Option.some.inj H
                                              go_enter Tryd.func26, Tryd.ntmps26
                                              go_wp2
                                              go_ret
                                              exact ⟨by first | rfl | (simp; done) | (simp only [i64_w, i32_w]; done) | (simp [i64_w, i32_w]; done) | (simp [*]; done), by repeat (first | exact Drawn0.refl _ | apply Drawn0.step)⟩
                                            · rw [if_neg c23] at H
                                              have c23b0 : (a0 == 3072) = false := beq_eq_false_iff_ne.mpr c23
                                              have c23b1 : (a0 != 3072) = true := bne_iff_ne.mpr c23
                                              by_cases c24 : a0 = 3073
                                              · rw [if_pos c24] at H
                                                have c24b0 : (a0 == 3073) = true := beq_iff_eq.mpr c24
                                                have c24b1 : (a0 != 3073) = false := bne_eq_false_iff_eq.mpr c24
                                                clear c24
                                                obtain rfl := Option.some.inj H
                                                go_enter Tryd.func26, Tryd.ntmps26
                                                go_wp2
                                                go_ret
                                                exact ⟨by first | rfl | (simp; done) | (simp only [i64_w, i32_w]; done) | (simp [i64_w, i32_w]; done) | (simp [*]; done), by repeat (first | exact Drawn0.refl _ | apply Drawn0.step)⟩
                                              · rw [if_neg c24] at H
                                                have c24b0 : (a0 == 3073) = false := beq_eq_false_iff_ne.mpr c24
                                                have c24b1 : (a0 != 3073) = true := bne_iff_ne.mpr c24
                                                by_cases c25 : a0 = 3074
                                                · rw [if_pos c25] at H
                                                  have c25b0 : (a0 == 3074) = true := beq_iff_eq.mpr c25
                                                  have c25b1 : (a0 != 3074) = false := bne_eq_false_iff_eq.mpr c25
                                                  clear c25
                                                  obtain rfl := Option.some.inj H
                                                  go_enter Tryd.func26, Tryd.ntmps26
                                                  go_wp2
                                                  go_ret
                                                  exact ⟨by first | rfl | (simp; done) | (simp only [i64_w, i32_w]; done) | (simp [i64_w, i32_w]; done) | (simp [*]; done), by repeat (first | exact Drawn0.refl _ | apply Drawn0.step)⟩
                                                · rw [if_neg c25] at H
                                                  have c25b0 : (a0 == 3074) = false := beq_eq_false_iff_ne.mpr c25
                                                  have c25b1 : (a0 != 3074) = true := bne_iff_ne.mpr c25
                                                  obtain rfl := Option.some.inj H
                                                  go_enter Tryd.func26, Tryd.ntmps26
                                                  go_wp2
                                                  go_ret
                                                  exact ⟨by first | rfl | (simp; done) | (simp only [i64_w, i32_w]; done) | (simp [i64_w, i32_w]; done) | (simp [*]; done), by repeat (first | exact Drawn0.refl _ | apply Drawn0.step)⟩

/-! ### speak_rows: function 27 -/
def speak_rows.f  : Option ((List (S44))) := some (([(⟨(⟨#[109, 104, 112, 109, 101, 118, 101, 110, 116]⟩ : ByteArray), 803, 3, 831⟩ : S44), (⟨(⟨#[112, 109, 112, 97, 100, 100, 114]⟩ : ByteArray), 944, 0, 959⟩ : S44), (⟨(⟨#[109, 104, 112, 109, 99, 111, 117, 110, 116, 101, 114]⟩ : ByteArray), 2819, 3, 2847⟩ : S44), (⟨(⟨#[104, 112, 109, 99, 111, 117, 110, 116, 101, 114]⟩ : ByteArray), 3075, 3, 3103⟩ : S44)] : List (S44)))
set_option maxHeartbeats 8000000 in
set_option maxRecDepth 100000 in
theorem speak_rows.calls  (r : List (S44)) (w : World) (h : speak_rows.f  = some r) :
    Calls Tryd.prog 27 #[] w fun e w' => ∃ v0_ : Value, e = .returned (v0_) ∧ Kd.R k44 44 w' w.heap.size (fun _ => True) v0_ r ∧ Below w.heap.size w w' := by
  have hu44 := Tryd.underlying44
  have HB := Aside0.mk (Below.refl w.heap.size w)
  have H : (some (([(⟨(⟨#[109, 104, 112, 109, 101, 118, 101, 110, 116]⟩ : ByteArray), 803, 3, 831⟩ : S44), (⟨(⟨#[112, 109, 112, 97, 100, 100, 114]⟩ : ByteArray), 944, 0, 959⟩ : S44), (⟨(⟨#[109, 104, 112, 109, 99, 111, 117, 110, 116, 101, 114]⟩ : ByteArray), 2819, 3, 2847⟩ : S44), (⟨(⟨#[104, 112, 109, 99, 111, 117, 110, 116, 101, 114]⟩ : ByteArray), 3075, 3, 3103⟩ : S44)] : List (S44)))) = some r := h
  clear h
  obtain ⟨y101, hy101⟩ : ∃ y_ : List (S44), y_ = (([(⟨(⟨#[109, 104, 112, 109, 101, 118, 101, 110, 116]⟩ : ByteArray), 803, 3, 831⟩ : S44), (⟨(⟨#[112, 109, 112, 97, 100, 100, 114]⟩ : ByteArray), 944, 0, 959⟩ : S44), (⟨(⟨#[109, 104, 112, 109, 99, 111, 117, 110, 116, 101, 114]⟩ : ByteArray), 2819, 3, 2847⟩ : S44), (⟨(⟨#[104, 112, 109, 99, 111, 117, 110, 116, 101, 114]⟩ : ByteArray), 3075, 3, 3103⟩ : S44)] : List (S44))) := ⟨_, rfl⟩
  replace H : (some y101) = some r := by first | (rw [hy101]; with_reducible exact H) | (have H2_ := (Option.bind_some _ _).symm.trans H; rw [hy101]; with_reducible exact H2_) | (have H2_ := (Option.bind_some _ _).symm.trans H; with_reducible exact H2_) | with_reducible exact H | (rw [hy101]; exact H) | exact H
  have Ny101 := Aside0.mk hy101
  clear hy101
  obtain rfl := Option.some.inj H
  go_enter Tryd.func27, Tryd.ntmps27
  go_wp2_with (first | ((with_reducible refine gate_dst (N := 5) rfl ?_); refine Kd.R_lit k44 _ 44 ?hg (N := 5) ?hd (xs := ([(⟨(⟨#[109, 104, 112, 109, 101, 118, 101, 110, 116]⟩ : ByteArray), 803, 3, 831⟩ : S44), (⟨(⟨#[112, 109, 112, 97, 100, 100, 114]⟩ : ByteArray), 944, 0, 959⟩ : S44), (⟨(⟨#[109, 104, 112, 109, 99, 111, 117, 110, 116, 101, 114]⟩ : ByteArray), 2819, 3, 2847⟩ : S44), (⟨(⟨#[104, 112, 109, 99, 111, 117, 110, 116, 101, 114]⟩ : ByteArray), 3075, 3, 3103⟩ : S44)] : List (S44))) (inner := [.string (⟨#[109, 104, 112, 109, 101, 118, 101, 110, 116]⟩ : ByteArray), .int .i64 803, .int .i64 3, .int .i64 831, .string (⟨#[112, 109, 112, 97, 100, 100, 114]⟩ : ByteArray), .int .i64 944, .int .i64 0, .int .i64 959, .string (⟨#[109, 104, 112, 109, 99, 111, 117, 110, 116, 101, 114]⟩ : ByteArray), .int .i64 2819, .int .i64 3, .int .i64 2847, .string (⟨#[104, 112, 109, 99, 111, 117, 110, 116, 101, 114]⟩ : ByteArray), .int .i64 3075, .int .i64 3, .int .i64 3103]) (ok := fun _ => True) (okp := fun _ => True) ?hr ?hp (fun _ hk => hk) trivial (Below.refl _ _) (Nat.le_refl _) (by simp) ?_; (case hd => rfl); (case hg => rfl); (case hr => first | (go_simp; done) | (go_simp; rfl)); (case hp => exact (Reps.c4 (show Kd.M k44 _ _ _ (⟨(⟨#[109, 104, 112, 109, 101, 118, 101, 110, 116]⟩ : ByteArray), 803, 3, 831⟩ : S44) [.string (⟨#[109, 104, 112, 109, 101, 118, 101, 110, 116]⟩ : ByteArray), .int .i64 803, .int .i64 3, .int .i64 831] from (k44_mkM _ _ _ (⟨(⟨#[109, 104, 112, 109, 101, 118, 101, 110, 116]⟩ : ByteArray), 803, 3, 831⟩ : S44) )) (Reps.c4 (show Kd.M k44 _ _ _ (⟨(⟨#[112, 109, 112, 97, 100, 100, 114]⟩ : ByteArray), 944, 0, 959⟩ : S44) [.string (⟨#[112, 109, 112, 97, 100, 100, 114]⟩ : ByteArray), .int .i64 944, .int .i64 0, .int .i64 959] from (k44_mkM _ _ _ (⟨(⟨#[112, 109, 112, 97, 100, 100, 114]⟩ : ByteArray), 944, 0, 959⟩ : S44) )) (Reps.c4 (show Kd.M k44 _ _ _ (⟨(⟨#[109, 104, 112, 109, 99, 111, 117, 110, 116, 101, 114]⟩ : ByteArray), 2819, 3, 2847⟩ : S44) [.string (⟨#[109, 104, 112, 109, 99, 111, 117, 110, 116, 101, 114]⟩ : ByteArray), .int .i64 2819, .int .i64 3, .int .i64 2847] from (k44_mkM _ _ _ (⟨(⟨#[109, 104, 112, 109, 99, 111, 117, 110, 116, 101, 114]⟩ : ByteArray), 2819, 3, 2847⟩ : S44) )) (Reps.c4 (show Kd.M k44 _ _ _ (⟨(⟨#[104, 112, 109, 99, 111, 117, 110, 116, 101, 114]⟩ : ByteArray), 3075, 3, 3103⟩ : S44) [.string (⟨#[104, 112, 109, 99, 111, 117, 110, 116, 101, 114]⟩ : ByteArray), .int .i64 3075, .int .i64 3, .int .i64 3103] from (k44_mkM _ _ _ (⟨(⟨#[104, 112, 109, 99, 111, 117, 110, 116, 101, 114]⟩ : ByteArray), 3075, 3, 3103⟩ : S44) )) (Reps.none _ _)))))); intro v102 w1 ho2 hb hg_ hnew_; clear hg_ hnew_; (first | rw [← Ny101.out] at ho2 | (simp only [Int.reduceToNat] at ho2; rw [← Ny101.out] at ho2)); have n0_ := Aside0.mk (Kd.R_lower ho2 (below_size (by repeat (first | (with_reducible first | exact HB.out | apply below_alloc | apply pw_below_drewN | apply below_drew1) | exact HB.out)))); have n1_ := Aside0.mk (below_step (by repeat (first | (with_reducible first | exact HB.out | apply below_alloc | apply pw_below_drewN | apply below_drew1) | exact HB.out)) hb); clear HB; have HO103 := n0_; have HB := n1_; clear n0_ n1_; clear hb ho2))
  go_ret
  exact ⟨_, by first | rfl | (simp [errW_none, errW_some] <;> rfl) | (simp [*, errW_none, errW_some] <;> rfl), by (with_reducible repeat (first | apply Kd.R_alloc | apply Kd.R_drewN | apply Kd.R_drew)); exact HO103.out, by repeat (first | (with_reducible first | exact HB.out | apply below_alloc | apply pw_below_drewN | apply below_drew1) | exact HB.out)⟩

/-! ### speak_named: function 16 -/
def speak_named.l0 : Nat → Int → List (S44) → Int → Int → Option (ByteArray)
  | 0, _, _, _, _ => none
  | k + 1, x0, x11, x12, x13 => if x13 < x12 then (if 0 ≤ x13 then (if x13 < (x11.length : Int) then (if x0 ≥ ((rd_T44 x11 x13).f1) then (if x0 ≤ ((rd_T44 x11 x13).f3) then ((strconv_Itoa_21.f (wrap64 ((wrap64 (x0 - ((rd_T44 x11 x13).f1))) + ((rd_T44 x11 x13).f2)))).bind fun t110 => (if ((rd_T44 x11 x13).f0).size + t110.size ≤ 9223372036854775807 then (some (((rd_T44 x11 x13).f0) ++ t110)) else (none))) else (speak_named.l0 k x0 x11 x12 (wrap64 (x13 + 1)))) else (speak_named.l0 k x0 x11 x12 (wrap64 (x13 + 1)))) else (none)) else (none)) else (some (⟨#[]⟩ : ByteArray))
def speak_named.f (k : Nat) (a0 : Int) : Option (ByteArray) := (speak_own.f a0).bind fun t104 => (if t104.toList = ([] : List UInt8) then ((speak_rows.f).bind fun t105 => (speak_named.l0 k a0 t105 (t105.length : Int) 0)) else (some t104))
theorem speak_named.mono_l : ∀ k, (∀ y0 y1 y2 y3, LeO (speak_named.l0 k y0 y1 y2 y3) (speak_named.l0 (k + 1) y0 y1 y2 y3))
  | 0 => fun _ _ _ _ r h => by simp [speak_named.l0] at h
  | k + 1 => by
    have ih0 := speak_named.mono_l k
    · intro y0 y1 y2 y3
      unfold speak_named.l0
      repeat' first
      | (with_reducible exact ih0 _ _ _ _)
      | (with_reducible exact LeO.refl _)
      | (with_reducible exact LeO.none _)
      | (with_reducible refine LeO.ite ?_ ?_)
      | (with_reducible refine LeO.bind ?_ (fun _ => ?_))
      | exact ih0 _ _ _ _
      | exact LeO.none _
      | refine LeO.ite ?_ ?_
      | refine LeO.bind ?_ (fun _ => ?_)
theorem speak_named.mono : ∀ a0 k, LeO (speak_named.f k a0) (speak_named.f (k + 1) a0) := by
  intro a0 k
  have ih0 := speak_named.mono_l k
  unfold speak_named.f
  repeat' first
      | (with_reducible exact ih0 _ _ _ _)
      | (with_reducible exact LeO.refl _)
      | (with_reducible exact LeO.none _)
      | (with_reducible refine LeO.ite ?_ ?_)
      | (with_reducible refine LeO.bind ?_ (fun _ => ?_))
      | exact ih0 _ _ _ _
      | exact LeO.none _
      | refine LeO.ite ?_ ?_
      | refine LeO.bind ?_ (fun _ => ?_)
set_option maxHeartbeats 8000000 in
set_option maxRecDepth 100000 in
theorem speak_named.calls (k : Nat) (a0 : Int) (r : ByteArray) (w : World) (h : speak_named.f k a0 = some r) :
    Calls Tryd.prog 16 #[.int .i64 a0] w fun e w' => e = .returned (.string r) ∧ Below w.heap.size w w' := by
  have hu44 := Tryd.underlying44
  have HB := Aside0.mk (Below.refl w.heap.size w)
  have H : ((speak_own.f a0).bind fun t104 => (if t104.toList = ([] : List UInt8) then ((speak_rows.f).bind fun t105 => (speak_named.l0 k a0 t105 (t105.length : Int) 0)) else (some t104))) = some r := h
  clear h
  replace H := Option.bind_eq_some_iff.mp H
  obtain ⟨t104, A20, H⟩ := H
  replace H : (if t104.toList = ([] : List UInt8) then ((speak_rows.f).bind fun t105 => (speak_named.l0 k a0 t105 (t105.length : Int) 0)) else (some t104)) = some r := H
  have A2 := Aside0.mk A20
  clear A20
  by_cases c3 : t104.toList = ([] : List UInt8)
  · rw [if_pos c3] at H
    have c3b0 : (t104.toList == ([] : List UInt8)) = true := beq_iff_eq.mpr c3
    have c3b1 : (t104.toList != ([] : List UInt8)) = false := bne_eq_false_iff_eq.mpr c3
    clear c3
    replace H := Option.bind_eq_some_iff.mp H
    obtain ⟨t105, A40, H⟩ := H
    replace H : (speak_named.l0 k a0 t105 (t105.length : Int) 0) = some r := H
    have A4 := Aside0.mk A40
    clear A40
    have H' := Aside0.mk H
    clear H
    go_enter Tryd.func16, Tryd.ntmps16
    go_wp2_with (first | (go_at_call 26; (with_reducible refine (speak_own.calls a0 t104 _ A2.out).mono ?_); rintro e w' ⟨rfl, ⟨nd, rfl⟩⟩; (try first | exact ⟨rfl, _, World.drewN_drewN _ _ _⟩ | exact ⟨rfl, _, Eq.trans (World.drewN_drewN _ _ _) (congrArg (World.drewN _) (Nat.add_assoc _ _ _))⟩)) | (go_at_call 27; (with_reducible refine (speak_rows.calls  t105 _ A4.out).mono ?_); rintro e w5 ⟨v106, rfl, ho0, hb⟩; have n0_ := Aside0.mk (Kd.R_lower ho0 (below_size (by repeat (first | (with_reducible first | exact HB.out | apply below_alloc | apply pw_below_drewN | apply below_drew1) | exact HB.out)))); have n1_ := Aside0.mk (below_step (by repeat (first | (with_reducible first | exact HB.out | apply below_alloc | apply pw_below_drewN | apply below_drew1) | exact HB.out)) hb); clear HB; have HO107 := n0_; have HB := n1_; clear n0_ n1_; (try clear hb); (try clear hb2); (try clear hk); (try clear hi); (try clear ho0); obtain ⟨Ao6, co6, eo6⟩ := Kd.R_slice HO107.out; subst eo6))
    repeat (go_quiet (first | (go_at_call 26; (with_reducible refine (speak_own.calls a0 t104 _ A2.out).mono ?_); rintro e w' ⟨rfl, ⟨nd, rfl⟩⟩; (try first | exact ⟨rfl, _, World.drewN_drewN _ _ _⟩ | exact ⟨rfl, _, Eq.trans (World.drewN_drewN _ _ _) (congrArg (World.drewN _) (Nat.add_assoc _ _ _))⟩)) | (go_at_call 27; (with_reducible refine (speak_rows.calls  t105 _ A4.out).mono ?_); rintro e w5 ⟨v106, rfl, ho0, hb⟩; have n0_ := Aside0.mk (Kd.R_lower ho0 (below_size (by repeat (first | (with_reducible first | exact HB.out | apply below_alloc | apply pw_below_drewN | apply below_drew1) | exact HB.out)))); have n1_ := Aside0.mk (below_step (by repeat (first | (with_reducible first | exact HB.out | apply below_alloc | apply pw_below_drewN | apply below_drew1) | exact HB.out)) hb); clear HB; have HO107 := n0_; have HB := n1_; clear n0_ n1_; (try clear hb); (try clear hb2); (try clear hk); (try clear hi); (try clear ho0); obtain ⟨Ao6, co6, eo6⟩ := Kd.R_slice HO107.out; subst eo6)); try go_wp2_with (first | (go_at_call 26; (with_reducible refine (speak_own.calls a0 t104 _ A2.out).mono ?_); rintro e w' ⟨rfl, ⟨nd, rfl⟩⟩; (try first | exact ⟨rfl, _, World.drewN_drewN _ _ _⟩ | exact ⟨rfl, _, Eq.trans (World.drewN_drewN _ _ _) (congrArg (World.drewN _) (Nat.add_assoc _ _ _))⟩)) | (go_at_call 27; (with_reducible refine (speak_rows.calls  t105 _ A4.out).mono ?_); rintro e w5 ⟨v106, rfl, ho0, hb⟩; have n0_ := Aside0.mk (Kd.R_lower ho0 (below_size (by repeat (first | (with_reducible first | exact HB.out | apply below_alloc | apply pw_below_drewN | apply below_drew1) | exact HB.out)))); have n1_ := Aside0.mk (below_step (by repeat (first | (with_reducible first | exact HB.out | apply below_alloc | apply pw_below_drewN | apply below_drew1) | exact HB.out)) hb); clear HB; have HO107 := n0_; have HB := n1_; clear n0_ n1_; (try clear hb); (try clear hb2); (try clear hk); (try clear hi); (try clear ho0); obtain ⟨Ao6, co6, eo6⟩ := Kd.R_slice HO107.out; subst eo6)))
    go_loopg [13] k (fun kq v13 w' => ∃ (x13_1 : Int), v13 = .int .i64 x13_1 ∧ Aside0 (speak_named.l0 kq a0 t105 (t105.length : Int) x13_1 = some r) ∧ Aside0 (kq ≤ k) ∧ Aside0 (Kd.R k44 44 w' w.heap.size (fun _ => True) (.slice Ao6 t105.length co6) t105) ∧ Aside0 (Below w.heap.size w w'))
    case atStart => exact ⟨(0), (by first | rfl | (simp; done) | (simp only [i64_w, i32_w]; done) | (simp [i64_w, i32_w]; done) | (simp [*]; done)), H', ⟨Nat.le_refl _⟩, ⟨by (with_reducible repeat (first | apply Kd.R_alloc | apply Kd.R_drewN | apply Kd.R_drew)); exact HO107.out⟩, ⟨by repeat (first | (with_reducible first | exact HB.out | apply below_alloc | apply pw_below_drewN | apply below_drew1) | exact HB.out)⟩⟩
    case round =>
      clear H'
      try clear c1
      try clear p2
      try clear c3
      try clear c3b0
      try clear c3b1
      obtain ⟨x13_1, rfl, HA, HK1, HO_11, HB⟩ := hrel
      cases gk with
      | zero => exact absurd HA.out (by simp [speak_named.l0])
      | succ k1 =>
        have H := HA.out
        clear HA
        simp only [speak_named.l0] at H
        by_cases c7 : x13_1 < (t105.length : Int)
        · rw [if_pos c7] at H
          have c7b0 : decide (x13_1 < (t105.length : Int)) = true := decide_eq_true c7
          clear c7
          by_cases c8 : 0 ≤ x13_1
          · rw [if_pos c8] at H
            have c8b0 : decide (0 ≤ x13_1) = true := decide_eq_true c8
            clear c8
            by_cases c9 : x13_1 < (t105.length : Int)
            · rw [if_pos c9] at H
              have c9b0 : decide (x13_1 < (t105.length : Int)) = true := decide_eq_true c9
              clear c9
              by_cases c10 : a0 ≥ ((rd_T44 t105 x13_1).f1)
              · rw [if_pos c10] at H
                have c10b0 : decide (((rd_T44 t105 x13_1).f1) ≤ a0) = true := decide_eq_true c10
                clear c10
                by_cases c11 : a0 ≤ ((rd_T44 t105 x13_1).f3)
                · rw [if_pos c11] at H
                  have c11b0 : decide (a0 ≤ ((rd_T44 t105 x13_1).f3)) = true := decide_eq_true c11
                  clear c11
                  replace H := Option.bind_eq_some_iff.mp H
                  obtain ⟨t110, A120, H⟩ := H
                  replace H : (if ((rd_T44 t105 x13_1).f0).size + t110.size ≤ 9223372036854775807 then (some (((rd_T44 t105 x13_1).f0) ++ t110)) else (none)) = some r := H
                  have A12 := Aside0.mk A120
                  clear A120
                  by_cases c13 : ((rd_T44 t105 x13_1).f0).size + t110.size ≤ 9223372036854775807
                  · rw [if_pos c13] at H
                    have c13b0 := eq_true c13
                    have c13b1 : decide (((rd_T44 t105 x13_1).f0).size + t110.size ≤ 9223372036854775807) = true := decide_eq_true c13
                    try have c13b2 : (9223372036854775807 < ((rd_T44 t105 x13_1).f0).size + t110.size) = False := eq_false (Nat.not_lt.2 c13)
                    obtain rfl := Option.some.inj H
                    have p108 : 0 ≤ (x13_1 : Int) := of_decide_eq_true (by first | (with_reducible assumption) | assumption)
                    have q108 : x13_1 < (t105.length : Int) := of_decide_eq_true (by first | (with_reducible assumption) | assumption)
                    obtain ⟨ad108, e108, hx108_0, hx108_1, hx108_2, hx108_3⟩ := at_T44 (Kd.R_reads' HO_11.out).2.2 x13_1 p108 q108
                    cases e108
                    replace p108 := eq_true p108
                    replace q108 := eq_true q108
                    go_wp2_with (first | ((with_reducible refine gate_dst (N := 5) rfl ?_); refine box_event ?hg (N := 5) ?hd (cs := #[.string (⟨#[]⟩ : ByteArray), .int .i64 0, .int .i64 0, .int .i64 0]) (t := 44) ?hr ?_; (case hd => rfl); (case hg => rfl); (case hr => first | (go_simp; done) | (go_simp; rfl)); intro gb109 hg w14 hbox hb; have n0_ := Aside0.mk (Kd.R_below (Kd.R_elderB (by (with_reducible repeat (first | apply Kd.R_alloc | apply Kd.R_drewN | apply Kd.R_drew)); exact HO_11.out) gb109 (Nat.le_of_eq hg.symm)) hb); have n1_ := Aside0.mk (below_step (by repeat (first | (with_reducible first | exact HB.out | apply below_alloc | apply pw_below_drewN | apply below_drew1) | exact HB.out)) hb); have n2_ := Aside0.mk (hbox); have n3_ := Aside0.mk ((by rw [hg]; exact (below_size (by repeat (first | (with_reducible first | exact HB.out | apply below_alloc | apply pw_below_drewN | apply below_drew1) | exact HB.out))) : w.heap.size ≤ gb109)); have n4_ := Aside0.mk ((by rw [hg]; exact (below_size (by repeat (first | (with_reducible first | exact HB.out | apply below_alloc | apply pw_below_drewN | apply below_drew1) | exact HB.out))) : w.heap.size ≤ gb109)); clear HO_11; clear HB; have HO_11 := n0_; have HB := n1_; have BK109 := n2_; have GW109 := n3_; have GE109 := n4_; clear n0_ n1_ n2_ n3_ n4_; clear hb hbox hg; have hcz15_0 : w14.cell? ⟨gb109, 0, none⟩ = some (.string (⟨#[]⟩ : ByteArray)) := (blk_cell BK109.out 0).trans rfl; have hcz15_1 : w14.cell? ⟨gb109, 1, none⟩ = some (.int .i64 0) := (blk_cell BK109.out 1).trans rfl; have hcz15_2 : w14.cell? ⟨gb109, 2, none⟩ = some (.int .i64 0) := (blk_cell BK109.out 2).trans rfl; have hcz15_3 : w14.cell? ⟨gb109, 3, none⟩ = some (.int .i64 0) := (blk_cell BK109.out 3).trans rfl; have hfz15_0 := blk_frozen BK109.out 0; have hfz15_1 := blk_frozen BK109.out 1; have hfz15_2 := blk_frozen BK109.out 2; have hfz15_3 := blk_frozen BK109.out 3) | (go_at_call 21; (with_reducible refine (strconv_Itoa_21.calls (wrap64 ((wrap64 (a0 - ((rd_T44 t105 x13_1).f1))) + ((rd_T44 t105 x13_1).f2))) t110 _ A12.out).mono ?_); rintro e w' ⟨rfl, ⟨nd, rfl⟩⟩; (try first | exact ⟨rfl, _, World.drewN_drewN _ _ _⟩ | exact ⟨rfl, _, Eq.trans (World.drewN_drewN _ _ _) (congrArg (World.drewN _) (Nat.add_assoc _ _ _))⟩)))
                    repeat (go_quiet (first | ((with_reducible refine gate_dst (N := 5) rfl ?_); refine box_event ?hg (N := 5) ?hd (cs := #[.string (⟨#[]⟩ : ByteArray), .int .i64 0, .int .i64 0, .int .i64 0]) (t := 44) ?hr ?_; (case hd => rfl); (case hg => rfl); (case hr => first | (go_simp; done) | (go_simp; rfl)); intro gb109 hg w14 hbox hb; have n0_ := Aside0.mk (Kd.R_below (Kd.R_elderB (by (with_reducible repeat (first | apply Kd.R_alloc | apply Kd.R_drewN | apply Kd.R_drew)); exact HO_11.out) gb109 (Nat.le_of_eq hg.symm)) hb); have n1_ := Aside0.mk (below_step (by repeat (first | (with_reducible first | exact HB.out | apply below_alloc | apply pw_below_drewN | apply below_drew1) | exact HB.out)) hb); have n2_ := Aside0.mk (hbox); have n3_ := Aside0.mk ((by rw [hg]; exact (below_size (by repeat (first | (with_reducible first | exact HB.out | apply below_alloc | apply pw_below_drewN | apply below_drew1) | exact HB.out))) : w.heap.size ≤ gb109)); have n4_ := Aside0.mk ((by rw [hg]; exact (below_size (by repeat (first | (with_reducible first | exact HB.out | apply below_alloc | apply pw_below_drewN | apply below_drew1) | exact HB.out))) : w.heap.size ≤ gb109)); clear HO_11; clear HB; have HO_11 := n0_; have HB := n1_; have BK109 := n2_; have GW109 := n3_; have GE109 := n4_; clear n0_ n1_ n2_ n3_ n4_; clear hb hbox hg; have hcz15_0 : w14.cell? ⟨gb109, 0, none⟩ = some (.string (⟨#[]⟩ : ByteArray)) := (blk_cell BK109.out 0).trans rfl; have hcz15_1 : w14.cell? ⟨gb109, 1, none⟩ = some (.int .i64 0) := (blk_cell BK109.out 1).trans rfl; have hcz15_2 : w14.cell? ⟨gb109, 2, none⟩ = some (.int .i64 0) := (blk_cell BK109.out 2).trans rfl; have hcz15_3 : w14.cell? ⟨gb109, 3, none⟩ = some (.int .i64 0) := (blk_cell BK109.out 3).trans rfl; have hfz15_0 := blk_frozen BK109.out 0; have hfz15_1 := blk_frozen BK109.out 1; have hfz15_2 := blk_frozen BK109.out 2; have hfz15_3 := blk_frozen BK109.out 3) | (go_at_call 21; (with_reducible refine (strconv_Itoa_21.calls (wrap64 ((wrap64 (a0 - ((rd_T44 t105 x13_1).f1))) + ((rd_T44 t105 x13_1).f2))) t110 _ A12.out).mono ?_); rintro e w' ⟨rfl, ⟨nd, rfl⟩⟩; (try first | exact ⟨rfl, _, World.drewN_drewN _ _ _⟩ | exact ⟨rfl, _, Eq.trans (World.drewN_drewN _ _ _) (congrArg (World.drewN _) (Nat.add_assoc _ _ _))⟩))); try go_wp2_with (first | ((with_reducible refine gate_dst (N := 5) rfl ?_); refine box_event ?hg (N := 5) ?hd (cs := #[.string (⟨#[]⟩ : ByteArray), .int .i64 0, .int .i64 0, .int .i64 0]) (t := 44) ?hr ?_; (case hd => rfl); (case hg => rfl); (case hr => first | (go_simp; done) | (go_simp; rfl)); intro gb109 hg w14 hbox hb; have n0_ := Aside0.mk (Kd.R_below (Kd.R_elderB (by (with_reducible repeat (first | apply Kd.R_alloc | apply Kd.R_drewN | apply Kd.R_drew)); exact HO_11.out) gb109 (Nat.le_of_eq hg.symm)) hb); have n1_ := Aside0.mk (below_step (by repeat (first | (with_reducible first | exact HB.out | apply below_alloc | apply pw_below_drewN | apply below_drew1) | exact HB.out)) hb); have n2_ := Aside0.mk (hbox); have n3_ := Aside0.mk ((by rw [hg]; exact (below_size (by repeat (first | (with_reducible first | exact HB.out | apply below_alloc | apply pw_below_drewN | apply below_drew1) | exact HB.out))) : w.heap.size ≤ gb109)); have n4_ := Aside0.mk ((by rw [hg]; exact (below_size (by repeat (first | (with_reducible first | exact HB.out | apply below_alloc | apply pw_below_drewN | apply below_drew1) | exact HB.out))) : w.heap.size ≤ gb109)); clear HO_11; clear HB; have HO_11 := n0_; have HB := n1_; have BK109 := n2_; have GW109 := n3_; have GE109 := n4_; clear n0_ n1_ n2_ n3_ n4_; clear hb hbox hg; have hcz15_0 : w14.cell? ⟨gb109, 0, none⟩ = some (.string (⟨#[]⟩ : ByteArray)) := (blk_cell BK109.out 0).trans rfl; have hcz15_1 : w14.cell? ⟨gb109, 1, none⟩ = some (.int .i64 0) := (blk_cell BK109.out 1).trans rfl; have hcz15_2 : w14.cell? ⟨gb109, 2, none⟩ = some (.int .i64 0) := (blk_cell BK109.out 2).trans rfl; have hcz15_3 : w14.cell? ⟨gb109, 3, none⟩ = some (.int .i64 0) := (blk_cell BK109.out 3).trans rfl; have hfz15_0 := blk_frozen BK109.out 0; have hfz15_1 := blk_frozen BK109.out 1; have hfz15_2 := blk_frozen BK109.out 2; have hfz15_3 := blk_frozen BK109.out 3) | (go_at_call 21; (with_reducible refine (strconv_Itoa_21.calls (wrap64 ((wrap64 (a0 - ((rd_T44 t105 x13_1).f1))) + ((rd_T44 t105 x13_1).f2))) t110 _ A12.out).mono ?_); rintro e w' ⟨rfl, ⟨nd, rfl⟩⟩; (try first | exact ⟨rfl, _, World.drewN_drewN _ _ _⟩ | exact ⟨rfl, _, Eq.trans (World.drewN_drewN _ _ _) (congrArg (World.drewN _) (Nat.add_assoc _ _ _))⟩))))
                    go_ret
                    exact ⟨by first | rfl | (simp [errW_none, errW_some] <;> rfl) | (simp [*, errW_none, errW_some] <;> rfl), by repeat (first | (with_reducible first | exact HB.out | apply below_alloc | apply pw_below_drewN | apply below_drew1 | refine below_set ?_ GE109.out) | exact HB.out)⟩
                  · rw [if_neg c13] at H
                    exact absurd H (by simp)
                · rw [if_neg c11] at H
                  have c11b0 : decide (a0 ≤ ((rd_T44 t105 x13_1).f3)) = false := decide_eq_false c11
                  clear c11
                  have H' := Aside0.mk H
                  clear H
                  have p108 : 0 ≤ (x13_1 : Int) := of_decide_eq_true (by first | (with_reducible assumption) | assumption)
                  have q108 : x13_1 < (t105.length : Int) := of_decide_eq_true (by first | (with_reducible assumption) | assumption)
                  obtain ⟨ad108, e108, hx108_0, hx108_1, hx108_2, hx108_3⟩ := at_T44 (Kd.R_reads' HO_11.out).2.2 x13_1 p108 q108
                  cases e108
                  replace p108 := eq_true p108
                  replace q108 := eq_true q108
                  go_wp2_with (first | ((with_reducible refine gate_dst (N := 5) rfl ?_); refine box_event ?hg (N := 5) ?hd (cs := #[.string (⟨#[]⟩ : ByteArray), .int .i64 0, .int .i64 0, .int .i64 0]) (t := 44) ?hr ?_; (case hd => rfl); (case hg => rfl); (case hr => first | (go_simp; done) | (go_simp; rfl)); intro gb109 hg w16 hbox hb; have n0_ := Aside0.mk (Kd.R_below (Kd.R_elderB (by (with_reducible repeat (first | apply Kd.R_alloc | apply Kd.R_drewN | apply Kd.R_drew)); exact HO_11.out) gb109 (Nat.le_of_eq hg.symm)) hb); have n1_ := Aside0.mk (below_step (by repeat (first | (with_reducible first | exact HB.out | apply below_alloc | apply pw_below_drewN | apply below_drew1) | exact HB.out)) hb); have n2_ := Aside0.mk (hbox); have n3_ := Aside0.mk ((by rw [hg]; exact (below_size (by repeat (first | (with_reducible first | exact HB.out | apply below_alloc | apply pw_below_drewN | apply below_drew1) | exact HB.out))) : w.heap.size ≤ gb109)); have n4_ := Aside0.mk ((by rw [hg]; exact (below_size (by repeat (first | (with_reducible first | exact HB.out | apply below_alloc | apply pw_below_drewN | apply below_drew1) | exact HB.out))) : w.heap.size ≤ gb109)); clear HO_11; clear HB; have HO_11 := n0_; have HB := n1_; have BK109 := n2_; have GW109 := n3_; have GE109 := n4_; clear n0_ n1_ n2_ n3_ n4_; clear hb hbox hg; have hcz17_0 : w16.cell? ⟨gb109, 0, none⟩ = some (.string (⟨#[]⟩ : ByteArray)) := (blk_cell BK109.out 0).trans rfl; have hcz17_1 : w16.cell? ⟨gb109, 1, none⟩ = some (.int .i64 0) := (blk_cell BK109.out 1).trans rfl; have hcz17_2 : w16.cell? ⟨gb109, 2, none⟩ = some (.int .i64 0) := (blk_cell BK109.out 2).trans rfl; have hcz17_3 : w16.cell? ⟨gb109, 3, none⟩ = some (.int .i64 0) := (blk_cell BK109.out 3).trans rfl; have hfz17_0 := blk_frozen BK109.out 0; have hfz17_1 := blk_frozen BK109.out 1; have hfz17_2 := blk_frozen BK109.out 2; have hfz17_3 := blk_frozen BK109.out 3))
                  repeat (go_quiet (first | ((with_reducible refine gate_dst (N := 5) rfl ?_); refine box_event ?hg (N := 5) ?hd (cs := #[.string (⟨#[]⟩ : ByteArray), .int .i64 0, .int .i64 0, .int .i64 0]) (t := 44) ?hr ?_; (case hd => rfl); (case hg => rfl); (case hr => first | (go_simp; done) | (go_simp; rfl)); intro gb109 hg w16 hbox hb; have n0_ := Aside0.mk (Kd.R_below (Kd.R_elderB (by (with_reducible repeat (first | apply Kd.R_alloc | apply Kd.R_drewN | apply Kd.R_drew)); exact HO_11.out) gb109 (Nat.le_of_eq hg.symm)) hb); have n1_ := Aside0.mk (below_step (by repeat (first | (with_reducible first | exact HB.out | apply below_alloc | apply pw_below_drewN | apply below_drew1) | exact HB.out)) hb); have n2_ := Aside0.mk (hbox); have n3_ := Aside0.mk ((by rw [hg]; exact (below_size (by repeat (first | (with_reducible first | exact HB.out | apply below_alloc | apply pw_below_drewN | apply below_drew1) | exact HB.out))) : w.heap.size ≤ gb109)); have n4_ := Aside0.mk ((by rw [hg]; exact (below_size (by repeat (first | (with_reducible first | exact HB.out | apply below_alloc | apply pw_below_drewN | apply below_drew1) | exact HB.out))) : w.heap.size ≤ gb109)); clear HO_11; clear HB; have HO_11 := n0_; have HB := n1_; have BK109 := n2_; have GW109 := n3_; have GE109 := n4_; clear n0_ n1_ n2_ n3_ n4_; clear hb hbox hg; have hcz17_0 : w16.cell? ⟨gb109, 0, none⟩ = some (.string (⟨#[]⟩ : ByteArray)) := (blk_cell BK109.out 0).trans rfl; have hcz17_1 : w16.cell? ⟨gb109, 1, none⟩ = some (.int .i64 0) := (blk_cell BK109.out 1).trans rfl; have hcz17_2 : w16.cell? ⟨gb109, 2, none⟩ = some (.int .i64 0) := (blk_cell BK109.out 2).trans rfl; have hcz17_3 : w16.cell? ⟨gb109, 3, none⟩ = some (.int .i64 0) := (blk_cell BK109.out 3).trans rfl; have hfz17_0 := blk_frozen BK109.out 0; have hfz17_1 := blk_frozen BK109.out 1; have hfz17_2 := blk_frozen BK109.out 2; have hfz17_3 := blk_frozen BK109.out 3)); try go_wp2_with (first | ((with_reducible refine gate_dst (N := 5) rfl ?_); refine box_event ?hg (N := 5) ?hd (cs := #[.string (⟨#[]⟩ : ByteArray), .int .i64 0, .int .i64 0, .int .i64 0]) (t := 44) ?hr ?_; (case hd => rfl); (case hg => rfl); (case hr => first | (go_simp; done) | (go_simp; rfl)); intro gb109 hg w16 hbox hb; have n0_ := Aside0.mk (Kd.R_below (Kd.R_elderB (by (with_reducible repeat (first | apply Kd.R_alloc | apply Kd.R_drewN | apply Kd.R_drew)); exact HO_11.out) gb109 (Nat.le_of_eq hg.symm)) hb); have n1_ := Aside0.mk (below_step (by repeat (first | (with_reducible first | exact HB.out | apply below_alloc | apply pw_below_drewN | apply below_drew1) | exact HB.out)) hb); have n2_ := Aside0.mk (hbox); have n3_ := Aside0.mk ((by rw [hg]; exact (below_size (by repeat (first | (with_reducible first | exact HB.out | apply below_alloc | apply pw_below_drewN | apply below_drew1) | exact HB.out))) : w.heap.size ≤ gb109)); have n4_ := Aside0.mk ((by rw [hg]; exact (below_size (by repeat (first | (with_reducible first | exact HB.out | apply below_alloc | apply pw_below_drewN | apply below_drew1) | exact HB.out))) : w.heap.size ≤ gb109)); clear HO_11; clear HB; have HO_11 := n0_; have HB := n1_; have BK109 := n2_; have GW109 := n3_; have GE109 := n4_; clear n0_ n1_ n2_ n3_ n4_; clear hb hbox hg; have hcz17_0 : w16.cell? ⟨gb109, 0, none⟩ = some (.string (⟨#[]⟩ : ByteArray)) := (blk_cell BK109.out 0).trans rfl; have hcz17_1 : w16.cell? ⟨gb109, 1, none⟩ = some (.int .i64 0) := (blk_cell BK109.out 1).trans rfl; have hcz17_2 : w16.cell? ⟨gb109, 2, none⟩ = some (.int .i64 0) := (blk_cell BK109.out 2).trans rfl; have hcz17_3 : w16.cell? ⟨gb109, 3, none⟩ = some (.int .i64 0) := (blk_cell BK109.out 3).trans rfl; have hfz17_0 := blk_frozen BK109.out 0; have hfz17_1 := blk_frozen BK109.out 1; have hfz17_2 := blk_frozen BK109.out 2; have hfz17_3 := blk_frozen BK109.out 3)))
                  go_roundg k1
                  case measure => have := HK1.out; omega
                  case rel => exact ⟨(wrap64 (x13_1 + 1)), (by first | rfl | (simp; done) | (simp only [i64_w, i32_w]; done) | (simp [i64_w, i32_w]; done) | (simp [*]; done)), H', ⟨by have := HK1.out; omega⟩, ⟨by (with_reducible repeat (first | apply Kd.R_alloc | apply Kd.R_drewN | apply Kd.R_drew)); exact Kd.R_mono (Kd.R_far (p := ⟨gb109, 3, none⟩) (Kd.R_far (p := ⟨gb109, 2, none⟩) (Kd.R_far (p := ⟨gb109, 1, none⟩) (Kd.R_far (p := ⟨gb109, 0, none⟩) (Kd.R_mono HO_11.out (fun k_ hk => (⟨hk, hk.2⟩ : _ ∧ k_ ≠ gb109))) (fun _ hk => hk.2) (.string ((rd_T44 t105 x13_1).f0))) (fun _ hk => hk.2) (.int .i64 ((rd_T44 t105 x13_1).f1))) (fun _ hk => hk.2) (.int .i64 ((rd_T44 t105 x13_1).f2))) (fun _ hk => hk.2) (.int .i64 ((rd_T44 t105 x13_1).f3))) (fun _ hk => trivial)⟩, ⟨by repeat (first | (with_reducible first | exact HB.out | apply below_alloc | apply pw_below_drewN | apply below_drew1 | refine below_set ?_ GE109.out) | exact HB.out)⟩⟩
              · rw [if_neg c10] at H
                have c10b0 : decide (((rd_T44 t105 x13_1).f1) ≤ a0) = false := decide_eq_false c10
                clear c10
                have H' := Aside0.mk H
                clear H
                have p108 : 0 ≤ (x13_1 : Int) := of_decide_eq_true (by first | (with_reducible assumption) | assumption)
                have q108 : x13_1 < (t105.length : Int) := of_decide_eq_true (by first | (with_reducible assumption) | assumption)
                obtain ⟨ad108, e108, hx108_0, hx108_1, hx108_2, hx108_3⟩ := at_T44 (Kd.R_reads' HO_11.out).2.2 x13_1 p108 q108
                cases e108
                replace p108 := eq_true p108
                replace q108 := eq_true q108
                go_wp2_with (first | ((with_reducible refine gate_dst (N := 5) rfl ?_); refine box_event ?hg (N := 5) ?hd (cs := #[.string (⟨#[]⟩ : ByteArray), .int .i64 0, .int .i64 0, .int .i64 0]) (t := 44) ?hr ?_; (case hd => rfl); (case hg => rfl); (case hr => first | (go_simp; done) | (go_simp; rfl)); intro gb109 hg w18 hbox hb; have n0_ := Aside0.mk (Kd.R_below (Kd.R_elderB (by (with_reducible repeat (first | apply Kd.R_alloc | apply Kd.R_drewN | apply Kd.R_drew)); exact HO_11.out) gb109 (Nat.le_of_eq hg.symm)) hb); have n1_ := Aside0.mk (below_step (by repeat (first | (with_reducible first | exact HB.out | apply below_alloc | apply pw_below_drewN | apply below_drew1) | exact HB.out)) hb); have n2_ := Aside0.mk (hbox); have n3_ := Aside0.mk ((by rw [hg]; exact (below_size (by repeat (first | (with_reducible first | exact HB.out | apply below_alloc | apply pw_below_drewN | apply below_drew1) | exact HB.out))) : w.heap.size ≤ gb109)); have n4_ := Aside0.mk ((by rw [hg]; exact (below_size (by repeat (first | (with_reducible first | exact HB.out | apply below_alloc | apply pw_below_drewN | apply below_drew1) | exact HB.out))) : w.heap.size ≤ gb109)); clear HO_11; clear HB; have HO_11 := n0_; have HB := n1_; have BK109 := n2_; have GW109 := n3_; have GE109 := n4_; clear n0_ n1_ n2_ n3_ n4_; clear hb hbox hg; have hcz19_0 : w18.cell? ⟨gb109, 0, none⟩ = some (.string (⟨#[]⟩ : ByteArray)) := (blk_cell BK109.out 0).trans rfl; have hcz19_1 : w18.cell? ⟨gb109, 1, none⟩ = some (.int .i64 0) := (blk_cell BK109.out 1).trans rfl; have hcz19_2 : w18.cell? ⟨gb109, 2, none⟩ = some (.int .i64 0) := (blk_cell BK109.out 2).trans rfl; have hcz19_3 : w18.cell? ⟨gb109, 3, none⟩ = some (.int .i64 0) := (blk_cell BK109.out 3).trans rfl; have hfz19_0 := blk_frozen BK109.out 0; have hfz19_1 := blk_frozen BK109.out 1; have hfz19_2 := blk_frozen BK109.out 2; have hfz19_3 := blk_frozen BK109.out 3))
                repeat (go_quiet (first | ((with_reducible refine gate_dst (N := 5) rfl ?_); refine box_event ?hg (N := 5) ?hd (cs := #[.string (⟨#[]⟩ : ByteArray), .int .i64 0, .int .i64 0, .int .i64 0]) (t := 44) ?hr ?_; (case hd => rfl); (case hg => rfl); (case hr => first | (go_simp; done) | (go_simp; rfl)); intro gb109 hg w18 hbox hb; have n0_ := Aside0.mk (Kd.R_below (Kd.R_elderB (by (with_reducible repeat (first | apply Kd.R_alloc | apply Kd.R_drewN | apply Kd.R_drew)); exact HO_11.out) gb109 (Nat.le_of_eq hg.symm)) hb); have n1_ := Aside0.mk (below_step (by repeat (first | (with_reducible first | exact HB.out | apply below_alloc | apply pw_below_drewN | apply below_drew1) | exact HB.out)) hb); have n2_ := Aside0.mk (hbox); have n3_ := Aside0.mk ((by rw [hg]; exact (below_size (by repeat (first | (with_reducible first | exact HB.out | apply below_alloc | apply pw_below_drewN | apply below_drew1) | exact HB.out))) : w.heap.size ≤ gb109)); have n4_ := Aside0.mk ((by rw [hg]; exact (below_size (by repeat (first | (with_reducible first | exact HB.out | apply below_alloc | apply pw_below_drewN | apply below_drew1) | exact HB.out))) : w.heap.size ≤ gb109)); clear HO_11; clear HB; have HO_11 := n0_; have HB := n1_; have BK109 := n2_; have GW109 := n3_; have GE109 := n4_; clear n0_ n1_ n2_ n3_ n4_; clear hb hbox hg; have hcz19_0 : w18.cell? ⟨gb109, 0, none⟩ = some (.string (⟨#[]⟩ : ByteArray)) := (blk_cell BK109.out 0).trans rfl; have hcz19_1 : w18.cell? ⟨gb109, 1, none⟩ = some (.int .i64 0) := (blk_cell BK109.out 1).trans rfl; have hcz19_2 : w18.cell? ⟨gb109, 2, none⟩ = some (.int .i64 0) := (blk_cell BK109.out 2).trans rfl; have hcz19_3 : w18.cell? ⟨gb109, 3, none⟩ = some (.int .i64 0) := (blk_cell BK109.out 3).trans rfl; have hfz19_0 := blk_frozen BK109.out 0; have hfz19_1 := blk_frozen BK109.out 1; have hfz19_2 := blk_frozen BK109.out 2; have hfz19_3 := blk_frozen BK109.out 3)); try go_wp2_with (first | ((with_reducible refine gate_dst (N := 5) rfl ?_); refine box_event ?hg (N := 5) ?hd (cs := #[.string (⟨#[]⟩ : ByteArray), .int .i64 0, .int .i64 0, .int .i64 0]) (t := 44) ?hr ?_; (case hd => rfl); (case hg => rfl); (case hr => first | (go_simp; done) | (go_simp; rfl)); intro gb109 hg w18 hbox hb; have n0_ := Aside0.mk (Kd.R_below (Kd.R_elderB (by (with_reducible repeat (first | apply Kd.R_alloc | apply Kd.R_drewN | apply Kd.R_drew)); exact HO_11.out) gb109 (Nat.le_of_eq hg.symm)) hb); have n1_ := Aside0.mk (below_step (by repeat (first | (with_reducible first | exact HB.out | apply below_alloc | apply pw_below_drewN | apply below_drew1) | exact HB.out)) hb); have n2_ := Aside0.mk (hbox); have n3_ := Aside0.mk ((by rw [hg]; exact (below_size (by repeat (first | (with_reducible first | exact HB.out | apply below_alloc | apply pw_below_drewN | apply below_drew1) | exact HB.out))) : w.heap.size ≤ gb109)); have n4_ := Aside0.mk ((by rw [hg]; exact (below_size (by repeat (first | (with_reducible first | exact HB.out | apply below_alloc | apply pw_below_drewN | apply below_drew1) | exact HB.out))) : w.heap.size ≤ gb109)); clear HO_11; clear HB; have HO_11 := n0_; have HB := n1_; have BK109 := n2_; have GW109 := n3_; have GE109 := n4_; clear n0_ n1_ n2_ n3_ n4_; clear hb hbox hg; have hcz19_0 : w18.cell? ⟨gb109, 0, none⟩ = some (.string (⟨#[]⟩ : ByteArray)) := (blk_cell BK109.out 0).trans rfl; have hcz19_1 : w18.cell? ⟨gb109, 1, none⟩ = some (.int .i64 0) := (blk_cell BK109.out 1).trans rfl; have hcz19_2 : w18.cell? ⟨gb109, 2, none⟩ = some (.int .i64 0) := (blk_cell BK109.out 2).trans rfl; have hcz19_3 : w18.cell? ⟨gb109, 3, none⟩ = some (.int .i64 0) := (blk_cell BK109.out 3).trans rfl; have hfz19_0 := blk_frozen BK109.out 0; have hfz19_1 := blk_frozen BK109.out 1; have hfz19_2 := blk_frozen BK109.out 2; have hfz19_3 := blk_frozen BK109.out 3)))
                go_roundg k1
                case measure => have := HK1.out; omega
                case rel => exact ⟨(wrap64 (x13_1 + 1)), (by first | rfl | (simp; done) | (simp only [i64_w, i32_w]; done) | (simp [i64_w, i32_w]; done) | (simp [*]; done)), H', ⟨by have := HK1.out; omega⟩, ⟨by (with_reducible repeat (first | apply Kd.R_alloc | apply Kd.R_drewN | apply Kd.R_drew)); exact Kd.R_mono (Kd.R_far (p := ⟨gb109, 3, none⟩) (Kd.R_far (p := ⟨gb109, 2, none⟩) (Kd.R_far (p := ⟨gb109, 1, none⟩) (Kd.R_far (p := ⟨gb109, 0, none⟩) (Kd.R_mono HO_11.out (fun k_ hk => (⟨hk, hk.2⟩ : _ ∧ k_ ≠ gb109))) (fun _ hk => hk.2) (.string ((rd_T44 t105 x13_1).f0))) (fun _ hk => hk.2) (.int .i64 ((rd_T44 t105 x13_1).f1))) (fun _ hk => hk.2) (.int .i64 ((rd_T44 t105 x13_1).f2))) (fun _ hk => hk.2) (.int .i64 ((rd_T44 t105 x13_1).f3))) (fun _ hk => trivial)⟩, ⟨by repeat (first | (with_reducible first | exact HB.out | apply below_alloc | apply pw_below_drewN | apply below_drew1 | refine below_set ?_ GE109.out) | exact HB.out)⟩⟩
            · rw [if_neg c9] at H
              exact absurd H (by simp)
          · rw [if_neg c8] at H
            exact absurd H (by simp)
        · rw [if_neg c7] at H
          have c7b0 : decide (x13_1 < (t105.length : Int)) = false := decide_eq_false c7
          clear c7
          obtain rfl := Option.some.inj H
          go_wp2
          repeat (go_quiet (fail); try go_wp2)
          go_ret
          exact ⟨by first | rfl | (simp [errW_none, errW_some] <;> rfl) | (simp [*, errW_none, errW_some] <;> rfl), by repeat (first | (with_reducible first | exact HB.out | apply below_alloc | apply pw_below_drewN | apply below_drew1) | exact HB.out)⟩
  · rw [if_neg c3] at H
    have c3b0 : (t104.toList == ([] : List UInt8)) = false := beq_eq_false_iff_ne.mpr c3
    have c3b1 : (t104.toList != ([] : List UInt8)) = true := bne_iff_ne.mpr c3
    obtain rfl := Option.some.inj H
    go_enter Tryd.func16, Tryd.ntmps16
    go_wp2_with (first | (go_at_call 26; (with_reducible refine (speak_own.calls a0 t104 _ A2.out).mono ?_); rintro e w' ⟨rfl, ⟨nd, rfl⟩⟩; (try first | exact ⟨rfl, _, World.drewN_drewN _ _ _⟩ | exact ⟨rfl, _, Eq.trans (World.drewN_drewN _ _ _) (congrArg (World.drewN _) (Nat.add_assoc _ _ _))⟩)))
    repeat (go_quiet (first | (go_at_call 26; (with_reducible refine (speak_own.calls a0 t104 _ A2.out).mono ?_); rintro e w' ⟨rfl, ⟨nd, rfl⟩⟩; (try first | exact ⟨rfl, _, World.drewN_drewN _ _ _⟩ | exact ⟨rfl, _, Eq.trans (World.drewN_drewN _ _ _) (congrArg (World.drewN _) (Nat.add_assoc _ _ _))⟩))); try go_wp2_with (first | (go_at_call 26; (with_reducible refine (speak_own.calls a0 t104 _ A2.out).mono ?_); rintro e w' ⟨rfl, ⟨nd, rfl⟩⟩; (try first | exact ⟨rfl, _, World.drewN_drewN _ _ _⟩ | exact ⟨rfl, _, Eq.trans (World.drewN_drewN _ _ _) (congrArg (World.drewN _) (Nat.add_assoc _ _ _))⟩))))
    go_ret
    exact ⟨by first | rfl | (simp [errW_none, errW_some] <;> rfl) | (simp [*, errW_none, errW_some] <;> rfl), by repeat (first | (with_reducible first | exact HB.out | apply below_alloc | apply pw_below_drewN | apply below_drew1) | exact HB.out)⟩

/-! ### speak_number: function 22 -/
def speak_number.f (a0 : ByteArray) : Option (Int × Bool) := if a0.size ≤ 281474976710656 then some (numS a0) else none
theorem speak_number.calls (a0 : ByteArray) (r1 : Int) (r2 : Bool) (w : World) (hG : Glob w) (h : speak_number.f a0 = some (r1, r2)) :
    Calls Tryd.prog 22 #[.string a0] w fun e w' => e = .returned (.tuple #[.int .u64 r1, .bool r2]) ∧ Below w.heap.size w w' := by
  unfold speak_number.f at h
  split at h
  · rename_i hc
    have h' : numS a0 = (r1, r2) := Option.some.inj h
    have := number_calls a0 hc w hG.es hG.er
    rw [h'] at this
    exact this
  · cases h

/-! ### speak_CsrOf: function 13 -/
def speak_CsrOf.l0 : Nat → ByteArray → Int → Option (Int × Bool)
  | 0, _, _ => none
  | k + 1, x0, x9 => if x9 < 4096 then ((speak_named.f k x9).bind fun t111 => (if t111.toList = x0.toList then (some (x9, true)) else (speak_CsrOf.l0 k x0 (wrap64 (x9 + 1))))) else ((speak_number.f x0).bind fun bt112 => (if bt112.2 = true then (if 0 < (x0.size : Int) then (if (bt x0 0) = 45 then (some (0, false)) else (if bt112.1 > 4095 then (some (0, false)) else (some (wrap64 (bt112.1), true)))) else (none)) else (some (0, false))))
def speak_CsrOf.f (k : Nat) (a0 : ByteArray) : Option (Int × Bool) := if a0.toList = ([] : List UInt8) then (some (0, false)) else (speak_CsrOf.l0 k a0 0)
theorem speak_CsrOf.mono_l : ∀ k, (∀ y0 y1, LeO (speak_CsrOf.l0 k y0 y1) (speak_CsrOf.l0 (k + 1) y0 y1))
  | 0 => fun _ _ r h => by simp [speak_CsrOf.l0] at h
  | k + 1 => by
    have ih0 := speak_CsrOf.mono_l k
    · intro y0 y1
      unfold speak_CsrOf.l0
      repeat' first
      | (with_reducible exact ih0 _ _)
      | (with_reducible exact speak_named.mono _ _)
      | (with_reducible exact LeO.refl _)
      | (with_reducible exact LeO.none _)
      | (with_reducible refine LeO.ite ?_ ?_)
      | (with_reducible refine LeO.bind ?_ (fun _ => ?_))
      | exact ih0 _ _
      | exact speak_named.mono _ _
      | exact LeO.none _
      | refine LeO.ite ?_ ?_
      | refine LeO.bind ?_ (fun _ => ?_)
theorem speak_CsrOf.mono : ∀ a0 k, LeO (speak_CsrOf.f k a0) (speak_CsrOf.f (k + 1) a0) := by
  intro a0 k
  have ih0 := speak_CsrOf.mono_l k
  unfold speak_CsrOf.f
  repeat' first
      | (with_reducible exact ih0 _ _)
      | (with_reducible exact speak_named.mono _ _)
      | (with_reducible exact LeO.refl _)
      | (with_reducible exact LeO.none _)
      | (with_reducible refine LeO.ite ?_ ?_)
      | (with_reducible refine LeO.bind ?_ (fun _ => ?_))
      | exact ih0 _ _
      | exact speak_named.mono _ _
      | exact LeO.none _
      | refine LeO.ite ?_ ?_
      | refine LeO.bind ?_ (fun _ => ?_)
set_option maxHeartbeats 8000000 in
set_option maxRecDepth 100000 in
theorem speak_CsrOf.calls (k : Nat) (a0 : ByteArray) (r1 : Int) (r2 : Bool) (w : World) (hG : Glob w) (h : speak_CsrOf.f k a0 = some (r1, r2)) :
    Calls Tryd.prog 13 #[.string a0] w fun e w' => e = .returned (.tuple #[.int .i64 r1, .bool r2]) ∧ Below w.heap.size w w' := by
  have HG := Aside0.mk hG
  clear hG
  have HB := Aside0.mk (Below.refl w.heap.size w)
  have H : (if a0.toList = ([] : List UInt8) then (some (0, false)) else (speak_CsrOf.l0 k a0 0)) = some (r1, r2) := h
  clear h
  by_cases c2 : a0.toList = ([] : List UInt8)
  · rw [if_pos c2] at H
    have c2b0 : (a0.toList == ([] : List UInt8)) = true := beq_iff_eq.mpr c2
    have c2b1 : (a0.toList != ([] : List UInt8)) = false := bne_eq_false_iff_eq.mpr c2
    clear c2
    simp only [Option.some.injEq, Prod.mk.injEq] at H
    obtain ⟨rfl, rfl⟩ := H
    go_enter Tryd.func13, Tryd.ntmps13
    go_wp2
    go_ret2
    exact ⟨by first | rfl | (simp [errW_none, errW_some] <;> rfl) | (simp [*, errW_none, errW_some] <;> rfl), by repeat (first | (with_reducible first | exact HB.out | apply below_alloc | apply pw_below_drewN | apply below_drew1) | exact HB.out)⟩
  · rw [if_neg c2] at H
    have c2b0 : (a0.toList == ([] : List UInt8)) = false := beq_eq_false_iff_ne.mpr c2
    have c2b1 : (a0.toList != ([] : List UInt8)) = true := bne_iff_ne.mpr c2
    have H' := Aside0.mk H
    clear H
    go_enter Tryd.func13, Tryd.ntmps13
    go_wp2
    go_loopg [9] k (fun kq v9 w' => ∃ (x9_1 : Int), v9 = .int .i64 x9_1 ∧ Aside0 (speak_CsrOf.l0 kq a0 x9_1 = some (r1, r2)) ∧ Aside0 (kq ≤ k) ∧ Aside0 (Below w.heap.size w w'))
    case atStart => exact ⟨(0), (by first | rfl | (simp; done) | (simp only [i64_w, i32_w]; done) | (simp [i64_w, i32_w]; done) | (simp [*]; done)), H', ⟨Nat.le_refl _⟩, ⟨by repeat (first | (with_reducible first | exact HB.out | apply below_alloc | apply pw_below_drewN | apply below_drew1) | exact HB.out)⟩⟩
    case round =>
      clear H'
      try clear c1
      try clear c2
      try clear c2b0
      try clear c2b1
      try clear p2
      obtain ⟨x9_1, rfl, HA, HK1, HB⟩ := hrel
      cases gk with
      | zero => exact absurd HA.out (by simp [speak_CsrOf.l0])
      | succ k1 =>
        have H := HA.out
        clear HA
        simp only [speak_CsrOf.l0] at H
        by_cases c3 : x9_1 < 4096
        · rw [if_pos c3] at H
          have c3b0 : decide (x9_1 < 4096) = true := decide_eq_true c3
          clear c3
          replace H := Option.bind_eq_some_iff.mp H
          obtain ⟨t111, A40, H⟩ := H
          replace H : (if t111.toList = a0.toList then (some (x9_1, true)) else (speak_CsrOf.l0 k1 a0 (wrap64 (x9_1 + 1)))) = some (r1, r2) := H
          have A4 := Aside0.mk A40
          clear A40
          by_cases c5 : t111.toList = a0.toList
          · rw [if_pos c5] at H
            have c5b0 : (t111.toList == a0.toList) = true := beq_iff_eq.mpr c5
            have c5b1 : (t111.toList != a0.toList) = false := bne_eq_false_iff_eq.mpr c5
            clear c5
            simp only [Option.some.injEq, Prod.mk.injEq] at H
            obtain ⟨rfl, rfl⟩ := H
            go_wp2_with (first | ((with_reducible refine gate_callee (f := 16) rfl ?_); refine goesL_ (some 13) rfl rfl Tryd.func16 (by kernel_rfl) rfl #[.int .i64 x9_1] rfl (by (try simp only [List.map_toArray, List.map_cons, List.map_nil]); first | done | rfl | (simp only [List.length_drop, List.length_take]; rfl)) ?_; (with_reducible refine (speak_named.calls k1 x9_1 t111 _ A4.out).mono ?_); rintro e w6 ⟨rfl, hb⟩; refine ⟨_, rfl, ?_⟩; have n0_ := Aside0.mk (below_step (by repeat (first | (with_reducible first | exact HB.out | apply below_alloc | apply pw_below_drewN | apply below_drew1) | exact HB.out)) hb); clear HB; have HB := n0_; clear n0_; (try clear hb); (try clear hb2); (try clear hk); (try clear hi)))
            go_ret2
            exact ⟨by first | rfl | (simp [errW_none, errW_some] <;> rfl) | (simp [*, errW_none, errW_some] <;> rfl), by repeat (first | (with_reducible first | exact HB.out | apply below_alloc | apply pw_below_drewN | apply below_drew1) | exact HB.out)⟩
          · rw [if_neg c5] at H
            have c5b0 : (t111.toList == a0.toList) = false := beq_eq_false_iff_ne.mpr c5
            have c5b1 : (t111.toList != a0.toList) = true := bne_iff_ne.mpr c5
            have H' := Aside0.mk H
            clear H
            go_wp2_with (first | ((with_reducible refine gate_callee (f := 16) rfl ?_); refine goesL_ (some 13) rfl rfl Tryd.func16 (by kernel_rfl) rfl #[.int .i64 x9_1] rfl (by (try simp only [List.map_toArray, List.map_cons, List.map_nil]); first | done | rfl | (simp only [List.length_drop, List.length_take]; rfl)) ?_; (with_reducible refine (speak_named.calls k1 x9_1 t111 _ A4.out).mono ?_); rintro e w7 ⟨rfl, hb⟩; refine ⟨_, rfl, ?_⟩; have n0_ := Aside0.mk (below_step (by repeat (first | (with_reducible first | exact HB.out | apply below_alloc | apply pw_below_drewN | apply below_drew1) | exact HB.out)) hb); clear HB; have HB := n0_; clear n0_; (try clear hb); (try clear hb2); (try clear hk); (try clear hi)))
            go_roundg k1
            case measure => have := HK1.out; omega
            case rel => exact ⟨(wrap64 (x9_1 + 1)), (by first | rfl | (simp; done) | (simp only [i64_w, i32_w]; done) | (simp [i64_w, i32_w]; done) | (simp [*]; done)), H', ⟨by have := HK1.out; omega⟩, ⟨by repeat (first | (with_reducible first | exact HB.out | apply below_alloc | apply pw_below_drewN | apply below_drew1) | exact HB.out)⟩⟩
        · rw [if_neg c3] at H
          have c3b0 : decide (x9_1 < 4096) = false := decide_eq_false c3
          clear c3
          replace H := Option.bind_eq_some_iff.mp H
          obtain ⟨⟨t112, t113⟩, A80, H⟩ := H
          replace H : (if t113 = true then (if 0 < (a0.size : Int) then (if (bt a0 0) = 45 then (some (0, false)) else (if t112 > 4095 then (some (0, false)) else (some (wrap64 (t112), true)))) else (none)) else (some (0, false))) = some (r1, r2) := H
          have A8 := Aside0.mk A80
          clear A80
          by_cases c9 : t113 = true
          · subst c9
            have H1 : (if 0 < (a0.size : Int) then (if (bt a0 0) = 45 then (some (0, false)) else (if t112 > 4095 then (some (0, false)) else (some (wrap64 (t112), true)))) else (none)) = some (r1, r2) := by rw [if_pos rfl] at H; exact H
            clear H
            have H := H1
            clear H1
            by_cases c10 : 0 < (a0.size : Int)
            · rw [if_pos c10] at H
              have c10b0 : decide (0 < (a0.size : Int)) = true := decide_eq_true c10
              have c10b1 : decide (0 < a0.size) = true := decide_eq_true (by omega)
              clear c10
              by_cases c12 : (bt a0 0) = 45
              · rw [if_pos c12] at H
                have c12b0 : ((bt a0 0) == 45) = true := beq_iff_eq.mpr c12
                have c12b1 : ((bt a0 0) != 45) = false := bne_eq_false_iff_eq.mpr c12
                clear c12
                simp only [Option.some.injEq, Prod.mk.injEq] at H
                obtain ⟨rfl, rfl⟩ := H
                go_wp2_with (first | ((with_reducible refine gate_callee (f := 22) rfl ?_); refine goesL_ (some 20) rfl rfl Tryd.func22 (by kernel_rfl) rfl #[.string a0] rfl (by (try simp only [List.map_toArray, List.map_cons, List.map_nil]); first | done | rfl | (simp only [List.length_drop, List.length_take]; rfl)) ?_; (with_reducible refine (speak_number.calls a0 t112 true _ ?side1 A8.out).mono ?_); (case side1 => first | exact HG.out | exact Glob.step HG.out HB.out | exact Glob.step HG.out (by repeat (first | exact Below.refl _ _ | apply pw_below_drewN | apply below_drew1)) | exact Glob.step HG.out (by repeat (first | (with_reducible first | exact HB.out | apply below_alloc | apply pw_below_drewN | apply below_drew1) | exact HB.out))); rintro e w13 ⟨rfl, hb⟩; refine ⟨_, rfl, ?_⟩; have n0_ := Aside0.mk (below_step (by repeat (first | (with_reducible first | exact HB.out | apply below_alloc | apply pw_below_drewN | apply below_drew1) | exact HB.out)) hb); clear HB; have HB := n0_; clear n0_; (try clear hb); (try clear hb2); (try clear hk); (try clear hi); have p11 : 0 ≤ (0 : Int) := (by omega); have q11 : 0 < a0.size := (by have : (0 : Int) < (a0.size : Int) := of_decide_eq_true (by first | (with_reducible assumption) | assumption); omega); have hx11 : ∀ h : 0 < a0.size, ((a0[0]'h).toNat : Int) = bt a0 0 := bt_at a0 0; clear p11; have qi11 : (0 < (a0.size : Int)) = True := eq_true (of_decide_eq_true (by first | (with_reducible assumption) | assumption)); replace q11 := eq_true q11))
                go_ret2
                exact ⟨by first | rfl | (simp [errW_none, errW_some] <;> rfl) | (simp [*, errW_none, errW_some] <;> rfl), by repeat (first | (with_reducible first | exact HB.out | apply below_alloc | apply pw_below_drewN | apply below_drew1) | exact HB.out)⟩
              · rw [if_neg c12] at H
                have c12b0 : ((bt a0 0) == 45) = false := beq_eq_false_iff_ne.mpr c12
                have c12b1 : ((bt a0 0) != 45) = true := bne_iff_ne.mpr c12
                by_cases c14 : t112 > 4095
                · rw [if_pos c14] at H
                  have c14b0 : decide (4095 < t112) = true := decide_eq_true c14
                  clear c14
                  simp only [Option.some.injEq, Prod.mk.injEq] at H
                  obtain ⟨rfl, rfl⟩ := H
                  go_wp2_with (first | ((with_reducible refine gate_callee (f := 22) rfl ?_); refine goesL_ (some 20) rfl rfl Tryd.func22 (by kernel_rfl) rfl #[.string a0] rfl (by (try simp only [List.map_toArray, List.map_cons, List.map_nil]); first | done | rfl | (simp only [List.length_drop, List.length_take]; rfl)) ?_; (with_reducible refine (speak_number.calls a0 t112 true _ ?side1 A8.out).mono ?_); (case side1 => first | exact HG.out | exact Glob.step HG.out HB.out | exact Glob.step HG.out (by repeat (first | exact Below.refl _ _ | apply pw_below_drewN | apply below_drew1)) | exact Glob.step HG.out (by repeat (first | (with_reducible first | exact HB.out | apply below_alloc | apply pw_below_drewN | apply below_drew1) | exact HB.out))); rintro e w15 ⟨rfl, hb⟩; refine ⟨_, rfl, ?_⟩; have n0_ := Aside0.mk (below_step (by repeat (first | (with_reducible first | exact HB.out | apply below_alloc | apply pw_below_drewN | apply below_drew1) | exact HB.out)) hb); clear HB; have HB := n0_; clear n0_; (try clear hb); (try clear hb2); (try clear hk); (try clear hi); have p11 : 0 ≤ (0 : Int) := (by omega); have q11 : 0 < a0.size := (by have : (0 : Int) < (a0.size : Int) := of_decide_eq_true (by first | (with_reducible assumption) | assumption); omega); have hx11 : ∀ h : 0 < a0.size, ((a0[0]'h).toNat : Int) = bt a0 0 := bt_at a0 0; clear p11; have qi11 : (0 < (a0.size : Int)) = True := eq_true (of_decide_eq_true (by first | (with_reducible assumption) | assumption)); replace q11 := eq_true q11))
                  go_ret2
                  exact ⟨by first | rfl | (simp [errW_none, errW_some] <;> rfl) | (simp [*, errW_none, errW_some] <;> rfl), by repeat (first | (with_reducible first | exact HB.out | apply below_alloc | apply pw_below_drewN | apply below_drew1) | exact HB.out)⟩
                · rw [if_neg c14] at H
                  have c14b0 : decide (4095 < t112) = false := decide_eq_false c14
                  clear c14
                  simp only [Option.some.injEq, Prod.mk.injEq] at H
                  obtain ⟨rfl, rfl⟩ := H
                  go_wp2_with (first | ((with_reducible refine gate_callee (f := 22) rfl ?_); refine goesL_ (some 20) rfl rfl Tryd.func22 (by kernel_rfl) rfl #[.string a0] rfl (by (try simp only [List.map_toArray, List.map_cons, List.map_nil]); first | done | rfl | (simp only [List.length_drop, List.length_take]; rfl)) ?_; (with_reducible refine (speak_number.calls a0 t112 true _ ?side1 A8.out).mono ?_); (case side1 => first | exact HG.out | exact Glob.step HG.out HB.out | exact Glob.step HG.out (by repeat (first | exact Below.refl _ _ | apply pw_below_drewN | apply below_drew1)) | exact Glob.step HG.out (by repeat (first | (with_reducible first | exact HB.out | apply below_alloc | apply pw_below_drewN | apply below_drew1) | exact HB.out))); rintro e w16 ⟨rfl, hb⟩; refine ⟨_, rfl, ?_⟩; have n0_ := Aside0.mk (below_step (by repeat (first | (with_reducible first | exact HB.out | apply below_alloc | apply pw_below_drewN | apply below_drew1) | exact HB.out)) hb); clear HB; have HB := n0_; clear n0_; (try clear hb); (try clear hb2); (try clear hk); (try clear hi); have p11 : 0 ≤ (0 : Int) := (by omega); have q11 : 0 < a0.size := (by have : (0 : Int) < (a0.size : Int) := of_decide_eq_true (by first | (with_reducible assumption) | assumption); omega); have hx11 : ∀ h : 0 < a0.size, ((a0[0]'h).toNat : Int) = bt a0 0 := bt_at a0 0; clear p11; have qi11 : (0 < (a0.size : Int)) = True := eq_true (of_decide_eq_true (by first | (with_reducible assumption) | assumption)); replace q11 := eq_true q11))
                  go_ret2
                  exact ⟨by first | rfl | (simp [errW_none, errW_some] <;> rfl) | (simp [*, errW_none, errW_some] <;> rfl), by repeat (first | (with_reducible first | exact HB.out | apply below_alloc | apply pw_below_drewN | apply below_drew1) | exact HB.out)⟩
            · rw [if_neg c10] at H
              exact absurd H (by simp)
          · replace c9 := Bool.eq_false_iff.mpr c9
            subst c9
            have H1 : (some (0, false)) = some (r1, r2) := by rw [if_neg (show ¬ (false = true) by decide)] at H; exact H
            clear H
            have H := H1
            clear H1
            simp only [Option.some.injEq, Prod.mk.injEq] at H
            obtain ⟨rfl, rfl⟩ := H
            go_wp2_with (first | ((with_reducible refine gate_callee (f := 22) rfl ?_); refine goesL_ (some 20) rfl rfl Tryd.func22 (by kernel_rfl) rfl #[.string a0] rfl (by (try simp only [List.map_toArray, List.map_cons, List.map_nil]); first | done | rfl | (simp only [List.length_drop, List.length_take]; rfl)) ?_; (with_reducible refine (speak_number.calls a0 t112 false _ ?side1 A8.out).mono ?_); (case side1 => first | exact HG.out | exact Glob.step HG.out HB.out | exact Glob.step HG.out (by repeat (first | exact Below.refl _ _ | apply pw_below_drewN | apply below_drew1)) | exact Glob.step HG.out (by repeat (first | (with_reducible first | exact HB.out | apply below_alloc | apply pw_below_drewN | apply below_drew1) | exact HB.out))); rintro e w17 ⟨rfl, hb⟩; refine ⟨_, rfl, ?_⟩; have n0_ := Aside0.mk (below_step (by repeat (first | (with_reducible first | exact HB.out | apply below_alloc | apply pw_below_drewN | apply below_drew1) | exact HB.out)) hb); clear HB; have HB := n0_; clear n0_; (try clear hb); (try clear hb2); (try clear hk); (try clear hi)))
            go_ret2
            exact ⟨by first | rfl | (simp [errW_none, errW_some] <;> rfl) | (simp [*, errW_none, errW_some] <;> rfl), by repeat (first | (with_reducible first | exact HB.out | apply below_alloc | apply pw_below_drewN | apply below_drew1) | exact HB.out)⟩

end Go.Proofs.YtkcaebdhkodleaaDoor.PCsn
