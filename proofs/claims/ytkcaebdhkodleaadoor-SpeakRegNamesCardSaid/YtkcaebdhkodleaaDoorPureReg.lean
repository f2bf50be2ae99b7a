/- The pure side of SpeakRegs and SpeakRegNames: the program's names and the document's are one list, and numbers below 32 are printed alike. -/
import Derived.Test.YtkcaebdhkodleaaDoorRegx1
import Derived.Test.YtkcaebdhkodleaaDoorRegx2
set_option linter.unusedVariables false
set_option linter.unusedSimpArgs false
namespace Go.Proofs.YtkcaebdhkodleaaDoor.PReg
open Go.RowKit Go.Proofs.YtkcaebdhkodleaaDoorW.PrintWords Go.Proofs.YtkcaebdhkodleaaDoorW.PrintLast

theorem w64 {x : Int} (h1 : -9223372036854775808 ≤ x) (h2 : x ≤ 9223372036854775807) : wrap64 x = x := by unfold wrap64; omega
theorem fields_is : strings_Fields.f (⟨#[122, 101, 114, 111, 32, 114, 97, 32, 115, 112, 32, 103, 112, 32, 116, 112, 32, 116, 48, 32, 116, 49, 32, 116, 50, 32, 115, 48, 32, 115, 49, 32, 97, 48, 32, 97, 49, 32, 97, 50, 32, 97, 51, 32, 97, 52, 32, 97, 53, 32, 97, 54, 32, 97, 55, 32, 115, 50, 32, 115, 51, 32, 115, 52, 32, 115, 53, 32, 115, 54, 32, 115, 55, 32, 115, 56, 32, 115, 57, 32, 115, 49, 48, 32, 115, 49, 49, 32, 116, 51, 32, 116, 52, 32, 116, 53, 32, 116, 54]⟩ : ByteArray) = some glob0 := by kernel_rfl
theorem glob_len : (glob0.length : Int) = 32 := rfl
theorem reg_is (n : Int) : speak_Reg.f n = anvilref07_Reg.f n := by
  unfold speak_Reg.f anvilref07_Reg.f
  rw [fields_is]
  simp only [Option.bind_some]
  rfl
theorem reg_some (n : Int) : ∃ s, anvilref07_Reg.f n = some s := by
  unfold anvilref07_Reg.f
  by_cases h1 : n < 0
  · exact ⟨_, if_pos h1⟩
  · by_cases h2 : n > 31
    · exact ⟨_, by rw [if_neg h1, if_pos h2]⟩
    · exact ⟨_, by rw [if_neg h1, if_neg h2, if_pos (by omega), if_pos (by omega)]⟩
theorem regs_l0 (x0 : Int) : ∀ (d : Nat) (i : Int), i + d = 33 → -1 ≤ i → Ev (fun k => anvillaw07_SpeakRegs.l0 k x0 i) true
  | 0, i, h, h1 => by
    obtain ⟨s, hs⟩ := reg_some x0
    refine Ev.step (f := fun _ => some true) (fun k => ?_) (Ev.now _)
    rw [anvillaw07_SpeakRegs.l0, if_neg (by omega), reg_is, hs]
    simp
  | d + 1, i, h, h1 => by
    obtain ⟨s, hs⟩ := reg_some i
    refine Ev.step (fun k => ?_) (regs_l0 x0 d (i + 1) (by omega) (by omega))
    rw [anvillaw07_SpeakRegs.l0, if_pos (by omega), reg_is, hs]
    simp only [Option.bind_some, if_true]
    rw [w64 (by omega) (by omega)]
theorem pureRegs (a0 : Int) : ∃ k, anvillaw07_SpeakRegs.f k a0 = some true := Ev.rounds (regs_l0 a0 34 (-1) (by omega) (by omega))

def dec (i : Nat) : ByteArray := ⟨(Lib.decDigits i).toArray⟩
theorem dec_all : ∀ i : Nat, i < 32 → anvilref07_Decimal.f 3 (i : Int) = some (dec i) ∧ (dec i).size ≤ 2 := by decide +kernel
theorem names_l0 (x0 : ByteArray) : ∀ (d i : Nat), i + d = 32 → ∃ r, Ev (fun k => speak_RegOf.l0 k x0 glob0 32 (i : Int)) r ∧ Ev (fun k => anvilref07_RegOf.l0 k x0 (i : Int)) r
  | 0, i, h => by
    refine ⟨(0, false), Ev.step (f := fun _ => some (0, false)) (fun k => ?_) (Ev.now _), Ev.step (f := fun _ => some (0, false)) (fun k => ?_) (Ev.now _)⟩
    · rw [speak_RegOf.l0, if_neg (by omega)]
    · rw [anvilref07_RegOf.l0, if_neg (by omega)]
  | d + 1, i, h => by
    obtain ⟨hd, hs⟩ := dec_all i (by omega)
    have hev : Ev (fun k => anvilref07_Decimal.f k (i : Int)) (dec i) := Ev.of (anvilref07_Decimal.mono _) hd
    have hit : strconv_Itoa_21.f (i : Int) = some (dec i) := by
      unfold strconv_Itoa_21.f
      rw [if_pos (by omega), Int.toNat_natCast]
      rfl
    by_cases h1 : x0.toList = (rdOf ByteArray.empty glob0 (i : Int)).toList
    · refine ⟨((i : Int), true), Ev.step (f := fun _ => some ((i : Int), true)) (fun k => ?_) (Ev.now _), Ev.step (f := fun _ => some ((i : Int), true)) (fun k => ?_) (Ev.now _)⟩
      · rw [speak_RegOf.l0, if_pos (by omega), if_pos (by omega), glob_len, if_pos (by omega), if_pos h1]
      · rw [anvilref07_RegOf.l0, if_pos (by omega), if_pos (by omega), if_pos h1]
    · by_cases h2 : x0.toList = ((⟨#[120]⟩ : ByteArray) ++ dec i).toList
      · refine ⟨((i : Int), true), Ev.step (f := fun _ => some ((i : Int), true)) (fun k => ?_) (Ev.now _), Ev.step (f := fun k => (anvilref07_Decimal.f k (i : Int)).bind fun t123 => (if 1 + t123.size ≤ 9223372036854775807 then (if x0.toList = ((⟨#[120]⟩ : ByteArray) ++ t123).toList then (some ((i : Int), true)) else (anvilref07_RegOf.l0 k x0 (wrap64 ((i : Int) + 1)))) else (none))) (fun k => ?_) (Ev.bind (f := fun k t123 => (if 1 + t123.size ≤ 9223372036854775807 then (if x0.toList = ((⟨#[120]⟩ : ByteArray) ++ t123).toList then (some ((i : Int), true)) else (anvilref07_RegOf.l0 k x0 (wrap64 ((i : Int) + 1)))) else (none))) hev ?_)⟩
        · rw [speak_RegOf.l0, if_pos (by omega), if_pos (by omega), glob_len, if_pos (by omega), if_neg h1, hit, Option.bind_some, if_pos (by omega), if_pos h2]
        · rw [anvilref07_RegOf.l0, if_pos (by omega), if_pos (by omega), if_neg h1]
        · exact Ev.congr (f := fun _ => some ((i : Int), true)) (fun k => by rw [if_pos (by omega), if_pos h2]) (Ev.now _)
      · obtain ⟨r, e1, e2⟩ := names_l0 x0 d (i + 1) (by omega)
        refine ⟨r, Ev.step (fun k => ?_) e1, Ev.step (f := fun k => (anvilref07_Decimal.f k (i : Int)).bind fun t123 => (if 1 + t123.size ≤ 9223372036854775807 then (if x0.toList = ((⟨#[120]⟩ : ByteArray) ++ t123).toList then (some ((i : Int), true)) else (anvilref07_RegOf.l0 k x0 (wrap64 ((i : Int) + 1)))) else (none))) (fun k => ?_) (Ev.bind (f := fun k t123 => (if 1 + t123.size ≤ 9223372036854775807 then (if x0.toList = ((⟨#[120]⟩ : ByteArray) ++ t123).toList then (some ((i : Int), true)) else (anvilref07_RegOf.l0 k x0 (wrap64 ((i : Int) + 1)))) else (none))) hev ?_)⟩
        · rw [speak_RegOf.l0, if_pos (by omega), if_pos (by omega), glob_len, if_pos (by omega), if_neg h1, hit, Option.bind_some, if_pos (by omega), if_neg h2, w64 (by omega) (by omega)]
          rfl
        · rw [anvilref07_RegOf.l0, if_pos (by omega), if_pos (by omega), if_neg h1]
        · refine Ev.congr (fun k => ?_) e2
          rw [if_pos (by omega), if_neg h2, w64 (by omega) (by omega)]
          rfl
theorem pureRegNames (a0 : ByteArray) : ∃ k, anvillaw07_SpeakRegNames.f k a0 = some true := by
  refine Ev.rounds ?_
  have key : ∃ r, Ev (fun k => speak_RegOf.f k a0) r ∧ Ev (fun k => anvilref07_RegOf.f k a0) r := by
    by_cases h : a0.toList = ([102, 112] : List UInt8)
    · exact ⟨(8, true), Ev.congr (f := fun _ => some (8, true)) (fun k => by unfold speak_RegOf.f; rw [if_pos h]) (Ev.now _), Ev.congr (f := fun _ => some (8, true)) (fun k => by unfold anvilref07_RegOf.f; rw [if_pos h]) (Ev.now _)⟩
    · obtain ⟨r, e1, e2⟩ := names_l0 a0 32 0 (by omega)
      refine ⟨r, Ev.congr (fun k => ?_) e1, Ev.congr (fun k => ?_) e2⟩
      · unfold speak_RegOf.f
        rw [if_neg h, fields_is]
        rfl
      · unfold anvilref07_RegOf.f
        rw [if_neg h]
        rfl
  obtain ⟨r, e1, e2⟩ := key
  unfold anvillaw07_SpeakRegNames.f
  refine Ev.bind (f := fun k bt124 => ((anvilref07_RegOf.f k a0).bind fun bt126 => (if bt124.1 = bt126.1 then (some (bt124.2 == bt126.2)) else (some false)))) e1 ?_
  refine Ev.bind (f := fun k bt126 => (if r.1 = bt126.1 then (some (r.2 == bt126.2)) else (some false))) e2 ?_
  simp only [if_true, beq_self_eq_true]
  exact Ev.now _
end Go.Proofs.YtkcaebdhkodleaaDoor.PReg
