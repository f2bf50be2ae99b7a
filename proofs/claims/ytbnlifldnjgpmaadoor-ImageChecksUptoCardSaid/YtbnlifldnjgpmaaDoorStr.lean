/- '>' on strings is '<' turned round (plain law; no premise), told to the walk. -/
import Derived.Test.YtbnlifldnjgpmaaDoorProg
import Derived.WalkKit
namespace Go.Proofs.YtbnlifldnjgpmaaDoor
open Go.RowKit

theorem less_total : ∀ x y : List UInt8, (!(Op.bytesLess x y || x == y)) = Op.bytesLess y x
  | [], [] => by simp [Op.bytesLess]
  | [], _ :: _ => by simp [Op.bytesLess]
  | _ :: _, [] => by simp [Op.bytesLess]
  | a :: x, b :: y => by
    have ih := less_total x y
    simp only [Op.bytesLess]
    rw [← ih]
    by_cases h : a = b
    · subst h
      have : ¬ a < a := by simp
      simp [this]
    · have h2 : (b == a) = false := by simp; exact fun e => h e.symm
      have h3 : (a == b) = false := by simp [h]
      have h4 : (a :: x == b :: y) = false := by
        rw [beq_eq_false_iff_ne]; intro e; injection e with e _; exact h e
      rw [h2, h3, h4]
      simp only [Bool.false_and, Bool.or_false]
      have : (a < b) ↔ ¬ (b < a) := by
        simp only [UInt8.lt_iff_toNat_lt]
        have : a.toNat ≠ b.toNat := fun e => h (UInt8.toNat_inj.1 e)
        omega
      by_cases h5 : a < b
      · simp [h5, this.1 h5]
      · have h6 : b < a := by
          rcases Decidable.em (b < a) with h7 | h7
          · exact h7
          · exact absurd (this.2 h7) h5
        simp [h5, h6]
@[go_sem] theorem gtr_string (t : TypeId) (a b : ByteArray) : binOp .gtr t (.string a) (.string b) = pure (.bool (Op.bytesLess b.toList a.toList)) := by
  rw [← less_total]
  simp [binOp, Op.stringOp]
end Go.Proofs.YtbnlifldnjgpmaaDoor
