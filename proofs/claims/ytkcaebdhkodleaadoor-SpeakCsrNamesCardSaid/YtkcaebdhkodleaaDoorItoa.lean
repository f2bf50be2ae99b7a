/- strconv.Itoa of a number from 0 to 99: its digits. -/
import Derived.Test.YtkcaebdhkodleaaDoorShelf
import Derived.Test.YtkcaebdhkodleaaDoorWWords
set_option linter.unusedVariables false
namespace Go.Proofs.YtkcaebdhkodleaaDoor
open Go.RowKit Go.Lib Go.Shelf Go.Proofs.YtkcaebdhkodleaaDoorW.PrintWords
theorem itoa_c (n : Int) (h0 : 0 ≤ n) (h1 : n < 100) (w : World) : Calls Tryd.prog 21 #[.int .i64 n] w fun e w' => e = .returned (.string ⟨(Lib.decDigits n.toNat).toArray⟩) ∧ Drawn0 w w' := by
  have h := Any.strconv_Itoa_small Tryd.laysItoa n.toNat (by omega) w
  rw [Int.toNat_of_nonneg h0] at h
  refine h.mono fun e w' ⟨he, hw⟩ => ⟨he, ?_⟩
  subst hw
  exact Drawn0.refl _
end Go.Proofs.YtkcaebdhkodleaaDoor
