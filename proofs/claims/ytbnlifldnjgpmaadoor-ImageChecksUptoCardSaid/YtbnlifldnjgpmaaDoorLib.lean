/- The library's functions that this seat calls, by the kit's contracts, under 'Glob': the tables of utf8 and unicode stand in the world as their initialisers laid them. 'Glob' follows from a row's list of variables (glob_of_laid), and stays while nothing below the heap's size is written. -/
import Derived.Test.YtbnlifldnjgpmaaDoorShelf
import Derived.Test.YtbnlifldnjgpmaaDoorRows
import Derived.WalkKit
import Derived.WalkMore
import Derived.Below
import Derived.Lib.LaidRTab
import Derived.Lib.LaidU8
import Derived.Lib.LaidIn
import Derived.Lib.LaidU8T
import Derived.Lib.Hide
set_option linter.unusedVariables false
namespace Go.Proofs.YtbnlifldnjgpmaaDoor
open Go.RowKit Go.Lib Go.Shelf

def Glob (w : World) : Prop :=
  Lib.TabIs Tryd.prog w "unicode.properties" .u8 Lib.propertiesTab ∧ RVar (Tryd.laysLetter_ren.g 8) letterT w ∧ Lib.Utf8Tabs (Tryd.laysValid_ren.g 3) (Tryd.laysValid_ren.g 4) w
theorem Glob.step {w W : World} (h : Glob w) (hb : Below w.heap.size w W) : Glob W :=
  ⟨TabIs_below (g := Tryd.laysLetter_ren.g 7) (by kernel_rfl) h.1 hb, RVar_below h.2.1 hb, Utf8Tabs_below h.2.2 hb⟩
theorem valid_c (s : ByteArray) (w : World) (hs : s.size ≤ 9223372036854775807) (hG : Glob w) :
    Calls Tryd.prog 31 #[.string s] w fun e w' => e = .returned (.bool (Lib.validD s.data.toList)) ∧ Below w.heap.size w w' := Any.utf8_ValidString Tryd.laysValid s w hs hG.2.2
theorem count_c (s : ByteArray) (w : World) (hs : s.size < 9223372036854775807) :
    Calls Tryd.prog 32 #[.string s] w fun e w' => e = .returned (.int .i64 (Lib.runeCount s)) ∧ Below w.heap.size w w' := by
  have h := Any.utf8_RuneCountInString Tryd.laysCount s w hs
  refine Calls.mono h ?_
  rintro e w' ⟨he, pos, rfl⟩
  exact ⟨he, (Below.refl _ _).alloc (Nat.le_refl _) _⟩
theorem letter_c (r : Int) (w : World) (hlo : -2147483648 ≤ r) (hhi : r ≤ 2147483647) (hG : Glob w) :
    Calls Tryd.prog 33 #[.int .i32 r] w fun e w' => e = .returned (.bool (isLetterU r)) ∧ Below w.heap.size w w' :=
  Any.unicode_IsLetter_all Tryd.laysLetter (by kernel_rfl) r w hlo hhi hG.1 hG.2.1

/-! ### from a row's list -/
theorem xL : RExtra Tryd.prog Tryd.laysLetter_ren := ⟨by kernel_rfl, by kernel_rfl, by kernel_rfl, by kernel_rfl, by kernel_rfl, by kernel_rfl, by kernel_rfl, by kernel_rfl⟩
theorem d_accept : (Rows.laid_unicode_utf8_acceptRanges : DataW Unit) = Lib.acceptData := by kernel_rfl
theorem d_props : (Rows.laid_unicode_properties : DataW Unit) = Lib.tabData .u8 Lib.propertiesTab := by kernel_rfl
theorem d_letter : Rows.laid_unicode_Letter = Lib.rtabData Lib.letterT := by kernel_rfl
theorem d_first : Rows.laid_unicode_utf8_first = Lib.firstData := by kernel_rfl
/-- The list that the rows of this seat lay. -/
def theList : List (String × DataW Unit) := [("unicode/utf8.acceptRanges", Lib.acceptData), ("unicode.properties", Lib.tabData .u8 Lib.propertiesTab), ("unicode.Letter", Lib.rtabData Lib.letterT), ("unicode/utf8.first", Lib.firstData)]
theorem theList_eq : [("unicode/utf8.acceptRanges", (Rows.laid_unicode_utf8_acceptRanges : DataW Unit)), ("unicode.properties", Rows.laid_unicode_properties), ("unicode.Letter", Rows.laid_unicode_Letter), ("unicode/utf8.first", Rows.laid_unicode_utf8_first)] = theList := by
  rw [d_accept, d_props, d_letter, d_first]; rfl
theorem gProps : Tryd.prog.globalNamed "unicode.properties" = some 2 := by kernel_rfl
theorem gPropsType : (Tryd.prog.globals[2]?).map (·.type) = some 78 := by kernel_rfl
theorem cells5 : Tryd.prog.cellsOf 5 = 1 := by kernel_rfl
theorem cellsTab : Tryd.prog.cellsOf 78 = 256 := by kernel_rfl
/-- An array of integers that reads as these numbers, wherever it stands on the list. -/
theorem tabIs_of_reads {P : Program} {W : World} {name : String} {k : IntKind} {zs : List Int} {g : Nat} {t e : TypeId} {n : Nat}
    (hg : P.globalNamed name = some g) (hgt : (P.globals[g]?).map (·.type) = some t) (ht : P.underlying t = some (.array n e)) (he : P.underlying e = some (.int k)) (hce : P.cellsOf e = 1) (hct : P.cellsOf t = n)
    (h : VarReads P W name (Lib.tabData k zs)) : Lib.TabIs P W name k zs := by
  obtain ⟨g', t', cs, fuel, p, h1, h2, h3, h4⟩ := h
  rw [hg] at h1
  cases h1
  rw [hgt] at h2
  cases h2
  have := cells_of_tab ht he hce hct h4
  unfold Lib.TabIs
  rw [h3, ← this]
theorem glob_of_laid {W : World} (hL : laidMet Tryd.prog theList W) : Glob W :=
  ⟨tabIs_of_reads gProps gPropsType Tryd.underlying78 Tryd.underlying5 cells5 cellsTab (Lib.laidMet.reads hL (.tail _ (.head _))),
   rvar_of_reads { Tryd.laysLetter with } xL (by kernel_rfl) (by kernel_rfl) (Lib.laidMet.reads hL (.tail _ (.tail _ (.head _)))),
   utf8Tabs_of_readsT (U8Types.of196 Tryd.laysValid) ⟨by kernel_rfl, by kernel_rfl, by kernel_rfl, by kernel_rfl, by kernel_rfl, by kernel_rfl, by kernel_rfl⟩ (Lib.laidMet.reads hL (.tail _ (.tail _ (.tail _ (.head _))))) (Lib.laidMet.reads hL (.head _))⟩
end Go.Proofs.YtbnlifldnjgpmaaDoor
