/- The package-level variables that the statements on the CSRs' names read: the document's names and numbers, the library's tables of de Bruijn; from a row's list, and kept while nothing below the heap's size is written. -/
import Derived.Test.YtkcaebdhkodleaaDoorGlobs
import Derived.Lib.LaidIn
set_option linter.unusedVariables false
namespace Go.Proofs.YtkcaebdhkodleaaDoor
open Go.RowKit Go.Lib Go.Proofs.YtkcaebdhkodleaaDoorW.PrintWords

def glob2 : List ByteArray := [⟨#[109, 118, 101, 110, 100, 111, 114, 105, 100]⟩, ⟨#[109, 97, 114, 99, 104, 105, 100]⟩, ⟨#[109, 105, 109, 112, 105, 100]⟩, ⟨#[109, 104, 97, 114, 116, 105, 100]⟩, ⟨#[109, 99, 111, 110, 102, 105, 103, 112, 116, 114]⟩, ⟨#[109, 115, 116, 97, 116, 117, 115]⟩, ⟨#[109, 105, 115, 97]⟩, ⟨#[109, 105, 101]⟩, ⟨#[109, 116, 118, 101, 99]⟩, ⟨#[109, 99, 111, 117, 110, 116, 101, 114, 101, 110]⟩, ⟨#[109, 101, 110, 118, 99, 102, 103]⟩, ⟨#[109, 99, 111, 117, 110, 116, 105, 110, 104, 105, 98, 105, 116]⟩, ⟨#[109, 115, 99, 114, 97, 116, 99, 104]⟩, ⟨#[109, 101, 112, 99]⟩, ⟨#[109, 99, 97, 117, 115, 101]⟩, ⟨#[109, 116, 118, 97, 108]⟩, ⟨#[109, 105, 112]⟩, ⟨#[112, 109, 112, 99, 102, 103, 48]⟩, ⟨#[112, 109, 112, 99, 102, 103, 50]⟩, ⟨#[109, 99, 121, 99, 108, 101]⟩, ⟨#[109, 105, 110, 115, 116, 114, 101, 116]⟩, ⟨#[99, 121, 99, 108, 101]⟩, ⟨#[116, 105, 109, 101]⟩, ⟨#[105, 110, 115, 116, 114, 101, 116]⟩, ⟨#[]⟩, ⟨#[]⟩]
def glob1 : List Int := [3857, 3858, 3859, 3860, 3861, 768, 769, 772, 773, 774, 778, 800, 832, 833, 834, 835, 836, 928, 930, 2816, 2818, 3072, 3073, 3074, -1, -1]
def glob8 : List Int := [0, 1, 28, 2, 29, 14, 24, 3, 30, 22, 20, 15, 25, 17, 4, 8, 31, 27, 13, 23, 21, 19, 16, 7, 26, 12, 18, 6, 11, 5, 10, 9]
def glob9 : List Int := [0, 1, 56, 2, 57, 49, 28, 3, 61, 58, 42, 50, 38, 29, 17, 4, 62, 47, 59, 36, 45, 43, 51, 22, 53, 39, 33, 30, 24, 18, 12, 5, 63, 55, 48, 27, 60, 41, 37, 16, 46, 35, 44, 21, 52, 32, 23, 11, 54, 26, 40, 15, 34, 20, 31, 10, 25, 14, 19, 9, 13, 8, 7, 6]
structure Glob (w : World) : Prop where
  nm : CellsAre w 2 (glob2.map Value.string)
  nu : CellsAre w 1 (glob1.map fun z => Value.int .i64 z)
  da : CellsAre w 8 (glob8.map fun z => Value.int .u8 z)
  db : CellsAre w 9 (glob9.map fun z => Value.int .u8 z)
theorem Glob.step {w W : World} (h : Glob w) (hb : Below w.heap.size w W) : Glob W := ⟨h.nm.below hb, h.nu.below hb, h.da.below hb, h.db.below hb⟩
theorem Glob.g2 {w : World} (h : Glob w) : Kd.C Kd.string w (some ⟨2, 0, none⟩) glob2.length glob2 := C_strs h.nm (by decide)
theorem Glob.g1 {w : World} (h : Glob w) : Kd.C (Kd.int .i64) w (some ⟨1, 0, none⟩) glob1.length glob1 := C_ints h.nu (by decide)
theorem Glob.g8 {w : World} (h : Glob w) : Kd.C (Kd.int .u8) w (some ⟨8, 0, none⟩) glob8.length glob8 := C_ints h.da (by decide)
theorem Glob.g9 {w : World} (h : Glob w) : Kd.C (Kd.int .u8) w (some ⟨9, 0, none⟩) glob9.length glob9 := C_ints h.db (by decide)
theorem d_nm : (Rows.laid_anvil_anvilref07_csrNames : DataW Unit) = strsData glob2 := by kernel_rfl
theorem d_nu : (Rows.laid_anvil_anvilref07_csrNumbers : DataW Unit) = Lib.tabData .i64 glob1 := by kernel_rfl
theorem d_da : (Rows.laid_math_bits_deBruijn32tab : DataW Unit) = Lib.tabData .u8 glob8 := by kernel_rfl
theorem d_db : (Rows.laid_math_bits_deBruijn64tab : DataW Unit) = Lib.tabData .u8 glob9 := by kernel_rfl
theorem glob_of {W : World} (h0 : VarReads Tryd.prog W "anvil/anvilref07.csrNames" Rows.laid_anvil_anvilref07_csrNames) (h1 : VarReads Tryd.prog W "anvil/anvilref07.csrNumbers" Rows.laid_anvil_anvilref07_csrNumbers)
    (h2 : VarReads Tryd.prog W "math/bits.deBruijn32tab" Rows.laid_math_bits_deBruijn32tab) (h3 : VarReads Tryd.prog W "math/bits.deBruijn64tab" Rows.laid_math_bits_deBruijn64tab) : Glob W :=
  ⟨strs_of_reads (g := 2) (t := 33) (e := 9) (n := 26) (by kernel_rfl) (by kernel_rfl) Tryd.underlying33 Tryd.underlying9 (by kernel_rfl) (by kernel_rfl) (d_nm ▸ h0),
   CellsAre.of_var (by kernel_rfl) (ints_of_reads (g := 1) (t := 32) (e := 3) (n := 26) (by kernel_rfl) (by kernel_rfl) Tryd.underlying32 Tryd.underlying3 (by kernel_rfl) (by kernel_rfl) (d_nu ▸ h1)),
   CellsAre.of_var (by kernel_rfl) (ints_of_reads (g := 8) (t := 101) (e := 5) (n := 32) (by kernel_rfl) (by kernel_rfl) Tryd.underlying101 Tryd.underlying5 (by kernel_rfl) (by kernel_rfl) (d_da ▸ h2)),
   CellsAre.of_var (by kernel_rfl) (ints_of_reads (g := 9) (t := 102) (e := 5) (n := 64) (by kernel_rfl) (by kernel_rfl) Tryd.underlying102 Tryd.underlying5 (by kernel_rfl) (by kernel_rfl) (d_db ▸ h3))⟩
end Go.Proofs.YtkcaebdhkodleaaDoor
