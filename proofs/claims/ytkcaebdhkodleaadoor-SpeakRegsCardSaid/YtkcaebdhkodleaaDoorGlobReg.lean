/- The package-level variables that the statements on the registers' names read: the document's list of names, and the library's table of blanks; from a row's list, and kept while nothing below the heap's size is written. -/
import Derived.Test.YtkcaebdhkodleaaDoorGlobs
import Derived.Test.YtkcaebdhkodleaaDoorShelf
import Derived.Lib.LaidIn
import Derived.Shelf.Unicode.PredsPay
set_option linter.unusedVariables false
namespace Go.Proofs.YtkcaebdhkodleaaDoor.PReg
open Go.RowKit Go.Lib Go.Shelf Go.Proofs.YtkcaebdhkodleaaDoorW.PrintWords

def glob0 : List ByteArray := [⟨#[122, 101, 114, 111]⟩, ⟨#[114, 97]⟩, ⟨#[115, 112]⟩, ⟨#[103, 112]⟩, ⟨#[116, 112]⟩, ⟨#[116, 48]⟩, ⟨#[116, 49]⟩, ⟨#[116, 50]⟩, ⟨#[115, 48]⟩, ⟨#[115, 49]⟩, ⟨#[97, 48]⟩, ⟨#[97, 49]⟩, ⟨#[97, 50]⟩, ⟨#[97, 51]⟩, ⟨#[97, 52]⟩, ⟨#[97, 53]⟩, ⟨#[97, 54]⟩, ⟨#[97, 55]⟩, ⟨#[115, 50]⟩, ⟨#[115, 51]⟩, ⟨#[115, 52]⟩, ⟨#[115, 53]⟩, ⟨#[115, 54]⟩, ⟨#[115, 55]⟩, ⟨#[115, 56]⟩, ⟨#[115, 57]⟩, ⟨#[115, 49, 48]⟩, ⟨#[115, 49, 49]⟩, ⟨#[116, 51]⟩, ⟨#[116, 52]⟩, ⟨#[116, 53]⟩, ⟨#[116, 54]⟩]
def Glob (w : World) : Prop := CellsAre w 0 (glob0.map Value.string) ∧ Lib.TabIs Tryd.prog w "strings.asciiSpace" .u8 Lib.asciiSpaceTab
theorem gSpace : Tryd.prog.globalNamed "strings.asciiSpace" = some 3 := by kernel_rfl
theorem Glob.step {w W : World} (h : Glob w) (hb : Below w.heap.size w W) : Glob W := ⟨h.1.below hb, TabIs_below gSpace h.2 hb⟩
theorem Glob.g0 {w : World} (h : Glob w) : Kd.C Kd.string w (some ⟨0, 0, none⟩) glob0.length glob0 := C_strs h.1 (by decide)
theorem d_regs : (Rows.laid_anvil_anvilref07_regs : DataW Unit) = strsData glob0 := by kernel_rfl
theorem d_space : (Rows.laid_strings_asciiSpace : DataW Unit) = Lib.tabData .u8 Lib.asciiSpaceTab := by kernel_rfl
theorem glob_of {W : World} (h0 : VarReads Tryd.prog W "anvil/anvilref07.regs" Rows.laid_anvil_anvilref07_regs) (h1 : VarReads Tryd.prog W "strings.asciiSpace" Rows.laid_strings_asciiSpace) : Glob W :=
  ⟨strs_of_reads (g := 0) (t := 29) (e := 9) (n := 32) (by kernel_rfl) (by kernel_rfl) Tryd.underlying29 Tryd.underlying9 (by kernel_rfl) (by kernel_rfl) (d_regs ▸ h0),
   ints_of_reads (g := 3) (t := 38) (e := 5) (n := 256) gSpace (by kernel_rfl) Tryd.underlying38 Tryd.underlying5 (by kernel_rfl) (by kernel_rfl) (d_space ▸ h1)⟩
theorem cntF_le : ∀ (l : List UInt8) (ws : Bool), Lib.cntF ws l ≤ l.length
  | [], _ => Nat.le_refl _
  | b :: t, ws => by
    have := cntF_le t (Lib.isSp b)
    simp only [Lib.cntF, List.length_cons]
    split <;> omega
theorem infoS : (Tryd.prog.info? 9).map (fun i => (i.zero, i.size, i.bytes)) = some (some (.string ByteArray.empty), 1, 16) := by kernel_rfl
def fieldsL (s : ByteArray) : List ByteArray := (Lib.fields s.data.toList).map fun l => ⟨l.toArray⟩
theorem fields_c (s : ByteArray) (w : World) (hs : s.size < 4294967281) (ha : ∀ b ∈ s.data.toList, b.toNat < 128) (hG : Glob w) :
    Calls Tryd.prog 15 #[.string s] w fun e w' => ∃ v0_ : Value, e = .returned v0_ ∧ Kd.R Kd.string 9 w' w.heap.size (fun _ => True) v0_ (fieldsL s) ∧ Below w.heap.size w w' := by
  refine (Any.strings_Fields Tryd.laysFields infoS gSpace s w hs (fun j b hb => ha b (List.mem_of_getElem? hb)) hG.2).mono fun e w' ⟨he, hw⟩ => ?_
  subst he hw
  have hN : (Lib.fields s.data.toList).length ≤ s.size := by rw [Lib.fields_length, Lib.size_eq]; exact cntF_le _ _
  have hrep : Reps (Kd.string.M (w.alloc (.cells ((Lib.fields s.data.toList).map fun l => Value.string ⟨l.toArray⟩).toArray 9)) w.heap.size (fun k => (fun _ => True) k ∧ some k ≠ (Value.slice (some ⟨w.heap.size, 0, none⟩) (Lib.fields s.data.toList).length (Lib.fields s.data.toList).length).ownBlock)) 1 (fieldsL s) ((fieldsL s).map Value.string) := by
    refine ⟨by simp, fun j p hp => ?_⟩
    have h1 : (((fieldsL s).map Value.string).drop (j * 1)).take 1 = [Value.string p] := by
      apply List.ext_getElem?
      intro i
      rw [List.getElem?_take]
      split
      · have : i = 0 := by omega
        subst this
        simp [hp]
      · simp; omega
    rw [h1]
    exact rfl
  refine ⟨_, rfl, ⟨fun k hk => trivial, ?_⟩, (Below.refl _ w).alloc (Nat.le_refl _) _⟩
  have hl := OwnRow.lit (e := 9) w w.heap.size hrep (Nat.le_refl _) (by simp [fieldsL]; omega)
  simp [fieldsL, Function.comp_def] at hl ⊢
  exact hl
theorem itoa_c (n : Int) (h0 : 0 ≤ n) (h1 : n < 100) (w : World) : Calls Tryd.prog 21 #[.int .i64 n] w fun e w' => e = .returned (.string ⟨(Lib.decDigits n.toNat).toArray⟩) ∧ Drawn0 w w' := by
  have h := Any.strconv_Itoa_small Tryd.laysItoa n.toNat (by omega) w
  rw [Int.toNat_of_nonneg h0] at h
  refine h.mono fun e w' ⟨he, hw⟩ => ⟨he, ?_⟩
  subst hw
  exact Drawn0.refl _
end Go.Proofs.YtkcaebdhkodleaaDoor.PReg
