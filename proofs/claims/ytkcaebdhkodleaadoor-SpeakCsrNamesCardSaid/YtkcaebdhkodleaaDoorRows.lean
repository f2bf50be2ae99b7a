/-
  NARROWER THAN 'FOR EVERY INPUT', by the rows' own cells (each row's printed sentence says how): SpeakRegs: laid · SpeakCsrs: laid · SpeakRegNames: laid · SpeakCsrNames: laid.
  DERIVED. THE GIVEN ROWS OF THIS SEAT. 4 by the template 'for every input the law returns true; each argument reads behind the call as it read before'; 0 by the template 'total and deterministic' (their statements: YtkcaebdhkodleaaDoorTotals.lean).
  GIVEN WITH THE SEED: the statements are not yours to turn. If you find one false, say at which input.
  Laid BY PROGRAM, IN A SANDBOX (cutbox-rows.mjs): the forced cells as the released guide's own fill.sh prints them over the translation 85147d66194e38a5… (all of the seat's roots in one cut). By AI agents, Wed Nov 11 2026. No macro, syntax, notation, axiom, sorry.
-/
import Derived.Test.YtkcaebdhkodleaaDoorChecked
import GoSem.Claim
import GoSem.ClaimJoined
import GoSem.ClaimMapViews
import Derived.JoinedTies
import Derived.KernelRfl
namespace Go.Proofs.YtkcaebdhkodleaaDoor
/- THE CELL 'sum', in the pinned program and in every row, IS THE sha256 OF THE DUMP (.gsa) THAT YtkcaebdhkodleaaDoorProg.lean LOADS. Nothing in Lean hashes anything: it is a label: what it is worth is what the hold of that sum in a sandbox is worth. -/
noncomputable def Tryd.pinned : Pinned := { name := "ytkcaebdhkodleaadoor", sum := "85147d66194e38a53d57407c95d3e0b80a4816580a7fe323ec3967f171db46e5", checked := Tryd.checked }
namespace Rows
def none {H : Type} : Left H := { results := [], args := [] }

/- WHAT THE LISTED PACKAGE-LEVEL VARIABLES READ AS WHEN THE CALL BEGINS. Each datum BY PROGRAM (the guide's laid-datum.mjs) off the statement by which the dump's own 'gosem.cut.vars' lays the variable. In a bare row this is a premise. The card (YtkcaebdhkodleaaDoorCards.lean) ties it to the program's text. -/
def laid_anvil_anvilref07_regs {H : Type} : DataW H := .agg [.lit (.string [122, 101, 114, 111]), .lit (.string [114, 97]), .lit (.string [115, 112]), .lit (.string [103, 112]), .lit (.string [116, 112]), .lit (.string [116, 48]), .lit (.string [116, 49]), .lit (.string [116, 50]), .lit (.string [115, 48]), .lit (.string [115, 49]), .lit (.string [97, 48]), .lit (.string [97, 49]), .lit (.string [97, 50]), .lit (.string [97, 51]), .lit (.string [97, 52]), .lit (.string [97, 53]), .lit (.string [97, 54]), .lit (.string [97, 55]), .lit (.string [115, 50]), .lit (.string [115, 51]), .lit (.string [115, 52]), .lit (.string [115, 53]), .lit (.string [115, 54]), .lit (.string [115, 55]), .lit (.string [115, 56]), .lit (.string [115, 57]), .lit (.string [115, 49, 48]), .lit (.string [115, 49, 49]), .lit (.string [116, 51]), .lit (.string [116, 52]), .lit (.string [116, 53]), .lit (.string [116, 54])]
def laid_unicode_White_Space {H : Type} : DataW H := .ptr (.agg [.slice [.agg [.lit (.int .u16 9), .lit (.int .u16 13), .lit (.int .u16 1)], .agg [.lit (.int .u16 32), .lit (.int .u16 133), .lit (.int .u16 101)], .agg [.lit (.int .u16 160), .lit (.int .u16 5760), .lit (.int .u16 5600)], .agg [.lit (.int .u16 8192), .lit (.int .u16 8202), .lit (.int .u16 1)], .agg [.lit (.int .u16 8232), .lit (.int .u16 8233), .lit (.int .u16 1)], .agg [.lit (.int .u16 8239), .lit (.int .u16 8287), .lit (.int .u16 48)], .agg [.lit (.int .u16 12288), .lit (.int .u16 12288), .lit (.int .u16 1)]] [], .nil, .lit (.int .i64 2)])
def laid_strings_asciiSpace {H : Type} : DataW H := .agg [.lit (.int .u8 0), .lit (.int .u8 0), .lit (.int .u8 0), .lit (.int .u8 0), .lit (.int .u8 0), .lit (.int .u8 0), .lit (.int .u8 0), .lit (.int .u8 0), .lit (.int .u8 0), .lit (.int .u8 1), .lit (.int .u8 1), .lit (.int .u8 1), .lit (.int .u8 1), .lit (.int .u8 1), .lit (.int .u8 0), .lit (.int .u8 0), .lit (.int .u8 0), .lit (.int .u8 0), .lit (.int .u8 0), .lit (.int .u8 0), .lit (.int .u8 0), .lit (.int .u8 0), .lit (.int .u8 0), .lit (.int .u8 0), .lit (.int .u8 0), .lit (.int .u8 0), .lit (.int .u8 0), .lit (.int .u8 0), .lit (.int .u8 0), .lit (.int .u8 0), .lit (.int .u8 0), .lit (.int .u8 0), .lit (.int .u8 1), .lit (.int .u8 0), .lit (.int .u8 0), .lit (.int .u8 0), .lit (.int .u8 0), .lit (.int .u8 0), .lit (.int .u8 0), .lit (.int .u8 0), .lit (.int .u8 0), .lit (.int .u8 0), .lit (.int .u8 0), .lit (.int .u8 0), .lit (.int .u8 0), .lit (.int .u8 0), .lit (.int .u8 0), .lit (.int .u8 0), .lit (.int .u8 0), .lit (.int .u8 0), .lit (.int .u8 0), .lit (.int .u8 0), .lit (.int .u8 0), .lit (.int .u8 0), .lit (.int .u8 0), .lit (.int .u8 0), .lit (.int .u8 0), .lit (.int .u8 0), .lit (.int .u8 0), .lit (.int .u8 0), .lit (.int .u8 0), .lit (.int .u8 0), .lit (.int .u8 0), .lit (.int .u8 0), .lit (.int .u8 0), .lit (.int .u8 0), .lit (.int .u8 0), .lit (.int .u8 0), .lit (.int .u8 0), .lit (.int .u8 0), .lit (.int .u8 0), .lit (.int .u8 0), .lit (.int .u8 0), .lit (.int .u8 0), .lit (.int .u8 0), .lit (.int .u8 0), .lit (.int .u8 0), .lit (.int .u8 0), .lit (.int .u8 0), .lit (.int .u8 0), .lit (.int .u8 0), .lit (.int .u8 0), .lit (.int .u8 0), .lit (.int .u8 0), .lit (.int .u8 0), .lit (.int .u8 0), .lit (.int .u8 0), .lit (.int .u8 0), .lit (.int .u8 0), .lit (.int .u8 0), .lit (.int .u8 0), .lit (.int .u8 0), .lit (.int .u8 0), .lit (.int .u8 0), .lit (.int .u8 0), .lit (.int .u8 0), .lit (.int .u8 0), .lit (.int .u8 0), .lit (.int .u8 0), .lit (.int .u8 0), .lit (.int .u8 0), .lit (.int .u8 0), .lit (.int .u8 0), .lit (.int .u8 0), .lit (.int .u8 0), .lit (.int .u8 0), .lit (.int .u8 0), .lit (.int .u8 0), .lit (.int .u8 0), .lit (.int .u8 0), .lit (.int .u8 0), .lit (.int .u8 0), .lit (.int .u8 0), .lit (.int .u8 0), .lit (.int .u8 0), .lit (.int .u8 0), .lit (.int .u8 0), .lit (.int .u8 0), .lit (.int .u8 0), .lit (.int .u8 0), .lit (.int .u8 0), .lit (.int .u8 0), .lit (.int .u8 0), .lit (.int .u8 0), .lit (.int .u8 0), .lit (.int .u8 0), .lit (.int .u8 0), .lit (.int .u8 0), .lit (.int .u8 0), .lit (.int .u8 0), .lit (.int .u8 0), .lit (.int .u8 0), .lit (.int .u8 0), .lit (.int .u8 0), .lit (.int .u8 0), .lit (.int .u8 0), .lit (.int .u8 0), .lit (.int .u8 0), .lit (.int .u8 0), .lit (.int .u8 0), .lit (.int .u8 0), .lit (.int .u8 0), .lit (.int .u8 0), .lit (.int .u8 0), .lit (.int .u8 0), .lit (.int .u8 0), .lit (.int .u8 0), .lit (.int .u8 0), .lit (.int .u8 0), .lit (.int .u8 0), .lit (.int .u8 0), .lit (.int .u8 0), .lit (.int .u8 0), .lit (.int .u8 0), .lit (.int .u8 0), .lit (.int .u8 0), .lit (.int .u8 0), .lit (.int .u8 0), .lit (.int .u8 0), .lit (.int .u8 0), .lit (.int .u8 0), .lit (.int .u8 0), .lit (.int .u8 0), .lit (.int .u8 0), .lit (.int .u8 0), .lit (.int .u8 0), .lit (.int .u8 0), .lit (.int .u8 0), .lit (.int .u8 0), .lit (.int .u8 0), .lit (.int .u8 0), .lit (.int .u8 0), .lit (.int .u8 0), .lit (.int .u8 0), .lit (.int .u8 0), .lit (.int .u8 0), .lit (.int .u8 0), .lit (.int .u8 0), .lit (.int .u8 0), .lit (.int .u8 0), .lit (.int .u8 0), .lit (.int .u8 0), .lit (.int .u8 0), .lit (.int .u8 0), .lit (.int .u8 0), .lit (.int .u8 0), .lit (.int .u8 0), .lit (.int .u8 0), .lit (.int .u8 0), .lit (.int .u8 0), .lit (.int .u8 0), .lit (.int .u8 0), .lit (.int .u8 0), .lit (.int .u8 0), .lit (.int .u8 0), .lit (.int .u8 0), .lit (.int .u8 0), .lit (.int .u8 0), .lit (.int .u8 0), .lit (.int .u8 0), .lit (.int .u8 0), .lit (.int .u8 0), .lit (.int .u8 0), .lit (.int .u8 0), .lit (.int .u8 0), .lit (.int .u8 0), .lit (.int .u8 0), .lit (.int .u8 0), .lit (.int .u8 0), .lit (.int .u8 0), .lit (.int .u8 0), .lit (.int .u8 0), .lit (.int .u8 0), .lit (.int .u8 0), .lit (.int .u8 0), .lit (.int .u8 0), .lit (.int .u8 0), .lit (.int .u8 0), .lit (.int .u8 0), .lit (.int .u8 0), .lit (.int .u8 0), .lit (.int .u8 0), .lit (.int .u8 0), .lit (.int .u8 0), .lit (.int .u8 0), .lit (.int .u8 0), .lit (.int .u8 0), .lit (.int .u8 0), .lit (.int .u8 0), .lit (.int .u8 0), .lit (.int .u8 0), .lit (.int .u8 0), .lit (.int .u8 0), .lit (.int .u8 0), .lit (.int .u8 0), .lit (.int .u8 0), .lit (.int .u8 0), .lit (.int .u8 0), .lit (.int .u8 0), .lit (.int .u8 0), .lit (.int .u8 0), .lit (.int .u8 0), .lit (.int .u8 0), .lit (.int .u8 0), .lit (.int .u8 0), .lit (.int .u8 0), .lit (.int .u8 0), .lit (.int .u8 0), .lit (.int .u8 0), .lit (.int .u8 0), .lit (.int .u8 0), .lit (.int .u8 0), .lit (.int .u8 0), .lit (.int .u8 0), .lit (.int .u8 0), .lit (.int .u8 0)]
def laid_math_bits_deBruijn32tab {H : Type} : DataW H := .agg [.lit (.int .u8 0), .lit (.int .u8 1), .lit (.int .u8 28), .lit (.int .u8 2), .lit (.int .u8 29), .lit (.int .u8 14), .lit (.int .u8 24), .lit (.int .u8 3), .lit (.int .u8 30), .lit (.int .u8 22), .lit (.int .u8 20), .lit (.int .u8 15), .lit (.int .u8 25), .lit (.int .u8 17), .lit (.int .u8 4), .lit (.int .u8 8), .lit (.int .u8 31), .lit (.int .u8 27), .lit (.int .u8 13), .lit (.int .u8 23), .lit (.int .u8 21), .lit (.int .u8 19), .lit (.int .u8 16), .lit (.int .u8 7), .lit (.int .u8 26), .lit (.int .u8 12), .lit (.int .u8 18), .lit (.int .u8 6), .lit (.int .u8 11), .lit (.int .u8 5), .lit (.int .u8 10), .lit (.int .u8 9)]
def laid_math_bits_deBruijn64tab {H : Type} : DataW H := .agg [.lit (.int .u8 0), .lit (.int .u8 1), .lit (.int .u8 56), .lit (.int .u8 2), .lit (.int .u8 57), .lit (.int .u8 49), .lit (.int .u8 28), .lit (.int .u8 3), .lit (.int .u8 61), .lit (.int .u8 58), .lit (.int .u8 42), .lit (.int .u8 50), .lit (.int .u8 38), .lit (.int .u8 29), .lit (.int .u8 17), .lit (.int .u8 4), .lit (.int .u8 62), .lit (.int .u8 47), .lit (.int .u8 59), .lit (.int .u8 36), .lit (.int .u8 45), .lit (.int .u8 43), .lit (.int .u8 51), .lit (.int .u8 22), .lit (.int .u8 53), .lit (.int .u8 39), .lit (.int .u8 33), .lit (.int .u8 30), .lit (.int .u8 24), .lit (.int .u8 18), .lit (.int .u8 12), .lit (.int .u8 5), .lit (.int .u8 63), .lit (.int .u8 55), .lit (.int .u8 48), .lit (.int .u8 27), .lit (.int .u8 60), .lit (.int .u8 41), .lit (.int .u8 37), .lit (.int .u8 16), .lit (.int .u8 46), .lit (.int .u8 35), .lit (.int .u8 44), .lit (.int .u8 21), .lit (.int .u8 52), .lit (.int .u8 32), .lit (.int .u8 23), .lit (.int .u8 11), .lit (.int .u8 54), .lit (.int .u8 26), .lit (.int .u8 40), .lit (.int .u8 15), .lit (.int .u8 34), .lit (.int .u8 20), .lit (.int .u8 31), .lit (.int .u8 10), .lit (.int .u8 25), .lit (.int .u8 14), .lit (.int .u8 19), .lit (.int .u8 9), .lit (.int .u8 13), .lit (.int .u8 8), .lit (.int .u8 7), .lit (.int .u8 6)]
def laid_internal_strconv_uint64pow10 {H : Type} : DataW H := .agg [.lit (.int .u64 1), .lit (.int .u64 10), .lit (.int .u64 100), .lit (.int .u64 1000), .lit (.int .u64 10000), .lit (.int .u64 100000), .lit (.int .u64 1000000), .lit (.int .u64 10000000), .lit (.int .u64 100000000), .lit (.int .u64 1000000000), .lit (.int .u64 10000000000), .lit (.int .u64 100000000000), .lit (.int .u64 1000000000000), .lit (.int .u64 10000000000000), .lit (.int .u64 100000000000000), .lit (.int .u64 1000000000000000), .lit (.int .u64 10000000000000000), .lit (.int .u64 100000000000000000), .lit (.int .u64 1000000000000000000), .lit (.int .u64 10000000000000000000)]
def laid_anvil_anvilref07_csrNames {H : Type} : DataW H := .agg [.lit (.string [109, 118, 101, 110, 100, 111, 114, 105, 100]), .lit (.string [109, 97, 114, 99, 104, 105, 100]), .lit (.string [109, 105, 109, 112, 105, 100]), .lit (.string [109, 104, 97, 114, 116, 105, 100]), .lit (.string [109, 99, 111, 110, 102, 105, 103, 112, 116, 114]), .lit (.string [109, 115, 116, 97, 116, 117, 115]), .lit (.string [109, 105, 115, 97]), .lit (.string [109, 105, 101]), .lit (.string [109, 116, 118, 101, 99]), .lit (.string [109, 99, 111, 117, 110, 116, 101, 114, 101, 110]), .lit (.string [109, 101, 110, 118, 99, 102, 103]), .lit (.string [109, 99, 111, 117, 110, 116, 105, 110, 104, 105, 98, 105, 116]), .lit (.string [109, 115, 99, 114, 97, 116, 99, 104]), .lit (.string [109, 101, 112, 99]), .lit (.string [109, 99, 97, 117, 115, 101]), .lit (.string [109, 116, 118, 97, 108]), .lit (.string [109, 105, 112]), .lit (.string [112, 109, 112, 99, 102, 103, 48]), .lit (.string [112, 109, 112, 99, 102, 103, 50]), .lit (.string [109, 99, 121, 99, 108, 101]), .lit (.string [109, 105, 110, 115, 116, 114, 101, 116]), .lit (.string [99, 121, 99, 108, 101]), .lit (.string [116, 105, 109, 101]), .lit (.string [105, 110, 115, 116, 114, 101, 116]), .lit (.string []), .lit (.string [])]
def laid_anvil_anvilref07_csrNumbers {H : Type} : DataW H := .agg [.lit (.int .i64 3857), .lit (.int .i64 3858), .lit (.int .i64 3859), .lit (.int .i64 3860), .lit (.int .i64 3861), .lit (.int .i64 768), .lit (.int .i64 769), .lit (.int .i64 772), .lit (.int .i64 773), .lit (.int .i64 774), .lit (.int .i64 778), .lit (.int .i64 800), .lit (.int .i64 832), .lit (.int .i64 833), .lit (.int .i64 834), .lit (.int .i64 835), .lit (.int .i64 836), .lit (.int .i64 928), .lit (.int .i64 930), .lit (.int .i64 2816), .lit (.int .i64 2818), .lit (.int .i64 3072), .lit (.int .i64 3073), .lit (.int .i64 3074), .lit (.int .i64 (-1)), .lit (.int .i64 (-1))]
def laid_strconv_ErrRange {H : Type} : DataW H := .iface "*errors.errorString" (.ptr (.agg [.lit (.string [118, 97, 108, 117, 101, 32, 111, 117, 116, 32, 111, 102, 32, 114, 97, 110, 103, 101])]))
def laid_strconv_ErrSyntax {H : Type} : DataW H := .iface "*errors.errorString" (.ptr (.agg [.lit (.string [105, 110, 118, 97, 108, 105, 100, 32, 115, 121, 110, 116, 97, 120])]))

/-- 'anvillaw07.SpeakRegs': WHATEVER THE INPUT: true; the input reads as it did. -/
def speakRegsSpec : ChangeSpec := { name := "speakRegs", fn := fun _ => fun
  | [d] => { results := [.lit (.bool true)], args := [d] }
  | _ => none }
def speakRegsRow : OpenClaim := { program := "ytkcaebdhkodleaadoor", sum := "85147d66194e38a53d57407c95d3e0b80a4816580a7fe323ec3967f171db46e5", func := "anvil/anvillaw07.SpeakRegs", spec := "speakRegs", unfollowed := true, recurses := true, named := ["strings.asciiSpace", "unicode.White_Space", "anvil/anvilref07.regs"], apart := false, laid := [("anvil/anvilref07.regs", laid_anvil_anvilref07_regs), ("unicode.White_Space", laid_unicode_White_Space), ("strings.asciiSpace", laid_strings_asciiSpace)] }
def SpeakRegsSaid : Prop := speakRegsRow.holds Tryd.pinned (OpenSpec.ofChange speakRegsSpec)

/-- ITS FALSE NEIGHBOUR: 'it returns false'. Refute it at one input. -/
def speakRegsWrong : ChangeSpec := { name := "speakRegs", fn := fun _ => fun
  | [d] => { results := [.lit (.bool false)], args := [d] }
  | _ => none }
def SpeakRegsWrongFalsely : Prop := speakRegsRow.holds Tryd.pinned (OpenSpec.ofChange speakRegsWrong)

/-- 'anvillaw07.SpeakCsrs': WHATEVER THE INPUT: true; the input reads as it did. -/
def speakCsrsSpec : ChangeSpec := { name := "speakCsrs", fn := fun _ => fun
  | [d] => { results := [.lit (.bool true)], args := [d] }
  | _ => none }
def speakCsrsRow : OpenClaim := { program := "ytkcaebdhkodleaadoor", sum := "85147d66194e38a53d57407c95d3e0b80a4816580a7fe323ec3967f171db46e5", func := "anvil/anvillaw07.SpeakCsrs", spec := "speakCsrs", recurses := true, named := ["internal/strconv.uint64pow10", "math/bits.deBruijn32tab", "math/bits.deBruijn64tab", "anvil/anvilref07.csrNumbers", "anvil/anvilref07.csrNames"], apart := false, laid := [("math/bits.deBruijn32tab", laid_math_bits_deBruijn32tab), ("math/bits.deBruijn64tab", laid_math_bits_deBruijn64tab), ("internal/strconv.uint64pow10", laid_internal_strconv_uint64pow10), ("anvil/anvilref07.csrNames", laid_anvil_anvilref07_csrNames), ("anvil/anvilref07.csrNumbers", laid_anvil_anvilref07_csrNumbers)] }
def SpeakCsrsSaid : Prop := speakCsrsRow.holds Tryd.pinned (OpenSpec.ofChange speakCsrsSpec)

/-- ITS FALSE NEIGHBOUR: 'it returns false'. Refute it at one input. -/
def speakCsrsWrong : ChangeSpec := { name := "speakCsrs", fn := fun _ => fun
  | [d] => { results := [.lit (.bool false)], args := [d] }
  | _ => none }
def SpeakCsrsWrongFalsely : Prop := speakCsrsRow.holds Tryd.pinned (OpenSpec.ofChange speakCsrsWrong)

/-- 'anvillaw07.SpeakRegNames': WHATEVER THE INPUT: true; the input reads as it did. -/
def speakRegNamesSpec : ChangeSpec := { name := "speakRegNames", fn := fun _ => fun
  | [d] => { results := [.lit (.bool true)], args := [d] }
  | _ => none }
def speakRegNamesRow : OpenClaim := { program := "ytkcaebdhkodleaadoor", sum := "85147d66194e38a53d57407c95d3e0b80a4816580a7fe323ec3967f171db46e5", func := "anvil/anvillaw07.SpeakRegNames", spec := "speakRegNames", unfollowed := true, recurses := true, named := ["strings.asciiSpace", "unicode.White_Space", "internal/strconv.uint64pow10", "math/bits.deBruijn32tab", "math/bits.deBruijn64tab", "anvil/anvilref07.regs"], apart := false, laid := [("math/bits.deBruijn32tab", laid_math_bits_deBruijn32tab), ("math/bits.deBruijn64tab", laid_math_bits_deBruijn64tab), ("internal/strconv.uint64pow10", laid_internal_strconv_uint64pow10), ("anvil/anvilref07.regs", laid_anvil_anvilref07_regs), ("unicode.White_Space", laid_unicode_White_Space), ("strings.asciiSpace", laid_strings_asciiSpace)] }
def SpeakRegNamesSaid : Prop := speakRegNamesRow.holds Tryd.pinned (OpenSpec.ofChange speakRegNamesSpec)

/-- ITS FALSE NEIGHBOUR: 'it returns false'. Refute it at one input. -/
def speakRegNamesWrong : ChangeSpec := { name := "speakRegNames", fn := fun _ => fun
  | [d] => { results := [.lit (.bool false)], args := [d] }
  | _ => none }
def SpeakRegNamesWrongFalsely : Prop := speakRegNamesRow.holds Tryd.pinned (OpenSpec.ofChange speakRegNamesWrong)

/-- 'anvillaw07.SpeakCsrNames': WHATEVER THE INPUT: true; the input reads as it did. -/
def speakCsrNamesSpec : ChangeSpec := { name := "speakCsrNames", fn := fun _ => fun
  | [d] => { results := [.lit (.bool true)], args := [d] }
  | _ => none }
def speakCsrNamesRow : OpenClaim := { program := "ytkcaebdhkodleaadoor", sum := "85147d66194e38a53d57407c95d3e0b80a4816580a7fe323ec3967f171db46e5", func := "anvil/anvillaw07.SpeakCsrNames", spec := "speakCsrNames", recurses := true, named := ["internal/strconv.uint64pow10", "math/bits.deBruijn32tab", "math/bits.deBruijn64tab", "strconv.ErrSyntax", "strconv.ErrRange", "anvil/anvilref07.csrNumbers", "anvil/anvilref07.csrNames"], apart := false, laid := [("math/bits.deBruijn32tab", laid_math_bits_deBruijn32tab), ("math/bits.deBruijn64tab", laid_math_bits_deBruijn64tab), ("internal/strconv.uint64pow10", laid_internal_strconv_uint64pow10), ("strconv.ErrRange", laid_strconv_ErrRange), ("strconv.ErrSyntax", laid_strconv_ErrSyntax), ("anvil/anvilref07.csrNames", laid_anvil_anvilref07_csrNames), ("anvil/anvilref07.csrNumbers", laid_anvil_anvilref07_csrNumbers)] }
def SpeakCsrNamesSaid : Prop := speakCsrNamesRow.holds Tryd.pinned (OpenSpec.ofChange speakCsrNamesSpec)

/-- ITS FALSE NEIGHBOUR: 'it returns false'. Refute it at one input. -/
def speakCsrNamesWrong : ChangeSpec := { name := "speakCsrNames", fn := fun _ => fun
  | [d] => { results := [.lit (.bool false)], args := [d] }
  | _ => none }
def SpeakCsrNamesWrongFalsely : Prop := speakCsrNamesRow.holds Tryd.pinned (OpenSpec.ofChange speakCsrNamesWrong)

/- THE SECOND FORM. 'bulk': how many values and letters a reading holds, each counted each time it is reached (what is shared counts as often as it is met; a slice's spare places count too). A statement '..UptoSaid' is the law's where the arguments, and the package variables that the reading takes, are together of bulk at most 1048576: NARROWER than '..Said'. Prove '..Said' where nothing that the law and all that it calls make is longer than what came in: it says more and counts as full. Else prove '..UptoSaid'. A law counts once. -/
mutual
def uptoBulk {H : Type} : DataW H → Nat
  | .lit (.string bytes) => bytes.length + 1
  | .lit _ => 1
  | .nil => 1
  | .ptr d => uptoBulk d + 1
  | .slice elems spare => uptoBulkAll elems + uptoBulkAll spare + 1
  | .agg parts => uptoBulkAll parts + 1
  | .iface _ d => uptoBulk d + 1
  | .map entries => uptoBulkEntries entries + 1
  | .held _ => 1
def uptoBulkAll {H : Type} : List (DataW H) → Nat
  | [] => 0
  | d :: r => uptoBulk d + uptoBulkAll r
def uptoBulkEntries {H : Type} : List (Lit × DataW H) → Nat
  | [] => 0
  | x :: r => uptoBulkEntry x + uptoBulkEntries r
def uptoBulkEntry {H : Type} : Lit × DataW H → Nat
  | (.string bytes, d) => bytes.length + uptoBulk d + 1
  | (_, d) => uptoBulk d + 1
 end
def uptoSmall : (H : Type) → List (DataW H) → Bool := fun _ ds => decide (uptoBulkAll ds ≤ 1048576)
def OpenSpec.upto (s : _root_.Go.ChangeSpec) : _root_.Go.OpenSpec := { _root_.Go.OpenSpec.ofChange s with cond := some uptoSmall }

/-- 'anvillaw07.SpeakRegs', WHERE WHAT IT READS IS OF BULK AT MOST 1048576: true; the input reads as it did. -/
def speakRegsUptoRow : OpenClaim := { program := "ytkcaebdhkodleaadoor", sum := "85147d66194e38a53d57407c95d3e0b80a4816580a7fe323ec3967f171db46e5", func := "anvil/anvillaw07.SpeakRegs", spec := "speakRegs", unfollowed := true, recurses := true, named := ["strings.asciiSpace", "unicode.White_Space", "anvil/anvilref07.regs"], apart := false, laid := [("anvil/anvilref07.regs", laid_anvil_anvilref07_regs), ("unicode.White_Space", laid_unicode_White_Space), ("strings.asciiSpace", laid_strings_asciiSpace)], narrowed := true }
def SpeakRegsUptoSaid : Prop := speakRegsUptoRow.holds Tryd.pinned (OpenSpec.upto speakRegsSpec)

/-- 'anvillaw07.SpeakCsrs', WHERE WHAT IT READS IS OF BULK AT MOST 1048576: true; the input reads as it did. -/
def speakCsrsUptoRow : OpenClaim := { program := "ytkcaebdhkodleaadoor", sum := "85147d66194e38a53d57407c95d3e0b80a4816580a7fe323ec3967f171db46e5", func := "anvil/anvillaw07.SpeakCsrs", spec := "speakCsrs", recurses := true, named := ["internal/strconv.uint64pow10", "math/bits.deBruijn32tab", "math/bits.deBruijn64tab", "anvil/anvilref07.csrNumbers", "anvil/anvilref07.csrNames"], apart := false, laid := [("math/bits.deBruijn32tab", laid_math_bits_deBruijn32tab), ("math/bits.deBruijn64tab", laid_math_bits_deBruijn64tab), ("internal/strconv.uint64pow10", laid_internal_strconv_uint64pow10), ("anvil/anvilref07.csrNames", laid_anvil_anvilref07_csrNames), ("anvil/anvilref07.csrNumbers", laid_anvil_anvilref07_csrNumbers)], narrowed := true }
def SpeakCsrsUptoSaid : Prop := speakCsrsUptoRow.holds Tryd.pinned (OpenSpec.upto speakCsrsSpec)

/-- 'anvillaw07.SpeakRegNames', WHERE WHAT IT READS IS OF BULK AT MOST 1048576: true; the input reads as it did. -/
def speakRegNamesUptoRow : OpenClaim := { program := "ytkcaebdhkodleaadoor", sum := "85147d66194e38a53d57407c95d3e0b80a4816580a7fe323ec3967f171db46e5", func := "anvil/anvillaw07.SpeakRegNames", spec := "speakRegNames", unfollowed := true, recurses := true, named := ["strings.asciiSpace", "unicode.White_Space", "internal/strconv.uint64pow10", "math/bits.deBruijn32tab", "math/bits.deBruijn64tab", "anvil/anvilref07.regs"], apart := false, laid := [("math/bits.deBruijn32tab", laid_math_bits_deBruijn32tab), ("math/bits.deBruijn64tab", laid_math_bits_deBruijn64tab), ("internal/strconv.uint64pow10", laid_internal_strconv_uint64pow10), ("anvil/anvilref07.regs", laid_anvil_anvilref07_regs), ("unicode.White_Space", laid_unicode_White_Space), ("strings.asciiSpace", laid_strings_asciiSpace)], narrowed := true }
def SpeakRegNamesUptoSaid : Prop := speakRegNamesUptoRow.holds Tryd.pinned (OpenSpec.upto speakRegNamesSpec)

/-- 'anvillaw07.SpeakCsrNames', WHERE WHAT IT READS IS OF BULK AT MOST 1048576: true; the input reads as it did. -/
def speakCsrNamesUptoRow : OpenClaim := { program := "ytkcaebdhkodleaadoor", sum := "85147d66194e38a53d57407c95d3e0b80a4816580a7fe323ec3967f171db46e5", func := "anvil/anvillaw07.SpeakCsrNames", spec := "speakCsrNames", recurses := true, named := ["internal/strconv.uint64pow10", "math/bits.deBruijn32tab", "math/bits.deBruijn64tab", "strconv.ErrSyntax", "strconv.ErrRange", "anvil/anvilref07.csrNumbers", "anvil/anvilref07.csrNames"], apart := false, laid := [("math/bits.deBruijn32tab", laid_math_bits_deBruijn32tab), ("math/bits.deBruijn64tab", laid_math_bits_deBruijn64tab), ("internal/strconv.uint64pow10", laid_internal_strconv_uint64pow10), ("strconv.ErrRange", laid_strconv_ErrRange), ("strconv.ErrSyntax", laid_strconv_ErrSyntax), ("anvil/anvilref07.csrNames", laid_anvil_anvilref07_csrNames), ("anvil/anvilref07.csrNumbers", laid_anvil_anvilref07_csrNumbers)], narrowed := true }
def SpeakCsrNamesUptoSaid : Prop := speakCsrNamesUptoRow.holds Tryd.pinned (OpenSpec.upto speakCsrNamesSpec)

end Rows
end Go.Proofs.YtkcaebdhkodleaaDoor
