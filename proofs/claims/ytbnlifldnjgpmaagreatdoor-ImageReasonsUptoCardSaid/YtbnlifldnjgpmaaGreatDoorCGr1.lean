/- The library's functions that this seat calls, by the kit's contracts, under 'Glob': the tables of utf8 and unicode stand in the world as their initialisers laid them. 'Glob' follows from a row's list of variables (glob_of_laid), and stays while nothing below the heap's size is written. -/
import Derived.Test.YtbnlifldnjgpmaaGreatDoorCShelf
import Derived.Test.YtbnlifldnjgpmaaGreatDoorRows
import Derived.WalkKit
import Derived.WalkMore
import Derived.Below
import Derived.Lib.LaidRTab
import Derived.Lib.LaidU8
import Derived.Lib.LaidIn
import Derived.Lib.LaidU8T
import Derived.Lib.Hide
import Derived.Lib.OthersKept
import Derived.Lib.RuneCount
import Derived.Deep.LoopGhost
import Derived.Test.YtbnlifldnjgpmaaGreatDoorProg
import Derived.Deep.Draws
import Derived.Deep.AppendLies
import Derived.Maps.AppendAt
import Derived.OwnWalk
import Derived.Laws.BytesArg
import Derived.Laws.MakeOwn
import Derived.Laws.OwnMore
import Derived.Deep.OwnRows
import Derived.Tactics
import Derived.Lib.ConvBytes
import Derived.Laws.Slices
import Derived.KernelRfl
import Derived.RowKit3
import Derived.Deep.QuietTactic
import Derived.BigQuiet
import Derived.WideLaws
import Derived.Deep.DeepCutAuto
import Derived.Deep.CutBlock
import Derived.Deep.RegionHeld3
import Derived.Laws.Rows
import Derived.Lib.AppendStr
import Derived.ArgAppend
import Derived.Laws.IdiomCopy
import Derived.OrdersHeld
import Derived.Laws.BitsLemmas
import Derived.RowKit
import Derived.Test.YtbnlifldnjgpmaaGreatDoorCWds1
set_option linter.unusedVariables false
namespace Go.Proofs.YtbnlifldnjgpmaaGreatDoor
open Go.RowKit Go.Lib Go.Shelf
def Glob (w : World) : Prop :=
 Lib.TabIs Tryz.prog w "unicode.properties" .u8 Lib.propertiesTab ∧ RVar (Tryz.laysLetter_ren.g 8) letterT w ∧ Lib.Utf8Tabs (Tryz.laysValid_ren.g 3) (Tryz.laysValid_ren.g 4) w
theorem Glob.step {w W : World} (h : Glob w) (hb : Below w.heap.size w W) : Glob W :=
 ⟨TabIs_below (g := Tryz.laysLetter_ren.g 7) (by kernel_rfl) h.1 hb, RVar_below h.2.1 hb, Utf8Tabs_below h.2.2 hb⟩
theorem valid_c (s : ByteArray) (w : World) (hs : s.size ≤ 9223372036854775807) (hG : Glob w) :
 Calls Tryz.prog 75 #[.string s] w fun e w' => e = .returned (.bool (Lib.validD s.data.toList)) ∧ Below w.heap.size w w' := Any.utf8_ValidString Tryz.laysValid s w hs hG.2.2
theorem count_c (s : ByteArray) (w : World) (hs : s.size < 9223372036854775807) :
 Calls Tryz.prog 76 #[.string s] w fun e w' => e = .returned (.int .i64 (Lib.runeCount s)) ∧ Below w.heap.size w w' := by
 have h := Any.utf8_RuneCountInString Tryz.laysCount s w hs
 refine Calls.mono h ?_
 rintro e w' ⟨he, pos, rfl⟩
 exact ⟨he, (Below.refl _ _).alloc (Nat.le_refl _) _⟩
theorem letter_c (r : Int) (w : World) (hlo : -2147483648 ≤ r) (hhi : r ≤ 2147483647) (hG : Glob w) :
 Calls Tryz.prog 77 #[.int .i32 r] w fun e w' => e = .returned (.bool (isLetterU r)) ∧ Below w.heap.size w w' :=
 Any.unicode_IsLetter_all Tryz.laysLetter (by kernel_rfl) r w hlo hhi hG.1 hG.2.1
theorem xL : RExtra Tryz.prog Tryz.laysLetter_ren := ⟨by kernel_rfl, by kernel_rfl, by kernel_rfl, by kernel_rfl, by kernel_rfl, by kernel_rfl, by kernel_rfl, by kernel_rfl⟩
theorem d_accept : (Rows.laid_unicode_utf8_acceptRanges : DataW Unit) = Lib.acceptData := by kernel_rfl
theorem d_props : (Rows.laid_unicode_properties : DataW Unit) = Lib.tabData .u8 Lib.propertiesTab := by kernel_rfl
theorem d_letter : Rows.laid_unicode_Letter = Lib.rtabData Lib.letterT := by kernel_rfl
theorem d_first : Rows.laid_unicode_utf8_first = Lib.firstData := by kernel_rfl
theorem d_err : (Rows.laid_errors_errorType : DataW Unit) = .iface "internal/reflectlite.rtype" (.agg [.ptr (.lit (.string [101, 114, 114, 111, 114]))]) := by kernel_rfl
/-- The list that the rows of this seat lay. -/
def theList : List (String × DataW Unit) := [("unicode/utf8.acceptRanges", Lib.acceptData), ("errors.errorType", Rows.laid_errors_errorType), ("unicode.properties", Lib.tabData .u8 Lib.propertiesTab), ("unicode.Letter", Lib.rtabData Lib.letterT), ("unicode/utf8.first", Lib.firstData)]
theorem theList_eq : [("unicode/utf8.acceptRanges", (Rows.laid_unicode_utf8_acceptRanges : DataW Unit)), ("errors.errorType", Rows.laid_errors_errorType), ("unicode.properties", Rows.laid_unicode_properties), ("unicode.Letter", Rows.laid_unicode_Letter), ("unicode/utf8.first", Rows.laid_unicode_utf8_first)] = theList := by
 rw [d_accept, d_props, d_letter, d_first]; rfl
theorem gProps : Tryz.prog.globalNamed "unicode.properties" = some 3 := by kernel_rfl
theorem gPropsType : (Tryz.prog.globals[3]?).map (·.type) = some 160 := by kernel_rfl
theorem cells5 : Tryz.prog.cellsOf 5 = 1 := by kernel_rfl
theorem cellsTab : Tryz.prog.cellsOf 160 = 256 := by kernel_rfl
/-- An array of integers that reads as these numbers, wherever it stands on the list. -/
theorem tabIs_of_reads {P : Program} {W : World} {name : String} {k : IntKind} {zs : List Int} {g : Nat} {t e : TypeId} {n : Nat}
 (hg : P.globalNamed name = some g) (hgt : (P.globals[g]?).map (·.type) = some t) (ht : P.underlying t = some (.array n e)) (he : P.underlying e = some (.int k)) (hce : P.cellsOf e = 1) (hct : P.cellsOf t = n)
 (h : VarReads P W name (Lib.tabData k zs)) : Lib.TabIs P W name k zs := by
 obtain ⟨g', t', cs, fuel, p, h1, h2, h3, h4⟩ := h
 rw [hg] at h1
 cases h1
 rw [hgt] at h2
 cases h2
 have := cells_of_tab ht he hce hct h4
 unfold Lib.TabIs
 rw [h3, ← this]
theorem glob_of_laid {W : World} (hL : laidMet Tryz.prog theList W) : Glob W :=
 ⟨tabIs_of_reads gProps gPropsType Tryz.underlying160 Tryz.underlying5 cells5 cellsTab (Lib.laidMet.reads hL (.tail _ (.tail _ (.head _)))),
  rvar_of_reads { Tryz.laysLetter with } xL (by kernel_rfl) (by kernel_rfl) (Lib.laidMet.reads hL (.tail _ (.tail _ (.tail _ (.head _))))),
  utf8Tabs_of_readsT (U8Types.of196 Tryz.laysValid) ⟨by kernel_rfl, by kernel_rfl, by kernel_rfl, by kernel_rfl, by kernel_rfl, by kernel_rfl, by kernel_rfl⟩ (Lib.laidMet.reads hL (.tail _ (.tail _ (.tail _ (.tail _ (.head _)))))) (Lib.laidMet.reads hL (.head _))⟩
end Go.Proofs.YtbnlifldnjgpmaaGreatDoor
/- image.isName and anvilref02.Name both return 'nameB' of their text; premises: the library's tables stand as laid (Glob), the text is shorter than 2^63 - 1 bytes. -/
set_option linter.unusedVariables false
set_option linter.unusedSimpArgs false
namespace Go.Proofs.YtbnlifldnjgpmaaGreatDoor
open Go.RowKit Go.Lib
/-- A rune that may stand in a name. -/
def okRune (first : Bool) (c : Nat) : Bool := isLetterU (c : Int) || decide (c = 95) || decide (c = 46) || (!first && (decide (c = 36) || (decide (48 ≤ c) && decide (c ≤ 57))))
def runesOk (s : ByteArray) : Nat → Nat → Bool
 | 0, _ => true
 | f + 1, pos => if pos < s.size then okRune (decide (pos = 0)) (Utf8.decode s pos).1 && runesOk s f (pos + (Utf8.decode s pos).2) else true
def nameB (s : ByteArray) : Bool := Lib.validD s.data.toList && (decide (Lib.runeCount s ≤ 40) && (decide (0 < s.size) && runesOk s s.size 0))
theorem runesOk_end (s : ByteArray) (f pos : Nat) (h : ¬ pos < s.size) : runesOk s f pos = true := by cases f <;> simp [runesOk, h]
theorem toList_len (s : ByteArray) : s.toList.length = s.size := by
 rw [Lib.toList_data, ← Lib.size_eq]
theorem notEmpty (s : ByteArray) (h : 0 < s.size) : s.toList.isEmpty = false := by
 cases e : s.toList with
 | nil => have := toList_len s; rw [e] at this; simp at this; omega
 | cons _ _ => rfl
theorem isEmpty_ (s : ByteArray) (h : ¬ 0 < s.size) : s.toList.isEmpty = true := by
 cases e : s.toList with
 | nil => rfl
 | cons _ _ => have := toList_len s; rw [e] at this; simp at this; omega
theorem isL_digit : ∀ c : Nat, 48 ≤ c → c ≤ 57 → isLetterU (c : Int) = false := by
 intro c h1 h2
 obtain rfl | rfl | rfl | rfl | rfl | rfl | rfl | rfl | rfl | rfl : c = 48 ∨ c = 49 ∨ c = 50 ∨ c = 51 ∨ c = 52 ∨ c = 53 ∨ c = 54 ∨ c = 55 ∨ c = 56 ∨ c = 57 := by omega
 all_goals decide +kernel
theorem isL_36 : isLetterU ((36 : Nat) : Int) = false := by decide +kernel
set_option maxHeartbeats 8000000 in
set_option maxRecDepth 1000000 in
theorem isName_calls (s : ByteArray) (w : World) (hs : s.size < 9223372036854775807) (hG : Glob w) :
 Calls Tryz.prog 42 #[.string s] w fun e w' => e = .returned (.bool (nameB s)) ∧ Below w.heap.size w w' := by
 have cV := valid_c s w (by omega) hG
 obtain ⟨ANS, hANS⟩ : ∃ ANS, nameB s = ANS := ⟨_, rfl⟩
 rw [hANS]
 unfold nameB at hANS
 have hcnt := Lib.runeCount_le s
 cases hv : Lib.validD s.data.toList
 ·rw [hv] at hANS cV
  simp only [Bool.false_and] at hANS
  subst hANS
  clear hG
  go_enter Tryz.func42, Tryz.ntmps42
  go_wp2_with (go_at_call 75; refine cV.mono ?_; rintro e w' ⟨rfl, hb⟩)
  go_ret
  exact ⟨rfl, hb⟩
 ·rw [hv] at hANS cV
  simp only [Bool.true_and] at hANS
  obtain ⟨N, hN⟩ : ∃ N, Lib.runeCount s = N := ⟨_, rfl⟩
  have cC := fun (w1 : World) => count_c s w1 hs
  rw [hN] at hANS hcnt cC
  clear hN hv
  by_cases h40 : N ≤ 40
  ·have h40z : (N : Int) ≤ 40 := by omega
   simp only [h40, decide_true, Bool.true_and] at hANS
   by_cases h0 : 0 < s.size
   ·have hne : s.toList.isEmpty = false := notEmpty s h0
    simp only [h0, decide_true, Bool.true_and] at hANS
    go_enter Tryz.func42, Tryz.ntmps42
    go_wp2_with (first | (go_at_call 75; refine cV.mono ?_; rintro e w1 ⟨rfl, hb1⟩) | (go_at_call 76; refine (cC _).mono ?_; rintro e w2 ⟨rfl, hb2⟩))
    have hG2 := Glob.step (Glob.step hG hb1) hb2
    have hb02 : Below w.heap.size w w2 := hb1.trans (hb2.mono hb1.size)
    clear hG cV cC
    go_loopg [] s.size (fun gf wx => ∃ pos : Nat, wx.heap[w2.heap.size]? = some (.stringIter s pos) ∧ Below w2.heap.size w2 wx ∧ runesOk s gf pos = ANS ∧ s.size ≤ pos + gf)
    case atStart => exact ⟨0, World.iter_heap w2 s 0, (Below.refl _ w2).alloc (Nat.le_refl _) _, hANS, by omega⟩
    case round =>
     obtain ⟨pos, hit, hbw, hleft, hfu⟩ := hrel
     by_cases hps : pos < s.size
     ·obtain ⟨g', rfl⟩ : ∃ g', gk = g' + 1 := ⟨gk - 1, by omega⟩
      have hnx : ∀ ty, (Instr.next (.pointer (some ⟨w2.heap.size, 0, none⟩)) true ty).run Tryz.prog wr = _ := fun ty => Lib.run_next_any_at wr w2.heap.size s pos ty hit hps
      have hwd := Lib.decode_width_pos s pos hps
      have hRle := decode_le s pos
      obtain ⟨R, hR⟩ : ∃ R, (Utf8.decode s pos).1 = R := ⟨_, rfl⟩
      obtain ⟨K, hK⟩ : ∃ K, (Utf8.decode s pos).2 = K := ⟨_, rfl⟩
      simp only [runesOk, hps, if_true, hR, hK] at hleft
      rw [hR, hK] at hnx
      rw [hK] at hwd
      rw [hR] at hRle
      have hit2 := Lib.iterAt_heap wr w2.heap.size s pos (pos + K) hit
      have hbw2 := Lib.below_iterAt hbw (k := w2.heap.size) (Nat.le_refl _) s (pos + K)
      obtain ⟨W, hWd⟩ : ∃ W, wr.iterAt w2.heap.size s (pos + K) = W := ⟨_, rfl⟩
      rw [hWd] at hnx hit2 hbw2
      have hGW := Glob.step hG2 hbw2
      have cL := letter_c (R : Int) W (by omega) (by omega) hGW
      have hk : ∀ W', Below W.heap.size W W' → W'.heap[w2.heap.size]? = some (.stringIter s (pos + K)) := fun W' hb' => by
       rw [hb'.block _ (Array.getElem?_eq_some_iff.1 hit2).1]; exact hit2
      clear hG2 hGW hR hK hit hbw hWd
      have fin : ∀ W', Below W.heap.size W W' → Below w2.heap.size w2 W' := fun W' hb' => hbw2.trans (hb'.mono hbw2.size)
      have HK := Lib.hid hk
      have HF := Lib.hid fin
      clear hk fin hit2 hbw2
      cases hok : okRune (decide (pos = 0)) R <;> rw [hok] at hleft
      ·-- no rune of a name: false
       simp only [Bool.false_and] at hleft
       have hl : isLetterU (R : Int) = false := by simp [okRune] at hok; exact hok.1.1.1
       have hc : R ≠ 95 ∧ R ≠ 46 ∧ ((pos = 0 ∧ R < 48) ∨ (pos = 0 ∧ 48 ≤ R ∧ R ≤ 57) ∨ (pos = 0 ∧ 57 < R) ∨ (0 < pos ∧ R ≠ 36 ∧ R < 48) ∨ (0 < pos ∧ R ≠ 36 ∧ 57 < R)) := by
        simp [okRune, hl] at hok
        omega
       clear hok
       rw [hl] at cL
       clear hl
       have HL := Lib.hid hleft
       clear hleft
       obtain ⟨h95, h46, ⟨rfl, h1⟩ | ⟨rfl, h1, h2⟩ | ⟨rfl, h1⟩ | ⟨hp, h1, h2⟩ | ⟨hp, h1, h2⟩⟩ := hc
       all_goals
        try have q95 : ((R : Int) != 95) = true := by (rw [bne_iff_ne]; omega)
        try have q46 : ((R : Int) != 46) = true := by (rw [bne_iff_ne]; omega)
        try have q36 : ((R : Int) != 36) = true := by (rw [bne_iff_ne]; omega)
        try have e36 : ((R : Int) == 36) = false := by (rw [beq_eq_false_iff_ne]; omega)
        try have g57 : decide ((R : Int) ≤ 57) = true := by (rw [decide_eq_true_iff]; omega)
        try have l57 : decide ((R : Int) ≤ 57) = false := by (rw [decide_eq_false_iff_not]; omega)
        try have z0 : ((pos : Int) == 0) = false := by (rw [beq_eq_false_iff_ne]; omega)
        go_wp2_with (go_at_call 77; refine cL.mono ?_; rintro e W3 ⟨rfl, hb3⟩)
        go_ret
        exact ⟨by rw [← HL.out]; rfl, hb02.trans ((HF.out _ hb3).mono hb02.size)⟩
      ·-- a rune of a name: on
       simp only [Bool.true_and] at hleft
       have hc : (isLetterU (R : Int) = true ∧ (R < 48 ∨ (48 ≤ R ∧ R ≤ 57) ∨ 57 < R)) ∨ (isLetterU (R : Int) = false ∧ (R = 95 ∨ R = 46 ∨ (0 < pos ∧ R = 36) ∨ (0 < pos ∧ 48 ≤ R ∧ R ≤ 57))) := by
        cases hl : isLetterU (R : Int)
        ·right
         simp [okRune, hl] at hok
         exact ⟨rfl, by omega⟩
        ·exact .inl ⟨rfl, by omega⟩
       clear hok
       have HL := Lib.hid hleft
       clear hleft
       rcases hc with ⟨hl, h1 | ⟨h1, h2⟩ | h1⟩ | ⟨hl, rfl | rfl | ⟨hp, rfl⟩ | ⟨hp, h1, h2⟩⟩ <;> rw [hl] at cL <;> clear hl
       all_goals
        try have q95 : ((R : Int) != 95) = true := by (rw [bne_iff_ne]; omega)
        try have q46 : ((R : Int) != 46) = true := by (rw [bne_iff_ne]; omega)
        try have q36 : ((R : Int) != 36) = true := by (rw [bne_iff_ne]; omega)
        try have e36 : ((R : Int) == 36) = false := by (rw [beq_eq_false_iff_ne]; omega)
        try have g57 : decide ((R : Int) ≤ 57) = true := by (rw [decide_eq_true_iff]; omega)
        try have l57 : decide ((R : Int) ≤ 57) = false := by (rw [decide_eq_false_iff_not]; omega)
        try have z0 : ((pos : Int) == 0) = false := by (rw [beq_eq_false_iff_ne]; omega)
        go_wp2_with (go_at_call 77; refine cL.mono ?_; rintro e W3 ⟨rfl, hb3⟩)
        go_roundg g'
        case measure => omega
        case rel => exact ⟨_, HK.out _ hb3, HF.out _ hb3, HL.out, by omega⟩
     ·have hnx : ∀ ty, (Instr.next (.pointer (some ⟨w2.heap.size, 0, none⟩)) true ty).run Tryz.prog wr = _ := fun ty => Lib.run_next_end_at wr w2.heap.size s pos ty hit hps
      rw [runesOk_end s gk pos hps] at hleft
      have HL := Lib.hid hleft
      clear hleft
      go_wp2
      go_ret
      exact ⟨by rw [← HL.out] <;> rfl, hb02.trans (hbw.mono hb02.size)⟩
   ·have hne : s.toList.isEmpty = true := isEmpty_ s h0
    have hN0 : N = 0 := by omega
    simp only [h0, decide_false, Bool.false_and] at hANS
    subst hANS
    clear hG
    go_enter Tryz.func42, Tryz.ntmps42
    go_wp2_with (first | (go_at_call 75; refine cV.mono ?_; rintro e w1 ⟨rfl, hb1⟩) | (go_at_call 76; refine (cC _).mono ?_; rintro e w2 ⟨rfl, hb2⟩))
    go_ret
    exact ⟨rfl, hb1.trans (hb2.mono hb1.size)⟩
  ·have h40z : (40 : Int) < (N : Int) := by omega
   simp only [h40, decide_false, Bool.false_and] at hANS
   subst hANS
   clear hG
   go_enter Tryz.func42, Tryz.ntmps42
   go_wp2_with (first | (go_at_call 75; refine cV.mono ?_; rintro e w1 ⟨rfl, hb1⟩) | (go_at_call 76; refine (cC _).mono ?_; rintro e w2 ⟨rfl, hb2⟩))
   go_ret
   exact ⟨rfl, hb1.trans (hb2.mono hb1.size)⟩
theorem runesOk_zero (s : ByteArray) (h : ¬ 0 < s.size) : Lib.runeCount s = 0 := by
 have := Lib.runeCount_le s; omega
set_option maxHeartbeats 8000000 in
set_option maxRecDepth 1000000 in
theorem Name_calls (s : ByteArray) (w : World) (hs : s.size < 9223372036854775807) (hG : Glob w) :
 Calls Tryz.prog 68 #[.string s] w fun e w' => e = .returned (.bool (nameB s)) ∧ Below w.heap.size w w' := by
 have cV := valid_c s w (by omega) hG
 obtain ⟨ANS, hANS⟩ : ∃ ANS, nameB s = ANS := ⟨_, rfl⟩
 rw [hANS]
 unfold nameB at hANS
 cases hv : Lib.validD s.data.toList
 ·rw [hv] at hANS cV
  simp only [Bool.false_and] at hANS
  subst hANS
  clear hG
  go_enter Tryz.func68, Tryz.ntmps68
  go_wp2_with (go_at_call 75; refine cV.mono ?_; rintro e w' ⟨rfl, hb⟩)
  go_ret
  exact ⟨rfl, hb⟩
 ·rw [hv] at hANS cV
  simp only [Bool.true_and] at hANS
  clear hv
  have hcnt := Lib.runeCount_le s
  have HA : Hid ((decide (Lib.runeCount s ≤ 40) && (decide (0 < s.size) && runesOk s s.size 0)) = ANS) := Lib.hid hANS
  clear hANS
  go_enter Tryz.func68, Tryz.ntmps68
  go_wp2_with (go_at_call 75; refine cV.mono ?_; rintro e w2 ⟨rfl, hb02⟩)
  have hG2 := Glob.step hG hb02
  clear hG cV
  go_loopg [3] s.size (fun gf n wx => ∃ pos acc : Nat, n = .int .i64 acc ∧ acc ≤ pos ∧ acc ≤ s.size ∧ (acc = 0 → pos = 0) ∧ wx.heap[w2.heap.size]? = some (.stringIter s pos) ∧ Below w2.heap.size w2 wx ∧ runesOk s gf pos = runesOk s s.size 0 ∧ acc + Lib.runeCountFrom s gf pos = Lib.runeCount s ∧ s.size ≤ pos + gf)
  case atStart => exact ⟨0, 0, rfl, Nat.le_refl _, Nat.zero_le _, fun _ => rfl, World.iter_heap w2 s 0, (Below.refl _ w2).alloc (Nat.le_refl _) _, rfl, by simp [Lib.runeCount], by omega⟩
  case round =>
   obtain ⟨pos, acc, rfl, hap, has, haz, hit, hbw, hleft, hcn, hfu⟩ := hrel
   by_cases hps : pos < s.size
   ·obtain ⟨g', rfl⟩ : ∃ g', gk = g' + 1 := ⟨gk - 1, by omega⟩
    have hnx : ∀ ty, (Instr.next (.pointer (some ⟨w2.heap.size, 0, none⟩)) true ty).run Tryz.prog wr = _ := fun ty => Lib.run_next_any_at wr w2.heap.size s pos ty hit hps
    have hwd := Lib.decode_width_pos s pos hps
    have hRle := decode_le s pos
    obtain ⟨R, hR⟩ : ∃ R, (Utf8.decode s pos).1 = R := ⟨_, rfl⟩
    obtain ⟨K, hK⟩ : ∃ K, (Utf8.decode s pos).2 = K := ⟨_, rfl⟩
    simp only [runesOk, hps, if_true, hR, hK] at hleft
    simp only [Lib.runeCountFrom, hps, if_true, hK] at hcn
    have hacc : acc + 1 ≤ s.size := by omega
    rw [hR, hK] at hnx
    rw [hK] at hwd
    rw [hR] at hRle
    have hit2 := Lib.iterAt_heap wr w2.heap.size s pos (pos + K) hit
    have hbw2 := Lib.below_iterAt hbw (k := w2.heap.size) (Nat.le_refl _) s (pos + K)
    obtain ⟨W, hWd⟩ : ∃ W, wr.iterAt w2.heap.size s (pos + K) = W := ⟨_, rfl⟩
    rw [hWd] at hnx hit2 hbw2
    have hGW := Glob.step hG2 hbw2
    have cL := letter_c (R : Int) W (by omega) (by omega) hGW
    have hk : ∀ W', Below W.heap.size W W' → W'.heap[w2.heap.size]? = some (.stringIter s (pos + K)) := fun W' hb' => by
     rw [hb'.block _ (Array.getElem?_eq_some_iff.1 hit2).1]; exact hit2
    clear hG2 hGW hR hK hit hbw hWd
    have fin : ∀ W', Below W.heap.size W W' → Below w2.heap.size w2 W' := fun W' hb' => hbw2.trans (hb'.mono hbw2.size)
    have HK := Lib.hid hk
    have HF := Lib.hid fin
    have HN := Lib.hid hcn
    have HS : Hid (Below W.heap.size W W) := Lib.hid (Below.refl _ _)
    clear hk fin hit2 hbw2 hcn
    cases hok : okRune (decide (pos = 0)) R <;> rw [hok] at hleft
    ·simp only [Bool.false_and] at hleft
     have hl : isLetterU (R : Int) = false := by simp [okRune] at hok; exact hok.1.1.1
     have hc : R ≠ 95 ∧ R ≠ 46 ∧ ((pos = 0 ∧ R < 48 ∧ R ≠ 36) ∨ (pos = 0 ∧ R = 36) ∨ (pos = 0 ∧ 48 ≤ R ∧ R ≤ 57) ∨ (pos = 0 ∧ 57 < R) ∨ (0 < pos ∧ R ≠ 36 ∧ R < 48) ∨ (0 < pos ∧ R ≠ 36 ∧ 57 < R)) := by
      simp [okRune, hl] at hok
      omega
     clear hok
     rw [hl] at cL
     clear hl
     have hfin : ANS = false := by rw [← HA.out, ← hleft]; simp
     have HL := Lib.hid hfin
     clear hleft hfin
     obtain ⟨h95, h46, ⟨rfl, h1, h36⟩ | ⟨rfl, rfl⟩ | ⟨rfl, h1, h2⟩ | ⟨rfl, h1⟩ | ⟨hp, h1, h2⟩ | ⟨hp, h1, h2⟩⟩ := hc
     all_goals
      try have q95 : ((R : Int) != 95) = true := by (rw [bne_iff_ne]; omega)
      try have q46 : ((R : Int) != 46) = true := by (rw [bne_iff_ne]; omega)
      try have q36 : ((R : Int) != 36) = true := by (rw [bne_iff_ne]; omega)
      try have e36 : ((R : Int) == 36) = false := by (rw [beq_eq_false_iff_ne]; omega)
      try have g57 : decide ((R : Int) ≤ 57) = true := by (rw [decide_eq_true_iff]; omega)
      try have l57 : decide ((R : Int) ≤ 57) = false := by (rw [decide_eq_false_iff_not]; omega)
      try have z0 : ((pos : Int) == 0) = false := by (rw [beq_eq_false_iff_ne]; omega)
      go_wp2_with (go_at_call 77; refine cL.mono ?_; rintro e W3 ⟨rfl, hb3⟩)
      go_ret
      exact ⟨by rw [HL.out]; rfl, hb02.trans ((HF.out _ (by first | assumption | exact HS.out)).mono hb02.size)⟩
    ·simp only [Bool.true_and] at hleft
     have hc : (isLetterU (R : Int) = true ∧ R ≠ 36 ∧ (R < 48 ∨ 57 < R)) ∨ (isLetterU (R : Int) = false ∧ (R = 95 ∨ R = 46)) ∨ (0 < pos ∧ R = 36) ∨ (0 < pos ∧ 48 ≤ R ∧ R ≤ 57) := by
      cases hl : isLetterU (R : Int)
      ·simp [okRune, hl] at hok
       have h3 : (R = 95 ∨ R = 46) ∨ (0 < pos ∧ R = 36) ∨ (0 < pos ∧ 48 ≤ R ∧ R ≤ 57) := by omega
       rcases h3 with h3 | h3
       ·exact .inr (.inl ⟨rfl, h3⟩)
       ·exact .inr (.inr h3)
      ·have n36 : R ≠ 36 := fun e => by rw [e, isL_36] at hl; cases hl
       have nd : ¬ (48 ≤ R ∧ R ≤ 57) := fun ⟨a, b⟩ => by rw [isL_digit R a b] at hl; cases hl
       exact .inl ⟨rfl, n36, by omega⟩
     clear hok
     have HL := Lib.hid hleft
     clear hleft
     have HQ : Hid (acc = 0 → pos = 0) := Lib.hid haz
     clear haz
     rcases hc with ⟨hl, h36, h1 | h1⟩ | ⟨hl, rfl | rfl⟩ | ⟨hp, rfl⟩ | ⟨hp, h1, h2⟩
     all_goals (try (rw [isL_36] at cL))
     all_goals (try (rw [hl] at cL; clear hl))
     all_goals
      try have q95 : ((R : Int) != 95) = true := by (rw [bne_iff_ne]; omega)
      try have q46 : ((R : Int) != 46) = true := by (rw [bne_iff_ne]; omega)
      try have q36 : ((R : Int) != 36) = true := by (rw [bne_iff_ne]; omega)
      try have e36 : ((R : Int) == 36) = false := by (rw [beq_eq_false_iff_ne]; omega)
      try have g57 : decide ((R : Int) ≤ 57) = true := by (rw [decide_eq_true_iff]; omega)
      try have l57 : decide ((R : Int) ≤ 57) = false := by (rw [decide_eq_false_iff_not]; omega)
      try have z0 : ((pos : Int) == 0) = false := by (rw [beq_eq_false_iff_ne]; omega)
      go_wp2_with (go_at_call 77; refine cL.mono ?_; rintro e W3 ⟨rfl, hb3⟩)
      all_goals
       go_roundg g'
       case measure => omega
       case rel => exact ⟨_, acc + 1, by go_num, by omega, hacc, by omega, HK.out _ (by first | assumption | exact HS.out), HF.out _ (by first | assumption | exact HS.out), HL.out, by have := HN.out; omega, by omega⟩
   ·have hnx : ∀ ty, (Instr.next (.pointer (some ⟨w2.heap.size, 0, none⟩)) true ty).run Tryz.prog wr = _ := fun ty => Lib.run_next_end_at wr w2.heap.size s pos ty hit hps
    rw [runesOk_end s gk pos hps] at hleft
    rw [Lib.runeCountFrom_end s gk pos hps] at hcn
    have hfin : ANS = (decide (acc ≤ 40) && decide (1 ≤ acc)) := by
     rw [← HA.out, ← hleft, Bool.and_true]
     have e1 : Lib.runeCount s = acc := by omega
     rw [e1]
     congr 1
     rw [decide_eq_decide]
     omega
    have HL := Lib.hid hfin
    clear hleft hcn haz hfin
    by_cases h1 : 1 ≤ acc
    ·by_cases h2 : acc ≤ 40
     ·have g40 : decide ((acc : Int) ≤ 40) = true := by (rw [decide_eq_true_iff]; omega)
      go_wp2
      go_ret
      exact ⟨by rw [HL.out]; simp [h1, h2], hb02.trans (hbw.mono hb02.size)⟩
     ·have g40 : decide ((acc : Int) ≤ 40) = false := by (rw [decide_eq_false_iff_not]; omega)
      go_wp2
      go_ret
      exact ⟨by rw [HL.out]; simp [h1, h2], hb02.trans (hbw.mono hb02.size)⟩
    ·go_wp2
     go_ret
     exact ⟨by rw [HL.out]; simp [h1], hb02.trans (hbw.mono hb02.size)⟩
end Go.Proofs.YtbnlifldnjgpmaaGreatDoor
/- '>' on strings is '<' turned round (plain law; no premise), told to the walk. -/
namespace Go.Proofs.YtbnlifldnjgpmaaGreatDoor
open Go.RowKit
theorem less_total : ∀ x y : List UInt8, (!(Op.bytesLess x y || x == y)) = Op.bytesLess y x
 | [], [] => by simp [Op.bytesLess]
 | [], _ :: _ => by simp [Op.bytesLess]
 | _ :: _, [] => by simp [Op.bytesLess]
 | a :: x, b :: y => by
  have ih := less_total x y
  simp only [Op.bytesLess]
  rw [← ih]
  by_cases h : a = b
  ·subst h
   have : ¬ a < a := by simp
   simp [this]
  ·have h2 : (b == a) = false := by simp; exact fun e => h e.symm
   have h3 : (a == b) = false := by simp [h]
   have h4 : (a :: x == b :: y) = false := by
    rw [beq_eq_false_iff_ne]; intro e; injection e with e _; exact h e
   rw [h2, h3, h4]
   simp only [Bool.false_and, Bool.or_false]
   have : (a < b) ↔ ¬ (b < a) := by
    simp only [UInt8.lt_iff_toNat_lt]
    have : a.toNat ≠ b.toNat := fun e => h (UInt8.toNat_inj.1 e)
    omega
   by_cases h5 : a < b
   ·simp [h5, this.1 h5]
   ·have h6 : b < a := by
     rcases Decidable.em (b < a) with h7 | h7
     ·exact h7
     ·exact absurd (this.2 h7) h5
    simp [h5, h6]
@[go_sem] theorem gtr_string (t : TypeId) (a b : ByteArray) : binOp .gtr t (.string a) (.string b) = pure (.bool (Op.bytesLess b.toList a.toList)) := by
 rw [← less_total]
 simp [binOp, Op.stringOp]
end Go.Proofs.YtbnlifldnjgpmaaGreatDoor
-- BY PROGRAM of this session (the kit's printer, turned by wip/tools/patch_print.py). Lean checks it.
namespace Go.Proofs.YtbnlifldnjgpmaaGreatDoor.PWri
open Go.RowKit Go.Proofs.YtbnlifldnjgpmaaGreatDoorW.PrintWords Go.Proofs.YtbnlifldnjgpmaaGreatDoorW.PrintLast Go.Proofs.YtbnlifldnjgpmaaGreatDoorW.PrintMore
attribute [local go_sem] max2_int min2_int max_two min_two max_three min_three max_four min_four   -- for this text's walks alone
set_option linter.unusedVariables false
set_option linter.unusedSimpArgs false
def errW : Option Int → Value
 | none => .nilIface
 | some c => .iface 0 (.int .i64 c)
theorem errW_none : errW none = .nilIface := rfl
theorem errW_some (c : Int) : errW (some c) = .iface 0 (.int .i64 c) := rfl
theorem info3 : (Tryz.prog.info? 3).map (fun i => (i.zero, i.size, i.bytes)) = some (some (.int .i64 0), 1, 8) := by kernel_rfl
theorem info5 : (Tryz.prog.info? 5).map (fun i => (i.zero, i.size, i.bytes)) = some (some (.int .u8 0), 1, 1) := by kernel_rfl
theorem info55 : (Tryz.prog.info? 55).map (fun i => (i.zero, i.size, i.bytes)) = some (some (.agg #[(.int .u64 0), (.int .u64 0), (.int .i64 0), (.slice none 0 0)]), 4, 48) := by kernel_rfl
theorem info82 : (Tryz.prog.info? 82).map (fun i => (i.zero, i.size, i.bytes)) = some (some (.agg #[(.string ⟨#[]⟩), (.int .u64 0)]), 2, 24) := by kernel_rfl
-- the values' own types
def rd_L3 (xs : List (List Int)) (i : Int) : (List Int) := xs.getD i.toNat ([] : List Int)
theorem at_L3 {w : World} {A : Option Addr} {n : Nat} {xs : List (List Int)} (h : Kd.C (Kd.slice 5 (Kd.int .u8)) w A n xs) (i : Int) (h0 : 0 ≤ i) (h1 : i < n) : ∃ ad A0 c0, A = some ad ∧ w.cell? (ad.add i.toNat) = some (.slice A0 (rd_L3 xs i).length c0) ∧ (rd_L3 xs i).length ≤ c0 ∧ (Kd.int .u8).C w A0 (rd_L3 xs i).length (rd_L3 xs i) := by
 obtain ⟨ad, c, e, _, hK, hc0⟩ := Kd.C_get h ([] : List Int) i h0 h1
 have hc : ∀ j u, c[j]? = some u → w.cell? (ad.add (i.toNat * 1 + j)) = some u := hc0
 obtain ⟨A0, c0, rfl, l0, g0⟩ := hK
 exact ⟨ad, A0, c0, e, by have hq := hc 0 _ rfl; rwa [Nat.mul_one, Nat.add_zero] at hq, l0, g0⟩
structure S55 where
 f0 : Int
 f1 : Int
 f2 : Int
 f3 : (List Int)
def z55 : S55 := ⟨(0 : Int), (0 : Int), (0 : Int), ([] : List Int)⟩
def k55 : Kd S55 := Kd.iso (Kd.pair (Kd.int .u64) (Kd.pair (Kd.int .u64) (Kd.pair (Kd.int .i64) (Kd.slice 5 (Kd.int .u8))))) (fun x : S55 => (x.f0, x.f1, x.f2, x.f3))
theorem k55_open {w : World} {x : S55} {cs : List Value} (h : k55.K w x cs) : ∃ A3 c3, cs = [.int .u64 x.f0, .int .u64 x.f1, .int .i64 x.f2, .slice A3 x.f3.length c3] ∧ x.f3.length ≤ c3 ∧ (Kd.int .u8).C w A3 x.f3.length x.f3 := by
 obtain ⟨_, _, rfl, rfl, ⟨_, _, rfl, rfl, ⟨_, _, rfl, rfl, ⟨A3, c3, rfl, l3, g3⟩⟩⟩⟩ := h
 exact ⟨A3, c3, rfl, l3, g3⟩
theorem k55_openM {w : World} {base : Nat} {ok : Nat → Prop} {x : S55} {cs : List Value} (h : k55.M w base ok x cs) : ∃ v3, cs = [.int .u64 x.f0, .int .u64 x.f1, .int .i64 x.f2, v3] ∧ (Kd.int .u8).R 5 w base ok v3 x.f3 := by
 obtain ⟨_, _, rfl, rfl, ⟨_, _, rfl, rfl, ⟨_, _, rfl, rfl, ⟨v3, rfl, g3⟩⟩⟩⟩ := h
 exact ⟨v3, rfl, g3⟩
theorem k55_mk (w : World) (x : S55) {A3 : Option Addr} {c3 : Nat} (l3 : x.f3.length ≤ c3) (g3 : (Kd.int .u8).C w A3 x.f3.length x.f3) : k55.K w x [.int .u64 x.f0, .int .u64 x.f1, .int .i64 x.f2, .slice A3 x.f3.length c3] := ⟨[.int .u64 x.f0], [.int .u64 x.f1, .int .i64 x.f2, .slice A3 x.f3.length c3], rfl, rfl, ⟨[.int .u64 x.f1], [.int .i64 x.f2, .slice A3 x.f3.length c3], rfl, rfl, ⟨[.int .i64 x.f2], [.slice A3 x.f3.length c3], rfl, rfl, ⟨A3, c3, rfl, l3, g3⟩⟩⟩⟩
theorem k55_mkM (w : World) (base : Nat) (ok : Nat → Prop) (x : S55) {v3 : Value} (g3 : (Kd.int .u8).R 5 w base ok v3 x.f3) : k55.M w base ok x [.int .u64 x.f0, .int .u64 x.f1, .int .i64 x.f2, v3] := ⟨[.int .u64 x.f0], [.int .u64 x.f1, .int .i64 x.f2, v3], rfl, rfl, ⟨[.int .u64 x.f1], [.int .i64 x.f2, v3], rfl, rfl, ⟨[.int .i64 x.f2], [v3], rfl, rfl, ⟨v3, rfl, g3⟩⟩⟩⟩
theorem k55_openF {W : World} {ok : Nat → Prop} {x : S55} {cs : List Value} (h : Kd.FK k55 W ok x cs) : ∃ A3 c3, cs = [.int .u64 x.f0, .int .u64 x.f1, .int .i64 x.f2, .slice A3 x.f3.length c3] ∧ x.f3.length ≤ c3 ∧ Kd.F (Kd.int .u8) W ok A3 x.f3.length x.f3 := by
 obtain ⟨A3, c3, rfl, l3, _⟩ := k55_open (Kd.FK_now h)
 exact ⟨A3, c3, rfl, l3, (fun W' hW => by obtain ⟨A3_, c3_, he, l3_, g3_⟩ := k55_open (h W' hW); injection (Option.some.inj (show some (Value.slice A3 x.f3.length c3) = some (Value.slice A3_ x.f3.length c3_) from congrArg (fun l => l[3]?) he)) with ha_ _ _; rw [ha_]; exact g3_)⟩
theorem k55_mkF (W : World) (ok : Nat → Prop) (x : S55) {A3 : Option Addr} {c3 : Nat} (l3 : x.f3.length ≤ c3) (g3 : Kd.F (Kd.int .u8) W ok A3 x.f3.length x.f3) : Kd.FK k55 W ok x [.int .u64 x.f0, .int .u64 x.f1, .int .i64 x.f2, .slice A3 x.f3.length c3] := fun W2 hW => k55_mk W2 x l3 (g3 W2 hW)
def rd_T55 (xs : List S55) (i : Int) : S55 := xs.getD i.toNat z55
theorem at_T55 {w : World} {A : Option Addr} {n : Nat} {xs : List S55} (h : Kd.C k55 w A n xs) (i : Int) (h0 : 0 ≤ i) (h1 : i < n) : ∃ ad A3 c3, A = some ad ∧ w.cell? (ad.add (i.toNat * 4)) = some (.int .u64 (rd_T55 xs i).f0) ∧ w.cell? ⟨(ad.add (i.toNat * 4)).block, (ad.add (i.toNat * 4)).off + 1, none⟩ = some (.int .u64 (rd_T55 xs i).f1) ∧ w.cell? ⟨(ad.add (i.toNat * 4)).block, (ad.add (i.toNat * 4)).off + 2, none⟩ = some (.int .i64 (rd_T55 xs i).f2) ∧ w.cell? ⟨(ad.add (i.toNat * 4)).block, (ad.add (i.toNat * 4)).off + 3, none⟩ = some (.slice A3 (rd_T55 xs i).f3.length c3) ∧ (rd_T55 xs i).f3.length ≤ c3 ∧ (Kd.int .u8).C w A3 (rd_T55 xs i).f3.length (rd_T55 xs i).f3 := by
 obtain ⟨ad, c, e, _, hK, hc0⟩ := Kd.C_get h z55 i h0 h1
 have hc : ∀ j u, c[j]? = some u → w.cell? (ad.add (i.toNat * 4 + j)) = some u := hc0
 obtain ⟨A3, c3, rfl, l3, g3⟩ := k55_open hK
 exact ⟨ad, A3, c3, e, hc 0 _ rfl, by rw [← add_field _ _ 1 (by omega)]; exact hc 1 _ rfl, by rw [← add_field _ _ 2 (by omega)]; exact hc 2 _ rfl, by rw [← add_field _ _ 3 (by omega)]; exact hc 3 _ rfl, l3, g3⟩
structure S82 where
 f0 : ByteArray
 f1 : Int
def z82 : S82 := ⟨(⟨#[]⟩ : ByteArray), (0 : Int)⟩
def k82 : Kd S82 := Kd.iso (Kd.pair Kd.string (Kd.int .u64)) (fun x : S82 => (x.f0, x.f1))
theorem k82_open {w : World} {x : S82} {cs : List Value} (h : k82.K w x cs) : cs = [.string x.f0, .int .u64 x.f1] := by
 obtain ⟨_, _, rfl, rfl, rfl⟩ := h
 exact rfl
theorem k82_openM {w : World} {base : Nat} {ok : Nat → Prop} {x : S82} {cs : List Value} (h : k82.M w base ok x cs) : cs = [.string x.f0, .int .u64 x.f1] := by
 obtain ⟨_, _, rfl, rfl, rfl⟩ := h
 exact rfl
theorem k82_mk (w : World) (x : S82)  : k82.K w x [.string x.f0, .int .u64 x.f1] := ⟨[.string x.f0], [.int .u64 x.f1], rfl, rfl, rfl⟩
theorem k82_mkM (w : World) (base : Nat) (ok : Nat → Prop) (x : S82)  : k82.M w base ok x [.string x.f0, .int .u64 x.f1] := ⟨[.string x.f0], [.int .u64 x.f1], rfl, rfl, rfl⟩
theorem k82_mkF (W : World) (ok : Nat → Prop) (x : S82) : Kd.FK k82 W ok x [.string x.f0, .int .u64 x.f1] := fun W2 _ => k82_mk W2 x
def rd_T82 (xs : List S82) (i : Int) : S82 := xs.getD i.toNat z82
theorem at_T82 {w : World} {A : Option Addr} {n : Nat} {xs : List S82} (h : Kd.C k82 w A n xs) (i : Int) (h0 : 0 ≤ i) (h1 : i < n) : ∃ ad , A = some ad ∧ w.cell? (ad.add (i.toNat * 2)) = some (.string (rd_T82 xs i).f0) ∧ w.cell? ⟨(ad.add (i.toNat * 2)).block, (ad.add (i.toNat * 2)).off + 1, none⟩ = some (.int .u64 (rd_T82 xs i).f1) := by
 obtain ⟨ad, c, e, _, hK, hc0⟩ := Kd.C_get h z82 i h0 h1
 have hc : ∀ j u, c[j]? = some u → w.cell? (ad.add (i.toNat * 2 + j)) = some u := hc0
 obtain rfl := k82_open hK
 exact ⟨ad, e, hc 0 _ rfl, by rw [← add_field _ _ 1 (by omega)]; exact hc 1 _ rfl⟩
def rd_L8 (xs : List (List S55)) (i : Int) : (List S55) := xs.getD i.toNat ([] : List S55)
theorem at_L8 {w : World} {A : Option Addr} {n : Nat} {xs : List (List S55)} (h : Kd.C (Kd.slice 55 k55) w A n xs) (i : Int) (h0 : 0 ≤ i) (h1 : i < n) : ∃ ad A0 c0, A = some ad ∧ w.cell? (ad.add i.toNat) = some (.slice A0 (rd_L8 xs i).length c0) ∧ (rd_L8 xs i).length ≤ c0 ∧ k55.C w A0 (rd_L8 xs i).length (rd_L8 xs i) := by
 obtain ⟨ad, c, e, _, hK, hc0⟩ := Kd.C_get h ([] : List S55) i h0 h1
 have hc : ∀ j u, c[j]? = some u → w.cell? (ad.add (i.toNat * 1 + j)) = some u := hc0
 obtain ⟨A0, c0, rfl, l0, g0⟩ := hK
 exact ⟨ad, A0, c0, e, by have hq := hc 0 _ rfl; rwa [Nat.mul_one, Nat.add_zero] at hq, l0, g0⟩
def rd_L9 (xs : List (List S82)) (i : Int) : (List S82) := xs.getD i.toNat ([] : List S82)
theorem at_L9 {w : World} {A : Option Addr} {n : Nat} {xs : List (List S82)} (h : Kd.C (Kd.slice 82 k82) w A n xs) (i : Int) (h0 : 0 ≤ i) (h1 : i < n) : ∃ ad A0 c0, A = some ad ∧ w.cell? (ad.add i.toNat) = some (.slice A0 (rd_L9 xs i).length c0) ∧ (rd_L9 xs i).length ≤ c0 ∧ k82.C w A0 (rd_L9 xs i).length (rd_L9 xs i) := by
 obtain ⟨ad, c, e, _, hK, hc0⟩ := Kd.C_get h ([] : List S82) i h0 h1
 have hc : ∀ j u, c[j]? = some u → w.cell? (ad.add (i.toNat * 1 + j)) = some u := hc0
 obtain ⟨A0, c0, rfl, l0, g0⟩ := hK
 exact ⟨ad, A0, c0, e, by have hq := hc 0 _ rfl; rwa [Nat.mul_one, Nat.add_zero] at hq, l0, g0⟩
structure S28 where
 f0 : Int
 f1 : (List S55)
 f2 : (List S82)
def z28 : S28 := ⟨(0 : Int), ([] : List S55), ([] : List S82)⟩
def k28 : Kd S28 := Kd.iso (Kd.pair (Kd.int .u64) (Kd.pair (Kd.slice 55 k55) (Kd.slice 82 k82))) (fun x : S28 => (x.f0, x.f1, x.f2))
theorem k28_open {w : World} {x : S28} {cs : List Value} (h : k28.K w x cs) : ∃ A1 c1 A2 c2, cs = [.int .u64 x.f0, .slice A1 x.f1.length c1, .slice A2 x.f2.length c2] ∧ x.f1.length ≤ c1 ∧ k55.C w A1 x.f1.length x.f1 ∧ x.f2.length ≤ c2 ∧ k82.C w A2 x.f2.length x.f2 := by
 obtain ⟨_, _, rfl, rfl, ⟨_, _, rfl, ⟨A1, c1, rfl, l1, g1⟩, ⟨A2, c2, rfl, l2, g2⟩⟩⟩ := h
 exact ⟨A1, c1, A2, c2, rfl, l1, g1, l2, g2⟩
theorem k28_openM {w : World} {base : Nat} {ok : Nat → Prop} {x : S28} {cs : List Value} (h : k28.M w base ok x cs) : ∃ v1 v2, cs = [.int .u64 x.f0, v1, v2] ∧ k55.R 55 w base ok v1 x.f1 ∧ k82.R 82 w base ok v2 x.f2 := by
 obtain ⟨_, _, rfl, rfl, ⟨_, _, rfl, ⟨v1, rfl, g1⟩, ⟨v2, rfl, g2⟩⟩⟩ := h
 exact ⟨v1, v2, rfl, g1, g2⟩
theorem k28_mk (w : World) (x : S28) {A1 : Option Addr} {c1 : Nat} (l1 : x.f1.length ≤ c1) (g1 : k55.C w A1 x.f1.length x.f1) {A2 : Option Addr} {c2 : Nat} (l2 : x.f2.length ≤ c2) (g2 : k82.C w A2 x.f2.length x.f2) : k28.K w x [.int .u64 x.f0, .slice A1 x.f1.length c1, .slice A2 x.f2.length c2] := ⟨[.int .u64 x.f0], [.slice A1 x.f1.length c1, .slice A2 x.f2.length c2], rfl, rfl, ⟨[.slice A1 x.f1.length c1], [.slice A2 x.f2.length c2], rfl, ⟨A1, c1, rfl, l1, g1⟩, ⟨A2, c2, rfl, l2, g2⟩⟩⟩
theorem k28_mkM (w : World) (base : Nat) (ok : Nat → Prop) (x : S28) {v1 : Value} (g1 : k55.R 55 w base ok v1 x.f1) {v2 : Value} (g2 : k82.R 82 w base ok v2 x.f2) : k28.M w base ok x [.int .u64 x.f0, v1, v2] := ⟨[.int .u64 x.f0], [v1, v2], rfl, rfl, ⟨[v1], [v2], rfl, ⟨v1, rfl, g1⟩, ⟨v2, rfl, g2⟩⟩⟩
theorem k28_openF {W : World} {ok : Nat → Prop} {x : S28} {cs : List Value} (h : Kd.FK k28 W ok x cs) : ∃ A1 c1 A2 c2, cs = [.int .u64 x.f0, .slice A1 x.f1.length c1, .slice A2 x.f2.length c2] ∧ x.f1.length ≤ c1 ∧ Kd.F k55 W ok A1 x.f1.length x.f1 ∧ x.f2.length ≤ c2 ∧ Kd.F k82 W ok A2 x.f2.length x.f2 := by
 obtain ⟨A1, c1, A2, c2, rfl, l1, _, l2, _⟩ := k28_open (Kd.FK_now h)
 exact ⟨A1, c1, A2, c2, rfl, l1, (fun W' hW => by obtain ⟨A1_, c1_, A2_, c2_, he, l1_, g1_, l2_, g2_⟩ := k28_open (h W' hW); injection (Option.some.inj (show some (Value.slice A1 x.f1.length c1) = some (Value.slice A1_ x.f1.length c1_) from congrArg (fun l => l[1]?) he)) with ha_ _ _; rw [ha_]; exact g1_), l2, (fun W' hW => by obtain ⟨A1_, c1_, A2_, c2_, he, l1_, g1_, l2_, g2_⟩ := k28_open (h W' hW); injection (Option.some.inj (show some (Value.slice A2 x.f2.length c2) = some (Value.slice A2_ x.f2.length c2_) from congrArg (fun l => l[2]?) he)) with ha_ _ _; rw [ha_]; exact g2_)⟩
theorem k28_mkF (W : World) (ok : Nat → Prop) (x : S28) {A1 : Option Addr} {c1 : Nat} (l1 : x.f1.length ≤ c1) (g1 : Kd.F k55 W ok A1 x.f1.length x.f1) {A2 : Option Addr} {c2 : Nat} (l2 : x.f2.length ≤ c2) (g2 : Kd.F k82 W ok A2 x.f2.length x.f2) : Kd.FK k28 W ok x [.int .u64 x.f0, .slice A1 x.f1.length c1, .slice A2 x.f2.length c2] := fun W2 hW => k28_mk W2 x l1 (g1 W2 hW) l2 (g2 W2 hW)
def rd_T28 (xs : List S28) (i : Int) : S28 := xs.getD i.toNat z28
theorem at_T28 {w : World} {A : Option Addr} {n : Nat} {xs : List S28} (h : Kd.C k28 w A n xs) (i : Int) (h0 : 0 ≤ i) (h1 : i < n) : ∃ ad A1 c1 A2 c2, A = some ad ∧ w.cell? (ad.add (i.toNat * 3)) = some (.int .u64 (rd_T28 xs i).f0) ∧ w.cell? ⟨(ad.add (i.toNat * 3)).block, (ad.add (i.toNat * 3)).off + 1, none⟩ = some (.slice A1 (rd_T28 xs i).f1.length c1) ∧ w.cell? ⟨(ad.add (i.toNat * 3)).block, (ad.add (i.toNat * 3)).off + 2, none⟩ = some (.slice A2 (rd_T28 xs i).f2.length c2) ∧ (rd_T28 xs i).f1.length ≤ c1 ∧ k55.C w A1 (rd_T28 xs i).f1.length (rd_T28 xs i).f1 ∧ (rd_T28 xs i).f2.length ≤ c2 ∧ k82.C w A2 (rd_T28 xs i).f2.length (rd_T28 xs i).f2 := by
 obtain ⟨ad, c, e, _, hK, hc0⟩ := Kd.C_get h z28 i h0 h1
 have hc : ∀ j u, c[j]? = some u → w.cell? (ad.add (i.toNat * 3 + j)) = some u := hc0
 obtain ⟨A1, c1, A2, c2, rfl, l1, g1, l2, g2⟩ := k28_open hK
 exact ⟨ad, A1, c1, A2, c2, e, hc 0 _ rfl, by rw [← add_field _ _ 1 (by omega)]; exact hc 1 _ rfl, by rw [← add_field _ _ 2 (by omega)]; exact hc 2 _ rfl, l1, g1, l2, g2⟩
end Go.Proofs.YtbnlifldnjgpmaaGreatDoor.PWri
namespace Go.Proofs.YtbnlifldnjgpmaaGreatDoorW.PrintWords
open Go.RowKit
theorem kX {A B : Prop} (h : A) (f : A → B := by intro h; (with_reducible repeat (first | refine kDn ?_ _ | refine kDr ?_ | refine kAl ?_ _)); exact h) : B := f h
theorem bX {A B : Prop} (h : A) (f : A → B := by intro h; repeat (first | (with_reducible first | exact h | apply bAl | apply bDn | apply bD1 | refine bSe ?_ (Asd.out (by assumption))) | exact h)) : B := f h
theorem gX {P : Prop} (h : P := by (try simp only [List.map_toArray, List.map_cons, List.map_nil]); first | done | rfl | (simp only [List.length_drop, List.length_take]; rfl)) : P := h
theorem aX {P : Prop} (h : P := by first | (with_reducible assumption) | assumption) : P := h
theorem eX {P : Prop} (h : P := by first | rfl | (simp; done) | (simp only [i64_w, i32_w]; done) | (simp [i64_w, i32_w]; done) | (simp [*]; done)) : P := h
theorem kRX {A B : Prop} (h : A) (f : A → B := by intro h; (with_reducible repeat (first | apply Kd.R_alloc | apply Kd.R_drewN | apply Kd.R_drew)); exact h) : B := f h
theorem kSX {A B : Prop} (h : A) (f : A → B := by intro h; (with_reducible repeat (first | apply Kd.S_alloc | apply Kd.S_drewN | apply Kd.S_drew)); exact h) : B := f h
theorem kNX {A B : Prop} (h : A) (f : A → B := by intro h; (with_reducible repeat (first | apply Kd.N_alloc | apply Kd.N_drewN | apply Kd.N_drew)); exact h) : B := f h
theorem kVX {A B : Prop} (h : A) (f : A → B := by intro h; (with_reducible repeat (first | apply Kd.V_alloc | apply Kd.V_drewN | apply Kd.V_drew)); exact h) : B := f h
theorem fX {A B : Prop} (h : A) (f : A → B := by intro h; repeat (first | (with_reducible first | exact h | refine kDn ?_ _ | refine kDr ?_ | refine kAl ?_ _ | refine blk_far ?_ (Asd.out (by assumption)) _) | exact h)) : B := f h
theorem cX {A B C : Prop} (h : A) (b : B) (f : A → B → C := by intro h b; repeat (first | exact (Kd.C_below h (bX b)) | (with_reducible refine Kd.C_alloc ?_ _) | (with_reducible refine Kd.C_drewN ?_ _) | (with_reducible refine Kd.C_drew ?_))) : C := f h b
theorem rX {P : Prop} (h : P := by first | rfl | (simp [errW_none, errW_some] <;> rfl) | (simp [*, errW_none, errW_some] <;> rfl)) : P := h
theorem dX {P : Prop} (h : P := by repeat (first | exact Drawn2.refl _ | apply Drawn2.step)) : P := h
theorem zX {w W : World} {g : Nat} (hg : g = W.heap.size) (h : Below w.heap.size w W) : w.heap.size ≤ g := by rw [hg]; exact bSz h
theorem wX {P : Prop} (h : P := by first | exact ⟨rfl, _, World.drewN_drewN _ _ _⟩ | exact ⟨rfl, _, Eq.trans (World.drewN_drewN _ _ _) (congrArg (World.drewN _) (Nat.add_assoc _ _ _))⟩) : P := h
end Go.Proofs.YtbnlifldnjgpmaaGreatDoorW.PrintWords
