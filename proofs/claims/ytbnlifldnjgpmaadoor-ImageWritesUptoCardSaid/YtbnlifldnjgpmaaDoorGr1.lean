/- The library's functions that this seat calls, by the kit's contracts, under 'Glob': the tables of utf8 and unicode stand in the world as their initialisers laid them. 'Glob' follows from a row's list of variables (glob_of_laid), and stays while nothing below the heap's size is written. -/
import Derived.Test.YtbnlifldnjgpmaaDoorShelf
import Derived.Test.YtbnlifldnjgpmaaDoorRows
import Derived.WalkKit
import Derived.WalkMore
import Derived.Below
import Derived.Lib.LaidRTab
import Derived.Lib.LaidU8
import Derived.Lib.LaidIn
import Derived.Lib.LaidU8T
import Derived.Lib.Hide
import Derived.Lib.OthersKept
import Derived.Lib.RuneCount
import Derived.Deep.LoopGhost
import Derived.Test.YtbnlifldnjgpmaaDoorProg
import Derived.Test.YtbnlifldnjgpmaaDoorWds1
import Derived.Lib.AppendStr
import Derived.Deep.Draws
import Derived.Deep.AppendLies
import Derived.Maps.AppendAt
import Derived.OwnWalk
import Derived.Laws.BytesArg
import Derived.Laws.MakeOwn
import Derived.Laws.OwnMore
import Derived.Deep.OwnRows
import Derived.Tactics
import Derived.Lib.ConvBytes
import Derived.Laws.Slices
import Derived.KernelRfl
import Derived.RowKit3
import Derived.Deep.QuietTactic
import Derived.BigQuiet
import Derived.WideLaws
import Derived.Deep.DeepCutAuto
import Derived.Deep.CutBlock
import Derived.Deep.RegionHeld3
import Derived.Laws.Rows
import Derived.ArgAppend
import Derived.Laws.IdiomCopy
import Derived.OrdersHeld
import Derived.Laws.BitsLemmas
import Derived.RowKit
set_option linter.unusedVariables false
namespace Go.Proofs.YtbnlifldnjgpmaaDoor
open Go.RowKit Go.Lib Go.Shelf

def Glob (w : World) : Prop :=
  Lib.TabIs Tryd.prog w "unicode.properties" .u8 Lib.propertiesTab ∧ RVar (Tryd.laysLetter_ren.g 8) letterT w ∧ Lib.Utf8Tabs (Tryd.laysValid_ren.g 3) (Tryd.laysValid_ren.g 4) w
theorem Glob.step {w W : World} (h : Glob w) (hb : Below w.heap.size w W) : Glob W :=
  ⟨TabIs_below (g := Tryd.laysLetter_ren.g 7) (by kernel_rfl) h.1 hb, RVar_below h.2.1 hb, Utf8Tabs_below h.2.2 hb⟩
theorem valid_c (s : ByteArray) (w : World) (hs : s.size ≤ 9223372036854775807) (hG : Glob w) :
    Calls Tryd.prog 31 #[.string s] w fun e w' => e = .returned (.bool (Lib.validD s.data.toList)) ∧ Below w.heap.size w w' := Any.utf8_ValidString Tryd.laysValid s w hs hG.2.2
theorem count_c (s : ByteArray) (w : World) (hs : s.size < 9223372036854775807) :
    Calls Tryd.prog 32 #[.string s] w fun e w' => e = .returned (.int .i64 (Lib.runeCount s)) ∧ Below w.heap.size w w' := by
  have h := Any.utf8_RuneCountInString Tryd.laysCount s w hs
  refine Calls.mono h ?_
  rintro e w' ⟨he, pos, rfl⟩
  exact ⟨he, (Below.refl _ _).alloc (Nat.le_refl _) _⟩
theorem letter_c (r : Int) (w : World) (hlo : -2147483648 ≤ r) (hhi : r ≤ 2147483647) (hG : Glob w) :
    Calls Tryd.prog 33 #[.int .i32 r] w fun e w' => e = .returned (.bool (isLetterU r)) ∧ Below w.heap.size w w' :=
  Any.unicode_IsLetter_all Tryd.laysLetter (by kernel_rfl) r w hlo hhi hG.1 hG.2.1

/-! ### from a row's list -/
theorem xL : RExtra Tryd.prog Tryd.laysLetter_ren := ⟨by kernel_rfl, by kernel_rfl, by kernel_rfl, by kernel_rfl, by kernel_rfl, by kernel_rfl, by kernel_rfl, by kernel_rfl⟩
theorem d_accept : (Rows.laid_unicode_utf8_acceptRanges : DataW Unit) = Lib.acceptData := by kernel_rfl
theorem d_props : (Rows.laid_unicode_properties : DataW Unit) = Lib.tabData .u8 Lib.propertiesTab := by kernel_rfl
theorem d_letter : Rows.laid_unicode_Letter = Lib.rtabData Lib.letterT := by kernel_rfl
theorem d_first : Rows.laid_unicode_utf8_first = Lib.firstData := by kernel_rfl
/-- The list that the rows of this seat lay. -/
def theList : List (String × DataW Unit) := [("unicode/utf8.acceptRanges", Lib.acceptData), ("unicode.properties", Lib.tabData .u8 Lib.propertiesTab), ("unicode.Letter", Lib.rtabData Lib.letterT), ("unicode/utf8.first", Lib.firstData)]
theorem theList_eq : [("unicode/utf8.acceptRanges", (Rows.laid_unicode_utf8_acceptRanges : DataW Unit)), ("unicode.properties", Rows.laid_unicode_properties), ("unicode.Letter", Rows.laid_unicode_Letter), ("unicode/utf8.first", Rows.laid_unicode_utf8_first)] = theList := by
  rw [d_accept, d_props, d_letter, d_first]; rfl
theorem gProps : Tryd.prog.globalNamed "unicode.properties" = some 2 := by kernel_rfl
theorem gPropsType : (Tryd.prog.globals[2]?).map (·.type) = some 78 := by kernel_rfl
theorem cells5 : Tryd.prog.cellsOf 5 = 1 := by kernel_rfl
theorem cellsTab : Tryd.prog.cellsOf 78 = 256 := by kernel_rfl
/-- An array of integers that reads as these numbers, wherever it stands on the list. -/
theorem tabIs_of_reads {P : Program} {W : World} {name : String} {k : IntKind} {zs : List Int} {g : Nat} {t e : TypeId} {n : Nat}
    (hg : P.globalNamed name = some g) (hgt : (P.globals[g]?).map (·.type) = some t) (ht : P.underlying t = some (.array n e)) (he : P.underlying e = some (.int k)) (hce : P.cellsOf e = 1) (hct : P.cellsOf t = n)
    (h : VarReads P W name (Lib.tabData k zs)) : Lib.TabIs P W name k zs := by
  obtain ⟨g', t', cs, fuel, p, h1, h2, h3, h4⟩ := h
  rw [hg] at h1
  cases h1
  rw [hgt] at h2
  cases h2
  have := cells_of_tab ht he hce hct h4
  unfold Lib.TabIs
  rw [h3, ← this]
theorem glob_of_laid {W : World} (hL : laidMet Tryd.prog theList W) : Glob W :=
  ⟨tabIs_of_reads gProps gPropsType Tryd.underlying78 Tryd.underlying5 cells5 cellsTab (Lib.laidMet.reads hL (.tail _ (.head _))),
   rvar_of_reads { Tryd.laysLetter with } xL (by kernel_rfl) (by kernel_rfl) (Lib.laidMet.reads hL (.tail _ (.tail _ (.head _)))),
   utf8Tabs_of_readsT (U8Types.of196 Tryd.laysValid) ⟨by kernel_rfl, by kernel_rfl, by kernel_rfl, by kernel_rfl, by kernel_rfl, by kernel_rfl, by kernel_rfl⟩ (Lib.laidMet.reads hL (.tail _ (.tail _ (.tail _ (.head _))))) (Lib.laidMet.reads hL (.head _))⟩
end Go.Proofs.YtbnlifldnjgpmaaDoor

/- image.isName and anvilref02.Name both return 'nameB' of their text; premises: the library's tables stand as laid (Glob), the text is shorter than 2^63 - 1 bytes. -/
set_option linter.unusedVariables false
set_option linter.unusedSimpArgs false
namespace Go.Proofs.YtbnlifldnjgpmaaDoor
open Go.RowKit Go.Lib

/-- A rune that may stand in a name. -/
def okRune (first : Bool) (c : Nat) : Bool := isLetterU (c : Int) || decide (c = 95) || decide (c = 46) || (!first && (decide (c = 36) || (decide (48 ≤ c) && decide (c ≤ 57))))
def runesOk (s : ByteArray) : Nat → Nat → Bool
  | 0, _ => true
  | f + 1, pos => if pos < s.size then okRune (decide (pos = 0)) (Utf8.decode s pos).1 && runesOk s f (pos + (Utf8.decode s pos).2) else true
def nameB (s : ByteArray) : Bool := Lib.validD s.data.toList && (decide (Lib.runeCount s ≤ 40) && (decide (0 < s.size) && runesOk s s.size 0))
theorem runesOk_end (s : ByteArray) (f pos : Nat) (h : ¬ pos < s.size) : runesOk s f pos = true := by cases f <;> simp [runesOk, h]
theorem toList_len (s : ByteArray) : s.toList.length = s.size := by
  rw [Lib.toList_data, ← Lib.size_eq]
theorem notEmpty (s : ByteArray) (h : 0 < s.size) : s.toList.isEmpty = false := by
  cases e : s.toList with
  | nil => have := toList_len s; rw [e] at this; simp at this; omega
  | cons _ _ => rfl
theorem isEmpty_ (s : ByteArray) (h : ¬ 0 < s.size) : s.toList.isEmpty = true := by
  cases e : s.toList with
  | nil => rfl
  | cons _ _ => have := toList_len s; rw [e] at this; simp at this; omega
theorem isL_digit : ∀ c : Nat, 48 ≤ c → c ≤ 57 → isLetterU (c : Int) = false := by
  intro c h1 h2
  obtain rfl | rfl | rfl | rfl | rfl | rfl | rfl | rfl | rfl | rfl : c = 48 ∨ c = 49 ∨ c = 50 ∨ c = 51 ∨ c = 52 ∨ c = 53 ∨ c = 54 ∨ c = 55 ∨ c = 56 ∨ c = 57 := by omega
  all_goals decide +kernel
theorem isL_36 : isLetterU ((36 : Nat) : Int) = false := by decide +kernel

set_option maxHeartbeats 8000000 in
set_option maxRecDepth 1000000 in
theorem isName_calls (s : ByteArray) (w : World) (hs : s.size < 9223372036854775807) (hG : Glob w) :
    Calls Tryd.prog 14 #[.string s] w fun e w' => e = .returned (.bool (nameB s)) ∧ Below w.heap.size w w' := by
  have cV := valid_c s w (by omega) hG
  obtain ⟨ANS, hANS⟩ : ∃ ANS, nameB s = ANS := ⟨_, rfl⟩
  rw [hANS]
  unfold nameB at hANS
  have hcnt := Lib.runeCount_le s
  cases hv : Lib.validD s.data.toList
  · rw [hv] at hANS cV
    simp only [Bool.false_and] at hANS
    subst hANS
    clear hG
    go_enter Tryd.func14, Tryd.ntmps14
    go_wp2_with (go_at_call 31; refine cV.mono ?_; rintro e w' ⟨rfl, hb⟩)
    go_ret
    exact ⟨rfl, hb⟩
  · rw [hv] at hANS cV
    simp only [Bool.true_and] at hANS
    obtain ⟨N, hN⟩ : ∃ N, Lib.runeCount s = N := ⟨_, rfl⟩
    have cC := fun (w1 : World) => count_c s w1 hs
    rw [hN] at hANS hcnt cC
    clear hN hv
    by_cases h40 : N ≤ 40
    · have h40z : (N : Int) ≤ 40 := by omega
      simp only [h40, decide_true, Bool.true_and] at hANS
      by_cases h0 : 0 < s.size
      · have hne : s.toList.isEmpty = false := notEmpty s h0
        simp only [h0, decide_true, Bool.true_and] at hANS
        go_enter Tryd.func14, Tryd.ntmps14
        go_wp2_with (first | (go_at_call 31; refine cV.mono ?_; rintro e w1 ⟨rfl, hb1⟩) | (go_at_call 32; refine (cC _).mono ?_; rintro e w2 ⟨rfl, hb2⟩))
        have hG2 := Glob.step (Glob.step hG hb1) hb2
        have hb02 : Below w.heap.size w w2 := hb1.trans (hb2.mono hb1.size)
        clear hG cV cC
        go_loopg [] s.size (fun gf wx => ∃ pos : Nat, wx.heap[w2.heap.size]? = some (.stringIter s pos) ∧ Below w2.heap.size w2 wx ∧ runesOk s gf pos = ANS ∧ s.size ≤ pos + gf)
        case atStart => exact ⟨0, World.iter_heap w2 s 0, (Below.refl _ w2).alloc (Nat.le_refl _) _, hANS, by omega⟩
        case round =>
          obtain ⟨pos, hit, hbw, hleft, hfu⟩ := hrel
          by_cases hps : pos < s.size
          · obtain ⟨g', rfl⟩ : ∃ g', gk = g' + 1 := ⟨gk - 1, by omega⟩
            have hnx : ∀ ty, (Instr.next (.pointer (some ⟨w2.heap.size, 0, none⟩)) true ty).run Tryd.prog wr = _ := fun ty => Lib.run_next_any_at wr w2.heap.size s pos ty hit hps
            have hwd := Lib.decode_width_pos s pos hps
            have hRle := decode_le s pos
            obtain ⟨R, hR⟩ : ∃ R, (Utf8.decode s pos).1 = R := ⟨_, rfl⟩
            obtain ⟨K, hK⟩ : ∃ K, (Utf8.decode s pos).2 = K := ⟨_, rfl⟩
            simp only [runesOk, hps, if_true, hR, hK] at hleft
            rw [hR, hK] at hnx
            rw [hK] at hwd
            rw [hR] at hRle
            have hit2 := Lib.iterAt_heap wr w2.heap.size s pos (pos + K) hit
            have hbw2 := Lib.below_iterAt hbw (k := w2.heap.size) (Nat.le_refl _) s (pos + K)
            obtain ⟨W, hWd⟩ : ∃ W, wr.iterAt w2.heap.size s (pos + K) = W := ⟨_, rfl⟩
            rw [hWd] at hnx hit2 hbw2
            have hGW := Glob.step hG2 hbw2
            have cL := letter_c (R : Int) W (by omega) (by omega) hGW
            have hk : ∀ W', Below W.heap.size W W' → W'.heap[w2.heap.size]? = some (.stringIter s (pos + K)) := fun W' hb' => by
              rw [hb'.block _ (Array.getElem?_eq_some_iff.1 hit2).1]; exact hit2
            clear hG2 hGW hR hK hit hbw hWd
            have fin : ∀ W', Below W.heap.size W W' → Below w2.heap.size w2 W' := fun W' hb' => hbw2.trans (hb'.mono hbw2.size)
            have HK := Lib.hid hk
            have HF := Lib.hid fin
            clear hk fin hit2 hbw2
            cases hok : okRune (decide (pos = 0)) R <;> rw [hok] at hleft
            · -- no rune of a name: false
              simp only [Bool.false_and] at hleft
              have hl : isLetterU (R : Int) = false := by simp [okRune] at hok; exact hok.1.1.1
              have hc : R ≠ 95 ∧ R ≠ 46 ∧ ((pos = 0 ∧ R < 48) ∨ (pos = 0 ∧ 48 ≤ R ∧ R ≤ 57) ∨ (pos = 0 ∧ 57 < R) ∨ (0 < pos ∧ R ≠ 36 ∧ R < 48) ∨ (0 < pos ∧ R ≠ 36 ∧ 57 < R)) := by
                simp [okRune, hl] at hok
                omega
              clear hok
              rw [hl] at cL
              clear hl
              have HL := Lib.hid hleft
              clear hleft
              obtain ⟨h95, h46, ⟨rfl, h1⟩ | ⟨rfl, h1, h2⟩ | ⟨rfl, h1⟩ | ⟨hp, h1, h2⟩ | ⟨hp, h1, h2⟩⟩ := hc
              all_goals
                try have q95 : ((R : Int) != 95) = true := by (rw [bne_iff_ne]; omega)
                try have q46 : ((R : Int) != 46) = true := by (rw [bne_iff_ne]; omega)
                try have q36 : ((R : Int) != 36) = true := by (rw [bne_iff_ne]; omega)
                try have e36 : ((R : Int) == 36) = false := by (rw [beq_eq_false_iff_ne]; omega)
                try have g57 : decide ((R : Int) ≤ 57) = true := by (rw [decide_eq_true_iff]; omega)
                try have l57 : decide ((R : Int) ≤ 57) = false := by (rw [decide_eq_false_iff_not]; omega)
                try have z0 : ((pos : Int) == 0) = false := by (rw [beq_eq_false_iff_ne]; omega)
                go_wp2_with (go_at_call 33; refine cL.mono ?_; rintro e W3 ⟨rfl, hb3⟩)
                go_ret
                exact ⟨by rw [← HL.out]; rfl, hb02.trans ((HF.out _ hb3).mono hb02.size)⟩
            · -- a rune of a name: on
              simp only [Bool.true_and] at hleft
              have hc : (isLetterU (R : Int) = true ∧ (R < 48 ∨ (48 ≤ R ∧ R ≤ 57) ∨ 57 < R)) ∨ (isLetterU (R : Int) = false ∧ (R = 95 ∨ R = 46 ∨ (0 < pos ∧ R = 36) ∨ (0 < pos ∧ 48 ≤ R ∧ R ≤ 57))) := by
                cases hl : isLetterU (R : Int)
                · right
                  simp [okRune, hl] at hok
                  exact ⟨rfl, by omega⟩
                · exact .inl ⟨rfl, by omega⟩
              clear hok
              have HL := Lib.hid hleft
              clear hleft
              rcases hc with ⟨hl, h1 | ⟨h1, h2⟩ | h1⟩ | ⟨hl, rfl | rfl | ⟨hp, rfl⟩ | ⟨hp, h1, h2⟩⟩ <;> rw [hl] at cL <;> clear hl
              all_goals
                try have q95 : ((R : Int) != 95) = true := by (rw [bne_iff_ne]; omega)
                try have q46 : ((R : Int) != 46) = true := by (rw [bne_iff_ne]; omega)
                try have q36 : ((R : Int) != 36) = true := by (rw [bne_iff_ne]; omega)
                try have e36 : ((R : Int) == 36) = false := by (rw [beq_eq_false_iff_ne]; omega)
                try have g57 : decide ((R : Int) ≤ 57) = true := by (rw [decide_eq_true_iff]; omega)
                try have l57 : decide ((R : Int) ≤ 57) = false := by (rw [decide_eq_false_iff_not]; omega)
                try have z0 : ((pos : Int) == 0) = false := by (rw [beq_eq_false_iff_ne]; omega)
                go_wp2_with (go_at_call 33; refine cL.mono ?_; rintro e W3 ⟨rfl, hb3⟩)
                go_roundg g'
                case measure => omega
                case rel => exact ⟨_, HK.out _ hb3, HF.out _ hb3, HL.out, by omega⟩
          · have hnx : ∀ ty, (Instr.next (.pointer (some ⟨w2.heap.size, 0, none⟩)) true ty).run Tryd.prog wr = _ := fun ty => Lib.run_next_end_at wr w2.heap.size s pos ty hit hps
            rw [runesOk_end s gk pos hps] at hleft
            have HL := Lib.hid hleft
            clear hleft
            go_wp2
            go_ret
            exact ⟨by rw [← HL.out] <;> rfl, hb02.trans (hbw.mono hb02.size)⟩
      · have hne : s.toList.isEmpty = true := isEmpty_ s h0
        have hN0 : N = 0 := by omega
        simp only [h0, decide_false, Bool.false_and] at hANS
        subst hANS
        clear hG
        go_enter Tryd.func14, Tryd.ntmps14
        go_wp2_with (first | (go_at_call 31; refine cV.mono ?_; rintro e w1 ⟨rfl, hb1⟩) | (go_at_call 32; refine (cC _).mono ?_; rintro e w2 ⟨rfl, hb2⟩))
        go_ret
        exact ⟨rfl, hb1.trans (hb2.mono hb1.size)⟩
    · have h40z : (40 : Int) < (N : Int) := by omega
      simp only [h40, decide_false, Bool.false_and] at hANS
      subst hANS
      clear hG
      go_enter Tryd.func14, Tryd.ntmps14
      go_wp2_with (first | (go_at_call 31; refine cV.mono ?_; rintro e w1 ⟨rfl, hb1⟩) | (go_at_call 32; refine (cC _).mono ?_; rintro e w2 ⟨rfl, hb2⟩))
      go_ret
      exact ⟨rfl, hb1.trans (hb2.mono hb1.size)⟩

/-! ### anvilref02.Name -/
theorem runesOk_zero (s : ByteArray) (h : ¬ 0 < s.size) : Lib.runeCount s = 0 := by
  have := Lib.runeCount_le s; omega
set_option maxHeartbeats 8000000 in
set_option maxRecDepth 1000000 in
theorem Name_calls (s : ByteArray) (w : World) (hs : s.size < 9223372036854775807) (hG : Glob w) :
    Calls Tryd.prog 18 #[.string s] w fun e w' => e = .returned (.bool (nameB s)) ∧ Below w.heap.size w w' := by
  have cV := valid_c s w (by omega) hG
  obtain ⟨ANS, hANS⟩ : ∃ ANS, nameB s = ANS := ⟨_, rfl⟩
  rw [hANS]
  unfold nameB at hANS
  cases hv : Lib.validD s.data.toList
  · rw [hv] at hANS cV
    simp only [Bool.false_and] at hANS
    subst hANS
    clear hG
    go_enter Tryd.func18, Tryd.ntmps18
    go_wp2_with (go_at_call 31; refine cV.mono ?_; rintro e w' ⟨rfl, hb⟩)
    go_ret
    exact ⟨rfl, hb⟩
  · rw [hv] at hANS cV
    simp only [Bool.true_and] at hANS
    clear hv
    have hcnt := Lib.runeCount_le s
    have HA : Hid ((decide (Lib.runeCount s ≤ 40) && (decide (0 < s.size) && runesOk s s.size 0)) = ANS) := Lib.hid hANS
    clear hANS
    go_enter Tryd.func18, Tryd.ntmps18
    go_wp2_with (go_at_call 31; refine cV.mono ?_; rintro e w2 ⟨rfl, hb02⟩)
    have hG2 := Glob.step hG hb02
    clear hG cV
    go_loopg [3] s.size (fun gf n wx => ∃ pos acc : Nat, n = .int .i64 acc ∧ acc ≤ pos ∧ acc ≤ s.size ∧ (acc = 0 → pos = 0) ∧ wx.heap[w2.heap.size]? = some (.stringIter s pos) ∧ Below w2.heap.size w2 wx ∧ runesOk s gf pos = runesOk s s.size 0 ∧ acc + Lib.runeCountFrom s gf pos = Lib.runeCount s ∧ s.size ≤ pos + gf)
    case atStart => exact ⟨0, 0, rfl, Nat.le_refl _, Nat.zero_le _, fun _ => rfl, World.iter_heap w2 s 0, (Below.refl _ w2).alloc (Nat.le_refl _) _, rfl, by simp [Lib.runeCount], by omega⟩
    case round =>
      obtain ⟨pos, acc, rfl, hap, has, haz, hit, hbw, hleft, hcn, hfu⟩ := hrel
      by_cases hps : pos < s.size
      · obtain ⟨g', rfl⟩ : ∃ g', gk = g' + 1 := ⟨gk - 1, by omega⟩
        have hnx : ∀ ty, (Instr.next (.pointer (some ⟨w2.heap.size, 0, none⟩)) true ty).run Tryd.prog wr = _ := fun ty => Lib.run_next_any_at wr w2.heap.size s pos ty hit hps
        have hwd := Lib.decode_width_pos s pos hps
        have hRle := decode_le s pos
        obtain ⟨R, hR⟩ : ∃ R, (Utf8.decode s pos).1 = R := ⟨_, rfl⟩
        obtain ⟨K, hK⟩ : ∃ K, (Utf8.decode s pos).2 = K := ⟨_, rfl⟩
        simp only [runesOk, hps, if_true, hR, hK] at hleft
        simp only [Lib.runeCountFrom, hps, if_true, hK] at hcn
        have hacc : acc + 1 ≤ s.size := by omega
        rw [hR, hK] at hnx
        rw [hK] at hwd
        rw [hR] at hRle
        have hit2 := Lib.iterAt_heap wr w2.heap.size s pos (pos + K) hit
        have hbw2 := Lib.below_iterAt hbw (k := w2.heap.size) (Nat.le_refl _) s (pos + K)
        obtain ⟨W, hWd⟩ : ∃ W, wr.iterAt w2.heap.size s (pos + K) = W := ⟨_, rfl⟩
        rw [hWd] at hnx hit2 hbw2
        have hGW := Glob.step hG2 hbw2
        have cL := letter_c (R : Int) W (by omega) (by omega) hGW
        have hk : ∀ W', Below W.heap.size W W' → W'.heap[w2.heap.size]? = some (.stringIter s (pos + K)) := fun W' hb' => by
          rw [hb'.block _ (Array.getElem?_eq_some_iff.1 hit2).1]; exact hit2
        clear hG2 hGW hR hK hit hbw hWd
        have fin : ∀ W', Below W.heap.size W W' → Below w2.heap.size w2 W' := fun W' hb' => hbw2.trans (hb'.mono hbw2.size)
        have HK := Lib.hid hk
        have HF := Lib.hid fin
        have HN := Lib.hid hcn
        have HS : Hid (Below W.heap.size W W) := Lib.hid (Below.refl _ _)
        clear hk fin hit2 hbw2 hcn
        cases hok : okRune (decide (pos = 0)) R <;> rw [hok] at hleft
        · simp only [Bool.false_and] at hleft
          have hl : isLetterU (R : Int) = false := by simp [okRune] at hok; exact hok.1.1.1
          have hc : R ≠ 95 ∧ R ≠ 46 ∧ ((pos = 0 ∧ R < 48 ∧ R ≠ 36) ∨ (pos = 0 ∧ R = 36) ∨ (pos = 0 ∧ 48 ≤ R ∧ R ≤ 57) ∨ (pos = 0 ∧ 57 < R) ∨ (0 < pos ∧ R ≠ 36 ∧ R < 48) ∨ (0 < pos ∧ R ≠ 36 ∧ 57 < R)) := by
            simp [okRune, hl] at hok
            omega
          clear hok
          rw [hl] at cL
          clear hl
          have hfin : ANS = false := by rw [← HA.out, ← hleft]; simp
          have HL := Lib.hid hfin
          clear hleft hfin
          obtain ⟨h95, h46, ⟨rfl, h1, h36⟩ | ⟨rfl, rfl⟩ | ⟨rfl, h1, h2⟩ | ⟨rfl, h1⟩ | ⟨hp, h1, h2⟩ | ⟨hp, h1, h2⟩⟩ := hc
          all_goals
            try have q95 : ((R : Int) != 95) = true := by (rw [bne_iff_ne]; omega)
            try have q46 : ((R : Int) != 46) = true := by (rw [bne_iff_ne]; omega)
            try have q36 : ((R : Int) != 36) = true := by (rw [bne_iff_ne]; omega)
            try have e36 : ((R : Int) == 36) = false := by (rw [beq_eq_false_iff_ne]; omega)
            try have g57 : decide ((R : Int) ≤ 57) = true := by (rw [decide_eq_true_iff]; omega)
            try have l57 : decide ((R : Int) ≤ 57) = false := by (rw [decide_eq_false_iff_not]; omega)
            try have z0 : ((pos : Int) == 0) = false := by (rw [beq_eq_false_iff_ne]; omega)
            go_wp2_with (go_at_call 33; refine cL.mono ?_; rintro e W3 ⟨rfl, hb3⟩)
            go_ret
            exact ⟨by rw [HL.out]; rfl, hb02.trans ((HF.out _ (by first | assumption | exact HS.out)).mono hb02.size)⟩
        · simp only [Bool.true_and] at hleft
          have hc : (isLetterU (R : Int) = true ∧ R ≠ 36 ∧ (R < 48 ∨ 57 < R)) ∨ (isLetterU (R : Int) = false ∧ (R = 95 ∨ R = 46)) ∨ (0 < pos ∧ R = 36) ∨ (0 < pos ∧ 48 ≤ R ∧ R ≤ 57) := by
            cases hl : isLetterU (R : Int)
            · simp [okRune, hl] at hok
              have h3 : (R = 95 ∨ R = 46) ∨ (0 < pos ∧ R = 36) ∨ (0 < pos ∧ 48 ≤ R ∧ R ≤ 57) := by omega
              rcases h3 with h3 | h3
              · exact .inr (.inl ⟨rfl, h3⟩)
              · exact .inr (.inr h3)
            · have n36 : R ≠ 36 := fun e => by rw [e, isL_36] at hl; cases hl
              have nd : ¬ (48 ≤ R ∧ R ≤ 57) := fun ⟨a, b⟩ => by rw [isL_digit R a b] at hl; cases hl
              exact .inl ⟨rfl, n36, by omega⟩
          clear hok
          have HL := Lib.hid hleft
          clear hleft
          have HQ : Hid (acc = 0 → pos = 0) := Lib.hid haz
          clear haz
          rcases hc with ⟨hl, h36, h1 | h1⟩ | ⟨hl, rfl | rfl⟩ | ⟨hp, rfl⟩ | ⟨hp, h1, h2⟩
          all_goals (try (rw [isL_36] at cL))
          all_goals (try (rw [hl] at cL; clear hl))
          all_goals
            try have q95 : ((R : Int) != 95) = true := by (rw [bne_iff_ne]; omega)
            try have q46 : ((R : Int) != 46) = true := by (rw [bne_iff_ne]; omega)
            try have q36 : ((R : Int) != 36) = true := by (rw [bne_iff_ne]; omega)
            try have e36 : ((R : Int) == 36) = false := by (rw [beq_eq_false_iff_ne]; omega)
            try have g57 : decide ((R : Int) ≤ 57) = true := by (rw [decide_eq_true_iff]; omega)
            try have l57 : decide ((R : Int) ≤ 57) = false := by (rw [decide_eq_false_iff_not]; omega)
            try have z0 : ((pos : Int) == 0) = false := by (rw [beq_eq_false_iff_ne]; omega)
            go_wp2_with (go_at_call 33; refine cL.mono ?_; rintro e W3 ⟨rfl, hb3⟩)
            all_goals
              go_roundg g'
              case measure => omega
              case rel => exact ⟨_, acc + 1, by go_num, by omega, hacc, by omega, HK.out _ (by first | assumption | exact HS.out), HF.out _ (by first | assumption | exact HS.out), HL.out, by have := HN.out; omega, by omega⟩
      · have hnx : ∀ ty, (Instr.next (.pointer (some ⟨w2.heap.size, 0, none⟩)) true ty).run Tryd.prog wr = _ := fun ty => Lib.run_next_end_at wr w2.heap.size s pos ty hit hps
        rw [runesOk_end s gk pos hps] at hleft
        rw [Lib.runeCountFrom_end s gk pos hps] at hcn
        have hfin : ANS = (decide (acc ≤ 40) && decide (1 ≤ acc)) := by
          rw [← HA.out, ← hleft, Bool.and_true]
          have e1 : Lib.runeCount s = acc := by omega
          rw [e1]
          congr 1
          rw [decide_eq_decide]
          omega
        have HL := Lib.hid hfin
        clear hleft hcn haz hfin
        by_cases h1 : 1 ≤ acc
        · by_cases h2 : acc ≤ 40
          · have g40 : decide ((acc : Int) ≤ 40) = true := by (rw [decide_eq_true_iff]; omega)
            go_wp2
            go_ret
            exact ⟨by rw [HL.out]; simp [h1, h2], hb02.trans (hbw.mono hb02.size)⟩
          · have g40 : decide ((acc : Int) ≤ 40) = false := by (rw [decide_eq_false_iff_not]; omega)
            go_wp2
            go_ret
            exact ⟨by rw [HL.out]; simp [h1, h2], hb02.trans (hbw.mono hb02.size)⟩
        · go_wp2
          go_ret
          exact ⟨by rw [HL.out]; simp [h1], hb02.trans (hbw.mono hb02.size)⟩
end Go.Proofs.YtbnlifldnjgpmaaDoor

/- '>' on strings is '<' turned round (plain law; no premise), told to the walk. -/
namespace Go.Proofs.YtbnlifldnjgpmaaDoor
open Go.RowKit

theorem less_total : ∀ x y : List UInt8, (!(Op.bytesLess x y || x == y)) = Op.bytesLess y x
  | [], [] => by simp [Op.bytesLess]
  | [], _ :: _ => by simp [Op.bytesLess]
  | _ :: _, [] => by simp [Op.bytesLess]
  | a :: x, b :: y => by
    have ih := less_total x y
    simp only [Op.bytesLess]
    rw [← ih]
    by_cases h : a = b
    · subst h
      have : ¬ a < a := by simp
      simp [this]
    · have h2 : (b == a) = false := by simp; exact fun e => h e.symm
      have h3 : (a == b) = false := by simp [h]
      have h4 : (a :: x == b :: y) = false := by
        rw [beq_eq_false_iff_ne]; intro e; injection e with e _; exact h e
      rw [h2, h3, h4]
      simp only [Bool.false_and, Bool.or_false]
      have : (a < b) ↔ ¬ (b < a) := by
        simp only [UInt8.lt_iff_toNat_lt]
        have : a.toNat ≠ b.toNat := fun e => h (UInt8.toNat_inj.1 e)
        omega
      by_cases h5 : a < b
      · simp [h5, this.1 h5]
      · have h6 : b < a := by
          rcases Decidable.em (b < a) with h7 | h7
          · exact h7
          · exact absurd (this.2 h7) h5
        simp [h5, h6]
@[go_sem] theorem gtr_string (t : TypeId) (a b : ByteArray) : binOp .gtr t (.string a) (.string b) = pure (.bool (Op.bytesLess b.toList a.toList)) := by
  rw [← less_total]
  simp [binOp, Op.stringOp]
end Go.Proofs.YtbnlifldnjgpmaaDoor

/- An append of a string's bytes to a row of the call's own, with the place where the new row lies: so that rows beside it stay apart (the print's law for it tells no place). -/
set_option linter.unusedVariables false
set_option linter.unusedSimpArgs false
namespace Go.Proofs.YtbnlifldnjgpmaaDoor
open Go.RowKit Go.Lib Go.Proofs.YtbnlifldnjgpmaaDoorW.PrintWords

section
variable {P : Program}
theorem ownsRow_base {w : World} {b b' : Nat} {e : TypeId} {size n : Nat} {v : Value} {xs : List Value} (h : w.ownsRow b e size v n xs) (hb : b' ≤ b) : w.ownsRow b' e size v n xs := by
  refine ⟨h.1, ?_⟩
  rcases h.2 with hn | ⟨g, cap, cur, hv, hg, rest⟩
  · exact .inl hn
  · exact .inr ⟨g, cap, cur, hv, Nat.le_trans hb hg, rest⟩
theorem run_append_str_at (w : World) (base : Nat) (t u ty e : TypeId) (i : TypeInfo) (ht : P.underlying t = some (.slice e)) (hu : P.underlying u = some .string) (hi : P.info? e = some i) (hz : i.zero = some (.int .u8 0))
    (hsize : i.size = 1) (hby : i.bytes = 1) (v : Value) (n : Nat) (xs : List Value) (hown : w.ownsRow base e 1 v n xs) (s : ByteArray)
    (h63 : n + s.size ≤ maxLen) (hbytes : n + s.size ≤ 140737488355328) (hbase : base ≤ w.heap.size) :
    ∃ v' w', (Builtin.append_ #[t, u] ty #[v, .string s]).run P w = .ok v' w' ∧ w'.ownsRow base e 1 v' (n + s.size) (xs ++ strCells s) ∧ w.grownBy w' v.ownBlock ∧
      (v'.ownBlock = v.ownBlock ∨ ∃ b, v'.ownBlock = some b ∧ w.heap.size ≤ b) := by
  rcases hown.2 with ⟨rfl, rfl⟩ | ⟨g, cap, cur, rfl, hbg, hg, hnc, hcm, hcs, htake⟩
  · have hx : xs = [] := List.eq_nil_of_length_eq_zero (by simpa using hown.1)
    subst hx
    obtain ⟨v', w', hr, ho, hgr, _⟩ := run_append_own_string (P := P) w w.heap.size t u ty e i ht hu hi hz hsize hby (.slice none 0 0) 0 [] (World.ownsRow_nil w _ e 1) s h63 hbytes (Nat.le_refl _)
    refine ⟨v', w', hr, ownsRow_base ho hbase, hgr, ?_⟩
    rcases ho.2 with ⟨rfl, _⟩ | ⟨g, cap, cur, rfl, hbg, _⟩
    · exact .inl rfl
    · exact .inr ⟨g, rfl, hbg⟩
  · obtain ⟨v', w', hr, ho, hgr, _⟩ := run_append_own_string (P := P) w base t u ty e i ht hu hi hz hsize hby _ n xs hown s h63 hbytes hbase
    refine ⟨v', w', hr, ho, hgr, ?_⟩
    by_cases hroom : n + s.size ≤ cap
    · have h1 := run_append_room_string (P := P) w t u ty e i ht hu hi hsize g n cap cur hg s hroom (by omega)
      rw [h1] at hr
      cases hr
      exact .inl rfl
    · have hxl : xs.length = n := by simpa using hown.1
      simp only [maxLen] at h63
      have hcap : cap < n + s.size := by omega
      have h1 := run_append_grow_string (P := P) w t u ty e i (.int .u8 0) ht hu hi hz ⟨g, 0, none⟩ n cap xs (by rw [hsize, hxl, Nat.mul_one])
        (fun j v hv => by
          have := hown.cells (g := g) rfl j v hv
          exact this) s hcap (by omega) (by
            rw [hby, Nat.mul_one]
            have := nextslicecap_le hcap
            omega)
      rw [h1] at hr
      cases hr
      exact .inr ⟨_, rfl, Nat.le_refl _⟩
end
section
variable {P : Program} {ops : Array Oper} {rest : List Oper} {o : Oper} {a : Act} {Q : Exit → Act → World → Prop}
theorem R_append_str {w0 W : World} (base : Nat) (hgd : o.guard = none) (s x : Operand) (t u e : TypeId)
    (ho : o.op = .call { callee := .builtin .append, args := #[s, x], argTypes := #[t, u] })
    (ht : P.underlying t = some (.slice e)) (hu : P.underlying u = some .string) (hinfo : (P.info? e).map (fun i => (i.zero, i.size, i.bytes)) = some (some (.int .u8 0), 1, 1))
    (v : Value) (xs : List Int) (y : ByteArray) (ok : Nat → Prop) (hs : a.eval s = v) (hx : a.eval x = .string y)
    (HO : (Kd.int .u8).R e W base ok v xs) (hfresh : ∀ k, W.heap.size ≤ k → ok k) (HB : Below base w0 W) (hbase : base ≤ W.heap.size) (hl : xs.length + y.size ≤ 140737488355328)
    (h : ∀ v1 w1, (Kd.int .u8).R e w1 base ok v1 (xs ++ bytesOf y) → Below base w0 w1 → W.grownBy w1 v.ownBlock → (v1.ownBlock = v.ownBlock ∨ ∃ b, v1.ownBlock = some b ∧ W.heap.size ≤ b) → wpList P ops Q rest (a.put o.dst v1) w1) :
    wpList P ops Q (o :: rest) a W := by
  obtain ⟨i0, hi, hzz⟩ := Option.map_eq_some_iff.1 hinfo
  simp only [Prod.mk.injEq] at hzz
  obtain ⟨hz0, hz1, hz2⟩ := hzz
  have HW : W.ownsRow base e 1 v xs.length (nums .u8 xs) := Kd.own_of_R HO
  obtain ⟨v1, w1, hr, hown, hg, hat⟩ := run_append_str_at (P := P) W base t u o.type e i0 ht hu hi hz0 hz1 hz2 v xs.length (nums .u8 xs) HW y (by simp only [maxLen]; omega) hl hbase
  have hl2 : (xs ++ bytesOf y).length = xs.length + y.size := by rw [List.length_append, bytesOf_length]
  have hc : nums .u8 (xs ++ bytesOf y) = nums .u8 xs ++ Lib.strCells y := by
    rw [nums_append]
    congr 1
    simp [nums, bytesOf, Lib.strCells]
  rw [← hl2, ← hc] at hown
  refine wpList_plain hgd fun K hK => ?_
  unfold Oper.wp execOp
  simp only [ho, resolve, invoke, builtin, Sem.run_bind, Sem.run_pure, Result.andThen_ok, List.map_toArray, List.map_cons, List.map_nil, hs, hx, hr]
  refine hK _ _ (h v1 w1 (Kd.R_of_own (h1 := fun _ => rfl) hown (fun k hk => ?_)) (HB.grown hg hbase (own_base HW)) hg hat)
  rcases hat with hat | ⟨b, hb, hle⟩
  · exact HO.1 k (hat ▸ hk)
  · rw [hb] at hk
    cases hk
    exact hfresh _ hle
end
end Go.Proofs.YtbnlifldnjgpmaaDoor

-- BY PROGRAM of this session (the kit's printer, turned by wip/tools/patch_print.py). Lean checks it.
namespace Go.Proofs.YtbnlifldnjgpmaaDoor.PWri
open Go.RowKit Go.Proofs.YtbnlifldnjgpmaaDoorW.PrintWords Go.Proofs.YtbnlifldnjgpmaaDoorW.PrintLast Go.Proofs.YtbnlifldnjgpmaaDoorW.PrintMore
attribute [local go_sem] max2_int min2_int max_two min_two max_three min_three max_four min_four   -- for this text's walks alone
set_option linter.unusedVariables false
set_option linter.unusedSimpArgs false



def errW : Option Int → Value
  | none => .nilIface
  | some c => .iface 0 (.int .i64 c)
theorem errW_none : errW none = .nilIface := rfl
theorem errW_some (c : Int) : errW (some c) = .iface 0 (.int .i64 c) := rfl

theorem info3 : (Tryd.prog.info? 3).map (fun i => (i.zero, i.size, i.bytes)) = some (some (.int .i64 0), 1, 8) := by kernel_rfl
theorem info5 : (Tryd.prog.info? 5).map (fun i => (i.zero, i.size, i.bytes)) = some (some (.int .u8 0), 1, 1) := by kernel_rfl
theorem info41 : (Tryd.prog.info? 41).map (fun i => (i.zero, i.size, i.bytes)) = some (some (.agg #[(.int .u64 0), (.int .u64 0), (.int .i64 0), (.slice none 0 0)]), 4, 48) := by kernel_rfl
theorem info44 : (Tryd.prog.info? 44).map (fun i => (i.zero, i.size, i.bytes)) = some (some (.agg #[(.string ⟨#[]⟩), (.int .u64 0)]), 2, 24) := by kernel_rfl
-- the values' own types
def rd_L3 (xs : List (List Int)) (i : Int) : (List Int) := xs.getD i.toNat ([] : List Int)
theorem at_L3 {w : World} {A : Option Addr} {n : Nat} {xs : List (List Int)} (h : Kd.C (Kd.slice 5 (Kd.int .u8)) w A n xs) (i : Int) (h0 : 0 ≤ i) (h1 : i < n) : ∃ ad A0 c0, A = some ad ∧ w.cell? (ad.add i.toNat) = some (.slice A0 (rd_L3 xs i).length c0) ∧ (rd_L3 xs i).length ≤ c0 ∧ (Kd.int .u8).C w A0 (rd_L3 xs i).length (rd_L3 xs i) := by
  obtain ⟨ad, c, e, _, hK, hc0⟩ := Kd.C_get h ([] : List Int) i h0 h1
  have hc : ∀ j u, c[j]? = some u → w.cell? (ad.add (i.toNat * 1 + j)) = some u := hc0
  obtain ⟨A0, c0, rfl, l0, g0⟩ := hK
  exact ⟨ad, A0, c0, e, by have hq := hc 0 _ rfl; rwa [Nat.mul_one, Nat.add_zero] at hq, l0, g0⟩

/-! #### struct type 41 -/
structure S41 where
  f0 : Int
  f1 : Int
  f2 : Int
  f3 : (List Int)
def z41 : S41 := ⟨(0 : Int), (0 : Int), (0 : Int), ([] : List Int)⟩
def k41 : Kd S41 := Kd.iso (Kd.pair (Kd.int .u64) (Kd.pair (Kd.int .u64) (Kd.pair (Kd.int .i64) (Kd.slice 5 (Kd.int .u8))))) (fun x : S41 => (x.f0, x.f1, x.f2, x.f3))
theorem k41_heap : Kd.Heap k41 := Kd.heap_iso _ (Kd.heap_pair (Kd.heap_int .u64) (Kd.heap_pair (Kd.heap_int .u64) (Kd.heap_pair (Kd.heap_int .i64) (Kd.heap_slice 5 (Kd.heap_int .u8)))))
theorem k41_open {w : World} {x : S41} {cs : List Value} (h : k41.K w x cs) : ∃ A3 c3, cs = [.int .u64 x.f0, .int .u64 x.f1, .int .i64 x.f2, .slice A3 x.f3.length c3] ∧ x.f3.length ≤ c3 ∧ (Kd.int .u8).C w A3 x.f3.length x.f3 := by
  obtain ⟨_, _, rfl, rfl, ⟨_, _, rfl, rfl, ⟨_, _, rfl, rfl, ⟨A3, c3, rfl, l3, g3⟩⟩⟩⟩ := h
  exact ⟨A3, c3, rfl, l3, g3⟩
theorem k41_openM {w : World} {base : Nat} {ok : Nat → Prop} {x : S41} {cs : List Value} (h : k41.M w base ok x cs) : ∃ v3, cs = [.int .u64 x.f0, .int .u64 x.f1, .int .i64 x.f2, v3] ∧ (Kd.int .u8).R 5 w base ok v3 x.f3 := by
  obtain ⟨_, _, rfl, rfl, ⟨_, _, rfl, rfl, ⟨_, _, rfl, rfl, ⟨v3, rfl, g3⟩⟩⟩⟩ := h
  exact ⟨v3, rfl, g3⟩
theorem k41_mk (w : World) (x : S41) {A3 : Option Addr} {c3 : Nat} (l3 : x.f3.length ≤ c3) (g3 : (Kd.int .u8).C w A3 x.f3.length x.f3) : k41.K w x [.int .u64 x.f0, .int .u64 x.f1, .int .i64 x.f2, .slice A3 x.f3.length c3] := ⟨[.int .u64 x.f0], [.int .u64 x.f1, .int .i64 x.f2, .slice A3 x.f3.length c3], rfl, rfl, ⟨[.int .u64 x.f1], [.int .i64 x.f2, .slice A3 x.f3.length c3], rfl, rfl, ⟨[.int .i64 x.f2], [.slice A3 x.f3.length c3], rfl, rfl, ⟨A3, c3, rfl, l3, g3⟩⟩⟩⟩
theorem k41_mkM (w : World) (base : Nat) (ok : Nat → Prop) (x : S41) {v3 : Value} (g3 : (Kd.int .u8).R 5 w base ok v3 x.f3) : k41.M w base ok x [.int .u64 x.f0, .int .u64 x.f1, .int .i64 x.f2, v3] := ⟨[.int .u64 x.f0], [.int .u64 x.f1, .int .i64 x.f2, v3], rfl, rfl, ⟨[.int .u64 x.f1], [.int .i64 x.f2, v3], rfl, rfl, ⟨[.int .i64 x.f2], [v3], rfl, rfl, ⟨v3, rfl, g3⟩⟩⟩⟩
def rd_T41 (xs : List S41) (i : Int) : S41 := xs.getD i.toNat z41
theorem at_T41 {w : World} {A : Option Addr} {n : Nat} {xs : List S41} (h : Kd.C k41 w A n xs) (i : Int) (h0 : 0 ≤ i) (h1 : i < n) : ∃ ad A3 c3, A = some ad ∧ w.cell? (ad.add (i.toNat * 4)) = some (.int .u64 (rd_T41 xs i).f0) ∧ w.cell? ⟨(ad.add (i.toNat * 4)).block, (ad.add (i.toNat * 4)).off + 1, none⟩ = some (.int .u64 (rd_T41 xs i).f1) ∧ w.cell? ⟨(ad.add (i.toNat * 4)).block, (ad.add (i.toNat * 4)).off + 2, none⟩ = some (.int .i64 (rd_T41 xs i).f2) ∧ w.cell? ⟨(ad.add (i.toNat * 4)).block, (ad.add (i.toNat * 4)).off + 3, none⟩ = some (.slice A3 (rd_T41 xs i).f3.length c3) ∧ (rd_T41 xs i).f3.length ≤ c3 ∧ (Kd.int .u8).C w A3 (rd_T41 xs i).f3.length (rd_T41 xs i).f3 := by
  obtain ⟨ad, c, e, _, hK, hc0⟩ := Kd.C_get h z41 i h0 h1
  have hc : ∀ j u, c[j]? = some u → w.cell? (ad.add (i.toNat * 4 + j)) = some u := hc0
  obtain ⟨A3, c3, rfl, l3, g3⟩ := k41_open hK
  exact ⟨ad, A3, c3, e, hc 0 _ rfl, by rw [← add_field _ _ 1 (by omega)]; exact hc 1 _ rfl, by rw [← add_field _ _ 2 (by omega)]; exact hc 2 _ rfl, by rw [← add_field _ _ 3 (by omega)]; exact hc 3 _ rfl, l3, g3⟩

/-! #### struct type 44 -/
structure S44 where
  f0 : ByteArray
  f1 : Int
def z44 : S44 := ⟨(⟨#[]⟩ : ByteArray), (0 : Int)⟩
def k44 : Kd S44 := Kd.iso (Kd.pair Kd.string (Kd.int .u64)) (fun x : S44 => (x.f0, x.f1))
theorem k44_heap : Kd.Heap k44 := Kd.heap_iso _ (Kd.heap_pair Kd.heap_string (Kd.heap_int .u64))
theorem k44_open {w : World} {x : S44} {cs : List Value} (h : k44.K w x cs) : cs = [.string x.f0, .int .u64 x.f1] := by
  obtain ⟨_, _, rfl, rfl, rfl⟩ := h
  exact rfl
theorem k44_openM {w : World} {base : Nat} {ok : Nat → Prop} {x : S44} {cs : List Value} (h : k44.M w base ok x cs) : cs = [.string x.f0, .int .u64 x.f1] := by
  obtain ⟨_, _, rfl, rfl, rfl⟩ := h
  exact rfl
theorem k44_mk (w : World) (x : S44)  : k44.K w x [.string x.f0, .int .u64 x.f1] := ⟨[.string x.f0], [.int .u64 x.f1], rfl, rfl, rfl⟩
theorem k44_mkM (w : World) (base : Nat) (ok : Nat → Prop) (x : S44)  : k44.M w base ok x [.string x.f0, .int .u64 x.f1] := ⟨[.string x.f0], [.int .u64 x.f1], rfl, rfl, rfl⟩
def rd_T44 (xs : List S44) (i : Int) : S44 := xs.getD i.toNat z44
theorem at_T44 {w : World} {A : Option Addr} {n : Nat} {xs : List S44} (h : Kd.C k44 w A n xs) (i : Int) (h0 : 0 ≤ i) (h1 : i < n) : ∃ ad , A = some ad ∧ w.cell? (ad.add (i.toNat * 2)) = some (.string (rd_T44 xs i).f0) ∧ w.cell? ⟨(ad.add (i.toNat * 2)).block, (ad.add (i.toNat * 2)).off + 1, none⟩ = some (.int .u64 (rd_T44 xs i).f1) := by
  obtain ⟨ad, c, e, _, hK, hc0⟩ := Kd.C_get h z44 i h0 h1
  have hc : ∀ j u, c[j]? = some u → w.cell? (ad.add (i.toNat * 2 + j)) = some u := hc0
  obtain rfl := k44_open hK
  exact ⟨ad, e, hc 0 _ rfl, by rw [← add_field _ _ 1 (by omega)]; exact hc 1 _ rfl⟩

def rd_L8 (xs : List (List S41)) (i : Int) : (List S41) := xs.getD i.toNat ([] : List S41)
theorem at_L8 {w : World} {A : Option Addr} {n : Nat} {xs : List (List S41)} (h : Kd.C (Kd.slice 41 k41) w A n xs) (i : Int) (h0 : 0 ≤ i) (h1 : i < n) : ∃ ad A0 c0, A = some ad ∧ w.cell? (ad.add i.toNat) = some (.slice A0 (rd_L8 xs i).length c0) ∧ (rd_L8 xs i).length ≤ c0 ∧ k41.C w A0 (rd_L8 xs i).length (rd_L8 xs i) := by
  obtain ⟨ad, c, e, _, hK, hc0⟩ := Kd.C_get h ([] : List S41) i h0 h1
  have hc : ∀ j u, c[j]? = some u → w.cell? (ad.add (i.toNat * 1 + j)) = some u := hc0
  obtain ⟨A0, c0, rfl, l0, g0⟩ := hK
  exact ⟨ad, A0, c0, e, by have hq := hc 0 _ rfl; rwa [Nat.mul_one, Nat.add_zero] at hq, l0, g0⟩

def rd_L9 (xs : List (List S44)) (i : Int) : (List S44) := xs.getD i.toNat ([] : List S44)
theorem at_L9 {w : World} {A : Option Addr} {n : Nat} {xs : List (List S44)} (h : Kd.C (Kd.slice 44 k44) w A n xs) (i : Int) (h0 : 0 ≤ i) (h1 : i < n) : ∃ ad A0 c0, A = some ad ∧ w.cell? (ad.add i.toNat) = some (.slice A0 (rd_L9 xs i).length c0) ∧ (rd_L9 xs i).length ≤ c0 ∧ k44.C w A0 (rd_L9 xs i).length (rd_L9 xs i) := by
  obtain ⟨ad, c, e, _, hK, hc0⟩ := Kd.C_get h ([] : List S44) i h0 h1
  have hc : ∀ j u, c[j]? = some u → w.cell? (ad.add (i.toNat * 1 + j)) = some u := hc0
  obtain ⟨A0, c0, rfl, l0, g0⟩ := hK
  exact ⟨ad, A0, c0, e, by have hq := hc 0 _ rfl; rwa [Nat.mul_one, Nat.add_zero] at hq, l0, g0⟩

/-! #### struct type 26 -/
structure S26 where
  f0 : Int
  f1 : (List S41)
  f2 : (List S44)
def z26 : S26 := ⟨(0 : Int), ([] : List S41), ([] : List S44)⟩
def k26 : Kd S26 := Kd.iso (Kd.pair (Kd.int .u64) (Kd.pair (Kd.slice 41 k41) (Kd.slice 44 k44))) (fun x : S26 => (x.f0, x.f1, x.f2))
theorem k26_heap : Kd.Heap k26 := Kd.heap_iso _ (Kd.heap_pair (Kd.heap_int .u64) (Kd.heap_pair (Kd.heap_slice 41 k41_heap) (Kd.heap_slice 44 k44_heap)))
theorem k26_open {w : World} {x : S26} {cs : List Value} (h : k26.K w x cs) : ∃ A1 c1 A2 c2, cs = [.int .u64 x.f0, .slice A1 x.f1.length c1, .slice A2 x.f2.length c2] ∧ x.f1.length ≤ c1 ∧ k41.C w A1 x.f1.length x.f1 ∧ x.f2.length ≤ c2 ∧ k44.C w A2 x.f2.length x.f2 := by
  obtain ⟨_, _, rfl, rfl, ⟨_, _, rfl, ⟨A1, c1, rfl, l1, g1⟩, ⟨A2, c2, rfl, l2, g2⟩⟩⟩ := h
  exact ⟨A1, c1, A2, c2, rfl, l1, g1, l2, g2⟩
theorem k26_openM {w : World} {base : Nat} {ok : Nat → Prop} {x : S26} {cs : List Value} (h : k26.M w base ok x cs) : ∃ v1 v2, cs = [.int .u64 x.f0, v1, v2] ∧ k41.R 41 w base ok v1 x.f1 ∧ k44.R 44 w base ok v2 x.f2 := by
  obtain ⟨_, _, rfl, rfl, ⟨_, _, rfl, ⟨v1, rfl, g1⟩, ⟨v2, rfl, g2⟩⟩⟩ := h
  exact ⟨v1, v2, rfl, g1, g2⟩
theorem k26_mk (w : World) (x : S26) {A1 : Option Addr} {c1 : Nat} (l1 : x.f1.length ≤ c1) (g1 : k41.C w A1 x.f1.length x.f1) {A2 : Option Addr} {c2 : Nat} (l2 : x.f2.length ≤ c2) (g2 : k44.C w A2 x.f2.length x.f2) : k26.K w x [.int .u64 x.f0, .slice A1 x.f1.length c1, .slice A2 x.f2.length c2] := ⟨[.int .u64 x.f0], [.slice A1 x.f1.length c1, .slice A2 x.f2.length c2], rfl, rfl, ⟨[.slice A1 x.f1.length c1], [.slice A2 x.f2.length c2], rfl, ⟨A1, c1, rfl, l1, g1⟩, ⟨A2, c2, rfl, l2, g2⟩⟩⟩
theorem k26_mkM (w : World) (base : Nat) (ok : Nat → Prop) (x : S26) {v1 : Value} (g1 : k41.R 41 w base ok v1 x.f1) {v2 : Value} (g2 : k44.R 44 w base ok v2 x.f2) : k26.M w base ok x [.int .u64 x.f0, v1, v2] := ⟨[.int .u64 x.f0], [v1, v2], rfl, rfl, ⟨[v1], [v2], rfl, ⟨v1, rfl, g1⟩, ⟨v2, rfl, g2⟩⟩⟩
def rd_T26 (xs : List S26) (i : Int) : S26 := xs.getD i.toNat z26
theorem at_T26 {w : World} {A : Option Addr} {n : Nat} {xs : List S26} (h : Kd.C k26 w A n xs) (i : Int) (h0 : 0 ≤ i) (h1 : i < n) : ∃ ad A1 c1 A2 c2, A = some ad ∧ w.cell? (ad.add (i.toNat * 3)) = some (.int .u64 (rd_T26 xs i).f0) ∧ w.cell? ⟨(ad.add (i.toNat * 3)).block, (ad.add (i.toNat * 3)).off + 1, none⟩ = some (.slice A1 (rd_T26 xs i).f1.length c1) ∧ w.cell? ⟨(ad.add (i.toNat * 3)).block, (ad.add (i.toNat * 3)).off + 2, none⟩ = some (.slice A2 (rd_T26 xs i).f2.length c2) ∧ (rd_T26 xs i).f1.length ≤ c1 ∧ k41.C w A1 (rd_T26 xs i).f1.length (rd_T26 xs i).f1 ∧ (rd_T26 xs i).f2.length ≤ c2 ∧ k44.C w A2 (rd_T26 xs i).f2.length (rd_T26 xs i).f2 := by
  obtain ⟨ad, c, e, _, hK, hc0⟩ := Kd.C_get h z26 i h0 h1
  have hc : ∀ j u, c[j]? = some u → w.cell? (ad.add (i.toNat * 3 + j)) = some u := hc0
  obtain ⟨A1, c1, A2, c2, rfl, l1, g1, l2, g2⟩ := k26_open hK
  exact ⟨ad, A1, c1, A2, c2, e, hc 0 _ rfl, by rw [← add_field _ _ 1 (by omega)]; exact hc 1 _ rfl, by rw [← add_field _ _ 2 (by omega)]; exact hc 2 _ rfl, l1, g1, l2, g2⟩

end Go.Proofs.YtbnlifldnjgpmaaDoor.PWri
