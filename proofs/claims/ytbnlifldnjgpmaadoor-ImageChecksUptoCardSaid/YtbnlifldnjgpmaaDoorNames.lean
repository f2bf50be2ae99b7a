/- image.isName and anvilref02.Name both return 'nameB' of their text; premises: the library's tables stand as laid (Glob), the text is shorter than 2^63 - 1 bytes. -/
import Derived.Test.YtbnlifldnjgpmaaDoorLib
import Derived.Lib.OthersKept
import Derived.Lib.Hide
import Derived.Lib.RuneCount
import Derived.Deep.LoopGhost
set_option linter.unusedVariables false
set_option linter.unusedSimpArgs false
namespace Go.Proofs.YtbnlifldnjgpmaaDoor
open Go.RowKit Go.Lib

/-- A rune that may stand in a name. -/
def okRune (first : Bool) (c : Nat) : Bool := isLetterU (c : Int) || decide (c = 95) || decide (c = 46) || (!first && (decide (c = 36) || (decide (48 ≤ c) && decide (c ≤ 57))))
def runesOk (s : ByteArray) : Nat → Nat → Bool
  | 0, _ => true
  | f + 1, pos => if pos < s.size then okRune (decide (pos = 0)) (Utf8.decode s pos).1 && runesOk s f (pos + (Utf8.decode s pos).2) else true
def nameB (s : ByteArray) : Bool := Lib.validD s.data.toList && (decide (Lib.runeCount s ≤ 40) && (decide (0 < s.size) && runesOk s s.size 0))
theorem runesOk_end (s : ByteArray) (f pos : Nat) (h : ¬ pos < s.size) : runesOk s f pos = true := by cases f <;> simp [runesOk, h]
theorem toList_len (s : ByteArray) : s.toList.length = s.size := by
  rw [Lib.toList_data, ← Lib.size_eq]
theorem notEmpty (s : ByteArray) (h : 0 < s.size) : s.toList.isEmpty = false := by
  cases e : s.toList with
  | nil => have := toList_len s; rw [e] at this; simp at this; omega
  | cons _ _ => rfl
theorem isEmpty_ (s : ByteArray) (h : ¬ 0 < s.size) : s.toList.isEmpty = true := by
  cases e : s.toList with
  | nil => rfl
  | cons _ _ => have := toList_len s; rw [e] at this; simp at this; omega
theorem isL_digit : ∀ c : Nat, 48 ≤ c → c ≤ 57 → isLetterU (c : Int) = false := by
  intro c h1 h2
  obtain rfl | rfl | rfl | rfl | rfl | rfl | rfl | rfl | rfl | rfl : c = 48 ∨ c = 49 ∨ c = 50 ∨ c = 51 ∨ c = 52 ∨ c = 53 ∨ c = 54 ∨ c = 55 ∨ c = 56 ∨ c = 57 := by omega
  all_goals decide +kernel
theorem isL_36 : isLetterU ((36 : Nat) : Int) = false := by decide +kernel

set_option maxHeartbeats 8000000 in
set_option maxRecDepth 1000000 in
theorem isName_calls (s : ByteArray) (w : World) (hs : s.size < 9223372036854775807) (hG : Glob w) :
    Calls Tryd.prog 14 #[.string s] w fun e w' => e = .returned (.bool (nameB s)) ∧ Below w.heap.size w w' := by
  have cV := valid_c s w (by omega) hG
  obtain ⟨ANS, hANS⟩ : ∃ ANS, nameB s = ANS := ⟨_, rfl⟩
  rw [hANS]
  unfold nameB at hANS
  have hcnt := Lib.runeCount_le s
  cases hv : Lib.validD s.data.toList
  · rw [hv] at hANS cV
    simp only [Bool.false_and] at hANS
    subst hANS
    clear hG
    go_enter Tryd.func14, Tryd.ntmps14
    go_wp2_with (go_at_call 31; refine cV.mono ?_; rintro e w' ⟨rfl, hb⟩)
    go_ret
    exact ⟨rfl, hb⟩
  · rw [hv] at hANS cV
    simp only [Bool.true_and] at hANS
    obtain ⟨N, hN⟩ : ∃ N, Lib.runeCount s = N := ⟨_, rfl⟩
    have cC := fun (w1 : World) => count_c s w1 hs
    rw [hN] at hANS hcnt cC
    clear hN hv
    by_cases h40 : N ≤ 40
    · have h40z : (N : Int) ≤ 40 := by omega
      simp only [h40, decide_true, Bool.true_and] at hANS
      by_cases h0 : 0 < s.size
      · have hne : s.toList.isEmpty = false := notEmpty s h0
        simp only [h0, decide_true, Bool.true_and] at hANS
        go_enter Tryd.func14, Tryd.ntmps14
        go_wp2_with (first | (go_at_call 31; refine cV.mono ?_; rintro e w1 ⟨rfl, hb1⟩) | (go_at_call 32; refine (cC _).mono ?_; rintro e w2 ⟨rfl, hb2⟩))
        have hG2 := Glob.step (Glob.step hG hb1) hb2
        have hb02 : Below w.heap.size w w2 := hb1.trans (hb2.mono hb1.size)
        clear hG cV cC
        go_loopg [] s.size (fun gf wx => ∃ pos : Nat, wx.heap[w2.heap.size]? = some (.stringIter s pos) ∧ Below w2.heap.size w2 wx ∧ runesOk s gf pos = ANS ∧ s.size ≤ pos + gf)
        case atStart => exact ⟨0, World.iter_heap w2 s 0, (Below.refl _ w2).alloc (Nat.le_refl _) _, hANS, by omega⟩
        case round =>
          obtain ⟨pos, hit, hbw, hleft, hfu⟩ := hrel
          by_cases hps : pos < s.size
          · obtain ⟨g', rfl⟩ : ∃ g', gk = g' + 1 := ⟨gk - 1, by omega⟩
            have hnx : ∀ ty, (Instr.next (.pointer (some ⟨w2.heap.size, 0, none⟩)) true ty).run Tryd.prog wr = _ := fun ty => Lib.run_next_any_at wr w2.heap.size s pos ty hit hps
            have hwd := Lib.decode_width_pos s pos hps
            have hRle := decode_le s pos
            obtain ⟨R, hR⟩ : ∃ R, (Utf8.decode s pos).1 = R := ⟨_, rfl⟩
            obtain ⟨K, hK⟩ : ∃ K, (Utf8.decode s pos).2 = K := ⟨_, rfl⟩
            simp only [runesOk, hps, if_true, hR, hK] at hleft
            rw [hR, hK] at hnx
            rw [hK] at hwd
            rw [hR] at hRle
            have hit2 := Lib.iterAt_heap wr w2.heap.size s pos (pos + K) hit
            have hbw2 := Lib.below_iterAt hbw (k := w2.heap.size) (Nat.le_refl _) s (pos + K)
            obtain ⟨W, hWd⟩ : ∃ W, wr.iterAt w2.heap.size s (pos + K) = W := ⟨_, rfl⟩
            rw [hWd] at hnx hit2 hbw2
            have hGW := Glob.step hG2 hbw2
            have cL := letter_c (R : Int) W (by omega) (by omega) hGW
            have hk : ∀ W', Below W.heap.size W W' → W'.heap[w2.heap.size]? = some (.stringIter s (pos + K)) := fun W' hb' => by
              rw [hb'.block _ (Array.getElem?_eq_some_iff.1 hit2).1]; exact hit2
            clear hG2 hGW hR hK hit hbw hWd
            have fin : ∀ W', Below W.heap.size W W' → Below w2.heap.size w2 W' := fun W' hb' => hbw2.trans (hb'.mono hbw2.size)
            have HK := Lib.hid hk
            have HF := Lib.hid fin
            clear hk fin hit2 hbw2
            cases hok : okRune (decide (pos = 0)) R <;> rw [hok] at hleft
            · -- no rune of a name: false
              simp only [Bool.false_and] at hleft
              have hl : isLetterU (R : Int) = false := by simp [okRune] at hok; exact hok.1.1.1
              have hc : R ≠ 95 ∧ R ≠ 46 ∧ ((pos = 0 ∧ R < 48) ∨ (pos = 0 ∧ 48 ≤ R ∧ R ≤ 57) ∨ (pos = 0 ∧ 57 < R) ∨ (0 < pos ∧ R ≠ 36 ∧ R < 48) ∨ (0 < pos ∧ R ≠ 36 ∧ 57 < R)) := by
                simp [okRune, hl] at hok
                omega
              clear hok
              rw [hl] at cL
              clear hl
              have HL := Lib.hid hleft
              clear hleft
              obtain ⟨h95, h46, ⟨rfl, h1⟩ | ⟨rfl, h1, h2⟩ | ⟨rfl, h1⟩ | ⟨hp, h1, h2⟩ | ⟨hp, h1, h2⟩⟩ := hc
              all_goals
                try have q95 : ((R : Int) != 95) = true := by (rw [bne_iff_ne]; omega)
                try have q46 : ((R : Int) != 46) = true := by (rw [bne_iff_ne]; omega)
                try have q36 : ((R : Int) != 36) = true := by (rw [bne_iff_ne]; omega)
                try have e36 : ((R : Int) == 36) = false := by (rw [beq_eq_false_iff_ne]; omega)
                try have g57 : decide ((R : Int) ≤ 57) = true := by (rw [decide_eq_true_iff]; omega)
                try have l57 : decide ((R : Int) ≤ 57) = false := by (rw [decide_eq_false_iff_not]; omega)
                try have z0 : ((pos : Int) == 0) = false := by (rw [beq_eq_false_iff_ne]; omega)
                go_wp2_with (go_at_call 33; refine cL.mono ?_; rintro e W3 ⟨rfl, hb3⟩)
                go_ret
                exact ⟨by rw [← HL.out]; rfl, hb02.trans ((HF.out _ hb3).mono hb02.size)⟩
            · -- a rune of a name: on
              simp only [Bool.true_and] at hleft
              have hc : (isLetterU (R : Int) = true ∧ (R < 48 ∨ (48 ≤ R ∧ R ≤ 57) ∨ 57 < R)) ∨ (isLetterU (R : Int) = false ∧ (R = 95 ∨ R = 46 ∨ (0 < pos ∧ R = 36) ∨ (0 < pos ∧ 48 ≤ R ∧ R ≤ 57))) := by
                cases hl : isLetterU (R : Int)
                · right
                  simp [okRune, hl] at hok
                  exact ⟨rfl, by omega⟩
                · exact .inl ⟨rfl, by omega⟩
              clear hok
              have HL := Lib.hid hleft
              clear hleft
              rcases hc with ⟨hl, h1 | ⟨h1, h2⟩ | h1⟩ | ⟨hl, rfl | rfl | ⟨hp, rfl⟩ | ⟨hp, h1, h2⟩⟩ <;> rw [hl] at cL <;> clear hl
              all_goals
                try have q95 : ((R : Int) != 95) = true := by (rw [bne_iff_ne]; omega)
                try have q46 : ((R : Int) != 46) = true := by (rw [bne_iff_ne]; omega)
                try have q36 : ((R : Int) != 36) = true := by (rw [bne_iff_ne]; omega)
                try have e36 : ((R : Int) == 36) = false := by (rw [beq_eq_false_iff_ne]; omega)
                try have g57 : decide ((R : Int) ≤ 57) = true := by (rw [decide_eq_true_iff]; omega)
                try have l57 : decide ((R : Int) ≤ 57) = false := by (rw [decide_eq_false_iff_not]; omega)
                try have z0 : ((pos : Int) == 0) = false := by (rw [beq_eq_false_iff_ne]; omega)
                go_wp2_with (go_at_call 33; refine cL.mono ?_; rintro e W3 ⟨rfl, hb3⟩)
                go_roundg g'
                case measure => omega
                case rel => exact ⟨_, HK.out _ hb3, HF.out _ hb3, HL.out, by omega⟩
          · have hnx : ∀ ty, (Instr.next (.pointer (some ⟨w2.heap.size, 0, none⟩)) true ty).run Tryd.prog wr = _ := fun ty => Lib.run_next_end_at wr w2.heap.size s pos ty hit hps
            rw [runesOk_end s gk pos hps] at hleft
            have HL := Lib.hid hleft
            clear hleft
            go_wp2
            go_ret
            exact ⟨by rw [← HL.out] <;> rfl, hb02.trans (hbw.mono hb02.size)⟩
      · have hne : s.toList.isEmpty = true := isEmpty_ s h0
        have hN0 : N = 0 := by omega
        simp only [h0, decide_false, Bool.false_and] at hANS
        subst hANS
        clear hG
        go_enter Tryd.func14, Tryd.ntmps14
        go_wp2_with (first | (go_at_call 31; refine cV.mono ?_; rintro e w1 ⟨rfl, hb1⟩) | (go_at_call 32; refine (cC _).mono ?_; rintro e w2 ⟨rfl, hb2⟩))
        go_ret
        exact ⟨rfl, hb1.trans (hb2.mono hb1.size)⟩
    · have h40z : (40 : Int) < (N : Int) := by omega
      simp only [h40, decide_false, Bool.false_and] at hANS
      subst hANS
      clear hG
      go_enter Tryd.func14, Tryd.ntmps14
      go_wp2_with (first | (go_at_call 31; refine cV.mono ?_; rintro e w1 ⟨rfl, hb1⟩) | (go_at_call 32; refine (cC _).mono ?_; rintro e w2 ⟨rfl, hb2⟩))
      go_ret
      exact ⟨rfl, hb1.trans (hb2.mono hb1.size)⟩

/-! ### anvilref02.Name -/
theorem runesOk_zero (s : ByteArray) (h : ¬ 0 < s.size) : Lib.runeCount s = 0 := by
  have := Lib.runeCount_le s; omega
set_option maxHeartbeats 8000000 in
set_option maxRecDepth 1000000 in
theorem Name_calls (s : ByteArray) (w : World) (hs : s.size < 9223372036854775807) (hG : Glob w) :
    Calls Tryd.prog 18 #[.string s] w fun e w' => e = .returned (.bool (nameB s)) ∧ Below w.heap.size w w' := by
  have cV := valid_c s w (by omega) hG
  obtain ⟨ANS, hANS⟩ : ∃ ANS, nameB s = ANS := ⟨_, rfl⟩
  rw [hANS]
  unfold nameB at hANS
  cases hv : Lib.validD s.data.toList
  · rw [hv] at hANS cV
    simp only [Bool.false_and] at hANS
    subst hANS
    clear hG
    go_enter Tryd.func18, Tryd.ntmps18
    go_wp2_with (go_at_call 31; refine cV.mono ?_; rintro e w' ⟨rfl, hb⟩)
    go_ret
    exact ⟨rfl, hb⟩
  · rw [hv] at hANS cV
    simp only [Bool.true_and] at hANS
    clear hv
    have hcnt := Lib.runeCount_le s
    have HA : Hid ((decide (Lib.runeCount s ≤ 40) && (decide (0 < s.size) && runesOk s s.size 0)) = ANS) := Lib.hid hANS
    clear hANS
    go_enter Tryd.func18, Tryd.ntmps18
    go_wp2_with (go_at_call 31; refine cV.mono ?_; rintro e w2 ⟨rfl, hb02⟩)
    have hG2 := Glob.step hG hb02
    clear hG cV
    go_loopg [3] s.size (fun gf n wx => ∃ pos acc : Nat, n = .int .i64 acc ∧ acc ≤ pos ∧ acc ≤ s.size ∧ (acc = 0 → pos = 0) ∧ wx.heap[w2.heap.size]? = some (.stringIter s pos) ∧ Below w2.heap.size w2 wx ∧ runesOk s gf pos = runesOk s s.size 0 ∧ acc + Lib.runeCountFrom s gf pos = Lib.runeCount s ∧ s.size ≤ pos + gf)
    case atStart => exact ⟨0, 0, rfl, Nat.le_refl _, Nat.zero_le _, fun _ => rfl, World.iter_heap w2 s 0, (Below.refl _ w2).alloc (Nat.le_refl _) _, rfl, by simp [Lib.runeCount], by omega⟩
    case round =>
      obtain ⟨pos, acc, rfl, hap, has, haz, hit, hbw, hleft, hcn, hfu⟩ := hrel
      by_cases hps : pos < s.size
      · obtain ⟨g', rfl⟩ : ∃ g', gk = g' + 1 := ⟨gk - 1, by omega⟩
        have hnx : ∀ ty, (Instr.next (.pointer (some ⟨w2.heap.size, 0, none⟩)) true ty).run Tryd.prog wr = _ := fun ty => Lib.run_next_any_at wr w2.heap.size s pos ty hit hps
        have hwd := Lib.decode_width_pos s pos hps
        have hRle := decode_le s pos
        obtain ⟨R, hR⟩ : ∃ R, (Utf8.decode s pos).1 = R := ⟨_, rfl⟩
        obtain ⟨K, hK⟩ : ∃ K, (Utf8.decode s pos).2 = K := ⟨_, rfl⟩
        simp only [runesOk, hps, if_true, hR, hK] at hleft
        simp only [Lib.runeCountFrom, hps, if_true, hK] at hcn
        have hacc : acc + 1 ≤ s.size := by omega
        rw [hR, hK] at hnx
        rw [hK] at hwd
        rw [hR] at hRle
        have hit2 := Lib.iterAt_heap wr w2.heap.size s pos (pos + K) hit
        have hbw2 := Lib.below_iterAt hbw (k := w2.heap.size) (Nat.le_refl _) s (pos + K)
        obtain ⟨W, hWd⟩ : ∃ W, wr.iterAt w2.heap.size s (pos + K) = W := ⟨_, rfl⟩
        rw [hWd] at hnx hit2 hbw2
        have hGW := Glob.step hG2 hbw2
        have cL := letter_c (R : Int) W (by omega) (by omega) hGW
        have hk : ∀ W', Below W.heap.size W W' → W'.heap[w2.heap.size]? = some (.stringIter s (pos + K)) := fun W' hb' => by
          rw [hb'.block _ (Array.getElem?_eq_some_iff.1 hit2).1]; exact hit2
        clear hG2 hGW hR hK hit hbw hWd
        have fin : ∀ W', Below W.heap.size W W' → Below w2.heap.size w2 W' := fun W' hb' => hbw2.trans (hb'.mono hbw2.size)
        have HK := Lib.hid hk
        have HF := Lib.hid fin
        have HN := Lib.hid hcn
        have HS : Hid (Below W.heap.size W W) := Lib.hid (Below.refl _ _)
        clear hk fin hit2 hbw2 hcn
        cases hok : okRune (decide (pos = 0)) R <;> rw [hok] at hleft
        · simp only [Bool.false_and] at hleft
          have hl : isLetterU (R : Int) = false := by simp [okRune] at hok; exact hok.1.1.1
          have hc : R ≠ 95 ∧ R ≠ 46 ∧ ((pos = 0 ∧ R < 48 ∧ R ≠ 36) ∨ (pos = 0 ∧ R = 36) ∨ (pos = 0 ∧ 48 ≤ R ∧ R ≤ 57) ∨ (pos = 0 ∧ 57 < R) ∨ (0 < pos ∧ R ≠ 36 ∧ R < 48) ∨ (0 < pos ∧ R ≠ 36 ∧ 57 < R)) := by
            simp [okRune, hl] at hok
            omega
          clear hok
          rw [hl] at cL
          clear hl
          have hfin : ANS = false := by rw [← HA.out, ← hleft]; simp
          have HL := Lib.hid hfin
          clear hleft hfin
          obtain ⟨h95, h46, ⟨rfl, h1, h36⟩ | ⟨rfl, rfl⟩ | ⟨rfl, h1, h2⟩ | ⟨rfl, h1⟩ | ⟨hp, h1, h2⟩ | ⟨hp, h1, h2⟩⟩ := hc
          all_goals
            try have q95 : ((R : Int) != 95) = true := by (rw [bne_iff_ne]; omega)
            try have q46 : ((R : Int) != 46) = true := by (rw [bne_iff_ne]; omega)
            try have q36 : ((R : Int) != 36) = true := by (rw [bne_iff_ne]; omega)
            try have e36 : ((R : Int) == 36) = false := by (rw [beq_eq_false_iff_ne]; omega)
            try have g57 : decide ((R : Int) ≤ 57) = true := by (rw [decide_eq_true_iff]; omega)
            try have l57 : decide ((R : Int) ≤ 57) = false := by (rw [decide_eq_false_iff_not]; omega)
            try have z0 : ((pos : Int) == 0) = false := by (rw [beq_eq_false_iff_ne]; omega)
            go_wp2_with (go_at_call 33; refine cL.mono ?_; rintro e W3 ⟨rfl, hb3⟩)
            go_ret
            exact ⟨by rw [HL.out]; rfl, hb02.trans ((HF.out _ (by first | assumption | exact HS.out)).mono hb02.size)⟩
        · simp only [Bool.true_and] at hleft
          have hc : (isLetterU (R : Int) = true ∧ R ≠ 36 ∧ (R < 48 ∨ 57 < R)) ∨ (isLetterU (R : Int) = false ∧ (R = 95 ∨ R = 46)) ∨ (0 < pos ∧ R = 36) ∨ (0 < pos ∧ 48 ≤ R ∧ R ≤ 57) := by
            cases hl : isLetterU (R : Int)
            · simp [okRune, hl] at hok
              have h3 : (R = 95 ∨ R = 46) ∨ (0 < pos ∧ R = 36) ∨ (0 < pos ∧ 48 ≤ R ∧ R ≤ 57) := by omega
              rcases h3 with h3 | h3
              · exact .inr (.inl ⟨rfl, h3⟩)
              · exact .inr (.inr h3)
            · have n36 : R ≠ 36 := fun e => by rw [e, isL_36] at hl; cases hl
              have nd : ¬ (48 ≤ R ∧ R ≤ 57) := fun ⟨a, b⟩ => by rw [isL_digit R a b] at hl; cases hl
              exact .inl ⟨rfl, n36, by omega⟩
          clear hok
          have HL := Lib.hid hleft
          clear hleft
          have HQ : Hid (acc = 0 → pos = 0) := Lib.hid haz
          clear haz
          rcases hc with ⟨hl, h36, h1 | h1⟩ | ⟨hl, rfl | rfl⟩ | ⟨hp, rfl⟩ | ⟨hp, h1, h2⟩
          all_goals (try (rw [isL_36] at cL))
          all_goals (try (rw [hl] at cL; clear hl))
          all_goals
            try have q95 : ((R : Int) != 95) = true := by (rw [bne_iff_ne]; omega)
            try have q46 : ((R : Int) != 46) = true := by (rw [bne_iff_ne]; omega)
            try have q36 : ((R : Int) != 36) = true := by (rw [bne_iff_ne]; omega)
            try have e36 : ((R : Int) == 36) = false := by (rw [beq_eq_false_iff_ne]; omega)
            try have g57 : decide ((R : Int) ≤ 57) = true := by (rw [decide_eq_true_iff]; omega)
            try have l57 : decide ((R : Int) ≤ 57) = false := by (rw [decide_eq_false_iff_not]; omega)
            try have z0 : ((pos : Int) == 0) = false := by (rw [beq_eq_false_iff_ne]; omega)
            go_wp2_with (go_at_call 33; refine cL.mono ?_; rintro e W3 ⟨rfl, hb3⟩)
            all_goals
              go_roundg g'
              case measure => omega
              case rel => exact ⟨_, acc + 1, by go_num, by omega, hacc, by omega, HK.out _ (by first | assumption | exact HS.out), HF.out _ (by first | assumption | exact HS.out), HL.out, by have := HN.out; omega, by omega⟩
      · have hnx : ∀ ty, (Instr.next (.pointer (some ⟨w2.heap.size, 0, none⟩)) true ty).run Tryd.prog wr = _ := fun ty => Lib.run_next_end_at wr w2.heap.size s pos ty hit hps
        rw [runesOk_end s gk pos hps] at hleft
        rw [Lib.runeCountFrom_end s gk pos hps] at hcn
        have hfin : ANS = (decide (acc ≤ 40) && decide (1 ≤ acc)) := by
          rw [← HA.out, ← hleft, Bool.and_true]
          have e1 : Lib.runeCount s = acc := by omega
          rw [e1]
          congr 1
          rw [decide_eq_decide]
          omega
        have HL := Lib.hid hfin
        clear hleft hcn haz hfin
        by_cases h1 : 1 ≤ acc
        · by_cases h2 : acc ≤ 40
          · have g40 : decide ((acc : Int) ≤ 40) = true := by (rw [decide_eq_true_iff]; omega)
            go_wp2
            go_ret
            exact ⟨by rw [HL.out]; simp [h1, h2], hb02.trans (hbw.mono hb02.size)⟩
          · have g40 : decide ((acc : Int) ≤ 40) = false := by (rw [decide_eq_false_iff_not]; omega)
            go_wp2
            go_ret
            exact ⟨by rw [HL.out]; simp [h1, h2], hb02.trans (hbw.mono hb02.size)⟩
        · go_wp2
          go_ret
          exact ⟨by rw [HL.out]; simp [h1], hb02.trans (hbw.mono hb02.size)⟩
end Go.Proofs.YtbnlifldnjgpmaaDoor
